/- The library's slices.IndexFunc and slices.ContainsFunc at each element type that the program uses them at, for a function value that may carry a state. -/
import Derived.Test.YthjhkbnajclcjaaBase
namespace Go.Proofs.Ythjhkbnajclcjaa
open Go.RowKit

set_option maxHeartbeats 1000000 in
theorem indexFunc_Part {σ α : Type} (d : Kind α) (hd : d.sz = 5) (Inv : σ → World → Prop) (step : σ → α → Bool × σ) (g : FuncId) (lb : Array Value)
    (eg : ∀ args w, (callFunc g args).run Try.prog w = .ok (.enter g args) w) (v : Value) (xs : List α)
    (hrow : ∀ s W, Inv s W → d.Sl W v xs)
    (hp : ∀ s W x c0 c1 c2 c3 c4, x ∈ xs → d.K W x [c0, c1, c2, c3, c4] → Inv s W → Calls Try.prog g (#[.agg #[c0, c1, c2, c3, c4]] ++ lb) W fun e w' => e = .returned (.bool (step s x).1) ∧ Inv (step s x).2 w')
    (s0 : σ) (w : World) (h0 : Inv s0 w) :
    Calls Try.prog 179 #[v, .func (.func g) #[] lb] w fun e w' => e = .returned (.int .i64 (idxL step xs 0 s0).1) ∧ Inv (idxL step xs 0 s0).2 w' := by
  obtain ⟨A, b, o, c, rfl, hc1, hc2, hA, hrows⟩ := (hrow s0 w h0).form
  have HR := hide fun s W h => hrows W (hrow s W h); clear hrow hrows
  have HP := hide hp; clear hp
  have H0 := hide h0; clear h0
  go_enter Try.func179, Try.ntmps179
  go_wp2
  go_loopw [8] (fun i W => ∃ (k : Nat) (s : σ), k ≤ xs.length ∧ i = .int .i64 k ∧ Hid (Inv s W) ∧ Hid (idxL step (xs.drop k) k s = idxL step xs 0 s0)) (fun i _ => xs.length - (intOf i).toNat)
  case atStart => exact ⟨0, s0, Nat.zero_le _, rfl, H0, hide rfl⟩
  case round =>
    obtain ⟨k, s, hk, rfl, HI, HE⟩ := hrel
    by_cases hlt : k < xs.length
    · obtain ⟨c0, c1, c2, c3, c4, HK, hc_0, hc_1, hc_2, hc_3, hc_4⟩ := (HR.out s _ HI.out).get5 hd hlt
      have HK := hide HK
      have hcon := hide (HP.out s _ xs[k] c0 c1 c2 c3 c4 (List.getElem_mem hlt) HK.out HI.out)
      have HS := hide (show idxL step (xs.drop k) k s = if (step s xs[k]).1 then ((k : Int), (step s xs[k]).2) else idxL step (xs.drop (k + 1)) (k + 1) (step s xs[k]).2 by rw [drop_cons hlt]; rfl)
      rw [hA (by omega)]
      generalize step s xs[k] = r at hcon HS
      obtain ⟨r1, r2⟩ := r
      cases r1
      · go_wp2_with ((with_reducible refine (Hid.out hcon).mono ?_); rintro e w' ⟨rfl, hi⟩)
        exact ⟨⟨k + 1, r2, by omega, by go_num, hide hi, hide (HS.out.symm.trans HE.out)⟩, by simp [intOf]; omega⟩
      · go_wp2_with ((with_reducible refine (Hid.out hcon).mono ?_); rintro e w' ⟨rfl, hi⟩)
        go_ret
        rw [← HE.out, HS.out]
        exact ⟨rfl, hi⟩
    · obtain rfl : k = xs.length := by omega
      have HE' := hide HE.out
      go_wp2
      go_ret
      rw [← HE'.out, List.drop_length]
      exact ⟨rfl, HI.out⟩
set_option maxHeartbeats 1000000 in
theorem indexFunc_Window {σ α : Type} (d : Kind α) (hd : d.sz = 4) (Inv : σ → World → Prop) (step : σ → α → Bool × σ) (g : FuncId) (lb : Array Value)
    (eg : ∀ args w, (callFunc g args).run Try.prog w = .ok (.enter g args) w) (v : Value) (xs : List α)
    (hrow : ∀ s W, Inv s W → d.Sl W v xs)
    (hp : ∀ s W x c0 c1 c2 c3, x ∈ xs → d.K W x [c0, c1, c2, c3] → Inv s W → Calls Try.prog g (#[.agg #[c0, c1, c2, c3]] ++ lb) W fun e w' => e = .returned (.bool (step s x).1) ∧ Inv (step s x).2 w')
    (s0 : σ) (w : World) (h0 : Inv s0 w) :
    Calls Try.prog 174 #[v, .func (.func g) #[] lb] w fun e w' => e = .returned (.int .i64 (idxL step xs 0 s0).1) ∧ Inv (idxL step xs 0 s0).2 w' := by
  obtain ⟨A, b, o, c, rfl, hc1, hc2, hA, hrows⟩ := (hrow s0 w h0).form
  have HR := hide fun s W h => hrows W (hrow s W h); clear hrow hrows
  have HP := hide hp; clear hp
  have H0 := hide h0; clear h0
  go_enter Try.func174, Try.ntmps174
  go_wp2
  go_loopw [8] (fun i W => ∃ (k : Nat) (s : σ), k ≤ xs.length ∧ i = .int .i64 k ∧ Hid (Inv s W) ∧ Hid (idxL step (xs.drop k) k s = idxL step xs 0 s0)) (fun i _ => xs.length - (intOf i).toNat)
  case atStart => exact ⟨0, s0, Nat.zero_le _, rfl, H0, hide rfl⟩
  case round =>
    obtain ⟨k, s, hk, rfl, HI, HE⟩ := hrel
    by_cases hlt : k < xs.length
    · obtain ⟨c0, c1, c2, c3, HK, hc_0, hc_1, hc_2, hc_3⟩ := (HR.out s _ HI.out).get4 hd hlt
      have HK := hide HK
      have hcon := hide (HP.out s _ xs[k] c0 c1 c2 c3 (List.getElem_mem hlt) HK.out HI.out)
      have HS := hide (show idxL step (xs.drop k) k s = if (step s xs[k]).1 then ((k : Int), (step s xs[k]).2) else idxL step (xs.drop (k + 1)) (k + 1) (step s xs[k]).2 by rw [drop_cons hlt]; rfl)
      rw [hA (by omega)]
      generalize step s xs[k] = r at hcon HS
      obtain ⟨r1, r2⟩ := r
      cases r1
      · go_wp2_with ((with_reducible refine (Hid.out hcon).mono ?_); rintro e w' ⟨rfl, hi⟩)
        exact ⟨⟨k + 1, r2, by omega, by go_num, hide hi, hide (HS.out.symm.trans HE.out)⟩, by simp [intOf]; omega⟩
      · go_wp2_with ((with_reducible refine (Hid.out hcon).mono ?_); rintro e w' ⟨rfl, hi⟩)
        go_ret
        rw [← HE.out, HS.out]
        exact ⟨rfl, hi⟩
    · obtain rfl : k = xs.length := by omega
      have HE' := hide HE.out
      go_wp2
      go_ret
      rw [← HE'.out, List.drop_length]
      exact ⟨rfl, HI.out⟩
set_option maxHeartbeats 1000000 in
theorem containsFunc_Window {σ α : Type} (d : Kind α) (hd : d.sz = 4) (Inv : σ → World → Prop) (step : σ → α → Bool × σ) (g : FuncId) (lb : Array Value)
    (eg : ∀ args w, (callFunc g args).run Try.prog w = .ok (.enter g args) w) (v : Value) (xs : List α)
    (hrow : ∀ s W, Inv s W → d.Sl W v xs)
    (hp : ∀ s W x c0 c1 c2 c3, x ∈ xs → d.K W x [c0, c1, c2, c3] → Inv s W → Calls Try.prog g (#[.agg #[c0, c1, c2, c3]] ++ lb) W fun e w' => e = .returned (.bool (step s x).1) ∧ Inv (step s x).2 w')
    (s0 : σ) (w : World) (h0 : Inv s0 w) :
    Calls Try.prog 157 #[v, .func (.func g) #[] lb] w fun e w' => e = .returned (.bool (anyL step xs s0).1) ∧ Inv (anyL step xs s0).2 w' := by
  have hcon := hide (indexFunc_Window d hd Inv step g lb eg v xs hrow hp s0 w h0)
  have HE := hide (idxL_any step xs 0 s0)
  clear hrow hp h0
  go_enter Try.func157, Try.ntmps157
  go_wp2_with ((with_reducible refine (Hid.out hcon).mono ?_); rintro e w' ⟨rfl, hi⟩)
  go_ret
  rw [← HE.out]
  exact ⟨by simp, hi⟩
set_option maxHeartbeats 1000000 in
theorem indexFunc_Grant {σ α : Type} (d : Kind α) (hd : d.sz = 3) (Inv : σ → World → Prop) (step : σ → α → Bool × σ) (g : FuncId) (lb : Array Value)
    (eg : ∀ args w, (callFunc g args).run Try.prog w = .ok (.enter g args) w) (v : Value) (xs : List α)
    (hrow : ∀ s W, Inv s W → d.Sl W v xs)
    (hp : ∀ s W x c0 c1 c2, x ∈ xs → d.K W x [c0, c1, c2] → Inv s W → Calls Try.prog g (#[.agg #[c0, c1, c2]] ++ lb) W fun e w' => e = .returned (.bool (step s x).1) ∧ Inv (step s x).2 w')
    (s0 : σ) (w : World) (h0 : Inv s0 w) :
    Calls Try.prog 183 #[v, .func (.func g) #[] lb] w fun e w' => e = .returned (.int .i64 (idxL step xs 0 s0).1) ∧ Inv (idxL step xs 0 s0).2 w' := by
  obtain ⟨A, b, o, c, rfl, hc1, hc2, hA, hrows⟩ := (hrow s0 w h0).form
  have HR := hide fun s W h => hrows W (hrow s W h); clear hrow hrows
  have HP := hide hp; clear hp
  have H0 := hide h0; clear h0
  go_enter Try.func183, Try.ntmps183
  go_wp2
  go_loopw [8] (fun i W => ∃ (k : Nat) (s : σ), k ≤ xs.length ∧ i = .int .i64 k ∧ Hid (Inv s W) ∧ Hid (idxL step (xs.drop k) k s = idxL step xs 0 s0)) (fun i _ => xs.length - (intOf i).toNat)
  case atStart => exact ⟨0, s0, Nat.zero_le _, rfl, H0, hide rfl⟩
  case round =>
    obtain ⟨k, s, hk, rfl, HI, HE⟩ := hrel
    by_cases hlt : k < xs.length
    · obtain ⟨c0, c1, c2, HK, hc_0, hc_1, hc_2⟩ := (HR.out s _ HI.out).get3 hd hlt
      have HK := hide HK
      have hcon := hide (HP.out s _ xs[k] c0 c1 c2 (List.getElem_mem hlt) HK.out HI.out)
      have HS := hide (show idxL step (xs.drop k) k s = if (step s xs[k]).1 then ((k : Int), (step s xs[k]).2) else idxL step (xs.drop (k + 1)) (k + 1) (step s xs[k]).2 by rw [drop_cons hlt]; rfl)
      rw [hA (by omega)]
      generalize step s xs[k] = r at hcon HS
      obtain ⟨r1, r2⟩ := r
      cases r1
      · go_wp2_with ((with_reducible refine (Hid.out hcon).mono ?_); rintro e w' ⟨rfl, hi⟩)
        exact ⟨⟨k + 1, r2, by omega, by go_num, hide hi, hide (HS.out.symm.trans HE.out)⟩, by simp [intOf]; omega⟩
      · go_wp2_with ((with_reducible refine (Hid.out hcon).mono ?_); rintro e w' ⟨rfl, hi⟩)
        go_ret
        rw [← HE.out, HS.out]
        exact ⟨rfl, hi⟩
    · obtain rfl : k = xs.length := by omega
      have HE' := hide HE.out
      go_wp2
      go_ret
      rw [← HE'.out, List.drop_length]
      exact ⟨rfl, HI.out⟩
set_option maxHeartbeats 1000000 in
theorem containsFunc_Grant {σ α : Type} (d : Kind α) (hd : d.sz = 3) (Inv : σ → World → Prop) (step : σ → α → Bool × σ) (g : FuncId) (lb : Array Value)
    (eg : ∀ args w, (callFunc g args).run Try.prog w = .ok (.enter g args) w) (v : Value) (xs : List α)
    (hrow : ∀ s W, Inv s W → d.Sl W v xs)
    (hp : ∀ s W x c0 c1 c2, x ∈ xs → d.K W x [c0, c1, c2] → Inv s W → Calls Try.prog g (#[.agg #[c0, c1, c2]] ++ lb) W fun e w' => e = .returned (.bool (step s x).1) ∧ Inv (step s x).2 w')
    (s0 : σ) (w : World) (h0 : Inv s0 w) :
    Calls Try.prog 164 #[v, .func (.func g) #[] lb] w fun e w' => e = .returned (.bool (anyL step xs s0).1) ∧ Inv (anyL step xs s0).2 w' := by
  have hcon := hide (indexFunc_Grant d hd Inv step g lb eg v xs hrow hp s0 w h0)
  have HE := hide (idxL_any step xs 0 s0)
  clear hrow hp h0
  go_enter Try.func164, Try.ntmps164
  go_wp2_with ((with_reducible refine (Hid.out hcon).mono ?_); rintro e w' ⟨rfl, hi⟩)
  go_ret
  rw [← HE.out]
  exact ⟨by simp, hi⟩
set_option maxHeartbeats 1000000 in
theorem indexFunc_Piece {σ α : Type} (d : Kind α) (hd : d.sz = 3) (Inv : σ → World → Prop) (step : σ → α → Bool × σ) (g : FuncId) (lb : Array Value)
    (eg : ∀ args w, (callFunc g args).run Try.prog w = .ok (.enter g args) w) (v : Value) (xs : List α)
    (hrow : ∀ s W, Inv s W → d.Sl W v xs)
    (hp : ∀ s W x c0 c1 c2, x ∈ xs → d.K W x [c0, c1, c2] → Inv s W → Calls Try.prog g (#[.agg #[c0, c1, c2]] ++ lb) W fun e w' => e = .returned (.bool (step s x).1) ∧ Inv (step s x).2 w')
    (s0 : σ) (w : World) (h0 : Inv s0 w) :
    Calls Try.prog 165 #[v, .func (.func g) #[] lb] w fun e w' => e = .returned (.int .i64 (idxL step xs 0 s0).1) ∧ Inv (idxL step xs 0 s0).2 w' := by
  obtain ⟨A, b, o, c, rfl, hc1, hc2, hA, hrows⟩ := (hrow s0 w h0).form
  have HR := hide fun s W h => hrows W (hrow s W h); clear hrow hrows
  have HP := hide hp; clear hp
  have H0 := hide h0; clear h0
  go_enter Try.func165, Try.ntmps165
  go_wp2
  go_loopw [8] (fun i W => ∃ (k : Nat) (s : σ), k ≤ xs.length ∧ i = .int .i64 k ∧ Hid (Inv s W) ∧ Hid (idxL step (xs.drop k) k s = idxL step xs 0 s0)) (fun i _ => xs.length - (intOf i).toNat)
  case atStart => exact ⟨0, s0, Nat.zero_le _, rfl, H0, hide rfl⟩
  case round =>
    obtain ⟨k, s, hk, rfl, HI, HE⟩ := hrel
    by_cases hlt : k < xs.length
    · obtain ⟨c0, c1, c2, HK, hc_0, hc_1, hc_2⟩ := (HR.out s _ HI.out).get3 hd hlt
      have HK := hide HK
      have hcon := hide (HP.out s _ xs[k] c0 c1 c2 (List.getElem_mem hlt) HK.out HI.out)
      have HS := hide (show idxL step (xs.drop k) k s = if (step s xs[k]).1 then ((k : Int), (step s xs[k]).2) else idxL step (xs.drop (k + 1)) (k + 1) (step s xs[k]).2 by rw [drop_cons hlt]; rfl)
      rw [hA (by omega)]
      generalize step s xs[k] = r at hcon HS
      obtain ⟨r1, r2⟩ := r
      cases r1
      · go_wp2_with ((with_reducible refine (Hid.out hcon).mono ?_); rintro e w' ⟨rfl, hi⟩)
        exact ⟨⟨k + 1, r2, by omega, by go_num, hide hi, hide (HS.out.symm.trans HE.out)⟩, by simp [intOf]; omega⟩
      · go_wp2_with ((with_reducible refine (Hid.out hcon).mono ?_); rintro e w' ⟨rfl, hi⟩)
        go_ret
        rw [← HE.out, HS.out]
        exact ⟨rfl, hi⟩
    · obtain rfl : k = xs.length := by omega
      have HE' := hide HE.out
      go_wp2
      go_ret
      rw [← HE'.out, List.drop_length]
      exact ⟨rfl, HI.out⟩
set_option maxHeartbeats 1000000 in
theorem containsFunc_Piece {σ α : Type} (d : Kind α) (hd : d.sz = 3) (Inv : σ → World → Prop) (step : σ → α → Bool × σ) (g : FuncId) (lb : Array Value)
    (eg : ∀ args w, (callFunc g args).run Try.prog w = .ok (.enter g args) w) (v : Value) (xs : List α)
    (hrow : ∀ s W, Inv s W → d.Sl W v xs)
    (hp : ∀ s W x c0 c1 c2, x ∈ xs → d.K W x [c0, c1, c2] → Inv s W → Calls Try.prog g (#[.agg #[c0, c1, c2]] ++ lb) W fun e w' => e = .returned (.bool (step s x).1) ∧ Inv (step s x).2 w')
    (s0 : σ) (w : World) (h0 : Inv s0 w) :
    Calls Try.prog 123 #[v, .func (.func g) #[] lb] w fun e w' => e = .returned (.bool (anyL step xs s0).1) ∧ Inv (anyL step xs s0).2 w' := by
  have hcon := hide (indexFunc_Piece d hd Inv step g lb eg v xs hrow hp s0 w h0)
  have HE := hide (idxL_any step xs 0 s0)
  clear hrow hp h0
  go_enter Try.func123, Try.ntmps123
  go_wp2_with ((with_reducible refine (Hid.out hcon).mono ?_); rintro e w' ⟨rfl, hi⟩)
  go_ret
  rw [← HE.out]
  exact ⟨by simp, hi⟩
set_option maxHeartbeats 1000000 in
theorem indexFunc_int {σ α : Type} (d : Kind α) (hd : d.sz = 1) (Inv : σ → World → Prop) (step : σ → α → Bool × σ) (g : FuncId) (lb : Array Value)
    (eg : ∀ args w, (callFunc g args).run Try.prog w = .ok (.enter g args) w) (v : Value) (xs : List α)
    (hrow : ∀ s W, Inv s W → d.Sl W v xs)
    (hp : ∀ s W x c0, x ∈ xs → d.K W x [c0] → Inv s W → Calls Try.prog g (#[c0] ++ lb) W fun e w' => e = .returned (.bool (step s x).1) ∧ Inv (step s x).2 w')
    (s0 : σ) (w : World) (h0 : Inv s0 w) :
    Calls Try.prog 175 #[v, .func (.func g) #[] lb] w fun e w' => e = .returned (.int .i64 (idxL step xs 0 s0).1) ∧ Inv (idxL step xs 0 s0).2 w' := by
  obtain ⟨A, b, o, c, rfl, hc1, hc2, hA, hrows⟩ := (hrow s0 w h0).form
  have HR := hide fun s W h => hrows W (hrow s W h); clear hrow hrows
  have HP := hide hp; clear hp
  have H0 := hide h0; clear h0
  go_enter Try.func175, Try.ntmps175
  go_wp2
  go_loopw [8] (fun i W => ∃ (k : Nat) (s : σ), k ≤ xs.length ∧ i = .int .i64 k ∧ Hid (Inv s W) ∧ Hid (idxL step (xs.drop k) k s = idxL step xs 0 s0)) (fun i _ => xs.length - (intOf i).toNat)
  case atStart => exact ⟨0, s0, Nat.zero_le _, rfl, H0, hide rfl⟩
  case round =>
    obtain ⟨k, s, hk, rfl, HI, HE⟩ := hrel
    by_cases hlt : k < xs.length
    · obtain ⟨c0, HK, hc_0⟩ := (HR.out s _ HI.out).get1 hd hlt
      have HK := hide HK
      have hcon := hide (HP.out s _ xs[k] c0 (List.getElem_mem hlt) HK.out HI.out)
      have HS := hide (show idxL step (xs.drop k) k s = if (step s xs[k]).1 then ((k : Int), (step s xs[k]).2) else idxL step (xs.drop (k + 1)) (k + 1) (step s xs[k]).2 by rw [drop_cons hlt]; rfl)
      rw [hA (by omega)]
      generalize step s xs[k] = r at hcon HS
      obtain ⟨r1, r2⟩ := r
      cases r1
      · go_wp2_with ((with_reducible refine (Hid.out hcon).mono ?_); rintro e w' ⟨rfl, hi⟩)
        exact ⟨⟨k + 1, r2, by omega, by go_num, hide hi, hide (HS.out.symm.trans HE.out)⟩, by simp [intOf]; omega⟩
      · go_wp2_with ((with_reducible refine (Hid.out hcon).mono ?_); rintro e w' ⟨rfl, hi⟩)
        go_ret
        rw [← HE.out, HS.out]
        exact ⟨rfl, hi⟩
    · obtain rfl : k = xs.length := by omega
      have HE' := hide HE.out
      go_wp2
      go_ret
      rw [← HE'.out, List.drop_length]
      exact ⟨rfl, HI.out⟩
set_option maxHeartbeats 1000000 in
theorem containsFunc_int {σ α : Type} (d : Kind α) (hd : d.sz = 1) (Inv : σ → World → Prop) (step : σ → α → Bool × σ) (g : FuncId) (lb : Array Value)
    (eg : ∀ args w, (callFunc g args).run Try.prog w = .ok (.enter g args) w) (v : Value) (xs : List α)
    (hrow : ∀ s W, Inv s W → d.Sl W v xs)
    (hp : ∀ s W x c0, x ∈ xs → d.K W x [c0] → Inv s W → Calls Try.prog g (#[c0] ++ lb) W fun e w' => e = .returned (.bool (step s x).1) ∧ Inv (step s x).2 w')
    (s0 : σ) (w : World) (h0 : Inv s0 w) :
    Calls Try.prog 159 #[v, .func (.func g) #[] lb] w fun e w' => e = .returned (.bool (anyL step xs s0).1) ∧ Inv (anyL step xs s0).2 w' := by
  have hcon := hide (indexFunc_int d hd Inv step g lb eg v xs hrow hp s0 w h0)
  have HE := hide (idxL_any step xs 0 s0)
  clear hrow hp h0
  go_enter Try.func159, Try.ntmps159
  go_wp2_with ((with_reducible refine (Hid.out hcon).mono ?_); rintro e w' ⟨rfl, hi⟩)
  go_ret
  rw [← HE.out]
  exact ⟨by simp, hi⟩
set_option maxHeartbeats 1000000 in
theorem indexFunc_ints {σ α : Type} (d : Kind α) (hd : d.sz = 1) (Inv : σ → World → Prop) (step : σ → α → Bool × σ) (g : FuncId) (lb : Array Value)
    (eg : ∀ args w, (callFunc g args).run Try.prog w = .ok (.enter g args) w) (v : Value) (xs : List α)
    (hrow : ∀ s W, Inv s W → d.Sl W v xs)
    (hp : ∀ s W x c0, x ∈ xs → d.K W x [c0] → Inv s W → Calls Try.prog g (#[c0] ++ lb) W fun e w' => e = .returned (.bool (step s x).1) ∧ Inv (step s x).2 w')
    (s0 : σ) (w : World) (h0 : Inv s0 w) :
    Calls Try.prog 171 #[v, .func (.func g) #[] lb] w fun e w' => e = .returned (.int .i64 (idxL step xs 0 s0).1) ∧ Inv (idxL step xs 0 s0).2 w' := by
  obtain ⟨A, b, o, c, rfl, hc1, hc2, hA, hrows⟩ := (hrow s0 w h0).form
  have HR := hide fun s W h => hrows W (hrow s W h); clear hrow hrows
  have HP := hide hp; clear hp
  have H0 := hide h0; clear h0
  go_enter Try.func171, Try.ntmps171
  go_wp2
  go_loopw [8] (fun i W => ∃ (k : Nat) (s : σ), k ≤ xs.length ∧ i = .int .i64 k ∧ Hid (Inv s W) ∧ Hid (idxL step (xs.drop k) k s = idxL step xs 0 s0)) (fun i _ => xs.length - (intOf i).toNat)
  case atStart => exact ⟨0, s0, Nat.zero_le _, rfl, H0, hide rfl⟩
  case round =>
    obtain ⟨k, s, hk, rfl, HI, HE⟩ := hrel
    by_cases hlt : k < xs.length
    · obtain ⟨c0, HK, hc_0⟩ := (HR.out s _ HI.out).get1 hd hlt
      have HK := hide HK
      have hcon := hide (HP.out s _ xs[k] c0 (List.getElem_mem hlt) HK.out HI.out)
      have HS := hide (show idxL step (xs.drop k) k s = if (step s xs[k]).1 then ((k : Int), (step s xs[k]).2) else idxL step (xs.drop (k + 1)) (k + 1) (step s xs[k]).2 by rw [drop_cons hlt]; rfl)
      rw [hA (by omega)]
      generalize step s xs[k] = r at hcon HS
      obtain ⟨r1, r2⟩ := r
      cases r1
      · go_wp2_with ((with_reducible refine (Hid.out hcon).mono ?_); rintro e w' ⟨rfl, hi⟩)
        exact ⟨⟨k + 1, r2, by omega, by go_num, hide hi, hide (HS.out.symm.trans HE.out)⟩, by simp [intOf]; omega⟩
      · go_wp2_with ((with_reducible refine (Hid.out hcon).mono ?_); rintro e w' ⟨rfl, hi⟩)
        go_ret
        rw [← HE.out, HS.out]
        exact ⟨rfl, hi⟩
    · obtain rfl : k = xs.length := by omega
      have HE' := hide HE.out
      go_wp2
      go_ret
      rw [← HE'.out, List.drop_length]
      exact ⟨rfl, HI.out⟩
set_option maxHeartbeats 1000000 in
theorem containsFunc_ints {σ α : Type} (d : Kind α) (hd : d.sz = 1) (Inv : σ → World → Prop) (step : σ → α → Bool × σ) (g : FuncId) (lb : Array Value)
    (eg : ∀ args w, (callFunc g args).run Try.prog w = .ok (.enter g args) w) (v : Value) (xs : List α)
    (hrow : ∀ s W, Inv s W → d.Sl W v xs)
    (hp : ∀ s W x c0, x ∈ xs → d.K W x [c0] → Inv s W → Calls Try.prog g (#[c0] ++ lb) W fun e w' => e = .returned (.bool (step s x).1) ∧ Inv (step s x).2 w')
    (s0 : σ) (w : World) (h0 : Inv s0 w) :
    Calls Try.prog 147 #[v, .func (.func g) #[] lb] w fun e w' => e = .returned (.bool (anyL step xs s0).1) ∧ Inv (anyL step xs s0).2 w' := by
  have hcon := hide (indexFunc_ints d hd Inv step g lb eg v xs hrow hp s0 w h0)
  have HE := hide (idxL_any step xs 0 s0)
  clear hrow hp h0
  go_enter Try.func147, Try.ntmps147
  go_wp2_with ((with_reducible refine (Hid.out hcon).mono ?_); rintro e w' ⟨rfl, hi⟩)
  go_ret
  rw [← HE.out]
  exact ⟨by simp, hi⟩
set_option maxHeartbeats 1000000 in
theorem indexFunc_line {σ α : Type} (d : Kind α) (hd : d.sz = 4) (Inv : σ → World → Prop) (step : σ → α → Bool × σ) (g : FuncId) (lb : Array Value)
    (eg : ∀ args w, (callFunc g args).run Try.prog w = .ok (.enter g args) w) (v : Value) (xs : List α)
    (hrow : ∀ s W, Inv s W → d.Sl W v xs)
    (hp : ∀ s W x c0 c1 c2 c3, x ∈ xs → d.K W x [c0, c1, c2, c3] → Inv s W → Calls Try.prog g (#[.agg #[c0, c1, c2, c3]] ++ lb) W fun e w' => e = .returned (.bool (step s x).1) ∧ Inv (step s x).2 w')
    (s0 : σ) (w : World) (h0 : Inv s0 w) :
    Calls Try.prog 184 #[v, .func (.func g) #[] lb] w fun e w' => e = .returned (.int .i64 (idxL step xs 0 s0).1) ∧ Inv (idxL step xs 0 s0).2 w' := by
  obtain ⟨A, b, o, c, rfl, hc1, hc2, hA, hrows⟩ := (hrow s0 w h0).form
  have HR := hide fun s W h => hrows W (hrow s W h); clear hrow hrows
  have HP := hide hp; clear hp
  have H0 := hide h0; clear h0
  go_enter Try.func184, Try.ntmps184
  go_wp2
  go_loopw [8] (fun i W => ∃ (k : Nat) (s : σ), k ≤ xs.length ∧ i = .int .i64 k ∧ Hid (Inv s W) ∧ Hid (idxL step (xs.drop k) k s = idxL step xs 0 s0)) (fun i _ => xs.length - (intOf i).toNat)
  case atStart => exact ⟨0, s0, Nat.zero_le _, rfl, H0, hide rfl⟩
  case round =>
    obtain ⟨k, s, hk, rfl, HI, HE⟩ := hrel
    by_cases hlt : k < xs.length
    · obtain ⟨c0, c1, c2, c3, HK, hc_0, hc_1, hc_2, hc_3⟩ := (HR.out s _ HI.out).get4 hd hlt
      have HK := hide HK
      have hcon := hide (HP.out s _ xs[k] c0 c1 c2 c3 (List.getElem_mem hlt) HK.out HI.out)
      have HS := hide (show idxL step (xs.drop k) k s = if (step s xs[k]).1 then ((k : Int), (step s xs[k]).2) else idxL step (xs.drop (k + 1)) (k + 1) (step s xs[k]).2 by rw [drop_cons hlt]; rfl)
      rw [hA (by omega)]
      generalize step s xs[k] = r at hcon HS
      obtain ⟨r1, r2⟩ := r
      cases r1
      · go_wp2_with ((with_reducible refine (Hid.out hcon).mono ?_); rintro e w' ⟨rfl, hi⟩)
        exact ⟨⟨k + 1, r2, by omega, by go_num, hide hi, hide (HS.out.symm.trans HE.out)⟩, by simp [intOf]; omega⟩
      · go_wp2_with ((with_reducible refine (Hid.out hcon).mono ?_); rintro e w' ⟨rfl, hi⟩)
        go_ret
        rw [← HE.out, HS.out]
        exact ⟨rfl, hi⟩
    · obtain rfl : k = xs.length := by omega
      have HE' := hide HE.out
      go_wp2
      go_ret
      rw [← HE'.out, List.drop_length]
      exact ⟨rfl, HI.out⟩
end Go.Proofs.Ythjhkbnajclcjaa
