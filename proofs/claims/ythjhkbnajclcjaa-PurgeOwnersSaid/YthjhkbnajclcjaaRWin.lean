/- The reference's WindowsMay: it answers as sched.May. -/
import Derived.Test.YthjhkbnajclcjaaROwn
import Derived.Test.YthjhkbnajclcjaaCfgP
import Derived.Test.YthjhkbnajclcjaaBlk
set_option linter.unusedSimpArgs false
namespace Go.Proofs.Ythjhkbnajclcjaa
open Go.RowKit

/-- A row of marks that the call made for itself, block g. -/
structure Marks (w : World) (g n : Nat) (t : TypeId) (f : Int → Bool) (W : World) : Prop where
  bel : Bel w W
  row : W.rowIs g t n fun i => .bool (f i)
  hg : w.heap.size ≤ g
section
variable {w W W' : World} {g n : Nat} {t : TypeId} {f f' : Int → Bool}
theorem Marks.lt (h : Marks w g n t f W) : g < W.heap.size := h.row.lt
theorem Marks.mono (h : Marks w g n t f W) (hb : Bel W W') : Marks w g n t f W' := by
  obtain ⟨cs, h1, h2, h3⟩ := h.row
  exact ⟨h.bel.trans hb, ⟨cs, (hb.block g h.lt).trans h1, h2, h3⟩, h.hg⟩
theorem Marks.alloc (h : Marks w g n t f W) (o : Obj) : Marks w g n t f (W.alloc o) := h.mono ((bel_refl W).alloc o)
theorem Marks.drew (h : Marks w g n t f W) : Marks w g n t f W.drew := h.mono (bel_refl W).drew
theorem Marks.congr (h : Marks w g n t f W) (he : ∀ i : Nat, i < n → f i = f' i) : Marks w g n t f' W := ⟨h.bel, h.row.congr fun i hi => by rw [he i hi], h.hg⟩
theorem Marks.set (h : Marks w g n t f W) (k : Nat) : Marks w g n t (fun i => i == (k : Int) || f i) (W.setCell ⟨g, k, none⟩ (.bool true)) := by
  refine ⟨h.bel.setCell h.hg _, (h.row.set k (.bool true)).congr fun i _ => ?_, h.hg⟩
  by_cases hk : i = k
  · subst hk; simp
  · have : ¬ (i : Int) = (k : Int) := by omega
    simp [hk, this]
theorem Marks.cell (h : Marks w g n t f W) {k : Nat} (hk : k < n) : W.cell? ⟨g, k, none⟩ = some (.bool (f k)) := h.row.cell hk
theorem Marks.free (h : Marks w g n t f W) (k : Nat) : W.frozen? ⟨g, k, none⟩ = false := h.row.frozen k
end
abbrev false64 : Array Value := #[.bool false, .bool false, .bool false, .bool false, .bool false, .bool false, .bool false, .bool false, .bool false, .bool false, .bool false, .bool false, .bool false, .bool false, .bool false, .bool false, .bool false, .bool false, .bool false, .bool false, .bool false, .bool false, .bool false, .bool false, .bool false, .bool false, .bool false, .bool false, .bool false, .bool false, .bool false, .bool false, .bool false, .bool false, .bool false, .bool false, .bool false, .bool false, .bool false, .bool false, .bool false, .bool false, .bool false, .bool false, .bool false, .bool false, .bool false, .bool false, .bool false, .bool false, .bool false, .bool false, .bool false, .bool false, .bool false, .bool false, .bool false, .bool false, .bool false, .bool false, .bool false, .bool false, .bool false, .bool false]
theorem marks_new (w : World) (t : TypeId) : Marks w w.heap.size 64 t (fun _ => false) (w.alloc (.cells false64 t)) := by
  refine ⟨(bel_refl w).alloc _, ?_, Nat.le_refl _⟩
  have h := (blk_new w (List.replicate 64 (.bool false)) t).rowIs
  exact h.congr fun i hi => by rw [List.getElem?_replicate, if_pos (by simpa using hi)]; rfl

/-- A boxed window beside the marks. -/
structure WinInv (w : World) (g B : Nat) (xs xl : Int) (f : Int → Bool) (W : World) : Prop where
  m : Marks w g 64 170 f W
  c1 : W.cell? ⟨B, 1, none⟩ = some (.int .i64 xs)
  c2 : W.cell? ⟨B, 2, none⟩ = some (.int .i64 xl)
  ne : B ≠ g
theorem WinInv.set {w W : World} {g B : Nat} {xs xl : Int} {f f' : Int → Bool} (h : WinInv w g B xs xl f W) (k : Nat) (hf : ∀ i : Int, (i == (k : Int) || f i) = f' i) : WinInv w g B xs xl f' (W.setCell ⟨g, k, none⟩ (.bool true)) :=
  ⟨(h.m.set k).congr fun i _ => hf i, by rw [World.cell?_setCell_far _ _ _ _ (Ne.symm h.ne)]; exact h.c1, by rw [World.cell?_setCell_far _ _ _ _ (Ne.symm h.ne)]; exact h.c2, h.ne⟩

theorem covers_append (pre : List (Int × Int)) (v : Int × Int) (i : Int) : covers (pre ++ [v]) i = (covers pre i || (decide (v.1 ≤ i) && decide (i < v.1 + v.2))) := by
  simp [covers]

set_option maxRecDepth 20000 in
set_option maxHeartbeats 8000000 in
theorem rWin_calls (w : World) (v : Value) (ws : List Window) (major parts : Int) (hs : kWindow.Sl w v ws) :
    Calls Try.prog 63 #[v, .int .i64 major, .int .i64 parts] w fun e w' => e = .returned (.bool (schedMay ws major parts)) ∧ Bel w w' := by
  obtain ⟨A, b, o, c, rfl, hc1, hc2, hA, hrows⟩ := hs.form
  have HR := hide (hrows w hs); clear hrows
  by_cases g1 : major < 1
  · go_enter Try.func63, Try.ntmps63
    go_wp2
    go_ret
    exact ⟨by simp [schedMay, show ¬ 1 ≤ major by omega], bel_refl w⟩
  by_cases g2 : 64 < major
  · go_enter Try.func63, Try.ntmps63
    go_wp2
    go_ret
    exact ⟨by simp [schedMay, show ¬ major ≤ 64 by omega], bel_refl w⟩
  by_cases g3 : parts < 1
  · go_enter Try.func63, Try.ntmps63
    go_wp2
    go_ret
    exact ⟨by simp [schedMay, show ¬ 1 ≤ parts by omega], bel_refl w⟩
  by_cases g4 : 4 < parts
  · go_enter Try.func63, Try.ntmps63
    go_wp2
    go_ret
    exact ⟨by simp [schedMay, show ¬ parts ≤ 4 by omega], bel_refl w⟩
  by_cases g5 : (ws.length : Int) < 1
  · go_enter Try.func63, Try.ntmps63
    go_wp2
    go_ret
    exact ⟨by simp [schedMay, show ¬ 1 ≤ ws.length by omega], bel_refl w⟩
  by_cases g6 : 8 < (ws.length : Int)
  · go_enter Try.func63, Try.ntmps63
    go_wp2
    go_ret
    exact ⟨by simp [schedMay, show ¬ ws.length ≤ 8 by omega], bel_refl w⟩
  have HE := hide (show schedMay ws major parts = winsMay major parts [] ws by rw [Bool.eq_iff_iff, schedMay_iff]; constructor; (intro h; exact h.2.2.2.2.2.2); (intro h; exact ⟨by omega, by omega, by omega, by omega, by omega, by omega, h⟩))
  generalize schedMay ws major parts = res at HE
  clear hs
  go_enter Try.func63, Try.ntmps63
  go_upto_region 4 with fail
  obtain ⟨W1, hW1⟩ : ∃ W1 : World, W1 = w.alloc (.cells false64 170) := ⟨_, rfl⟩
  rw [← hW1]
  have HM := hide (show Marks w w.heap.size 64 170 (covers []) W1 by rw [hW1]; exact marks_new w _)
  clear hW1
  go_wp2_with fail
  go_loopw [8] (fun t W => ∃ k : Nat, k ≤ ws.length ∧ t = .int .i64 k ∧ Hid (Marks w w.heap.size 64 170 (covers ((ws.take k).map winRun)) W) ∧ Hid (winsMay major parts (ws.take k) (ws.drop k) = winsMay major parts [] ws) ∧ Hid (∀ y ∈ ws.take k, WinOk y)) (fun t _ => ws.length - (intOf t).toNat)
  case atStart => exact ⟨0, Nat.zero_le _, rfl, HM, hide rfl, hide (by simp)⟩
  case round =>
    obtain ⟨k, hk, rfl, HI, HW, HO⟩ := hrel
    by_cases hlt : k < ws.length
    · obtain ⟨c0, c1, c2, c3, hK, hc_0, hc_1, hc_2, hc_3⟩ := (HR.out.bel HI.out.bel).get4 rfl hlt
      obtain ⟨rfl, rfl, rfl, rfl⟩ := kWindow_vals hK
      have HP := hide (show winsMay major parts (ws.take k) (ws.drop k) = (windowMay ws[k] major parts && (!((ws.take k).any fun v => !winApart v ws[k]) && winsMay major parts (ws.take (k + 1)) (ws.drop (k + 1)))) by rw [drop_cons hlt, winsMay, List.take_succ_eq_append_getElem hlt])
      have HT := hide (show ws.take (k + 1) = ws.take k ++ [ws[k]] from List.take_succ_eq_append_getElem hlt)
      generalize ws[k] = x at hK hc_0 hc_1 hc_2 hc_3 HP HT
      obtain ⟨xp, xs, xl, xd⟩ := x
      obtain ⟨-, i0, i1, i2, i3⟩ := hK
      simp only at hc_0 hc_1 hc_2 hc_3 i0 i1 i2 i3
      have had := hide fun W => addrMay_r xs xl major W i1 i2 (by unfold I64; omega)
      have HMI := hide (windowMay_iff ⟨xp, xs, xl, xd⟩ major parts)
      simp only at HMI
      have HAI := hide (addrMay_iff xs xl major)
      have i3h := hide i3
      clear i0 i1 i2 i3
      obtain rfl := hA (by omega)
      have HB1 := hide fun o => HI.out.bel.alloc o
      cases qa : addrMay xs xl major
      · rw [qa] at had HAI
        have HF := hide (show windowMay ⟨xp, xs, xl, xd⟩ major parts = false by
          rw [← Bool.not_eq_true, HMI.out]; intro h; have := HAI.out.2 ⟨by omega, by omega, by omega, by omega, by omega⟩; simp at this)
        clear HMI HAI qa
        go_wp2_with ((with_reducible refine (Hid.out had _).mono ?_); rintro e w' ⟨rfl, rfl⟩)
        all_goals
          go_ret
          rw [HE.out, ← HW.out, HP.out, HF.out]
          exact ⟨rfl, HB1.out _⟩
      rw [qa] at had HAI
      obtain ⟨a1, a2, a3, a4, a5⟩ := HAI.out.1 rfl
      clear HAI qa
      cases qm : windowMay ⟨xp, xs, xl, xd⟩ major parts
      · have HN := hide (show ¬ (0 ≤ xp ∧ xp < parts ∧ 1 ≤ xl ∧ 0 ≤ xs ∧ xs ≤ major ∧ xl ≤ major - xs ∧ xs ≤ xd ∧ xd < xs + xl) by rw [← HMI.out, qm]; simp)
        rw [qm] at HP
        clear HMI qm
        by_cases d1 : xp < 0
        · go_wp2_with ((with_reducible refine (Hid.out had _).mono ?_); rintro e w' ⟨rfl, rfl⟩)
          go_ret
          rw [HE.out, ← HW.out, HP.out]
          exact ⟨rfl, HB1.out _⟩
        by_cases d2 : parts ≤ xp
        · go_wp2_with ((with_reducible refine (Hid.out had _).mono ?_); rintro e w' ⟨rfl, rfl⟩)
          go_ret
          rw [HE.out, ← HW.out, HP.out]
          exact ⟨rfl, HB1.out _⟩
        by_cases d3 : xl < 1
        · go_wp2_with ((with_reducible refine (Hid.out had _).mono ?_); rintro e w' ⟨rfl, rfl⟩)
          go_ret
          rw [HE.out, ← HW.out, HP.out]
          exact ⟨rfl, HB1.out _⟩
        by_cases d4 : xd < xs
        · go_wp2_with ((with_reducible refine (Hid.out had _).mono ?_); rintro e w' ⟨rfl, rfl⟩)
          go_ret
          rw [HE.out, ← HW.out, HP.out]
          exact ⟨rfl, HB1.out _⟩
        have hw6 : IntKind.i64.wrap (xd - xs) = xd - xs := IntWalk.i64_in _ (by have := i3h.out; unfold I64 at this; omega)
        have d5 : xl ≤ xd - xs := by have := HN.out; omega
        go_wp2_with ((with_reducible refine (Hid.out had _).mono ?_); rintro e w' ⟨rfl, rfl⟩)
        go_ret
        rw [HE.out, ← HW.out, HP.out]
        exact ⟨rfl, HB1.out _⟩
      have hok := winOk_of_may (by omega : major ≤ 64) qm
      obtain ⟨e1, e2, e3, e4, e5, e6, e7, e8⟩ := HMI.out.1 qm
      rw [qm] at HP
      have hokh := hide hok
      have hw6 : IntKind.i64.wrap (xd - xs) = xd - xs := IntWalk.i64_in _ (by omega)
      have hw7 : IntKind.i64.wrap (xs + xl) = xs + xl := IntWalk.i64_in _ (by omega)
      have e9 : xd - xs < xl := by omega
      have e10 : xs + xl ≤ 64 := by omega
      clear HMI qm hok
      obtain ⟨js, rfl⟩ : ∃ js : Nat, xs = js := ⟨xs.toNat, by omega⟩
      have hlt2 := HI.out.lt
      have HWI := hide fun (a0 a3 : Value) => show WinInv w w.heap.size wr.heap.size js xl (covers ((ws.take k).map winRun)) (wr.alloc (.cells #[a0, .int .i64 (js : Int), .int .i64 xl, a3] 119)) from
        ⟨HI.out.alloc _, by go_simp, by go_simp, by omega⟩
      go_wp2_with ((with_reducible refine (Hid.out had _).mono ?_); rintro e w' ⟨rfl, rfl⟩)
      go_loopw [10] (fun t W => ∃ j : Nat, js ≤ j ∧ (j : Int) ≤ js + xl ∧ t = .int .i64 j ∧ Hid (WinInv w w.heap.size wr.heap.size js xl (fun i => covers ((ws.take k).map winRun) i || (decide ((js : Int) ≤ i) && decide (i < j))) W) ∧ Hid (∀ i : Int, js ≤ i → i < j → covers ((ws.take k).map winRun) i = false)) (fun t _ => (js + xl).toNat - (intOf t).toNat)
      case atStart =>
        refine ⟨js, Nat.le_refl _, by omega, rfl, hide ?_, hide fun i h1 h2 => by omega⟩
        have h := HWI.out (.int .i64 xp) (.int .i64 xd)
        exact ⟨h.m.congr fun i _ => by rw [show (decide ((js : Int) ≤ i) && decide ((i : Int) < js)) = false by simp, Bool.or_false], h.c1, h.c2, h.ne⟩
      case round =>
        obtain ⟨j, hj1, hj2, rfl, HJ, HN⟩ := hrel
        have f1 := HJ.out.c1
        have f2 := HJ.out.c2
        by_cases hjl : (j : Int) < js + xl
        · have f3 := HJ.out.m.cell (k := j) (by omega)
          have f4 := HJ.out.m.free j
          rw [show (decide ((js : Int) ≤ (j : Int)) && decide ((j : Int) < (j : Int))) = false by simp, Bool.or_false] at f3
          have hj64 : (j : Int) < 64 := by omega
          cases qc : covers ((ws.take k).map winRun) j
          · rw [qc] at f3
            have HS := hide (HJ.out.set j (f' := fun i => covers ((ws.take k).map winRun) i || (decide ((js : Int) ≤ i) && decide (i < ((j + 1 : Nat) : Int)))) (fun i => by
              by_cases hij : i = (j : Int)
              · subst hij; simp; omega
              · have h1 : (i == (j : Int)) = false := by simpa using hij
                have h2 : decide (i < ((j + 1 : Nat) : Int)) = decide (i < (j : Int)) := by simp only [decide_eq_decide]; omega
                rw [h1, h2, Bool.false_or]))
            have HN2 := hide (show ∀ i : Int, js ≤ i → i < ((j + 1 : Nat) : Int) → covers ((ws.take k).map winRun) i = false from fun i h1 h2 => by
              by_cases hij : i = (j : Int)
              · rw [hij]; exact qc
              · exact HN.out i h1 (by omega))
            clear HN qc
            go_wp2_with fail
            exact ⟨⟨j + 1, by omega, by omega, by go_num, HS, HN2⟩, by simp [intOf]; omega⟩
          · rw [qc] at f3
            have HF := hide ((win_apart_iff (ws.take k) ⟨xp, js, xl, xd⟩ e3 HO.out).2 ⟨j, by show (js : Int) ≤ j; omega, hjl, qc⟩)
            have HB := hide HJ.out.m.bel
            clear qc
            go_wp2_with fail
            go_ret
            rw [HE.out, ← HW.out, HP.out, HF.out]
            exact ⟨rfl, HB.out⟩
        · have hje : (j : Int) = js + xl := by omega
          have HF := hide (show ((ws.take k).any fun v => !winApart v ⟨xp, js, xl, xd⟩) = false by
            rw [← Bool.not_eq_true, win_apart_iff (ws.take k) ⟨xp, js, xl, xd⟩ e3 HO.out]
            rintro ⟨i, h1, h2, h3⟩
            have h1 : (js : Int) ≤ i := h1
            have h2 : i < (js : Int) + xl := h2
            rw [HN.out i h1 (by omega)] at h3
            simp at h3)
          have HM2 := hide (HJ.out.m.congr (f' := covers ((ws.take (k + 1)).map winRun)) fun i _ => by
            rw [HT.out, List.map_append, List.map_cons, List.map_nil, covers_append]
            show _ = (_ || (decide ((js : Int) ≤ i) && decide ((i : Int) < js + xl)))
            rw [hje])
          have HO2 := hide (show ∀ y ∈ ws.take (k + 1), WinOk y from fun y hy => by
            rw [HT.out] at hy
            rcases List.mem_append.1 hy with hy | hy
            · exact HO.out y hy
            · rw [List.mem_singleton.1 hy]; exact hokh.out)
          have hjeh := hide hje
          clear HN HJ HWI hje
          have hge := hide hj2
          have hdec : decide ((j : Int) < js + xl) = false := decide_eq_false (by omega)
          clear hjl hj2 e1 e2 e4 e5 e6 e7 e8 e9 hw6 a1 a2 a3 a4 a5 hlt2 HB1
          go_wp2_with fail
          exact ⟨⟨k + 1, by omega, by go_num, HM2, hide (by rw [← HW.out, HP.out, HF.out]; rfl), HO2⟩, by simp [intOf]; omega⟩
    · obtain rfl : k = ws.length := by omega
      go_wp2_with fail
      go_ret
      rw [HE.out, ← HW.out, List.drop_length]
      exact ⟨rfl, HI.out.bel⟩
end Go.Proofs.Ythjhkbnajclcjaa
