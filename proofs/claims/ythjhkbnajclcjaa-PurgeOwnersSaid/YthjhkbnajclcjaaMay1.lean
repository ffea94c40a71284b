/- config.May's rules, one by one: there, parts, devices. -/
import Derived.Test.YthjhkbnajclcjaaSched
namespace Go.Proofs.Ythjhkbnajclcjaa
open Go.RowKit

def there (c : Config) (p : Int) : Bool := decide (0 ≤ p) && decide (p < (c.parts.length : Int))
theorem there_iff (c : Config) (p : Int) : there c p = true ↔ 0 ≤ p ∧ p < (c.parts.length : Int) := by simp [there]

theorem there_c (w : World) (bc : Nat) (c : Config) (p : Int) (h : kConfig.At w bc 0 c) :
    Calls Try.prog 119 #[.pointer (some ⟨bc, 0, none⟩), .int .i64 p] w fun e w' => e = .returned (.bool (there c p)) ∧ w = w' := by
  obtain ⟨vp, vd, vw, vg, hbc, h0, h1, h2, h3, h4, h5, h6, h7, h8, hp, -⟩ := cfg_open h
  obtain ⟨A, b, o, cc, rfl, hl1, hl2, -, -⟩ := hp.form
  have HL := hide (there_iff c p)
  generalize there c p = r at HL
  clear h h0 h2 h3 h4 h5 h6 h7 h8 hp
  go_enter Try.func119, Try.ntmps119
  go_wp2
  all_goals
    go_ret
    refine ⟨congrArg (fun b => Ending.returned (Value.bool b)) ?_, rfl⟩
    rw [Bool.eq_iff_iff, HL.out]
    simp
    try omega

theorem there_v (w : World) (bc : Nat) (c : Config) (p : Int) (h : kConfig.At w bc 0 c) :
    Calls Try.prog 72 #[.pointer (some ⟨bc, 0, none⟩), .int .i64 p] w fun e w' => e = .returned (.bool (there c p)) ∧ w = w' := by
  obtain ⟨vp, vd, vw, vg, hbc, h0, h1, h2, h3, h4, h5, h6, h7, h8, hp, -⟩ := cfg_open h
  obtain ⟨A, b, o, cc, rfl, hl1, hl2, -, -⟩ := hp.form
  have HL := hide (there_iff c p)
  generalize there c p = r at HL
  clear h h0 h2 h3 h4 h5 h6 h7 h8 hp
  go_enter Try.func72, Try.ntmps72
  go_wp2
  all_goals
    go_ret
    refine ⟨congrArg (fun b => Ending.returned (Value.bool b)) ?_, rfl⟩
    rw [Bool.eq_iff_iff, HL.out]
    simp
    try omega

/-- A window of partition i. -/
theorem parts1 (W : World) (x : Window) (i : Int) (B : Nat) (c0 c1 c2 c3 : Value) (hK : kWindow.K W x [c0, c1, c2, c3]) (hi : W.cell? ⟨B, 0, none⟩ = some (.int .i64 i)) :
    Calls Try.prog 155 #[.agg #[c0, c1, c2, c3], .pointer (some ⟨B, 0, none⟩)] W fun e w' => e = .returned (.bool (x.part == i)) ∧ Bel W w' := by
  obtain ⟨rfl, rfl, rfl, rfl⟩ := kWindow_vals hK
  have hB := World.block_lt_of_cell? W _ hi
  have hb := hide fun o => (bel_refl W).alloc o
  obtain ⟨xp, xs, xl, xd⟩ := x
  simp only
  clear hK
  cases g : (xp == i)
  · go_enter Try.func155, Try.ntmps155
    go_wp2
    go_ret
    exact ⟨rfl, hb.out _⟩
  · obtain rfl : xp = i := by simpa using g
    clear g
    go_enter Try.func155, Try.ntmps155
    go_wp2
    go_ret
    exact ⟨rfl, hb.out _⟩

/-- Has a partition a window? -/
def hasWindow (c : Config) (i : Int) : Bool := c.windows.any fun w => w.part == i
theorem hasWindow_calls (w : World) (v : Value) (c : Config) (i : Int) (B : Nat) (hs : kWindow.Sl w v c.windows) (hi : w.cell? ⟨B, 0, none⟩ = some (.int .i64 i)) :
    Calls Try.prog 157 #[v, .func (.func 155) #[] #[.pointer (some ⟨B, 0, none⟩)]] w fun e w' => e = .returned (.bool (hasWindow c i)) ∧ Bel w w' := by
  have hcon := containsFunc_Window kWindow rfl (fun _ W => Bel w W) (plainStep fun y => y.part == i) 155 #[.pointer (some ⟨B, 0, none⟩)]
    (enters Try.func155 (by kernel_rfl) rfl) v c.windows (fun _ W hW => hs.bel hW)
    (fun _ W y c0 c1 c2 c3 _ hK hW => (parts1 W y i B c0 c1 c2 c3 hK (hW.cell hi)).mono fun e w' ⟨he, hw⟩ => ⟨he, hW.trans hw⟩) () w (bel_refl _)
  rw [anyL_plain] at hcon
  exact hcon

/-- May the partitions from the i-th on be? -/
def partsMay (c : Config) : Nat → List Part → Bool
  | _, [] => true
  | i, p :: ps => labelMay p.label && (decide (1 ≤ p.frames.length) && (hasWindow c i && partsMay c (i + 1) ps))
def partsRule (c : Config) : Bool := partsMay c 0 c.parts && (decide (1 ≤ c.parts.length) && decide (c.parts.length ≤ 4))

set_option maxHeartbeats 4000000 in
theorem parts_calls (w : World) (bc : Nat) (c : Config) (h : kConfig.At w bc 0 c) :
    Calls Try.prog 112 #[.pointer (some ⟨bc, 0, none⟩)] w fun e w' => e = .returned (.bool (partsRule c)) ∧ Bel w w' := by
  obtain ⟨vp, vd, vw, vg, hbc, h0, h1, h2, h3, h4, h5, h6, h7, h8, hp, -, hw, -⟩ := cfg_open h
  obtain ⟨A, b, o, cc, rfl, hl1, hl2, hA, hrows⟩ := hp.form
  have HR := hide (hrows w hp); clear hrows
  have HPR : Hid (partsRule c = (partsMay c 0 c.parts && (decide (1 ≤ c.parts.length) && decide (c.parts.length ≤ 4)))) := rfl
  have Hwin := hide fun (W : World) (i : Int) (B : Nat) (hW : Bel w W) (hi : W.cell? ⟨B, 0, none⟩ = some (.int .i64 i)) => hasWindow_calls W vw c i B (hw.bel hW) hi
  have H1 := hide h1
  have H4 := hide h4
  generalize partsRule c = res at HPR
  clear h h0 h2 h3 h5 h6 h7 h8 hp h4
  go_enter Try.func112, Try.ntmps112
  go_wp2
  go_loopw [11] (fun t W => ∃ k : Nat, k ≤ c.parts.length ∧ t = .int .i64 k ∧ Hid (Bel w W) ∧ Hid (partsMay c k (c.parts.drop k) = partsMay c 0 c.parts)) (fun t _ => c.parts.length - (intOf t).toNat)
  case atStart => exact ⟨0, Nat.zero_le _, rfl, hide (bel_refl w), hide rfl⟩
  case round =>
    obtain ⟨k, hk, rfl, HB, HW⟩ := hrel
    have hcell1 := HB.out.cell H1.out
    by_cases hlt : k < c.parts.length
    · obtain ⟨c0, c1, c2, c3, c4, hK, hc_0, hc_1, hc_2, hc_3, hc_4⟩ := (HR.out.bel HB.out).get5 rfl hlt
      have hcell4 := HB.out.cell H4.out
      have hbcs := Nat.lt_of_lt_of_le hbc HB.out.size
      have HP := hide (show partsMay c k (c.parts.drop k) = (labelMay c.parts[k].label && (decide (1 ≤ c.parts[k].frames.length) && (hasWindow c k && partsMay c (k + 1) (c.parts.drop (k + 1))))) by rw [drop_cons hlt, partsMay])
      generalize c.parts[k] = x at hK HP
      obtain ⟨⟨xl, xc⟩, xf, xs, xn⟩ := x
      obtain ⟨vf, hcs, hf, -⟩ := hK
      simp only [List.cons.injEq, and_true] at hcs
      obtain ⟨rfl, rfl, rfl, rfl, rfl⟩ := hcs
      simp only at hf hc_0 hc_1 hc_3 hc_4
      obtain ⟨Af, bf, off, cf, rfl, hf1, hf2, -, -⟩ := hf.form
      clear hf
      have hlab := hide fun W => labelMay_p xl xc W
      simp only at HP
      rw [hA (by omega)]
      generalize labelMay ⟨xl, xc⟩ = q1 at hlab HP
      have hwin := hide fun (W : World) (hW : Bel ((wr.alloc (.cells #[.int .i64 (k : Int)] 3)).alloc (.cells #[.int .i64 xl, .int .i64 xc, .slice Af xf.length cf, .int .i64 xs, .int .i64 xn] 40)) W) =>
        Hwin.out W k wr.heap.size (HB.out.trans ((((bel_refl wr).alloc _).alloc _).trans hW)) (hW.cell (by go_simp))
      have cellv : ∀ a0 a1 a2 a3 a4 : Value, ((wr.alloc (.cells #[.int .i64 (k : Int)] 3)).alloc (.cells #[a0, a1, a2, a3, a4] 40)).cell? ⟨wr.heap.size + 1, 2, none⟩ = some a2 := fun _ _ _ _ _ => by go_simp
      have cellv := hide (cellv (.int .i64 xl) (.int .i64 xc) (.slice Af xf.length cf) (.int .i64 xs) (.int .i64 xn))
      generalize hasWindow c k = q2 at hwin HP
      cases q1
      · go_wp2_with ((with_reducible refine (Hid.out hlab _).mono ?_); rintro e w' ⟨rfl, hi⟩)
        go_ret
        rw [HPR.out, ← HW.out, HP.out]
        exact ⟨rfl, HB.out.trans ((((bel_refl wr).alloc _).alloc _).trans hi)⟩
      by_cases gl : (xf.length : Int) < 1
      · have HG := hide (show decide (1 ≤ xf.length) = false from decide_eq_false (by omega))
        go_wp2_with ((with_reducible refine (Hid.out hlab _).mono ?_); rintro e w' ⟨rfl, hi⟩; have e2 := hi.cell cellv.out; have e4 := (Bel.trans HB.out ((((bel_refl wr).alloc _).alloc _).trans hi)).cell H4.out)
        go_ret
        rw [HPR.out, ← HW.out, HP.out, HG.out]
        exact ⟨rfl, HB.out.trans ((((bel_refl wr).alloc _).alloc _).trans hi)⟩
      have HG := hide (show decide (1 ≤ xf.length) = true from decide_eq_true (by omega))
      cases q2
      · go_wp2_with (first | ((with_reducible refine (Hid.out hlab _).mono ?_); rintro e w' ⟨rfl, hi⟩; have e2 := hi.cell cellv.out; have e4 := (Bel.trans HB.out ((((bel_refl wr).alloc _).alloc _).trans hi)).cell H4.out) | ((with_reducible refine (Hid.out hwin _ hi).mono ?_); rintro e w2 ⟨rfl, hi2⟩))
        go_ret
        rw [HPR.out, ← HW.out, HP.out, HG.out]
        exact ⟨rfl, HB.out.trans ((((bel_refl wr).alloc _).alloc _).trans (Bel.trans hi hi2))⟩
      · go_wp2_with (first | ((with_reducible refine (Hid.out hlab _).mono ?_); rintro e w' ⟨rfl, hi⟩; have e2 := hi.cell cellv.out; have e4 := (Bel.trans HB.out ((((bel_refl wr).alloc _).alloc _).trans hi)).cell H4.out) | ((with_reducible refine (Hid.out hwin _ hi).mono ?_); rintro e w2 ⟨rfl, hi2⟩))
        all_goals try (exfalso; omega)
        exact ⟨⟨k + 1, by omega, by go_num, hide (HB.out.trans ((((bel_refl wr).alloc _).alloc _).trans (Bel.trans hi hi2))), hide (by rw [← HW.out, HP.out, HG.out]; rfl)⟩, by simp [intOf]; omega⟩
    · obtain rfl : k = c.parts.length := by omega
      rw [List.drop_length] at HW
      clear HR
      go_wp2
      all_goals
        go_ret
        rw [HPR.out, ← HW.out]
        refine ⟨congrArg (fun b => Ending.returned (Value.bool b)) ?_, HB.out⟩
        rw [Bool.eq_iff_iff]
        simp [partsMay]
        try omega
end Go.Proofs.Ythjhkbnajclcjaa
