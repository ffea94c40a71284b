/- Labels that dominate; direct flows: the program's and the reference's. -/
import Derived.Test.YthjhkbnajclcjaaViewP
import Derived.Test.YthjhkbnajclcjaaROwn
import Derived.Test.YthjhkbnajclcjaaDraw
set_option linter.unusedSimpArgs false
namespace Go.Proofs.Ythjhkbnajclcjaa
open Go.RowKit


set_option maxHeartbeats 4000000 in
theorem dominates_p (a b : Label) (w : World) : Calls Try.prog 166 #[.agg #[.int .i64 a.level, .int .i64 a.cats], .agg #[.int .i64 b.level, .int .i64 b.cats]] w fun e w' => e = .returned (.bool (dominates a b)) ∧ Bel w w' := by
  have HB := hide fun o o' => ((bel_refl w).alloc o).alloc o'
  obtain ⟨al, ac⟩ := a
  obtain ⟨bl, bc⟩ := b
  have h1 := hide fun W => labelMay_p al ac W
  have h2 := hide fun W => labelMay_p bl bc W
  have HE : Hid (dominates ⟨al, ac⟩ ⟨bl, bc⟩ = (labelMay ⟨al, ac⟩ && (labelMay ⟨bl, bc⟩ && (decide (bl ≤ al) && catsP ac bc)))) := rfl
  have HC := hide fun (h1 : labelMay ⟨al, ac⟩ = true) (h2 : labelMay ⟨bl, bc⟩ = true) => cats_eq ac bc ((labelMay_iff _).1 h1).2.2 ((labelMay_iff _).1 h2).2.2
  generalize dominates ⟨al, ac⟩ ⟨bl, bc⟩ = res at HE
  simp only
  have e1 := hide fun (W : World) (hW : Bel ((w.alloc (.cells #[.int .i64 al, .int .i64 ac] 37)).alloc (.cells #[.int .i64 bl, .int .i64 bc] 37)) W) => show W.cell? ⟨w.heap.size, 0, none⟩ = some (.int .i64 al) ∧ W.cell? ⟨w.heap.size, 1, none⟩ = some (.int .i64 ac) ∧ W.cell? ⟨w.heap.size + 1, 0, none⟩ = some (.int .i64 bl) ∧ W.cell? ⟨w.heap.size + 1, 1, none⟩ = some (.int .i64 bc) from
    ⟨hW.cell (by go_simp), hW.cell (by go_simp), hW.cell (by go_simp), hW.cell (by go_simp)⟩
  cases q1 : labelMay ⟨al, ac⟩
  · rw [q1] at HE h1
    clear HC q1
    go_enter Try.func166, Try.ntmps166
    go_wp2_with ((with_reducible refine (Hid.out h1 _).mono ?_); rintro e w1 ⟨rfl, hi⟩)
    go_ret
    rw [HE.out]
    exact ⟨rfl, Bel.trans (HB.out _ _) hi⟩
  cases q2 : labelMay ⟨bl, bc⟩
  · rw [q1, q2] at HE
    rw [q1] at h1
    rw [q2] at h2
    clear HC q1 q2
    go_enter Try.func166, Try.ntmps166
    go_wp2_with (first | ((with_reducible refine (Hid.out h1 _).mono ?_); rintro e w1 ⟨rfl, hi⟩; obtain ⟨x0, x1, x2, x3⟩ := e1.out _ hi) | ((with_reducible refine (Hid.out h2 _).mono ?_); rintro e w2 ⟨rfl, hi2⟩))
    go_ret
    rw [HE.out]
    exact ⟨rfl, Bel.trans (Bel.trans (HB.out _ _) hi) hi2⟩
  have HC := hide (HC.out q1 q2)
  rw [q1, q2] at HE
  rw [q1] at h1
  rw [q2] at h2
  clear q1 q2
  cases q3 : decide (bl ≤ al)
  · rw [q3] at HE
    clear HC
    go_enter Try.func166, Try.ntmps166
    go_wp2_with (first | ((with_reducible refine (Hid.out h1 _).mono ?_); rintro e w1 ⟨rfl, hi⟩; have j1 := hide hi; obtain ⟨x0, x1, x2, x3⟩ := e1.out _ hi) | ((with_reducible refine (Hid.out h2 _).mono ?_); rintro e w2 ⟨rfl, hi2⟩; have j2 := hide hi2; obtain ⟨y0, y1, y2, y3⟩ := e1.out _ (Bel.trans j1.out j2.out)))
    go_ret
    rw [HE.out]
    exact ⟨rfl, Bel.trans (Bel.trans (HB.out _ _) j1.out) j2.out⟩
  · rw [q3] at HE
    go_enter Try.func166, Try.ntmps166
    go_wp2_with (first | ((with_reducible refine (Hid.out h1 _).mono ?_); rintro e w1 ⟨rfl, hi⟩; have j1 := hide hi; obtain ⟨x0, x1, x2, x3⟩ := e1.out _ hi) | ((with_reducible refine (Hid.out h2 _).mono ?_); rintro e w2 ⟨rfl, hi2⟩; have j2 := hide hi2; obtain ⟨y0, y1, y2, y3⟩ := e1.out _ (Bel.trans j1.out j2.out)))
    go_ret
    rw [HE.out]
    exact ⟨rfl, Bel.trans (Bel.trans (HB.out _ _) j1.out) j2.out⟩

set_option maxHeartbeats 4000000 in
theorem dominates_r (a b : Label) (w : World) : Calls Try.prog 135 #[.agg #[.int .i64 a.level, .int .i64 a.cats], .agg #[.int .i64 b.level, .int .i64 b.cats]] w fun e w' => e = .returned (.bool (dominates a b)) ∧ Bel w w' := by
  have HB := hide fun o o' => ((bel_refl w).alloc o).alloc o'
  obtain ⟨al, ac⟩ := a
  obtain ⟨bl, bc⟩ := b
  have h1 := hide fun W => labelMay_r al ac W
  have h2 := hide fun W => labelMay_r bl bc W
  have HE : Hid (dominates ⟨al, ac⟩ ⟨bl, bc⟩ = (labelMay ⟨al, ac⟩ && (labelMay ⟨bl, bc⟩ && (decide (bl ≤ al) && catsP ac bc)))) := rfl
  have HC := hide fun (h1 : labelMay ⟨al, ac⟩ = true) (h2 : labelMay ⟨bl, bc⟩ = true) => cats_eq ac bc ((labelMay_iff _).1 h1).2.2 ((labelMay_iff _).1 h2).2.2
  generalize dominates ⟨al, ac⟩ ⟨bl, bc⟩ = res at HE
  simp only
  have e1 := hide fun (W : World) (hW : Bel ((w.alloc (.cells #[.int .i64 al, .int .i64 ac] 37)).alloc (.cells #[.int .i64 bl, .int .i64 bc] 37)) W) => show W.cell? ⟨w.heap.size, 0, none⟩ = some (.int .i64 al) ∧ W.cell? ⟨w.heap.size, 1, none⟩ = some (.int .i64 ac) ∧ W.cell? ⟨w.heap.size + 1, 0, none⟩ = some (.int .i64 bl) ∧ W.cell? ⟨w.heap.size + 1, 1, none⟩ = some (.int .i64 bc) from
    ⟨hW.cell (by go_simp), hW.cell (by go_simp), hW.cell (by go_simp), hW.cell (by go_simp)⟩
  cases q1 : labelMay ⟨al, ac⟩
  · rw [q1] at HE h1
    clear HC q1
    go_enter Try.func135, Try.ntmps135
    go_wp2_with ((with_reducible refine (Hid.out h1 _).mono ?_); rintro e w1 ⟨rfl, hi⟩)
    go_ret
    rw [HE.out]
    exact ⟨rfl, Bel.trans (HB.out _ _) hi⟩
  cases q2 : labelMay ⟨bl, bc⟩
  · rw [q1, q2] at HE
    rw [q1] at h1
    rw [q2] at h2
    clear HC q1 q2
    go_enter Try.func135, Try.ntmps135
    go_wp2_with (first | ((with_reducible refine (Hid.out h1 _).mono ?_); rintro e w1 ⟨rfl, hi⟩; obtain ⟨x0, x1, x2, x3⟩ := e1.out _ hi) | ((with_reducible refine (Hid.out h2 _).mono ?_); rintro e w2 ⟨rfl, hi2⟩))
    go_ret
    rw [HE.out]
    exact ⟨rfl, Bel.trans (Bel.trans (HB.out _ _) hi) hi2⟩
  have HC := hide (HC.out q1 q2)
  rw [q1, q2] at HE
  rw [q1] at h1
  rw [q2] at h2
  clear q1 q2
  cases q3 : decide (bl ≤ al)
  · rw [q3] at HE
    clear HC
    go_enter Try.func135, Try.ntmps135
    go_wp2_with (first | ((with_reducible refine (Hid.out h1 _).mono ?_); rintro e w1 ⟨rfl, hi⟩; have j1 := hide hi; obtain ⟨x0, x1, x2, x3⟩ := e1.out _ hi) | ((with_reducible refine (Hid.out h2 _).mono ?_); rintro e w2 ⟨rfl, hi2⟩; have j2 := hide hi2; obtain ⟨y0, y1, y2, y3⟩ := e1.out _ (Bel.trans j1.out j2.out)))
    go_ret
    rw [HE.out]
    exact ⟨rfl, Bel.trans (Bel.trans (HB.out _ _) j1.out) j2.out⟩
  · rw [q3] at HE
    go_enter Try.func135, Try.ntmps135
    go_wp2_with (first | ((with_reducible refine (Hid.out h1 _).mono ?_); rintro e w1 ⟨rfl, hi⟩; have j1 := hide hi; obtain ⟨x0, x1, x2, x3⟩ := e1.out _ hi) | ((with_reducible refine (Hid.out h2 _).mono ?_); rintro e w2 ⟨rfl, hi2⟩; have j2 := hide hi2; obtain ⟨y0, y1, y2, y3⟩ := e1.out _ (Bel.trans j1.out j2.out)))
    go_ret
    rw [HE.out, HC.out]
    exact ⟨rfl, Bel.trans (Bel.trans (HB.out _ _) j1.out) j2.out⟩
end Go.Proofs.Ythjhkbnajclcjaa
