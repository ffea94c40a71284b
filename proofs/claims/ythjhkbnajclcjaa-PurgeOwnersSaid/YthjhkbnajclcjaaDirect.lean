/- Who flows directly to whom: view.directly, the reference's directly. -/
import Derived.Test.YthjhkbnajclcjaaDom
set_option linter.unusedSimpArgs false
namespace Go.Proofs.Ythjhkbnajclcjaa
open Go.RowKit

theorem label_cells {W : World} {b o : Nat} {ps : List Part} (h : kPart.Row W b o ps) {p : Nat} (hp : p < ps.length) : W.cell? ⟨b, o + p * 5, none⟩ = some (.int .i64 ps[p].label.level) ∧ W.cell? ⟨b, o + p * 5 + 1, none⟩ = some (.int .i64 ps[p].label.cats) := by
  obtain ⟨c0, c1, c2, c3, c4, hK, h0, h1, -⟩ := h.get5 rfl hp
  obtain ⟨rfl, rfl, -⟩ := kPart_vals hK
  exact ⟨h0, h1⟩

set_option maxRecDepth 20000 in
set_option maxHeartbeats 16000000 in
theorem directly_p (w : World) (bc : Nat) (c : Config) (p q : Nat) (h : kConfig.At w bc 0 c) (hp : p < c.parts.length) (hq : q < c.parts.length) :
    Calls Try.prog 127 #[.pointer (some ⟨bc, 0, none⟩), .int .i64 (p : Int), .int .i64 (q : Int)] w fun e w' => e = .returned (.bool (directB c p q)) ∧ Bel w w' := by
  have HE : Hid (directB c p q = (p == q || (dominates (labelOf c q) (labelOf c p) || c.grants.any (flowGrant c p q)))) := rfl
  generalize directB c p q = res at HE
  have HOW := hide fun W f (hW : Bel w W) => ownerOf_calls W bc c f (h.bel hW)
  obtain ⟨vp, vd, vw, vg, hbc, k0, k1, k2, k3, k4, k5, k6, k7, k8, hps, -, -, hgs, -⟩ := cfg_open h
  obtain ⟨A1, b1, o1, n1, rfl, hl1, hc1, hA1, hr1⟩ := hps.form
  obtain ⟨A4, b4, o4, n4, rfl, hl4, hc4, hA4, hr4⟩ := hgs.form
  obtain ⟨y0, y1⟩ := label_cells (hr1 w hps) hq
  obtain ⟨z0, z1⟩ := label_cells (hr1 w hps) hp
  have HR := hide (hr4 w hgs)
  rw [labelOf_eq hp, labelOf_eq hq] at HE
  have HD := hide fun W => dominates_p c.parts[q].label c.parts[p].label W
  generalize dominates c.parts[q].label c.parts[p].label = dq at HE HD
  generalize c.parts[q].label = lq at y0 y1 HD
  generalize c.parts[p].label = lp at z0 z1 HD
  obtain ⟨la, lb⟩ := lq
  obtain ⟨ma, mb⟩ := lp
  simp only at y0 y1 z0 z1
  clear k0 k2 k3 k4 k6 k7 k8 hps hgs hr1 hr4 h
  obtain rfl := hA1 (by omega)
  have hd : Bel w w.drew := (bel_refl w).drew
  have hk5 := hide (hd.cell k5)
  have hpl : (p : Int) < (c.parts.length : Int) := by omega
  have hql : (q : Int) < (c.parts.length : Int) := by omega
  have hp0 : (0 : Int) ≤ (p : Int) := by omega
  have hq0 : (0 : Int) ≤ (q : Int) := by omega
  by_cases hpq : p = q
  · subst hpq
    have HZ := hide (show res = true by rw [HE.out]; simp)
    go_enter Try.func127, Try.ntmps127
    go_wp2_with fail
    refine wp_region_held_drew (S := fun _ => True) (by kernel_rfl) ?_ (fun hHeld => ?_)
    · exact trivial
    refine hT (i := 0) (v := ?_) rfl (by kernel_rfl) (fun _ _ _ h => h) (by rfl) ?_ hHeld ?_
    rotate_left
    · (intro w_ hw_; (try dsimp only at hw_); go_simp; try with_reducible rfl)
    simp only [Act.put, List.setIfInBounds_toArray, List.set_cons_zero, List.set_cons_succ, List.getElem_toArray, List.getElem_cons_zero]
    refine hT (i := 1) (v := ?_) rfl (by kernel_rfl) (fun _ _ _ h => h) (by rfl) ?_ hHeld ?_
    rotate_left
    · (intro w_ hw_; (try dsimp only at hw_); go_simp; try with_reducible rfl)
    simp only [Act.put, List.setIfInBounds_toArray, List.set_cons_zero, List.set_cons_succ, List.getElem_toArray, List.getElem_cons_zero, List.getElem_cons_succ]
    refine hT (i := 2) (v := ?_) rfl (by kernel_rfl) (fun _ _ _ h => h) (by rfl) ?_ hHeld ?_
    rotate_left
    · (intro w_ hw_; (try dsimp only at hw_); go_simp; try with_reducible rfl)
    simp only [Act.put, List.setIfInBounds_toArray, List.set_cons_zero, List.set_cons_succ, List.getElem_toArray, List.getElem_cons_zero, List.getElem_cons_succ]
    refine hT (i := 3) (v := ?_) rfl (by kernel_rfl) (fun _ _ _ h => h) (by rfl) ?_ hHeld ?_
    rotate_left
    · (intro w_ hw_; (try dsimp only at hw_); go_simp; try with_reducible rfl)
    simp only [Act.put, List.setIfInBounds_toArray, List.set_cons_zero, List.set_cons_succ, List.getElem_toArray, List.getElem_cons_zero, List.getElem_cons_succ]
    refine hN (i := 4) rfl (by kernel_rfl) (fun _ _ _ h => h) (by rfl) hHeld ?_
    simp only [Act.put, List.setIfInBounds_toArray, List.set_cons_zero, List.set_cons_succ, List.getElem_toArray, List.getElem_cons_zero, List.getElem_cons_succ]
    refine hN (i := 5) rfl (by kernel_rfl) (fun _ _ _ h => h) (by rfl) hHeld ?_
    simp only [Act.put, List.setIfInBounds_toArray, List.set_cons_zero, List.set_cons_succ, List.getElem_toArray, List.getElem_cons_zero, List.getElem_cons_succ]
    refine hN (i := 6) rfl (by kernel_rfl) (fun _ _ _ h => h) (by rfl) hHeld ?_
    simp only [Act.put, List.setIfInBounds_toArray, List.set_cons_zero, List.set_cons_succ, List.getElem_toArray, List.getElem_cons_zero, List.getElem_cons_succ]
    refine hN (i := 7) rfl (by kernel_rfl) (fun _ _ _ h => h) (by rfl) hHeld ?_
    simp only [Act.put, List.setIfInBounds_toArray, List.set_cons_zero, List.set_cons_succ, List.getElem_toArray, List.getElem_cons_zero, List.getElem_cons_succ]
    refine hN (i := 8) rfl (by kernel_rfl) (fun _ _ _ h => h) (by rfl) hHeld ?_
    simp only [Act.put, List.setIfInBounds_toArray, List.set_cons_zero, List.set_cons_succ, List.getElem_toArray, List.getElem_cons_zero, List.getElem_cons_succ]
    refine hN (i := 9) rfl (by kernel_rfl) (fun _ _ _ h => h) (by rfl) hHeld ?_
    simp only [Act.put, List.setIfInBounds_toArray, List.set_cons_zero, List.set_cons_succ, List.getElem_toArray, List.getElem_cons_zero, List.getElem_cons_succ]
    refine hN (i := 10) rfl (by kernel_rfl) (fun _ _ _ h => h) (by rfl) hHeld ?_
    simp only [Act.put, List.setIfInBounds_toArray, List.set_cons_zero, List.set_cons_succ, List.getElem_toArray, List.getElem_cons_zero, List.getElem_cons_succ]
    refine hN (i := 11) rfl (by kernel_rfl) (fun _ _ _ h => h) (by rfl) hHeld ?_
    simp only [Act.put, List.setIfInBounds_toArray, List.set_cons_zero, List.set_cons_succ, List.getElem_toArray, List.getElem_cons_zero, List.getElem_cons_succ]
    refine hN (i := 12) rfl (by kernel_rfl) (fun _ _ _ h => h) (by rfl) hHeld ?_
    simp only [Act.put, List.setIfInBounds_toArray, List.set_cons_zero, List.set_cons_succ, List.getElem_toArray, List.getElem_cons_zero, List.getElem_cons_succ]
    refine hN (i := 13) rfl (by kernel_rfl) (fun _ _ _ h => h) (by rfl) hHeld ?_
    simp only [Act.put, List.setIfInBounds_toArray, List.set_cons_zero, List.set_cons_succ, List.getElem_toArray, List.getElem_cons_zero, List.getElem_cons_succ]
    refine hN (i := 14) rfl (by kernel_rfl) (fun _ _ _ h => h) (by rfl) hHeld ?_
    simp only [Act.put, List.setIfInBounds_toArray, List.set_cons_zero, List.set_cons_succ, List.getElem_toArray, List.getElem_cons_zero, List.getElem_cons_succ]
    refine hN (i := 15) rfl (by kernel_rfl) (fun _ _ _ h => h) (by rfl) hHeld ?_
    simp only [Act.put, List.setIfInBounds_toArray, List.set_cons_zero, List.set_cons_succ, List.getElem_toArray, List.getElem_cons_zero, List.getElem_cons_succ]
    refine hN (i := 16) rfl (by kernel_rfl) (fun _ _ _ h => h) (by rfl) hHeld ?_
    simp only [Act.put, List.setIfInBounds_toArray, List.set_cons_zero, List.set_cons_succ, List.getElem_toArray, List.getElem_cons_zero, List.getElem_cons_succ]
    refine hN (i := 17) rfl (by kernel_rfl) (fun _ _ _ h => h) (by rfl) hHeld ?_
    simp only [Act.put, List.setIfInBounds_toArray, List.set_cons_zero, List.set_cons_succ, List.getElem_toArray, List.getElem_cons_zero, List.getElem_cons_succ]
    refine hN (i := 18) rfl (by kernel_rfl) (fun _ _ _ h => h) (by rfl) hHeld ?_
    simp only [Act.put, List.setIfInBounds_toArray, List.set_cons_zero, List.set_cons_succ, List.getElem_toArray, List.getElem_cons_zero, List.getElem_cons_succ]
    refine hN (i := 19) rfl (by kernel_rfl) (fun _ _ _ h => h) (by rfl) hHeld ?_
    simp only [Act.put, List.setIfInBounds_toArray, List.set_cons_zero, List.set_cons_succ, List.getElem_toArray, List.getElem_cons_zero, List.getElem_cons_succ]
    refine hN (i := 20) rfl (by kernel_rfl) (fun _ _ _ h => h) (by rfl) hHeld ?_
    simp only [Act.put, List.setIfInBounds_toArray, List.set_cons_zero, List.set_cons_succ, List.getElem_toArray, List.getElem_cons_zero, List.getElem_cons_succ]
    refine hT (i := 21) (v := ?_) rfl (by kernel_rfl) (fun _ _ _ h => h) (by rfl) ?_ hHeld ?_
    rotate_left
    · (intro w_ hw_; (try dsimp only at hw_); go_simp; try with_reducible rfl)
    simp only [Act.put, List.setIfInBounds_toArray, List.set_cons_zero, List.set_cons_succ, List.getElem_toArray, List.getElem_cons_zero, List.getElem_cons_succ]
    refine wpAnyH_done (by kernel_rfl) ?_ _
    clear hHeld
    go_wp2_with fail
    go_ret
    rw [HZ.out]
    exact ⟨rfl, hd⟩
  have hne : ((p : Int) == (q : Int)) = false := by simp; omega
  have hne2 : (p == q) = false := by simpa using hpq
  rw [hne2] at HE
  go_enter Try.func127, Try.ntmps127
  go_wp2_with fail
  refine wp_region_held_drew (S := fun w' => Bel w w' ∧ w'.cell? ⟨bc, 1, none⟩ = some (.slice (some ⟨b1, o1, none⟩) c.parts.length n1) ∧ w'.cell? ⟨b1, o1 + q * 5, none⟩ = some (.int .i64 la) ∧ w'.cell? ⟨b1, o1 + q * 5 + 1, none⟩ = some (.int .i64 lb) ∧ w'.cell? ⟨b1, o1 + p * 5, none⟩ = some (.int .i64 ma) ∧ w'.cell? ⟨b1, o1 + p * 5 + 1, none⟩ = some (.int .i64 mb)) (by kernel_rfl) ?_ (fun hHeld => ?_)
  · exact ⟨hd, k1, y0, y1, z0, z1⟩
  refine hT (i := 0) (v := ?_) rfl (by kernel_rfl) (fun _ _ _ h => h) (by rfl) ?_ hHeld ?_
  rotate_left
  · (intro w_ hw_; (try dsimp only at hw_); go_simp; try with_reducible rfl)
  simp only [Act.put, List.setIfInBounds_toArray, List.set_cons_zero, List.set_cons_succ, List.getElem_toArray, List.getElem_cons_zero]
  refine hT (i := 1) (v := ?_) rfl (by kernel_rfl) (fun _ _ _ h => h) (by rfl) ?_ hHeld ?_
  rotate_left
  · (intro w_ hw_; (try dsimp only at hw_); go_simp; try with_reducible rfl)
  simp only [Act.put, List.setIfInBounds_toArray, List.set_cons_zero, List.set_cons_succ, List.getElem_toArray, List.getElem_cons_zero, List.getElem_cons_succ]
  refine hT (i := 2) (v := ?_) rfl (by kernel_rfl) (fun _ _ _ h => h) (by rfl) ?_ hHeld ?_
  rotate_left
  · (intro w_ hw_; (try dsimp only at hw_); go_simp; try with_reducible rfl)
  simp only [Act.put, List.setIfInBounds_toArray, List.set_cons_zero, List.set_cons_succ, List.getElem_toArray, List.getElem_cons_zero, List.getElem_cons_succ]
  refine hT (i := 3) (v := ?_) rfl (by kernel_rfl) (fun _ _ _ h => h) (by rfl) ?_ hHeld ?_
  rotate_left
  · (intro w_ hw_; (try dsimp only at hw_); go_simp; try with_reducible rfl)
  simp only [Act.put, List.setIfInBounds_toArray, List.set_cons_zero, List.set_cons_succ, List.getElem_toArray, List.getElem_cons_zero, List.getElem_cons_succ]
  refine hT (i := 4) (v := ?_) rfl (by kernel_rfl) (fun _ _ _ h => h) (by rfl) ?_ hHeld ?_
  rotate_left
  · (intro w_ hw_; (try dsimp only at hw_); go_simp; try with_reducible rfl)
  simp only [Act.put, List.setIfInBounds_toArray, List.set_cons_zero, List.set_cons_succ, List.getElem_toArray, List.getElem_cons_zero, List.getElem_cons_succ]
  refine hT (i := 5) (v := ?_) rfl (by kernel_rfl) (fun _ _ _ h => h) (by rfl) ?_ hHeld ?_
  rotate_left
  · (intro w_ hw_; (try dsimp only at hw_); go_simp; try with_reducible rfl)
  simp only [Act.put, List.setIfInBounds_toArray, List.set_cons_zero, List.set_cons_succ, List.getElem_toArray, List.getElem_cons_zero, List.getElem_cons_succ]
  refine hT (i := 6) (v := ?_) rfl (by kernel_rfl) (fun _ _ _ h => h) (by rfl) ?_ hHeld ?_
  rotate_left
  · (intro w_ hw_; (try dsimp only at hw_); go_simp; try with_reducible rfl)
  simp only [Act.put, List.setIfInBounds_toArray, List.set_cons_zero, List.set_cons_succ, List.getElem_toArray, List.getElem_cons_zero, List.getElem_cons_succ]
  refine hT (i := 7) (v := ?_) rfl (by kernel_rfl) (fun _ _ _ h => h) (by rfl) ?_ hHeld ?_
  rotate_left
  · (intro w_ hw_; (try dsimp only at hw_); go_simp; try with_reducible rfl)
  simp only [Act.put, List.setIfInBounds_toArray, List.set_cons_zero, List.set_cons_succ, List.getElem_toArray, List.getElem_cons_zero, List.getElem_cons_succ]
  refine hT (i := 8) (v := ?_) rfl (by kernel_rfl) (fun _ _ _ h => h) (by rfl) ?_ hHeld ?_
  rotate_left
  · (intro w_ hw_; (try dsimp only at hw_); go_simp; try with_reducible rfl)
  simp only [Act.put, List.setIfInBounds_toArray, List.set_cons_zero, List.set_cons_succ, List.getElem_toArray, List.getElem_cons_zero, List.getElem_cons_succ]
  refine hT (i := 9) (v := ?_) rfl (by kernel_rfl) (fun _ _ _ h => h) (by rfl) ?_ hHeld ?_
  rotate_left
  · (intro w_ hw_; (try dsimp only at hw_); go_simp; try with_reducible rfl)
  simp only [Act.put, List.setIfInBounds_toArray, List.set_cons_zero, List.set_cons_succ, List.getElem_toArray, List.getElem_cons_zero, List.getElem_cons_succ]
  refine hT (i := 10) (v := ?_) rfl (by kernel_rfl) (fun _ _ _ h => h) (by rfl) ?_ hHeld ?_
  rotate_left
  · (intro w_ hw_; (try dsimp only at hw_); go_simp; try with_reducible rfl)
  simp only [Act.put, List.setIfInBounds_toArray, List.set_cons_zero, List.set_cons_succ, List.getElem_toArray, List.getElem_cons_zero, List.getElem_cons_succ]
  refine hT (i := 11) (v := ?_) rfl (by kernel_rfl) (fun _ _ _ h => h) (by rfl) ?_ hHeld ?_
  rotate_left
  · (intro w_ hw_; (try dsimp only at hw_); go_simp; try with_reducible rfl)
  simp only [Act.put, List.setIfInBounds_toArray, List.set_cons_zero, List.set_cons_succ, List.getElem_toArray, List.getElem_cons_zero, List.getElem_cons_succ]
  refine hT (i := 12) (v := ?_) rfl (by kernel_rfl) (fun _ _ _ h => h) (by rfl) ?_ hHeld ?_
  rotate_left
  · (intro w_ hw_; (try dsimp only at hw_); go_simp; try with_reducible rfl)
  simp only [Act.put, List.setIfInBounds_toArray, List.set_cons_zero, List.set_cons_succ, List.getElem_toArray, List.getElem_cons_zero, List.getElem_cons_succ]
  refine hT (i := 13) (v := ?_) rfl (by kernel_rfl) (fun _ _ _ h => h) (by rfl) ?_ hHeld ?_
  rotate_left
  · (intro w_ hw_; (try dsimp only at hw_); go_simp; try with_reducible rfl)
  simp only [Act.put, List.setIfInBounds_toArray, List.set_cons_zero, List.set_cons_succ, List.getElem_toArray, List.getElem_cons_zero, List.getElem_cons_succ]
  refine hT (i := 14) (v := ?_) rfl (by kernel_rfl) (fun _ _ _ h => h) (by rfl) ?_ hHeld ?_
  rotate_left
  · (intro w_ hw_; (try dsimp only at hw_); go_simp; try with_reducible rfl)
  simp only [Act.put, List.setIfInBounds_toArray, List.set_cons_zero, List.set_cons_succ, List.getElem_toArray, List.getElem_cons_zero, List.getElem_cons_succ]
  refine hT (i := 15) (v := ?_) rfl (by kernel_rfl) (fun _ _ _ h => h) (by rfl) ?_ hHeld ?_
  rotate_left
  · (intro w_ hw_; (try dsimp only at hw_); go_simp; try with_reducible rfl)
  simp only [Act.put, List.setIfInBounds_toArray, List.set_cons_zero, List.set_cons_succ, List.getElem_toArray, List.getElem_cons_zero, List.getElem_cons_succ]
  refine hT (i := 16) (v := ?_) rfl (by kernel_rfl) (fun _ _ _ h => h) (by rfl) ?_ hHeld ?_
  rotate_left
  · (intro w_ hw_; (try dsimp only at hw_); go_simp; try with_reducible rfl)
  simp only [Act.put, List.setIfInBounds_toArray, List.set_cons_zero, List.set_cons_succ, List.getElem_toArray, List.getElem_cons_zero, List.getElem_cons_succ]
  refine hT (i := 17) (v := ?_) rfl (by kernel_rfl) (fun _ _ _ h => h) (by rfl) ?_ hHeld ?_
  rotate_left
  · (intro w_ hw_; (try dsimp only at hw_); go_simp; try with_reducible rfl)
  simp only [Act.put, List.setIfInBounds_toArray, List.set_cons_zero, List.set_cons_succ, List.getElem_toArray, List.getElem_cons_zero, List.getElem_cons_succ]
  refine hT (i := 18) (v := ?_) rfl (by kernel_rfl) (fun _ _ _ h => h) (by rfl) ?_ hHeld ?_
  rotate_left
  · (intro w_ hw_; (try dsimp only at hw_); go_simp; try with_reducible rfl)
  simp only [Act.put, List.setIfInBounds_toArray, List.set_cons_zero, List.set_cons_succ, List.getElem_toArray, List.getElem_cons_zero, List.getElem_cons_succ]
  refine hT (i := 19) (v := ?_) rfl (by kernel_rfl) (fun _ _ _ h => h) (by rfl) ?_ hHeld ?_
  rotate_left
  · (intro w_ hw_; (try dsimp only at hw_); go_simp; try with_reducible rfl)
  simp only [Act.put, List.setIfInBounds_toArray, List.set_cons_zero, List.set_cons_succ, List.getElem_toArray, List.getElem_cons_zero, List.getElem_cons_succ]
  refine hE (i := 20) rfl (by kernel_rfl) (by rfl) (fun K hK => ?_)
  go_simp
  refine (HD.out _).mono ?_
  rintro e w1 ⟨rfl, hi⟩
  have j1 := hide (Bel.trans hHeld.1 hi)
  refine hK.out _ _ ?_ (fun hHeld => ?_)
  · exact ⟨j1.out, hi.cell hHeld.2.1, hi.cell hHeld.2.2.1, hi.cell hHeld.2.2.2.1, hi.cell hHeld.2.2.2.2.1, hi.cell hHeld.2.2.2.2.2⟩
  clear hK K
  refine hT (i := 21) (v := ?_) rfl (by kernel_rfl) (fun _ _ _ h => h) (by rfl) ?_ hHeld ?_
  rotate_left
  · (intro w_ hw_; (try dsimp only at hw_); go_simp; try with_reducible rfl)
  simp only [Act.put, List.setIfInBounds_toArray, List.set_cons_zero, List.set_cons_succ, List.getElem_toArray, List.getElem_cons_zero, List.getElem_cons_succ]
  refine wpAnyH_done (by kernel_rfl) ?_ _
  clear hHeld y0 y1 z0 z1 HD hd hne hne2
  have k5w := j1.out.cell k5
  cases dq
  rotate_left
  · have HZ := hide (show res = true by rw [HE.out]; simp)
    go_wp2_with fail
    go_ret
    rw [HZ.out]
    exact ⟨rfl, j1.out⟩
  have HE := hide (show res = c.grants.any (flowGrant c p q) by rw [HE.out]; rfl)
  clear k5 hk5 hpl hql hp0 hq0
  go_wp2_with fail
  clear k5w
  go_loopw [37] (fun t W => ∃ k : Nat, k ≤ c.grants.length ∧ t = .int .i64 k ∧ Hid (Bel w W) ∧ Hid ((c.grants.drop k).any (flowGrant c p q) = c.grants.any (flowGrant c p q))) (fun t _ => c.grants.length - (intOf t).toNat)
  case atStart => exact ⟨0, Nat.zero_le _, rfl, j1, hide rfl⟩
  case round =>
    obtain ⟨k, hk, rfl, HI, HW⟩ := hrel
    by_cases hlt : k < c.grants.length
    · obtain ⟨d0, d1, d2, hK, hc_0, hc_1, hc_2⟩ := (HR.out.bel HI.out).get3 rfl hlt
      have HP := hide (show (c.grants.drop k).any (flowGrant c p q) = (((ownerOf c c.grants[k].frame == (p : Int) && c.grants[k].to == (q : Int)) || (ownerOf c c.grants[k].frame == (q : Int) && (c.grants[k].to == (p : Int) && c.grants[k].write))) || (c.grants.drop (k + 1)).any (flowGrant c p q)) by rw [drop_cons hlt]; rfl)
      obtain ⟨hcs, -, -⟩ := hK
      simp only [List.cons.injEq, and_true] at hcs
      obtain ⟨rfl, rfl, rfl⟩ := hcs
      generalize c.grants[k] = x at hc_0 hc_1 hc_2 HP
      obtain ⟨xf, xt, xw⟩ := x
      simp only at hc_0 hc_1 hc_2 HP
      obtain rfl := hA4 (by omega)
      have HIa := hide fun o => HI.out.alloc o
      have ho := hide fun o => HOW.out (wr.alloc o) xf (HIa.out o)
      generalize ownerOf c xf = ow at HP ho
      go_upto_region 7 with ((with_reducible refine (Hid.out ho _).mono ?_); rintro e w2 ⟨rfl, hi⟩; have H2 := hide (Bel.trans (HIa.out _) hi); have x1 := hi.cell (p := ⟨wr.heap.size, 1, none⟩) (v := .int .i64 xt) (by go_simp); have x2 := hi.cell (p := ⟨wr.heap.size, 2, none⟩) (v := .bool xw) (by go_simp))
      clear hi ho HIa hc_0 hc_1 hc_2
      cases g1 : (ow == (p : Int))
      · skip
        cases g3 : (ow == (q : Int))
        · rw [g1, g3] at HP
          go_wp2_with fail
          exact ⟨⟨k + 1, by omega, by go_num, H2, hide (by rw [← HW.out, HP.out]; rfl)⟩, by simp [intOf]; omega⟩
        · cases g4 : (xt == (p : Int))
          · rw [g1, g3, g4] at HP
            go_wp2_with fail
            exact ⟨⟨k + 1, by omega, by go_num, H2, hide (by rw [← HW.out, HP.out]; rfl)⟩, by simp [intOf]; omega⟩
          · cases xw
            · rw [g1, g3, g4] at HP
              go_wp2_with fail
              exact ⟨⟨k + 1, by omega, by go_num, H2, hide (by rw [← HW.out, HP.out]; rfl)⟩, by simp [intOf]; omega⟩
            · rw [g1, g3, g4] at HP
              go_wp2_with fail
              go_ret
              rw [HE.out, ← HW.out, HP.out]
              exact ⟨rfl, H2.out⟩
      · cases g2 : (xt == (q : Int))
        · skip
          cases g3 : (ow == (q : Int))
          · rw [g1, g2, g3] at HP
            go_wp2_with fail
            exact ⟨⟨k + 1, by omega, by go_num, H2, hide (by rw [← HW.out, HP.out]; rfl)⟩, by simp [intOf]; omega⟩
          · cases g4 : (xt == (p : Int))
            · rw [g1, g2, g3, g4] at HP
              go_wp2_with fail
              exact ⟨⟨k + 1, by omega, by go_num, H2, hide (by rw [← HW.out, HP.out]; rfl)⟩, by simp [intOf]; omega⟩
            · cases xw
              · rw [g1, g2, g3, g4] at HP
                go_wp2_with fail
                exact ⟨⟨k + 1, by omega, by go_num, H2, hide (by rw [← HW.out, HP.out]; rfl)⟩, by simp [intOf]; omega⟩
              · rw [g1, g2, g3, g4] at HP
                go_wp2_with fail
                go_ret
                rw [HE.out, ← HW.out, HP.out]
                exact ⟨rfl, H2.out⟩
        · rw [g1, g2] at HP
          go_wp2_with fail
          go_ret
          rw [HE.out, ← HW.out, HP.out]
          exact ⟨rfl, H2.out⟩
    · obtain rfl : k = c.grants.length := by omega
      rw [List.drop_length] at HW
      go_wp2_with fail
      go_ret
      rw [HE.out, ← HW.out]
      exact ⟨rfl, HI.out⟩
end Go.Proofs.Ythjhkbnajclcjaa
