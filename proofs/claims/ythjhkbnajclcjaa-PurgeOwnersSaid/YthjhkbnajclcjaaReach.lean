/- May a partition read a frame, or write it: config.Reach; may it read bytes: addr.May, addr.Split, config.Within. -/
import Derived.Test.YthjhkbnajclcjaaOwn
import Derived.Test.YthjhkbnajclcjaaDraw
import Derived.Deep.DrawnRows
namespace Go.Proofs.Ythjhkbnajclcjaa
open Go.RowKit
attribute [local go_sem ↓] Go.wp_at_zero Go.wp_at_succ

def granted (part frame : Int) (write : Bool) (g : Grant) : Bool := g.frame == frame && (g.to == part && (g.write || !write))
def reach (c : Config) (part frame : Int) (write : Bool) : Bool := ownerOf c frame == part || c.grants.any (granted part frame write)

set_option maxHeartbeats 1000000 in
theorem reach1 (W : World) (x : Grant) (part frame : Int) (write : Bool) (B0 B1 B2 : Nat) (c0 c1 c2 : Value) (hK : kGrant.K W x [c0, c1, c2])
    (h0 : W.cell? ⟨B0, 0, none⟩ = some (.int .i64 frame)) (h1 : W.cell? ⟨B1, 0, none⟩ = some (.int .i64 part)) (h2 : W.cell? ⟨B2, 0, none⟩ = some (.bool write)) :
    Calls Try.prog 163 #[.agg #[c0, c1, c2], .pointer (some ⟨B0, 0, none⟩), .pointer (some ⟨B1, 0, none⟩), .pointer (some ⟨B2, 0, none⟩)] W fun e w' => e = .returned (.bool (granted part frame write x)) ∧ Bel W w' := by
  obtain ⟨hcs, -⟩ := hK
  simp only [List.cons.injEq, and_true] at hcs
  obtain ⟨rfl, rfl, rfl⟩ := hcs
  have e0 := World.block_lt_of_cell? W _ h0
  have e1 := World.block_lt_of_cell? W _ h1
  have e2 := World.block_lt_of_cell? W _ h2
  have hb := hide fun o => (bel_refl W).alloc o
  obtain ⟨xf, xt, xw⟩ := x
  have HG : Hid (granted part frame write ⟨xf, xt, xw⟩ = (xf == frame && (xt == part && (xw || !write)))) := rfl
  generalize granted part frame write ⟨xf, xt, xw⟩ = r at HG
  cases g1 : (xf == frame) <;> cases g2 : (xt == part) <;> cases xw <;> cases write
  all_goals
    go_enter Try.func163, Try.ntmps163
    go_wp2
    go_ret
    rw [HG.out, g1, g2]
    exact ⟨rfl, hb.out _⟩

/-- The last part of config.Reach: a grant that fits. -/
theorem reach_grants (w : World) (c : Config) (vg : Value) (part frame : Int) (write : Bool) (B0 B1 B2 : Nat) (hg : kGrant.Sl w vg c.grants)
    (h0 : w.cell? ⟨B0, 0, none⟩ = some (.int .i64 frame)) (h1 : w.cell? ⟨B1, 0, none⟩ = some (.int .i64 part)) (h2 : w.cell? ⟨B2, 0, none⟩ = some (.bool write)) :
    Calls Try.prog 164 #[vg, .func (.func 163) #[] #[.pointer (some ⟨B0, 0, none⟩), .pointer (some ⟨B1, 0, none⟩), .pointer (some ⟨B2, 0, none⟩)]] w fun e w' => e = .returned (.bool (c.grants.any (granted part frame write))) ∧ Bel w w' := by
  have hcon := containsFunc_Grant kGrant rfl (fun _ W => Bel w W) (plainStep (granted part frame write)) 163 #[.pointer (some ⟨B0, 0, none⟩), .pointer (some ⟨B1, 0, none⟩), .pointer (some ⟨B2, 0, none⟩)]
    (enters Try.func163 (by kernel_rfl) rfl) vg c.grants (fun _ W hW => hg.bel hW)
    (fun _ W x c0 c1 c2 _ hK hW => (reach1 W x part frame write B0 B1 B2 c0 c1 c2 hK (hW.cell h0) (hW.cell h1) (hW.cell h2)).mono fun e w' ⟨he, hw⟩ => ⟨he, hW.trans hw⟩) () w (bel_refl _)
  rw [anyL_plain] at hcon
  exact hcon

set_option maxHeartbeats 2000000 in
theorem reach_calls (w : World) (bc : Nat) (c : Config) (part frame : Int) (write : Bool) (h : kConfig.At w bc 0 c) :
    Calls Try.prog 122 #[.pointer (some ⟨bc, 0, none⟩), .int .i64 part, .int .i64 frame, .bool write] w fun e w' => e = .returned (.bool (reach c part frame write)) ∧ Bel w w' := by
  obtain ⟨c0, c1, c2, c3, c4, c5, c6, c7, c8, hk, h0, h1, h2, h3, h4, h5, h6, h7, h8⟩ := h.zero9 rfl
  obtain ⟨vp, vd, vw, vg, hcs, -, -, -, hg, -⟩ := hk
  simp only [List.cons.injEq, and_true] at hcs
  obtain ⟨-, -, -, -, -, rfl, -⟩ := hcs
  have hbc := World.block_lt_of_cell? w _ h5
  have hown := hide fun W (hW : Bel w W) => ownerOf_calls W bc c frame (h.bel hW)
  have hgr := hide fun W B0 B1 B2 (hW : Bel w W) => reach_grants W c c5 part frame write B0 B1 B2 (hg.bel hW)
  have HR : Hid (reach c part frame write = (ownerOf c frame == part || c.grants.any (granted part frame write))) := rfl
  generalize reach c part frame write = r at HR
  generalize ownerOf c frame = o at HR hown
  clear hg h h0 h1 h2 h3 h4 h6 h7 h8
  go_enter Try.func122, Try.ntmps122
  go_wp2_with fail
  have hbw : Bel w (((w.alloc (.cells #[.int .i64 part] 3)).alloc (.cells #[.int .i64 frame] 3)).alloc (.cells #[.bool write] 4)) := (((bel_refl w).alloc _).alloc _).alloc _
  have f0 := hbw.cell h5
  have f1 : (((w.alloc (.cells #[.int .i64 part] 3)).alloc (.cells #[.int .i64 frame] 3)).alloc (.cells #[.bool write] 4)).cell? ⟨w.heap.size, 0, none⟩ = some (.int .i64 part) := by go_simp
  have f2 : (((w.alloc (.cells #[.int .i64 part] 3)).alloc (.cells #[.int .i64 frame] 3)).alloc (.cells #[.bool write] 4)).cell? ⟨w.heap.size + 1, 0, none⟩ = some (.int .i64 frame) := by go_simp
  have f3 : (((w.alloc (.cells #[.int .i64 part] 3)).alloc (.cells #[.int .i64 frame] 3)).alloc (.cells #[.bool write] 4)).cell? ⟨w.heap.size + 2, 0, none⟩ = some (.bool write) := by go_simp
  generalize (((w.alloc (.cells #[.int .i64 part] 3)).alloc (.cells #[.int .i64 frame] 3)).alloc (.cells #[.bool write] 4)) = W at hbw f0 f1 f2 f3 ⊢
  have HB := hide hbw; clear hbw h5
  cases g : (o == part)
  · go_region_held3 (fun w' => w'.cell? ⟨bc, 5, none⟩ = some c5 ∧ w'.cell? ⟨w.heap.size, 0, none⟩ = some (.int .i64 part) ∧ w'.cell? ⟨w.heap.size + 1, 0, none⟩ = some (.int .i64 frame) ∧ w'.cell? ⟨w.heap.size + 2, 0, none⟩ = some (.bool write))
      (first | exact ⟨k0, k1, k2, k3⟩ | exact ⟨g0, g1, g2, g3⟩ | exact ⟨f0, f1, f2, f3⟩)
      (first | (go_at_call 161; refine (hown.out _ (HB.out.drew)).mono ?_; rintro e w1 ⟨rfl, hi⟩; have g0 := hi.cell f0; have g1 := hi.cell f1; have g2 := hi.cell f2; have g3 := hi.cell f3) | (go_at_call 164; refine (hgr.out _ _ _ _ (Bel.trans HB.out.drew hi) g2 g1 g3).mono ?_; rintro e w1 ⟨rfl, hi1⟩; have k0 := hi1.cell g0; have k1 := hi1.cell g1; have k2 := hi1.cell g2; have k3 := hi1.cell g3))
    go_wp2
    go_ret
    rw [HR.out, g]
    exact ⟨rfl, Bel.trans (Bel.trans HB.out.drew hi) hi1⟩
  · obtain rfl : o = part := by simpa using g
    have HG := hide g; clear g
    refine wp_region_held_drew (S := fun w' => w'.cell? ⟨w.heap.size, 0, none⟩ = some (.int .i64 o) ∧ w'.cell? ⟨w.heap.size + 1, 0, none⟩ = some (.int .i64 frame)) (by kernel_rfl) ?_ (fun hHeld => ?_)
    · exact ⟨f1, f2⟩
    refine hT (i := 0) (v := ?_) rfl (by kernel_rfl) (fun _ _ _ h => h) (by rfl) ?_ hHeld ?_
    rotate_left
    · (intro w_ hw_; (try dsimp only at hw_); go_simp; try with_reducible rfl)
    simp only [Act.put, List.setIfInBounds_toArray, List.set_cons_zero, List.set_cons_succ, List.getElem_toArray, List.getElem_cons_zero]
    refine hT (i := 1) (v := ?_) rfl (by kernel_rfl) (fun _ _ _ h => h) (by rfl) ?_ hHeld ?_
    rotate_left
    · (intro w_ hw_; (try dsimp only at hw_); go_simp; try with_reducible rfl)
    simp only [Act.put, List.setIfInBounds_toArray, List.set_cons_zero, List.set_cons_succ, List.getElem_toArray, List.getElem_cons_zero, List.getElem_cons_succ]
    refine hT (i := 3) (v := ?_) rfl (by kernel_rfl) (fun _ _ _ h => h) (by rfl) ?_ hHeld ?_
    rotate_left
    · (intro w_ hw_; (try dsimp only at hw_); go_simp; try with_reducible rfl)
    simp only [Act.put, List.setIfInBounds_toArray, List.set_cons_zero, List.set_cons_succ, List.getElem_toArray, List.getElem_cons_zero, List.getElem_cons_succ]
    refine hE (i := 2) rfl (by kernel_rfl) (by rfl) (fun K hK => ?_)
    go_simp
    refine (hown.out _ (HB.out.drew)).mono ?_
    rintro e w1 ⟨rfl, hi⟩
    refine hK.out _ _ ?_ (fun hHeld => ?_)
    · exact ⟨hi.cell f1, hi.cell f2⟩
    clear hK K
    refine hT (i := 4) (v := ?_) rfl (by kernel_rfl) (fun _ _ _ h => h) (by rfl) ?_ hHeld ?_
    rotate_left
    · (intro w_ hw_; (try dsimp only at hw_); go_simp; try with_reducible rfl)
    simp only [Act.put, List.setIfInBounds_toArray, List.set_cons_zero, List.set_cons_succ, List.getElem_toArray, List.getElem_cons_zero, List.getElem_cons_succ]
    refine hT (i := 5) (v := ?_) rfl (by kernel_rfl) (fun _ _ _ h => h) (by rfl) ?_ hHeld ?_
    rotate_left
    · (intro w_ hw_; (try dsimp only at hw_); go_simp; try with_reducible rfl)
    simp only [Act.put, List.setIfInBounds_toArray, List.set_cons_zero, List.set_cons_succ, List.getElem_toArray, List.getElem_cons_zero, List.getElem_cons_succ]
    refine hN (i := 6) rfl (by kernel_rfl) (fun _ _ _ h => h) (by rfl) hHeld ?_
    simp only [Act.put, List.setIfInBounds_toArray, List.set_cons_zero, List.set_cons_succ, List.getElem_toArray, List.getElem_cons_zero, List.getElem_cons_succ]
    refine hN (i := 7) rfl (by kernel_rfl) (fun _ _ _ h => h) (by rfl) hHeld ?_
    simp only [Act.put, List.setIfInBounds_toArray, List.set_cons_zero, List.set_cons_succ, List.getElem_toArray, List.getElem_cons_zero, List.getElem_cons_succ]
    refine hN (i := 8) rfl (by kernel_rfl) (fun _ _ _ h => h) (by rfl) hHeld ?_
    simp only [Act.put, List.setIfInBounds_toArray, List.set_cons_zero, List.set_cons_succ, List.getElem_toArray, List.getElem_cons_zero, List.getElem_cons_succ]
    refine hN (i := 9) rfl (by kernel_rfl) (fun _ _ _ h => h) (by rfl) hHeld ?_
    simp only [Act.put, List.setIfInBounds_toArray, List.set_cons_zero, List.set_cons_succ, List.getElem_toArray, List.getElem_cons_zero, List.getElem_cons_succ]
    refine hN (i := 10) rfl (by kernel_rfl) (fun _ _ _ h => h) (by rfl) hHeld ?_
    simp only [Act.put, List.setIfInBounds_toArray, List.set_cons_zero, List.set_cons_succ, List.getElem_toArray, List.getElem_cons_zero, List.getElem_cons_succ]
    refine hN (i := 11) rfl (by kernel_rfl) (fun _ _ _ h => h) (by rfl) hHeld ?_
    simp only [Act.put, List.setIfInBounds_toArray, List.set_cons_zero, List.set_cons_succ, List.getElem_toArray, List.getElem_cons_zero, List.getElem_cons_succ]
    refine hT (i := 12) (v := ?_) rfl (by kernel_rfl) (fun _ _ _ h => h) (by rfl) ?_ hHeld ?_
    rotate_left
    · (intro w_ hw_; (try dsimp only at hw_); go_simp; try with_reducible rfl)
    simp only [Act.put, List.setIfInBounds_toArray, List.set_cons_zero, List.set_cons_succ, List.getElem_toArray, List.getElem_cons_zero, List.getElem_cons_succ]
    refine hT (i := 13) (v := ?_) rfl (by kernel_rfl) (fun _ _ _ h => h) (by rfl) ?_ hHeld ?_
    rotate_left
    · (intro w_ hw_; (try dsimp only at hw_); go_simp; try with_reducible rfl)
    simp only [Act.put, List.setIfInBounds_toArray, List.set_cons_zero, List.set_cons_succ, List.getElem_toArray, List.getElem_cons_zero, List.getElem_cons_succ]
    refine wpAnyH_done (by kernel_rfl) ?_ _
    go_wp2
    go_ret
    rw [HR.out, HG.out]
    exact ⟨rfl, Bel.trans HB.out.drew hi⟩
end Go.Proofs.Ythjhkbnajclcjaa
