/- package view's purger: does a step stay? -/
import Derived.Test.YthjhkbnajclcjaaTabNew
import Derived.Test.YthjhkbnajclcjaaAppWp
set_option linter.unusedSimpArgs false
namespace Go.Proofs.Ythjhkbnajclcjaa
open Go.RowKit

theorem isCall_iff (k : Int) : isCall k = true ↔ 5 ≤ k ∧ k ≤ 16 := by simp [isCall]

theorem isCall_p (k : Int) (w : World) : Calls Try.prog 128 #[.int .i64 k] w fun e w' => e = .returned (.bool (isCall k)) ∧ w = w' := by
  have HL := hide (isCall_iff k)
  generalize isCall k = r at HL
  go_enter Try.func128, Try.ntmps128
  go_wp2
  all_goals
    go_ret
    refine ⟨congrArg (fun b => Ending.returned (Value.bool b)) ?_, rfl⟩
    rw [Bool.eq_iff_iff, HL.out]
    simp
    try omega

theorem isCall_r (k : Int) (w : World) : Calls Try.prog 78 #[.int .i64 k] w fun e w' => e = .returned (.bool (isCall k)) ∧ w = w' := by
  have HL := hide (isCall_iff k)
  generalize isCall k = r at HL
  go_enter Try.func78, Try.ntmps78
  go_wp2
  all_goals
    go_ret
    refine ⟨congrArg (fun b => Ending.returned (Value.bool b)) ?_, rfl⟩
    rw [Bool.eq_iff_iff, HL.out]
    simp
    try omega
/-- A purger in memory: block P its fields, block bt who flows to partition t, block T the table's fields, block g its states. -/
structure PurAt (c : Config) (t : Nat) (W : World) (P bt ct T g cap : Nat) (s : PSt) : Prop where
  hd : BlkAt W P [.slice (some ⟨bt, 0, none⟩) c.parts.length ct, .pointer (some ⟨T, 0, none⟩), .int .i64 s.tick] 133
  tos : ∀ q, q < c.parts.length → W.cell? ⟨bt, q, none⟩ = some (.bool (flowsRow c q t))
  tab : TabAt W T g cap c.quiet c.parts.length s.tab
  n1 : P ≠ g
  n2 : P ≠ T
  n3 : bt ≠ P
  n4 : bt ≠ g
section
variable {c : Config} {t : Nat} {W W' : World} {P bt ct T g cap : Nat} {s : PSt}
theorem PurAt.bel (h : PurAt c t W P bt ct T g cap s) (hb : Bel W W') : PurAt c t W' P bt ct T g cap s := ⟨h.hd.bel hb, fun q hq => hb.cell (h.tos q hq), h.tab.bel hb, h.n1, h.n2, h.n3, h.n4⟩
theorem PurAt.turn (h : PurAt c t W P bt ct T g cap s) (hu : Turn g g W W') {tab : List St} (ht : TabAt W' T g cap c.quiet c.parts.length tab) : PurAt c t W' P bt ct T g cap { s with tab := tab } :=
  ⟨hu.blk h.hd h.n1 h.n1, fun q hq => (World.cell?_of_block (w := W) (hu.block bt (World.block_lt_of_cell? W _ (h.tos q hq)) h.n4 h.n4)).trans (h.tos q hq), ht, h.n1, h.n2, h.n3, h.n4⟩
theorem PurAt.lt (h : PurAt c t W P bt ct T g cap s) : P < W.heap.size ∧ T < W.heap.size ∧ g < W.heap.size := ⟨h.hd.lt, h.tab.hd.lt, h.tab.glt⟩
theorem PurAt.setTick (h : PurAt c t W P bt ct T g cap s) (x : Int) : PurAt c t (W.setCell ⟨P, 2, none⟩ (.int .i64 x)) P bt ct T g cap { s with tick := x } :=
  ⟨h.hd.set 2 _, fun q hq => (cell_far _ (Ne.symm h.n3) _ _ _).trans (h.tos q hq), h.tab.keep (Below.heap_setCell W _ _ T (by dsimp only; exact Ne.symm h.n2)) (Below.heap_setCell W _ _ g (by dsimp only; exact Ne.symm h.n1)), h.n1, h.n2, h.n3, h.n4⟩
end
/-- The blocks below base are as they were. -/
theorem PurAt.low {c : Config} {t : Nat} {W W' : World} {P bt ct T g cap base : Nat} {s : PSt} (h : PurAt c t W P bt ct T g cap s) (hk : ∀ k, k < base → W'.heap[k]? = W.heap[k]?) (h1 : P < base) (h2 : T < base) (h3 : g < base) (h4 : bt < base) : PurAt c t W' P bt ct T g cap s :=
  ⟨(hk P h1).trans h.hd, fun q hq => (World.cell?_of_block (w := W) (hk bt h4)).trans (h.tos q hq), h.tab.keep (hk T h2) (hk g h3), h.n1, h.n2, h.n3, h.n4⟩
theorem purFlows (w : World) (c : Config) (t P bt ct T g cap : Nat) (s : PSt) (p : Int) (h : PurAt c t w P bt ct T g cap s) :
    Calls Try.prog 129 #[.pointer (some ⟨P, 0, none⟩), .int .i64 p] w fun e w' => e = .returned (.bool (flowsTo c t p)) ∧ w = w' := by
  have HE : Hid (flowsTo c t p = (inB c.parts.length p && flowsRow c p.toNat t)) := rfl
  generalize flowsTo c t p = res at HE
  have HI := hide (inB_iff c.parts.length p)
  have e0 := h.hd.cell (i := 0) rfl
  cases qi : inB c.parts.length p
  · rw [qi] at HE HI
    have hn : ¬ (0 ≤ p ∧ p < (c.parts.length : Int)) := fun h => by have := HI.out.2 h; simp at this
    clear HI qi h
    by_cases n2 : p < 0
    · clear hn
      go_enter Try.func129, Try.ntmps129
      go_wp2_with fail
      all_goals try (exfalso; omega)
      go_ret
      rw [HE.out]
      exact ⟨rfl, rfl⟩
    · have n3 : (c.parts.length : Int) ≤ p := by omega
      clear hn
      go_enter Try.func129, Try.ntmps129
      go_wp2_with fail
      all_goals try (exfalso; omega)
      go_ret
      rw [HE.out]
      exact ⟨rfl, rfl⟩
  · obtain ⟨p0, p1⟩ := HI.out.1 qi
    rw [qi] at HE
    obtain ⟨k, rfl⟩ : ∃ k : Nat, p = k := ⟨p.toNat, by omega⟩
    have hk : k < c.parts.length := by omega
    have ek := h.tos k hk
    simp only [Int.toNat_natCast] at HE
    clear HI qi h
    go_enter Try.func129, Try.ntmps129
    go_wp2_with fail
    all_goals try (exfalso; omega)
    go_ret
    rw [HE.out]
    exact ⟨rfl, rfl⟩

set_option maxRecDepth 20000 in
set_option maxHeartbeats 16000000 in
theorem stays_calls (w : World) (c : Config) (t P bt ct T g cap S : Nat) (s : PSt) (x : Step) (h : PurAt c t w P bt ct T g cap s) (hok : POk c s) (hq : 1 ≤ c.quiet ∧ c.quiet ≤ 8)
    (h0 : w.cell? ⟨S, 0, none⟩ = some (.int .i64 x.kind)) (h1 : w.cell? ⟨S, 1, none⟩ = some (.int .i64 x.part)) (h2 : w.cell? ⟨S, 2, none⟩ = some (.int .i64 x.device)) (h3 : w.cell? ⟨S, 3, none⟩ = some (.int .i64 x.a)) (hS : S ≠ P) (hSg : S ≠ g) :
    Calls Try.prog 76 #[.pointer (some ⟨P, 0, none⟩), .pointer (some ⟨S, 0, none⟩)] w fun e w' => e = .returned (.bool (stays c t s x).1) ∧ PurAt c t w' P bt ct T g cap (stays c t s x).2 ∧ Turn P g w w' := by
  obtain ⟨xk, xp, xd, xa, xb, xc, xs⟩ := x
  simp only at h0 h1 h2 h3
  have hic := hide fun W => isCall_p xk W
  have H := hide h
  have hf := hide fun W p (hW : Bel w W) => purFlows W c t P bt ct T g cap s p (h.bel hW)
  have how := hide fun W d (hW : Bel w W) => tabOwner W T g cap c.quiet c.parts.length s.tab d (h.tab.bel hW)
  have hmv := hide fun W d t (hW : Bel w W) => tabMove W T g cap c.quiet c.parts.length s.tab d t (h.tab.bel hW)
  have e0 := h.hd.cell (i := 0) rfl
  have e1 := h.hd.cell (i := 1) rfl
  have e2 := h.hd.cell (i := 2) rfl
  have f2 := h.hd.free 2
  have hpT := h.n2
  have hpg := h.n1
  have hd : Bel w w.drew := (bel_refl w).drew
  have Hok := hide hok
  clear h hok
  cases qc : isCall xk
  rotate_left
  · have HZ := hide (show stays c t s ⟨xk, xp, xd, xa, xb, xc, xs⟩ = (flowsTo c t xp, s) by simp [stays, qc])
    rw [HZ.out]
    rw [qc] at hic
    have hfp := hide (hf.out w xp (bel_refl w))
    clear qc how hmv hf Hok
    go_enter Try.func76, Try.ntmps76
    go_wp2_with (first | ((with_reducible refine (Hid.out hic _).mono ?_); rintro e w' ⟨rfl, rfl⟩) | ((with_reducible refine (Hid.out hfp).mono ?_); rintro e w' ⟨rfl, rfl⟩))
    go_ret
    exact ⟨rfl, H.out, Turn.refl _ _ _⟩
  by_cases k34 : xk = 3 ∨ xk = 4
  · have HZ := hide (show stays c t s ⟨xk, xp, xd, xa, xb, xc, xs⟩ = (flowsTo c t (ownerT s.tab xd), s) by
      have hb : (xk == 3 || xk == 4) = true := by simpa using k34
      simp [stays, qc, hb])
    rw [HZ.out]
    rw [qc] at hic
    have hfp := hide (hf.out w.drew (ownerT s.tab xd) hd)
    have hop := hide (how.out w.drew xd hd)
    have HP := hide (H.out.bel hd)
    clear qc hmv hf how Hok
    rcases k34 with rfl | rfl
    all_goals
      go_enter Try.func76, Try.ntmps76
      go_wp2_with ((with_reducible refine (Hid.out hic _).mono ?_); rintro e w' ⟨rfl, rfl⟩)
      refine wp_region_held_drew (S := fun w' => w' = w.drew ∧ w'.cell? ⟨P, 1, none⟩ = some (.pointer (some ⟨T, 0, none⟩)) ∧ w'.cell? ⟨S, 2, none⟩ = some (.int .i64 xd)) (by kernel_rfl) ?_ (fun hHeld => ?_)
      · exact ⟨rfl, e1, h2⟩
      refine hT (i := 0) (v := ?_) rfl (by kernel_rfl) (fun _ _ _ h => h) (by rfl) ?_ hHeld ?_
      rotate_left
      · (intro w_ hw_; (try dsimp only at hw_); go_simp; try with_reducible rfl)
      simp only [Act.put, List.setIfInBounds_toArray, List.set_cons_zero, List.set_cons_succ, List.getElem_toArray, List.getElem_cons_zero]
      refine hT (i := 1) (v := ?_) rfl (by kernel_rfl) (fun _ _ _ h => h) (by rfl) ?_ hHeld ?_
      rotate_left
      · (intro w_ hw_; (try dsimp only at hw_); go_simp; try with_reducible rfl)
      simp only [Act.put, List.setIfInBounds_toArray, List.set_cons_zero, List.set_cons_succ, List.getElem_toArray, List.getElem_cons_zero, List.getElem_cons_succ]
      refine hT (i := 2) (v := ?_) rfl (by kernel_rfl) (fun _ _ _ h => h) (by rfl) ?_ hHeld ?_
      rotate_left
      · (intro w_ hw_; (try dsimp only at hw_); go_simp; try with_reducible rfl)
      simp only [Act.put, List.setIfInBounds_toArray, List.set_cons_zero, List.set_cons_succ, List.getElem_toArray, List.getElem_cons_zero, List.getElem_cons_succ]
      refine hT (i := 3) (v := ?_) rfl (by kernel_rfl) (fun _ _ _ h => h) (by rfl) ?_ hHeld ?_
      rotate_left
      · (intro w_ hw_; (try dsimp only at hw_); go_simp; try with_reducible rfl)
      simp only [Act.put, List.setIfInBounds_toArray, List.set_cons_zero, List.set_cons_succ, List.getElem_toArray, List.getElem_cons_zero, List.getElem_cons_succ]
      refine hT (i := 4) (v := ?_) rfl (by kernel_rfl) (fun _ _ _ h => h) (by rfl) ?_ hHeld ?_
      rotate_left
      · (intro w_ hw_; (try dsimp only at hw_); go_simp; try with_reducible rfl)
      simp only [Act.put, List.setIfInBounds_toArray, List.set_cons_zero, List.set_cons_succ, List.getElem_toArray, List.getElem_cons_zero, List.getElem_cons_succ]
      refine hT (i := 5) (v := ?_) rfl (by kernel_rfl) (fun _ _ _ h => h) (by rfl) ?_ hHeld ?_
      rotate_left
      · (intro w_ hw_; (try dsimp only at hw_); go_simp; try with_reducible rfl)
      simp only [Act.put, List.setIfInBounds_toArray, List.set_cons_zero, List.set_cons_succ, List.getElem_toArray, List.getElem_cons_zero, List.getElem_cons_succ]
      refine hT (i := 6) (v := ?_) rfl (by kernel_rfl) (fun _ _ _ h => h) (by rfl) ?_ hHeld ?_
      rotate_left
      · (intro w_ hw_; (try dsimp only at hw_); go_simp; try with_reducible rfl)
      simp only [Act.put, List.setIfInBounds_toArray, List.set_cons_zero, List.set_cons_succ, List.getElem_toArray, List.getElem_cons_zero, List.getElem_cons_succ]
      refine hT (i := 7) (v := ?_) rfl (by kernel_rfl) (fun _ _ _ h => h) (by rfl) ?_ hHeld ?_
      rotate_left
      · (intro w_ hw_; (try dsimp only at hw_); go_simp; try with_reducible rfl)
      simp only [Act.put, List.setIfInBounds_toArray, List.set_cons_zero, List.set_cons_succ, List.getElem_toArray, List.getElem_cons_zero, List.getElem_cons_succ]
      refine hT (i := 8) (v := ?_) rfl (by kernel_rfl) (fun _ _ _ h => h) (by rfl) ?_ hHeld ?_
      rotate_left
      · (intro w_ hw_; (try dsimp only at hw_); go_simp; try with_reducible rfl)
      simp only [Act.put, List.setIfInBounds_toArray, List.set_cons_zero, List.set_cons_succ, List.getElem_toArray, List.getElem_cons_zero, List.getElem_cons_succ]
      refine hE (i := 9) rfl (by kernel_rfl) (by rfl) (fun K hK => ?_)
      go_simp
      refine hop.out.mono ?_
      rintro e w1 ⟨rfl, rfl⟩
      refine hK.out _ _ ?_ (fun hHeld => ?_)
      · exact ⟨rfl, e1, h2⟩
      clear hK K
      refine hE (i := 10) rfl (by kernel_rfl) (by rfl) (fun K hK => ?_)
      go_simp
      refine hfp.out.mono ?_
      rintro e w1 ⟨rfl, rfl⟩
      refine hK.out _ _ ?_ (fun hHeld => ?_)
      · exact ⟨rfl, e1, h2⟩
      clear hK K
      refine hT (i := 11) (v := ?_) rfl (by kernel_rfl) (fun _ _ _ h => h) (by rfl) ?_ hHeld ?_
      rotate_left
      · (intro w_ hw_; (try dsimp only at hw_); go_simp; try with_reducible rfl)
      simp only [Act.put, List.setIfInBounds_toArray, List.set_cons_zero, List.set_cons_succ, List.getElem_toArray, List.getElem_cons_zero, List.getElem_cons_succ]
      refine wpAnyH_done (by kernel_rfl) ?_ _
      clear hHeld
      go_wp2_with fail
      go_ret
      exact ⟨rfl, HP.out, hd.turn⟩
  have k3 : xk ≠ 3 := fun e => k34 (.inl e)
  have k4 : xk ≠ 4 := fun e => k34 (.inr e)
  have b34 : (xk == 3 || xk == 4) = false := by simp [k3, k4]
  have kb3 : (xk == 3) = false := by simpa using k3
  have kb4 : (xk == 4) = false := by simpa using k4
  clear k34
  by_cases k2 : xk = 2
  · subst k2
    have HZ := hide (show stays c t s ⟨2, xp, xd, xa, xb, xc, xs⟩ = (true, { s with tab := moveT c.quiet c.parts.length s.tab xd xa }) by simp [stays, qc])
    rw [HZ.out]
    rw [qc] at hic
    have hmp := hide (hmv.out w.drew xd xa hd)
    have HP := hide (H.out.bel hd)
    clear qc hmv hf how Hok k3 k4 kb3 kb4 b34
    go_enter Try.func76, Try.ntmps76
    go_wp2_with ((with_reducible refine (Hid.out hic _).mono ?_); rintro e w' ⟨rfl, rfl⟩)
    refine wp_region_held_drew (S := fun w' => w'.cell? ⟨P, 1, none⟩ = some (.pointer (some ⟨T, 0, none⟩)) ∧ w'.cell? ⟨S, 2, none⟩ = some (.int .i64 xd) ∧ w'.cell? ⟨S, 3, none⟩ = some (.int .i64 xa)) (by kernel_rfl) ?_ (fun hHeld => ?_)
    · exact ⟨e1, h2, h3⟩
    refine hT (i := 0) (v := ?_) rfl (by kernel_rfl) (fun _ _ _ h => h) (by rfl) ?_ hHeld ?_
    rotate_left
    · (intro w_ hw_; (try dsimp only at hw_); go_simp; try with_reducible rfl)
    simp only [Act.put, List.setIfInBounds_toArray, List.set_cons_zero, List.set_cons_succ, List.getElem_toArray, List.getElem_cons_zero]
    refine hT (i := 1) (v := ?_) rfl (by kernel_rfl) (fun _ _ _ h => h) (by rfl) ?_ hHeld ?_
    rotate_left
    · (intro w_ hw_; (try dsimp only at hw_); go_simp; try with_reducible rfl)
    simp only [Act.put, List.setIfInBounds_toArray, List.set_cons_zero, List.set_cons_succ, List.getElem_toArray, List.getElem_cons_zero, List.getElem_cons_succ]
    refine hT (i := 2) (v := ?_) rfl (by kernel_rfl) (fun _ _ _ h => h) (by rfl) ?_ hHeld ?_
    rotate_left
    · (intro w_ hw_; (try dsimp only at hw_); go_simp; try with_reducible rfl)
    simp only [Act.put, List.setIfInBounds_toArray, List.set_cons_zero, List.set_cons_succ, List.getElem_toArray, List.getElem_cons_zero, List.getElem_cons_succ]
    refine hT (i := 3) (v := ?_) rfl (by kernel_rfl) (fun _ _ _ h => h) (by rfl) ?_ hHeld ?_
    rotate_left
    · (intro w_ hw_; (try dsimp only at hw_); go_simp; try with_reducible rfl)
    simp only [Act.put, List.setIfInBounds_toArray, List.set_cons_zero, List.set_cons_succ, List.getElem_toArray, List.getElem_cons_zero, List.getElem_cons_succ]
    refine hT (i := 4) (v := ?_) rfl (by kernel_rfl) (fun _ _ _ h => h) (by rfl) ?_ hHeld ?_
    rotate_left
    · (intro w_ hw_; (try dsimp only at hw_); go_simp; try with_reducible rfl)
    simp only [Act.put, List.setIfInBounds_toArray, List.set_cons_zero, List.set_cons_succ, List.getElem_toArray, List.getElem_cons_zero, List.getElem_cons_succ]
    refine hT (i := 5) (v := ?_) rfl (by kernel_rfl) (fun _ _ _ h => h) (by rfl) ?_ hHeld ?_
    rotate_left
    · (intro w_ hw_; (try dsimp only at hw_); go_simp; try with_reducible rfl)
    simp only [Act.put, List.setIfInBounds_toArray, List.set_cons_zero, List.set_cons_succ, List.getElem_toArray, List.getElem_cons_zero, List.getElem_cons_succ]
    refine hT (i := 6) (v := ?_) rfl (by kernel_rfl) (fun _ _ _ h => h) (by rfl) ?_ hHeld ?_
    rotate_left
    · (intro w_ hw_; (try dsimp only at hw_); go_simp; try with_reducible rfl)
    simp only [Act.put, List.setIfInBounds_toArray, List.set_cons_zero, List.set_cons_succ, List.getElem_toArray, List.getElem_cons_zero, List.getElem_cons_succ]
    refine hT (i := 7) (v := ?_) rfl (by kernel_rfl) (fun _ _ _ h => h) (by rfl) ?_ hHeld ?_
    rotate_left
    · (intro w_ hw_; (try dsimp only at hw_); go_simp; try with_reducible rfl)
    simp only [Act.put, List.setIfInBounds_toArray, List.set_cons_zero, List.set_cons_succ, List.getElem_toArray, List.getElem_cons_zero, List.getElem_cons_succ]
    refine hT (i := 8) (v := ?_) rfl (by kernel_rfl) (fun _ _ _ h => h) (by rfl) ?_ hHeld ?_
    rotate_left
    · (intro w_ hw_; (try dsimp only at hw_); go_simp; try with_reducible rfl)
    simp only [Act.put, List.setIfInBounds_toArray, List.set_cons_zero, List.set_cons_succ, List.getElem_toArray, List.getElem_cons_zero, List.getElem_cons_succ]
    refine hT (i := 9) (v := ?_) rfl (by kernel_rfl) (fun _ _ _ h => h) (by rfl) ?_ hHeld ?_
    rotate_left
    · (intro w_ hw_; (try dsimp only at hw_); go_simp; try with_reducible rfl)
    simp only [Act.put, List.setIfInBounds_toArray, List.set_cons_zero, List.set_cons_succ, List.getElem_toArray, List.getElem_cons_zero, List.getElem_cons_succ]
    refine hT (i := 10) (v := ?_) rfl (by kernel_rfl) (fun _ _ _ h => h) (by rfl) ?_ hHeld ?_
    rotate_left
    · (intro w_ hw_; (try dsimp only at hw_); go_simp; try with_reducible rfl)
    simp only [Act.put, List.setIfInBounds_toArray, List.set_cons_zero, List.set_cons_succ, List.getElem_toArray, List.getElem_cons_zero, List.getElem_cons_succ]
    refine hT (i := 11) (v := ?_) rfl (by kernel_rfl) (fun _ _ _ h => h) (by rfl) ?_ hHeld ?_
    rotate_left
    · (intro w_ hw_; (try dsimp only at hw_); go_simp; try with_reducible rfl)
    simp only [Act.put, List.setIfInBounds_toArray, List.set_cons_zero, List.set_cons_succ, List.getElem_toArray, List.getElem_cons_zero, List.getElem_cons_succ]
    refine hE (i := 12) rfl (by kernel_rfl) (by rfl) (fun K hK => ?_)
    go_simp
    refine hmp.out.mono ?_
    rintro e w1 ⟨⟨y, rfl⟩, hTm, hUm⟩
    have HTm := hide hTm
    have HUm := hide hUm
    refine hK.out _ _ ?_ (fun hHeld => ?_)
    · exact ⟨HUm.out.cell hHeld.1 hpg hpg, HUm.out.cell hHeld.2.1 hSg hSg, HUm.out.cell hHeld.2.2 hSg hSg⟩
    clear hK K
    refine wpAnyH_done (by kernel_rfl) ?_ _
    clear hHeld
    go_wp2_with fail
    go_ret
    exact ⟨rfl, HP.out.turn HUm.out HTm.out, hd.turn.trans (HUm.out.any rfl P)⟩
  have kb2 : (xk == 2) = false := by simpa using k2
  by_cases k1 : xk = 1 ∧ s.tick < 1048575
  · obtain ⟨rfl, hlt⟩ := k1
    have HZ := hide (show stays c t s ⟨1, xp, xd, xa, xb, xc, xs⟩ = (true, ⟨tickT s.tab, s.tick + 1⟩) by simp [stays, qc, hlt])
    rw [HZ.out]
    rw [qc] at hic
    have hts := hide (H.out.setTick (s.tick + 1))
    have hti := hide (tabTick _ T g cap c.quiet c.parts.length s.tab hts.out.tab (fun y hy => (Hok.out.tab.2.2 y hy).2.2) Hok.out.tab.2.1)
    have htk := Hok.out.tick
    have hw1 : IntKind.i64.wrap (s.tick + 1) = s.tick + 1 := IntWalk.i64_in _ (by omega)
    have e1' : (w.setCell ⟨P, 2, none⟩ (.int .i64 (s.tick + 1))).cell? ⟨P, 1, none⟩ = some (.pointer (some ⟨T, 0, none⟩)) := hts.out.hd.cell (i := 1) rfl
    clear qc hmv hf Hok how k3 k4 kb3 kb4 b34 k2 kb2
    go_enter Try.func76, Try.ntmps76
    go_wp2_with (first | ((with_reducible refine (Hid.out hic _).mono ?_); rintro e w' ⟨rfl, rfl⟩) | ((with_reducible refine (Hid.out hti).mono ?_); rintro e w' ⟨⟨y, rfl⟩, hTm, hUm⟩; have HTm := hide hTm; have HUm := hide hUm; clear hTm hUm))
    go_ret
    exact ⟨rfl, hts.out.turn HUm.out HTm.out, ((Turn.refl P g w).setP 2 _).trans (HUm.out.any rfl P)⟩
  · have HZ := hide (show stays c t s ⟨xk, xp, xd, xa, xb, xc, xs⟩ = (true, s) by
      have hb : (xk == 1 && decide (s.tick < 1048575)) = false := by
        cases h : xk == 1
        · rfl
        · have h1 : xk = 1 := by simpa using h
          have h2 : ¬ s.tick < 1048575 := fun h2 => k1 ⟨h1, h2⟩
          simp [h2]
      simp only [stays, qc, b34, kb2, hb, Bool.false_eq_true, if_false])
    rw [HZ.out]
    rw [qc] at hic
    clear qc hmv hf Hok how
    by_cases k1' : xk = 1
    · subst k1'
      have hge : ¬ s.tick < 1048575 := fun h => k1 ⟨rfl, h⟩
      clear k1 k2 k3 k4 kb2 kb3 kb4 b34
      go_enter Try.func76, Try.ntmps76
      go_wp2_with ((with_reducible refine (Hid.out hic _).mono ?_); rintro e w' ⟨rfl, rfl⟩)
      go_ret
      exact ⟨rfl, H.out, Turn.refl _ _ _⟩
    · have kb1 : (xk == 1) = false := by simpa using k1'
      clear k1
      go_enter Try.func76, Try.ntmps76
      go_wp2_with ((with_reducible refine (Hid.out hic _).mono ?_); rintro e w' ⟨rfl, rfl⟩)
      go_ret
      exact ⟨rfl, H.out, Turn.refl _ _ _⟩
end Go.Proofs.Ythjhkbnajclcjaa
