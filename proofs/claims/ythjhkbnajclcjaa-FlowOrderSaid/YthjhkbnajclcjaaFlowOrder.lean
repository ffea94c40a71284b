/- caissonlaw23.FlowOrder: the walk. -/
import Derived.Test.YthjhkbnajclcjaaAwake23
import Derived.Test.YthjhkbnajclcjaaGrP
set_option linter.unusedSimpArgs false
namespace Go.Proofs.Ythjhkbnajclcjaa
open Go.RowKit

theorem flowsB_no {c : Config} (h : c.parts.length = 0 ∨ flowsB c 0 0 = false) (a b : Int) : flowsB c a b = false := by
  have h2 : mayCfg c = false ∨ c.parts.length = 0 := by
    rcases h with h | h
    · exact .inr h
    · cases hm : mayCfg c
      · exact .inl rfl
      · right
        have hp := mayCfg_parts hm
        have ht : there c 0 = true := by rw [there_iff]; omega
        unfold flowsB at h
        rw [hm, ht] at h
        have hr : flowsRow c 0 0 = true := (rowB_iff (by omega) (by omega)).2 .here
        simp [hr] at h
  unfold flowsB
  rcases h2 with h2 | h2
  · rw [h2]; rfl
  · have ht : there c a = false := by rw [← Bool.not_eq_true, there_iff]; omega
    rw [ht]; simp
theorem flowsB_in {c : Config} (h : flowsB c 0 0 = true) {x y : Nat} (hx : x < c.parts.length) (hy : y < c.parts.length) : flowsB c x y = flowsRow c x y := by
  have hm : mayCfg c = true := by unfold flowsB at h; revert h; cases mayCfg c <;> simp
  have h1 : there c x = true := by rw [there_iff]; omega
  have h2 : there c y = true := by rw [there_iff]; omega
  unfold flowsB
  rw [hm, h1, h2]
  simp
theorem flowsB_out1 (c : Config) (a b : Int) (h : there c a = false) : flowsB c a b = false := by unfold flowsB; rw [h]; simp
theorem flowsB_out2 (c : Config) (a b : Int) (h : there c b = false) : flowsB c a b = false := by unfold flowsB; rw [h]; simp
theorem flowsRow_refl {c : Config} {x : Nat} (hx : x < c.parts.length) : flowsRow c x x = true := (rowB_iff hx hx).2 .here
theorem flowsRow_trans {c : Config} {x y z : Nat} (hx : x < c.parts.length) (hy : y < c.parts.length) (hz : z < c.parts.length) (h1 : flowsRow c x y = true) (h2 : flowsRow c y z = true) : flowsRow c x z = true :=
  (rowB_iff hx hz).2 (Rch.trans ((rowB_iff hx hy).1 h1) ((rowB_iff hy hz).1 h2))
theorem umodI (x k : Int) (hk : 0 < k) (hk2 : k ≤ 4611686018427387904) : ∃ f : Nat, IntKind.i64.wrap ((IntKind.u64.wrap x).tmod k) = (f : Int) ∧ (f : Int) < k := by
  have h1 := Int.tmod_nonneg k (wrap_u64_nonneg x)
  have h2 := Int.tmod_lt_of_pos (IntKind.u64.wrap x) hk
  exact ⟨((IntKind.u64.wrap x).tmod k).toNat, by rw [IntWalk.i64_in _ (by omega)]; omega, by omega⟩
theorem flowsB_may {c : Config} {a b : Int} (h : flowsB c a b = true) : mayCfg c = true := by unfold flowsB at h; revert h; cases mayCfg c <;> simp

set_option maxRecDepth 20000 in
set_option maxHeartbeats 16000000 in
theorem flowOrder_law (v : Value) (c : Config) (a b d : Int) (w : World) (h : CfgV w v c) : Calls Try.prog 8 #[v, .int .i64 a, .int .i64 b, .int .i64 d] w fun e w' => e = .returned (.bool true) ∧ Bel w w' := by
  obtain ⟨A1, A2, A3, A4, b1, o1, n1, b2, o2, n2, b3, o3, n3, b4, o4, n4, rfl, HC, HR1, HR2, HR3, HR4, HS1, HS2, HS3, HS4, hA1, hA2, hA3, hA4, hL1, hL2, hL3, hL4⟩ := h.parts4
  have hfl := hide fun W p q (hW : Bel w W) => flows_p W _ c p q (h.bel hW)
  have ha := hide awake23_calls
  clear h HC HR1 HR2 HR3 HR4 HS1 HS2 HS3 HS4 hA1 hA2 hA3 hA4 hL2 hL3 hL4
  go_enter Try.func8, Try.ntmps8
  go_upto_region 1 with fail
  obtain ⟨W1, hW1⟩ : ∃ W1 : World, W1 = w.alloc (.cells #[.int .i64 c.frames, .slice A1 c.parts.length n1, .slice A2 c.devices.length n2, .int .i64 c.major, .slice A3 c.windows.length n3, .slice A4 c.grants.length n4, .int .i64 c.sectors, .int .i64 c.quota, .int .i64 c.quiet] 27) := ⟨_, rfl⟩
  rw [← hW1]
  have HB1 := hide (show Bel w W1 by rw [hW1]; exact (bel_refl w).alloc _)
  have HX := hide fun W (hW : Bel W1 W) => show W.cell? ⟨w.heap.size, 0, none⟩ = some (.int .i64 c.frames) ∧ W.cell? ⟨w.heap.size, 1, none⟩ = some (.slice A1 c.parts.length n1) ∧ W.cell? ⟨w.heap.size, 2, none⟩ = some (.slice A2 c.devices.length n2) ∧ W.cell? ⟨w.heap.size, 3, none⟩ = some (.int .i64 c.major) ∧ W.cell? ⟨w.heap.size, 4, none⟩ = some (.slice A3 c.windows.length n3) ∧ W.cell? ⟨w.heap.size, 5, none⟩ = some (.slice A4 c.grants.length n4) ∧ W.cell? ⟨w.heap.size, 6, none⟩ = some (.int .i64 c.sectors) ∧ W.cell? ⟨w.heap.size, 7, none⟩ = some (.int .i64 c.quota) ∧ W.cell? ⟨w.heap.size, 8, none⟩ = some (.int .i64 c.quiet) from by
    have hx := (show BoxAt W1 w.heap.size (.int .i64 c.frames) (.slice A1 c.parts.length n1) (.slice A2 c.devices.length n2) (.int .i64 c.major) (.slice A3 c.windows.length n3) (.slice A4 c.grants.length n4) (.int .i64 c.sectors) (.int .i64 c.quota) (.int .i64 c.quiet) by rw [hW1]; exact box_new _ _ _ _ _ _ _ _ _ _ _).bel hW
    exact ⟨hx.k0, hx.k1, hx.k2, hx.k3, hx.k4, hx.k5, hx.k6, hx.k7, hx.k8⟩
  clear hW1
  go_upto_region 3 with ((with_reducible refine (Hid.out ha _).mono ?_); rintro e w0 ⟨rfl, hb0⟩; have m0 := hide hb0; clear hb0)
  have hfl := hide fun W p q (hW : Bel W1 W) => hfl.out W p q (Bel.trans HB1.out hW)
  obtain ⟨x0, x1, x2, x3, x4, x5, x6, x7, x8⟩ := HX.out _ m0.out
  clear ha
  by_cases hk0 : c.parts.length = 0
  · have hk0i : ((c.parts.length : Int)) = 0 := by omega
    have hz := hide (flowsB_no (.inl hk0) a b)
    have h1 := hide (hfl.out w0 a b m0.out)
    rw [hz.out] at h1
    clear hfl
    simp only [hk0] at *
    go_wp2_with ((with_reducible refine (Hid.out h1).mono ?_); rintro e w2 ⟨rfl, hi⟩)
    go_ret
    exact ⟨rfl, Bel.trans HB1.out (Bel.trans m0.out hi)⟩
  cases q0 : flowsB c 0 0
  · have h0 := hide (hfl.out w0 0 0 m0.out)
    have h1 := hide fun W (hW : Bel W1 W) => hfl.out W a b hW
    rw [q0] at h0
    simp only [flowsB_no (.inr q0)] at h1
    have hk0i : ¬ ((c.parts.length : Int)) = 0 := by omega
    clear q0 hfl
    go_wp2_with (first | ((with_reducible refine (Hid.out h0).mono ?_); rintro e w2 ⟨rfl, hi⟩; have m2 := hide (Bel.trans m0.out hi); clear hi; obtain ⟨y0, y1, y2, y3, y4, y5, y6, y7, y8⟩ := HX.out _ m2.out) | ((with_reducible refine (Hid.out h1 _ m2.out).mono ?_); rintro e w3 ⟨rfl, hi⟩))
    go_ret
    exact ⟨rfl, Bel.trans HB1.out (Bel.trans m2.out hi)⟩
  have hk0i : ¬ ((c.parts.length : Int)) = 0 := by omega
  have h0 := hide (hfl.out w0 0 0 m0.out)
  rw [q0] at h0
  obtain ⟨hp1, hp4⟩ := mayCfg_parts (flowsB_may q0)
  obtain ⟨x, hx, hxl⟩ := umodI a c.parts.length (by omega) (by omega)
  obtain ⟨y, hy, hyl⟩ := umodI b c.parts.length (by omega) (by omega)
  obtain ⟨z, hz, hzl⟩ := umodI d c.parts.length (by omega) (by omega)
  have hxn : x < c.parts.length := by omega
  have hyn : y < c.parts.length := by omega
  have hzn : z < c.parts.length := by omega
  have hpi1 : (1 : Int) ≤ (c.parts.length : Int) := by omega
  have hpi4 : (c.parts.length : Int) ≤ 4 := by omega
  have f1 := hide fun W (hW : Bel W1 W) => hfl.out W x x hW
  rw [flowsB_in q0 hxn hxn, flowsRow_refl hxn] at f1
  have f2 := hide fun W (hW : Bel W1 W) => hfl.out W x c.parts.length hW
  rw [flowsB_out2 c _ _ (by rw [← Bool.not_eq_true, there_iff]; omega)] at f2
  have f3 := hide fun W (hW : Bel W1 W) => hfl.out W (-1) x hW
  rw [flowsB_out1 c _ _ (by rw [← Bool.not_eq_true, there_iff]; omega)] at f3
  have f4 := hide fun W (hW : Bel W1 W) => hfl.out W x y hW
  have f5 := hide fun W (hW : Bel W1 W) => hfl.out W y z hW
  have f6 := hide fun W (hW : Bel W1 W) => hfl.out W x z hW
  rw [flowsB_in q0 hxn hyn] at f4
  rw [flowsB_in q0 hyn hzn] at f5
  rw [flowsB_in q0 hxn hzn] at f6
  have HT := hide fun h1 h2 => flowsRow_trans hxn hyn hzn h1 h2
  generalize flowsRow c x y = q4 at f4 HT
  generalize flowsRow c y z = q5 at f5 HT
  generalize flowsRow c x z = q6 at f6 HT
  have Hx := hide hx
  have Hy := hide hy
  have Hz := hide hz
  clear hfl q0 hx hy hz hp1 hp4
  go_upto_region 6 with ((with_reducible refine (Hid.out h0).mono ?_); rintro e w2 ⟨rfl, hi⟩; have m2 := hide (Bel.trans m0.out hi); clear hi; obtain ⟨y0, y1, y2, y3, y4, y5, y6, y7, y8⟩ := HX.out _ m2.out)
  all_goals try (exfalso; omega)
  have hwu : IntKind.u64.wrap (c.parts.length : Int) = (c.parts.length : Int) := by first | exact IntWalk.u64_in _ (by omega) | (simp [IntKind.wrap, IntKind.signed]; omega)
  clear h0 x0 x1 x2 x3 x4 x5 x6 x7 x8
  refine wp_region_held_drew (S := fun _ => True) (by kernel_rfl) ?_ (fun hHeld => ?_)
  · exact trivial
  refine hT (i := 0) (v := ?_) rfl (by kernel_rfl) (fun _ _ _ h => h) (by rfl) ?_ hHeld ?_
  rotate_left
  · (intro w_ hw_; (try dsimp only at hw_); go_simp; try with_reducible rfl)
  simp only [Act.put, List.setIfInBounds_toArray, List.set_cons_zero, List.set_cons_succ, List.getElem_toArray, List.getElem_cons_zero]
  refine hT (i := 1) (v := ?_) rfl (by kernel_rfl) (fun _ _ _ h => h) (by rfl) ?_ hHeld ?_
  rotate_left
  · (intro w_ hw_; (try dsimp only at hw_); go_simp; try with_reducible rfl)
  simp only [Act.put, List.setIfInBounds_toArray, List.set_cons_zero, List.set_cons_succ, List.getElem_toArray, List.getElem_cons_zero, List.getElem_cons_succ]
  refine hT (i := 2) (v := ?_) rfl (by kernel_rfl) (fun _ _ _ h => h) (by rfl) ?_ hHeld ?_
  rotate_left
  · (intro w_ hw_; (try dsimp only at hw_); go_simp; try with_reducible rfl)
  simp only [Act.put, List.setIfInBounds_toArray, List.set_cons_zero, List.set_cons_succ, List.getElem_toArray, List.getElem_cons_zero, List.getElem_cons_succ]
  refine hT (i := 3) (v := ?_) rfl (by kernel_rfl) (fun _ _ _ h => h) (by rfl) ?_ hHeld ?_
  rotate_left
  · (intro w_ hw_; (try dsimp only at hw_); go_simp; try with_reducible rfl)
  simp only [Act.put, List.setIfInBounds_toArray, List.set_cons_zero, List.set_cons_succ, List.getElem_toArray, List.getElem_cons_zero, List.getElem_cons_succ]
  refine hT (i := 4) (v := ?_) rfl (by kernel_rfl) (fun _ _ _ h => h) (by rfl) ?_ hHeld ?_
  rotate_left
  · (intro w_ hw_; (try dsimp only at hw_); go_simp; try with_reducible rfl)
  simp only [Act.put, List.setIfInBounds_toArray, List.set_cons_zero, List.set_cons_succ, List.getElem_toArray, List.getElem_cons_zero, List.getElem_cons_succ]
  refine hT (i := 5) (v := ?_) rfl (by kernel_rfl) (fun _ _ _ h => h) (by rfl) ?_ hHeld ?_
  rotate_left
  · (intro w_ hw_; (try dsimp only at hw_); go_simp; try with_reducible rfl)
  simp only [Act.put, List.setIfInBounds_toArray, List.set_cons_zero, List.set_cons_succ, List.getElem_toArray, List.getElem_cons_zero, List.getElem_cons_succ]
  refine hT (i := 6) (v := ?_) rfl (by kernel_rfl) (fun _ _ _ h => h) (by rfl) ?_ hHeld ?_
  rotate_left
  · (intro w_ hw_; (try dsimp only at hw_); go_simp; try with_reducible rfl)
  simp only [Act.put, List.setIfInBounds_toArray, List.set_cons_zero, List.set_cons_succ, List.getElem_toArray, List.getElem_cons_zero, List.getElem_cons_succ]
  refine hT (i := 7) (v := ?_) rfl (by kernel_rfl) (fun _ _ _ h => h) (by rfl) ?_ hHeld ?_
  rotate_left
  · (intro w_ hw_; (try dsimp only at hw_); go_simp; try with_reducible rfl)
  simp only [Act.put, List.setIfInBounds_toArray, List.set_cons_zero, List.set_cons_succ, List.getElem_toArray, List.getElem_cons_zero, List.getElem_cons_succ]
  refine hT (i := 8) (v := ?_) rfl (by kernel_rfl) (fun _ _ _ h => h) (by rfl) ?_ hHeld ?_
  rotate_left
  · (intro w_ hw_; (try dsimp only at hw_); go_simp; try with_reducible rfl)
  simp only [Act.put, List.setIfInBounds_toArray, List.set_cons_zero, List.set_cons_succ, List.getElem_toArray, List.getElem_cons_zero, List.getElem_cons_succ]
  refine hT (i := 9) (v := ?_) rfl (by kernel_rfl) (fun _ _ _ h => h) (by rfl) ?_ hHeld ?_
  rotate_left
  · (intro w_ hw_; (try dsimp only at hw_); go_simp; try with_reducible rfl)
  simp only [Act.put, List.setIfInBounds_toArray, List.set_cons_zero, List.set_cons_succ, List.getElem_toArray, List.getElem_cons_zero, List.getElem_cons_succ]
  refine hT (i := 10) (v := ?_) rfl (by kernel_rfl) (fun _ _ _ h => h) (by rfl) ?_ hHeld ?_
  rotate_left
  · (intro w_ hw_; (try dsimp only at hw_); go_simp; try with_reducible rfl)
  simp only [Act.put, List.setIfInBounds_toArray, List.set_cons_zero, List.set_cons_succ, List.getElem_toArray, List.getElem_cons_zero, List.getElem_cons_succ]
  refine hT (i := 11) (v := ?_) rfl (by kernel_rfl) (fun _ _ _ h => h) (by rfl) ?_ hHeld ?_
  rotate_left
  · (intro w_ hw_; (try dsimp only at hw_); go_simp; try with_reducible rfl)
  simp only [Act.put, List.setIfInBounds_toArray, List.set_cons_zero, List.set_cons_succ, List.getElem_toArray, List.getElem_cons_zero, List.getElem_cons_succ]
  refine hT (i := 12) (v := ?_) rfl (by kernel_rfl) (fun _ _ _ h => h) (by rfl) ?_ hHeld ?_
  rotate_left
  · (intro w_ hw_; (try dsimp only at hw_); go_simp; try with_reducible rfl)
  simp only [Act.put, List.setIfInBounds_toArray, List.set_cons_zero, List.set_cons_succ, List.getElem_toArray, List.getElem_cons_zero, List.getElem_cons_succ]
  refine hT (i := 13) (v := ?_) rfl (by kernel_rfl) (fun _ _ _ h => h) (by rfl) ?_ hHeld ?_
  rotate_left
  · (intro w_ hw_; (try dsimp only at hw_); go_simp; try with_reducible rfl)
  simp only [Act.put, List.setIfInBounds_toArray, List.set_cons_zero, List.set_cons_succ, List.getElem_toArray, List.getElem_cons_zero, List.getElem_cons_succ]
  refine hT (i := 14) (v := ?_) rfl (by kernel_rfl) (fun _ _ _ h => h) (by rfl) ?_ hHeld ?_
  rotate_left
  · (intro w_ hw_; (try dsimp only at hw_); go_simp; try with_reducible rfl)
  simp only [Act.put, List.setIfInBounds_toArray, List.set_cons_zero, List.set_cons_succ, List.getElem_toArray, List.getElem_cons_zero, List.getElem_cons_succ]
  refine hT (i := 15) (v := ?_) rfl (by kernel_rfl) (fun _ _ _ h => h) (by rfl) ?_ hHeld ?_
  rotate_left
  · (intro w_ hw_; (try dsimp only at hw_); go_simp; try with_reducible rfl)
  simp only [Act.put, List.setIfInBounds_toArray, List.set_cons_zero, List.set_cons_succ, List.getElem_toArray, List.getElem_cons_zero, List.getElem_cons_succ]
  refine hT (i := 16) (v := ?_) rfl (by kernel_rfl) (fun _ _ _ h => h) (by rfl) ?_ hHeld ?_
  rotate_left
  · (intro w_ hw_; (try dsimp only at hw_); go_simp; try with_reducible rfl)
  simp only [Act.put, List.setIfInBounds_toArray, List.set_cons_zero, List.set_cons_succ, List.getElem_toArray, List.getElem_cons_zero, List.getElem_cons_succ]
  refine hT (i := 17) (v := ?_) rfl (by kernel_rfl) (fun _ _ _ h => h) (by rfl) ?_ hHeld ?_
  rotate_left
  · (intro w_ hw_; (try dsimp only at hw_); go_simp; try with_reducible rfl)
  simp only [Act.put, List.setIfInBounds_toArray, List.set_cons_zero, List.set_cons_succ, List.getElem_toArray, List.getElem_cons_zero, List.getElem_cons_succ]
  refine hT (i := 18) (v := ?_) rfl (by kernel_rfl) (fun _ _ _ h => h) (by rfl) ?_ hHeld ?_
  rotate_left
  · (intro w_ hw_; (try dsimp only at hw_); go_simp; try with_reducible rfl)
  simp only [Act.put, List.setIfInBounds_toArray, List.set_cons_zero, List.set_cons_succ, List.getElem_toArray, List.getElem_cons_zero, List.getElem_cons_succ]
  refine hT (i := 19) (v := ?_) rfl (by kernel_rfl) (fun _ _ _ h => h) (by rfl) ?_ hHeld ?_
  rotate_left
  · (intro w_ hw_; (try dsimp only at hw_); go_simp; try with_reducible rfl)
  simp only [Act.put, List.setIfInBounds_toArray, List.set_cons_zero, List.set_cons_succ, List.getElem_toArray, List.getElem_cons_zero, List.getElem_cons_succ]
  refine hT (i := 20) (v := ?_) rfl (by kernel_rfl) (fun _ _ _ h => h) (by rfl) ?_ hHeld ?_
  rotate_left
  · (intro w_ hw_; (try dsimp only at hw_); go_simp; try with_reducible rfl)
  simp only [Act.put, List.setIfInBounds_toArray, List.set_cons_zero, List.set_cons_succ, List.getElem_toArray, List.getElem_cons_zero, List.getElem_cons_succ]
  refine wpAnyH_done (by kernel_rfl) ?_ _
  rw [Hx.out, Hy.out, Hz.out]
  clear hHeld
  have hd := hide (show Bel W1 w2.drew from m2.out.drew)
  have m2d := hide (show Bel W1 w2.drew from m2.out.drew)
  cases q4
  · go_wp2_with (first | ((with_reducible refine (Hid.out f1 _ m2d.out).mono ?_); rintro e ua ⟨rfl, ia⟩; have ma := hide (Bel.trans m2d.out ia); clear ia; obtain ⟨ya_0, ya_1, ya_2, ya_3, ya_4, ya_5, ya_6, ya_7, ya_8⟩ := HX.out _ ma.out) | ((with_reducible refine (Hid.out f2 _ ma.out).mono ?_); rintro e ub ⟨rfl, ib⟩; have mb := hide (Bel.trans ma.out ib); clear ib; obtain ⟨yb_0, yb_1, yb_2, yb_3, yb_4, yb_5, yb_6, yb_7, yb_8⟩ := HX.out _ mb.out) | ((with_reducible refine (Hid.out f3 _ mb.out).mono ?_); rintro e uc ⟨rfl, ic⟩; have mc := hide (Bel.trans mb.out ic); clear ic; obtain ⟨yc_0, yc_1, yc_2, yc_3, yc_4, yc_5, yc_6, yc_7, yc_8⟩ := HX.out _ mc.out) | ((with_reducible refine (Hid.out f4 _ mc.out).mono ?_); rintro e ud0 ⟨rfl, id0⟩; have md0 := hide (Bel.trans mc.out id0); clear id0; obtain ⟨yd0_0, yd0_1, yd0_2, yd0_3, yd0_4, yd0_5, yd0_6, yd0_7, yd0_8⟩ := HX.out _ md0.out))
    go_ret
    exact ⟨rfl, Bel.trans HB1.out md0.out⟩
  cases q5
  · go_wp2_with (first | ((with_reducible refine (Hid.out f1 _ m2d.out).mono ?_); rintro e ua ⟨rfl, ia⟩; have ma := hide (Bel.trans m2d.out ia); clear ia; obtain ⟨ya_0, ya_1, ya_2, ya_3, ya_4, ya_5, ya_6, ya_7, ya_8⟩ := HX.out _ ma.out) | ((with_reducible refine (Hid.out f2 _ ma.out).mono ?_); rintro e ub ⟨rfl, ib⟩; have mb := hide (Bel.trans ma.out ib); clear ib; obtain ⟨yb_0, yb_1, yb_2, yb_3, yb_4, yb_5, yb_6, yb_7, yb_8⟩ := HX.out _ mb.out) | ((with_reducible refine (Hid.out f3 _ mb.out).mono ?_); rintro e uc ⟨rfl, ic⟩; have mc := hide (Bel.trans mb.out ic); clear ic; obtain ⟨yc_0, yc_1, yc_2, yc_3, yc_4, yc_5, yc_6, yc_7, yc_8⟩ := HX.out _ mc.out) | ((with_reducible refine (Hid.out f4 _ mc.out).mono ?_); rintro e ud0 ⟨rfl, id0⟩; have md0 := hide (Bel.trans mc.out id0); clear id0; obtain ⟨yd0_0, yd0_1, yd0_2, yd0_3, yd0_4, yd0_5, yd0_6, yd0_7, yd0_8⟩ := HX.out _ md0.out) | ((with_reducible refine (Hid.out f5 _ md0.out).mono ?_); rintro e ud1 ⟨rfl, id1⟩; have md1 := hide (Bel.trans md0.out id1); clear id1; obtain ⟨yd1_0, yd1_1, yd1_2, yd1_3, yd1_4, yd1_5, yd1_6, yd1_7, yd1_8⟩ := HX.out _ md1.out))
    go_ret
    exact ⟨rfl, Bel.trans HB1.out md1.out⟩
  obtain rfl : q6 = true := HT.out rfl rfl
  go_wp2_with (first | ((with_reducible refine (Hid.out f1 _ m2d.out).mono ?_); rintro e ua ⟨rfl, ia⟩; have ma := hide (Bel.trans m2d.out ia); clear ia; obtain ⟨ya_0, ya_1, ya_2, ya_3, ya_4, ya_5, ya_6, ya_7, ya_8⟩ := HX.out _ ma.out) | ((with_reducible refine (Hid.out f2 _ ma.out).mono ?_); rintro e ub ⟨rfl, ib⟩; have mb := hide (Bel.trans ma.out ib); clear ib; obtain ⟨yb_0, yb_1, yb_2, yb_3, yb_4, yb_5, yb_6, yb_7, yb_8⟩ := HX.out _ mb.out) | ((with_reducible refine (Hid.out f3 _ mb.out).mono ?_); rintro e uc ⟨rfl, ic⟩; have mc := hide (Bel.trans mb.out ic); clear ic; obtain ⟨yc_0, yc_1, yc_2, yc_3, yc_4, yc_5, yc_6, yc_7, yc_8⟩ := HX.out _ mc.out) | ((with_reducible refine (Hid.out f4 _ mc.out).mono ?_); rintro e ud0 ⟨rfl, id0⟩; have md0 := hide (Bel.trans mc.out id0); clear id0; obtain ⟨yd0_0, yd0_1, yd0_2, yd0_3, yd0_4, yd0_5, yd0_6, yd0_7, yd0_8⟩ := HX.out _ md0.out) | ((with_reducible refine (Hid.out f5 _ md0.out).mono ?_); rintro e ud1 ⟨rfl, id1⟩; have md1 := hide (Bel.trans md0.out id1); clear id1; obtain ⟨yd1_0, yd1_1, yd1_2, yd1_3, yd1_4, yd1_5, yd1_6, yd1_7, yd1_8⟩ := HX.out _ md1.out) | ((with_reducible refine (Hid.out f6 _ md1.out).mono ?_); rintro e ud2 ⟨rfl, id2⟩; have md2 := hide (Bel.trans md1.out id2); clear id2; obtain ⟨yd2_0, yd2_1, yd2_2, yd2_3, yd2_4, yd2_5, yd2_6, yd2_7, yd2_8⟩ := HX.out _ md2.out))
  go_ret
  exact ⟨rfl, Bel.trans HB1.out md2.out⟩
end Go.Proofs.Ythjhkbnajclcjaa
