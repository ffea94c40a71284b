/- caissonlaw23.Plain, caissonlaw23.awake: it answers true. -/
import Derived.Test.YthjhkbnajclcjaaPurgeW
import Derived.Test.YthjhkbnajclcjaaAwake
set_option linter.unusedSimpArgs false
namespace Go.Proofs.Ythjhkbnajclcjaa
open Go.RowKit

set_option maxHeartbeats 4000000 in
theorem plain23_calls (w : World) : Calls Try.prog 41 #[] w fun e w' => e = .returned (plainVal w.heap.size) ∧ Bel w w' ∧ PlainAt w' w.heap.size := by
  go_enter Try.func41, Try.ntmps41
  go_wp2
  refine bodyPost_ret (v := plainVal w.heap.size) ?_ rfl ?_
  · exact results_cell_row rfl _ _ w.heap.size 27 #[vi 16, vs (w.heap.size + 4) 3, vs (w.heap.size + 7) 2, vi 6, vs (w.heap.size + 8) 3, vs (w.heap.size + 9) 1, vi 10, vi 6, vi 2] (0, 0) _ rfl (by simp only [heap_alloc_get, size_alloc, Nat.add_assoc, Nat.reduceAdd, Nat.add_left_cancel_iff, Nat.reduceEqDiff, Nat.left_eq_add, Nat.add_eq_left, Nat.add_right_cancel_iff, Nat.one_ne_zero, if_true, if_false, reduceIte]) Try.underlying27 rfl info_Config
  refine ⟨rfl, by repeat (first | exact bel_refl _ | refine Bel.alloc ?_ _), ?_, ?_, ?_, ?_, ?_, ?_, ?_, ?_, ?_⟩
  all_goals (unfold BlkAt; simp only [heap_alloc_get, size_alloc, Nat.add_assoc, Nat.reduceAdd, Nat.add_left_cancel_iff, Nat.reduceEqDiff, Nat.left_eq_add, Nat.add_eq_left, Nat.add_right_cancel_iff, Nat.one_ne_zero, if_true, if_false, reduceIte])
theorem plain23_calls' (w : World) : Calls Try.prog 41 #[] w fun e w' => e = .returned (.agg #[.int .i64 16, .slice (some ⟨w.heap.size + 4, 0, none⟩) 3 3, .slice (some ⟨w.heap.size + 7, 0, none⟩) 2 2, .int .i64 6, .slice (some ⟨w.heap.size + 8, 0, none⟩) 3 3, .slice (some ⟨w.heap.size + 9, 0, none⟩) 1 1, .int .i64 10, .int .i64 6, .int .i64 2]) ∧ Hid (Bel w w') ∧ Hid (PlainAt w' w.heap.size) ∧ w.heap.size + 10 ≤ w'.heap.size :=
  (plain23_calls w).mono fun _ _ ⟨h1, h2, h3⟩ => ⟨h1, hide h2, hide h3, Nat.succ_le_of_lt h3.b_gs.lt⟩
theorem kconfig_of {W : World} {v : Value} {c : Config} (h : CfgV W v c) : ∃ cs : List Value, v = .agg cs.toArray ∧ kConfig.K W c cs := h
def kd (k : Int) : Step := ⟨k, 0, 0, 0, 0, 0, ⟨#[]⟩⟩
def aw1 : List Step := [⟨9, 1, 0, 0, 0, 0, ⟨#[]⟩⟩, kd 1, ⟨3, 0, 1, 0, 0, 0, ⟨#[]⟩⟩, kd 3, kd 99]
def aw2 : List Step := [kd 0, kd 1, kd 0, kd 3, kd 99]
theorem aw_purge : purge plainCfg aw1 0 = aw2 := by kernel_rfl
theorem aw_err0 : purgeErr plainCfg 0 = 0 := by kernel_rfl
theorem aw_err3 : purgeErr plainCfg 3 = 2300 := by kernel_rfl
theorem fl_01 : flowsB plainCfg 0 1 = true := by kernel_rfl
theorem fl_10 : flowsB plainCfg 1 0 = false := by kernel_rfl
theorem fl_02 : flowsB plainCfg 0 2 = true := by kernel_rfl
theorem fl_20 : flowsB plainCfg 2 0 = false := by kernel_rfl
theorem fl_22 : flowsB plainCfg 2 2 = true := by kernel_rfl
theorem fl_12 : flowsB plainCfg 1 2 = false := by kernel_rfl
theorem fl_33 : flowsB plainCfg 3 3 = false := by kernel_rfl
def stepCells (s : Step) : List Value := [.int .i64 s.kind, .int .i64 s.part, .int .i64 s.device, .int .i64 s.a, .int .i64 s.b, .int .i64 s.c, .string s.data]
theorem steps_of_blk {W : World} {b : Nat} {t : TypeId} (xs : List Step) (hx : ∀ x ∈ xs, I64 x.kind ∧ I64 x.part ∧ I64 x.device ∧ I64 x.a ∧ I64 x.b ∧ I64 x.c ∧ x.data.size ≤ Top) (hb : BlkAt W b (xs.map stepCells).flatten t) (n c : Nat) (hn : n = xs.length) (hc : n ≤ c) (hc2 : c ≤ 9223372036854775807) : kStep.Sl W (.slice (some ⟨b, 0, none⟩) n c) xs := by
  refine Kind.Sl.of_blk kStep (xs.map stepCells) ?_ hb n c hn hc hc2
  clear hb hn
  induction xs with
  | nil => exact .nil
  | cons x xs ih => exact .cons ⟨rfl, hx x (by simp)⟩ (ih fun y hy => hx y (by simp [hy]))
theorem aw1_ok : ∀ x ∈ aw1, I64 x.kind ∧ I64 x.part ∧ I64 x.device ∧ I64 x.a ∧ I64 x.b ∧ I64 x.c ∧ x.data.size ≤ Top := by
  unfold aw1 kd
  simp only [List.mem_cons, List.mem_nil_iff, or_false]
  rintro x (rfl | rfl | rfl | rfl | rfl) <;> exact ⟨by decide, by decide, by decide, by decide, by decide, by decide, by decide⟩
theorem aw2_ok : ∀ x ∈ aw2, I64 x.kind ∧ I64 x.part ∧ I64 x.device ∧ I64 x.a ∧ I64 x.b ∧ I64 x.c ∧ x.data.size ≤ Top := by
  unfold aw2 kd
  simp only [List.mem_cons, List.mem_nil_iff, or_false]
  rintro x (rfl | rfl | rfl | rfl | rfl) <;> exact ⟨by decide, by decide, by decide, by decide, by decide, by decide, by decide⟩

set_option maxRecDepth 20000 in
set_option maxHeartbeats 16000000 in
theorem awake23_calls (w : World) : Calls Try.prog 40 #[] w fun e w' => e = .returned (.bool true) ∧ Bel w w' := by
  have hp := hide plain23_calls'
  have hn := hide num_calls
  go_enter Try.func40, Try.ntmps40
  go_upto_region 2 with ((with_reducible refine (Hid.out hp _).mono ?_); rintro e w1 ⟨rfl, hb1, hc1, hs1⟩)
  obtain ⟨W2, hW2⟩ : ∃ W2 : World, W2 = w1.alloc (.cells #[.int .i64 16, .slice (some ⟨w.heap.size + 4, 0, none⟩) 3 3, .slice (some ⟨w.heap.size + 7, 0, none⟩) 2 2, .int .i64 6, .slice (some ⟨w.heap.size + 8, 0, none⟩) 3 3, .slice (some ⟨w.heap.size + 9, 0, none⟩) 1 1, .int .i64 10, .int .i64 6, .int .i64 2] 27) := ⟨_, rfl⟩
  rw [← hW2]
  have HB2 := hide (show Bel w W2 by rw [hW2]; exact hb1.out.alloc _)
  have HX := hide fun W (hW : Bel W2 W) => show W.cell? ⟨w1.heap.size, 0, none⟩ = some (.int .i64 16) ∧ W.cell? ⟨w1.heap.size, 1, none⟩ = some (.slice (some ⟨w.heap.size + 4, 0, none⟩) 3 3) ∧ W.cell? ⟨w1.heap.size, 2, none⟩ = some (.slice (some ⟨w.heap.size + 7, 0, none⟩) 2 2) ∧ W.cell? ⟨w1.heap.size, 3, none⟩ = some (.int .i64 6) ∧ W.cell? ⟨w1.heap.size, 4, none⟩ = some (.slice (some ⟨w.heap.size + 8, 0, none⟩) 3 3) ∧ W.cell? ⟨w1.heap.size, 5, none⟩ = some (.slice (some ⟨w.heap.size + 9, 0, none⟩) 1 1) ∧ W.cell? ⟨w1.heap.size, 6, none⟩ = some (.int .i64 10) ∧ W.cell? ⟨w1.heap.size, 7, none⟩ = some (.int .i64 6) ∧ W.cell? ⟨w1.heap.size, 8, none⟩ = some (.int .i64 2) from by
    have hx := (show BoxAt W2 w1.heap.size (.int .i64 16) (.slice (some ⟨w.heap.size + 4, 0, none⟩) 3 3) (.slice (some ⟨w.heap.size + 7, 0, none⟩) 2 2) (.int .i64 6) (.slice (some ⟨w.heap.size + 8, 0, none⟩) 3 3) (.slice (some ⟨w.heap.size + 9, 0, none⟩) 1 1) (.int .i64 10) (.int .i64 6) (.int .i64 2) by rw [hW2]; exact box_new _ _ _ _ _ _ _ _ _ _ _).bel hW
    exact ⟨hx.k0, hx.k1, hx.k2, hx.k3, hx.k4, hx.k5, hx.k6, hx.k7, hx.k8⟩
  have CV := hide fun W (hW : Bel W2 W) => show CfgV W (.agg #[.int .i64 16, .slice (some ⟨w.heap.size + 4, 0, none⟩) 3 3, .slice (some ⟨w.heap.size + 7, 0, none⟩) 2 2, .int .i64 6, .slice (some ⟨w.heap.size + 8, 0, none⟩) 3 3, .slice (some ⟨w.heap.size + 9, 0, none⟩) 1 1, .int .i64 10, .int .i64 6, .int .i64 2]) plainCfg from PlainAt.k ((hc1.out.bel (show Bel w1 W2 by rw [hW2]; exact (bel_refl _).alloc _)).bel hW)
  clear hW2 hb1 hc1 hp
  have hpu := hide fun W vs xs a (hW : Bel W2 W) hs hl => purge_p W _ vs plainCfg xs a (CV.out W hW) hs hl
  have hss := hide fun W v u (h1 : kStep.Sl W v aw2) (h2 : kStep.Sl W u aw2) => same_Steps W v u aw2 h1 h2
  have m01 := hide fun W (hW : Bel W2 W) => flows_p W _ plainCfg 0 1 (CV.out W hW)
  simp only [fl_01] at m01
  have m10 := hide fun W (hW : Bel W2 W) => flows_p W _ plainCfg 1 0 (CV.out W hW)
  simp only [fl_10] at m10
  have m02 := hide fun W (hW : Bel W2 W) => flows_p W _ plainCfg 0 2 (CV.out W hW)
  simp only [fl_02] at m02
  have m20 := hide fun W (hW : Bel W2 W) => flows_p W _ plainCfg 2 0 (CV.out W hW)
  simp only [fl_20] at m20
  have m22 := hide fun W (hW : Bel W2 W) => flows_p W _ plainCfg 2 2 (CV.out W hW)
  simp only [fl_22] at m22
  have m12 := hide fun W (hW : Bel W2 W) => flows_p W _ plainCfg 1 2 (CV.out W hW)
  simp only [fl_12] at m12
  have m33 := hide fun W (hW : Bel W2 W) => flows_p W _ plainCfg 3 3 (CV.out W hW)
  simp only [fl_33] at m33
  clear CV
  obtain ⟨x0, x1, x2, x3, x4, x5, x6, x7, x8⟩ := HX.out W2 (bel_refl _)
  have hbk1 := hide (steps_of_blk aw1 aw1_ok (blk_new W2 [.int .i64 9, .int .i64 1, .int .i64 0, .int .i64 0, .int .i64 0, .int .i64 0, .string ⟨#[]⟩, .int .i64 1, .int .i64 0, .int .i64 0, .int .i64 0, .int .i64 0, .int .i64 0, .string ⟨#[]⟩, .int .i64 3, .int .i64 0, .int .i64 1, .int .i64 0, .int .i64 0, .int .i64 0, .string ⟨#[]⟩, .int .i64 3, .int .i64 0, .int .i64 0, .int .i64 0, .int .i64 0, .int .i64 0, .string ⟨#[]⟩, .int .i64 99, .int .i64 0, .int .i64 0, .int .i64 0, .int .i64 0, .int .i64 0, .string ⟨#[]⟩] 59) 5 5 rfl (by omega) (by omega))
  have p1 := hide (hpu.out _ _ aw1 0 ((bel_refl W2).alloc _) hbk1.out (by decide))
  simp only [aw_err0, aw_purge] at p1
  go_upto_region 3 with ((with_reducible refine (Hid.out p1).mono ?_); rintro e w3 ⟨v3, base3, rfl, hb3, hO3, hB3⟩; have HO3 := hide hO3; have j3 := hide (Bel.trans ((bel_refl W2).alloc _) hB3); clear hO3 hB3 hb3)
  clear x0 x1 x2 x3 x4 x5 x6 x7 x8 p1 hbk1
  obtain ⟨x0, x1, x2, x3, x4, x5, x6, x7, x8⟩ := HX.out w3 j3.out
  have p2 := hide (hpu.out _ _ [] 3 j3.out (nil_sl kStep w3) (by decide))
  simp only [aw_err3] at p2
  go_upto_region 4 with ((with_reducible refine (Hid.out p2).mono ?_); rintro e w4 ⟨v4, base4, rfl, -, -, hB4⟩; have b4 := hide hB4; have j4 := hide (Bel.trans j3.out hB4); clear hB4)
  clear x0 x1 x2 x3 x4 x5 x6 x7 x8 p2 hpu
  obtain ⟨x0, x1, x2, x3, x4, x5, x6, x7, x8⟩ := HX.out w4 j4.out
  have ma := hide fun W (hW : Bel w4 W) => hss.out (W.alloc (.cells #[.int .i64 0, .int .i64 0, .int .i64 0, .int .i64 0, .int .i64 0, .int .i64 0, .string ⟨#[]⟩, .int .i64 1, .int .i64 0, .int .i64 0, .int .i64 0, .int .i64 0, .int .i64 0, .string ⟨#[]⟩, .int .i64 0, .int .i64 0, .int .i64 0, .int .i64 0, .int .i64 0, .int .i64 0, .string ⟨#[]⟩, .int .i64 3, .int .i64 0, .int .i64 0, .int .i64 0, .int .i64 0, .int .i64 0, .string ⟨#[]⟩, .int .i64 99, .int .i64 0, .int .i64 0, .int .i64 0, .int .i64 0, .int .i64 0, .string ⟨#[]⟩] 59)) v3 (.slice (some ⟨W.heap.size, 0, none⟩) 5 5) (HO3.out.seg.sl.bel (Bel.trans b4.out (hW.alloc _))) (steps_of_blk aw2 aw2_ok (blk_new W [.int .i64 0, .int .i64 0, .int .i64 0, .int .i64 0, .int .i64 0, .int .i64 0, .string ⟨#[]⟩, .int .i64 1, .int .i64 0, .int .i64 0, .int .i64 0, .int .i64 0, .int .i64 0, .string ⟨#[]⟩, .int .i64 0, .int .i64 0, .int .i64 0, .int .i64 0, .int .i64 0, .int .i64 0, .string ⟨#[]⟩, .int .i64 3, .int .i64 0, .int .i64 0, .int .i64 0, .int .i64 0, .int .i64 0, .string ⟨#[]⟩, .int .i64 99, .int .i64 0, .int .i64 0, .int .i64 0, .int .i64 0, .int .i64 0, .string ⟨#[]⟩] 59) 5 5 rfl (by omega) (by omega))
  go_wp2_with (first
    | ((with_reducible refine (Hid.out m01 _ j4.out).mono ?_); rintro e u0 ⟨rfl, i0⟩; have k0 := hide (Bel.trans (bel_refl w4) i0); have n0 := hide (Bel.trans j4.out i0); clear i0; obtain ⟨y00, y01, y02, y03, y04, y05, y06, y07, y08⟩ := HX.out _ n0.out)
    | ((with_reducible refine (Hid.out m10 _ n0.out).mono ?_); rintro e u1 ⟨rfl, i1⟩; have k1 := hide (Bel.trans k0.out i1); have n1 := hide (Bel.trans n0.out i1); clear i1; obtain ⟨y10, y11, y12, y13, y14, y15, y16, y17, y18⟩ := HX.out _ n1.out)
    | ((with_reducible refine (Hid.out m02 _ n1.out).mono ?_); rintro e u2 ⟨rfl, i2⟩; have k2 := hide (Bel.trans k1.out i2); have n2 := hide (Bel.trans n1.out i2); clear i2; obtain ⟨y20, y21, y22, y23, y24, y25, y26, y27, y28⟩ := HX.out _ n2.out)
    | ((with_reducible refine (Hid.out m20 _ n2.out).mono ?_); rintro e u3 ⟨rfl, i3⟩; have k3 := hide (Bel.trans k2.out i3); have n3 := hide (Bel.trans n2.out i3); clear i3; obtain ⟨y30, y31, y32, y33, y34, y35, y36, y37, y38⟩ := HX.out _ n3.out)
    | ((with_reducible refine (Hid.out m22 _ n3.out).mono ?_); rintro e u4 ⟨rfl, i4⟩; have k4 := hide (Bel.trans k3.out i4); have n4 := hide (Bel.trans n3.out i4); clear i4; obtain ⟨y40, y41, y42, y43, y44, y45, y46, y47, y48⟩ := HX.out _ n4.out)
    | ((with_reducible refine (Hid.out m12 _ n4.out).mono ?_); rintro e u5 ⟨rfl, i5⟩; have k5 := hide (Bel.trans k4.out i5); have n5 := hide (Bel.trans n4.out i5); clear i5; obtain ⟨y50, y51, y52, y53, y54, y55, y56, y57, y58⟩ := HX.out _ n5.out)
    | ((with_reducible refine (Hid.out m33 _ n5.out).mono ?_); rintro e u6 ⟨rfl, i6⟩; have k6 := hide (Bel.trans k5.out i6); have n6 := hide (Bel.trans n5.out i6); clear i6; obtain ⟨y60, y61, y62, y63, y64, y65, y66, y67, y68⟩ := HX.out _ n6.out)
    | ((with_reducible refine (Hid.out ma _ k6.out).mono ?_); rintro e u9 ⟨rfl, i9⟩; have n9 := hide (Bel.trans (n6.out.alloc _) i9); clear i9)
    | ((with_reducible refine (Hid.out hn _ _).mono ?_); rintro e u10 ⟨rfl, rfl⟩))
  go_ret
  exact ⟨rfl, Bel.trans HB2.out n9.out⟩
end Go.Proofs.Ythjhkbnajclcjaa
