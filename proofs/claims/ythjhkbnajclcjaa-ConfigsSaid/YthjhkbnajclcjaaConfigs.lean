/- caissonlaw21.Configs: the walk. -/
import Derived.Test.YthjhkbnajclcjaaRMay
import Derived.Test.YthjhkbnajclcjaaSame
import Derived.Test.YthjhkbnajclcjaaCopy
import Derived.Test.YthjhkbnajclcjaaAwake
import Derived.Test.YthjhkbnajclcjaaDraw
set_option linter.unusedSimpArgs false
namespace Go.Proofs.Ythjhkbnajclcjaa
open Go.RowKit

set_option maxRecDepth 20000 in
set_option maxHeartbeats 16000000 in
theorem configs_law (v : Value) (c : Config) (part at_ n : Int) (w : World) (h : CfgV w v c) (hF : FitCfg c) (hat : I64 at_) (hn : I64 n) :
    Calls Try.prog 3 #[v, .int .i64 part, .int .i64 at_, .int .i64 n] w fun e w' => e = .returned (.bool true) ∧ Bel w w' := by
  obtain ⟨A1, A2, A3, A4, b1, o1, n1, b2, o2, n2, b3, o3, n3, b4, o4, n4, rfl, HC, -⟩ := h.parts4
  have hcp := hide fun W (hW : Bel w W) => copyConfig_calls W _ c (h.bel hW) hF
  have ha := hide awake_calls
  clear h hF
  go_enter Try.func3, Try.ntmps3
  go_upto_region 1 with fail
  obtain ⟨W1, hW1⟩ : ∃ W1 : World, W1 = w.alloc (.cells #[.int .i64 c.frames, .slice A1 c.parts.length n1, .slice A2 c.devices.length n2, .int .i64 c.major, .slice A3 c.windows.length n3, .slice A4 c.grants.length n4, .int .i64 c.sectors, .int .i64 c.quota, .int .i64 c.quiet] 27) := ⟨_, rfl⟩
  rw [← hW1]
  have HB1 := hide (show Bel w W1 by rw [hW1]; exact (bel_refl w).alloc _)
  have HX := hide (show BoxAt W1 w.heap.size (.int .i64 c.frames) (.slice A1 c.parts.length n1) (.slice A2 c.devices.length n2) (.int .i64 c.major) (.slice A3 c.windows.length n3) (.slice A4 c.grants.length n4) (.int .i64 c.sectors) (.int .i64 c.quota) (.int .i64 c.quiet) by rw [hW1]; exact box_new _ _ _ _ _ _ _ _ _ _ _)
  clear hW1
  obtain ⟨x0, x1, x2, x3, x4, x5, x6, x7, x8⟩ := HX.out
  go_upto_region 2 with ((with_reducible refine (Hid.out hcp _ HB1.out).mono ?_); rintro e V1 ⟨v1, rfl, hv1, hi1⟩; have HV := hide hv1; have Hi := hide hi1; obtain ⟨A1', A2', A3', A4', b1', o1', n1', b2', o2', n2', b3', o3', n3', b4', o4', n4', rfl, -⟩ := hv1.parts4; clear hv1 hi1)
  clear x0 x1 x2 x3 x4 x5 x6 x7 x8 hcp
  obtain ⟨W2, hW2⟩ : ∃ W2 : World, W2 = V1.alloc (.cells #[.int .i64 c.frames, .slice A1' c.parts.length n1', .slice A2' c.devices.length n2', .int .i64 c.major, .slice A3' c.windows.length n3', .slice A4' c.grants.length n4', .int .i64 c.sectors, .int .i64 c.quota, .int .i64 c.quiet] 27) := ⟨_, rfl⟩
  rw [← hW2]
  have HB2 := hide (show Bel w W2 by rw [hW2]; exact (Bel.trans HB1.out Hi.out).alloc _)
  have HX1 := hide fun W (hW : Bel W2 W) => show W.cell? ⟨w.heap.size, 0, none⟩ = some (.int .i64 c.frames) ∧ W.cell? ⟨w.heap.size, 1, none⟩ = some (.slice A1 c.parts.length n1) ∧ W.cell? ⟨w.heap.size, 2, none⟩ = some (.slice A2 c.devices.length n2) ∧ W.cell? ⟨w.heap.size, 3, none⟩ = some (.int .i64 c.major) ∧ W.cell? ⟨w.heap.size, 4, none⟩ = some (.slice A3 c.windows.length n3) ∧ W.cell? ⟨w.heap.size, 5, none⟩ = some (.slice A4 c.grants.length n4) ∧ W.cell? ⟨w.heap.size, 6, none⟩ = some (.int .i64 c.sectors) ∧ W.cell? ⟨w.heap.size, 7, none⟩ = some (.int .i64 c.quota) ∧ W.cell? ⟨w.heap.size, 8, none⟩ = some (.int .i64 c.quiet) from by
    have hx := ((HX.out.bel Hi.out).bel (show Bel V1 W2 by rw [hW2]; exact (bel_refl _).alloc _)).bel hW
    exact ⟨hx.k0, hx.k1, hx.k2, hx.k3, hx.k4, hx.k5, hx.k6, hx.k7, hx.k8⟩
  have HX2 := hide fun W (hW : Bel W2 W) => show W.cell? ⟨V1.heap.size, 0, none⟩ = some (.int .i64 c.frames) ∧ W.cell? ⟨V1.heap.size, 1, none⟩ = some (.slice A1' c.parts.length n1') ∧ W.cell? ⟨V1.heap.size, 2, none⟩ = some (.slice A2' c.devices.length n2') ∧ W.cell? ⟨V1.heap.size, 3, none⟩ = some (.int .i64 c.major) ∧ W.cell? ⟨V1.heap.size, 4, none⟩ = some (.slice A3' c.windows.length n3') ∧ W.cell? ⟨V1.heap.size, 5, none⟩ = some (.slice A4' c.grants.length n4') ∧ W.cell? ⟨V1.heap.size, 6, none⟩ = some (.int .i64 c.sectors) ∧ W.cell? ⟨V1.heap.size, 7, none⟩ = some (.int .i64 c.quota) ∧ W.cell? ⟨V1.heap.size, 8, none⟩ = some (.int .i64 c.quiet) from by
    have hx := (show BoxAt W2 V1.heap.size (.int .i64 c.frames) (.slice A1' c.parts.length n1') (.slice A2' c.devices.length n2') (.int .i64 c.major) (.slice A3' c.windows.length n3') (.slice A4' c.grants.length n4') (.int .i64 c.sectors) (.int .i64 c.quota) (.int .i64 c.quiet) by rw [hW2]; exact box_new _ _ _ _ _ _ _ _ _ _ _).bel hW
    exact ⟨hx.k0, hx.k1, hx.k2, hx.k3, hx.k4, hx.k5, hx.k6, hx.k7, hx.k8⟩
  have HVW := hide (show CfgV W2 _ c from HV.out.bel (show Bel V1 W2 by rw [hW2]; exact (bel_refl _).alloc _))
  have HCW := hide (HC.out.bel HB2.out)
  clear hW2 HX HB1 HC HV Hi
  have m1 := hide fun W (hW : Bel W2 W) => may_calls W _ c (HVW.out.bel hW)
  have m2 := hide fun W (hW : Bel W2 W) => rMay_calls W _ c (HCW.out.bel hW)
  have r1 := hide fun W (hW : Bel W2 W) => reads_calls W _ c part at_ n (HVW.out.bel hW) hat hn
  have r2 := hide fun W (hW : Bel W2 W) => rReads_calls W _ c part at_ n (HCW.out.bel hW) hat hn
  have w1 := hide fun W (hW : Bel W2 W) => writes_calls W _ c part at_ n (HVW.out.bel hW) hat hn
  have w2 := hide fun W (hW : Bel W2 W) => rWrites_calls W _ c part at_ n (HCW.out.bel hW) hat hn
  have sc := hide fun W (hW : Bel W2 W) => same_Config W _ _ c (HVW.out.bel hW) (HCW.out.bel hW)
  generalize mayCfg c = qm at m1 m2
  generalize allowed c part at_ n false = qr at r1 r2
  generalize allowed c part at_ n true = qw at w1 w2
  clear HVW HCW hat hn
  generalize V1.heap.size = B2 at HX2 ⊢
  have hd := (bel_refl W2).drew
  refine wp_region_held_drew (S := fun w' => Bel W2 w' ∧ (w'.cell? ⟨w.heap.size, 0, none⟩ = some (.int .i64 c.frames) ∧ w'.cell? ⟨w.heap.size, 1, none⟩ = some (.slice A1 c.parts.length n1) ∧ w'.cell? ⟨w.heap.size, 2, none⟩ = some (.slice A2 c.devices.length n2) ∧ w'.cell? ⟨w.heap.size, 3, none⟩ = some (.int .i64 c.major) ∧ w'.cell? ⟨w.heap.size, 4, none⟩ = some (.slice A3 c.windows.length n3) ∧ w'.cell? ⟨w.heap.size, 5, none⟩ = some (.slice A4 c.grants.length n4) ∧ w'.cell? ⟨w.heap.size, 6, none⟩ = some (.int .i64 c.sectors) ∧ w'.cell? ⟨w.heap.size, 7, none⟩ = some (.int .i64 c.quota) ∧ w'.cell? ⟨w.heap.size, 8, none⟩ = some (.int .i64 c.quiet)) ∧ (w'.cell? ⟨B2, 0, none⟩ = some (.int .i64 c.frames) ∧ w'.cell? ⟨B2, 1, none⟩ = some (.slice A1' c.parts.length n1') ∧ w'.cell? ⟨B2, 2, none⟩ = some (.slice A2' c.devices.length n2') ∧ w'.cell? ⟨B2, 3, none⟩ = some (.int .i64 c.major) ∧ w'.cell? ⟨B2, 4, none⟩ = some (.slice A3' c.windows.length n3') ∧ w'.cell? ⟨B2, 5, none⟩ = some (.slice A4' c.grants.length n4') ∧ w'.cell? ⟨B2, 6, none⟩ = some (.int .i64 c.sectors) ∧ w'.cell? ⟨B2, 7, none⟩ = some (.int .i64 c.quota) ∧ w'.cell? ⟨B2, 8, none⟩ = some (.int .i64 c.quiet))) (by kernel_rfl) ?_ (fun hHeld => ?_)
  · exact ⟨hd, HX1.out _ hd, HX2.out _ hd⟩
  refine hT (i := 0) (v := ?_) rfl (by kernel_rfl) (fun _ _ _ h => h) (by rfl) ?_ hHeld ?_
  rotate_left
  · (intro w_ hw_; (try dsimp only at hw_); go_simp; try with_reducible rfl)
  simp only [Act.put, List.setIfInBounds_toArray, List.set_cons_zero, List.set_cons_succ, List.getElem_toArray, List.getElem_cons_zero]
  refine hT (i := 2) (v := ?_) rfl (by kernel_rfl) (fun _ _ _ h => h) (by rfl) ?_ hHeld ?_
  rotate_left
  · (intro w_ hw_; (try dsimp only at hw_); go_simp; try with_reducible rfl)
  simp only [Act.put, List.setIfInBounds_toArray, List.set_cons_zero, List.set_cons_succ, List.getElem_toArray, List.getElem_cons_zero, List.getElem_cons_succ]
  refine hE (i := 1) rfl (by kernel_rfl) (by rfl) (fun K hK => ?_)
  go_simp
  refine (m1.out _ hHeld.1).mono ?_
  rintro e v1 ⟨rfl, hi⟩
  have j1 := hide (Bel.trans hHeld.1 hi)
  refine hK.out _ _ ?_ (fun hHeld => ?_)
  · exact ⟨j1.out, HX1.out _ j1.out, HX2.out _ j1.out⟩
  clear hK K
  refine hE (i := 3) rfl (by kernel_rfl) (by rfl) (fun K hK => ?_)
  go_simp
  refine (m2.out _ hHeld.1).mono ?_
  rintro e v3 ⟨rfl, hi⟩
  have j3 := hide (Bel.trans hHeld.1 hi)
  refine hK.out _ _ ?_ (fun hHeld => ?_)
  · exact ⟨j3.out, HX1.out _ j3.out, HX2.out _ j3.out⟩
  clear hK K
  refine hT (i := 4) (v := ?_) rfl (by kernel_rfl) (fun _ _ _ h => h) (by rfl) ?_ hHeld ?_
  rotate_left
  · (intro w_ hw_; (try dsimp only at hw_); go_simp; try with_reducible rfl)
  simp only [Act.put, List.setIfInBounds_toArray, List.set_cons_zero, List.set_cons_succ, List.getElem_toArray, List.getElem_cons_zero, List.getElem_cons_succ]
  refine hT (i := 5) (v := ?_) rfl (by kernel_rfl) (fun _ _ _ h => h) (by rfl) ?_ hHeld ?_
  rotate_left
  · (intro w_ hw_; (try dsimp only at hw_); go_simp; try with_reducible rfl)
  simp only [Act.put, List.setIfInBounds_toArray, List.set_cons_zero, List.set_cons_succ, List.getElem_toArray, List.getElem_cons_zero, List.getElem_cons_succ]
  refine hT (i := 6) (v := ?_) rfl (by kernel_rfl) (fun _ _ _ h => h) (by rfl) ?_ hHeld ?_
  rotate_left
  · (intro w_ hw_; (try dsimp only at hw_); go_simp; try with_reducible rfl)
  simp only [Act.put, List.setIfInBounds_toArray, List.set_cons_zero, List.set_cons_succ, List.getElem_toArray, List.getElem_cons_zero, List.getElem_cons_succ]
  refine hT (i := 7) (v := ?_) rfl (by kernel_rfl) (fun _ _ _ h => h) (by rfl) ?_ hHeld ?_
  rotate_left
  · (intro w_ hw_; (try dsimp only at hw_); go_simp; try with_reducible rfl)
  simp only [Act.put, List.setIfInBounds_toArray, List.set_cons_zero, List.set_cons_succ, List.getElem_toArray, List.getElem_cons_zero, List.getElem_cons_succ]
  refine hT (i := 8) (v := ?_) rfl (by kernel_rfl) (fun _ _ _ h => h) (by rfl) ?_ hHeld ?_
  rotate_left
  · (intro w_ hw_; (try dsimp only at hw_); go_simp; try with_reducible rfl)
  simp only [Act.put, List.setIfInBounds_toArray, List.set_cons_zero, List.set_cons_succ, List.getElem_toArray, List.getElem_cons_zero, List.getElem_cons_succ]
  refine hT (i := 9) (v := ?_) rfl (by kernel_rfl) (fun _ _ _ h => h) (by rfl) ?_ hHeld ?_
  rotate_left
  · (intro w_ hw_; (try dsimp only at hw_); go_simp; try with_reducible rfl)
  simp only [Act.put, List.setIfInBounds_toArray, List.set_cons_zero, List.set_cons_succ, List.getElem_toArray, List.getElem_cons_zero, List.getElem_cons_succ]
  refine hT (i := 11) (v := ?_) rfl (by kernel_rfl) (fun _ _ _ h => h) (by rfl) ?_ hHeld ?_
  rotate_left
  · (intro w_ hw_; (try dsimp only at hw_); go_simp; try with_reducible rfl)
  simp only [Act.put, List.setIfInBounds_toArray, List.set_cons_zero, List.set_cons_succ, List.getElem_toArray, List.getElem_cons_zero, List.getElem_cons_succ]
  refine hT (i := 12) (v := ?_) rfl (by kernel_rfl) (fun _ _ _ h => h) (by rfl) ?_ hHeld ?_
  rotate_left
  · (intro w_ hw_; (try dsimp only at hw_); go_simp; try with_reducible rfl)
  simp only [Act.put, List.setIfInBounds_toArray, List.set_cons_zero, List.set_cons_succ, List.getElem_toArray, List.getElem_cons_zero, List.getElem_cons_succ]
  refine hT (i := 13) (v := ?_) rfl (by kernel_rfl) (fun _ _ _ h => h) (by rfl) ?_ hHeld ?_
  rotate_left
  · (intro w_ hw_; (try dsimp only at hw_); go_simp; try with_reducible rfl)
  simp only [Act.put, List.setIfInBounds_toArray, List.set_cons_zero, List.set_cons_succ, List.getElem_toArray, List.getElem_cons_zero, List.getElem_cons_succ]
  refine hT (i := 14) (v := ?_) rfl (by kernel_rfl) (fun _ _ _ h => h) (by rfl) ?_ hHeld ?_
  rotate_left
  · (intro w_ hw_; (try dsimp only at hw_); go_simp; try with_reducible rfl)
  simp only [Act.put, List.setIfInBounds_toArray, List.set_cons_zero, List.set_cons_succ, List.getElem_toArray, List.getElem_cons_zero, List.getElem_cons_succ]
  refine hE (i := 10) rfl (by kernel_rfl) (by rfl) (fun K hK => ?_)
  go_simp
  refine (r1.out _ hHeld.1).mono ?_
  rintro e v10 ⟨rfl, hi⟩
  have j10 := hide (Bel.trans hHeld.1 hi)
  refine hK.out _ _ ?_ (fun hHeld => ?_)
  · exact ⟨j10.out, HX1.out _ j10.out, HX2.out _ j10.out⟩
  clear hK K
  refine hE (i := 15) rfl (by kernel_rfl) (by rfl) (fun K hK => ?_)
  go_simp
  refine (r2.out _ hHeld.1).mono ?_
  rintro e v15 ⟨rfl, hi⟩
  have j15 := hide (Bel.trans hHeld.1 hi)
  refine hK.out _ _ ?_ (fun hHeld => ?_)
  · exact ⟨j15.out, HX1.out _ j15.out, HX2.out _ j15.out⟩
  clear hK K
  refine hT (i := 16) (v := ?_) rfl (by kernel_rfl) (fun _ _ _ h => h) (by rfl) ?_ hHeld ?_
  rotate_left
  · (intro w_ hw_; (try dsimp only at hw_); go_simp; try with_reducible rfl)
  simp only [Act.put, List.setIfInBounds_toArray, List.set_cons_zero, List.set_cons_succ, List.getElem_toArray, List.getElem_cons_zero, List.getElem_cons_succ]
  refine hT (i := 17) (v := ?_) rfl (by kernel_rfl) (fun _ _ _ h => h) (by rfl) ?_ hHeld ?_
  rotate_left
  · (intro w_ hw_; (try dsimp only at hw_); go_simp; try with_reducible rfl)
  simp only [Act.put, List.setIfInBounds_toArray, List.set_cons_zero, List.set_cons_succ, List.getElem_toArray, List.getElem_cons_zero, List.getElem_cons_succ]
  refine hT (i := 18) (v := ?_) rfl (by kernel_rfl) (fun _ _ _ h => h) (by rfl) ?_ hHeld ?_
  rotate_left
  · (intro w_ hw_; (try dsimp only at hw_); go_simp; try with_reducible rfl)
  simp only [Act.put, List.setIfInBounds_toArray, List.set_cons_zero, List.set_cons_succ, List.getElem_toArray, List.getElem_cons_zero, List.getElem_cons_succ]
  refine hT (i := 19) (v := ?_) rfl (by kernel_rfl) (fun _ _ _ h => h) (by rfl) ?_ hHeld ?_
  rotate_left
  · (intro w_ hw_; (try dsimp only at hw_); go_simp; try with_reducible rfl)
  simp only [Act.put, List.setIfInBounds_toArray, List.set_cons_zero, List.set_cons_succ, List.getElem_toArray, List.getElem_cons_zero, List.getElem_cons_succ]
  refine hT (i := 20) (v := ?_) rfl (by kernel_rfl) (fun _ _ _ h => h) (by rfl) ?_ hHeld ?_
  rotate_left
  · (intro w_ hw_; (try dsimp only at hw_); go_simp; try with_reducible rfl)
  simp only [Act.put, List.setIfInBounds_toArray, List.set_cons_zero, List.set_cons_succ, List.getElem_toArray, List.getElem_cons_zero, List.getElem_cons_succ]
  refine hT (i := 21) (v := ?_) rfl (by kernel_rfl) (fun _ _ _ h => h) (by rfl) ?_ hHeld ?_
  rotate_left
  · (intro w_ hw_; (try dsimp only at hw_); go_simp; try with_reducible rfl)
  simp only [Act.put, List.setIfInBounds_toArray, List.set_cons_zero, List.set_cons_succ, List.getElem_toArray, List.getElem_cons_zero, List.getElem_cons_succ]
  refine hT (i := 22) (v := ?_) rfl (by kernel_rfl) (fun _ _ _ h => h) (by rfl) ?_ hHeld ?_
  rotate_left
  · (intro w_ hw_; (try dsimp only at hw_); go_simp; try with_reducible rfl)
  simp only [Act.put, List.setIfInBounds_toArray, List.set_cons_zero, List.set_cons_succ, List.getElem_toArray, List.getElem_cons_zero, List.getElem_cons_succ]
  refine hT (i := 24) (v := ?_) rfl (by kernel_rfl) (fun _ _ _ h => h) (by rfl) ?_ hHeld ?_
  rotate_left
  · (intro w_ hw_; (try dsimp only at hw_); go_simp; try with_reducible rfl)
  simp only [Act.put, List.setIfInBounds_toArray, List.set_cons_zero, List.set_cons_succ, List.getElem_toArray, List.getElem_cons_zero, List.getElem_cons_succ]
  refine hT (i := 25) (v := ?_) rfl (by kernel_rfl) (fun _ _ _ h => h) (by rfl) ?_ hHeld ?_
  rotate_left
  · (intro w_ hw_; (try dsimp only at hw_); go_simp; try with_reducible rfl)
  simp only [Act.put, List.setIfInBounds_toArray, List.set_cons_zero, List.set_cons_succ, List.getElem_toArray, List.getElem_cons_zero, List.getElem_cons_succ]
  refine hT (i := 26) (v := ?_) rfl (by kernel_rfl) (fun _ _ _ h => h) (by rfl) ?_ hHeld ?_
  rotate_left
  · (intro w_ hw_; (try dsimp only at hw_); go_simp; try with_reducible rfl)
  simp only [Act.put, List.setIfInBounds_toArray, List.set_cons_zero, List.set_cons_succ, List.getElem_toArray, List.getElem_cons_zero, List.getElem_cons_succ]
  refine hT (i := 27) (v := ?_) rfl (by kernel_rfl) (fun _ _ _ h => h) (by rfl) ?_ hHeld ?_
  rotate_left
  · (intro w_ hw_; (try dsimp only at hw_); go_simp; try with_reducible rfl)
  simp only [Act.put, List.setIfInBounds_toArray, List.set_cons_zero, List.set_cons_succ, List.getElem_toArray, List.getElem_cons_zero, List.getElem_cons_succ]
  refine hE (i := 23) rfl (by kernel_rfl) (by rfl) (fun K hK => ?_)
  go_simp
  refine (w1.out _ hHeld.1).mono ?_
  rintro e v23 ⟨rfl, hi⟩
  have j23 := hide (Bel.trans hHeld.1 hi)
  refine hK.out _ _ ?_ (fun hHeld => ?_)
  · exact ⟨j23.out, HX1.out _ j23.out, HX2.out _ j23.out⟩
  clear hK K
  refine hE (i := 28) rfl (by kernel_rfl) (by rfl) (fun K hK => ?_)
  go_simp
  refine (w2.out _ hHeld.1).mono ?_
  rintro e v28 ⟨rfl, hi⟩
  have j28 := hide (Bel.trans hHeld.1 hi)
  refine hK.out _ _ ?_ (fun hHeld => ?_)
  · exact ⟨j28.out, HX1.out _ j28.out, HX2.out _ j28.out⟩
  clear hK K
  refine hT (i := 29) (v := ?_) rfl (by kernel_rfl) (fun _ _ _ h => h) (by rfl) ?_ hHeld ?_
  rotate_left
  · (intro w_ hw_; (try dsimp only at hw_); go_simp; try with_reducible rfl)
  simp only [Act.put, List.setIfInBounds_toArray, List.set_cons_zero, List.set_cons_succ, List.getElem_toArray, List.getElem_cons_zero, List.getElem_cons_succ]
  refine hT (i := 30) (v := ?_) rfl (by kernel_rfl) (fun _ _ _ h => h) (by rfl) ?_ hHeld ?_
  rotate_left
  · (intro w_ hw_; (try dsimp only at hw_); go_simp; try with_reducible rfl)
  simp only [Act.put, List.setIfInBounds_toArray, List.set_cons_zero, List.set_cons_succ, List.getElem_toArray, List.getElem_cons_zero, List.getElem_cons_succ]
  refine hT (i := 31) (v := ?_) rfl (by kernel_rfl) (fun _ _ _ h => h) (by rfl) ?_ hHeld ?_
  rotate_left
  · (intro w_ hw_; (try dsimp only at hw_); go_simp; try with_reducible rfl)
  simp only [Act.put, List.setIfInBounds_toArray, List.set_cons_zero, List.set_cons_succ, List.getElem_toArray, List.getElem_cons_zero, List.getElem_cons_succ]
  refine hT (i := 32) (v := ?_) rfl (by kernel_rfl) (fun _ _ _ h => h) (by rfl) ?_ hHeld ?_
  rotate_left
  · (intro w_ hw_; (try dsimp only at hw_); go_simp; try with_reducible rfl)
  simp only [Act.put, List.setIfInBounds_toArray, List.set_cons_zero, List.set_cons_succ, List.getElem_toArray, List.getElem_cons_zero, List.getElem_cons_succ]
  refine hT (i := 33) (v := ?_) rfl (by kernel_rfl) (fun _ _ _ h => h) (by rfl) ?_ hHeld ?_
  rotate_left
  · (intro w_ hw_; (try dsimp only at hw_); go_simp; try with_reducible rfl)
  simp only [Act.put, List.setIfInBounds_toArray, List.set_cons_zero, List.set_cons_succ, List.getElem_toArray, List.getElem_cons_zero, List.getElem_cons_succ]
  refine hE (i := 34) rfl (by kernel_rfl) (by rfl) (fun K hK => ?_)
  go_simp
  refine (sc.out _ hHeld.1).mono ?_
  rintro e v34 ⟨rfl, hi⟩
  have j34 := hide (Bel.trans hHeld.1 hi)
  refine hK.out _ _ ?_ (fun hHeld => ?_)
  · exact ⟨j34.out, HX1.out _ j34.out, HX2.out _ j34.out⟩
  clear hK K
  refine hT (i := 35) (v := ?_) rfl (by kernel_rfl) (fun _ _ _ h => h) (by rfl) ?_ hHeld ?_
  rotate_left
  · (intro w_ hw_; (try dsimp only at hw_); go_simp; try with_reducible rfl)
  simp only [Act.put, List.setIfInBounds_toArray, List.set_cons_zero, List.set_cons_succ, List.getElem_toArray, List.getElem_cons_zero, List.getElem_cons_succ]
  refine hT (i := 36) (v := ?_) rfl (by kernel_rfl) (fun _ _ _ h => h) (by rfl) ?_ hHeld ?_
  rotate_left
  · (intro w_ hw_; (try dsimp only at hw_); go_simp; try with_reducible rfl)
  simp only [Act.put, List.setIfInBounds_toArray, List.set_cons_zero, List.set_cons_succ, List.getElem_toArray, List.getElem_cons_zero, List.getElem_cons_succ]
  refine hE (i := 37) rfl (by kernel_rfl) (by rfl) (fun K hK => ?_)
  go_simp
  refine (ha.out _).mono ?_
  rintro e v37 ⟨rfl, hi⟩
  have j37 := hide (Bel.trans hHeld.1 hi)
  refine hK.out _ _ ?_ (fun hHeld => ?_)
  · exact ⟨j37.out, HX1.out _ j37.out, HX2.out _ j37.out⟩
  clear hK K
  refine hT (i := 38) (v := ?_) rfl (by kernel_rfl) (fun _ _ _ h => h) (by rfl) ?_ hHeld ?_
  rotate_left
  · (intro w_ hw_; (try dsimp only at hw_); go_simp; try with_reducible rfl)
  simp only [Act.put, List.setIfInBounds_toArray, List.set_cons_zero, List.set_cons_succ, List.getElem_toArray, List.getElem_cons_zero, List.getElem_cons_succ]
  refine hT (i := 39) (v := ?_) rfl (by kernel_rfl) (fun _ _ _ h => h) (by rfl) ?_ hHeld ?_
  rotate_left
  · (intro w_ hw_; (try dsimp only at hw_); go_simp; try with_reducible rfl)
  simp only [Act.put, List.setIfInBounds_toArray, List.set_cons_zero, List.set_cons_succ, List.getElem_toArray, List.getElem_cons_zero, List.getElem_cons_succ]
  refine wpAnyH_done (by kernel_rfl) ?_ _
  clear hHeld
  go_wp2_with fail
  go_ret
  exact ⟨rfl, Bel.trans HB2.out j37.out⟩
end Go.Proofs.Ythjhkbnajclcjaa
