/- caissonlaw23.PurgeParts: the walk. -/
import Derived.Test.YthjhkbnajclcjaaView23
set_option linter.unusedSimpArgs false
namespace Go.Proofs.Ythjhkbnajclcjaa
open Go.RowKit

set_option maxRecDepth 20000 in
set_option maxHeartbeats 16000000 in
theorem purgeParts_law (v vs : Value) (c : Config) (steps : List Step) (p cut : Int) (w : World) (h : CfgV w v c) (hs : kStep.Sl w vs steps) (hF : steps.length * 64 ≤ 140737488351232) :
    Calls Try.prog 13 #[v, vs, .int .i64 p, .int .i64 cut] w fun e w' => e = .returned (.bool true) ∧ Bel w w' := by
  obtain ⟨A1, A2, A3, A4, b1, o1, n1, b2, o2, n2, b3, o3, n3, b4, o4, n4, rfl, HC, HR1, HR2, HR3, HR4, HS1, HS2, HS3, HS4, hA1, hA2, hA3, hA4, hL1, hL2, hL3, hL4⟩ := h.parts4
  obtain ⟨A, b, o, cap, rfl, hl, hc, hA, -⟩ := hs.open rfl
  have HSt := hide hs
  have hpu := hide fun W A' n' xs (hW : Bel w W) (h1 : kStep.Sl w (.slice A' n' cap) xs) h2 => purge_p W _ (.slice A' n' cap) c xs p (h.bel hW) (h1.bel hW) h2
  have ha := hide awake23_calls
  have hn := hide num_calls
  obtain ⟨k, Hk, hkl⟩ := umodI' cut (steps.length + 1) (by omega) (by omega)
  have hkn : k ≤ steps.length := by omega
  have hsl := hide (hs.take k hkn)
  have hkc : k ≤ cap := by omega
  have hF2 : (steps.take k).length * 64 ≤ 140737488351232 := by rw [List.length_take]; omega
  have p1 := hide fun W (hW : Bel w W) => hpu.out W A steps.length steps hW HSt.out hF
  have p2 := hide fun W (hW : Bel w W) => hpu.out W A k (steps.take k) hW hsl.out hF2
  clear h HC HR1 HR2 HR3 HR4 HS1 HS2 HS3 HS4 hA1 hA2 hA3 hA4 hL1 hL2 hL3 hL4 hpu hs hF2 hsl
  simp only [purge_take] at p2
  have hwu : IntKind.u64.wrap ((steps.length : Int) + 1) = (steps.length : Int) + 1 := by first | exact IntWalk.u64_in _ (by omega) | (simp [IntKind.wrap, IntKind.signed]; omega)
  go_enter Try.func13, Try.ntmps13
  go_upto_region 1 with fail
  obtain ⟨W1, hW1⟩ : ∃ W1 : World, W1 = w.alloc (.cells #[.int .i64 c.frames, .slice A1 c.parts.length n1, .slice A2 c.devices.length n2, .int .i64 c.major, .slice A3 c.windows.length n3, .slice A4 c.grants.length n4, .int .i64 c.sectors, .int .i64 c.quota, .int .i64 c.quiet] 27) := ⟨_, rfl⟩
  rw [← hW1]
  have HB1 := hide (show Bel w W1 by rw [hW1]; exact (bel_refl w).alloc _)
  have HX := hide fun W (hW : Bel W1 W) => show W.cell? ⟨w.heap.size, 0, none⟩ = some (.int .i64 c.frames) ∧ W.cell? ⟨w.heap.size, 1, none⟩ = some (.slice A1 c.parts.length n1) ∧ W.cell? ⟨w.heap.size, 2, none⟩ = some (.slice A2 c.devices.length n2) ∧ W.cell? ⟨w.heap.size, 3, none⟩ = some (.int .i64 c.major) ∧ W.cell? ⟨w.heap.size, 4, none⟩ = some (.slice A3 c.windows.length n3) ∧ W.cell? ⟨w.heap.size, 5, none⟩ = some (.slice A4 c.grants.length n4) ∧ W.cell? ⟨w.heap.size, 6, none⟩ = some (.int .i64 c.sectors) ∧ W.cell? ⟨w.heap.size, 7, none⟩ = some (.int .i64 c.quota) ∧ W.cell? ⟨w.heap.size, 8, none⟩ = some (.int .i64 c.quiet) from by
    have hx := (show BoxAt W1 w.heap.size (.int .i64 c.frames) (.slice A1 c.parts.length n1) (.slice A2 c.devices.length n2) (.int .i64 c.major) (.slice A3 c.windows.length n3) (.slice A4 c.grants.length n4) (.int .i64 c.sectors) (.int .i64 c.quota) (.int .i64 c.quiet) by rw [hW1]; exact box_new _ _ _ _ _ _ _ _ _ _ _).bel hW
    exact ⟨hx.k0, hx.k1, hx.k2, hx.k3, hx.k4, hx.k5, hx.k6, hx.k7, hx.k8⟩
  clear hW1
  go_upto_region 3 with ((with_reducible refine (Hid.out ha _).mono ?_); rintro e w0 ⟨rfl, hb0⟩; have m0 := hide hb0; clear hb0)
  clear ha
  have p1 := hide (p1.out w0 (Bel.trans HB1.out m0.out))
  obtain ⟨x0, x1, x2, x3, x4, x5, x6, x7, x8⟩ := HX.out _ m0.out
  obtain ⟨n, hln, hres⟩ : ∃ n, (purge c steps p).length = n ∧ ((purgeErr c p = 2300 ∧ n = 0) ∨ (purgeErr c p = 0 ∧ n = steps.length)) := by
    cases hq : purgeOk c p
    · exact ⟨0, by rw [purge_none c p steps hq]; rfl, .inl ⟨purgeErr_none c p hq, rfl⟩⟩
    · exact ⟨_, purge_length c p steps hq, .inr ⟨purgeErr_some c p hq, rfl⟩⟩
  obtain ⟨m2, hln2, hres2⟩ : ∃ m2, ((purge c steps p).take k).length = m2 ∧ (n = 0 → m2 = 0) ∧ (n = steps.length → m2 = k) := by
    refine ⟨_, rfl, fun h => ?_, fun h => ?_⟩ <;> rw [List.length_take] <;> omega
  generalize purgeErr c p = res at hres p1 p2
  generalize purge c steps p = out at hln hln2 p1 p2
  go_upto_region 4 with ((with_reducible refine (Hid.out p1).mono ?_); rintro e w3 ⟨v3, base3, rfl, -, hO3, hB3⟩; obtain ⟨E1, e1b, e1o, cap1, rfl, hl3, hc3, -, -⟩ := hO3.seg.sl.open hln; have HO3 := hide hO3; have j3 := hide (Bel.trans m0.out hB3); clear hO3 hB3 p1)
  clear x0 x1 x2 x3 x4 x5 x6 x7 x8
  go_upto_region 5 with fail
  have hd := hide (show Bel w3 w3.drew from (bel_refl w3).drew)
  have hb1 := HB1.out
  have H3 := hide (Bel.trans HB1.out j3.out)
  have HX3 := hide fun W (hW : Bel w3 W) => HX.out W (Bel.trans j3.out hW)
  have p2 := hide fun W (hW : Bel w3 W) => p2.out W (Bel.trans H3.out hW)
  refine wp_region_held_drew (S := fun w' => Bel w3 w' ∧ (w'.cell? ⟨w.heap.size, 0, none⟩ = some (.int .i64 c.frames) ∧ w'.cell? ⟨w.heap.size, 1, none⟩ = some (.slice A1 c.parts.length n1) ∧ w'.cell? ⟨w.heap.size, 2, none⟩ = some (.slice A2 c.devices.length n2) ∧ w'.cell? ⟨w.heap.size, 3, none⟩ = some (.int .i64 c.major) ∧ w'.cell? ⟨w.heap.size, 4, none⟩ = some (.slice A3 c.windows.length n3) ∧ w'.cell? ⟨w.heap.size, 5, none⟩ = some (.slice A4 c.grants.length n4) ∧ w'.cell? ⟨w.heap.size, 6, none⟩ = some (.int .i64 c.sectors) ∧ w'.cell? ⟨w.heap.size, 7, none⟩ = some (.int .i64 c.quota) ∧ w'.cell? ⟨w.heap.size, 8, none⟩ = some (.int .i64 c.quiet))) (by kernel_rfl) ?_ (fun hHeld => ?_)
  · exact ⟨hd.out, HX3.out _ hd.out⟩
  refine hT (i := 0) (v := ?_) rfl (by kernel_rfl) (fun _ _ _ h => h) (by rfl) ?_ hHeld ?_
  rotate_left
  · (intro w_ hw_; (try dsimp only at hw_); go_simp; try with_reducible rfl)
  simp only [Act.put, List.setIfInBounds_toArray, List.set_cons_zero, List.set_cons_succ, List.getElem_toArray, List.getElem_cons_zero]
  refine hT (i := 1) (v := ?_) rfl (by kernel_rfl) (fun _ _ _ h => h) (by rfl) ?_ hHeld ?_
  rotate_left
  · (intro w_ hw_; (try dsimp only at hw_); go_simp; try with_reducible rfl)
  simp only [Act.put, List.setIfInBounds_toArray, List.set_cons_zero, List.set_cons_succ, List.getElem_toArray, List.getElem_cons_zero, List.getElem_cons_succ]
  refine hT (i := 2) (v := ?_) rfl (by kernel_rfl) (fun _ _ _ h => h) (by rfl) ?_ hHeld ?_
  rotate_left
  · (intro w_ hw_; (try dsimp only at hw_); go_simp; try with_reducible rfl)
  simp only [Act.put, List.setIfInBounds_toArray, List.set_cons_zero, List.set_cons_succ, List.getElem_toArray, List.getElem_cons_zero, List.getElem_cons_succ]
  refine hT (i := 3) (v := ?_) rfl (by kernel_rfl) (fun _ _ _ h => h) (by rfl) ?_ hHeld ?_
  rotate_left
  · (intro w_ hw_; (try dsimp only at hw_); go_simp; try with_reducible rfl)
  simp only [Act.put, List.setIfInBounds_toArray, List.set_cons_zero, List.set_cons_succ, List.getElem_toArray, List.getElem_cons_zero, List.getElem_cons_succ]
  refine hT (i := 4) (v := ?_) rfl (by kernel_rfl) (fun _ _ _ h => h) (by rfl) ?_ hHeld ?_
  rotate_left
  · (intro w_ hw_; (try dsimp only at hw_); go_simp; try with_reducible rfl)
  simp only [Act.put, List.setIfInBounds_toArray, List.set_cons_zero, List.set_cons_succ, List.getElem_toArray, List.getElem_cons_zero, List.getElem_cons_succ]
  refine hE (i := 5) rfl (by kernel_rfl) (by rfl) (fun K hK => ?_)
  go_simp
  refine (p2.out _ hHeld.1).mono ?_
  rintro e w5 ⟨v5, base5, rfl, -, hO5, hB5⟩
  obtain ⟨E2, e2b, e2o, cap2, rfl, hl5, hc5, -, -⟩ := hO5.seg.sl.open hln2
  have HO5 := hide hO5
  have j5 := hide (Bel.trans hHeld.1 hB5)
  refine hK.out _ _ ?_ (fun hHeld => ?_)
  · exact ⟨j5.out, HX3.out _ j5.out⟩
  clear hK K
  refine hT (i := 6) (v := ?_) rfl (by kernel_rfl) (fun _ _ _ h => h) (by rfl) ?_ hHeld ?_
  rotate_left
  · (intro w_ hw_; (try dsimp only at hw_); go_simp; try with_reducible rfl)
  simp only [Act.put, List.setIfInBounds_toArray, List.set_cons_zero, List.set_cons_succ, List.getElem_toArray, List.getElem_cons_zero, List.getElem_cons_succ]
  refine hT (i := 7) (v := ?_) rfl (by kernel_rfl) (fun _ _ _ h => h) (by rfl) ?_ hHeld ?_
  rotate_left
  · (intro w_ hw_; (try dsimp only at hw_); go_simp; try with_reducible rfl)
  simp only [Act.put, List.setIfInBounds_toArray, List.set_cons_zero, List.set_cons_succ, List.getElem_toArray, List.getElem_cons_zero, List.getElem_cons_succ]
  refine hT (i := 8) (v := ?_) rfl (by kernel_rfl) (fun _ _ _ h => h) (by rfl) ?_ hHeld ?_
  rotate_left
  · (intro w_ hw_; (try dsimp only at hw_); go_simp; try with_reducible rfl)
  simp only [Act.put, List.setIfInBounds_toArray, List.set_cons_zero, List.set_cons_succ, List.getElem_toArray, List.getElem_cons_zero, List.getElem_cons_succ]
  refine hT (i := 9) (v := ?_) rfl (by kernel_rfl) (fun _ _ _ h => h) (by rfl) ?_ hHeld ?_
  rotate_left
  · (intro w_ hw_; (try dsimp only at hw_); go_simp; try with_reducible rfl)
  simp only [Act.put, List.setIfInBounds_toArray, List.set_cons_zero, List.set_cons_succ, List.getElem_toArray, List.getElem_cons_zero, List.getElem_cons_succ]
  refine hT (i := 10) (v := ?_) rfl (by kernel_rfl) (fun _ _ _ h => h) (by rfl) ?_ hHeld ?_
  rotate_left
  · (intro w_ hw_; (try dsimp only at hw_); go_simp; try with_reducible rfl)
  simp only [Act.put, List.setIfInBounds_toArray, List.set_cons_zero, List.set_cons_succ, List.getElem_toArray, List.getElem_cons_zero, List.getElem_cons_succ]
  refine wpAnyH_done (by kernel_rfl) ?_ _
  clear hHeld p2 HX HX3
  rcases hres with ⟨rfl, rfl⟩ | ⟨rfl, rfl⟩
  · obtain rfl : m2 = 0 := hres2.1 rfl
    clear hres2
    go_wp2_with ((with_reducible refine (Hid.out hn _ _).mono ?_); rintro e w8 ⟨rfl, rfl⟩)
    go_ret
    exact ⟨rfl, Bel.trans H3.out j5.out⟩
  · obtain rfl : m2 = k := hres2.2 rfl
    clear hres2
    have hss := hide (same_Steps w5 (.slice E1 m2 cap1) (.slice E2 m2 cap2) (out.take m2) (Kind.Sl.take (HO3.out.seg.sl.bel j5.out) m2 (by omega)) HO5.out.seg.sl)
    go_wp2_with (first | ((with_reducible refine (Hid.out hn _ _).mono ?_); rintro e w8 ⟨rfl, rfl⟩) | ((with_reducible refine (Hid.out hss).mono ?_); rintro e w9 ⟨rfl, hi9⟩))
    go_ret
    exact ⟨rfl, Bel.trans H3.out (Bel.trans j5.out hi9)⟩
end Go.Proofs.Ythjhkbnajclcjaa
