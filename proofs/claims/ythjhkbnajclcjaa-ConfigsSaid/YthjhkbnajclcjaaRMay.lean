/- The reference's ConfigMay, Reads, Writes: they answer as the program's. -/
import Derived.Test.YthjhkbnajclcjaaRFrames
import Derived.Test.YthjhkbnajclcjaaRGr
import Derived.Test.YthjhkbnajclcjaaRExt
set_option linter.unusedSimpArgs false
namespace Go.Proofs.Ythjhkbnajclcjaa
open Go.RowKit

theorem any_take_succ {α : Type} (p : α → Bool) {xs : List α} {k : Nat} (h : k < xs.length) : (xs.take (k + 1)).any p = ((xs.take k).any p || p xs[k]) := by
  rw [List.take_succ_eq_append_getElem h, List.any_append]
  simp

set_option maxRecDepth 20000 in
set_option maxHeartbeats 16000000 in
theorem rMay_calls (w : World) (v : Value) (c : Config) (h : CfgV w v c) :
    Calls Try.prog 23 #[v] w fun e w' => e = .returned (.bool (mayCfg c)) ∧ Bel w w' := by
  rw [← refMay_eq]
  obtain ⟨A1, A2, A3, A4, b1, o1, n1, b2, o2, n2, b3, o3, n3, b4, o4, n4, rfl, HC, HR1, HR2, HR3, HR4, HS1, HS2, HS3, HS4, hA1, hA2, hA3, hA4, hL1, hL2, hL3, hL4⟩ := h.parts4
  have HE : Hid (refMay c = (refHead c && (refFrames c && (grantsRule c && (windowsRule c && (extMay c.parts c.sectors && (refOwn c 0 c.parts && refNums c))))))) := rfl
  have HH : Hid (refHead c = (decide (1 ≤ c.frames) && (decide (c.frames ≤ 64) && (decide (1 ≤ c.parts.length) && (decide (c.parts.length ≤ 4) && (decide (1 ≤ c.devices.length) && decide (c.devices.length ≤ 4))))))) := rfl
  generalize refMay c = res at HE
  have HBw := hide fun o => (bel_refl w).alloc o
  by_cases g1 : c.frames < 1
  · have HZ := hide (show res = false by rw [HE.out, HH.out, show decide (1 ≤ c.frames) = false from decide_eq_false (by omega)]; simp)
    clear HC h
    go_enter Try.func23, Try.ntmps23
    go_wp2_with fail
    all_goals try (exfalso; omega)
    go_ret
    rw [HZ.out]
    exact ⟨rfl, HBw.out _⟩
  by_cases g2 : 64 < c.frames
  · have HZ := hide (show res = false by rw [HE.out, HH.out, show decide (c.frames ≤ 64) = false from decide_eq_false (by omega)]; simp)
    clear HC h
    go_enter Try.func23, Try.ntmps23
    go_wp2_with fail
    all_goals try (exfalso; omega)
    go_ret
    rw [HZ.out]
    exact ⟨rfl, HBw.out _⟩
  by_cases g3 : (c.parts.length : Int) < 1
  · have HZ := hide (show res = false by rw [HE.out, HH.out, show decide (1 ≤ c.parts.length) = false from decide_eq_false (by omega)]; simp)
    clear HC h
    go_enter Try.func23, Try.ntmps23
    go_wp2_with fail
    all_goals try (exfalso; omega)
    go_ret
    rw [HZ.out]
    exact ⟨rfl, HBw.out _⟩
  by_cases g4 : 4 < (c.parts.length : Int)
  · have HZ := hide (show res = false by rw [HE.out, HH.out, show decide (c.parts.length ≤ 4) = false from decide_eq_false (by omega)]; simp)
    clear HC h
    go_enter Try.func23, Try.ntmps23
    go_wp2_with fail
    all_goals try (exfalso; omega)
    go_ret
    rw [HZ.out]
    exact ⟨rfl, HBw.out _⟩
  by_cases g5 : (c.devices.length : Int) < 1
  · have HZ := hide (show res = false by rw [HE.out, HH.out, show decide (1 ≤ c.devices.length) = false from decide_eq_false (by omega)]; simp)
    clear HC h
    go_enter Try.func23, Try.ntmps23
    go_wp2_with fail
    all_goals try (exfalso; omega)
    go_ret
    rw [HZ.out]
    exact ⟨rfl, HBw.out _⟩
  by_cases g6 : 4 < (c.devices.length : Int)
  · have HZ := hide (show res = false by rw [HE.out, HH.out, show decide (c.devices.length ≤ 4) = false from decide_eq_false (by omega)]; simp)
    clear HC h
    go_enter Try.func23, Try.ntmps23
    go_wp2_with fail
    all_goals try (exfalso; omega)
    go_ret
    rw [HZ.out]
    exact ⟨rfl, HBw.out _⟩
  have HE := hide (show res = (refFrames c && (grantsRule c && (windowsRule c && (extMay c.parts c.sectors && (refOwn c 0 c.parts && refNums c))))) by rw [HE.out, HH.out, decide_eq_true (show 1 ≤ c.frames by omega), decide_eq_true (show c.frames ≤ 64 by omega), decide_eq_true (show 1 ≤ c.parts.length by omega), decide_eq_true (show c.parts.length ≤ 4 by omega), decide_eq_true (show 1 ≤ c.devices.length by omega), decide_eq_true (show c.devices.length ≤ 4 by omega)]; rfl)
  have hf := hide fun W (hW : Bel w W) => rFrames_calls W _ c (h.bel hW) (by omega) (by omega) (by omega) (by omega)
  have hgr := hide fun W (hW : Bel w W) => rGrants_calls W _ c (h.bel hW)
  have hwi := hide fun W (hW : Bel w W) => rWin_calls W _ c.windows c.major c.parts.length (HS3.out.bel hW)
  have hex := hide fun W (hW : Bel w W) => rExt_calls W _ c.parts c.sectors (HS1.out.bel hW)
  have HWR : Hid (windowsRule c = schedMay c.windows c.major c.parts.length) := rfl
  have HNU : Hid (refNums c = (decide (0 ≤ c.quota) && (decide (c.quota ≤ 64) && (decide (1 ≤ c.quiet) && decide (c.quiet ≤ 8))))) := rfl
  have HOW : Hid (refOwn c 0 c.parts = refOwn c 0 c.parts) := hide rfl
  rw [HWR.out] at HE
  generalize refFrames c = qf at HE hf
  generalize grantsRule c = qg at HE hgr
  generalize schedMay c.windows c.major c.parts.length = qw at HE hwi
  generalize extMay c.parts c.sectors = qe at HE hex
  clear HC h HH HWR HR2 HR4 HS1 HS2 HS3 HS4 hA2 hA4
  cases qf
  · have HZ := hide (show res = false by rw [HE.out]; simp)
    go_enter Try.func23, Try.ntmps23
    go_upto_region 1 with fail
    obtain ⟨W1, hW1⟩ : ∃ W1 : World, W1 = w.alloc (.cells #[.int .i64 c.frames, .slice A1 c.parts.length n1, .slice A2 c.devices.length n2, .int .i64 c.major, .slice A3 c.windows.length n3, .slice A4 c.grants.length n4, .int .i64 c.sectors, .int .i64 c.quota, .int .i64 c.quiet] 27) := ⟨_, rfl⟩
    rw [← hW1]
    have HB1 := hide (show Bel w W1 by rw [hW1]; exact (bel_refl w).alloc _)
    have HX := hide fun W (hW : Bel W1 W) => show W.cell? ⟨w.heap.size, 0, none⟩ = some (.int .i64 c.frames) ∧ W.cell? ⟨w.heap.size, 1, none⟩ = some (.slice A1 c.parts.length n1) ∧ W.cell? ⟨w.heap.size, 2, none⟩ = some (.slice A2 c.devices.length n2) ∧ W.cell? ⟨w.heap.size, 3, none⟩ = some (.int .i64 c.major) ∧ W.cell? ⟨w.heap.size, 4, none⟩ = some (.slice A3 c.windows.length n3) ∧ W.cell? ⟨w.heap.size, 5, none⟩ = some (.slice A4 c.grants.length n4) ∧ W.cell? ⟨w.heap.size, 6, none⟩ = some (.int .i64 c.sectors) ∧ W.cell? ⟨w.heap.size, 7, none⟩ = some (.int .i64 c.quota) ∧ W.cell? ⟨w.heap.size, 8, none⟩ = some (.int .i64 c.quiet) from by
      have hx := (show BoxAt W1 w.heap.size (.int .i64 c.frames) (.slice A1 c.parts.length n1) (.slice A2 c.devices.length n2) (.int .i64 c.major) (.slice A3 c.windows.length n3) (.slice A4 c.grants.length n4) (.int .i64 c.sectors) (.int .i64 c.quota) (.int .i64 c.quiet) by rw [hW1]; exact box_new _ _ _ _ _ _ _ _ _ _ _).bel hW
      exact ⟨hx.k0, hx.k1, hx.k2, hx.k3, hx.k4, hx.k5, hx.k6, hx.k7, hx.k8⟩
    clear hW1
    obtain ⟨x0, x1, x2, x3, x4, x5, x6, x7, x8⟩ := HX.out W1 (bel_refl _)
    go_wp2_with (first | ((with_reducible refine (Hid.out hf _ HB1.out).mono ?_); rintro e V1 ⟨rfl, i1⟩; have j1 := hide (Bel.trans HB1.out i1); have m1 := hide (Bel.trans (bel_refl W1) i1); clear i1; obtain ⟨x10, x11, x12, x13, x14, x15, x16, x17, x18⟩ := HX.out _ m1.out))
    all_goals try (exfalso; omega)
    go_ret
    rw [HZ.out]
    exact ⟨rfl, j1.out⟩
  cases qg
  · have HZ := hide (show res = false by rw [HE.out]; simp)
    go_enter Try.func23, Try.ntmps23
    go_upto_region 1 with fail
    obtain ⟨W1, hW1⟩ : ∃ W1 : World, W1 = w.alloc (.cells #[.int .i64 c.frames, .slice A1 c.parts.length n1, .slice A2 c.devices.length n2, .int .i64 c.major, .slice A3 c.windows.length n3, .slice A4 c.grants.length n4, .int .i64 c.sectors, .int .i64 c.quota, .int .i64 c.quiet] 27) := ⟨_, rfl⟩
    rw [← hW1]
    have HB1 := hide (show Bel w W1 by rw [hW1]; exact (bel_refl w).alloc _)
    have HX := hide fun W (hW : Bel W1 W) => show W.cell? ⟨w.heap.size, 0, none⟩ = some (.int .i64 c.frames) ∧ W.cell? ⟨w.heap.size, 1, none⟩ = some (.slice A1 c.parts.length n1) ∧ W.cell? ⟨w.heap.size, 2, none⟩ = some (.slice A2 c.devices.length n2) ∧ W.cell? ⟨w.heap.size, 3, none⟩ = some (.int .i64 c.major) ∧ W.cell? ⟨w.heap.size, 4, none⟩ = some (.slice A3 c.windows.length n3) ∧ W.cell? ⟨w.heap.size, 5, none⟩ = some (.slice A4 c.grants.length n4) ∧ W.cell? ⟨w.heap.size, 6, none⟩ = some (.int .i64 c.sectors) ∧ W.cell? ⟨w.heap.size, 7, none⟩ = some (.int .i64 c.quota) ∧ W.cell? ⟨w.heap.size, 8, none⟩ = some (.int .i64 c.quiet) from by
      have hx := (show BoxAt W1 w.heap.size (.int .i64 c.frames) (.slice A1 c.parts.length n1) (.slice A2 c.devices.length n2) (.int .i64 c.major) (.slice A3 c.windows.length n3) (.slice A4 c.grants.length n4) (.int .i64 c.sectors) (.int .i64 c.quota) (.int .i64 c.quiet) by rw [hW1]; exact box_new _ _ _ _ _ _ _ _ _ _ _).bel hW
      exact ⟨hx.k0, hx.k1, hx.k2, hx.k3, hx.k4, hx.k5, hx.k6, hx.k7, hx.k8⟩
    clear hW1
    obtain ⟨x0, x1, x2, x3, x4, x5, x6, x7, x8⟩ := HX.out W1 (bel_refl _)
    go_wp2_with (first | ((with_reducible refine (Hid.out hf _ HB1.out).mono ?_); rintro e V1 ⟨rfl, i1⟩; have j1 := hide (Bel.trans HB1.out i1); have m1 := hide (Bel.trans (bel_refl W1) i1); clear i1; obtain ⟨x10, x11, x12, x13, x14, x15, x16, x17, x18⟩ := HX.out _ m1.out) | ((with_reducible refine (Hid.out hgr _ j1.out).mono ?_); rintro e V2 ⟨rfl, i2⟩; have j2 := hide (Bel.trans j1.out i2); have m2 := hide (Bel.trans m1.out i2); clear i2; obtain ⟨x20, x21, x22, x23, x24, x25, x26, x27, x28⟩ := HX.out _ m2.out))
    all_goals try (exfalso; omega)
    go_ret
    rw [HZ.out]
    exact ⟨rfl, j2.out⟩
  cases qw
  · have HZ := hide (show res = false by rw [HE.out]; simp)
    go_enter Try.func23, Try.ntmps23
    go_upto_region 1 with fail
    obtain ⟨W1, hW1⟩ : ∃ W1 : World, W1 = w.alloc (.cells #[.int .i64 c.frames, .slice A1 c.parts.length n1, .slice A2 c.devices.length n2, .int .i64 c.major, .slice A3 c.windows.length n3, .slice A4 c.grants.length n4, .int .i64 c.sectors, .int .i64 c.quota, .int .i64 c.quiet] 27) := ⟨_, rfl⟩
    rw [← hW1]
    have HB1 := hide (show Bel w W1 by rw [hW1]; exact (bel_refl w).alloc _)
    have HX := hide fun W (hW : Bel W1 W) => show W.cell? ⟨w.heap.size, 0, none⟩ = some (.int .i64 c.frames) ∧ W.cell? ⟨w.heap.size, 1, none⟩ = some (.slice A1 c.parts.length n1) ∧ W.cell? ⟨w.heap.size, 2, none⟩ = some (.slice A2 c.devices.length n2) ∧ W.cell? ⟨w.heap.size, 3, none⟩ = some (.int .i64 c.major) ∧ W.cell? ⟨w.heap.size, 4, none⟩ = some (.slice A3 c.windows.length n3) ∧ W.cell? ⟨w.heap.size, 5, none⟩ = some (.slice A4 c.grants.length n4) ∧ W.cell? ⟨w.heap.size, 6, none⟩ = some (.int .i64 c.sectors) ∧ W.cell? ⟨w.heap.size, 7, none⟩ = some (.int .i64 c.quota) ∧ W.cell? ⟨w.heap.size, 8, none⟩ = some (.int .i64 c.quiet) from by
      have hx := (show BoxAt W1 w.heap.size (.int .i64 c.frames) (.slice A1 c.parts.length n1) (.slice A2 c.devices.length n2) (.int .i64 c.major) (.slice A3 c.windows.length n3) (.slice A4 c.grants.length n4) (.int .i64 c.sectors) (.int .i64 c.quota) (.int .i64 c.quiet) by rw [hW1]; exact box_new _ _ _ _ _ _ _ _ _ _ _).bel hW
      exact ⟨hx.k0, hx.k1, hx.k2, hx.k3, hx.k4, hx.k5, hx.k6, hx.k7, hx.k8⟩
    clear hW1
    obtain ⟨x0, x1, x2, x3, x4, x5, x6, x7, x8⟩ := HX.out W1 (bel_refl _)
    go_wp2_with (first | ((with_reducible refine (Hid.out hf _ HB1.out).mono ?_); rintro e V1 ⟨rfl, i1⟩; have j1 := hide (Bel.trans HB1.out i1); have m1 := hide (Bel.trans (bel_refl W1) i1); clear i1; obtain ⟨x10, x11, x12, x13, x14, x15, x16, x17, x18⟩ := HX.out _ m1.out) | ((with_reducible refine (Hid.out hgr _ j1.out).mono ?_); rintro e V2 ⟨rfl, i2⟩; have j2 := hide (Bel.trans j1.out i2); have m2 := hide (Bel.trans m1.out i2); clear i2; obtain ⟨x20, x21, x22, x23, x24, x25, x26, x27, x28⟩ := HX.out _ m2.out) | ((with_reducible refine (Hid.out hwi _ j2.out).mono ?_); rintro e V3 ⟨rfl, i3⟩; have j3 := hide (Bel.trans j2.out i3); have m3 := hide (Bel.trans m2.out i3); clear i3; obtain ⟨x30, x31, x32, x33, x34, x35, x36, x37, x38⟩ := HX.out _ m3.out))
    all_goals try (exfalso; omega)
    go_ret
    rw [HZ.out]
    exact ⟨rfl, j3.out⟩
  cases qe
  · have HZ := hide (show res = false by rw [HE.out]; simp)
    go_enter Try.func23, Try.ntmps23
    go_upto_region 1 with fail
    obtain ⟨W1, hW1⟩ : ∃ W1 : World, W1 = w.alloc (.cells #[.int .i64 c.frames, .slice A1 c.parts.length n1, .slice A2 c.devices.length n2, .int .i64 c.major, .slice A3 c.windows.length n3, .slice A4 c.grants.length n4, .int .i64 c.sectors, .int .i64 c.quota, .int .i64 c.quiet] 27) := ⟨_, rfl⟩
    rw [← hW1]
    have HB1 := hide (show Bel w W1 by rw [hW1]; exact (bel_refl w).alloc _)
    have HX := hide fun W (hW : Bel W1 W) => show W.cell? ⟨w.heap.size, 0, none⟩ = some (.int .i64 c.frames) ∧ W.cell? ⟨w.heap.size, 1, none⟩ = some (.slice A1 c.parts.length n1) ∧ W.cell? ⟨w.heap.size, 2, none⟩ = some (.slice A2 c.devices.length n2) ∧ W.cell? ⟨w.heap.size, 3, none⟩ = some (.int .i64 c.major) ∧ W.cell? ⟨w.heap.size, 4, none⟩ = some (.slice A3 c.windows.length n3) ∧ W.cell? ⟨w.heap.size, 5, none⟩ = some (.slice A4 c.grants.length n4) ∧ W.cell? ⟨w.heap.size, 6, none⟩ = some (.int .i64 c.sectors) ∧ W.cell? ⟨w.heap.size, 7, none⟩ = some (.int .i64 c.quota) ∧ W.cell? ⟨w.heap.size, 8, none⟩ = some (.int .i64 c.quiet) from by
      have hx := (show BoxAt W1 w.heap.size (.int .i64 c.frames) (.slice A1 c.parts.length n1) (.slice A2 c.devices.length n2) (.int .i64 c.major) (.slice A3 c.windows.length n3) (.slice A4 c.grants.length n4) (.int .i64 c.sectors) (.int .i64 c.quota) (.int .i64 c.quiet) by rw [hW1]; exact box_new _ _ _ _ _ _ _ _ _ _ _).bel hW
      exact ⟨hx.k0, hx.k1, hx.k2, hx.k3, hx.k4, hx.k5, hx.k6, hx.k7, hx.k8⟩
    clear hW1
    obtain ⟨x0, x1, x2, x3, x4, x5, x6, x7, x8⟩ := HX.out W1 (bel_refl _)
    go_wp2_with (first | ((with_reducible refine (Hid.out hf _ HB1.out).mono ?_); rintro e V1 ⟨rfl, i1⟩; have j1 := hide (Bel.trans HB1.out i1); have m1 := hide (Bel.trans (bel_refl W1) i1); clear i1; obtain ⟨x10, x11, x12, x13, x14, x15, x16, x17, x18⟩ := HX.out _ m1.out) | ((with_reducible refine (Hid.out hgr _ j1.out).mono ?_); rintro e V2 ⟨rfl, i2⟩; have j2 := hide (Bel.trans j1.out i2); have m2 := hide (Bel.trans m1.out i2); clear i2; obtain ⟨x20, x21, x22, x23, x24, x25, x26, x27, x28⟩ := HX.out _ m2.out) | ((with_reducible refine (Hid.out hwi _ j2.out).mono ?_); rintro e V3 ⟨rfl, i3⟩; have j3 := hide (Bel.trans j2.out i3); have m3 := hide (Bel.trans m2.out i3); clear i3; obtain ⟨x30, x31, x32, x33, x34, x35, x36, x37, x38⟩ := HX.out _ m3.out) | ((with_reducible refine (Hid.out hex _ j3.out).mono ?_); rintro e V4 ⟨rfl, i4⟩; have j4 := hide (Bel.trans j3.out i4); have m4 := hide (Bel.trans m3.out i4); clear i4; obtain ⟨x40, x41, x42, x43, x44, x45, x46, x47, x48⟩ := HX.out _ m4.out))
    all_goals try (exfalso; omega)
    go_ret
    rw [HZ.out]
    exact ⟨rfl, j4.out⟩
  have HE := hide (show res = (refOwn c 0 c.parts && refNums c) by rw [HE.out]; rfl)
  go_enter Try.func23, Try.ntmps23
  go_upto_region 1 with fail
  obtain ⟨W1, hW1⟩ : ∃ W1 : World, W1 = w.alloc (.cells #[.int .i64 c.frames, .slice A1 c.parts.length n1, .slice A2 c.devices.length n2, .int .i64 c.major, .slice A3 c.windows.length n3, .slice A4 c.grants.length n4, .int .i64 c.sectors, .int .i64 c.quota, .int .i64 c.quiet] 27) := ⟨_, rfl⟩
  rw [← hW1]
  have HB1 := hide (show Bel w W1 by rw [hW1]; exact (bel_refl w).alloc _)
  have HX := hide fun W (hW : Bel W1 W) => show W.cell? ⟨w.heap.size, 0, none⟩ = some (.int .i64 c.frames) ∧ W.cell? ⟨w.heap.size, 1, none⟩ = some (.slice A1 c.parts.length n1) ∧ W.cell? ⟨w.heap.size, 2, none⟩ = some (.slice A2 c.devices.length n2) ∧ W.cell? ⟨w.heap.size, 3, none⟩ = some (.int .i64 c.major) ∧ W.cell? ⟨w.heap.size, 4, none⟩ = some (.slice A3 c.windows.length n3) ∧ W.cell? ⟨w.heap.size, 5, none⟩ = some (.slice A4 c.grants.length n4) ∧ W.cell? ⟨w.heap.size, 6, none⟩ = some (.int .i64 c.sectors) ∧ W.cell? ⟨w.heap.size, 7, none⟩ = some (.int .i64 c.quota) ∧ W.cell? ⟨w.heap.size, 8, none⟩ = some (.int .i64 c.quiet) from by
    have hx := (show BoxAt W1 w.heap.size (.int .i64 c.frames) (.slice A1 c.parts.length n1) (.slice A2 c.devices.length n2) (.int .i64 c.major) (.slice A3 c.windows.length n3) (.slice A4 c.grants.length n4) (.int .i64 c.sectors) (.int .i64 c.quota) (.int .i64 c.quiet) by rw [hW1]; exact box_new _ _ _ _ _ _ _ _ _ _ _).bel hW
    exact ⟨hx.k0, hx.k1, hx.k2, hx.k3, hx.k4, hx.k5, hx.k6, hx.k7, hx.k8⟩
  clear hW1
  obtain ⟨x0, x1, x2, x3, x4, x5, x6, x7, x8⟩ := HX.out W1 (bel_refl _)
  go_upto_region 4 with (first | ((with_reducible refine (Hid.out hf _ HB1.out).mono ?_); rintro e V1 ⟨rfl, i1⟩; have j1 := hide (Bel.trans HB1.out i1); have m1 := hide (Bel.trans (bel_refl W1) i1); clear i1; obtain ⟨x10, x11, x12, x13, x14, x15, x16, x17, x18⟩ := HX.out _ m1.out) | ((with_reducible refine (Hid.out hgr _ j1.out).mono ?_); rintro e V2 ⟨rfl, i2⟩; have j2 := hide (Bel.trans j1.out i2); have m2 := hide (Bel.trans m1.out i2); clear i2; obtain ⟨x20, x21, x22, x23, x24, x25, x26, x27, x28⟩ := HX.out _ m2.out) | ((with_reducible refine (Hid.out hwi _ j2.out).mono ?_); rintro e V3 ⟨rfl, i3⟩; have j3 := hide (Bel.trans j2.out i3); have m3 := hide (Bel.trans m2.out i3); clear i3; obtain ⟨x30, x31, x32, x33, x34, x35, x36, x37, x38⟩ := HX.out _ m3.out) | ((with_reducible refine (Hid.out hex _ j3.out).mono ?_); rintro e V4 ⟨rfl, i4⟩; have j4 := hide (Bel.trans j3.out i4); have m4 := hide (Bel.trans m3.out i4); clear i4; obtain ⟨x40, x41, x42, x43, x44, x45, x46, x47, x48⟩ := HX.out _ m4.out))
  all_goals try (exfalso; omega)
  clear x0 x1 x2 x3 x4 x5 x6 x7 x8 x10 x11 x12 x13 x14 x15 x16 x17 x18 x20 x21 x22 x23 x24 x25 x26 x27 x28 x30 x31 x32 x33 x34 x35 x36 x37 x38 hf hgr hwi hex m1 m2 m3 j1 j2 j3 x40 x41 x42 x43 x44 x45 x46 x47 x48
  have HR1 := hide (HR1.out.bel j4.out)
  have HR3 := hide (HR3.out.bel j4.out)
  have HX := hide fun W (hW : Bel V4 W) => HX.out W (Bel.trans m4.out hW)
  go_wp2_with fail
  go_loopw [4] (fun t W => ∃ k : Nat, k ≤ c.parts.length ∧ t = .int .i64 k ∧ Hid (Bel V4 W) ∧ Hid (refOwn c k (c.parts.drop k) = refOwn c 0 c.parts)) (fun t _ => c.parts.length - (intOf t).toNat)
  case atStart => exact ⟨0, Nat.zero_le _, rfl, hide (bel_refl _), hide rfl⟩
  case round =>
    obtain ⟨k, hk, rfl, HI, HW⟩ := hrel
    by_cases hlt : k < c.parts.length
    · obtain ⟨d0, d1, d2, d3, d4, hK, y0, y1, -, -, -⟩ := (HR1.out.bel HI.out).get5 rfl hlt
      have HP := hide (show refOwn c k (c.parts.drop k) = (c.windows.any (fun w => w.part == (k : Int)) && (labelMay c.parts[k].label && refOwn c (k + 1) (c.parts.drop (k + 1)))) by rw [drop_cons hlt]; rfl)
      obtain ⟨rfl, rfl, -, -, -, -, -⟩ := kPart_vals hK
      generalize c.parts[k].label = lab at y0 y1 HP
      obtain ⟨xl, xc⟩ := lab
      simp only at y0 y1
      clear hK
      obtain rfl := hA1 (by omega)
      obtain ⟨-, e1, -, -, e4, -⟩ := HX.out wr HI.out
      have HQ3 := hide (HR3.out.bel HI.out)
      go_wp2_with fail
      go_loop [5, 6] (fun t5 t6 => ∃ j : Nat, j ≤ c.windows.length ∧ t6 = .int .i64 j ∧ t5 = .bool ((c.windows.take j).any (fun w => w.part == (k : Int)))) (fun _ t => c.windows.length - (intOf t).toNat)
      case atStart => exact ⟨0, Nat.zero_le _, rfl, rfl⟩
      case round =>
        obtain ⟨j, hj, rfl, rfl⟩ := hrel
        by_cases hjl : j < c.windows.length
        · obtain ⟨f0, f1, f2, f3, hKw, z0, -, -, -⟩ := HQ3.out.get4 rfl hjl
          obtain ⟨rfl, -, -, -⟩ := kWindow_vals hKw
          have HS := hide (any_take_succ (fun w : Window => w.part == (k : Int)) hjl)
          clear hKw
          generalize c.windows[j].part = wp at z0 HS
          obtain rfl := hA3 (by omega)
          generalize (c.windows.take j).any (fun w => w.part == (k : Int)) = q at HS ⊢
          cases q
          · cases p1 : (wp == (k : Int))
            · rw [p1] at HS
              go_wp2_with fail
              exact ⟨⟨j + 1, by omega, by go_num, by rw [HS.out]; rfl⟩, by simp [intOf]; omega⟩
            · rw [p1] at HS
              go_wp2_with fail
              exact ⟨⟨j + 1, by omega, by go_num, by rw [HS.out]; rfl⟩, by simp [intOf]; omega⟩
          · go_wp2_with fail
            exact ⟨⟨j + 1, by omega, by go_num, by rw [HS.out]; rfl⟩, by simp [intOf]; omega⟩
        · obtain rfl : j = c.windows.length := by omega
          rw [List.take_length]
          have hlab := hide fun W => labelMay_r xl xc W
          have HB5 := hide (Bel.trans j4.out HI.out)
          generalize c.windows.any (fun w => w.part == (k : Int)) = q1 at HP ⊢
          generalize labelMay ⟨xl, xc⟩ = q2 at HP hlab
          cases q1
          · clear hlab
            go_wp2_with fail
            go_ret
            rw [HE.out, ← HW.out, HP.out]
            exact ⟨rfl, HB5.out⟩
          cases q2
          · go_wp2_with ((with_reducible refine (Hid.out hlab _).mono ?_); rintro e w' ⟨rfl, hi⟩)
            go_ret
            rw [HE.out, ← HW.out, HP.out]
            exact ⟨rfl, Bel.trans HB5.out hi⟩
          · go_wp2_with ((with_reducible refine (Hid.out hlab _).mono ?_); rintro e w' ⟨rfl, hi⟩)
            exact ⟨⟨k + 1, by omega, by go_num, hide (Bel.trans HI.out hi), hide (by rw [← HW.out, HP.out]; rfl)⟩, by simp [intOf]; omega⟩
    · obtain rfl : k = c.parts.length := by omega
      have HZ := hide (show res = refNums c by rw [HE.out, ← HW.out, List.drop_length]; rfl)
      obtain ⟨-, e1, -, -, -, -, -, e7, e8⟩ := HX.out wr HI.out
      clear HE HW HX
      go_wp2_with fail
      all_goals
        go_ret
        refine ⟨congrArg (fun b => Ending.returned (Value.bool b)) ?_, Bel.trans j4.out HI.out⟩
        rw [HZ.out, HNU.out, Bool.eq_iff_iff]
        simp
        try omega

set_option maxRecDepth 20000 in
set_option maxHeartbeats 16000000 in
theorem rAllowed_calls (w : World) (v : Value) (c : Config) (part a n : Int) (write : Bool) (h : CfgV w v c) (ha : I64 a) (hn : I64 n) :
    Calls Try.prog 67 #[v, .int .i64 part, .int .i64 a, .int .i64 n, .bool write] w fun e w' => e = .returned (.bool (allowed c part a n write)) ∧ Bel w w' := by
  obtain ⟨A1, A2, A3, A4, b1, o1, n1, b2, o2, n2, b3, o3, n3, b4, o4, n4, rfl, HC, HR1, HR2, HR3, HR4, HS1, HS2, HS3, HS4, hA1, hA2, hA3, hA4, hL1, hL2, hL3, hL4⟩ := h.parts4
  have HE : Hid (allowed c part a n write = (mayCfg c && (there c part && (addrMay a n (c.frames * 64) && !(split a n).any fun p => !reach c part p.frame write)))) := rfl
  generalize allowed c part a n write = res at HE
  have hm := hide fun W (hW : Bel w W) => rMay_calls W _ c (h.bel hW)
  have hre := hide fun W f (hW : Bel w W) => rReaches_calls W _ c part f write (h.bel hW)
  have had := hide fun (hq : mayCfg c = true) W => addrMay_r a n (c.frames * 64) W ha hn (by have := mayCfg_frames hq; unfold I64; omega)
  have hwr := hide fun (hq : mayCfg c = true) => show IntKind.i64.wrap (c.frames * 64) = c.frames * 64 from IntWalk.i64_in _ (by have := mayCfg_frames hq; omega)
  have hsp := hide fun (hq : mayCfg c = true) (hm : addrMay a n (c.frames * 64) = true) W => split_r a n W (by have := mayCfg_frames hq; rw [addrMay_iff] at hm ⊢; omega)
  have HTI := hide (there_iff c part)
  clear h ha hn HC HR1 HR2 HR3 HR4 HS1 HS2 HS3 HS4 hA1 hA2 hA3 hA4
  go_enter Try.func67, Try.ntmps67
  go_upto_region 1 with fail
  obtain ⟨W1, hW1⟩ : ∃ W1 : World, W1 = w.alloc (.cells #[.int .i64 c.frames, .slice A1 c.parts.length n1, .slice A2 c.devices.length n2, .int .i64 c.major, .slice A3 c.windows.length n3, .slice A4 c.grants.length n4, .int .i64 c.sectors, .int .i64 c.quota, .int .i64 c.quiet] 27) := ⟨_, rfl⟩
  rw [← hW1]
  have HB1 := hide (show Bel w W1 by rw [hW1]; exact (bel_refl w).alloc _)
  have HX := hide fun W (hW : Bel W1 W) => show W.cell? ⟨w.heap.size, 0, none⟩ = some (.int .i64 c.frames) ∧ W.cell? ⟨w.heap.size, 1, none⟩ = some (.slice A1 c.parts.length n1) ∧ W.cell? ⟨w.heap.size, 2, none⟩ = some (.slice A2 c.devices.length n2) ∧ W.cell? ⟨w.heap.size, 3, none⟩ = some (.int .i64 c.major) ∧ W.cell? ⟨w.heap.size, 4, none⟩ = some (.slice A3 c.windows.length n3) ∧ W.cell? ⟨w.heap.size, 5, none⟩ = some (.slice A4 c.grants.length n4) ∧ W.cell? ⟨w.heap.size, 6, none⟩ = some (.int .i64 c.sectors) ∧ W.cell? ⟨w.heap.size, 7, none⟩ = some (.int .i64 c.quota) ∧ W.cell? ⟨w.heap.size, 8, none⟩ = some (.int .i64 c.quiet) from by
    have hx := (show BoxAt W1 w.heap.size (.int .i64 c.frames) (.slice A1 c.parts.length n1) (.slice A2 c.devices.length n2) (.int .i64 c.major) (.slice A3 c.windows.length n3) (.slice A4 c.grants.length n4) (.int .i64 c.sectors) (.int .i64 c.quota) (.int .i64 c.quiet) by rw [hW1]; exact box_new _ _ _ _ _ _ _ _ _ _ _).bel hW
    exact ⟨hx.k0, hx.k1, hx.k2, hx.k3, hx.k4, hx.k5, hx.k6, hx.k7, hx.k8⟩
  clear hW1
  obtain ⟨x0, x1, x2, x3, x4, x5, x6, x7, x8⟩ := HX.out W1 (bel_refl _)
  have h1 := hide (hm.out W1 HB1.out)
  clear hm
  cases qm : mayCfg c
  · rw [qm] at h1 HE
    clear hre had hwr hsp HTI
    go_wp2_with ((with_reducible refine (Hid.out h1).mono ?_); rintro e V1 ⟨rfl, i1⟩)
    go_ret
    rw [HE.out]
    exact ⟨rfl, Bel.trans HB1.out i1⟩
  have had := hide (had.out qm)
  have hwr := hwr.out qm
  have hsp := hide (hsp.out qm)
  rw [qm] at h1 HE
  clear qm
  cases qt : there c part
  · rw [qt] at HTI HE
    have hn : ¬ (0 ≤ part ∧ part < (c.parts.length : Int)) := fun h => by have := HTI.out.2 h; simp at this
    clear HTI qt hre had hsp
    by_cases nn2 : part < 0
    · clear hn
      go_wp2_with ((with_reducible refine (Hid.out h1).mono ?_); rintro e V1 ⟨rfl, i1⟩; obtain ⟨z0, z1, z2, z3, z4, z5, z6, z7, z8⟩ := HX.out _ i1)
      go_ret
      rw [HE.out]
      exact ⟨rfl, Bel.trans HB1.out i1⟩
    · have nn3 : (c.parts.length : Int) ≤ part := by omega
      clear hn
      go_wp2_with ((with_reducible refine (Hid.out h1).mono ?_); rintro e V1 ⟨rfl, i1⟩; obtain ⟨z0, z1, z2, z3, z4, z5, z6, z7, z8⟩ := HX.out _ i1)
      go_ret
      rw [HE.out]
      exact ⟨rfl, Bel.trans HB1.out i1⟩
  rw [qt] at HTI HE
  obtain ⟨nn2, nn3⟩ := HTI.out.1 rfl
  clear HTI qt
  cases qa : addrMay a n (c.frames * 64)
  · rw [qa] at had HE
    clear hsp hre qa
    go_wp2_with (first | ((with_reducible refine (Hid.out h1).mono ?_); rintro e V1 ⟨rfl, i1⟩; obtain ⟨z0, z1, z2, z3, z4, z5, z6, z7, z8⟩ := HX.out _ i1) | ((with_reducible refine (Hid.out had _).mono ?_); rintro e V2 ⟨rfl, rfl⟩))
    all_goals try (exfalso; omega)
    go_ret
    rw [HE.out]
    exact ⟨rfl, Bel.trans HB1.out i1⟩
  have hsp := hide (hsp.out qa)
  rw [qa] at had HE
  clear qa
  go_upto_region 4 with (first | ((with_reducible refine (Hid.out h1).mono ?_); rintro e V1 ⟨rfl, i1⟩; have m1 := hide i1; clear i1; obtain ⟨z0, z1, z2, z3, z4, z5, z6, z7, z8⟩ := HX.out _ m1.out) | ((with_reducible refine (Hid.out had _).mono ?_); rintro e V2 ⟨rfl, rfl⟩) | ((with_reducible refine (Hid.out hsp _).mono ?_); rintro e V3 ⟨v3, rfl, hv3, i3⟩; have HV := hide hv3; have m3 := hide (Bel.trans m1.out i3); clear hv3 i3))
  all_goals try (exfalso; omega)
  clear x0 x1 x2 x3 x4 x5 x6 x7 x8 z0 z1 z2 z3 z4 z5 z6 z7 z8 h1 had hsp m1 hwr
  generalize split a n = ps at HV HE
  obtain ⟨A, b, o, cc, rfl, hl1, hl2, hA, hrows⟩ := HV.out.form
  have HR := hide (hrows _ HV.out)
  clear hrows HV
  go_wp2_with fail
  go_loopw [13] (fun t W => ∃ k : Nat, k ≤ ps.length ∧ t = .int .i64 k ∧ Hid (Bel V3 W) ∧ Hid ((ps.drop k).any (fun p => !reach c part p.frame write) = ps.any (fun p => !reach c part p.frame write))) (fun t _ => ps.length - (intOf t).toNat)
  case atStart => exact ⟨0, Nat.zero_le _, rfl, hide (bel_refl _), hide rfl⟩
  case round =>
    obtain ⟨k, hk, rfl, HI, HW⟩ := hrel
    by_cases hlt : k < ps.length
    · obtain ⟨e0, e1, e2, hK, y0, -, -⟩ := (HR.out.bel HI.out).get3 rfl hlt
      have HP := hide (show (ps.drop k).any (fun p => !reach c part p.frame write) = (!reach c part ps[k].frame write || (ps.drop (k + 1)).any (fun p => !reach c part p.frame write)) by rw [drop_cons hlt]; rfl)
      obtain ⟨rfl, -⟩ := kPiece_vals hK
      generalize ps[k].frame = yf at y0 HP
      clear hK
      obtain rfl := hA (by omega)
      have HB2 := hide (Bel.trans HB1.out (Bel.trans m3.out HI.out).drew)
      have hrk := hide fun W (hW : Bel W1 W) => hre.out W yf (Bel.trans HB1.out hW)
      have Hd := (Bel.trans m3.out HI.out).drew
      have hxd := HX.out _ Hd
      have y0d : wr.drew.cell? ⟨b, o + k * 3, none⟩ = some (.int .i64 yf) := y0
      have HId := hide HI.out.drew
      have j0 : (0 : Int) ≤ (k : Int) := by omega
      have j1 : (k : Int) < (ps.length : Int) := by omega
      generalize reach c part yf write = r at HP hrk
      cases r
      · go_wp2_with fail
        refine wp_region_held_drew (S := fun w' => Bel W1 w' ∧ (w'.cell? ⟨w.heap.size, 0, none⟩ = some (.int .i64 c.frames) ∧ w'.cell? ⟨w.heap.size, 1, none⟩ = some (.slice A1 c.parts.length n1) ∧ w'.cell? ⟨w.heap.size, 2, none⟩ = some (.slice A2 c.devices.length n2) ∧ w'.cell? ⟨w.heap.size, 3, none⟩ = some (.int .i64 c.major) ∧ w'.cell? ⟨w.heap.size, 4, none⟩ = some (.slice A3 c.windows.length n3) ∧ w'.cell? ⟨w.heap.size, 5, none⟩ = some (.slice A4 c.grants.length n4) ∧ w'.cell? ⟨w.heap.size, 6, none⟩ = some (.int .i64 c.sectors) ∧ w'.cell? ⟨w.heap.size, 7, none⟩ = some (.int .i64 c.quota) ∧ w'.cell? ⟨w.heap.size, 8, none⟩ = some (.int .i64 c.quiet)) ∧ w'.cell? ⟨b, o + k * 3, none⟩ = some (.int .i64 yf)) (by kernel_rfl) ?_ (fun hHeld => ?_)
        · exact ⟨Hd, hxd, y0d⟩
        refine hT (i := 0) (v := ?_) rfl (by kernel_rfl) (fun _ _ _ h => h) (by rfl) ?_ hHeld ?_
        rotate_left
        · (intro w_ hw_; (try dsimp only at hw_); go_simp; try with_reducible rfl)
        simp only [Act.put, List.setIfInBounds_toArray, List.set_cons_zero, List.set_cons_succ, List.getElem_toArray, List.getElem_cons_zero]
        refine hT (i := 1) (v := ?_) rfl (by kernel_rfl) (fun _ _ _ h => h) (by rfl) ?_ hHeld ?_
        rotate_left
        · (intro w_ hw_; (try dsimp only at hw_); go_simp; try with_reducible rfl)
        simp only [Act.put, List.setIfInBounds_toArray, List.set_cons_zero, List.set_cons_succ, List.getElem_toArray, List.getElem_cons_zero, List.getElem_cons_succ]
        refine hT (i := 2) (v := ?_) rfl (by kernel_rfl) (fun _ _ _ h => h) (by rfl) ?_ hHeld ?_
        rotate_left
        · (intro w_ hw_; (try dsimp only at hw_); go_simp; try with_reducible rfl)
        simp only [Act.put, List.setIfInBounds_toArray, List.set_cons_zero, List.set_cons_succ, List.getElem_toArray, List.getElem_cons_zero, List.getElem_cons_succ]
        refine hT (i := 3) (v := ?_) rfl (by kernel_rfl) (fun _ _ _ h => h) (by rfl) ?_ hHeld ?_
        rotate_left
        · (intro w_ hw_; (try dsimp only at hw_); go_simp; try with_reducible rfl)
        simp only [Act.put, List.setIfInBounds_toArray, List.set_cons_zero, List.set_cons_succ, List.getElem_toArray, List.getElem_cons_zero, List.getElem_cons_succ]
        refine hT (i := 4) (v := ?_) rfl (by kernel_rfl) (fun _ _ _ h => h) (by rfl) ?_ hHeld ?_
        rotate_left
        · (intro w_ hw_; (try dsimp only at hw_); go_simp; try with_reducible rfl)
        simp only [Act.put, List.setIfInBounds_toArray, List.set_cons_zero, List.set_cons_succ, List.getElem_toArray, List.getElem_cons_zero, List.getElem_cons_succ]
        refine hT (i := 5) (v := ?_) rfl (by kernel_rfl) (fun _ _ _ h => h) (by rfl) ?_ hHeld ?_
        rotate_left
        · (intro w_ hw_; (try dsimp only at hw_); go_simp; try with_reducible rfl)
        simp only [Act.put, List.setIfInBounds_toArray, List.set_cons_zero, List.set_cons_succ, List.getElem_toArray, List.getElem_cons_zero, List.getElem_cons_succ]
        refine hT (i := 6) (v := ?_) rfl (by kernel_rfl) (fun _ _ _ h => h) (by rfl) ?_ hHeld ?_
        rotate_left
        · (intro w_ hw_; (try dsimp only at hw_); go_simp; try with_reducible rfl)
        simp only [Act.put, List.setIfInBounds_toArray, List.set_cons_zero, List.set_cons_succ, List.getElem_toArray, List.getElem_cons_zero, List.getElem_cons_succ]
        refine hT (i := 7) (v := ?_) rfl (by kernel_rfl) (fun _ _ _ h => h) (by rfl) ?_ hHeld ?_
        rotate_left
        · (intro w_ hw_; (try dsimp only at hw_); go_simp; try with_reducible rfl)
        simp only [Act.put, List.setIfInBounds_toArray, List.set_cons_zero, List.set_cons_succ, List.getElem_toArray, List.getElem_cons_zero, List.getElem_cons_succ]
        refine hE (i := 8) rfl (by kernel_rfl) (by rfl) (fun K hK => ?_)
        go_simp
        refine (hrk.out _ hHeld.1).mono ?_
        rintro e v8 ⟨rfl, hi⟩
        have hih := hide hi
        refine hK.out _ _ ?_ (fun hHeld => ?_)
        · exact ⟨Bel.trans hHeld.1 hih.out, HX.out _ (Bel.trans hHeld.1 hih.out), hih.out.cell hHeld.2.2⟩
        clear hK K
        refine hT (i := 9) (v := ?_) rfl (by kernel_rfl) (fun _ _ _ h => h) (by rfl) ?_ hHeld ?_
        rotate_left
        · (intro w_ hw_; (try dsimp only at hw_); go_simp; try with_reducible rfl)
        simp only [Act.put, List.setIfInBounds_toArray, List.set_cons_zero, List.set_cons_succ, List.getElem_toArray, List.getElem_cons_zero, List.getElem_cons_succ]
        refine wpAnyH_done (by kernel_rfl) ?_ _
        clear hHeld
        go_wp2_with fail
        go_ret
        rw [HE.out, ← HW.out, HP.out]
        exact ⟨rfl, Bel.trans HB2.out hih.out⟩
      · go_wp2_with fail
        refine wp_region_held_drew (S := fun w' => Bel W1 w' ∧ (w'.cell? ⟨w.heap.size, 0, none⟩ = some (.int .i64 c.frames) ∧ w'.cell? ⟨w.heap.size, 1, none⟩ = some (.slice A1 c.parts.length n1) ∧ w'.cell? ⟨w.heap.size, 2, none⟩ = some (.slice A2 c.devices.length n2) ∧ w'.cell? ⟨w.heap.size, 3, none⟩ = some (.int .i64 c.major) ∧ w'.cell? ⟨w.heap.size, 4, none⟩ = some (.slice A3 c.windows.length n3) ∧ w'.cell? ⟨w.heap.size, 5, none⟩ = some (.slice A4 c.grants.length n4) ∧ w'.cell? ⟨w.heap.size, 6, none⟩ = some (.int .i64 c.sectors) ∧ w'.cell? ⟨w.heap.size, 7, none⟩ = some (.int .i64 c.quota) ∧ w'.cell? ⟨w.heap.size, 8, none⟩ = some (.int .i64 c.quiet)) ∧ w'.cell? ⟨b, o + k * 3, none⟩ = some (.int .i64 yf)) (by kernel_rfl) ?_ (fun hHeld => ?_)
        · exact ⟨Hd, hxd, y0d⟩
        refine hT (i := 0) (v := ?_) rfl (by kernel_rfl) (fun _ _ _ h => h) (by rfl) ?_ hHeld ?_
        rotate_left
        · (intro w_ hw_; (try dsimp only at hw_); go_simp; try with_reducible rfl)
        simp only [Act.put, List.setIfInBounds_toArray, List.set_cons_zero, List.set_cons_succ, List.getElem_toArray, List.getElem_cons_zero]
        refine hT (i := 1) (v := ?_) rfl (by kernel_rfl) (fun _ _ _ h => h) (by rfl) ?_ hHeld ?_
        rotate_left
        · (intro w_ hw_; (try dsimp only at hw_); go_simp; try with_reducible rfl)
        simp only [Act.put, List.setIfInBounds_toArray, List.set_cons_zero, List.set_cons_succ, List.getElem_toArray, List.getElem_cons_zero, List.getElem_cons_succ]
        refine hT (i := 2) (v := ?_) rfl (by kernel_rfl) (fun _ _ _ h => h) (by rfl) ?_ hHeld ?_
        rotate_left
        · (intro w_ hw_; (try dsimp only at hw_); go_simp; try with_reducible rfl)
        simp only [Act.put, List.setIfInBounds_toArray, List.set_cons_zero, List.set_cons_succ, List.getElem_toArray, List.getElem_cons_zero, List.getElem_cons_succ]
        refine hT (i := 3) (v := ?_) rfl (by kernel_rfl) (fun _ _ _ h => h) (by rfl) ?_ hHeld ?_
        rotate_left
        · (intro w_ hw_; (try dsimp only at hw_); go_simp; try with_reducible rfl)
        simp only [Act.put, List.setIfInBounds_toArray, List.set_cons_zero, List.set_cons_succ, List.getElem_toArray, List.getElem_cons_zero, List.getElem_cons_succ]
        refine hT (i := 4) (v := ?_) rfl (by kernel_rfl) (fun _ _ _ h => h) (by rfl) ?_ hHeld ?_
        rotate_left
        · (intro w_ hw_; (try dsimp only at hw_); go_simp; try with_reducible rfl)
        simp only [Act.put, List.setIfInBounds_toArray, List.set_cons_zero, List.set_cons_succ, List.getElem_toArray, List.getElem_cons_zero, List.getElem_cons_succ]
        refine hT (i := 5) (v := ?_) rfl (by kernel_rfl) (fun _ _ _ h => h) (by rfl) ?_ hHeld ?_
        rotate_left
        · (intro w_ hw_; (try dsimp only at hw_); go_simp; try with_reducible rfl)
        simp only [Act.put, List.setIfInBounds_toArray, List.set_cons_zero, List.set_cons_succ, List.getElem_toArray, List.getElem_cons_zero, List.getElem_cons_succ]
        refine hT (i := 6) (v := ?_) rfl (by kernel_rfl) (fun _ _ _ h => h) (by rfl) ?_ hHeld ?_
        rotate_left
        · (intro w_ hw_; (try dsimp only at hw_); go_simp; try with_reducible rfl)
        simp only [Act.put, List.setIfInBounds_toArray, List.set_cons_zero, List.set_cons_succ, List.getElem_toArray, List.getElem_cons_zero, List.getElem_cons_succ]
        refine hT (i := 7) (v := ?_) rfl (by kernel_rfl) (fun _ _ _ h => h) (by rfl) ?_ hHeld ?_
        rotate_left
        · (intro w_ hw_; (try dsimp only at hw_); go_simp; try with_reducible rfl)
        simp only [Act.put, List.setIfInBounds_toArray, List.set_cons_zero, List.set_cons_succ, List.getElem_toArray, List.getElem_cons_zero, List.getElem_cons_succ]
        refine hE (i := 8) rfl (by kernel_rfl) (by rfl) (fun K hK => ?_)
        go_simp
        refine (hrk.out _ hHeld.1).mono ?_
        rintro e v8 ⟨rfl, hi⟩
        have hih := hide hi
        refine hK.out _ _ ?_ (fun hHeld => ?_)
        · exact ⟨Bel.trans hHeld.1 hih.out, HX.out _ (Bel.trans hHeld.1 hih.out), hih.out.cell hHeld.2.2⟩
        clear hK K
        refine hT (i := 9) (v := ?_) rfl (by kernel_rfl) (fun _ _ _ h => h) (by rfl) ?_ hHeld ?_
        rotate_left
        · (intro w_ hw_; (try dsimp only at hw_); go_simp; try with_reducible rfl)
        simp only [Act.put, List.setIfInBounds_toArray, List.set_cons_zero, List.set_cons_succ, List.getElem_toArray, List.getElem_cons_zero, List.getElem_cons_succ]
        refine wpAnyH_done (by kernel_rfl) ?_ _
        clear hHeld
        go_wp2_with fail
        exact ⟨⟨k + 1, by omega, by go_num, hide (Bel.trans HId.out hih.out), hide (by rw [← HW.out, HP.out]; rfl)⟩, by simp [intOf]; omega⟩
    · obtain rfl : k = ps.length := by omega
      rw [List.drop_length] at HW
      go_wp2_with fail
      go_ret
      rw [HE.out, ← HW.out]
      exact ⟨rfl, Bel.trans HB1.out (Bel.trans m3.out HI.out)⟩

set_option maxHeartbeats 4000000 in
theorem rReads_calls (w : World) (v : Value) (c : Config) (part a n : Int) (h : CfgV w v c) (ha : I64 a) (hn : I64 n) :
    Calls Try.prog 25 #[v, .int .i64 part, .int .i64 a, .int .i64 n] w fun e w' => e = .returned (.bool (allowed c part a n false)) ∧ Bel w w' := by
  obtain ⟨A1, A2, A3, A4, b1, o1, n1, b2, o2, n2, b3, o3, n3, b4, o4, n4, rfl, HC, HR1, HR2, HR3, HR4, HS1, HS2, HS3, HS4, hA1, hA2, hA3, hA4, hL1, hL2, hL3, hL4⟩ := h.parts4
  have hm := hide fun W (hW : Bel w W) => rAllowed_calls W _ c part a n false (h.bel hW) ha hn
  generalize allowed c part a n false = res at hm
  clear h ha hn HC HR1 HR2 HR3 HR4 HS1 HS2 HS3 HS4 hA1 hA2 hA3 hA4
  go_enter Try.func25, Try.ntmps25
  go_upto_region 1 with fail
  obtain ⟨W1, hW1⟩ : ∃ W1 : World, W1 = w.alloc (.cells #[.int .i64 c.frames, .slice A1 c.parts.length n1, .slice A2 c.devices.length n2, .int .i64 c.major, .slice A3 c.windows.length n3, .slice A4 c.grants.length n4, .int .i64 c.sectors, .int .i64 c.quota, .int .i64 c.quiet] 27) := ⟨_, rfl⟩
  rw [← hW1]
  have HB1 := hide (show Bel w W1 by rw [hW1]; exact (bel_refl w).alloc _)
  have HX := hide fun W (hW : Bel W1 W) => show W.cell? ⟨w.heap.size, 0, none⟩ = some (.int .i64 c.frames) ∧ W.cell? ⟨w.heap.size, 1, none⟩ = some (.slice A1 c.parts.length n1) ∧ W.cell? ⟨w.heap.size, 2, none⟩ = some (.slice A2 c.devices.length n2) ∧ W.cell? ⟨w.heap.size, 3, none⟩ = some (.int .i64 c.major) ∧ W.cell? ⟨w.heap.size, 4, none⟩ = some (.slice A3 c.windows.length n3) ∧ W.cell? ⟨w.heap.size, 5, none⟩ = some (.slice A4 c.grants.length n4) ∧ W.cell? ⟨w.heap.size, 6, none⟩ = some (.int .i64 c.sectors) ∧ W.cell? ⟨w.heap.size, 7, none⟩ = some (.int .i64 c.quota) ∧ W.cell? ⟨w.heap.size, 8, none⟩ = some (.int .i64 c.quiet) from by
    have hx := (show BoxAt W1 w.heap.size (.int .i64 c.frames) (.slice A1 c.parts.length n1) (.slice A2 c.devices.length n2) (.int .i64 c.major) (.slice A3 c.windows.length n3) (.slice A4 c.grants.length n4) (.int .i64 c.sectors) (.int .i64 c.quota) (.int .i64 c.quiet) by rw [hW1]; exact box_new _ _ _ _ _ _ _ _ _ _ _).bel hW
    exact ⟨hx.k0, hx.k1, hx.k2, hx.k3, hx.k4, hx.k5, hx.k6, hx.k7, hx.k8⟩
  clear hW1
  obtain ⟨x0, x1, x2, x3, x4, x5, x6, x7, x8⟩ := HX.out W1 (bel_refl _)
  have h1 := hide (hm.out W1 HB1.out)
  go_wp2_with ((with_reducible refine (Hid.out h1).mono ?_); rintro e V1 ⟨rfl, i1⟩)
  go_ret
  exact ⟨rfl, Bel.trans HB1.out i1⟩

set_option maxHeartbeats 4000000 in
theorem rWrites_calls (w : World) (v : Value) (c : Config) (part a n : Int) (h : CfgV w v c) (ha : I64 a) (hn : I64 n) :
    Calls Try.prog 27 #[v, .int .i64 part, .int .i64 a, .int .i64 n] w fun e w' => e = .returned (.bool (allowed c part a n true)) ∧ Bel w w' := by
  obtain ⟨A1, A2, A3, A4, b1, o1, n1, b2, o2, n2, b3, o3, n3, b4, o4, n4, rfl, HC, HR1, HR2, HR3, HR4, HS1, HS2, HS3, HS4, hA1, hA2, hA3, hA4, hL1, hL2, hL3, hL4⟩ := h.parts4
  have hm := hide fun W (hW : Bel w W) => rAllowed_calls W _ c part a n true (h.bel hW) ha hn
  generalize allowed c part a n true = res at hm
  clear h ha hn HC HR1 HR2 HR3 HR4 HS1 HS2 HS3 HS4 hA1 hA2 hA3 hA4
  go_enter Try.func27, Try.ntmps27
  go_upto_region 1 with fail
  obtain ⟨W1, hW1⟩ : ∃ W1 : World, W1 = w.alloc (.cells #[.int .i64 c.frames, .slice A1 c.parts.length n1, .slice A2 c.devices.length n2, .int .i64 c.major, .slice A3 c.windows.length n3, .slice A4 c.grants.length n4, .int .i64 c.sectors, .int .i64 c.quota, .int .i64 c.quiet] 27) := ⟨_, rfl⟩
  rw [← hW1]
  have HB1 := hide (show Bel w W1 by rw [hW1]; exact (bel_refl w).alloc _)
  have HX := hide fun W (hW : Bel W1 W) => show W.cell? ⟨w.heap.size, 0, none⟩ = some (.int .i64 c.frames) ∧ W.cell? ⟨w.heap.size, 1, none⟩ = some (.slice A1 c.parts.length n1) ∧ W.cell? ⟨w.heap.size, 2, none⟩ = some (.slice A2 c.devices.length n2) ∧ W.cell? ⟨w.heap.size, 3, none⟩ = some (.int .i64 c.major) ∧ W.cell? ⟨w.heap.size, 4, none⟩ = some (.slice A3 c.windows.length n3) ∧ W.cell? ⟨w.heap.size, 5, none⟩ = some (.slice A4 c.grants.length n4) ∧ W.cell? ⟨w.heap.size, 6, none⟩ = some (.int .i64 c.sectors) ∧ W.cell? ⟨w.heap.size, 7, none⟩ = some (.int .i64 c.quota) ∧ W.cell? ⟨w.heap.size, 8, none⟩ = some (.int .i64 c.quiet) from by
    have hx := (show BoxAt W1 w.heap.size (.int .i64 c.frames) (.slice A1 c.parts.length n1) (.slice A2 c.devices.length n2) (.int .i64 c.major) (.slice A3 c.windows.length n3) (.slice A4 c.grants.length n4) (.int .i64 c.sectors) (.int .i64 c.quota) (.int .i64 c.quiet) by rw [hW1]; exact box_new _ _ _ _ _ _ _ _ _ _ _).bel hW
    exact ⟨hx.k0, hx.k1, hx.k2, hx.k3, hx.k4, hx.k5, hx.k6, hx.k7, hx.k8⟩
  clear hW1
  obtain ⟨x0, x1, x2, x3, x4, x5, x6, x7, x8⟩ := HX.out W1 (bel_refl _)
  have h1 := hide (hm.out W1 HB1.out)
  go_wp2_with ((with_reducible refine (Hid.out h1).mono ?_); rintro e V1 ⟨rfl, i1⟩)
  go_ret
  exact ⟨rfl, Bel.trans HB1.out i1⟩
end Go.Proofs.Ythjhkbnajclcjaa
