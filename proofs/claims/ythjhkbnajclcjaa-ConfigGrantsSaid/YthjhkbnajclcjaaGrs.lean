/- caissonlaw21.ConfigGrants: the walk. -/
import Derived.Test.YthjhkbnajclcjaaGrP
import Derived.Test.YthjhkbnajclcjaaDraw
import Derived.Deep.CutBlock
import Derived.Deep.DeepCutAuto
set_option linter.unusedSimpArgs false
namespace Go.Proofs.Ythjhkbnajclcjaa
open Go.RowKit

set_option maxRecDepth 20000 in
set_option maxHeartbeats 40000000 in
theorem grants_law (frame tp : Int) (write : Bool) (w : World) : Calls Try.prog 6 #[.int .i64 frame, .int .i64 tp, .bool write] w fun e w' => e = .returned (.bool true) ∧ Bel w w' := by
  have hp := hide plain_calls'
  have hp2 := hide plain_calls'
  have ha := hide awake_calls
  go_enter Try.func6, Try.ntmps6
  go_upto_region 3 with ((with_reducible refine (Hid.out ha _).mono ?_); rintro e w0 ⟨rfl, hb0⟩; have hb0h := hide hb0; clear hb0)
  go_upto_region 4 with (first | ((with_reducible refine (Hid.out hp _).mono ?_); rintro e wx ⟨rfl, hb1, hc1, hs1⟩; clear hp) | ((with_reducible refine (Hid.out hp2 _).mono ?_); rintro e w2 ⟨rfl, hb2, hc2, hs2⟩))
  go_upto_region 6 with fail
  obtain ⟨f, hf, hf7⟩ := umod frame 7 (by decide) (by decide)
  obtain ⟨p, hp, hp3⟩ := umod tp 3 (by decide) (by decide)
  rw [hf, hp]
  clear hf hp
  have hf7 : f < 7 := by omega
  have hp3 : p < 3 := by omega
  obtain ⟨W3, hW3⟩ : ∃ W3 : World, W3 = (w2.alloc (.cells #[.int .i64 16, .slice (some ⟨w0.heap.size + 4, 0, none⟩) 3 3, .slice (some ⟨w0.heap.size + 7, 0, none⟩) 2 2, .int .i64 6, .slice (some ⟨w0.heap.size + 8, 0, none⟩) 3 3, .slice (some ⟨w0.heap.size + 9, 0, none⟩) 1 1, .int .i64 10, .int .i64 6, .int .i64 2] 27)).alloc (.cells #[.int .i64 16, .slice (some ⟨wx.heap.size + 4, 0, none⟩) 3 3, .slice (some ⟨wx.heap.size + 7, 0, none⟩) 2 2, .int .i64 6, .slice (some ⟨wx.heap.size + 8, 0, none⟩) 3 3, .slice (some ⟨wx.heap.size + 9, 0, none⟩) 1 1, .int .i64 10, .int .i64 6, .int .i64 2] 27) := ⟨_, rfl⟩
  rw [← hW3]
  have hsz : W3.heap.size = w2.heap.size + 2 := by rw [hW3, size_alloc, size_alloc]
  have hb23 : Bel w2 W3 := by rw [hW3]; exact ((bel_refl _).alloc _).alloc _
  have A1 := hide (hc1.out.bel (Bel.trans hb2.out hb23))
  have A2 := hide (hc2.out.bel hb23)
  have B7 : Hid (BlkAt W3 w2.heap.size [.int .i64 16, .slice (some ⟨w0.heap.size + 4, 0, none⟩) 3 3, .slice (some ⟨w0.heap.size + 7, 0, none⟩) 2 2, .int .i64 6, .slice (some ⟨w0.heap.size + 8, 0, none⟩) 3 3, .slice (some ⟨w0.heap.size + 9, 0, none⟩) 1 1, .int .i64 10, .int .i64 6, .int .i64 2] 27) := by
    have h := (blk_new w2 [.int .i64 16, .slice (some ⟨w0.heap.size + 4, 0, none⟩) 3 3, .slice (some ⟨w0.heap.size + 7, 0, none⟩) 2 2, .int .i64 6, .slice (some ⟨w0.heap.size + 8, 0, none⟩) 3 3, .slice (some ⟨w0.heap.size + 9, 0, none⟩) 1 1, .int .i64 10, .int .i64 6, .int .i64 2] 27).bel ((bel_refl _).alloc (.cells #[.int .i64 16, .slice (some ⟨wx.heap.size + 4, 0, none⟩) 3 3, .slice (some ⟨wx.heap.size + 7, 0, none⟩) 2 2, .int .i64 6, .slice (some ⟨wx.heap.size + 8, 0, none⟩) 3 3, .slice (some ⟨wx.heap.size + 9, 0, none⟩) 1 1, .int .i64 10, .int .i64 6, .int .i64 2] 27))
    rw [hW3]
    exact h
  have B8 : Hid (BlkAt W3 (w2.heap.size + 1) [.int .i64 16, .slice (some ⟨wx.heap.size + 4, 0, none⟩) 3 3, .slice (some ⟨wx.heap.size + 7, 0, none⟩) 2 2, .int .i64 6, .slice (some ⟨wx.heap.size + 8, 0, none⟩) 3 3, .slice (some ⟨wx.heap.size + 9, 0, none⟩) 1 1, .int .i64 10, .int .i64 6, .int .i64 2] 27) := by
    have h := blk_new (w2.alloc (.cells #[.int .i64 16, .slice (some ⟨w0.heap.size + 4, 0, none⟩) 3 3, .slice (some ⟨w0.heap.size + 7, 0, none⟩) 2 2, .int .i64 6, .slice (some ⟨w0.heap.size + 8, 0, none⟩) 3 3, .slice (some ⟨w0.heap.size + 9, 0, none⟩) 1 1, .int .i64 10, .int .i64 6, .int .i64 2] 27)) [.int .i64 16, .slice (some ⟨wx.heap.size + 4, 0, none⟩) 3 3, .slice (some ⟨wx.heap.size + 7, 0, none⟩) 2 2, .int .i64 6, .slice (some ⟨wx.heap.size + 8, 0, none⟩) 3 3, .slice (some ⟨wx.heap.size + 9, 0, none⟩) 1 1, .int .i64 10, .int .i64 6, .int .i64 2] 27
    rw [size_alloc] at h
    rw [hW3]
    exact h
  have HB := hide (Bel.trans hb0h.out (Bel.trans hb1.out (Bel.trans hb2.out hb23)))
  have hle0 := hb0h.out.size
  have hle1 := hb1.out.size
  have hle2 := hb2.out.size
  clear hW3 hb0h hb1 hb2 hb23 hc1 hc2 hp2 ha
  have hszh := hide hsz
  clear hsz
  have g0 := fun o => BlkAt.cell (BlkAt.bel B8.out ((bel_refl W3).alloc o)) (i := 5) rfl
  have g1 := fun o => BlkAt.free (BlkAt.bel B8.out ((bel_refl W3).alloc o)) 5
  have g2 := fun v o => BlkAt.cell (BlkAt.other (BlkAt.bel B7.out ((bel_refl W3).alloc o)) (p := ⟨w2.heap.size + 1, 5, none⟩) (by dsimp only; omega) v) (i := 5) rfl
  have g3 := fun v o => BlkAt.free (BlkAt.other (BlkAt.bel B7.out ((bel_refl W3).alloc o)) (p := ⟨w2.heap.size + 1, 5, none⟩) (by dsimp only; omega) v) 5
  go_upto_region 8 with fail
  clear g0 g1 g2 g3
  obtain ⟨W5, hW5⟩ : ∃ W5 : World, W5 = ((W3.alloc (.cells #[.int .i64 (f : Int), .int .i64 (p : Int), .bool write] 44)).setCell ⟨w2.heap.size + 1, 5, none⟩ (.slice (some ⟨W3.heap.size, 0, none⟩) 1 1)).setCell ⟨w2.heap.size, 5, none⟩ (.slice none 0 0) := ⟨_, rfl⟩
  rw [← hW5]
  have hsz := hszh.out
  have ba := (bel_refl W3).alloc (.cells #[.int .i64 (f : Int), .int .i64 (p : Int), .bool write] 44)
  have A1 := hide (show PlainAt W5 w0.heap.size by rw [hW5]; exact ((A1.out.bel ba).other _ _ _ (by omega)).other _ _ _ (by omega))
  have A2 := hide (show PlainAt W5 wx.heap.size by rw [hW5]; exact ((A2.out.bel ba).other _ _ _ (by omega)).other _ _ _ (by omega))
  have B7 : Hid (BlkAt W5 w2.heap.size [.int .i64 16, .slice (some ⟨w0.heap.size + 4, 0, none⟩) 3 3, .slice (some ⟨w0.heap.size + 7, 0, none⟩) 2 2, .int .i64 6, .slice (some ⟨w0.heap.size + 8, 0, none⟩) 3 3, .slice none 0 0, .int .i64 10, .int .i64 6, .int .i64 2] 27) := by
    rw [hW5]
    exact BlkAt.set (BlkAt.other (BlkAt.bel B7.out ba) (p := ⟨w2.heap.size + 1, 5, none⟩) (by dsimp only; omega) _) 5 _
  have B8 : Hid (BlkAt W5 (w2.heap.size + 1) [.int .i64 16, .slice (some ⟨wx.heap.size + 4, 0, none⟩) 3 3, .slice (some ⟨wx.heap.size + 7, 0, none⟩) 2 2, .int .i64 6, .slice (some ⟨wx.heap.size + 8, 0, none⟩) 3 3, .slice (some ⟨W3.heap.size, 0, none⟩) 1 1, .int .i64 10, .int .i64 6, .int .i64 2] 27) := by
    rw [hW5]
    exact BlkAt.other (BlkAt.set (BlkAt.bel B8.out ba) 5 _) (p := ⟨w2.heap.size, 5, none⟩) (by dsimp only; omega) _
  have G := hide (show BlkAt W5 W3.heap.size [vi (f : Int), vi (p : Int), .bool write] 44 by
    rw [hW5]
    exact BlkAt.other (BlkAt.other (blk_new W3 [vi (f : Int), vi (p : Int), .bool write] 44) (p := ⟨w2.heap.size + 1, 5, none⟩) (by dsimp only; omega) _) (p := ⟨w2.heap.size, 5, none⟩) (by dsimp only; omega) _)
  have HB := hide (show Bel w W5 by rw [hW5]; exact ((HB.out.alloc _).setCell (by dsimp only; omega) _).setCell (by dsimp only; omega) _)
  clear hW5 ba hsz hszh
  have kc := hide fun W (hW : Bel W5 W) => show CfgV W (.agg #[.int .i64 16, .slice (some ⟨w0.heap.size + 4, 0, none⟩) 3 3, .slice (some ⟨w0.heap.size + 7, 0, none⟩) 2 2, .int .i64 6, .slice (some ⟨w0.heap.size + 8, 0, none⟩) 3 3, .slice none 0 0, .int .i64 10, .int .i64 6, .int .i64 2]) (gcfg []) from
    ⟨_, rfl, _, _, _, _, rfl, (A1.out.bel hW).parts, (A1.out.bel hW).devices, (A1.out.bel hW).windows, nil_sl _ _, show I64 16 by decide, show I64 6 by decide, show I64 10 by decide, show I64 6 by decide, show I64 2 by decide⟩
  have kd := hide fun W (hW : Bel W5 W) => show CfgV W (.agg #[.int .i64 16, .slice (some ⟨wx.heap.size + 4, 0, none⟩) 3 3, .slice (some ⟨wx.heap.size + 7, 0, none⟩) 2 2, .int .i64 6, .slice (some ⟨wx.heap.size + 8, 0, none⟩) 3 3, .slice (some ⟨W3.heap.size, 0, none⟩) 1 1, .int .i64 10, .int .i64 6, .int .i64 2]) (gcfg [⟨(f : Int), (p : Int), write⟩]) from
    ⟨_, rfl, _, _, _, _, rfl, (A2.out.bel hW).parts, (A2.out.bel hW).devices, (A2.out.bel hW).windows, grants1 ⟨(f : Int), (p : Int), write⟩ (BlkAt.bel G.out hW) (by unfold I64; dsimp only; omega) (by unfold I64; dsimp only; omega), show I64 16 by decide, show I64 6 by decide, show I64 10 by decide, show I64 6 by decide, show I64 2 by decide⟩
  have b7 := hide fun W (hW : Bel W5 W) => show W.cell? ⟨w2.heap.size, 0, none⟩ = some (.int .i64 16) ∧ W.cell? ⟨w2.heap.size, 1, none⟩ = some (.slice (some ⟨w0.heap.size + 4, 0, none⟩) 3 3) ∧ W.cell? ⟨w2.heap.size, 2, none⟩ = some (.slice (some ⟨w0.heap.size + 7, 0, none⟩) 2 2) ∧ W.cell? ⟨w2.heap.size, 3, none⟩ = some (.int .i64 6) ∧ W.cell? ⟨w2.heap.size, 4, none⟩ = some (.slice (some ⟨w0.heap.size + 8, 0, none⟩) 3 3) ∧ W.cell? ⟨w2.heap.size, 5, none⟩ = some (.slice none 0 0) ∧ W.cell? ⟨w2.heap.size, 6, none⟩ = some (.int .i64 10) ∧ W.cell? ⟨w2.heap.size, 7, none⟩ = some (.int .i64 6) ∧ W.cell? ⟨w2.heap.size, 8, none⟩ = some (.int .i64 2) from
    ⟨BlkAt.cell (BlkAt.bel B7.out hW) (i := 0) rfl, BlkAt.cell (BlkAt.bel B7.out hW) (i := 1) rfl, BlkAt.cell (BlkAt.bel B7.out hW) (i := 2) rfl, BlkAt.cell (BlkAt.bel B7.out hW) (i := 3) rfl, BlkAt.cell (BlkAt.bel B7.out hW) (i := 4) rfl, BlkAt.cell (BlkAt.bel B7.out hW) (i := 5) rfl, BlkAt.cell (BlkAt.bel B7.out hW) (i := 6) rfl, BlkAt.cell (BlkAt.bel B7.out hW) (i := 7) rfl, BlkAt.cell (BlkAt.bel B7.out hW) (i := 8) rfl⟩
  have b8 := hide fun W (hW : Bel W5 W) => show W.cell? ⟨w2.heap.size + 1, 0, none⟩ = some (.int .i64 16) ∧ W.cell? ⟨w2.heap.size + 1, 1, none⟩ = some (.slice (some ⟨wx.heap.size + 4, 0, none⟩) 3 3) ∧ W.cell? ⟨w2.heap.size + 1, 2, none⟩ = some (.slice (some ⟨wx.heap.size + 7, 0, none⟩) 2 2) ∧ W.cell? ⟨w2.heap.size + 1, 3, none⟩ = some (.int .i64 6) ∧ W.cell? ⟨w2.heap.size + 1, 4, none⟩ = some (.slice (some ⟨wx.heap.size + 8, 0, none⟩) 3 3) ∧ W.cell? ⟨w2.heap.size + 1, 5, none⟩ = some (.slice (some ⟨W3.heap.size, 0, none⟩) 1 1) ∧ W.cell? ⟨w2.heap.size + 1, 6, none⟩ = some (.int .i64 10) ∧ W.cell? ⟨w2.heap.size + 1, 7, none⟩ = some (.int .i64 6) ∧ W.cell? ⟨w2.heap.size + 1, 8, none⟩ = some (.int .i64 2) from
    ⟨BlkAt.cell (BlkAt.bel B8.out hW) (i := 0) rfl, BlkAt.cell (BlkAt.bel B8.out hW) (i := 1) rfl, BlkAt.cell (BlkAt.bel B8.out hW) (i := 2) rfl, BlkAt.cell (BlkAt.bel B8.out hW) (i := 3) rfl, BlkAt.cell (BlkAt.bel B8.out hW) (i := 4) rfl, BlkAt.cell (BlkAt.bel B8.out hW) (i := 5) rfl, BlkAt.cell (BlkAt.bel B8.out hW) (i := 6) rfl, BlkAt.cell (BlkAt.bel B8.out hW) (i := 7) rfl, BlkAt.cell (BlkAt.bel B8.out hW) (i := 8) rfl⟩
  have m8 := hide fun W (hW : Bel W5 W) => may_calls W _ _ (kd.out W hW)
  simp only [gr_may f p write hf7 hp3] at m8
  clear A1 A2 B7 B8 G hle0 hle1 hle2 hs1 hs2
  go_cut [11] (fun t11 W => t11 = .bool (ownB f p) ∧ W5 = W)
  case first =>
    clear kc kd b7 b8 m8
    match f, hf7, p, hp3 with
    | 0, _, 0, _ => (go_wp2_with fail; go_meet; case rel => exact ⟨rfl, rfl⟩)
    | 0, _, 1, _ => (go_wp2_with fail; go_meet; case rel => exact ⟨rfl, rfl⟩)
    | 0, _, 2, _ => (go_wp2_with fail; go_meet; case rel => exact ⟨rfl, rfl⟩)
    | 0, _, m + 3, h => exact absurd h (by omega)
    | 1, _, 0, _ => (go_wp2_with fail; go_meet; case rel => exact ⟨rfl, rfl⟩)
    | 1, _, 1, _ => (go_wp2_with fail; go_meet; case rel => exact ⟨rfl, rfl⟩)
    | 1, _, 2, _ => (go_wp2_with fail; go_meet; case rel => exact ⟨rfl, rfl⟩)
    | 1, _, m + 3, h => exact absurd h (by omega)
    | 2, _, 0, _ => (go_wp2_with fail; go_meet; case rel => exact ⟨rfl, rfl⟩)
    | 2, _, 1, _ => (go_wp2_with fail; go_meet; case rel => exact ⟨rfl, rfl⟩)
    | 2, _, 2, _ => (go_wp2_with fail; go_meet; case rel => exact ⟨rfl, rfl⟩)
    | 2, _, m + 3, h => exact absurd h (by omega)
    | 3, _, 0, _ => (go_wp2_with fail; go_meet; case rel => exact ⟨rfl, rfl⟩)
    | 3, _, 1, _ => (go_wp2_with fail; go_meet; case rel => exact ⟨rfl, rfl⟩)
    | 3, _, 2, _ => (go_wp2_with fail; go_meet; case rel => exact ⟨rfl, rfl⟩)
    | 3, _, m + 3, h => exact absurd h (by omega)
    | 4, _, 0, _ => (go_wp2_with fail; go_meet; case rel => exact ⟨rfl, rfl⟩)
    | 4, _, 1, _ => (go_wp2_with fail; go_meet; case rel => exact ⟨rfl, rfl⟩)
    | 4, _, 2, _ => (go_wp2_with fail; go_meet; case rel => exact ⟨rfl, rfl⟩)
    | 4, _, m + 3, h => exact absurd h (by omega)
    | 5, _, 0, _ => (go_wp2_with fail; go_meet; case rel => exact ⟨rfl, rfl⟩)
    | 5, _, 1, _ => (go_wp2_with fail; go_meet; case rel => exact ⟨rfl, rfl⟩)
    | 5, _, 2, _ => (go_wp2_with fail; go_meet; case rel => exact ⟨rfl, rfl⟩)
    | 5, _, m + 3, h => exact absurd h (by omega)
    | 6, _, 0, _ => (go_wp2_with fail; go_meet; case rel => exact ⟨rfl, rfl⟩)
    | 6, _, 1, _ => (go_wp2_with fail; go_meet; case rel => exact ⟨rfl, rfl⟩)
    | 6, _, 2, _ => (go_wp2_with fail; go_meet; case rel => exact ⟨rfl, rfl⟩)
    | 6, _, m + 3, h => exact absurd h (by omega)
    | m + 7, h, _, _ => exact absurd h (by omega)
  case rest =>
    obtain ⟨rfl, rfl⟩ := hcut
    have k8 := b8.out W5 (bel_refl _)
    cases ho : ownB f p
    · rw [ho] at m8
      have r7 : Hid (∀ (q g : Nat) (W : World), g < 16 → q < 3 → Bel W5 W → Calls Try.prog 24 #[.agg #[.int .i64 16, .slice (some ⟨w0.heap.size + 4, 0, none⟩) 3 3, .slice (some ⟨w0.heap.size + 7, 0, none⟩) 2 2, .int .i64 6, .slice (some ⟨w0.heap.size + 8, 0, none⟩) 3 3, .slice none 0 0, .int .i64 10, .int .i64 6, .int .i64 2], .int .i64 (q : Int), .int .i64 ((g : Int) * 64), .int .i64 64] W fun e w' => e = .returned (.bool (ownQ q g)) ∧ Bel W w') := fun q g W hg hq hW => by
        have h := reads_calls W _ (gcfg []) q (g * 64) 64 (kc.out W hW) (by unfold I64; omega) (by decide)
        rw [gr_allowed0 q g false (by omega) (by omega) (by omega) (by omega)] at h
        exact h
      have w7 : Hid (∀ (q g : Nat) (W : World), g < 16 → q < 3 → Bel W5 W → Calls Try.prog 26 #[.agg #[.int .i64 16, .slice (some ⟨w0.heap.size + 4, 0, none⟩) 3 3, .slice (some ⟨w0.heap.size + 7, 0, none⟩) 2 2, .int .i64 6, .slice (some ⟨w0.heap.size + 8, 0, none⟩) 3 3, .slice none 0 0, .int .i64 10, .int .i64 6, .int .i64 2], .int .i64 (q : Int), .int .i64 ((g : Int) * 64), .int .i64 64] W fun e w' => e = .returned (.bool (ownQ q g)) ∧ Bel W w') := fun q g W hg hq hW => by
        have h := writes_calls W _ (gcfg []) q (g * 64) 64 (kc.out W hW) (by unfold I64; omega) (by decide)
        rw [gr_allowed0 q g true (by omega) (by omega) (by omega) (by omega)] at h
        exact h
      have r8 : Hid (∀ (q g : Nat) (W : World), g < 16 → q < 3 → Bel W5 W → Calls Try.prog 24 #[.agg #[.int .i64 16, .slice (some ⟨wx.heap.size + 4, 0, none⟩) 3 3, .slice (some ⟨wx.heap.size + 7, 0, none⟩) 2 2, .int .i64 6, .slice (some ⟨wx.heap.size + 8, 0, none⟩) 3 3, .slice (some ⟨W3.heap.size, 0, none⟩) 1 1, .int .i64 10, .int .i64 6, .int .i64 2], .int .i64 (q : Int), .int .i64 ((g : Int) * 64), .int .i64 64] W fun e w' => e = .returned (.bool ((ownQ q g || (((g : Int) == (f : Int) && (q : Int) == (p : Int)) && (write || !false))))) ∧ Bel W w') := fun q g W hg hq hW => by
        have h := reads_calls W _ (gcfg [⟨(f : Int), (p : Int), write⟩]) q (g * 64) 64 (kd.out W hW) (by unfold I64; omega) (by decide)
        rw [gr_allowed1 f p write hf7 hp3 ho q g false (by omega) (by omega) (by omega) (by omega)] at h
        exact h
      have w8 : Hid (∀ (q g : Nat) (W : World), g < 16 → q < 3 → Bel W5 W → Calls Try.prog 26 #[.agg #[.int .i64 16, .slice (some ⟨wx.heap.size + 4, 0, none⟩) 3 3, .slice (some ⟨wx.heap.size + 7, 0, none⟩) 2 2, .int .i64 6, .slice (some ⟨wx.heap.size + 8, 0, none⟩) 3 3, .slice (some ⟨W3.heap.size, 0, none⟩) 1 1, .int .i64 10, .int .i64 6, .int .i64 2], .int .i64 (q : Int), .int .i64 ((g : Int) * 64), .int .i64 64] W fun e w' => e = .returned (.bool ((ownQ q g || (((g : Int) == (f : Int) && (q : Int) == (p : Int)) && (write || !true))))) ∧ Bel W w') := fun q g W hg hq hW => by
        have h := writes_calls W _ (gcfg [⟨(f : Int), (p : Int), write⟩]) q (g * 64) 64 (kd.out W hW) (by unfold I64; omega) (by decide)
        rw [gr_allowed1 f p write hf7 hp3 ho q g true (by omega) (by omega) (by omega) (by omega)] at h
        exact h
      clear kc kd ho
      go_upto_block 0 with ((with_reducible refine (Hid.out m8 _ (bel_refl W5)).mono ?_); rintro e v1 ⟨rfl, i1⟩; have h1 := hide i1; clear i1)
      clear k8 m8
      go_wp2_with fail
      go_loopw [12] (fun t W => ∃ g : Nat, g ≤ 16 ∧ t = .int .i64 g ∧ Hid (Bel W5 W)) (fun t _ => 16 - (intOf t).toNat)
      case atStart => exact ⟨0, by omega, rfl, h1⟩
      case round =>
        obtain ⟨g, hg, rfl, HI⟩ := hrel
        by_cases hlt : g < 16
        · have hdg : decide ((g : Int) < 16) = true := decide_eq_true (by omega)
          go_wp2_with fail
          go_loopw [13] (fun t W => ∃ q : Nat, q ≤ 3 ∧ t = .int .i64 q ∧ Hid (Bel W5 W)) (fun t _ => 3 - (intOf t).toNat)
          case atStart => exact ⟨0, by omega, rfl, HI⟩
          case round =>
            obtain ⟨q, hq, rfl, HJ⟩ := hrel
            by_cases hq3 : q < 3
            · have r7q := hide fun W (hW : Bel W5 W) => r7.out q g W hlt hq3 hW
              have w7q := hide fun W (hW : Bel W5 W) => w7.out q g W hlt hq3 hW
              have r8q := hide fun W (hW : Bel W5 W) => r8.out q g W hlt hq3 hW
              have w8q := hide fun W (hW : Bel W5 W) => w8.out q g W hlt hq3 hW
              go_upto_region 19 with fail
              go_cut [14] (fun t W => t = .bool ((g : Int) == (f : Int) && (q : Int) == (p : Int)) ∧ wr = W)
              case first =>
                clear r7 w7 r8 w8 r7q w7q r8q w8q b7 b8
                by_cases e1 : g = f
                · subst e1
                  by_cases e2 : q = p
                  · subst e2
                    go_wp2_with fail
                    go_meet
                    case rel => exact ⟨by simp, rfl⟩
                  · have e3 : ((q : Int) == (p : Int)) = false := by simp; omega
                    go_wp2_with fail
                    go_meet
                    case rel => exact ⟨by simp [e3], rfl⟩
                · have e3 : ((g : Int) == (f : Int)) = false := by simp; omega
                  go_wp2_with fail
                  go_meet
                  case rel => exact ⟨by simp [e3], rfl⟩
              case rest =>
                obtain ⟨rfl, rfl⟩ := hcut
                generalize ((g : Int) == (f : Int) && (q : Int) == (p : Int)) = here at r8q w8q ⊢
                generalize ownQ q g = o at r7q w7q r8q w8q
                clear r7 w7 r8 w8
                have hd := HJ.out.drew
                have hwr : IntKind.i64.wrap ((g : Int) * 64) = (g : Int) * 64 := IntWalk.i64_in _ (by omega)
                cases o
                rotate_left
                · simp only [Bool.true_or] at r8q w8q
                  go_upto_region 20 with fail
                  refine wp_region_held_drew (S := fun w' => Bel W5 w' ∧ (w'.cell? ⟨w2.heap.size + 1, 0, none⟩ = some (.int .i64 16) ∧ w'.cell? ⟨w2.heap.size + 1, 1, none⟩ = some (.slice (some ⟨wx.heap.size + 4, 0, none⟩) 3 3) ∧ w'.cell? ⟨w2.heap.size + 1, 2, none⟩ = some (.slice (some ⟨wx.heap.size + 7, 0, none⟩) 2 2) ∧ w'.cell? ⟨w2.heap.size + 1, 3, none⟩ = some (.int .i64 6) ∧ w'.cell? ⟨w2.heap.size + 1, 4, none⟩ = some (.slice (some ⟨wx.heap.size + 8, 0, none⟩) 3 3) ∧ w'.cell? ⟨w2.heap.size + 1, 5, none⟩ = some (.slice (some ⟨W3.heap.size, 0, none⟩) 1 1) ∧ w'.cell? ⟨w2.heap.size + 1, 6, none⟩ = some (.int .i64 10) ∧ w'.cell? ⟨w2.heap.size + 1, 7, none⟩ = some (.int .i64 6) ∧ w'.cell? ⟨w2.heap.size + 1, 8, none⟩ = some (.int .i64 2)) ∧ (w'.cell? ⟨w2.heap.size, 0, none⟩ = some (.int .i64 16) ∧ w'.cell? ⟨w2.heap.size, 1, none⟩ = some (.slice (some ⟨w0.heap.size + 4, 0, none⟩) 3 3) ∧ w'.cell? ⟨w2.heap.size, 2, none⟩ = some (.slice (some ⟨w0.heap.size + 7, 0, none⟩) 2 2) ∧ w'.cell? ⟨w2.heap.size, 3, none⟩ = some (.int .i64 6) ∧ w'.cell? ⟨w2.heap.size, 4, none⟩ = some (.slice (some ⟨w0.heap.size + 8, 0, none⟩) 3 3) ∧ w'.cell? ⟨w2.heap.size, 5, none⟩ = some (.slice none 0 0) ∧ w'.cell? ⟨w2.heap.size, 6, none⟩ = some (.int .i64 10) ∧ w'.cell? ⟨w2.heap.size, 7, none⟩ = some (.int .i64 6) ∧ w'.cell? ⟨w2.heap.size, 8, none⟩ = some (.int .i64 2))) (by kernel_rfl) ?_ (fun hHeld => ?_)
                  · exact ⟨hd, b8.out _ hd, b7.out _ hd⟩
                  refine hT (i := 0) (v := ?_) rfl (by kernel_rfl) (fun _ _ _ h => h) (by rfl) ?_ hHeld ?_
                  rotate_left
                  · (intro w_ hw_; (try dsimp only at hw_); go_simp; try with_reducible rfl)
                  simp only [Act.put, List.setIfInBounds_toArray, List.set_cons_zero, List.set_cons_succ, List.getElem_toArray, List.getElem_cons_zero]
                  refine hT (i := 1) (v := ?_) rfl (by kernel_rfl) (fun _ _ _ h => h) (by rfl) ?_ hHeld ?_
                  rotate_left
                  · (intro w_ hw_; (try dsimp only at hw_); go_simp; try with_reducible rfl)
                  simp only [Act.put, List.setIfInBounds_toArray, List.set_cons_zero, List.set_cons_succ, List.getElem_toArray, List.getElem_cons_zero, List.getElem_cons_succ]
                  refine hT (i := 2) (v := ?_) rfl (by kernel_rfl) (fun _ _ _ h => h) (by rfl) ?_ hHeld ?_
                  rotate_left
                  · (intro w_ hw_; (try dsimp only at hw_); go_simp; try with_reducible rfl)
                  simp only [Act.put, List.setIfInBounds_toArray, List.set_cons_zero, List.set_cons_succ, List.getElem_toArray, List.getElem_cons_zero, List.getElem_cons_succ]
                  refine hT (i := 3) (v := ?_) rfl (by kernel_rfl) (fun _ _ _ h => h) (by rfl) ?_ hHeld ?_
                  rotate_left
                  · (intro w_ hw_; (try dsimp only at hw_); go_simp; try with_reducible rfl)
                  simp only [Act.put, List.setIfInBounds_toArray, List.set_cons_zero, List.set_cons_succ, List.getElem_toArray, List.getElem_cons_zero, List.getElem_cons_succ]
                  refine hT (i := 5) (v := ?_) rfl (by kernel_rfl) (fun _ _ _ h => h) (by rfl) ?_ hHeld ?_
                  rotate_left
                  · (intro w_ hw_; (try dsimp only at hw_); go_simp; try with_reducible rfl)
                  simp only [Act.put, List.setIfInBounds_toArray, List.set_cons_zero, List.set_cons_succ, List.getElem_toArray, List.getElem_cons_zero, List.getElem_cons_succ]
                  refine hT (i := 6) (v := ?_) rfl (by kernel_rfl) (fun _ _ _ h => h) (by rfl) ?_ hHeld ?_
                  rotate_left
                  · (intro w_ hw_; (try dsimp only at hw_); go_simp; try with_reducible rfl)
                  simp only [Act.put, List.setIfInBounds_toArray, List.set_cons_zero, List.set_cons_succ, List.getElem_toArray, List.getElem_cons_zero, List.getElem_cons_succ]
                  refine hT (i := 7) (v := ?_) rfl (by kernel_rfl) (fun _ _ _ h => h) (by rfl) ?_ hHeld ?_
                  rotate_left
                  · (intro w_ hw_; (try dsimp only at hw_); go_simp; try with_reducible rfl)
                  simp only [Act.put, List.setIfInBounds_toArray, List.set_cons_zero, List.set_cons_succ, List.getElem_toArray, List.getElem_cons_zero, List.getElem_cons_succ]
                  refine hT (i := 8) (v := ?_) rfl (by kernel_rfl) (fun _ _ _ h => h) (by rfl) ?_ hHeld ?_
                  rotate_left
                  · (intro w_ hw_; (try dsimp only at hw_); go_simp; try with_reducible rfl)
                  simp only [Act.put, List.setIfInBounds_toArray, List.set_cons_zero, List.set_cons_succ, List.getElem_toArray, List.getElem_cons_zero, List.getElem_cons_succ]
                  refine hE (i := 4) rfl (by kernel_rfl) (by rfl) (fun K hK => ?_)
                  go_simp
                  refine (r8q.out _ hHeld.1).mono ?_
                  rintro e v4 ⟨rfl, hi⟩
                  have j4 := hide (Bel.trans hHeld.1 hi)
                  refine hK.out _ _ ?_ (fun hHeld => ?_)
                  · exact ⟨j4.out, b8.out _ j4.out, b7.out _ j4.out⟩
                  clear hK K
                  refine hE (i := 9) rfl (by kernel_rfl) (by rfl) (fun K hK => ?_)
                  go_simp
                  refine (r7q.out _ hHeld.1).mono ?_
                  rintro e v9 ⟨rfl, hi⟩
                  have j9 := hide (Bel.trans hHeld.1 hi)
                  refine hK.out _ _ ?_ (fun hHeld => ?_)
                  · exact ⟨j9.out, b8.out _ j9.out, b7.out _ j9.out⟩
                  clear hK K
                  refine hT (i := 10) (v := ?_) rfl (by kernel_rfl) (fun _ _ _ h => h) (by rfl) ?_ hHeld ?_
                  rotate_left
                  · (intro w_ hw_; (try dsimp only at hw_); go_simp; try with_reducible rfl)
                  simp only [Act.put, List.setIfInBounds_toArray, List.set_cons_zero, List.set_cons_succ, List.getElem_toArray, List.getElem_cons_zero, List.getElem_cons_succ]
                  refine hN (i := 11) rfl (by kernel_rfl) (fun _ _ _ h => h) (by rfl) hHeld ?_
                  simp only [Act.put, List.setIfInBounds_toArray, List.set_cons_zero, List.set_cons_succ, List.getElem_toArray, List.getElem_cons_zero, List.getElem_cons_succ]
                  refine hT (i := 12) (v := ?_) rfl (by kernel_rfl) (fun _ _ _ h => h) (by rfl) ?_ hHeld ?_
                  rotate_left
                  · (intro w_ hw_; (try dsimp only at hw_); go_simp; try with_reducible rfl)
                  simp only [Act.put, List.setIfInBounds_toArray, List.set_cons_zero, List.set_cons_succ, List.getElem_toArray, List.getElem_cons_zero, List.getElem_cons_succ]
                  refine hT (i := 13) (v := ?_) rfl (by kernel_rfl) (fun _ _ _ h => h) (by rfl) ?_ hHeld ?_
                  rotate_left
                  · (intro w_ hw_; (try dsimp only at hw_); go_simp; try with_reducible rfl)
                  simp only [Act.put, List.setIfInBounds_toArray, List.set_cons_zero, List.set_cons_succ, List.getElem_toArray, List.getElem_cons_zero, List.getElem_cons_succ]
                  refine hT (i := 14) (v := ?_) rfl (by kernel_rfl) (fun _ _ _ h => h) (by rfl) ?_ hHeld ?_
                  rotate_left
                  · (intro w_ hw_; (try dsimp only at hw_); go_simp; try with_reducible rfl)
                  simp only [Act.put, List.setIfInBounds_toArray, List.set_cons_zero, List.set_cons_succ, List.getElem_toArray, List.getElem_cons_zero, List.getElem_cons_succ]
                  refine hT (i := 15) (v := ?_) rfl (by kernel_rfl) (fun _ _ _ h => h) (by rfl) ?_ hHeld ?_
                  rotate_left
                  · (intro w_ hw_; (try dsimp only at hw_); go_simp; try with_reducible rfl)
                  simp only [Act.put, List.setIfInBounds_toArray, List.set_cons_zero, List.set_cons_succ, List.getElem_toArray, List.getElem_cons_zero, List.getElem_cons_succ]
                  refine hT (i := 16) (v := ?_) rfl (by kernel_rfl) (fun _ _ _ h => h) (by rfl) ?_ hHeld ?_
                  rotate_left
                  · (intro w_ hw_; (try dsimp only at hw_); go_simp; try with_reducible rfl)
                  simp only [Act.put, List.setIfInBounds_toArray, List.set_cons_zero, List.set_cons_succ, List.getElem_toArray, List.getElem_cons_zero, List.getElem_cons_succ]
                  refine hT (i := 17) (v := ?_) rfl (by kernel_rfl) (fun _ _ _ h => h) (by rfl) ?_ hHeld ?_
                  rotate_left
                  · (intro w_ hw_; (try dsimp only at hw_); go_simp; try with_reducible rfl)
                  simp only [Act.put, List.setIfInBounds_toArray, List.set_cons_zero, List.set_cons_succ, List.getElem_toArray, List.getElem_cons_zero, List.getElem_cons_succ]
                  refine hT (i := 18) (v := ?_) rfl (by kernel_rfl) (fun _ _ _ h => h) (by rfl) ?_ hHeld ?_
                  rotate_left
                  · (intro w_ hw_; (try dsimp only at hw_); go_simp; try with_reducible rfl)
                  simp only [Act.put, List.setIfInBounds_toArray, List.set_cons_zero, List.set_cons_succ, List.getElem_toArray, List.getElem_cons_zero, List.getElem_cons_succ]
                  refine hT (i := 20) (v := ?_) rfl (by kernel_rfl) (fun _ _ _ h => h) (by rfl) ?_ hHeld ?_
                  rotate_left
                  · (intro w_ hw_; (try dsimp only at hw_); go_simp; try with_reducible rfl)
                  simp only [Act.put, List.setIfInBounds_toArray, List.set_cons_zero, List.set_cons_succ, List.getElem_toArray, List.getElem_cons_zero, List.getElem_cons_succ]
                  refine hT (i := 21) (v := ?_) rfl (by kernel_rfl) (fun _ _ _ h => h) (by rfl) ?_ hHeld ?_
                  rotate_left
                  · (intro w_ hw_; (try dsimp only at hw_); go_simp; try with_reducible rfl)
                  simp only [Act.put, List.setIfInBounds_toArray, List.set_cons_zero, List.set_cons_succ, List.getElem_toArray, List.getElem_cons_zero, List.getElem_cons_succ]
                  refine hT (i := 22) (v := ?_) rfl (by kernel_rfl) (fun _ _ _ h => h) (by rfl) ?_ hHeld ?_
                  rotate_left
                  · (intro w_ hw_; (try dsimp only at hw_); go_simp; try with_reducible rfl)
                  simp only [Act.put, List.setIfInBounds_toArray, List.set_cons_zero, List.set_cons_succ, List.getElem_toArray, List.getElem_cons_zero, List.getElem_cons_succ]
                  refine hT (i := 23) (v := ?_) rfl (by kernel_rfl) (fun _ _ _ h => h) (by rfl) ?_ hHeld ?_
                  rotate_left
                  · (intro w_ hw_; (try dsimp only at hw_); go_simp; try with_reducible rfl)
                  simp only [Act.put, List.setIfInBounds_toArray, List.set_cons_zero, List.set_cons_succ, List.getElem_toArray, List.getElem_cons_zero, List.getElem_cons_succ]
                  refine hE (i := 19) rfl (by kernel_rfl) (by rfl) (fun K hK => ?_)
                  go_simp
                  refine (w8q.out _ hHeld.1).mono ?_
                  rintro e v19 ⟨rfl, hi⟩
                  have j19 := hide (Bel.trans hHeld.1 hi)
                  refine hK.out _ _ ?_ (fun hHeld => ?_)
                  · exact ⟨j19.out, b8.out _ j19.out, b7.out _ j19.out⟩
                  clear hK K
                  refine hE (i := 24) rfl (by kernel_rfl) (by rfl) (fun K hK => ?_)
                  go_simp
                  refine (w7q.out _ hHeld.1).mono ?_
                  rintro e v24 ⟨rfl, hi⟩
                  have j24 := hide (Bel.trans hHeld.1 hi)
                  refine hK.out _ _ ?_ (fun hHeld => ?_)
                  · exact ⟨j24.out, b8.out _ j24.out, b7.out _ j24.out⟩
                  clear hK K
                  refine hT (i := 25) (v := ?_) rfl (by kernel_rfl) (fun _ _ _ h => h) (by rfl) ?_ hHeld ?_
                  rotate_left
                  · (intro w_ hw_; (try dsimp only at hw_); go_simp; try with_reducible rfl)
                  simp only [Act.put, List.setIfInBounds_toArray, List.set_cons_zero, List.set_cons_succ, List.getElem_toArray, List.getElem_cons_zero, List.getElem_cons_succ]
                  refine hN (i := 26) rfl (by kernel_rfl) (fun _ _ _ h => h) (by rfl) hHeld ?_
                  simp only [Act.put, List.setIfInBounds_toArray, List.set_cons_zero, List.set_cons_succ, List.getElem_toArray, List.getElem_cons_zero, List.getElem_cons_succ]
                  refine hN (i := 27) rfl (by kernel_rfl) (fun _ _ _ h => h) (by rfl) hHeld ?_
                  simp only [Act.put, List.setIfInBounds_toArray, List.set_cons_zero, List.set_cons_succ, List.getElem_toArray, List.getElem_cons_zero, List.getElem_cons_succ]
                  refine hN (i := 28) rfl (by kernel_rfl) (fun _ _ _ h => h) (by rfl) hHeld ?_
                  simp only [Act.put, List.setIfInBounds_toArray, List.set_cons_zero, List.set_cons_succ, List.getElem_toArray, List.getElem_cons_zero, List.getElem_cons_succ]
                  refine hN (i := 29) rfl (by kernel_rfl) (fun _ _ _ h => h) (by rfl) hHeld ?_
                  simp only [Act.put, List.setIfInBounds_toArray, List.set_cons_zero, List.set_cons_succ, List.getElem_toArray, List.getElem_cons_zero, List.getElem_cons_succ]
                  refine hT (i := 30) (v := ?_) rfl (by kernel_rfl) (fun _ _ _ h => h) (by rfl) ?_ hHeld ?_
                  rotate_left
                  · (intro w_ hw_; (try dsimp only at hw_); go_simp; try with_reducible rfl)
                  simp only [Act.put, List.setIfInBounds_toArray, List.set_cons_zero, List.set_cons_succ, List.getElem_toArray, List.getElem_cons_zero, List.getElem_cons_succ]
                  refine hT (i := 31) (v := ?_) rfl (by kernel_rfl) (fun _ _ _ h => h) (by rfl) ?_ hHeld ?_
                  rotate_left
                  · (intro w_ hw_; (try dsimp only at hw_); go_simp; try with_reducible rfl)
                  simp only [Act.put, List.setIfInBounds_toArray, List.set_cons_zero, List.set_cons_succ, List.getElem_toArray, List.getElem_cons_zero, List.getElem_cons_succ]
                  refine hT (i := 32) (v := ?_) rfl (by kernel_rfl) (fun _ _ _ h => h) (by rfl) ?_ hHeld ?_
                  rotate_left
                  · (intro w_ hw_; (try dsimp only at hw_); go_simp; try with_reducible rfl)
                  simp only [Act.put, List.setIfInBounds_toArray, List.set_cons_zero, List.set_cons_succ, List.getElem_toArray, List.getElem_cons_zero, List.getElem_cons_succ]
                  refine wpAnyH_done (by kernel_rfl) ?_ _
                  clear hHeld
                  go_wp2_with fail
                  exact ⟨⟨q + 1, by omega, by go_num, j24⟩, by simp [intOf]; omega⟩
                · cases here
                  rotate_left
                  · simp only [Bool.false_or, Bool.true_and, Bool.not_false, Bool.or_true, Bool.not_true, Bool.or_false] at r8q w8q
                    go_upto_region 20 with fail
                    refine wp_region_held_drew (S := fun w' => Bel W5 w' ∧ (w'.cell? ⟨w2.heap.size + 1, 0, none⟩ = some (.int .i64 16) ∧ w'.cell? ⟨w2.heap.size + 1, 1, none⟩ = some (.slice (some ⟨wx.heap.size + 4, 0, none⟩) 3 3) ∧ w'.cell? ⟨w2.heap.size + 1, 2, none⟩ = some (.slice (some ⟨wx.heap.size + 7, 0, none⟩) 2 2) ∧ w'.cell? ⟨w2.heap.size + 1, 3, none⟩ = some (.int .i64 6) ∧ w'.cell? ⟨w2.heap.size + 1, 4, none⟩ = some (.slice (some ⟨wx.heap.size + 8, 0, none⟩) 3 3) ∧ w'.cell? ⟨w2.heap.size + 1, 5, none⟩ = some (.slice (some ⟨W3.heap.size, 0, none⟩) 1 1) ∧ w'.cell? ⟨w2.heap.size + 1, 6, none⟩ = some (.int .i64 10) ∧ w'.cell? ⟨w2.heap.size + 1, 7, none⟩ = some (.int .i64 6) ∧ w'.cell? ⟨w2.heap.size + 1, 8, none⟩ = some (.int .i64 2)) ∧ (w'.cell? ⟨w2.heap.size, 0, none⟩ = some (.int .i64 16) ∧ w'.cell? ⟨w2.heap.size, 1, none⟩ = some (.slice (some ⟨w0.heap.size + 4, 0, none⟩) 3 3) ∧ w'.cell? ⟨w2.heap.size, 2, none⟩ = some (.slice (some ⟨w0.heap.size + 7, 0, none⟩) 2 2) ∧ w'.cell? ⟨w2.heap.size, 3, none⟩ = some (.int .i64 6) ∧ w'.cell? ⟨w2.heap.size, 4, none⟩ = some (.slice (some ⟨w0.heap.size + 8, 0, none⟩) 3 3) ∧ w'.cell? ⟨w2.heap.size, 5, none⟩ = some (.slice none 0 0) ∧ w'.cell? ⟨w2.heap.size, 6, none⟩ = some (.int .i64 10) ∧ w'.cell? ⟨w2.heap.size, 7, none⟩ = some (.int .i64 6) ∧ w'.cell? ⟨w2.heap.size, 8, none⟩ = some (.int .i64 2))) (by kernel_rfl) ?_ (fun hHeld => ?_)
                    · exact ⟨hd, b8.out _ hd, b7.out _ hd⟩
                    refine hT (i := 0) (v := ?_) rfl (by kernel_rfl) (fun _ _ _ h => h) (by rfl) ?_ hHeld ?_
                    rotate_left
                    · (intro w_ hw_; (try dsimp only at hw_); go_simp; try with_reducible rfl)
                    simp only [Act.put, List.setIfInBounds_toArray, List.set_cons_zero, List.set_cons_succ, List.getElem_toArray, List.getElem_cons_zero]
                    refine hT (i := 1) (v := ?_) rfl (by kernel_rfl) (fun _ _ _ h => h) (by rfl) ?_ hHeld ?_
                    rotate_left
                    · (intro w_ hw_; (try dsimp only at hw_); go_simp; try with_reducible rfl)
                    simp only [Act.put, List.setIfInBounds_toArray, List.set_cons_zero, List.set_cons_succ, List.getElem_toArray, List.getElem_cons_zero, List.getElem_cons_succ]
                    refine hT (i := 2) (v := ?_) rfl (by kernel_rfl) (fun _ _ _ h => h) (by rfl) ?_ hHeld ?_
                    rotate_left
                    · (intro w_ hw_; (try dsimp only at hw_); go_simp; try with_reducible rfl)
                    simp only [Act.put, List.setIfInBounds_toArray, List.set_cons_zero, List.set_cons_succ, List.getElem_toArray, List.getElem_cons_zero, List.getElem_cons_succ]
                    refine hT (i := 3) (v := ?_) rfl (by kernel_rfl) (fun _ _ _ h => h) (by rfl) ?_ hHeld ?_
                    rotate_left
                    · (intro w_ hw_; (try dsimp only at hw_); go_simp; try with_reducible rfl)
                    simp only [Act.put, List.setIfInBounds_toArray, List.set_cons_zero, List.set_cons_succ, List.getElem_toArray, List.getElem_cons_zero, List.getElem_cons_succ]
                    refine hT (i := 5) (v := ?_) rfl (by kernel_rfl) (fun _ _ _ h => h) (by rfl) ?_ hHeld ?_
                    rotate_left
                    · (intro w_ hw_; (try dsimp only at hw_); go_simp; try with_reducible rfl)
                    simp only [Act.put, List.setIfInBounds_toArray, List.set_cons_zero, List.set_cons_succ, List.getElem_toArray, List.getElem_cons_zero, List.getElem_cons_succ]
                    refine hT (i := 6) (v := ?_) rfl (by kernel_rfl) (fun _ _ _ h => h) (by rfl) ?_ hHeld ?_
                    rotate_left
                    · (intro w_ hw_; (try dsimp only at hw_); go_simp; try with_reducible rfl)
                    simp only [Act.put, List.setIfInBounds_toArray, List.set_cons_zero, List.set_cons_succ, List.getElem_toArray, List.getElem_cons_zero, List.getElem_cons_succ]
                    refine hT (i := 7) (v := ?_) rfl (by kernel_rfl) (fun _ _ _ h => h) (by rfl) ?_ hHeld ?_
                    rotate_left
                    · (intro w_ hw_; (try dsimp only at hw_); go_simp; try with_reducible rfl)
                    simp only [Act.put, List.setIfInBounds_toArray, List.set_cons_zero, List.set_cons_succ, List.getElem_toArray, List.getElem_cons_zero, List.getElem_cons_succ]
                    refine hT (i := 8) (v := ?_) rfl (by kernel_rfl) (fun _ _ _ h => h) (by rfl) ?_ hHeld ?_
                    rotate_left
                    · (intro w_ hw_; (try dsimp only at hw_); go_simp; try with_reducible rfl)
                    simp only [Act.put, List.setIfInBounds_toArray, List.set_cons_zero, List.set_cons_succ, List.getElem_toArray, List.getElem_cons_zero, List.getElem_cons_succ]
                    refine hE (i := 4) rfl (by kernel_rfl) (by rfl) (fun K hK => ?_)
                    go_simp
                    refine (r8q.out _ hHeld.1).mono ?_
                    rintro e v4 ⟨rfl, hi⟩
                    have j4 := hide (Bel.trans hHeld.1 hi)
                    refine hK.out _ _ ?_ (fun hHeld => ?_)
                    · exact ⟨j4.out, b8.out _ j4.out, b7.out _ j4.out⟩
                    clear hK K
                    refine hE (i := 9) rfl (by kernel_rfl) (by rfl) (fun K hK => ?_)
                    go_simp
                    refine (r7q.out _ hHeld.1).mono ?_
                    rintro e v9 ⟨rfl, hi⟩
                    have j9 := hide (Bel.trans hHeld.1 hi)
                    refine hK.out _ _ ?_ (fun hHeld => ?_)
                    · exact ⟨j9.out, b8.out _ j9.out, b7.out _ j9.out⟩
                    clear hK K
                    refine hT (i := 10) (v := ?_) rfl (by kernel_rfl) (fun _ _ _ h => h) (by rfl) ?_ hHeld ?_
                    rotate_left
                    · (intro w_ hw_; (try dsimp only at hw_); go_simp; try with_reducible rfl)
                    simp only [Act.put, List.setIfInBounds_toArray, List.set_cons_zero, List.set_cons_succ, List.getElem_toArray, List.getElem_cons_zero, List.getElem_cons_succ]
                    refine hT (i := 11) (v := ?_) rfl (by kernel_rfl) (fun _ _ _ h => h) (by rfl) ?_ hHeld ?_
                    rotate_left
                    · (intro w_ hw_; (try dsimp only at hw_); go_simp; try with_reducible rfl)
                    simp only [Act.put, List.setIfInBounds_toArray, List.set_cons_zero, List.set_cons_succ, List.getElem_toArray, List.getElem_cons_zero, List.getElem_cons_succ]
                    refine hT (i := 12) (v := ?_) rfl (by kernel_rfl) (fun _ _ _ h => h) (by rfl) ?_ hHeld ?_
                    rotate_left
                    · (intro w_ hw_; (try dsimp only at hw_); go_simp; try with_reducible rfl)
                    simp only [Act.put, List.setIfInBounds_toArray, List.set_cons_zero, List.set_cons_succ, List.getElem_toArray, List.getElem_cons_zero, List.getElem_cons_succ]
                    refine hT (i := 13) (v := ?_) rfl (by kernel_rfl) (fun _ _ _ h => h) (by rfl) ?_ hHeld ?_
                    rotate_left
                    · (intro w_ hw_; (try dsimp only at hw_); go_simp; try with_reducible rfl)
                    simp only [Act.put, List.setIfInBounds_toArray, List.set_cons_zero, List.set_cons_succ, List.getElem_toArray, List.getElem_cons_zero, List.getElem_cons_succ]
                    refine hT (i := 14) (v := ?_) rfl (by kernel_rfl) (fun _ _ _ h => h) (by rfl) ?_ hHeld ?_
                    rotate_left
                    · (intro w_ hw_; (try dsimp only at hw_); go_simp; try with_reducible rfl)
                    simp only [Act.put, List.setIfInBounds_toArray, List.set_cons_zero, List.set_cons_succ, List.getElem_toArray, List.getElem_cons_zero, List.getElem_cons_succ]
                    refine hT (i := 15) (v := ?_) rfl (by kernel_rfl) (fun _ _ _ h => h) (by rfl) ?_ hHeld ?_
                    rotate_left
                    · (intro w_ hw_; (try dsimp only at hw_); go_simp; try with_reducible rfl)
                    simp only [Act.put, List.setIfInBounds_toArray, List.set_cons_zero, List.set_cons_succ, List.getElem_toArray, List.getElem_cons_zero, List.getElem_cons_succ]
                    refine hT (i := 16) (v := ?_) rfl (by kernel_rfl) (fun _ _ _ h => h) (by rfl) ?_ hHeld ?_
                    rotate_left
                    · (intro w_ hw_; (try dsimp only at hw_); go_simp; try with_reducible rfl)
                    simp only [Act.put, List.setIfInBounds_toArray, List.set_cons_zero, List.set_cons_succ, List.getElem_toArray, List.getElem_cons_zero, List.getElem_cons_succ]
                    refine hT (i := 17) (v := ?_) rfl (by kernel_rfl) (fun _ _ _ h => h) (by rfl) ?_ hHeld ?_
                    rotate_left
                    · (intro w_ hw_; (try dsimp only at hw_); go_simp; try with_reducible rfl)
                    simp only [Act.put, List.setIfInBounds_toArray, List.set_cons_zero, List.set_cons_succ, List.getElem_toArray, List.getElem_cons_zero, List.getElem_cons_succ]
                    refine hT (i := 18) (v := ?_) rfl (by kernel_rfl) (fun _ _ _ h => h) (by rfl) ?_ hHeld ?_
                    rotate_left
                    · (intro w_ hw_; (try dsimp only at hw_); go_simp; try with_reducible rfl)
                    simp only [Act.put, List.setIfInBounds_toArray, List.set_cons_zero, List.set_cons_succ, List.getElem_toArray, List.getElem_cons_zero, List.getElem_cons_succ]
                    refine hT (i := 20) (v := ?_) rfl (by kernel_rfl) (fun _ _ _ h => h) (by rfl) ?_ hHeld ?_
                    rotate_left
                    · (intro w_ hw_; (try dsimp only at hw_); go_simp; try with_reducible rfl)
                    simp only [Act.put, List.setIfInBounds_toArray, List.set_cons_zero, List.set_cons_succ, List.getElem_toArray, List.getElem_cons_zero, List.getElem_cons_succ]
                    refine hT (i := 21) (v := ?_) rfl (by kernel_rfl) (fun _ _ _ h => h) (by rfl) ?_ hHeld ?_
                    rotate_left
                    · (intro w_ hw_; (try dsimp only at hw_); go_simp; try with_reducible rfl)
                    simp only [Act.put, List.setIfInBounds_toArray, List.set_cons_zero, List.set_cons_succ, List.getElem_toArray, List.getElem_cons_zero, List.getElem_cons_succ]
                    refine hT (i := 22) (v := ?_) rfl (by kernel_rfl) (fun _ _ _ h => h) (by rfl) ?_ hHeld ?_
                    rotate_left
                    · (intro w_ hw_; (try dsimp only at hw_); go_simp; try with_reducible rfl)
                    simp only [Act.put, List.setIfInBounds_toArray, List.set_cons_zero, List.set_cons_succ, List.getElem_toArray, List.getElem_cons_zero, List.getElem_cons_succ]
                    refine hT (i := 23) (v := ?_) rfl (by kernel_rfl) (fun _ _ _ h => h) (by rfl) ?_ hHeld ?_
                    rotate_left
                    · (intro w_ hw_; (try dsimp only at hw_); go_simp; try with_reducible rfl)
                    simp only [Act.put, List.setIfInBounds_toArray, List.set_cons_zero, List.set_cons_succ, List.getElem_toArray, List.getElem_cons_zero, List.getElem_cons_succ]
                    refine hE (i := 19) rfl (by kernel_rfl) (by rfl) (fun K hK => ?_)
                    go_simp
                    refine (w8q.out _ hHeld.1).mono ?_
                    rintro e v19 ⟨rfl, hi⟩
                    have j19 := hide (Bel.trans hHeld.1 hi)
                    refine hK.out _ _ ?_ (fun hHeld => ?_)
                    · exact ⟨j19.out, b8.out _ j19.out, b7.out _ j19.out⟩
                    clear hK K
                    refine hE (i := 24) rfl (by kernel_rfl) (by rfl) (fun K hK => ?_)
                    go_simp
                    refine (w7q.out _ hHeld.1).mono ?_
                    rintro e v24 ⟨rfl, hi⟩
                    have j24 := hide (Bel.trans hHeld.1 hi)
                    refine hK.out _ _ ?_ (fun hHeld => ?_)
                    · exact ⟨j24.out, b8.out _ j24.out, b7.out _ j24.out⟩
                    clear hK K
                    refine hT (i := 25) (v := ?_) rfl (by kernel_rfl) (fun _ _ _ h => h) (by rfl) ?_ hHeld ?_
                    rotate_left
                    · (intro w_ hw_; (try dsimp only at hw_); go_simp; try with_reducible rfl)
                    simp only [Act.put, List.setIfInBounds_toArray, List.set_cons_zero, List.set_cons_succ, List.getElem_toArray, List.getElem_cons_zero, List.getElem_cons_succ]
                    refine hT (i := 26) (v := ?_) rfl (by kernel_rfl) (fun _ _ _ h => h) (by rfl) ?_ hHeld ?_
                    rotate_left
                    · (intro w_ hw_; (try dsimp only at hw_); go_simp; try with_reducible rfl)
                    simp only [Act.put, List.setIfInBounds_toArray, List.set_cons_zero, List.set_cons_succ, List.getElem_toArray, List.getElem_cons_zero, List.getElem_cons_succ]
                    refine hT (i := 27) (v := ?_) rfl (by kernel_rfl) (fun _ _ _ h => h) (by rfl) ?_ hHeld ?_
                    rotate_left
                    · (intro w_ hw_; (try dsimp only at hw_); go_simp; try with_reducible rfl)
                    simp only [Act.put, List.setIfInBounds_toArray, List.set_cons_zero, List.set_cons_succ, List.getElem_toArray, List.getElem_cons_zero, List.getElem_cons_succ]
                    refine hT (i := 28) (v := ?_) rfl (by kernel_rfl) (fun _ _ _ h => h) (by rfl) ?_ hHeld ?_
                    rotate_left
                    · (intro w_ hw_; (try dsimp only at hw_); go_simp; try with_reducible rfl)
                    simp only [Act.put, List.setIfInBounds_toArray, List.set_cons_zero, List.set_cons_succ, List.getElem_toArray, List.getElem_cons_zero, List.getElem_cons_succ]
                    refine hT (i := 29) (v := ?_) rfl (by kernel_rfl) (fun _ _ _ h => h) (by rfl) ?_ hHeld ?_
                    rotate_left
                    · (intro w_ hw_; (try dsimp only at hw_); go_simp; try with_reducible rfl)
                    simp only [Act.put, List.setIfInBounds_toArray, List.set_cons_zero, List.set_cons_succ, List.getElem_toArray, List.getElem_cons_zero, List.getElem_cons_succ]
                    refine hT (i := 30) (v := ?_) rfl (by kernel_rfl) (fun _ _ _ h => h) (by rfl) ?_ hHeld ?_
                    rotate_left
                    · (intro w_ hw_; (try dsimp only at hw_); go_simp; try with_reducible rfl)
                    simp only [Act.put, List.setIfInBounds_toArray, List.set_cons_zero, List.set_cons_succ, List.getElem_toArray, List.getElem_cons_zero, List.getElem_cons_succ]
                    refine hT (i := 31) (v := ?_) rfl (by kernel_rfl) (fun _ _ _ h => h) (by rfl) ?_ hHeld ?_
                    rotate_left
                    · (intro w_ hw_; (try dsimp only at hw_); go_simp; try with_reducible rfl)
                    simp only [Act.put, List.setIfInBounds_toArray, List.set_cons_zero, List.set_cons_succ, List.getElem_toArray, List.getElem_cons_zero, List.getElem_cons_succ]
                    refine hT (i := 32) (v := ?_) rfl (by kernel_rfl) (fun _ _ _ h => h) (by rfl) ?_ hHeld ?_
                    rotate_left
                    · (intro w_ hw_; (try dsimp only at hw_); go_simp; try with_reducible rfl)
                    simp only [Act.put, List.setIfInBounds_toArray, List.set_cons_zero, List.set_cons_succ, List.getElem_toArray, List.getElem_cons_zero, List.getElem_cons_succ]
                    refine wpAnyH_done (by kernel_rfl) ?_ _
                    clear hHeld
                    go_wp2_with fail
                    exact ⟨⟨q + 1, by omega, by go_num, j24⟩, by simp [intOf]; omega⟩
                  · simp only [Bool.false_or, Bool.false_and] at r8q w8q
                    go_upto_region 20 with fail
                    refine wp_region_held_drew (S := fun w' => Bel W5 w' ∧ (w'.cell? ⟨w2.heap.size + 1, 0, none⟩ = some (.int .i64 16) ∧ w'.cell? ⟨w2.heap.size + 1, 1, none⟩ = some (.slice (some ⟨wx.heap.size + 4, 0, none⟩) 3 3) ∧ w'.cell? ⟨w2.heap.size + 1, 2, none⟩ = some (.slice (some ⟨wx.heap.size + 7, 0, none⟩) 2 2) ∧ w'.cell? ⟨w2.heap.size + 1, 3, none⟩ = some (.int .i64 6) ∧ w'.cell? ⟨w2.heap.size + 1, 4, none⟩ = some (.slice (some ⟨wx.heap.size + 8, 0, none⟩) 3 3) ∧ w'.cell? ⟨w2.heap.size + 1, 5, none⟩ = some (.slice (some ⟨W3.heap.size, 0, none⟩) 1 1) ∧ w'.cell? ⟨w2.heap.size + 1, 6, none⟩ = some (.int .i64 10) ∧ w'.cell? ⟨w2.heap.size + 1, 7, none⟩ = some (.int .i64 6) ∧ w'.cell? ⟨w2.heap.size + 1, 8, none⟩ = some (.int .i64 2)) ∧ (w'.cell? ⟨w2.heap.size, 0, none⟩ = some (.int .i64 16) ∧ w'.cell? ⟨w2.heap.size, 1, none⟩ = some (.slice (some ⟨w0.heap.size + 4, 0, none⟩) 3 3) ∧ w'.cell? ⟨w2.heap.size, 2, none⟩ = some (.slice (some ⟨w0.heap.size + 7, 0, none⟩) 2 2) ∧ w'.cell? ⟨w2.heap.size, 3, none⟩ = some (.int .i64 6) ∧ w'.cell? ⟨w2.heap.size, 4, none⟩ = some (.slice (some ⟨w0.heap.size + 8, 0, none⟩) 3 3) ∧ w'.cell? ⟨w2.heap.size, 5, none⟩ = some (.slice none 0 0) ∧ w'.cell? ⟨w2.heap.size, 6, none⟩ = some (.int .i64 10) ∧ w'.cell? ⟨w2.heap.size, 7, none⟩ = some (.int .i64 6) ∧ w'.cell? ⟨w2.heap.size, 8, none⟩ = some (.int .i64 2))) (by kernel_rfl) ?_ (fun hHeld => ?_)
                    · exact ⟨hd, b8.out _ hd, b7.out _ hd⟩
                    refine hT (i := 0) (v := ?_) rfl (by kernel_rfl) (fun _ _ _ h => h) (by rfl) ?_ hHeld ?_
                    rotate_left
                    · (intro w_ hw_; (try dsimp only at hw_); go_simp; try with_reducible rfl)
                    simp only [Act.put, List.setIfInBounds_toArray, List.set_cons_zero, List.set_cons_succ, List.getElem_toArray, List.getElem_cons_zero]
                    refine hT (i := 1) (v := ?_) rfl (by kernel_rfl) (fun _ _ _ h => h) (by rfl) ?_ hHeld ?_
                    rotate_left
                    · (intro w_ hw_; (try dsimp only at hw_); go_simp; try with_reducible rfl)
                    simp only [Act.put, List.setIfInBounds_toArray, List.set_cons_zero, List.set_cons_succ, List.getElem_toArray, List.getElem_cons_zero, List.getElem_cons_succ]
                    refine hT (i := 2) (v := ?_) rfl (by kernel_rfl) (fun _ _ _ h => h) (by rfl) ?_ hHeld ?_
                    rotate_left
                    · (intro w_ hw_; (try dsimp only at hw_); go_simp; try with_reducible rfl)
                    simp only [Act.put, List.setIfInBounds_toArray, List.set_cons_zero, List.set_cons_succ, List.getElem_toArray, List.getElem_cons_zero, List.getElem_cons_succ]
                    refine hT (i := 3) (v := ?_) rfl (by kernel_rfl) (fun _ _ _ h => h) (by rfl) ?_ hHeld ?_
                    rotate_left
                    · (intro w_ hw_; (try dsimp only at hw_); go_simp; try with_reducible rfl)
                    simp only [Act.put, List.setIfInBounds_toArray, List.set_cons_zero, List.set_cons_succ, List.getElem_toArray, List.getElem_cons_zero, List.getElem_cons_succ]
                    refine hT (i := 5) (v := ?_) rfl (by kernel_rfl) (fun _ _ _ h => h) (by rfl) ?_ hHeld ?_
                    rotate_left
                    · (intro w_ hw_; (try dsimp only at hw_); go_simp; try with_reducible rfl)
                    simp only [Act.put, List.setIfInBounds_toArray, List.set_cons_zero, List.set_cons_succ, List.getElem_toArray, List.getElem_cons_zero, List.getElem_cons_succ]
                    refine hT (i := 6) (v := ?_) rfl (by kernel_rfl) (fun _ _ _ h => h) (by rfl) ?_ hHeld ?_
                    rotate_left
                    · (intro w_ hw_; (try dsimp only at hw_); go_simp; try with_reducible rfl)
                    simp only [Act.put, List.setIfInBounds_toArray, List.set_cons_zero, List.set_cons_succ, List.getElem_toArray, List.getElem_cons_zero, List.getElem_cons_succ]
                    refine hT (i := 7) (v := ?_) rfl (by kernel_rfl) (fun _ _ _ h => h) (by rfl) ?_ hHeld ?_
                    rotate_left
                    · (intro w_ hw_; (try dsimp only at hw_); go_simp; try with_reducible rfl)
                    simp only [Act.put, List.setIfInBounds_toArray, List.set_cons_zero, List.set_cons_succ, List.getElem_toArray, List.getElem_cons_zero, List.getElem_cons_succ]
                    refine hT (i := 8) (v := ?_) rfl (by kernel_rfl) (fun _ _ _ h => h) (by rfl) ?_ hHeld ?_
                    rotate_left
                    · (intro w_ hw_; (try dsimp only at hw_); go_simp; try with_reducible rfl)
                    simp only [Act.put, List.setIfInBounds_toArray, List.set_cons_zero, List.set_cons_succ, List.getElem_toArray, List.getElem_cons_zero, List.getElem_cons_succ]
                    refine hE (i := 4) rfl (by kernel_rfl) (by rfl) (fun K hK => ?_)
                    go_simp
                    refine (r8q.out _ hHeld.1).mono ?_
                    rintro e v4 ⟨rfl, hi⟩
                    have j4 := hide (Bel.trans hHeld.1 hi)
                    refine hK.out _ _ ?_ (fun hHeld => ?_)
                    · exact ⟨j4.out, b8.out _ j4.out, b7.out _ j4.out⟩
                    clear hK K
                    refine hE (i := 9) rfl (by kernel_rfl) (by rfl) (fun K hK => ?_)
                    go_simp
                    refine (r7q.out _ hHeld.1).mono ?_
                    rintro e v9 ⟨rfl, hi⟩
                    have j9 := hide (Bel.trans hHeld.1 hi)
                    refine hK.out _ _ ?_ (fun hHeld => ?_)
                    · exact ⟨j9.out, b8.out _ j9.out, b7.out _ j9.out⟩
                    clear hK K
                    refine hT (i := 10) (v := ?_) rfl (by kernel_rfl) (fun _ _ _ h => h) (by rfl) ?_ hHeld ?_
                    rotate_left
                    · (intro w_ hw_; (try dsimp only at hw_); go_simp; try with_reducible rfl)
                    simp only [Act.put, List.setIfInBounds_toArray, List.set_cons_zero, List.set_cons_succ, List.getElem_toArray, List.getElem_cons_zero, List.getElem_cons_succ]
                    refine hT (i := 11) (v := ?_) rfl (by kernel_rfl) (fun _ _ _ h => h) (by rfl) ?_ hHeld ?_
                    rotate_left
                    · (intro w_ hw_; (try dsimp only at hw_); go_simp; try with_reducible rfl)
                    simp only [Act.put, List.setIfInBounds_toArray, List.set_cons_zero, List.set_cons_succ, List.getElem_toArray, List.getElem_cons_zero, List.getElem_cons_succ]
                    refine hT (i := 12) (v := ?_) rfl (by kernel_rfl) (fun _ _ _ h => h) (by rfl) ?_ hHeld ?_
                    rotate_left
                    · (intro w_ hw_; (try dsimp only at hw_); go_simp; try with_reducible rfl)
                    simp only [Act.put, List.setIfInBounds_toArray, List.set_cons_zero, List.set_cons_succ, List.getElem_toArray, List.getElem_cons_zero, List.getElem_cons_succ]
                    refine hT (i := 13) (v := ?_) rfl (by kernel_rfl) (fun _ _ _ h => h) (by rfl) ?_ hHeld ?_
                    rotate_left
                    · (intro w_ hw_; (try dsimp only at hw_); go_simp; try with_reducible rfl)
                    simp only [Act.put, List.setIfInBounds_toArray, List.set_cons_zero, List.set_cons_succ, List.getElem_toArray, List.getElem_cons_zero, List.getElem_cons_succ]
                    refine hT (i := 14) (v := ?_) rfl (by kernel_rfl) (fun _ _ _ h => h) (by rfl) ?_ hHeld ?_
                    rotate_left
                    · (intro w_ hw_; (try dsimp only at hw_); go_simp; try with_reducible rfl)
                    simp only [Act.put, List.setIfInBounds_toArray, List.set_cons_zero, List.set_cons_succ, List.getElem_toArray, List.getElem_cons_zero, List.getElem_cons_succ]
                    refine hT (i := 15) (v := ?_) rfl (by kernel_rfl) (fun _ _ _ h => h) (by rfl) ?_ hHeld ?_
                    rotate_left
                    · (intro w_ hw_; (try dsimp only at hw_); go_simp; try with_reducible rfl)
                    simp only [Act.put, List.setIfInBounds_toArray, List.set_cons_zero, List.set_cons_succ, List.getElem_toArray, List.getElem_cons_zero, List.getElem_cons_succ]
                    refine hT (i := 16) (v := ?_) rfl (by kernel_rfl) (fun _ _ _ h => h) (by rfl) ?_ hHeld ?_
                    rotate_left
                    · (intro w_ hw_; (try dsimp only at hw_); go_simp; try with_reducible rfl)
                    simp only [Act.put, List.setIfInBounds_toArray, List.set_cons_zero, List.set_cons_succ, List.getElem_toArray, List.getElem_cons_zero, List.getElem_cons_succ]
                    refine hT (i := 17) (v := ?_) rfl (by kernel_rfl) (fun _ _ _ h => h) (by rfl) ?_ hHeld ?_
                    rotate_left
                    · (intro w_ hw_; (try dsimp only at hw_); go_simp; try with_reducible rfl)
                    simp only [Act.put, List.setIfInBounds_toArray, List.set_cons_zero, List.set_cons_succ, List.getElem_toArray, List.getElem_cons_zero, List.getElem_cons_succ]
                    refine hT (i := 18) (v := ?_) rfl (by kernel_rfl) (fun _ _ _ h => h) (by rfl) ?_ hHeld ?_
                    rotate_left
                    · (intro w_ hw_; (try dsimp only at hw_); go_simp; try with_reducible rfl)
                    simp only [Act.put, List.setIfInBounds_toArray, List.set_cons_zero, List.set_cons_succ, List.getElem_toArray, List.getElem_cons_zero, List.getElem_cons_succ]
                    refine hT (i := 20) (v := ?_) rfl (by kernel_rfl) (fun _ _ _ h => h) (by rfl) ?_ hHeld ?_
                    rotate_left
                    · (intro w_ hw_; (try dsimp only at hw_); go_simp; try with_reducible rfl)
                    simp only [Act.put, List.setIfInBounds_toArray, List.set_cons_zero, List.set_cons_succ, List.getElem_toArray, List.getElem_cons_zero, List.getElem_cons_succ]
                    refine hT (i := 21) (v := ?_) rfl (by kernel_rfl) (fun _ _ _ h => h) (by rfl) ?_ hHeld ?_
                    rotate_left
                    · (intro w_ hw_; (try dsimp only at hw_); go_simp; try with_reducible rfl)
                    simp only [Act.put, List.setIfInBounds_toArray, List.set_cons_zero, List.set_cons_succ, List.getElem_toArray, List.getElem_cons_zero, List.getElem_cons_succ]
                    refine hT (i := 22) (v := ?_) rfl (by kernel_rfl) (fun _ _ _ h => h) (by rfl) ?_ hHeld ?_
                    rotate_left
                    · (intro w_ hw_; (try dsimp only at hw_); go_simp; try with_reducible rfl)
                    simp only [Act.put, List.setIfInBounds_toArray, List.set_cons_zero, List.set_cons_succ, List.getElem_toArray, List.getElem_cons_zero, List.getElem_cons_succ]
                    refine hT (i := 23) (v := ?_) rfl (by kernel_rfl) (fun _ _ _ h => h) (by rfl) ?_ hHeld ?_
                    rotate_left
                    · (intro w_ hw_; (try dsimp only at hw_); go_simp; try with_reducible rfl)
                    simp only [Act.put, List.setIfInBounds_toArray, List.set_cons_zero, List.set_cons_succ, List.getElem_toArray, List.getElem_cons_zero, List.getElem_cons_succ]
                    refine hE (i := 19) rfl (by kernel_rfl) (by rfl) (fun K hK => ?_)
                    go_simp
                    refine (w8q.out _ hHeld.1).mono ?_
                    rintro e v19 ⟨rfl, hi⟩
                    have j19 := hide (Bel.trans hHeld.1 hi)
                    refine hK.out _ _ ?_ (fun hHeld => ?_)
                    · exact ⟨j19.out, b8.out _ j19.out, b7.out _ j19.out⟩
                    clear hK K
                    refine hE (i := 24) rfl (by kernel_rfl) (by rfl) (fun K hK => ?_)
                    go_simp
                    refine (w7q.out _ hHeld.1).mono ?_
                    rintro e v24 ⟨rfl, hi⟩
                    have j24 := hide (Bel.trans hHeld.1 hi)
                    refine hK.out _ _ ?_ (fun hHeld => ?_)
                    · exact ⟨j24.out, b8.out _ j24.out, b7.out _ j24.out⟩
                    clear hK K
                    refine hT (i := 25) (v := ?_) rfl (by kernel_rfl) (fun _ _ _ h => h) (by rfl) ?_ hHeld ?_
                    rotate_left
                    · (intro w_ hw_; (try dsimp only at hw_); go_simp; try with_reducible rfl)
                    simp only [Act.put, List.setIfInBounds_toArray, List.set_cons_zero, List.set_cons_succ, List.getElem_toArray, List.getElem_cons_zero, List.getElem_cons_succ]
                    refine hT (i := 26) (v := ?_) rfl (by kernel_rfl) (fun _ _ _ h => h) (by rfl) ?_ hHeld ?_
                    rotate_left
                    · (intro w_ hw_; (try dsimp only at hw_); go_simp; try with_reducible rfl)
                    simp only [Act.put, List.setIfInBounds_toArray, List.set_cons_zero, List.set_cons_succ, List.getElem_toArray, List.getElem_cons_zero, List.getElem_cons_succ]
                    refine hT (i := 27) (v := ?_) rfl (by kernel_rfl) (fun _ _ _ h => h) (by rfl) ?_ hHeld ?_
                    rotate_left
                    · (intro w_ hw_; (try dsimp only at hw_); go_simp; try with_reducible rfl)
                    simp only [Act.put, List.setIfInBounds_toArray, List.set_cons_zero, List.set_cons_succ, List.getElem_toArray, List.getElem_cons_zero, List.getElem_cons_succ]
                    refine hN (i := 28) rfl (by kernel_rfl) (fun _ _ _ h => h) (by rfl) hHeld ?_
                    simp only [Act.put, List.setIfInBounds_toArray, List.set_cons_zero, List.set_cons_succ, List.getElem_toArray, List.getElem_cons_zero, List.getElem_cons_succ]
                    refine hT (i := 29) (v := ?_) rfl (by kernel_rfl) (fun _ _ _ h => h) (by rfl) ?_ hHeld ?_
                    rotate_left
                    · (intro w_ hw_; (try dsimp only at hw_); go_simp; try with_reducible rfl)
                    simp only [Act.put, List.setIfInBounds_toArray, List.set_cons_zero, List.set_cons_succ, List.getElem_toArray, List.getElem_cons_zero, List.getElem_cons_succ]
                    refine hT (i := 30) (v := ?_) rfl (by kernel_rfl) (fun _ _ _ h => h) (by rfl) ?_ hHeld ?_
                    rotate_left
                    · (intro w_ hw_; (try dsimp only at hw_); go_simp; try with_reducible rfl)
                    simp only [Act.put, List.setIfInBounds_toArray, List.set_cons_zero, List.set_cons_succ, List.getElem_toArray, List.getElem_cons_zero, List.getElem_cons_succ]
                    refine hT (i := 31) (v := ?_) rfl (by kernel_rfl) (fun _ _ _ h => h) (by rfl) ?_ hHeld ?_
                    rotate_left
                    · (intro w_ hw_; (try dsimp only at hw_); go_simp; try with_reducible rfl)
                    simp only [Act.put, List.setIfInBounds_toArray, List.set_cons_zero, List.set_cons_succ, List.getElem_toArray, List.getElem_cons_zero, List.getElem_cons_succ]
                    refine hT (i := 32) (v := ?_) rfl (by kernel_rfl) (fun _ _ _ h => h) (by rfl) ?_ hHeld ?_
                    rotate_left
                    · (intro w_ hw_; (try dsimp only at hw_); go_simp; try with_reducible rfl)
                    simp only [Act.put, List.setIfInBounds_toArray, List.set_cons_zero, List.set_cons_succ, List.getElem_toArray, List.getElem_cons_zero, List.getElem_cons_succ]
                    refine wpAnyH_done (by kernel_rfl) ?_ _
                    clear hHeld
                    go_wp2_with fail
                    exact ⟨⟨q + 1, by omega, by go_num, j24⟩, by simp [intOf]; omega⟩
            · obtain rfl : q = 3 := by omega
              go_wp2_with fail
              exact ⟨⟨g + 1, by omega, by go_num, HJ⟩, by simp [intOf]; omega⟩
        · obtain rfl : g = 16 := by omega
          go_wp2_with fail
          go_ret
          exact ⟨rfl, Bel.trans HB.out HI.out⟩
    · rw [ho] at m8
      clear kc kd b7 b8 ho
      go_wp2_with ((with_reducible refine (Hid.out m8 _ (bel_refl W5)).mono ?_); rintro e v1 ⟨rfl, i1⟩; have h1 := hide i1; clear i1)
      go_ret
      exact ⟨rfl, Bel.trans HB.out h1.out⟩
end Go.Proofs.Ythjhkbnajclcjaa
