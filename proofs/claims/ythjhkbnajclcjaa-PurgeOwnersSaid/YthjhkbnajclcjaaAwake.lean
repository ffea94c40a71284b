/- caissonlaw21.awake answers true. -/
import Derived.Test.YthjhkbnajclcjaaPlain
set_option linter.unusedSimpArgs false
namespace Go.Proofs.Ythjhkbnajclcjaa
open Go.RowKit

theorem num_calls (x : Int) (w : World) : Calls Try.prog 31 #[.int .i64 x] w fun e w' => e = .returned (.int .i64 x) ∧ w = w' := by
  go_enter Try.func31, Try.ntmps31
  go_wp2
  go_ret
  exact ⟨rfl, rfl⟩

def zeroCfg : Config := ⟨0, [], [], 0, [], [], 0, 0, 0⟩
def badCfg : Config := { plainCfg with grants := [⟨2, 0, false⟩] }
abbrev zeroVal : Value := .agg #[vi 0, .slice none 0 0, .slice none 0 0, vi 0, .slice none 0 0, .slice none 0 0, vi 0, vi 0, vi 0]
theorem zeroCfg_k (W : World) : CfgV W zeroVal zeroCfg :=
  ⟨_, rfl, _, _, _, _, rfl, nil_sl _ _, nil_sl _ _, nil_sl _ _, nil_sl _ _, by decide, by decide, by decide, by decide, by decide⟩
theorem bad_k {W : World} {N : Nat} (h : CfgAt W N [vi 0, vi 1, vi 2] [vi 3, vi 4] [vi 5, vi 6] [vi 0, vi 0, vs (N + 1) 3, vi 0, vi 4, vi 2, vi 0, vs (N + 2) 2, vi 4, vi 4, vi 1, vi 2, vs (N + 3) 2, vi 8, vi 2] [vi 8, vi 9, vi 10] [vi 11, vi 12] [vi 0, vs (N + 5) 3, vi 2, vs (N + 6) 2] [vi 0, vi 0, vi 2, vi 1, vi 1, vi 2, vi 2, vi 2, vi 2, vi 4, vi 2, vi 5] [vi 2, vi 0, .bool false]) : CfgV W (plainVal N) badCfg :=
  ⟨_, rfl, _, _, _, _, rfl, h.parts, h.devices, h.windows, h.grants ⟨2, 0, false⟩ (by decide) (by decide), by decide, by decide, by decide, by decide, by decide⟩
theorem may_plain : mayCfg plainCfg = true := by kernel_rfl
theorem may_bad : mayCfg badCfg = false := by kernel_rfl
theorem may_zero : mayCfg zeroCfg = false := by kernel_rfl
theorem al_1 : allowed plainCfg 0 0 192 false = true := by kernel_rfl
theorem al_2 : allowed plainCfg 0 0 193 false = false := by kernel_rfl
theorem al_3 : allowed plainCfg 2 128 64 false = true := by kernel_rfl
theorem al_4 : allowed plainCfg 2 128 64 true = false := by kernel_rfl
theorem al_5 : allowed plainCfg 3 0 0 false = false := by kernel_rfl

set_option maxHeartbeats 8000000 in
theorem awake_calls (w : World) : Calls Try.prog 29 #[] w fun e w' => e = .returned (.bool true) ∧ Bel w w' := by
  have hp := hide plain_calls'
  have hn := hide num_calls
  go_enter Try.func29, Try.ntmps29
  go_upto_region 2 with ((with_reducible refine (Hid.out hp _).mono ?_); rintro e w1 ⟨rfl, hb1, hc1, hs1⟩)
  go_upto_region 3 with ((with_reducible refine (Hid.out hp _).mono ?_); rintro e w2 ⟨rfl, hb2, hc2, hs2⟩)
  rw [size_alloc] at hc2 hs2
  obtain ⟨W3, hW3⟩ : ∃ W3 : World, W3 = w2.alloc (.cells #[.int .i64 16, .slice (some ⟨w1.heap.size + 1 + 4, 0, none⟩) 3 3, .slice (some ⟨w1.heap.size + 1 + 7, 0, none⟩) 2 2, .int .i64 6, .slice (some ⟨w1.heap.size + 1 + 8, 0, none⟩) 3 3, .slice (some ⟨w1.heap.size + 1 + 9, 0, none⟩) 1 1, .int .i64 10, .int .i64 6, .int .i64 2] 27) := ⟨_, rfl⟩
  rw [← hW3]
  have hb23 : Bel w2 W3 := by rw [hW3]; exact (bel_refl _).alloc _
  have hb13 : Bel w1 W3 := Bel.trans ((bel_refl w1).alloc _) (Bel.trans hb2.out hb23)
  have A1 := hide (hc1.out.bel hb13)
  have A2 := hide (hc2.out.bel hb23)
  have B1 : Hid (BlkAt W3 w1.heap.size [.int .i64 16, .slice (some ⟨w.heap.size + 4, 0, none⟩) 3 3, .slice (some ⟨w.heap.size + 7, 0, none⟩) 2 2, .int .i64 6, .slice (some ⟨w.heap.size + 8, 0, none⟩) 3 3, .slice (some ⟨w.heap.size + 9, 0, none⟩) 1 1, .int .i64 10, .int .i64 6, .int .i64 2] 27) := ((blk_new w1 [.int .i64 16, .slice (some ⟨w.heap.size + 4, 0, none⟩) 3 3, .slice (some ⟨w.heap.size + 7, 0, none⟩) 2 2, .int .i64 6, .slice (some ⟨w.heap.size + 8, 0, none⟩) 3 3, .slice (some ⟨w.heap.size + 9, 0, none⟩) 1 1, .int .i64 10, .int .i64 6, .int .i64 2] 27).bel hb2.out).bel hb23
  have B2 : Hid (BlkAt W3 w2.heap.size [.int .i64 16, .slice (some ⟨(w1.heap.size + 1) + 4, 0, none⟩) 3 3, .slice (some ⟨(w1.heap.size + 1) + 7, 0, none⟩) 2 2, .int .i64 6, .slice (some ⟨(w1.heap.size + 1) + 8, 0, none⟩) 3 3, .slice (some ⟨(w1.heap.size + 1) + 9, 0, none⟩) 1 1, .int .i64 10, .int .i64 6, .int .i64 2] 27) := by
    have h := blk_new w2 [.int .i64 16, .slice (some ⟨(w1.heap.size + 1) + 4, 0, none⟩) 3 3, .slice (some ⟨(w1.heap.size + 1) + 7, 0, none⟩) 2 2, .int .i64 6, .slice (some ⟨(w1.heap.size + 1) + 8, 0, none⟩) 3 3, .slice (some ⟨(w1.heap.size + 1) + 9, 0, none⟩) 1 1, .int .i64 10, .int .i64 6, .int .i64 2] 27
    rw [hW3]
    exact h
  have hb3 := hide (Bel.trans hb1.out hb13)
  have hlt := hb1.out.size
  clear hW3 hb13 hb23 hb1 hb2 hc1 hc2
  have e0 := B2.out.cell (i := 5) (u := .slice (some ⟨w1.heap.size + 1 + 9, 0, none⟩) 1 1) rfl
  have e1 := A2.out.b_gs.cell (i := 1) (u := vi 2) rfl
  have e2 := A2.out.b_gs.free 1
  go_upto_region 4 with fail
  clear e0 e1 e2
  obtain ⟨W4, hW4⟩ : ∃ W4 : World, W4 = W3.setCell ⟨w1.heap.size + 1 + 9, 1, none⟩ (.int .i64 0) := ⟨_, rfl⟩
  rw [← hW4]
  have A1 := hide (show PlainAt W4 w.heap.size by rw [hW4]; exact A1.out.other _ _ _ (by omega))
  have A2 : Hid _ := A2.out.set_gs 1 (vi 0)
  rw [← hW4] at A2
  have B1 : Hid _ := BlkAt.other B1.out (p := ⟨w1.heap.size + 1 + 9, 1, none⟩) (by dsimp only; omega) (.int .i64 0)
  rw [← hW4] at B1
  have B2 : Hid _ := BlkAt.other B2.out (p := ⟨w1.heap.size + 1 + 9, 1, none⟩) (by dsimp only; omega) (.int .i64 0)
  rw [← hW4] at B2
  have hb4 := hide (show Bel w W4 by rw [hW4]; exact hb3.out.setCell (by dsimp only; omega) _)
  clear hW4 hb3
  have b1 := hide fun W (hW : Bel W4 W) => show W.cell? ⟨w1.heap.size, 0, none⟩ = some (.int .i64 16) ∧ W.cell? ⟨w1.heap.size, 1, none⟩ = some (.slice (some ⟨w.heap.size + 4, 0, none⟩) 3 3) ∧ W.cell? ⟨w1.heap.size, 2, none⟩ = some (.slice (some ⟨w.heap.size + 7, 0, none⟩) 2 2) ∧ W.cell? ⟨w1.heap.size, 3, none⟩ = some (.int .i64 6) ∧ W.cell? ⟨w1.heap.size, 4, none⟩ = some (.slice (some ⟨w.heap.size + 8, 0, none⟩) 3 3) ∧ W.cell? ⟨w1.heap.size, 5, none⟩ = some (.slice (some ⟨w.heap.size + 9, 0, none⟩) 1 1) ∧ W.cell? ⟨w1.heap.size, 6, none⟩ = some (.int .i64 10) ∧ W.cell? ⟨w1.heap.size, 7, none⟩ = some (.int .i64 6) ∧ W.cell? ⟨w1.heap.size, 8, none⟩ = some (.int .i64 2) from
    ⟨BlkAt.cell (BlkAt.bel B1.out hW) (i := 0) rfl, BlkAt.cell (BlkAt.bel B1.out hW) (i := 1) rfl, BlkAt.cell (BlkAt.bel B1.out hW) (i := 2) rfl, BlkAt.cell (BlkAt.bel B1.out hW) (i := 3) rfl, BlkAt.cell (BlkAt.bel B1.out hW) (i := 4) rfl, BlkAt.cell (BlkAt.bel B1.out hW) (i := 5) rfl, BlkAt.cell (BlkAt.bel B1.out hW) (i := 6) rfl, BlkAt.cell (BlkAt.bel B1.out hW) (i := 7) rfl, BlkAt.cell (BlkAt.bel B1.out hW) (i := 8) rfl⟩
  have b2 := hide fun W (hW : Bel W4 W) => show W.cell? ⟨w2.heap.size, 0, none⟩ = some (.int .i64 16) ∧ W.cell? ⟨w2.heap.size, 1, none⟩ = some (.slice (some ⟨(w1.heap.size + 1) + 4, 0, none⟩) 3 3) ∧ W.cell? ⟨w2.heap.size, 2, none⟩ = some (.slice (some ⟨(w1.heap.size + 1) + 7, 0, none⟩) 2 2) ∧ W.cell? ⟨w2.heap.size, 3, none⟩ = some (.int .i64 6) ∧ W.cell? ⟨w2.heap.size, 4, none⟩ = some (.slice (some ⟨(w1.heap.size + 1) + 8, 0, none⟩) 3 3) ∧ W.cell? ⟨w2.heap.size, 5, none⟩ = some (.slice (some ⟨(w1.heap.size + 1) + 9, 0, none⟩) 1 1) ∧ W.cell? ⟨w2.heap.size, 6, none⟩ = some (.int .i64 10) ∧ W.cell? ⟨w2.heap.size, 7, none⟩ = some (.int .i64 6) ∧ W.cell? ⟨w2.heap.size, 8, none⟩ = some (.int .i64 2) from
    ⟨BlkAt.cell (BlkAt.bel B2.out hW) (i := 0) rfl, BlkAt.cell (BlkAt.bel B2.out hW) (i := 1) rfl, BlkAt.cell (BlkAt.bel B2.out hW) (i := 2) rfl, BlkAt.cell (BlkAt.bel B2.out hW) (i := 3) rfl, BlkAt.cell (BlkAt.bel B2.out hW) (i := 4) rfl, BlkAt.cell (BlkAt.bel B2.out hW) (i := 5) rfl, BlkAt.cell (BlkAt.bel B2.out hW) (i := 6) rfl, BlkAt.cell (BlkAt.bel B2.out hW) (i := 7) rfl, BlkAt.cell (BlkAt.bel B2.out hW) (i := 8) rfl⟩
  have m1 := hide fun W (hW : Bel W4 W) => may_calls W _ plainCfg (show CfgV W (.agg #[.int .i64 16, .slice (some ⟨w.heap.size + 4, 0, none⟩) 3 3, .slice (some ⟨w.heap.size + 7, 0, none⟩) 2 2, .int .i64 6, .slice (some ⟨w.heap.size + 8, 0, none⟩) 3 3, .slice (some ⟨w.heap.size + 9, 0, none⟩) 1 1, .int .i64 10, .int .i64 6, .int .i64 2]) plainCfg from PlainAt.k (CfgAt.bel A1.out hW))
  simp only [may_plain] at m1
  have m2 := hide fun W (hW : Bel W4 W) => may_calls W _ badCfg (show CfgV W (.agg #[.int .i64 16, .slice (some ⟨(w1.heap.size + 1) + 4, 0, none⟩) 3 3, .slice (some ⟨(w1.heap.size + 1) + 7, 0, none⟩) 2 2, .int .i64 6, .slice (some ⟨(w1.heap.size + 1) + 8, 0, none⟩) 3 3, .slice (some ⟨(w1.heap.size + 1) + 9, 0, none⟩) 1 1, .int .i64 10, .int .i64 6, .int .i64 2]) badCfg from bad_k (CfgAt.bel A2.out hW))
  simp only [may_bad] at m2
  have m3 := hide fun W (hW : Bel W4 W) => may_calls W _ zeroCfg (show CfgV W (.agg #[.int .i64 0, .slice none 0 0, .slice none 0 0, .int .i64 0, .slice none 0 0, .slice none 0 0, .int .i64 0, .int .i64 0, .int .i64 0]) zeroCfg from zeroCfg_k W)
  simp only [may_zero] at m3
  have m4 := hide fun W (hW : Bel W4 W) => reads_calls W _ plainCfg 0 0 192 (show CfgV W (.agg #[.int .i64 16, .slice (some ⟨w.heap.size + 4, 0, none⟩) 3 3, .slice (some ⟨w.heap.size + 7, 0, none⟩) 2 2, .int .i64 6, .slice (some ⟨w.heap.size + 8, 0, none⟩) 3 3, .slice (some ⟨w.heap.size + 9, 0, none⟩) 1 1, .int .i64 10, .int .i64 6, .int .i64 2]) plainCfg from PlainAt.k (CfgAt.bel A1.out hW)) (by decide) (by decide)
  simp only [al_1] at m4
  have m5 := hide fun W (hW : Bel W4 W) => reads_calls W _ plainCfg 0 0 193 (show CfgV W (.agg #[.int .i64 16, .slice (some ⟨w.heap.size + 4, 0, none⟩) 3 3, .slice (some ⟨w.heap.size + 7, 0, none⟩) 2 2, .int .i64 6, .slice (some ⟨w.heap.size + 8, 0, none⟩) 3 3, .slice (some ⟨w.heap.size + 9, 0, none⟩) 1 1, .int .i64 10, .int .i64 6, .int .i64 2]) plainCfg from PlainAt.k (CfgAt.bel A1.out hW)) (by decide) (by decide)
  simp only [al_2] at m5
  have m6 := hide fun W (hW : Bel W4 W) => reads_calls W _ plainCfg 2 128 64 (show CfgV W (.agg #[.int .i64 16, .slice (some ⟨w.heap.size + 4, 0, none⟩) 3 3, .slice (some ⟨w.heap.size + 7, 0, none⟩) 2 2, .int .i64 6, .slice (some ⟨w.heap.size + 8, 0, none⟩) 3 3, .slice (some ⟨w.heap.size + 9, 0, none⟩) 1 1, .int .i64 10, .int .i64 6, .int .i64 2]) plainCfg from PlainAt.k (CfgAt.bel A1.out hW)) (by decide) (by decide)
  simp only [al_3] at m6
  have m7 := hide fun W (hW : Bel W4 W) => writes_calls W _ plainCfg 2 128 64 (show CfgV W (.agg #[.int .i64 16, .slice (some ⟨w.heap.size + 4, 0, none⟩) 3 3, .slice (some ⟨w.heap.size + 7, 0, none⟩) 2 2, .int .i64 6, .slice (some ⟨w.heap.size + 8, 0, none⟩) 3 3, .slice (some ⟨w.heap.size + 9, 0, none⟩) 1 1, .int .i64 10, .int .i64 6, .int .i64 2]) plainCfg from PlainAt.k (CfgAt.bel A1.out hW)) (by decide) (by decide)
  simp only [al_4] at m7
  have m8 := hide fun W (hW : Bel W4 W) => reads_calls W _ plainCfg 3 0 0 (show CfgV W (.agg #[.int .i64 16, .slice (some ⟨w.heap.size + 4, 0, none⟩) 3 3, .slice (some ⟨w.heap.size + 7, 0, none⟩) 2 2, .int .i64 6, .slice (some ⟨w.heap.size + 8, 0, none⟩) 3 3, .slice (some ⟨w.heap.size + 9, 0, none⟩) 1 1, .int .i64 10, .int .i64 6, .int .i64 2]) plainCfg from PlainAt.k (CfgAt.bel A1.out hW)) (by decide) (by decide)
  simp only [al_5] at m8
  clear A1 A2 B1 B2 hs1 hs2 hlt hp
  have k0 := b1.out W4 (bel_refl _)
  have l0 := b2.out W4 (bel_refl _)
  go_wp2_with (first
    | ((with_reducible refine (Hid.out m1 _ (bel_refl W4)).mono ?_); rintro e v1 ⟨rfl, i1⟩; have h1 := hide (Bel.trans (bel_refl W4) i1); clear i1; have k1 := b1.out _ h1.out; have l1 := b2.out _ h1.out)
    | ((with_reducible refine (Hid.out m2 _ h1.out).mono ?_); rintro e v2 ⟨rfl, i2⟩; have h2 := hide (Bel.trans h1.out i2); clear i2; have k2 := b1.out _ h2.out)
    | ((with_reducible refine (Hid.out m3 _ h2.out).mono ?_); rintro e v3 ⟨rfl, i3⟩; have h3 := hide (Bel.trans h2.out i3); clear i3; have k3 := b1.out _ h3.out)
    | ((with_reducible refine (Hid.out m4 _ h3.out).mono ?_); rintro e v4 ⟨rfl, i4⟩; have h4 := hide (Bel.trans h3.out i4); clear i4; have k4 := b1.out _ h4.out)
    | ((with_reducible refine (Hid.out m5 _ h4.out).mono ?_); rintro e v5 ⟨rfl, i5⟩; have h5 := hide (Bel.trans h4.out i5); clear i5; have k5 := b1.out _ h5.out)
    | ((with_reducible refine (Hid.out m6 _ h5.out).mono ?_); rintro e v6 ⟨rfl, i6⟩; have h6 := hide (Bel.trans h5.out i6); clear i6; have k6 := b1.out _ h6.out)
    | ((with_reducible refine (Hid.out m7 _ h6.out).mono ?_); rintro e v7 ⟨rfl, i7⟩; have h7 := hide (Bel.trans h6.out i7); clear i7; have k7 := b1.out _ h7.out)
    | ((with_reducible refine (Hid.out m8 _ h7.out).mono ?_); rintro e v8 ⟨rfl, i8⟩; have h8 := hide (Bel.trans h7.out i8); clear i8; have k8 := b1.out _ h8.out)
    | ((with_reducible refine (Hid.out hn _ _).mono ?_); rintro e v9 ⟨rfl, rfl⟩))
  go_ret
  exact ⟨rfl, Bel.trans hb4.out h8.out⟩
end Go.Proofs.Ythjhkbnajclcjaa
