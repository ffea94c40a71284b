/- caissonlaw21.ConfigForms. -/
import Derived.Test.YthjhkbnajclcjaaAwake
import Derived.Deep.CutBlock
set_option linter.unusedSimpArgs false
namespace Go.Proofs.Ythjhkbnajclcjaa
open Go.RowKit

theorem band_i64 (x : Int) (m : Nat) (hm : m < 2 ^ 63) : 0 ≤ bits .and .i64 x m ∧ bits .and .i64 x m ≤ m := by
  have h : (BitVec.ofInt 64 x &&& BitVec.ofInt 64 (m : Int)).toNat ≤ m := by
    rw [BitVec.toNat_and]
    refine Nat.le_trans Nat.and_le_right ?_
    simp [BitVec.toNat_ofInt]
    omega
  have hw : bits .and .i64 x m = ((BitVec.ofInt 64 x &&& BitVec.ofInt 64 (m : Int)).toNat : Int) := by
    change IntKind.i64.wrap ((BitVec.ofInt 64 x &&& BitVec.ofInt 64 (m : Int)).toNat : Int) = _
    exact IntWalk.i64_in _ (by omega)
  rw [hw]
  omega
theorem kGrant_pure : kGrant.Pure := fun _ _ _ _ h => h
theorem kGrant_one : kGrant.One := fun _ _ _ h u hu => by
  rw [h.1] at hu
  simp at hu
  rcases hu with rfl | rfl | rfl <;> rfl
theorem info_Grant : (Try.prog.info? 44).map (fun i => (i.zero, i.size, i.bytes)) = some (some (.agg #[.int .i64 0, .int .i64 0, .bool false]), 3, 24) := by kernel_rfl
theorem grownBy_setCell (w : World) (p : Addr) (v : Value) : w.grownBy (w.setCell p v) (some p.block) :=
  ⟨rfl, rfl, rfl, by simp, fun k _ hk => Below.heap_setCell w p v k (fun e => hk (by rw [e]))⟩
/-- A whole block of grants is a row that may be appended to. -/
theorem own_of_blk {W : World} {b base : Nat} {t : TypeId} (x : Grant) (o1 : I64 x.frame) (o2 : I64 x.to) (h : BlkAt W b [vi x.frame, vi x.to, .bool x.write] t) (hb : base ≤ b) : kGrant.Own t base W (vs b 1) [x] := by
  refine ⟨[vi x.frame, vi x.to, .bool x.write], ⟨rfl, .inr ⟨b, 1, _, rfl, hb, h, Nat.le_refl _, by unfold maxLen; decide, rfl, rfl⟩⟩, fun j y hj => ?_⟩
  cases j with
  | zero =>
    simp only [List.getElem?_cons_zero, Option.some.injEq] at hj
    subst hj
    exact kGrant_pure.rob (w := W) ⟨rfl, o1, o2⟩ _
  | succ j => simp at hj
theorem may_no0 {c : Config} (h : partsRule c = false) : mayCfg c = false := by simp [mayCfg, mayRules, h]
theorem may_no1 {c : Config} (h : devicesRule c = false) : mayCfg c = false := by simp [mayCfg, mayRules, h]
theorem may_no2 {c : Config} (h : framesRule c = false) : mayCfg c = false := by simp [mayCfg, mayRules, h]
theorem may_no4 {c : Config} (h : grantsRule c = false) : mayCfg c = false := by simp [mayCfg, mayRules, h]
theorem may_no5 {c : Config} (h : numbersRule c = false) : mayCfg c = false := by simp [mayCfg, mayRules, h]
theorem mf_0 : mayCfg ⟨12, [P0, P1, P2], [⟨0, [8, 9, 10]⟩, ⟨2, [11, 12]⟩], 6, W3, [⟨2, 2, false⟩], 10, 6, 2⟩ = false := by kernel_rfl
theorem mf_1 (d : Int) (h1 : 1 ≤ d) (h2 : d ≤ 1024) : mayCfg ⟨16, [P0, P1, P2], [⟨0, [8, 9, 10]⟩, ⟨2, [11, 12]⟩], 6, W3, [⟨2, 2, false⟩], 10, 6, 8 + d⟩ = false := by
  refine may_no5 ?_
  simp [numbersRule]; omega
theorem mf_2 : mayCfg ⟨16, [], [⟨0, [8, 9, 10]⟩, ⟨2, [11, 12]⟩], 6, W3, [⟨2, 2, false⟩], 10, 6, 2⟩ = false := by kernel_rfl
theorem mf_3 (d : Int) (h1 : 1 ≤ d) (h2 : d ≤ 1024) : mayCfg ⟨16, [⟨⟨-d, 0⟩, [0, 1, 2], 0, 4⟩, P1, P2], [⟨0, [8, 9, 10]⟩, ⟨2, [11, 12]⟩], 6, W3, [⟨2, 2, false⟩], 10, 6, 2⟩ = false := by
  refine may_no0 ?_
  simp [partsRule, partsMay, labelMay]; omega
theorem mf_4 : mayCfg ⟨16, [P0, ⟨⟨2, 0⟩, [], 4, 4⟩, P2], [⟨0, [8, 9, 10]⟩, ⟨2, [11, 12]⟩], 6, W3, [⟨2, 2, false⟩], 10, 6, 2⟩ = false := by kernel_rfl
theorem mf_5 : mayCfg ⟨16, [P0, ⟨⟨2, 0⟩, [0, 4], 4, 4⟩, P2], [⟨0, [8, 9, 10]⟩, ⟨2, [11, 12]⟩], 6, W3, [⟨2, 2, false⟩], 10, 6, 2⟩ = false := by kernel_rfl
theorem mf_6 (d : Int) (h1 : 1 ≤ d) (h2 : d ≤ 1024) : mayCfg ⟨16, [P0, ⟨⟨2, 0⟩, [15 + d, 4], 4, 4⟩, P2], [⟨0, [8, 9, 10]⟩, ⟨2, [11, 12]⟩], 6, W3, [⟨2, 2, false⟩], 10, 6, 2⟩ = false := by
  refine may_no2 ?_
  simp [framesRule, allFrames, pools, anyL, onceStep, has, P0, P2, show ¬ (15 + d < 16) by omega]
theorem mf_7 (d : Int) (h1 : 1 ≤ d) (h2 : d ≤ 1024) : mayCfg ⟨16, [P0, ⟨⟨2, 0⟩, [3, -d], 4, 4⟩, P2], [⟨0, [8, 9, 10]⟩, ⟨2, [11, 12]⟩], 6, W3, [⟨2, 2, false⟩], 10, 6, 2⟩ = false := by
  refine may_no2 ?_
  simp [framesRule, allFrames, pools, anyL, onceStep, has, P0, P2, show ¬ (d ≤ 0) by omega]
theorem mf_8 : mayCfg ⟨16, [P0, P1, P2], [], 6, W3, [⟨2, 2, false⟩], 10, 6, 2⟩ = false := by kernel_rfl
theorem mf_9 (d : Int) (h1 : 1 ≤ d) (h2 : d ≤ 1024) : mayCfg ⟨16, [P0, P1, P2], [⟨2 + d, [8, 9, 10]⟩, ⟨2, [11, 12]⟩], 6, W3, [⟨2, 2, false⟩], 10, 6, 2⟩ = false := by
  refine may_no1 ?_
  simp [devicesRule, devMay, there]; omega
theorem mf_10 (d : Int) (h1 : 1 ≤ d) (h2 : d ≤ 1024) : mayCfg ⟨16, [P0, P1, P2], [⟨-d, [8, 9, 10]⟩, ⟨2, [11, 12]⟩], 6, W3, [⟨2, 2, false⟩], 10, 6, 2⟩ = false := by
  refine may_no1 ?_
  simp [devicesRule, devMay, there]; omega
theorem mf_11 : mayCfg ⟨16, [P0, P1, P2], [⟨0, [8]⟩, ⟨2, [11, 12]⟩], 6, W3, [⟨2, 2, false⟩], 10, 6, 2⟩ = false := by kernel_rfl
theorem mf_12 : mayCfg ⟨16, [P0, P1, P2], [⟨0, [8, 9, 10, 13, 14, 15]⟩, ⟨2, [11, 12]⟩], 6, W3, [⟨2, 2, false⟩], 10, 6, 2⟩ = false := by kernel_rfl
theorem mf_13 : mayCfg ⟨16, [P0, P1, P2], [⟨0, [8, 9, 10]⟩, ⟨2, [8, 12]⟩], 6, W3, [⟨2, 2, false⟩], 10, 6, 2⟩ = false := by kernel_rfl
theorem mf_14 : mayCfg ⟨16, [P0, P1, P2], [⟨0, [8, 9, 10]⟩, ⟨2, [5, 12]⟩], 6, W3, [⟨2, 2, false⟩], 10, 6, 2⟩ = false := by kernel_rfl
theorem mf_15 : mayCfg ⟨16, [P0, P1, P2], [⟨0, [8, 9, 10]⟩, ⟨2, [11, 12]⟩], 6, (W3.take 2), [⟨2, 2, false⟩], 10, 6, 2⟩ = false := by kernel_rfl
theorem mf_16 : mayCfg ⟨16, [P0, P1, P2], [⟨0, [8, 9, 10]⟩, ⟨2, [11, 12]⟩], 5, W3, [⟨2, 2, false⟩], 10, 6, 2⟩ = false := by kernel_rfl
theorem mf_17 : mayCfg ⟨16, [P0, P1, P2], [⟨0, [8, 9, 10]⟩, ⟨2, [11, 12]⟩], 6, W3, [⟨7, 2, false⟩], 10, 6, 2⟩ = false := by kernel_rfl
theorem mf_18 : mayCfg ⟨16, [P0, P1, P2], [⟨0, [8, 9, 10]⟩, ⟨2, [11, 12]⟩], 6, W3, [⟨8, 2, false⟩], 10, 6, 2⟩ = false := by kernel_rfl
theorem mf_19 (d : Int) (h1 : 1 ≤ d) (h2 : d ≤ 1024) : mayCfg ⟨16, [P0, P1, P2], [⟨0, [8, 9, 10]⟩, ⟨2, [11, 12]⟩], 6, W3, [⟨2, 2 + d, false⟩], 10, 6, 2⟩ = false := by
  refine may_no4 ?_
  simp [grantsRule, grantsGo, grantOk, there]; omega
theorem mf_21 : mayCfg ⟨16, [P0, P1, P2], [⟨0, [8, 9, 10]⟩, ⟨2, [11, 12]⟩], 6, W3, [⟨2, 2, false⟩], 9, 6, 2⟩ = false := by kernel_rfl
theorem mf_22 : mayCfg ⟨16, [P0, P1, ⟨⟨1, 2⟩, [5, 6], 7, 2⟩], [⟨0, [8, 9, 10]⟩, ⟨2, [11, 12]⟩], 6, W3, [⟨2, 2, false⟩], 10, 6, 2⟩ = false := by kernel_rfl
theorem mf_23 (d : Int) (h1 : 1 ≤ d) (h2 : d ≤ 1024) : mayCfg ⟨16, [P0, P1, P2], [⟨0, [8, 9, 10]⟩, ⟨2, [11, 12]⟩], 6, W3, [⟨2, 2, false⟩], 10, 64 + d, 2⟩ = false := by
  refine may_no5 ?_
  simp [numbersRule]; omega
theorem mf_20 : mayCfg ⟨16, [P0, P1, P2], [⟨0, [8, 9, 10]⟩, ⟨2, [11, 12]⟩], 6, W3, [⟨2, 2, false⟩, ⟨2, 2, true⟩], 10, 6, 2⟩ = false := by kernel_rfl

set_option maxRecDepth 20000 in
set_option maxHeartbeats 40000000 in
theorem forms_calls (which x : Int) (w : World) : Calls Try.prog 5 #[.int .i64 which, .int .i64 x] w fun e w' => e = .returned (.bool true) ∧ Bel w w' := by
  have hp := hide plain_calls'
  have hn := hide num_calls
  have ha := hide awake_calls
  go_enter Try.func5, Try.ntmps5
  go_upto_region 3 with ((with_reducible refine (Hid.out ha _).mono ?_); rintro e w0 ⟨rfl, hb0⟩; have hb0h := hide hb0; clear hb0)
  go_upto_region 5 with ((with_reducible refine (Hid.out hp _).mono ?_); rintro e w1 ⟨rfl, hb1, hc1, hs1⟩)
  go_upto_block 0 with fail
  have hd0 := band_i64 x 1023 (by decide)
  simp only [Int.cast_ofNat_Int] at hd0
  have hd : wrap64 (1 + bits BinOp.and IntKind.i64 x 1023) = 1 + bits BinOp.and IntKind.i64 x 1023 := by unfold wrap64; omega
  rw [hd]
  clear hd
  obtain ⟨d, hd⟩ : ∃ d, d = 1 + bits BinOp.and IntKind.i64 x 1023 := ⟨_, rfl⟩
  rw [← hd]
  have hd1 : 1 ≤ d := by omega
  have hd2 : d ≤ 1024 := by omega
  clear hd hd0
  obtain ⟨m, hm, hm0, hm1⟩ : ∃ m : Int, (IntKind.u64.wrap which).tmod 25 = m ∧ 0 ≤ m ∧ m < 25 := ⟨_, rfl, Int.tmod_nonneg _ (wrap_u64_nonneg _), Int.tmod_lt_of_pos _ (by decide)⟩
  rw [hm]
  clear hm
  obtain ⟨W5, hW5⟩ : ∃ W5 : World, W5 = w1.alloc (.cells #[.int .i64 16, .slice (some ⟨w0.heap.size + 4, 0, none⟩) 3 3, .slice (some ⟨w0.heap.size + 7, 0, none⟩) 2 2, .int .i64 6, .slice (some ⟨w0.heap.size + 8, 0, none⟩) 3 3, .slice (some ⟨w0.heap.size + 9, 0, none⟩) 1 1, .int .i64 10, .int .i64 6, .int .i64 2] 27) := ⟨_, rfl⟩
  rw [← hW5]
  have B6 : Hid (BlkAt W5 w1.heap.size [.int .i64 16, .slice (some ⟨w0.heap.size + 4, 0, none⟩) 3 3, .slice (some ⟨w0.heap.size + 7, 0, none⟩) 2 2, .int .i64 6, .slice (some ⟨w0.heap.size + 8, 0, none⟩) 3 3, .slice (some ⟨w0.heap.size + 9, 0, none⟩) 1 1, .int .i64 10, .int .i64 6, .int .i64 2] 27) := by
    have h := blk_new w1 [.int .i64 16, .slice (some ⟨w0.heap.size + 4, 0, none⟩) 3 3, .slice (some ⟨w0.heap.size + 7, 0, none⟩) 2 2, .int .i64 6, .slice (some ⟨w0.heap.size + 8, 0, none⟩) 3 3, .slice (some ⟨w0.heap.size + 9, 0, none⟩) 1 1, .int .i64 10, .int .i64 6, .int .i64 2] 27
    rw [hW5]
    exact h
  have A := hide (show PlainAt W5 w0.heap.size by rw [hW5]; exact hc1.out.bel ((bel_refl _).alloc _))
  have HB := hide (show Bel w W5 by rw [hW5]; exact Bel.trans hb0h.out (Bel.trans hb1.out ((bel_refl _).alloc _)))
  have hle := hb0h.out.size
  have hle1 := hb1.out.size
  clear hW5 hb0h hb1 hc1
  go_cut [] (fun W => ∃ (c : Config) (c0 c1 c2 c3 c4 c5 c6 c7 c8 : Value), Hid (kConfig.K W c [c0, c1, c2, c3, c4, c5, c6, c7, c8]) ∧ Hid (BlkAt W w1.heap.size [c0, c1, c2, c3, c4, c5, c6, c7, c8] 27) ∧ Hid (mayCfg c = false) ∧ Hid (Bel w W))
  case first =>
    obtain ⟨n, rfl⟩ : ∃ n : Nat, m = n := ⟨m.toNat, by omega⟩
    have hn25 : n < 25 := by omega
    clear hm0 hm1 hp hn ha
    match n, hn25 with
    | 0, _ =>
      have g0 := BlkAt.cell B6.out (i := 0) (u := (.int .i64 16)) rfl
      have g1 := BlkAt.free B6.out 0
      go_wp2_with fail
      go_meet
      case rel =>
        have h := A.out.other w1.heap.size 0 (vi 12) (by omega)
        refine ⟨⟨12, [P0, P1, P2], [⟨0, [8, 9, 10]⟩, ⟨2, [11, 12]⟩], 6, W3, [⟨2, 2, false⟩], 10, 6, 2⟩, (vi 12), vs (w0.heap.size + 4) 3, vs (w0.heap.size + 7) 2, vi 6, vs (w0.heap.size + 8) 3, vs (w0.heap.size + 9) 1, vi 10, vi 6, vi 2, hide ?_, hide (BlkAt.set B6.out 0 (vi 12)), hide (mf_0), hide (HB.out.setCell (by dsimp only; omega) _)⟩
        exact ⟨_, _, _, _, rfl, h.parts, h.devices, h.windows, (h.grants ⟨2, 2, false⟩ (by decide) (by decide)), (by unfold I64; dsimp only; omega), (by unfold I64; dsimp only; omega), (by unfold I64; dsimp only; omega), (by unfold I64; dsimp only; omega), (by unfold I64; dsimp only; omega)⟩
    | 1, _ =>
      have g0 := BlkAt.cell B6.out (i := 8) (u := (.int .i64 2)) rfl
      have g1 := BlkAt.free B6.out 8
      go_wp2_with fail
      go_meet
      case rel =>
        have h := A.out.other w1.heap.size 8 (vi (8 + d)) (by omega)
        refine ⟨⟨16, [P0, P1, P2], [⟨0, [8, 9, 10]⟩, ⟨2, [11, 12]⟩], 6, W3, [⟨2, 2, false⟩], 10, 6, 8 + d⟩, vi 16, vs (w0.heap.size + 4) 3, vs (w0.heap.size + 7) 2, vi 6, vs (w0.heap.size + 8) 3, vs (w0.heap.size + 9) 1, vi 10, vi 6, (vi (8 + d)), hide ?_, hide (BlkAt.set B6.out 8 (vi (8 + d))), hide (mf_1 d hd1 hd2), hide (HB.out.setCell (by dsimp only; omega) _)⟩
        exact ⟨_, _, _, _, rfl, h.parts, h.devices, h.windows, (h.grants ⟨2, 2, false⟩ (by decide) (by decide)), (by unfold I64; dsimp only; omega), (by unfold I64; dsimp only; omega), (by unfold I64; dsimp only; omega), (by unfold I64; dsimp only; omega), (by unfold I64; dsimp only; omega)⟩
    | 2, _ =>
      have g0 := BlkAt.cell B6.out (i := 1) (u := (.slice (some ⟨w0.heap.size + 4, 0, none⟩) 3 3)) rfl
      have g1 := BlkAt.free B6.out 1
      go_wp2_with fail
      go_meet
      case rel =>
        have h := A.out.other w1.heap.size 1 (.slice none 0 0) (by omega)
        refine ⟨⟨16, [], [⟨0, [8, 9, 10]⟩, ⟨2, [11, 12]⟩], 6, W3, [⟨2, 2, false⟩], 10, 6, 2⟩, vi 16, (.slice none 0 0), vs (w0.heap.size + 7) 2, vi 6, vs (w0.heap.size + 8) 3, vs (w0.heap.size + 9) 1, vi 10, vi 6, vi 2, hide ?_, hide (BlkAt.set B6.out 1 (.slice none 0 0)), hide (mf_2), hide (HB.out.setCell (by dsimp only; omega) _)⟩
        exact ⟨_, _, _, _, rfl, (nil_sl _ _), h.devices, h.windows, (h.grants ⟨2, 2, false⟩ (by decide) (by decide)), (by unfold I64; dsimp only; omega), (by unfold I64; dsimp only; omega), (by unfold I64; dsimp only; omega), (by unfold I64; dsimp only; omega), (by unfold I64; dsimp only; omega)⟩
    | 3, _ =>
      have e0 := BlkAt.cell B6.out (i := 1) (u := (.slice (some ⟨w0.heap.size + 4, 0, none⟩) 3 3)) rfl
      have g0 := BlkAt.cell A.out.b_ps (i := 0) rfl
      have g1 := BlkAt.free A.out.b_ps 0
      go_wp2_with fail
      go_meet
      case rel =>
        have h := A.out.set_ps 0 (vi (-d))
        refine ⟨⟨16, [⟨⟨-d, 0⟩, [0, 1, 2], 0, 4⟩, P1, P2], [⟨0, [8, 9, 10]⟩, ⟨2, [11, 12]⟩], 6, W3, [⟨2, 2, false⟩], 10, 6, 2⟩, vi 16, vs (w0.heap.size + 4) 3, vs (w0.heap.size + 7) 2, vi 6, vs (w0.heap.size + 8) 3, vs (w0.heap.size + 9) 1, vi 10, vi 6, vi 2, hide ?_, hide (BlkAt.other B6.out (p := ⟨w0.heap.size + 4, 0, none⟩) (by dsimp only; omega) (vi (-d))), hide (mf_3 d hd1 hd2), hide (HB.out.setCell (by dsimp only; omega) _)⟩
        exact ⟨_, _, _, _, rfl, (parts3 ⟨⟨-d, 0⟩, [0, 1, 2], 0, 4⟩ P1 P2 (vs (w0.heap.size + 1) 3) (vs (w0.heap.size + 2) 2) (vs (w0.heap.size + 3) 2) h.b_ps (ints_of_blk [0, 1, 2] (by decide) h.b_f0 3 3 rfl (by omega) (by omega)) (ints_of_blk [3, 4] (by decide) h.b_f1 2 2 rfl (by omega) (by omega)) (ints_of_blk [5, 6] (by decide) h.b_f2 2 2 rfl (by omega) (by omega)) (by unfold PartOk I64; dsimp only; omega) (by unfold PartOk; decide) (by unfold PartOk; decide)), h.devices, h.windows, (h.grants ⟨2, 2, false⟩ (by decide) (by decide)), (by unfold I64; dsimp only; omega), (by unfold I64; dsimp only; omega), (by unfold I64; dsimp only; omega), (by unfold I64; dsimp only; omega), (by unfold I64; dsimp only; omega)⟩
    | 4, _ =>
      have e0 := BlkAt.cell B6.out (i := 1) (u := (.slice (some ⟨w0.heap.size + 4, 0, none⟩) 3 3)) rfl
      have g0 := BlkAt.cell A.out.b_ps (i := 7) rfl
      have g1 := BlkAt.free A.out.b_ps 7
      go_wp2_with fail
      go_meet
      case rel =>
        have h := A.out.set_ps 7 (.slice none 0 0)
        refine ⟨⟨16, [P0, ⟨⟨2, 0⟩, [], 4, 4⟩, P2], [⟨0, [8, 9, 10]⟩, ⟨2, [11, 12]⟩], 6, W3, [⟨2, 2, false⟩], 10, 6, 2⟩, vi 16, vs (w0.heap.size + 4) 3, vs (w0.heap.size + 7) 2, vi 6, vs (w0.heap.size + 8) 3, vs (w0.heap.size + 9) 1, vi 10, vi 6, vi 2, hide ?_, hide (BlkAt.other B6.out (p := ⟨w0.heap.size + 4, 7, none⟩) (by dsimp only; omega) (.slice none 0 0)), hide (mf_4), hide (HB.out.setCell (by dsimp only; omega) _)⟩
        exact ⟨_, _, _, _, rfl, (parts3 P0 ⟨⟨2, 0⟩, [], 4, 4⟩ P2 (vs (w0.heap.size + 1) 3) (.slice none 0 0) (vs (w0.heap.size + 3) 2) h.b_ps (ints_of_blk [0, 1, 2] (by decide) h.b_f0 3 3 rfl (by omega) (by omega)) (nil_sl _ _) (ints_of_blk [5, 6] (by decide) h.b_f2 2 2 rfl (by omega) (by omega)) (by unfold PartOk; decide) (by unfold PartOk I64; dsimp only; omega) (by unfold PartOk; decide)), h.devices, h.windows, (h.grants ⟨2, 2, false⟩ (by decide) (by decide)), (by unfold I64; dsimp only; omega), (by unfold I64; dsimp only; omega), (by unfold I64; dsimp only; omega), (by unfold I64; dsimp only; omega), (by unfold I64; dsimp only; omega)⟩
    | 5, _ =>
      have e0 := BlkAt.cell B6.out (i := 1) (u := (.slice (some ⟨w0.heap.size + 4, 0, none⟩) 3 3)) rfl
      have e1 := A.out.b_ps.cell (i := 7) (u := (.slice (some ⟨w0.heap.size + 2, 0, none⟩) 2 2)) rfl
      have g0 := BlkAt.cell A.out.b_f1 (i := 0) rfl
      have g1 := BlkAt.free A.out.b_f1 0
      go_wp2_with fail
      go_meet
      case rel =>
        have h := A.out.set_f1 0 (vi 0)
        refine ⟨⟨16, [P0, ⟨⟨2, 0⟩, [0, 4], 4, 4⟩, P2], [⟨0, [8, 9, 10]⟩, ⟨2, [11, 12]⟩], 6, W3, [⟨2, 2, false⟩], 10, 6, 2⟩, vi 16, vs (w0.heap.size + 4) 3, vs (w0.heap.size + 7) 2, vi 6, vs (w0.heap.size + 8) 3, vs (w0.heap.size + 9) 1, vi 10, vi 6, vi 2, hide ?_, hide (BlkAt.other B6.out (p := ⟨w0.heap.size + 2, 0, none⟩) (by dsimp only; omega) (vi 0)), hide (mf_5), hide (HB.out.setCell (by dsimp only; omega) _)⟩
        exact ⟨_, _, _, _, rfl, (parts3 P0 ⟨⟨2, 0⟩, [0, 4], 4, 4⟩ P2 (vs (w0.heap.size + 1) 3) (vs (w0.heap.size + 2) 2) (vs (w0.heap.size + 3) 2) h.b_ps (ints_of_blk [0, 1, 2] (by decide) h.b_f0 3 3 rfl (by omega) (by omega)) (ints_of_blk [0, 4] (by decide) h.b_f1 2 2 rfl (by omega) (by omega)) (ints_of_blk [5, 6] (by decide) h.b_f2 2 2 rfl (by omega) (by omega)) (by unfold PartOk; decide) (by unfold PartOk I64; dsimp only; omega) (by unfold PartOk; decide)), h.devices, h.windows, (h.grants ⟨2, 2, false⟩ (by decide) (by decide)), (by unfold I64; dsimp only; omega), (by unfold I64; dsimp only; omega), (by unfold I64; dsimp only; omega), (by unfold I64; dsimp only; omega), (by unfold I64; dsimp only; omega)⟩
    | 6, _ =>
      have e0 := BlkAt.cell B6.out (i := 1) (u := (.slice (some ⟨w0.heap.size + 4, 0, none⟩) 3 3)) rfl
      have e1 := A.out.b_ps.cell (i := 7) (u := (.slice (some ⟨w0.heap.size + 2, 0, none⟩) 2 2)) rfl
      have g0 := BlkAt.cell A.out.b_f1 (i := 0) rfl
      have g1 := BlkAt.free A.out.b_f1 0
      go_wp2_with fail
      go_meet
      case rel =>
        have h := A.out.set_f1 0 (vi (15 + d))
        refine ⟨⟨16, [P0, ⟨⟨2, 0⟩, [15 + d, 4], 4, 4⟩, P2], [⟨0, [8, 9, 10]⟩, ⟨2, [11, 12]⟩], 6, W3, [⟨2, 2, false⟩], 10, 6, 2⟩, vi 16, vs (w0.heap.size + 4) 3, vs (w0.heap.size + 7) 2, vi 6, vs (w0.heap.size + 8) 3, vs (w0.heap.size + 9) 1, vi 10, vi 6, vi 2, hide ?_, hide (BlkAt.other B6.out (p := ⟨w0.heap.size + 2, 0, none⟩) (by dsimp only; omega) (vi (15 + d))), hide (mf_6 d hd1 hd2), hide (HB.out.setCell (by dsimp only; omega) _)⟩
        exact ⟨_, _, _, _, rfl, (parts3 P0 ⟨⟨2, 0⟩, [15 + d, 4], 4, 4⟩ P2 (vs (w0.heap.size + 1) 3) (vs (w0.heap.size + 2) 2) (vs (w0.heap.size + 3) 2) h.b_ps (ints_of_blk [0, 1, 2] (by decide) h.b_f0 3 3 rfl (by omega) (by omega)) (ints_of_blk [15 + d, 4] (by intro y hy; simp at hy; unfold I64; omega) h.b_f1 2 2 rfl (by omega) (by omega)) (ints_of_blk [5, 6] (by decide) h.b_f2 2 2 rfl (by omega) (by omega)) (by unfold PartOk; decide) (by unfold PartOk I64; dsimp only; omega) (by unfold PartOk; decide)), h.devices, h.windows, (h.grants ⟨2, 2, false⟩ (by decide) (by decide)), (by unfold I64; dsimp only; omega), (by unfold I64; dsimp only; omega), (by unfold I64; dsimp only; omega), (by unfold I64; dsimp only; omega), (by unfold I64; dsimp only; omega)⟩
    | 7, _ =>
      have e0 := BlkAt.cell B6.out (i := 1) (u := (.slice (some ⟨w0.heap.size + 4, 0, none⟩) 3 3)) rfl
      have e1 := A.out.b_ps.cell (i := 7) (u := (.slice (some ⟨w0.heap.size + 2, 0, none⟩) 2 2)) rfl
      have g0 := BlkAt.cell A.out.b_f1 (i := 1) rfl
      have g1 := BlkAt.free A.out.b_f1 1
      go_wp2_with fail
      go_meet
      case rel =>
        have h := A.out.set_f1 1 (vi (-d))
        refine ⟨⟨16, [P0, ⟨⟨2, 0⟩, [3, -d], 4, 4⟩, P2], [⟨0, [8, 9, 10]⟩, ⟨2, [11, 12]⟩], 6, W3, [⟨2, 2, false⟩], 10, 6, 2⟩, vi 16, vs (w0.heap.size + 4) 3, vs (w0.heap.size + 7) 2, vi 6, vs (w0.heap.size + 8) 3, vs (w0.heap.size + 9) 1, vi 10, vi 6, vi 2, hide ?_, hide (BlkAt.other B6.out (p := ⟨w0.heap.size + 2, 1, none⟩) (by dsimp only; omega) (vi (-d))), hide (mf_7 d hd1 hd2), hide (HB.out.setCell (by dsimp only; omega) _)⟩
        exact ⟨_, _, _, _, rfl, (parts3 P0 ⟨⟨2, 0⟩, [3, -d], 4, 4⟩ P2 (vs (w0.heap.size + 1) 3) (vs (w0.heap.size + 2) 2) (vs (w0.heap.size + 3) 2) h.b_ps (ints_of_blk [0, 1, 2] (by decide) h.b_f0 3 3 rfl (by omega) (by omega)) (ints_of_blk [3, -d] (by intro y hy; simp at hy; unfold I64; omega) h.b_f1 2 2 rfl (by omega) (by omega)) (ints_of_blk [5, 6] (by decide) h.b_f2 2 2 rfl (by omega) (by omega)) (by unfold PartOk; decide) (by unfold PartOk I64; dsimp only; omega) (by unfold PartOk; decide)), h.devices, h.windows, (h.grants ⟨2, 2, false⟩ (by decide) (by decide)), (by unfold I64; dsimp only; omega), (by unfold I64; dsimp only; omega), (by unfold I64; dsimp only; omega), (by unfold I64; dsimp only; omega), (by unfold I64; dsimp only; omega)⟩
    | 8, _ =>
      have g0 := BlkAt.cell B6.out (i := 2) (u := (.slice (some ⟨w0.heap.size + 7, 0, none⟩) 2 2)) rfl
      have g1 := BlkAt.free B6.out 2
      go_wp2_with fail
      go_meet
      case rel =>
        have h := A.out.other w1.heap.size 2 (.slice none 0 0) (by omega)
        refine ⟨⟨16, [P0, P1, P2], [], 6, W3, [⟨2, 2, false⟩], 10, 6, 2⟩, vi 16, vs (w0.heap.size + 4) 3, (.slice none 0 0), vi 6, vs (w0.heap.size + 8) 3, vs (w0.heap.size + 9) 1, vi 10, vi 6, vi 2, hide ?_, hide (BlkAt.set B6.out 2 (.slice none 0 0)), hide (mf_8), hide (HB.out.setCell (by dsimp only; omega) _)⟩
        exact ⟨_, _, _, _, rfl, h.parts, (nil_sl _ _), h.windows, (h.grants ⟨2, 2, false⟩ (by decide) (by decide)), (by unfold I64; dsimp only; omega), (by unfold I64; dsimp only; omega), (by unfold I64; dsimp only; omega), (by unfold I64; dsimp only; omega), (by unfold I64; dsimp only; omega)⟩
    | 9, _ =>
      have e0 := BlkAt.cell B6.out (i := 2) (u := (.slice (some ⟨w0.heap.size + 7, 0, none⟩) 2 2)) rfl
      have g0 := BlkAt.cell A.out.b_ds (i := 0) rfl
      have g1 := BlkAt.free A.out.b_ds 0
      go_wp2_with fail
      go_meet
      case rel =>
        have h := A.out.set_ds 0 (vi (2 + d))
        refine ⟨⟨16, [P0, P1, P2], [⟨2 + d, [8, 9, 10]⟩, ⟨2, [11, 12]⟩], 6, W3, [⟨2, 2, false⟩], 10, 6, 2⟩, vi 16, vs (w0.heap.size + 4) 3, vs (w0.heap.size + 7) 2, vi 6, vs (w0.heap.size + 8) 3, vs (w0.heap.size + 9) 1, vi 10, vi 6, vi 2, hide ?_, hide (BlkAt.other B6.out (p := ⟨w0.heap.size + 7, 0, none⟩) (by dsimp only; omega) (vi (2 + d))), hide (mf_9 d hd1 hd2), hide (HB.out.setCell (by dsimp only; omega) _)⟩
        exact ⟨_, _, _, _, rfl, h.parts, (devices2 ⟨2 + d, [8, 9, 10]⟩ ⟨2, [11, 12]⟩ (vs (w0.heap.size + 5) 3) (vs (w0.heap.size + 6) 2) h.b_ds (ints_of_blk [8, 9, 10] (by decide) h.b_d0 3 3 rfl (by omega) (by omega)) (ints_of_blk [11, 12] (by decide) h.b_d1 2 2 rfl (by omega) (by omega)) (by unfold I64; dsimp only; omega) (by unfold I64; dsimp only; omega)), h.windows, (h.grants ⟨2, 2, false⟩ (by decide) (by decide)), (by unfold I64; dsimp only; omega), (by unfold I64; dsimp only; omega), (by unfold I64; dsimp only; omega), (by unfold I64; dsimp only; omega), (by unfold I64; dsimp only; omega)⟩
    | 10, _ =>
      have e0 := BlkAt.cell B6.out (i := 2) (u := (.slice (some ⟨w0.heap.size + 7, 0, none⟩) 2 2)) rfl
      have g0 := BlkAt.cell A.out.b_ds (i := 0) rfl
      have g1 := BlkAt.free A.out.b_ds 0
      go_wp2_with fail
      go_meet
      case rel =>
        have h := A.out.set_ds 0 (vi (-d))
        refine ⟨⟨16, [P0, P1, P2], [⟨-d, [8, 9, 10]⟩, ⟨2, [11, 12]⟩], 6, W3, [⟨2, 2, false⟩], 10, 6, 2⟩, vi 16, vs (w0.heap.size + 4) 3, vs (w0.heap.size + 7) 2, vi 6, vs (w0.heap.size + 8) 3, vs (w0.heap.size + 9) 1, vi 10, vi 6, vi 2, hide ?_, hide (BlkAt.other B6.out (p := ⟨w0.heap.size + 7, 0, none⟩) (by dsimp only; omega) (vi (-d))), hide (mf_10 d hd1 hd2), hide (HB.out.setCell (by dsimp only; omega) _)⟩
        exact ⟨_, _, _, _, rfl, h.parts, (devices2 ⟨-d, [8, 9, 10]⟩ ⟨2, [11, 12]⟩ (vs (w0.heap.size + 5) 3) (vs (w0.heap.size + 6) 2) h.b_ds (ints_of_blk [8, 9, 10] (by decide) h.b_d0 3 3 rfl (by omega) (by omega)) (ints_of_blk [11, 12] (by decide) h.b_d1 2 2 rfl (by omega) (by omega)) (by unfold I64; dsimp only; omega) (by unfold I64; dsimp only; omega)), h.windows, (h.grants ⟨2, 2, false⟩ (by decide) (by decide)), (by unfold I64; dsimp only; omega), (by unfold I64; dsimp only; omega), (by unfold I64; dsimp only; omega), (by unfold I64; dsimp only; omega), (by unfold I64; dsimp only; omega)⟩
    | 11, _ =>
      have e0 := BlkAt.cell B6.out (i := 2) (u := (.slice (some ⟨w0.heap.size + 7, 0, none⟩) 2 2)) rfl
      have g0 := fun o => BlkAt.cell (CfgAt.bel A.out ((bel_refl W5).alloc o)).b_ds (i := 1) rfl
      have g1 := fun o => BlkAt.free (CfgAt.bel A.out ((bel_refl W5).alloc o)).b_ds 1
      go_wp2_with fail
      go_meet
      case rel =>
        have hbl := (bel_refl W5).alloc (.cells #[vi 8] 3)
        have nb := blk_new W5 [vi 8] 3
        have hlt := BlkAt.lt B6.out
        have h := (A.out.bel hbl).set_ds 1 (.slice (some ⟨W5.heap.size, 0, none⟩) 1 1)
        have nb2 := BlkAt.other nb (p := ⟨w0.heap.size + 7, 1, none⟩) (by dsimp only; omega) (.slice (some ⟨W5.heap.size, 0, none⟩) 1 1)
        refine ⟨⟨16, [P0, P1, P2], [⟨0, [8]⟩, ⟨2, [11, 12]⟩], 6, W3, [⟨2, 2, false⟩], 10, 6, 2⟩, vi 16, vs (w0.heap.size + 4) 3, vs (w0.heap.size + 7) 2, vi 6, vs (w0.heap.size + 8) 3, vs (w0.heap.size + 9) 1, vi 10, vi 6, vi 2, hide ?_, hide (BlkAt.other (BlkAt.bel B6.out hbl) (p := ⟨w0.heap.size + 7, 1, none⟩) (by dsimp only; omega) _), hide (mf_11), hide ((Bel.trans HB.out hbl).setCell (by dsimp only; omega) _)⟩
        exact ⟨_, _, _, _, rfl, h.parts, (devices2 ⟨0, [8]⟩ ⟨2, [11, 12]⟩ (vs W5.heap.size 1) (vs (w0.heap.size + 6) 2) h.b_ds (ints_of_blk [8] (by decide) nb2 1 1 rfl (by omega) (by omega)) (ints_of_blk [11, 12] (by decide) h.b_d1 2 2 rfl (by omega) (by omega)) (by decide) (by decide)), h.windows, (h.grants ⟨2, 2, false⟩ (by decide) (by decide)), (by unfold I64; dsimp only; omega), (by unfold I64; dsimp only; omega), (by unfold I64; dsimp only; omega), (by unfold I64; dsimp only; omega), (by unfold I64; dsimp only; omega)⟩
    | 12, _ =>
      have e0 := BlkAt.cell B6.out (i := 2) (u := (.slice (some ⟨w0.heap.size + 7, 0, none⟩) 2 2)) rfl
      have g0 := fun o => BlkAt.cell (CfgAt.bel A.out ((bel_refl W5).alloc o)).b_ds (i := 1) rfl
      have g1 := fun o => BlkAt.free (CfgAt.bel A.out ((bel_refl W5).alloc o)).b_ds 1
      go_wp2_with fail
      go_meet
      case rel =>
        have hbl := (bel_refl W5).alloc (.cells #[vi 8, vi 9, vi 10, vi 13, vi 14, vi 15] 3)
        have nb := blk_new W5 [vi 8, vi 9, vi 10, vi 13, vi 14, vi 15] 3
        have hlt := BlkAt.lt B6.out
        have h := (A.out.bel hbl).set_ds 1 (.slice (some ⟨W5.heap.size, 0, none⟩) 6 6)
        have nb2 := BlkAt.other nb (p := ⟨w0.heap.size + 7, 1, none⟩) (by dsimp only; omega) (.slice (some ⟨W5.heap.size, 0, none⟩) 6 6)
        refine ⟨⟨16, [P0, P1, P2], [⟨0, [8, 9, 10, 13, 14, 15]⟩, ⟨2, [11, 12]⟩], 6, W3, [⟨2, 2, false⟩], 10, 6, 2⟩, vi 16, vs (w0.heap.size + 4) 3, vs (w0.heap.size + 7) 2, vi 6, vs (w0.heap.size + 8) 3, vs (w0.heap.size + 9) 1, vi 10, vi 6, vi 2, hide ?_, hide (BlkAt.other (BlkAt.bel B6.out hbl) (p := ⟨w0.heap.size + 7, 1, none⟩) (by dsimp only; omega) _), hide (mf_12), hide ((Bel.trans HB.out hbl).setCell (by dsimp only; omega) _)⟩
        exact ⟨_, _, _, _, rfl, h.parts, (devices2 ⟨0, [8, 9, 10, 13, 14, 15]⟩ ⟨2, [11, 12]⟩ (vs W5.heap.size 6) (vs (w0.heap.size + 6) 2) h.b_ds (ints_of_blk [8, 9, 10, 13, 14, 15] (by decide) nb2 6 6 rfl (by omega) (by omega)) (ints_of_blk [11, 12] (by decide) h.b_d1 2 2 rfl (by omega) (by omega)) (by decide) (by decide)), h.windows, (h.grants ⟨2, 2, false⟩ (by decide) (by decide)), (by unfold I64; dsimp only; omega), (by unfold I64; dsimp only; omega), (by unfold I64; dsimp only; omega), (by unfold I64; dsimp only; omega), (by unfold I64; dsimp only; omega)⟩
    | 13, _ =>
      have e0 := BlkAt.cell B6.out (i := 2) (u := (.slice (some ⟨w0.heap.size + 7, 0, none⟩) 2 2)) rfl
      have e1 := A.out.b_ds.cell (i := 3) (u := (.slice (some ⟨w0.heap.size + 6, 0, none⟩) 2 2)) rfl
      have g0 := BlkAt.cell A.out.b_d1 (i := 0) rfl
      have g1 := BlkAt.free A.out.b_d1 0
      go_wp2_with fail
      go_meet
      case rel =>
        have h := A.out.set_d1 0 (vi 8)
        refine ⟨⟨16, [P0, P1, P2], [⟨0, [8, 9, 10]⟩, ⟨2, [8, 12]⟩], 6, W3, [⟨2, 2, false⟩], 10, 6, 2⟩, vi 16, vs (w0.heap.size + 4) 3, vs (w0.heap.size + 7) 2, vi 6, vs (w0.heap.size + 8) 3, vs (w0.heap.size + 9) 1, vi 10, vi 6, vi 2, hide ?_, hide (BlkAt.other B6.out (p := ⟨w0.heap.size + 6, 0, none⟩) (by dsimp only; omega) (vi 8)), hide (mf_13), hide (HB.out.setCell (by dsimp only; omega) _)⟩
        exact ⟨_, _, _, _, rfl, h.parts, (devices2 ⟨0, [8, 9, 10]⟩ ⟨2, [8, 12]⟩ (vs (w0.heap.size + 5) 3) (vs (w0.heap.size + 6) 2) h.b_ds (ints_of_blk [8, 9, 10] (by decide) h.b_d0 3 3 rfl (by omega) (by omega)) (ints_of_blk [8, 12] (by decide) h.b_d1 2 2 rfl (by omega) (by omega)) (by unfold I64; dsimp only; omega) (by unfold I64; dsimp only; omega)), h.windows, (h.grants ⟨2, 2, false⟩ (by decide) (by decide)), (by unfold I64; dsimp only; omega), (by unfold I64; dsimp only; omega), (by unfold I64; dsimp only; omega), (by unfold I64; dsimp only; omega), (by unfold I64; dsimp only; omega)⟩
    | 14, _ =>
      have e0 := BlkAt.cell B6.out (i := 2) (u := (.slice (some ⟨w0.heap.size + 7, 0, none⟩) 2 2)) rfl
      have e1 := A.out.b_ds.cell (i := 3) (u := (.slice (some ⟨w0.heap.size + 6, 0, none⟩) 2 2)) rfl
      have g0 := BlkAt.cell A.out.b_d1 (i := 0) rfl
      have g1 := BlkAt.free A.out.b_d1 0
      go_wp2_with fail
      go_meet
      case rel =>
        have h := A.out.set_d1 0 (vi 5)
        refine ⟨⟨16, [P0, P1, P2], [⟨0, [8, 9, 10]⟩, ⟨2, [5, 12]⟩], 6, W3, [⟨2, 2, false⟩], 10, 6, 2⟩, vi 16, vs (w0.heap.size + 4) 3, vs (w0.heap.size + 7) 2, vi 6, vs (w0.heap.size + 8) 3, vs (w0.heap.size + 9) 1, vi 10, vi 6, vi 2, hide ?_, hide (BlkAt.other B6.out (p := ⟨w0.heap.size + 6, 0, none⟩) (by dsimp only; omega) (vi 5)), hide (mf_14), hide (HB.out.setCell (by dsimp only; omega) _)⟩
        exact ⟨_, _, _, _, rfl, h.parts, (devices2 ⟨0, [8, 9, 10]⟩ ⟨2, [5, 12]⟩ (vs (w0.heap.size + 5) 3) (vs (w0.heap.size + 6) 2) h.b_ds (ints_of_blk [8, 9, 10] (by decide) h.b_d0 3 3 rfl (by omega) (by omega)) (ints_of_blk [5, 12] (by decide) h.b_d1 2 2 rfl (by omega) (by omega)) (by unfold I64; dsimp only; omega) (by unfold I64; dsimp only; omega)), h.windows, (h.grants ⟨2, 2, false⟩ (by decide) (by decide)), (by unfold I64; dsimp only; omega), (by unfold I64; dsimp only; omega), (by unfold I64; dsimp only; omega), (by unfold I64; dsimp only; omega), (by unfold I64; dsimp only; omega)⟩
    | 15, _ =>
      have e0 := BlkAt.cell B6.out (i := 4) (u := (.slice (some ⟨w0.heap.size + 8, 0, none⟩) 3 3)) rfl
      have g0 := BlkAt.cell B6.out (i := 4) (u := (.slice (some ⟨w0.heap.size + 8, 0, none⟩) 3 3)) rfl
      have g1 := BlkAt.free B6.out 4
      go_wp2_with fail
      go_meet
      case rel =>
        have h := A.out.other w1.heap.size 4 (.slice (some ⟨w0.heap.size + 8, 0, none⟩) 2 3) (by omega)
        refine ⟨⟨16, [P0, P1, P2], [⟨0, [8, 9, 10]⟩, ⟨2, [11, 12]⟩], 6, (W3.take 2), [⟨2, 2, false⟩], 10, 6, 2⟩, vi 16, vs (w0.heap.size + 4) 3, vs (w0.heap.size + 7) 2, vi 6, (.slice (some ⟨w0.heap.size + 8, 0, none⟩) 2 3), vs (w0.heap.size + 9) 1, vi 10, vi 6, vi 2, hide ?_, hide (BlkAt.set B6.out 4 (.slice (some ⟨w0.heap.size + 8, 0, none⟩) 2 3)), hide (mf_15), hide (HB.out.setCell (by dsimp only; omega) _)⟩
        exact ⟨_, _, _, _, rfl, h.parts, h.devices, (h.windows.take 2 (by decide)), (h.grants ⟨2, 2, false⟩ (by decide) (by decide)), (by unfold I64; dsimp only; omega), (by unfold I64; dsimp only; omega), (by unfold I64; dsimp only; omega), (by unfold I64; dsimp only; omega), (by unfold I64; dsimp only; omega)⟩
    | 16, _ =>
      have g0 := BlkAt.cell B6.out (i := 3) (u := (.int .i64 6)) rfl
      have g1 := BlkAt.free B6.out 3
      go_wp2_with fail
      go_meet
      case rel =>
        have h := A.out.other w1.heap.size 3 (vi 5) (by omega)
        refine ⟨⟨16, [P0, P1, P2], [⟨0, [8, 9, 10]⟩, ⟨2, [11, 12]⟩], 5, W3, [⟨2, 2, false⟩], 10, 6, 2⟩, vi 16, vs (w0.heap.size + 4) 3, vs (w0.heap.size + 7) 2, (vi 5), vs (w0.heap.size + 8) 3, vs (w0.heap.size + 9) 1, vi 10, vi 6, vi 2, hide ?_, hide (BlkAt.set B6.out 3 (vi 5)), hide (mf_16), hide (HB.out.setCell (by dsimp only; omega) _)⟩
        exact ⟨_, _, _, _, rfl, h.parts, h.devices, h.windows, (h.grants ⟨2, 2, false⟩ (by decide) (by decide)), (by unfold I64; dsimp only; omega), (by unfold I64; dsimp only; omega), (by unfold I64; dsimp only; omega), (by unfold I64; dsimp only; omega), (by unfold I64; dsimp only; omega)⟩
    | 17, _ =>
      have e0 := BlkAt.cell B6.out (i := 5) (u := (.slice (some ⟨w0.heap.size + 9, 0, none⟩) 1 1)) rfl
      have g0 := BlkAt.cell A.out.b_gs (i := 0) rfl
      have g1 := BlkAt.free A.out.b_gs 0
      go_wp2_with fail
      go_meet
      case rel =>
        have h := A.out.set_gs 0 (vi 7)
        refine ⟨⟨16, [P0, P1, P2], [⟨0, [8, 9, 10]⟩, ⟨2, [11, 12]⟩], 6, W3, [⟨7, 2, false⟩], 10, 6, 2⟩, vi 16, vs (w0.heap.size + 4) 3, vs (w0.heap.size + 7) 2, vi 6, vs (w0.heap.size + 8) 3, vs (w0.heap.size + 9) 1, vi 10, vi 6, vi 2, hide ?_, hide (BlkAt.other B6.out (p := ⟨w0.heap.size + 9, 0, none⟩) (by dsimp only; omega) (vi 7)), hide (mf_17), hide (HB.out.setCell (by dsimp only; omega) _)⟩
        exact ⟨_, _, _, _, rfl, h.parts, h.devices, h.windows, (h.grants ⟨7, 2, false⟩ (by decide) (by decide)), (by unfold I64; dsimp only; omega), (by unfold I64; dsimp only; omega), (by unfold I64; dsimp only; omega), (by unfold I64; dsimp only; omega), (by unfold I64; dsimp only; omega)⟩
    | 18, _ =>
      have e0 := BlkAt.cell B6.out (i := 5) (u := (.slice (some ⟨w0.heap.size + 9, 0, none⟩) 1 1)) rfl
      have g0 := BlkAt.cell A.out.b_gs (i := 0) rfl
      have g1 := BlkAt.free A.out.b_gs 0
      go_wp2_with fail
      go_meet
      case rel =>
        have h := A.out.set_gs 0 (vi 8)
        refine ⟨⟨16, [P0, P1, P2], [⟨0, [8, 9, 10]⟩, ⟨2, [11, 12]⟩], 6, W3, [⟨8, 2, false⟩], 10, 6, 2⟩, vi 16, vs (w0.heap.size + 4) 3, vs (w0.heap.size + 7) 2, vi 6, vs (w0.heap.size + 8) 3, vs (w0.heap.size + 9) 1, vi 10, vi 6, vi 2, hide ?_, hide (BlkAt.other B6.out (p := ⟨w0.heap.size + 9, 0, none⟩) (by dsimp only; omega) (vi 8)), hide (mf_18), hide (HB.out.setCell (by dsimp only; omega) _)⟩
        exact ⟨_, _, _, _, rfl, h.parts, h.devices, h.windows, (h.grants ⟨8, 2, false⟩ (by decide) (by decide)), (by unfold I64; dsimp only; omega), (by unfold I64; dsimp only; omega), (by unfold I64; dsimp only; omega), (by unfold I64; dsimp only; omega), (by unfold I64; dsimp only; omega)⟩
    | 19, _ =>
      have e0 := BlkAt.cell B6.out (i := 5) (u := (.slice (some ⟨w0.heap.size + 9, 0, none⟩) 1 1)) rfl
      have g0 := BlkAt.cell A.out.b_gs (i := 1) rfl
      have g1 := BlkAt.free A.out.b_gs 1
      go_wp2_with fail
      go_meet
      case rel =>
        have h := A.out.set_gs 1 (vi (2 + d))
        refine ⟨⟨16, [P0, P1, P2], [⟨0, [8, 9, 10]⟩, ⟨2, [11, 12]⟩], 6, W3, [⟨2, 2 + d, false⟩], 10, 6, 2⟩, vi 16, vs (w0.heap.size + 4) 3, vs (w0.heap.size + 7) 2, vi 6, vs (w0.heap.size + 8) 3, vs (w0.heap.size + 9) 1, vi 10, vi 6, vi 2, hide ?_, hide (BlkAt.other B6.out (p := ⟨w0.heap.size + 9, 1, none⟩) (by dsimp only; omega) (vi (2 + d))), hide (mf_19 d hd1 hd2), hide (HB.out.setCell (by dsimp only; omega) _)⟩
        exact ⟨_, _, _, _, rfl, h.parts, h.devices, h.windows, (h.grants ⟨2, 2 + d, false⟩ (by unfold I64; dsimp only; omega) (by unfold I64; dsimp only; omega)), (by unfold I64; dsimp only; omega), (by unfold I64; dsimp only; omega), (by unfold I64; dsimp only; omega), (by unfold I64; dsimp only; omega), (by unfold I64; dsimp only; omega)⟩
    | 20, _ =>
      have e0 := BlkAt.cell B6.out (i := 5) (u := .slice (some ⟨w0.heap.size + 9, 0, none⟩) 1 1) rfl
      have HO := hide (own_of_blk (base := w.heap.size) ⟨2, 2, false⟩ (by decide) (by decide) A.out.b_gs (by omega))
      have hsz := HB.out.size
      have hg0 := BlkAt.lt B6.out
      go_wp2_with (at_builtin; refine own_append kGrant kGrant_one w.heap.size rfl _ _ 25 44 _ 24 rfl Try.underlying25 info_Grant rfl (by decide) (by decide) (.slice (some ⟨w0.heap.size + 9, 0, none⟩) 1 1) [⟨2, 2, false⟩] ⟨2, 2, true⟩ [.int .i64 2, .int .i64 2, .bool true] rfl rfl HO.out (kGrant_pure.rob (w := W5) ⟨rfl, by decide, by decide⟩ _) hsz (by decide) ?_; intro v1 w6 HO1 HB1 hg1 hat1; (obtain ⟨A1, b1, o1, k1, rfl, -⟩ := HO1.sl.form); (have B6' := hide ((hg1.block w1.heap.size hg0 (by simp [Value.ownBlock]; omega)).trans B6.out)); (have HO1 := hide HO1); (have HB1 := hide HB1); (have hg1 := hide hg1); (have hat1 := hide hat1); (have g0 := BlkAt.cell B6'.out (i := 5) rfl); (have g1 := BlkAt.free B6'.out 5))
      go_meet
      case rel =>
        have hblk : ∀ b l t, BlkAt W5 b l t → b ≠ w0.heap.size + 9 → b ≠ w1.heap.size → BlkAt (w6.setCell ⟨w1.heap.size, 5, none⟩ (.slice A1 2 k1)) b l t := fun b l t h n1 n2 =>
          BlkAt.other (p := ⟨w1.heap.size, 5, none⟩) ((hg1.out.block b h.lt (by simp [Value.ownBlock]; omega)).trans h) n2 _
        have hgr := (Kind.Own.far kGrant_pure HO1.out (grownBy_setCell w6 ⟨w1.heap.size, 5, none⟩ (.slice A1 2 k1)) (fun k hk he => by
          injection he with he
          rcases hat1.out with h | ⟨b, h, hb⟩
          · rw [h] at hk; simp [Value.ownBlock] at hk; dsimp only at he; omega
          · rw [h] at hk; injection hk with hk; dsimp only at he; omega)).sl
        refine ⟨⟨16, [P0, P1, P2], [⟨0, [8, 9, 10]⟩, ⟨2, [11, 12]⟩], 6, W3, [⟨2, 2, false⟩, ⟨2, 2, true⟩], 10, 6, 2⟩, vi 16, vs (w0.heap.size + 4) 3, vs (w0.heap.size + 7) 2, vi 6, vs (w0.heap.size + 8) 3, .slice A1 2 k1, vi 10, vi 6, vi 2, hide ?_, hide (BlkAt.set B6'.out 5 _), hide mf_20, hide ((Below.trans HB.out HB1.out).setCell (by dsimp only; omega) _)⟩
        exact ⟨_, _, _, _, rfl, parts3 P0 P1 P2 _ _ _ (hblk _ _ _ A.out.b_ps (by omega) (by omega)) (ints_of_blk [0, 1, 2] (by decide) (hblk _ _ _ A.out.b_f0 (by omega) (by omega)) 3 3 rfl (by omega) (by omega)) (ints_of_blk [3, 4] (by decide) (hblk _ _ _ A.out.b_f1 (by omega) (by omega)) 2 2 rfl (by omega) (by omega)) (ints_of_blk [5, 6] (by decide) (hblk _ _ _ A.out.b_f2 (by omega) (by omega)) 2 2 rfl (by omega) (by omega)) (by unfold PartOk; decide) (by unfold PartOk; decide) (by unfold PartOk; decide),
            devices2 ⟨0, [8, 9, 10]⟩ ⟨2, [11, 12]⟩ _ _ (hblk _ _ _ A.out.b_ds (by omega) (by omega)) (ints_of_blk [8, 9, 10] (by decide) (hblk _ _ _ A.out.b_d0 (by omega) (by omega)) 3 3 rfl (by omega) (by omega)) (ints_of_blk [11, 12] (by decide) (hblk _ _ _ A.out.b_d1 (by omega) (by omega)) 2 2 rfl (by omega) (by omega)) (by decide) (by decide),
            windows3 ⟨0, 0, 2, 1⟩ ⟨1, 2, 2, 2⟩ ⟨2, 4, 2, 5⟩ (hblk _ _ _ A.out.b_ws (by omega) (by omega)) (by decide) (by decide) (by decide), hgr, by decide, by decide, by decide, by decide, by decide⟩
    | 21, _ =>
      have g0 := BlkAt.cell B6.out (i := 6) (u := (.int .i64 10)) rfl
      have g1 := BlkAt.free B6.out 6
      go_wp2_with fail
      go_meet
      case rel =>
        have h := A.out.other w1.heap.size 6 (vi 9) (by omega)
        refine ⟨⟨16, [P0, P1, P2], [⟨0, [8, 9, 10]⟩, ⟨2, [11, 12]⟩], 6, W3, [⟨2, 2, false⟩], 9, 6, 2⟩, vi 16, vs (w0.heap.size + 4) 3, vs (w0.heap.size + 7) 2, vi 6, vs (w0.heap.size + 8) 3, vs (w0.heap.size + 9) 1, (vi 9), vi 6, vi 2, hide ?_, hide (BlkAt.set B6.out 6 (vi 9)), hide (mf_21), hide (HB.out.setCell (by dsimp only; omega) _)⟩
        exact ⟨_, _, _, _, rfl, h.parts, h.devices, h.windows, (h.grants ⟨2, 2, false⟩ (by decide) (by decide)), (by unfold I64; dsimp only; omega), (by unfold I64; dsimp only; omega), (by unfold I64; dsimp only; omega), (by unfold I64; dsimp only; omega), (by unfold I64; dsimp only; omega)⟩
    | 22, _ =>
      have e0 := BlkAt.cell B6.out (i := 1) (u := (.slice (some ⟨w0.heap.size + 4, 0, none⟩) 3 3)) rfl
      have g0 := BlkAt.cell A.out.b_ps (i := 13) rfl
      have g1 := BlkAt.free A.out.b_ps 13
      go_wp2_with fail
      go_meet
      case rel =>
        have h := A.out.set_ps 13 (vi 7)
        refine ⟨⟨16, [P0, P1, ⟨⟨1, 2⟩, [5, 6], 7, 2⟩], [⟨0, [8, 9, 10]⟩, ⟨2, [11, 12]⟩], 6, W3, [⟨2, 2, false⟩], 10, 6, 2⟩, vi 16, vs (w0.heap.size + 4) 3, vs (w0.heap.size + 7) 2, vi 6, vs (w0.heap.size + 8) 3, vs (w0.heap.size + 9) 1, vi 10, vi 6, vi 2, hide ?_, hide (BlkAt.other B6.out (p := ⟨w0.heap.size + 4, 13, none⟩) (by dsimp only; omega) (vi 7)), hide (mf_22), hide (HB.out.setCell (by dsimp only; omega) _)⟩
        exact ⟨_, _, _, _, rfl, (parts3 P0 P1 ⟨⟨1, 2⟩, [5, 6], 7, 2⟩ (vs (w0.heap.size + 1) 3) (vs (w0.heap.size + 2) 2) (vs (w0.heap.size + 3) 2) h.b_ps (ints_of_blk [0, 1, 2] (by decide) h.b_f0 3 3 rfl (by omega) (by omega)) (ints_of_blk [3, 4] (by decide) h.b_f1 2 2 rfl (by omega) (by omega)) (ints_of_blk [5, 6] (by decide) h.b_f2 2 2 rfl (by omega) (by omega)) (by unfold PartOk; decide) (by unfold PartOk; decide) (by unfold PartOk I64; dsimp only; omega)), h.devices, h.windows, (h.grants ⟨2, 2, false⟩ (by decide) (by decide)), (by unfold I64; dsimp only; omega), (by unfold I64; dsimp only; omega), (by unfold I64; dsimp only; omega), (by unfold I64; dsimp only; omega), (by unfold I64; dsimp only; omega)⟩
    | 23, _ =>
      have g0 := BlkAt.cell B6.out (i := 7) (u := (.int .i64 6)) rfl
      have g1 := BlkAt.free B6.out 7
      go_wp2_with fail
      go_meet
      case rel =>
        have h := A.out.other w1.heap.size 7 (vi (64 + d)) (by omega)
        refine ⟨⟨16, [P0, P1, P2], [⟨0, [8, 9, 10]⟩, ⟨2, [11, 12]⟩], 6, W3, [⟨2, 2, false⟩], 10, 64 + d, 2⟩, vi 16, vs (w0.heap.size + 4) 3, vs (w0.heap.size + 7) 2, vi 6, vs (w0.heap.size + 8) 3, vs (w0.heap.size + 9) 1, vi 10, (vi (64 + d)), vi 2, hide ?_, hide (BlkAt.set B6.out 7 (vi (64 + d))), hide (mf_23 d hd1 hd2), hide (HB.out.setCell (by dsimp only; omega) _)⟩
        exact ⟨_, _, _, _, rfl, h.parts, h.devices, h.windows, (h.grants ⟨2, 2, false⟩ (by decide) (by decide)), (by unfold I64; dsimp only; omega), (by unfold I64; dsimp only; omega), (by unfold I64; dsimp only; omega), (by unfold I64; dsimp only; omega), (by unfold I64; dsimp only; omega)⟩
    | 24, _ =>
      have g0 := BlkAt.cell B6.out (i := 8) (u := (.int .i64 2)) rfl
      have g1 := BlkAt.free B6.out 8
      go_wp2_with fail
      go_meet
      case rel =>
        have h := A.out.other w1.heap.size 8 (vi (8 + d)) (by omega)
        refine ⟨⟨16, [P0, P1, P2], [⟨0, [8, 9, 10]⟩, ⟨2, [11, 12]⟩], 6, W3, [⟨2, 2, false⟩], 10, 6, 8 + d⟩, vi 16, vs (w0.heap.size + 4) 3, vs (w0.heap.size + 7) 2, vi 6, vs (w0.heap.size + 8) 3, vs (w0.heap.size + 9) 1, vi 10, vi 6, (vi (8 + d)), hide ?_, hide (BlkAt.set B6.out 8 (vi (8 + d))), hide (mf_1 d hd1 hd2), hide (HB.out.setCell (by dsimp only; omega) _)⟩
        exact ⟨_, _, _, _, rfl, h.parts, h.devices, h.windows, (h.grants ⟨2, 2, false⟩ (by decide) (by decide)), (by unfold I64; dsimp only; omega), (by unfold I64; dsimp only; omega), (by unfold I64; dsimp only; omega), (by unfold I64; dsimp only; omega), (by unfold I64; dsimp only; omega)⟩
    | n + 25, h => exact absurd h (by omega)
  case rest =>
    obtain ⟨c, c0, c1, c2, c3, c4, c5, c6, c7, c8, HK, HB7, HM, HW⟩ := hcut
    clear B6 A HB hm0 hm1 hd1 hd2
    have b1 := hide fun W (hW : Bel wc W) => show W.cell? ⟨w1.heap.size, 0, none⟩ = some c0 ∧ W.cell? ⟨w1.heap.size, 1, none⟩ = some c1 ∧ W.cell? ⟨w1.heap.size, 2, none⟩ = some c2 ∧ W.cell? ⟨w1.heap.size, 3, none⟩ = some c3 ∧ W.cell? ⟨w1.heap.size, 4, none⟩ = some c4 ∧ W.cell? ⟨w1.heap.size, 5, none⟩ = some c5 ∧ W.cell? ⟨w1.heap.size, 6, none⟩ = some c6 ∧ W.cell? ⟨w1.heap.size, 7, none⟩ = some c7 ∧ W.cell? ⟨w1.heap.size, 8, none⟩ = some c8 from
      ⟨BlkAt.cell (BlkAt.bel HB7.out hW) (i := 0) rfl, BlkAt.cell (BlkAt.bel HB7.out hW) (i := 1) rfl, BlkAt.cell (BlkAt.bel HB7.out hW) (i := 2) rfl, BlkAt.cell (BlkAt.bel HB7.out hW) (i := 3) rfl, BlkAt.cell (BlkAt.bel HB7.out hW) (i := 4) rfl, BlkAt.cell (BlkAt.bel HB7.out hW) (i := 5) rfl, BlkAt.cell (BlkAt.bel HB7.out hW) (i := 6) rfl, BlkAt.cell (BlkAt.bel HB7.out hW) (i := 7) rfl, BlkAt.cell (BlkAt.bel HB7.out hW) (i := 8) rfl⟩
    have m1 := hide fun W (hW : Bel wc W) => may_calls W (.agg #[c0, c1, c2, c3, c4, c5, c6, c7, c8]) c ⟨_, rfl, kConfig.bel hW HK.out⟩
    have m2 := hide fun W (hW : Bel wc W) => reads_calls W (.agg #[c0, c1, c2, c3, c4, c5, c6, c7, c8]) c 0 0 1 ⟨_, rfl, kConfig.bel hW HK.out⟩ (by decide) (by decide)
    have m3 := hide fun W (hW : Bel wc W) => writes_calls W (.agg #[c0, c1, c2, c3, c4, c5, c6, c7, c8]) c 0 0 1 ⟨_, rfl, kConfig.bel hW HK.out⟩ (by decide) (by decide)
    have m4 := hide fun W N (hW : PlainAt W N) => may_calls W (.agg #[.int .i64 16, .slice (some ⟨N + 4, 0, none⟩) 3 3, .slice (some ⟨N + 7, 0, none⟩) 2 2, .int .i64 6, .slice (some ⟨N + 8, 0, none⟩) 3 3, .slice (some ⟨N + 9, 0, none⟩) 1 1, .int .i64 10, .int .i64 6, .int .i64 2]) plainCfg (PlainAt.k hW)
    simp only [HM.out, allowed, Bool.false_and] at m1 m2 m3
    simp only [may_plain] at m4
    clear HK HB7 HM ha
    have k0 := b1.out wc (bel_refl _)
    go_wp2_with (first
      | ((with_reducible refine (Hid.out m1 _ (bel_refl wc)).mono ?_); rintro e v1 ⟨rfl, i1⟩; have h1 := hide i1; clear i1; have k1 := b1.out _ h1.out)
      | ((with_reducible refine (Hid.out m2 _ h1.out).mono ?_); rintro e v2 ⟨rfl, i2⟩; have h2 := hide (Bel.trans h1.out i2); clear i2; have k2 := b1.out _ h2.out)
      | ((with_reducible refine (Hid.out m3 _ h2.out).mono ?_); rintro e v3 ⟨rfl, i3⟩; have h3 := hide (Bel.trans h2.out i3); clear i3)
      | ((with_reducible refine (Hid.out hp _).mono ?_); rintro e v4 ⟨rfl, h4, c4, -⟩)
      | ((with_reducible refine (Hid.out m4 _ _ c4.out).mono ?_); rintro e v5 ⟨rfl, i5⟩; have h5 := hide i5; clear i5)
      | ((with_reducible refine (Hid.out hn _ _).mono ?_); rintro e v9 ⟨rfl, rfl⟩))
    go_ret
    exact ⟨rfl, Bel.trans (Bel.trans HW.out h3.out) (Bel.trans h4.out h5.out)⟩
end Go.Proofs.Ythjhkbnajclcjaa
