/- caissonlaw0.CopyParts, CopyConfig: what they give reads alike, and lies in new memory. -/
import Derived.Test.YthjhkbnajclcjaaSeg
import Derived.Test.YthjhkbnajclcjaaROwn
import Derived.Test.YthjhkbnajclcjaaOpenF
import Derived.Test.YthjhkbnajclcjaaPlain
set_option linter.unusedSimpArgs false
namespace Go.Proofs.Ythjhkbnajclcjaa
open Go.RowKit

theorem bel_set_new {w W : World} (h : Bel w W) {b : Nat} (hb : w.heap.size ≤ b) (i : Nat) (v : Value) : Bel w (W.setCell ⟨b, i, none⟩ v) := h.setCell hb v
set_option maxRecDepth 20000 in
set_option maxHeartbeats 8000000 in
theorem copyParts_calls (w : World) (v : Value) (ps : List Part) (hv : kPart.Sl w v ps) (hF : Fits 56 FitPart ps) :
    Calls Try.prog 59 #[v] w fun e w' => ∃ v', e = .returned v' ∧ kPart.Seg w.heap.size w' v' ps ∧ Bel w w' := by
  obtain ⟨A, b, o, c, rfl, hc1, hc2, hA, hrows⟩ := hv.form
  have HR := hide (hrows w hv)
  clear hrows hv
  have HF := hide hF
  clear hF
  go_enter Try.func59, Try.ntmps59
  go_wp2_with fail
  go_loopw [3, 4] (fun t3 t4 W => ∃ k : Nat, k ≤ ps.length ∧ t4 = .int .i64 k ∧ Hid (kPart.OwnS 40 w.heap.size W t3 (ps.take k)) ∧ Hid (Bel w W)) (fun _ t _ => ps.length - (intOf t).toNat)
  case atStart => exact ⟨0, Nat.zero_le _, rfl, hide (Kind.OwnS.nil _ _ _ _), hide (bel_refl w)⟩
  case round =>
    obtain ⟨k, hk, rfl, HO, HB⟩ := hrel
    by_cases hlt : k < ps.length
    · obtain ⟨c0, c1, c2, c3, c4, hK, y0, y1, y2, y3, y4⟩ := (HR.out.bel HB.out).get5 rfl hlt
      have hfit := HF.out.2 _ (List.getElem_mem hlt)
      have HT := hide (show ps.take (k + 1) = ps.take k ++ [ps[k]] from List.take_succ_eq_append_getElem hlt)
      obtain ⟨vf, hcs, hf, i0, i1, i3, i4⟩ := hK
      simp only [List.cons.injEq, and_true] at hcs
      obtain ⟨rfl, rfl, rfl, rfl, rfl⟩ := hcs
      generalize ps[k] = x at y0 y1 y2 y3 y4 hf hfit HT i0 i1 i3 i4
      obtain ⟨Af, bf, off, cf, rfl, hf1', hf2', -, -⟩ := hf.form
      have Hf := hide fun W (hW : Bel wr W) => hf.bel hW
      have Hi := hide (And.intro i0 (And.intro i1 (And.intro i3 i4)))
      have hfl : x.frames.length * 8 ≤ 140737488351232 := hfit.1
      have hkl : ps.length * 56 ≤ 140737488351232 := HF.out.1
      have hsz := hide HB.out.size
      clear hf hfit i0 i1 i3 i4
      obtain rfl := hA (by omega)
      have HBw := hide (bel_refl wr)
      go_wp2_with (at_builtin; first
        | (refine own_append_slice kInt kInt_one kInt_pure (wr.heap.size + 1) rfl _ _ 38 3 _ 8 rfl Try.underlying38 info_int rfl (by decide) (by decide) (.slice (some ⟨wr.heap.size + 1, 0, none⟩) 0 0) (.slice Af x.frames.length cf) [] x.frames rfl rfl (by have h := own_empty kInt 3 (wr.heap.size + 1) (wr.alloc (.cells #[.int .i64 x.label.level, .int .i64 x.label.cats, .slice Af x.frames.length cf, .int .i64 x.first, .int .i64 x.count] 40)) (by simp); simpa using h) (Hf.out _ (((bel_refl wr).alloc _).alloc _)) (by simp) (by simp; omega) ?_
           intro v1 w1 HO1 HB1 hg1 hat1
           clear hg1 hat1
           rw [List.nil_append] at HO1
           obtain ⟨Av, bv, ov, cv, rfl, -⟩ := HO1.sl.form
           have e0 : w1.cell? ⟨wr.heap.size, 0, none⟩ = some (.int .i64 x.label.level) := (Below.cell HB1 (p := ⟨wr.heap.size, 0, none⟩) (by simp)).trans (by go_simp)
           have e1 : w1.cell? ⟨wr.heap.size, 1, none⟩ = some (.int .i64 x.label.cats) := (Below.cell HB1 (p := ⟨wr.heap.size, 1, none⟩) (by simp)).trans (by go_simp)
           have e2 : w1.cell? ⟨wr.heap.size, 2, none⟩ = some (.slice Af x.frames.length cf) := (Below.cell HB1 (p := ⟨wr.heap.size, 2, none⟩) (by simp)).trans (by go_simp)
           have e3 : w1.cell? ⟨wr.heap.size, 3, none⟩ = some (.int .i64 x.first) := (Below.cell HB1 (p := ⟨wr.heap.size, 3, none⟩) (by simp)).trans (by go_simp)
           have e4 : w1.cell? ⟨wr.heap.size, 4, none⟩ = some (.int .i64 x.count) := (Below.cell HB1 (p := ⟨wr.heap.size, 4, none⟩) (by simp)).trans (by go_simp)
           have ef : w1.frozen? ⟨wr.heap.size, 2, none⟩ = false := (Below.frozen HB1 (p := ⟨wr.heap.size, 2, none⟩) (by simp)).trans (by go_simp)
           have HBx := hide (show Bel wr (w1.setCell ⟨wr.heap.size, 2, none⟩ (.slice Av x.frames.length cv)) from (Below.trans (((bel_refl wr).alloc _).alloc _) (HB1.mono (Nat.le_succ _))).setCell (Nat.le_refl _) _)
           have HSg := hide (show kInt.Seg (wr.heap.size + 1) (w1.setCell ⟨wr.heap.size, 2, none⟩ (.slice Av x.frames.length cv)) (.slice Av x.frames.length cv) x.frames from ((HO1.s kInt_pure).seg).mono (by simp) (fun k h1 _ => Below.heap_setCell w1 _ _ k (by dsimp only; omega)))
           clear HO1 HB1)
        | (refine own_appendS kPart kPart_one w.heap.size rfl _ _ 22 40 _ 56 rfl Try.underlying22 info_Part rfl (by decide) (by decide) u3 (ps.take k) x [.int .i64 x.label.level, .int .i64 x.label.cats, .slice Av x.frames.length cv, .int .i64 x.first, .int .i64 x.count] (by rfl) (by rw [show (w1.setCell ⟨wr.heap.size, 2, none⟩ (.slice Av x.frames.length cv)).heap.size = w1.heap.size by simp]; rfl) (HO.out.bel HBx.out) (part_robS (lo := wr.heap.size + 1) x HSg.out (Nat.le_succ_of_le hsz.out) (fun q hq => .inl (Nat.lt_succ_of_lt (HO.out.block q hq).2)) Hi.out.1 Hi.out.2.1 Hi.out.2.2.1 Hi.out.2.2.2) (Nat.le_trans hsz.out HBx.out.size) (by rw [List.length_take]; omega) ?_
           intro v2 w2 HO2 HB2 hg2 hat2
           clear hg2 hat2))
      exact ⟨⟨k + 1, by omega, by go_num, hide (by rw [HT.out]; exact HO2), hide (Below.trans (Bel.trans HB.out HBx.out) HB2)⟩, by simp [intOf]; omega⟩
    · obtain rfl : k = ps.length := by omega
      rw [List.take_length] at HO
      go_wp2_with fail
      go_ret
      exact ⟨_, rfl, HO.out.seg, HB.out⟩

/-- The state of CopyConfig: its own config in block B, the result in block B + 1. -/
structure CopyInv (w V2 : World) (c : Config) (base : Nat) (vp vd A3 A4 : Value) (k : Nat) (W : World) : Prop where
  bel : Bel w W
  box : BlkAt W w.heap.size [.int .i64 c.frames, vp, vd, .int .i64 c.major, A3, A4, .int .i64 c.sectors, .int .i64 c.quota, .int .i64 c.quiet] 27
  out : BlkAt W (w.heap.size + 1) [.int .i64 0, .slice none 0 0, .slice none 0 0, .int .i64 0, .slice none 0 0, .slice none 0 0, .int .i64 0, .int .i64 0, .int .i64 0] 27
  fr : ∀ q, w.heap.size + 2 ≤ q → q < base → W.heap[q]? = V2.heap[q]?
  devs : kDevice.OwnS 42 base W vd (c.devices.take k)
theorem Below.blk {base b : Nat} {W W' : World} {l : List Value} {t : TypeId} (h : Below base W W') (hb : BlkAt W b l t) (hlt : b < base) : BlkAt W' b l t := (h.block b hlt).trans hb

set_option maxRecDepth 20000 in
set_option maxHeartbeats 16000000 in
theorem copyConfig_calls (w : World) (v : Value) (c : Config) (h : CfgV w v c) (hF : FitCfg c) :
    Calls Try.prog 21 #[v] w fun e w' => ∃ v', e = .returned v' ∧ CfgV w' v' c ∧ Bel w w' := by
  obtain ⟨A1, A2, A3, A4, b1, o1, n1, b2, o2, n2, b3, o3, n3, b4, o4, n4, rfl, HC, HR1, HR2, HR3, HR4, HS1, HS2, HS3, HS4, hA1, hA2, hA3, hA4, hL1, hL2, hL3, hL4⟩ := h.parts4
  have HI64 := hide (show I64 c.frames ∧ I64 c.major ∧ I64 c.sectors ∧ I64 c.quota ∧ I64 c.quiet by
    obtain ⟨cs, -, vp, vd, vw, vg, -, -, -, -, -, hr⟩ := HC.out
    exact hr)
  have hcp := hide fun W (hW : Bel w W) => copyParts_calls W _ c.parts (HS1.out.bel hW) hF.parts
  have HFd := hide hF.devices
  have hF3 : c.windows.length * 32 ≤ 140737488351232 := hF.windows.1
  have hF4 : c.grants.length * 24 ≤ 140737488351232 := hF.grants.1
  clear h hF HC HR1 HR3 HR4 HS1 HS2 hA1 hA3 hA4 hL1 hL3 hL4
  go_enter Try.func21, Try.ntmps21
  go_upto_region 1 with fail
  obtain ⟨W1, hW1⟩ : ∃ W1 : World, W1 = (w.alloc (.cells #[.int .i64 c.frames, .slice A1 c.parts.length n1, .slice A2 c.devices.length n2, .int .i64 c.major, .slice A3 c.windows.length n3, .slice A4 c.grants.length n4, .int .i64 c.sectors, .int .i64 c.quota, .int .i64 c.quiet] 27)).alloc (.cells #[.int .i64 0, .slice none 0 0, .slice none 0 0, .int .i64 0, .slice none 0 0, .slice none 0 0, .int .i64 0, .int .i64 0, .int .i64 0] 27) := ⟨_, rfl⟩
  rw [← hW1]
  have hsz1 : W1.heap.size = w.heap.size + 2 := by rw [hW1]; simp
  have HB1 := hide (show Bel w W1 by rw [hW1]; exact ((bel_refl w).alloc _).alloc _)
  have HK1 := hide (show BlkAt W1 w.heap.size [.int .i64 c.frames, .slice A1 c.parts.length n1, .slice A2 c.devices.length n2, .int .i64 c.major, .slice A3 c.windows.length n3, .slice A4 c.grants.length n4, .int .i64 c.sectors, .int .i64 c.quota, .int .i64 c.quiet] 27 by
    rw [hW1]; exact (blk_new w [.int .i64 c.frames, .slice A1 c.parts.length n1, .slice A2 c.devices.length n2, .int .i64 c.major, .slice A3 c.windows.length n3, .slice A4 c.grants.length n4, .int .i64 c.sectors, .int .i64 c.quota, .int .i64 c.quiet] 27).bel ((bel_refl _).alloc _))
  have HK2 := hide (show BlkAt W1 (w.heap.size + 1) [.int .i64 0, .slice none 0 0, .slice none 0 0, .int .i64 0, .slice none 0 0, .slice none 0 0, .int .i64 0, .int .i64 0, .int .i64 0] 27 by
    rw [hW1]; have h := blk_new (w.alloc (.cells #[.int .i64 c.frames, .slice A1 c.parts.length n1, .slice A2 c.devices.length n2, .int .i64 c.major, .slice A3 c.windows.length n3, .slice A4 c.grants.length n4, .int .i64 c.sectors, .int .i64 c.quota, .int .i64 c.quiet] 27)) [.int .i64 0, .slice none 0 0, .slice none 0 0, .int .i64 0, .slice none 0 0, .slice none 0 0, .int .i64 0, .int .i64 0, .int .i64 0] 27; rw [size_alloc] at h; exact h)
  clear hW1
  have k1 := HK1.out.cell (i := 1) rfl
  go_upto_region 2 with ((with_reducible refine (Hid.out hcp _ HB1.out).mono ?_); rintro e V1 ⟨vp, rfl, hs1, hi1⟩; have HS1 := hide hs1; have Hi1 := hide hi1; obtain ⟨Ap, bp, op, cp, rfl, -⟩ := hs1.sl.form; clear hs1 hi1; have q1 := (HK1.out.bel Hi1.out).cell (i := 1) rfl; have q2 := (HK1.out.bel Hi1.out).free 1)
  clear k1 hcp q1 q2
  obtain ⟨V2, hV2⟩ : ∃ V2 : World, V2 = V1.setCell ⟨w.heap.size, 1, none⟩ (.slice Ap c.parts.length cp) := ⟨_, rfl⟩
  rw [← hV2]
  have hszV : V1.heap.size ≤ V2.heap.size := by rw [hV2]; simp
  have hszW : w.heap.size + 2 ≤ V1.heap.size := by have := Hi1.out.size; omega
  have HB2 := hide (show Bel w V2 by rw [hV2]; exact bel_set_new (Bel.trans HB1.out Hi1.out) (Nat.le_refl _) _ _)
  have HK1 : Hid (BlkAt V2 w.heap.size [.int .i64 c.frames, .slice Ap c.parts.length cp, .slice A2 c.devices.length n2, .int .i64 c.major, .slice A3 c.windows.length n3, .slice A4 c.grants.length n4, .int .i64 c.sectors, .int .i64 c.quota, .int .i64 c.quiet] 27) := by
    rw [hV2]; exact (HK1.out.bel Hi1.out).set 1 _
  have HK2 : Hid (BlkAt V2 (w.heap.size + 1) [.int .i64 0, .slice none 0 0, .slice none 0 0, .int .i64 0, .slice none 0 0, .slice none 0 0, .int .i64 0, .int .i64 0, .int .i64 0] 27) := by
    rw [hV2]; exact (HK2.out.bel Hi1.out).other (by dsimp only; omega) _
  have HS1 := hide (show kPart.Seg (w.heap.size + 2) V2 (.slice Ap c.parts.length cp) c.parts by
    rw [hV2]; rw [hsz1] at HS1; exact HS1.out.mono (by simp) (fun k hk _ => Below.heap_setCell V1 _ _ k (by dsimp only; omega)))
  have HS3 := hide fun W (hW : Bel w W) => HS3.out.bel hW
  have HS4 := hide fun W (hW : Bel w W) => HS4.out.bel hW
  clear hV2 Hi1 HB1
  have q2 := HK1.out.cell (i := 2) rfl
  have q3 := HK1.out.free 2
  go_upto_region 4 with fail
  clear q2 q3
  obtain ⟨V3, hV3⟩ : ∃ V3 : World, V3 = V2.setCell ⟨w.heap.size, 2, none⟩ (.slice none 0 0) := ⟨_, rfl⟩
  rw [← hV3]
  have HI0 := hide (show CopyInv w V2 c V2.heap.size (.slice Ap c.parts.length cp) (.slice none 0 0) (.slice A3 c.windows.length n3) (.slice A4 c.grants.length n4) 0 V3 by
    rw [hV3]
    exact ⟨bel_set_new HB2.out (Nat.le_refl _) _ _, HK1.out.set 2 _, HK2.out.other (by dsimp only; omega) _, fun k hk _ => Below.heap_setCell V2 _ _ k (by dsimp only; omega), Kind.OwnS.nil _ _ _ _⟩)
  have hbase : w.heap.size + 2 ≤ V2.heap.size := by omega
  have hsz3 : V2.heap.size ≤ V3.heap.size := by rw [hV3]; simp
  clear hV3 HK1 HK2 HB2 hszV hszW
  have HSP := hide (show ∀ W : World, (∀ q, w.heap.size + 2 ≤ q → q < V2.heap.size → W.heap[q]? = V2.heap[q]?) → kPart.Sl W (.slice Ap c.parts.length cp) c.parts from HS1.out)
  clear HS1
  generalize V2.heap.size = base at HI0 hbase hsz3 HSP
  go_wp2_with fail
  go_loopw [4] (fun t4 W => ∃ (k : Nat) (vd : Value), k ≤ c.devices.length ∧ t4 = .int .i64 k ∧ base ≤ W.heap.size ∧ Hid (CopyInv w V2 c base (.slice Ap c.parts.length cp) vd (.slice A3 c.windows.length n3) (.slice A4 c.grants.length n4) k W)) (fun t _ => c.devices.length - (intOf t).toNat)
  case atStart => exact ⟨0, _, Nat.zero_le _, rfl, hsz3, HI0⟩
  case round =>
    obtain ⟨k, vd, hk, rfl, hbw, HI⟩ := hrel
    by_cases hlt : k < c.devices.length
    · obtain ⟨c0, c1, hK, y0, y1⟩ := (HR2.out.bel HI.out.bel).get2 rfl hlt
      have hfit := HFd.out.2 _ (List.getElem_mem hlt)
      have HT := hide (show c.devices.take (k + 1) = c.devices.take k ++ [c.devices[k]] from List.take_succ_eq_append_getElem hlt)
      obtain ⟨vf, hcs, hf, i0⟩ := hK
      simp only [List.cons.injEq, and_true] at hcs
      obtain ⟨rfl, rfl⟩ := hcs
      generalize c.devices[k] = x at y0 y1 hf hfit HT i0
      obtain ⟨Af, bf, off, cf, rfl, hf1', hf2', -, -⟩ := hf.form
      have Hf := hide fun W (hW : Bel wr W) => hf.bel hW
      have Hi := hide i0
      have hfl : x.pool.length * 8 ≤ 140737488351232 := hfit.1
      have hkl : c.devices.length * 32 ≤ 140737488351232 := HFd.out.1
      have hwlt : w.heap.size + 1 < wr.heap.size := HI.out.out.lt
      clear hf hfit i0
      obtain rfl := hA2 (by omega)
      have HO := hide HI.out.devs
      obtain ⟨Ad, bd, od, cd, hvd, -⟩ := HO.out.seg.sl.form
      have hlen : (c.devices.take k).length ≤ k := by rw [List.length_take]; omega
      generalize (c.devices.take k).length = nd at hvd hlen
      subst hvd
      go_wp2_with (at_builtin; first
        | (refine own_append_slice kInt kInt_one kInt_pure (wr.heap.size + 1) rfl _ _ 38 3 _ 8 rfl Try.underlying38 info_int rfl (by decide) (by decide) (.slice (some ⟨wr.heap.size + 1, 0, none⟩) 0 0) (.slice Af x.pool.length cf) [] x.pool rfl rfl (by have h := own_empty kInt 3 (wr.heap.size + 1) (wr.alloc (.cells #[.int .i64 x.part, .slice Af x.pool.length cf] 42)) (by simp); simpa using h) (Hf.out _ (((bel_refl wr).alloc _).alloc _)) (by simp) (by simp; omega) ?_
           intro v1 w1 HO1 HB1 hg1 hat1
           clear hg1 hat1
           rw [List.nil_append] at HO1
           obtain ⟨Av, bv, ov, cv, rfl, -⟩ := HO1.sl.form
           have e0 : w1.cell? ⟨wr.heap.size, 0, none⟩ = some (.int .i64 x.part) := (Below.cell HB1 (p := ⟨wr.heap.size, 0, none⟩) (by simp)).trans (by go_simp)
           have e1 : w1.cell? ⟨wr.heap.size, 1, none⟩ = some (.slice Af x.pool.length cf) := (Below.cell HB1 (p := ⟨wr.heap.size, 1, none⟩) (by simp)).trans (by go_simp)
           have ef : w1.frozen? ⟨wr.heap.size, 1, none⟩ = false := (Below.frozen HB1 (p := ⟨wr.heap.size, 1, none⟩) (by simp)).trans (by go_simp)
           have HBx := hide (show Bel wr (w1.setCell ⟨wr.heap.size, 1, none⟩ (.slice Av x.pool.length cv)) from (Below.trans (((bel_refl wr).alloc _).alloc _) (HB1.mono (Nat.le_succ _))).setCell (Nat.le_refl _) _)
           have HSg := hide (show kInt.Seg (wr.heap.size + 1) (w1.setCell ⟨wr.heap.size, 1, none⟩ (.slice Av x.pool.length cv)) (.slice Av x.pool.length cv) x.pool from ((HO1.s kInt_pure).seg).mono (by simp) (fun k h1 _ => Below.heap_setCell w1 _ _ k (by dsimp only; omega)))
           have e2 := (HI.out.box.bel HBx.out).cell (i := 2) rfl
           clear HO1 HB1)
        | (refine own_appendS kDevice kDevice_one base rfl _ _ 23 42 _ 32 rfl Try.underlying23 info_Device rfl (by decide) (by decide) (.slice Ad nd cd) (c.devices.take k) x [.int .i64 x.part, .slice Av x.pool.length cv] (by rfl) (by rw [show (w1.setCell ⟨wr.heap.size, 1, none⟩ (.slice Av x.pool.length cv)).heap.size = w1.heap.size by simp]; rfl) (HO.out.bel HBx.out) (device_robS (lo := wr.heap.size + 1) x HSg.out (Nat.le_succ_of_le hbw) (fun q hq => .inl (Nat.lt_succ_of_lt (HO.out.block q hq).2)) Hi.out) (Nat.le_trans hbw HBx.out.size) (by rw [List.length_take]; omega) ?_
           intro v2 w2 HO2 HB2 hg2 hat2
           clear hg2 hat2
           obtain ⟨Aq, bq, oq, cq, hv2, -⟩ := HO2.seg.sl.form
           generalize (c.devices.take k ++ [x]).length = nq at hv2
           subst hv2
           have e3 := (Below.blk HB2 (HI.out.box.bel HBx.out) (by omega)).cell (i := 2) rfl
           have e4 := (Below.blk HB2 (HI.out.box.bel HBx.out) (by omega)).free 2))
      refine ⟨⟨k + 1, _, by omega, by go_num, ?_, hide ⟨bel_set_new (Below.trans (Bel.trans HI.out.bel HBx.out) (HB2.mono (by omega))) (Nat.le_refl _) 2 (.slice Aq nq cq), (Below.blk HB2 (HI.out.box.bel HBx.out) (by omega)).set 2 _, (Below.blk HB2 (HI.out.out.bel HBx.out) (by omega)).other (by dsimp only; omega) _, ?_, ?_⟩⟩, by simp [intOf]; omega⟩
      · have h1 := HB2.size; have h2 := HBx.out.size; simp at h1 h2 ⊢; omega
      · intro q hq1 hq2
        rw [Below.heap_setCell w2 _ _ q (by dsimp only; omega), HB2.block q hq2, HBx.out.block q (by omega)]
        exact HI.out.fr q hq1 hq2
      · rw [HT.out]
        exact HO2.keep (by simp) (fun q hq _ => Below.heap_setCell w2 _ _ q (by dsimp only; omega))
    · obtain rfl : k = c.devices.length := by omega
      have HD := hide (show kDevice.Seg base wr vd c.devices by have h := HI.out.devs.seg; rw [List.take_length] at h; exact h)
      obtain ⟨Ad, bd, od, cd, hvd, -⟩ := HD.out.sl.form
      subst hvd
      have hwlt : w.heap.size + 1 < wr.heap.size := HI.out.out.lt
      have hwl0 : w.heap.size < wr.heap.size := by omega
      have hws := hide (HS3.out _ HI.out.bel)
      have hgs := hide fun W (hW : Bel w W) => HS4.out W hW
      have HIb := hide HI.out.box
      have HIo := hide HI.out.out
      have p4 := HIb.out.cell (i := 4) rfl
      have HBr := hide HI.out.bel
      have hfr := hide fun q h1 h2 => HI.out.fr q h1 h2
      clear HI hA2 HR2 HFd HS3 HS4
      go_upto_region 11 with (at_builtin; first
        | (refine own_append_slice kWindow kWindow_one kWindow_pure wr.heap.size rfl _ _ 24 119 _ 32 rfl Try.underlying24 info_Window rfl (by decide) (by decide) (.slice (some ⟨wr.heap.size, 0, none⟩) 0 0) (.slice A3 c.windows.length n3) [] c.windows rfl rfl (own_empty kWindow 119 wr.heap.size wr (Nat.le_refl _)) (hws.out.bel ((bel_refl wr).alloc _)) (by simp) (by simp; omega) ?_
           intro v1 w1 HO1 HB1 hg1 hat1
           clear hg1 hat1
           rw [List.nil_append] at HO1
           obtain ⟨Av, bv, ov, cv, rfl, -⟩ := HO1.sl.form
           have HBx := hide (show Bel wr w1 from Below.trans ((bel_refl wr).alloc _) HB1)
           have HW := hide ((HO1.s kWindow_pure).seg)
           clear HO1 HB1
           have e4 := (HIb.out.bel HBx.out).cell (i := 4) rfl
           have f4 := (HIb.out.bel HBx.out).free 4))
      clear e4 f4 p4
      obtain ⟨U1, hU1⟩ : ∃ U1 : World, U1 = w1.setCell ⟨w.heap.size, 4, none⟩ (.slice Av c.windows.length cv) := ⟨_, rfl⟩
      rw [← hU1]
      have hszU : w1.heap.size = U1.heap.size := by rw [hU1]; simp
      have hsx := HBx.out.size
      have hwl1 : w.heap.size < U1.heap.size := by omega
      have hK : Hid (∀ q, q ≠ w.heap.size → q < wr.heap.size → U1.heap[q]? = wr.heap[q]?) := fun q h1 h2 => by rw [hU1, Below.heap_setCell w1 _ _ q h1]; exact HBx.out.block q h2
      have HW := hide (show kWindow.Seg wr.heap.size U1 (.slice Av c.windows.length cv) c.windows by rw [hU1]; exact HW.out.mono (by simp) (fun q hq _ => Below.heap_setCell w1 _ _ q (by dsimp only; omega)))
      have HIb := hide (show BlkAt U1 w.heap.size _ 27 by rw [hU1]; exact (HIb.out.bel HBx.out).set 4 _)
      have HBr1 := hide (show Bel w U1 by rw [hU1]; exact bel_set_new (Bel.trans HBr.out HBx.out) (Nat.le_refl _) _ _)
      clear hU1 hws HBx
      have hgs := hide (hgs.out _ HBr1.out)
      have p5 := HIb.out.cell (i := 5) rfl
      go_upto_region 12 with (at_builtin; first
        | (refine own_append_slice kGrant kGrant_one kGrant_pure U1.heap.size rfl _ _ 25 44 _ 24 rfl Try.underlying25 info_Grant rfl (by decide) (by decide) (.slice (some ⟨U1.heap.size, 0, none⟩) 0 0) (.slice A4 c.grants.length n4) [] c.grants rfl rfl (own_empty kGrant 44 U1.heap.size U1 (Nat.le_refl _)) (hgs.out.bel ((bel_refl U1).alloc _)) (by simp) (by simp; omega) ?_
           intro v1 w1 HO1 HB1 hg1 hat1
           clear hg1 hat1
           rw [List.nil_append] at HO1
           obtain ⟨Ag, bg, og, cg, rfl, -⟩ := HO1.sl.form
           have HBx := hide (show Bel U1 w1 from Below.trans ((bel_refl U1).alloc _) HB1)
           have HG := hide ((HO1.s kGrant_pure).seg)
           clear HO1 HB1
           have e5 := (HIb.out.bel HBx.out).cell (i := 5) rfl
           have f5 := (HIb.out.bel HBx.out).free 5))
      clear e5 f5 p5
      obtain ⟨U2, hU2⟩ : ∃ U2 : World, U2 = w1.setCell ⟨w.heap.size, 5, none⟩ (.slice Ag c.grants.length cg) := ⟨_, rfl⟩
      rw [← hU2]
      have hsx2 := HBx.out.size
      have hszU2 : w1.heap.size = U2.heap.size := by rw [hU2]; simp
      have hK2 : Hid (∀ q, q ≠ w.heap.size → q < U1.heap.size → U2.heap[q]? = U1.heap[q]?) := fun q h1 h2 => by rw [hU2, Below.heap_setCell w1 _ _ q h1]; exact HBx.out.block q h2
      have HG := hide (show kGrant.Seg U1.heap.size U2 (.slice Ag c.grants.length cg) c.grants by rw [hU2]; exact HG.out.mono (by simp) (fun q hq _ => Below.heap_setCell w1 _ _ q (by dsimp only; omega)))
      have HIb := hide (show BlkAt U2 w.heap.size [.int .i64 c.frames, .slice Ap c.parts.length cp, .slice Ad c.devices.length cd, .int .i64 c.major, .slice Av c.windows.length cv, .slice Ag c.grants.length cg, .int .i64 c.sectors, .int .i64 c.quota, .int .i64 c.quiet] 27 by rw [hU2]; exact (HIb.out.bel HBx.out).set 5 _)
      have HIo := hide (show BlkAt U2 (w.heap.size + 1) [.int .i64 0, .slice none 0 0, .slice none 0 0, .int .i64 0, .slice none 0 0, .slice none 0 0, .int .i64 0, .int .i64 0, .int .i64 0] 27 from ((hK2.out _ (by omega) (by omega)).trans ((hK.out _ (by omega) (by omega)).trans HIo.out)))
      have HBr2 := hide (show Bel w U2 by rw [hU2]; exact bel_set_new (Bel.trans HBr1.out HBx.out) (Nat.le_refl _) _ _)
      clear hU2 hgs HBx HBr HBr1
      have e0 := HIb.out.cell (i := 0) rfl
      have e1 := HIb.out.cell (i := 1) rfl
      have e2 := HIb.out.cell (i := 2) rfl
      have e3 := HIb.out.cell (i := 3) rfl
      have e4 := HIb.out.cell (i := 4) rfl
      have e5 := HIb.out.cell (i := 5) rfl
      have e6 := HIb.out.cell (i := 6) rfl
      have e7 := HIb.out.cell (i := 7) rfl
      have e8 := HIb.out.cell (i := 8) rfl
      have f0 := fun i => HIo.out.free i
      have g0 := HIo.out.cell (i := 0) rfl
      have g1 := HIo.out.cell (i := 1) rfl
      have g2 := HIo.out.cell (i := 2) rfl
      have g3 := HIo.out.cell (i := 3) rfl
      have g4 := HIo.out.cell (i := 4) rfl
      have g5 := HIo.out.cell (i := 5) rfl
      have g6 := HIo.out.cell (i := 6) rfl
      have g7 := HIo.out.cell (i := 7) rfl
      have g8 := HIo.out.cell (i := 8) rfl
      go_wp2_with fail
      obtain ⟨U3, hU3⟩ : ∃ U3 : World, U3 = (((((((((U2).setCell ⟨w.heap.size + 1, 0, none⟩ (.int .i64 c.frames)).setCell ⟨w.heap.size + 1, 1, none⟩ (.slice Ap c.parts.length cp)).setCell ⟨w.heap.size + 1, 2, none⟩ (.slice Ad c.devices.length cd)).setCell ⟨w.heap.size + 1, 3, none⟩ (.int .i64 c.major)).setCell ⟨w.heap.size + 1, 4, none⟩ (.slice Av c.windows.length cv)).setCell ⟨w.heap.size + 1, 5, none⟩ (.slice Ag c.grants.length cg)).setCell ⟨w.heap.size + 1, 6, none⟩ (.int .i64 c.sectors)).setCell ⟨w.heap.size + 1, 7, none⟩ (.int .i64 c.quota)).setCell ⟨w.heap.size + 1, 8, none⟩ (.int .i64 c.quiet) := ⟨_, rfl⟩
      rw [← hU3]
      have hO : BlkAt U3 (w.heap.size + 1) [.int .i64 c.frames, .slice Ap c.parts.length cp, .slice Ad c.devices.length cd, .int .i64 c.major, .slice Av c.windows.length cv, .slice Ag c.grants.length cg, .int .i64 c.sectors, .int .i64 c.quota, .int .i64 c.quiet] 27 := by rw [hU3]; exact (((((((((HIo.out).set 0 _).set 1 _).set 2 _).set 3 _).set 4 _).set 5 _).set 6 _).set 7 _).set 8 _
      have hK3 : ∀ q, q ≠ w.heap.size + 1 → U3.heap[q]? = U2.heap[q]? := fun q h => by
        rw [hU3]
        repeat rw [Below.heap_setCell _ _ _ q h]
      have hB3 : Bel w U3 := by
        rw [hU3]
        repeat (refine bel_set_new ?_ (Nat.le_succ _) _ _)
        exact HBr2.out
      clear hU3
      refine bodyPost_ret (v := .agg #[.int .i64 c.frames, .slice Ap c.parts.length cp, .slice Ad c.devices.length cd, .int .i64 c.major, .slice Av c.windows.length cv, .slice Ag c.grants.length cg, .int .i64 c.sectors, .int .i64 c.quota, .int .i64 c.quiet]) ?_ rfl ?_
      · exact results_cell_row rfl _ _ (w.heap.size + 1) 27 #[.int .i64 c.frames, .slice Ap c.parts.length cp, .slice Ad c.devices.length cd, .int .i64 c.major, .slice Av c.windows.length cv, .slice Ag c.grants.length cg, .int .i64 c.sectors, .int .i64 c.quota, .int .i64 c.quiet] (0, 0) _ rfl hO Try.underlying27 rfl info_Config
      have hq : ∀ q, w.heap.size + 2 ≤ q → q < wr.heap.size → U3.heap[q]? = wr.heap[q]? := fun q h1 h2 => (hK3 q (by omega)).trans ((hK2.out q (by omega) (by omega)).trans (hK.out q (by omega) h2))
      refine ⟨_, rfl, ⟨_, rfl, _, _, _, _, rfl, HSP.out U3 (fun q h1 h2 => (hq q h1 (by omega)).trans (hfr.out q h1 h2)), HD.out U3 (fun q h1 h2 => hq q (by omega) h2), HW.out U3 (fun q h1 h2 => (hK3 q (by omega)).trans (hK2.out q (by omega) h2)), HG.out U3 (fun q h1 h2 => hK3 q (by omega)), HI64.out⟩, hB3⟩
end Go.Proofs.Ythjhkbnajclcjaa
