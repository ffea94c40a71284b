/- assign.New, config.Owners. -/
import Derived.Test.YthjhkbnajclcjaaTab
import Derived.Test.YthjhkbnajclcjaaSeg
set_option linter.unusedSimpArgs false
namespace Go.Proofs.Ythjhkbnajclcjaa
open Go.RowKit

def kState : Kind St where
  sz := 2
  K := fun _ x cs => cs = [.int .i64 x.part, .int .i64 x.left] ∧ I64 x.part ∧ I64 x.left
  len := fun h => by rw [h.1]; rfl
  mono := fun _ h => h
theorem kState_pure : kState.Pure := fun _ _ _ _ h => h
theorem kState_one : kState.One := fun _ _ _ h u hu => by
  rw [h.1] at hu
  simp at hu
  rcases hu with rfl | rfl <;> rfl
theorem info_state : (Try.prog.info? 182).map (fun i => (i.zero, i.size, i.bytes)) = some (some (.agg #[.int .i64 0, .int .i64 0]), 2, 16) := by kernel_rfl
theorem flat_of : ∀ (all : List St) (inner : List Value), inner.length = all.length * 2 → (∀ (j : Nat) (x : St), all[j]? = some x → (inner.drop (j * 2)).take 2 = [.int .i64 x.part, .int .i64 x.left]) → inner = flat all
  | [], inner, hl, _ => by simpa [flat] using hl
  | s :: all, inner, hl, h => by
    have h0 := h 0 s rfl
    rw [Nat.zero_mul, List.drop_zero] at h0
    have h1 := flat_of all (inner.drop 2) (by rw [List.length_drop, hl]; simp; omega) (fun j x hx => by
      have := h (j + 1) x (by simpa using hx)
      rw [List.drop_drop]
      rw [show 2 + j * 2 = (j + 1) * 2 by omega]
      exact this)
    rw [← List.take_append_drop 2 inner, h0, h1]
    rfl
theorem tab_row {base : Nat} {W : World} {v : Value} {all : List St} (h : kState.Own 182 base W v all) (h0 : 0 < all.length) : ∃ g cap, v = .slice (some ⟨g, 0, none⟩) all.length cap ∧ base ≤ g ∧ ∃ cur : List Value, BlkAt W g cur 182 ∧ cur.take (all.length * 2) = flat all := by
  obtain ⟨inner, ho, hr⟩ := h
  rcases ho.2 with ⟨rfl, hz⟩ | ⟨g, cap, cur, rfl, hb, hh, hn, hm, hs, ht⟩
  · omega
  · refine ⟨g, cap, rfl, hb, cur.toList, by unfold BlkAt; simpa using hh, ?_⟩
    have hl : inner.length = all.length * 2 := ho.1
    rw [← flat_of all inner hl fun j x hj => (hr j x hj).k.1]
    exact ht

set_option maxRecDepth 20000 in
set_option maxHeartbeats 8000000 in
theorem owners_calls (w : World) (bc : Nat) (c : Config) (h : kConfig.At w bc 0 c) (hd4 : c.devices.length ≤ 4) :
    Calls Try.prog 74 #[.pointer (some ⟨bc, 0, none⟩)] w fun e w' => ∃ v, e = .returned v ∧ kInt.Sl w' v (c.devices.map (·.part)) ∧ Bel w w' := by
  obtain ⟨vp, vd, vw, vg, hbc, k0, k1, k2, k3, k4, k5, k6, k7, k8, -, hds, -⟩ := cfg_open h
  obtain ⟨A2, b2, o2, n2, rfl, hl2, hc2, hA2, hr2⟩ := hds.form
  have HR := hide (hr2 w hds)
  clear k0 k1 k3 k4 k5 k6 k7 k8 hds hr2 h
  go_enter Try.func74, Try.ntmps74
  go_wp2_with fail
  clear k2
  go_loopw [3, 11] (fun t3 t11 W => ∃ k : Nat, k ≤ c.devices.length ∧ t11 = .int .i64 k ∧ Hid (kInt.Own 3 w.heap.size W t3 ((c.devices.take k).map (·.part))) ∧ Hid (Bel w W)) (fun _ t _ => c.devices.length - (intOf t).toNat)
  case atStart => exact ⟨0, Nat.zero_le _, rfl, hide (Kind.Own.nil _ _ _ _), hide (bel_refl w)⟩
  case round =>
    obtain ⟨k, hk, rfl, HO, HB⟩ := hrel
    by_cases hlt : k < c.devices.length
    · obtain ⟨c0, c1, hK, y0, y1⟩ := (HR.out.bel HB.out).get2 rfl hlt
      have HT := hide (show (c.devices.take (k + 1)).map (·.part) = (c.devices.take k).map (·.part) ++ [c.devices[k].part] by rw [List.take_succ_eq_append_getElem hlt, List.map_append]; rfl)
      obtain ⟨vf, hcs, hf, i0⟩ := hK
      simp only [List.cons.injEq, and_true] at hcs
      obtain ⟨rfl, rfl⟩ := hcs
      generalize c.devices[k] = x at y0 y1 hf HT i0
      obtain ⟨Af, bf, off, cf, rfl, hf1', hf2', -, -⟩ := hf.form
      have Hi := hide i0
      have hsz := hide HB.out.size
      clear hf i0
      obtain rfl := hA2 (by omega)
      have hkd : (k : Int) < (c.devices.length : Int) := by omega
      have HBa := hide fun o => HB.out.alloc o
      go_wp2_with (at_builtin; first
        | (refine own_append kInt kInt_one w.heap.size rfl _ _ 38 3 _ 8 rfl Try.underlying38 info_int rfl (by decide) (by decide) u3 ((c.devices.take k).map (·.part)) x.part [.int .i64 x.part] (by rfl) (by simp; rfl) (HO.out.bel ((bel_refl wr).alloc _)) (kInt_pure.rob (w := wr) ⟨rfl, Hi.out⟩ _) (by simp; have := hsz.out; omega) (by rw [List.length_map, List.length_take]; omega) ?_
           intro v1 w1 HO1 HB1 hg1 hat1
           clear hg1 hat1))
      exact ⟨⟨k + 1, by omega, by go_num, hide (by rw [HT.out]; exact HO1), hide (Below.trans (HBa.out _) HB1)⟩, by simp [intOf]; omega⟩
    · obtain rfl : k = c.devices.length := by omega
      rw [List.take_length] at HO
      go_wp2_with fail
      go_ret
      exact ⟨_, rfl, HO.out.sl, HB.out⟩

set_option maxRecDepth 20000 in
set_option maxHeartbeats 8000000 in
theorem tabNew (w : World) (v : Value) (os : List Int) (q p : Int) (hv : kInt.Sl w v os) (hq : 1 ≤ q ∧ q ≤ 8) (hp : 1 ≤ p ∧ p ≤ 4) (ho : 1 ≤ os.length ∧ os.length ≤ 4) (hos : ∀ x ∈ os, 0 ≤ x ∧ x < p) :
    Calls Try.prog 73 #[.int .i64 q, .int .i64 p, v] w fun e w' => ∃ T g cap, e = .returned (.tuple #[.pointer (some ⟨T, 0, none⟩), .int .i64 0]) ∧ TabAt w' T g cap q p (os.map fun x => ⟨x, 0⟩) ∧ w.heap.size ≤ T ∧ w.heap.size ≤ g ∧ Bel w w' := by
  obtain ⟨A, b, o, cc, rfl, hl, hc, hA, hr⟩ := hv.form
  have HR := hide (hr w hv)
  have Hos := hide hos
  obtain ⟨hq1, hq2⟩ := hq
  obtain ⟨hp1, hp2⟩ := hp
  obtain ⟨ho1, ho2⟩ := ho
  clear hv hr hos
  have hol1 : 1 ≤ (os.length : Int) := by omega
  have hol2 : (os.length : Int) ≤ 4 := by omega
  go_enter Try.func73, Try.ntmps73
  go_upto_region 4 with fail
  all_goals try (exfalso; omega)
  obtain ⟨W1, hW1⟩ : ∃ W1 : World, W1 = w.alloc (.cells #[.int .i64 q, .int .i64 p, .slice none 0 0] 180) := ⟨_, rfl⟩
  rw [← hW1]
  have hsz1 : W1.heap.size = w.heap.size + 1 := by rw [hW1]; simp
  have HB1 := hide (show Bel w W1 by rw [hW1]; exact (bel_refl w).alloc _)
  have HK1 := hide (show BlkAt W1 w.heap.size [.int .i64 q, .int .i64 p, .slice none 0 0] 180 by rw [hW1]; exact blk_new w [.int .i64 q, .int .i64 p, .slice none 0 0] 180)
  clear hW1
  go_wp2_with fail
  go_loopw [41] (fun t41 W => ∃ (k : Nat) (vt : Value), k ≤ os.length ∧ t41 = .int .i64 k ∧ w.heap.size + 1 ≤ W.heap.size ∧ Hid (kState.Own 182 (w.heap.size + 1) W vt ((os.take k).map fun x => ⟨x, 0⟩)) ∧ Hid (BlkAt W w.heap.size [.int .i64 q, .int .i64 p, vt] 180) ∧ Hid (Bel w W)) (fun t _ => os.length - (intOf t).toNat)
  case atStart => exact ⟨0, _, Nat.zero_le _, rfl, by omega, hide (Kind.Own.nil _ _ _ _), HK1, HB1⟩
  case round =>
    obtain ⟨k, vt, hk, rfl, hsz, HO, HK, HB⟩ := hrel
    by_cases hlt : k < os.length
    · obtain ⟨c0, hK, y0⟩ := (HR.out.bel HB.out).get1 rfl hlt
      obtain ⟨hK, hi⟩ := hK
      simp only [List.cons.injEq, and_true] at hK
      subst hK
      have HT := hide (show (os.take (k + 1)).map (fun x => (⟨x, 0⟩ : St)) = (os.take k).map (fun x => ⟨x, 0⟩) ++ [⟨os[k], 0⟩] by rw [List.take_succ_eq_append_getElem hlt, List.map_append]; rfl)
      have hxr := Hos.out _ (List.getElem_mem hlt)
      generalize os[k] = x at y0 HT hxr hi
      obtain ⟨hx0, hx1⟩ := hxr
      obtain rfl := hA (by omega)
      obtain ⟨Ad, bd, od, cd, hvd, -⟩ := HO.out.sl.form
      generalize ((os.take k).map fun x => (⟨x, 0⟩ : St)).length = nd at hvd
      subst hvd
      have e2 := HK.out.cell (i := 2) rfl
      have Hi := hide hi
      have hkd : (k : Int) < (os.length : Int) := by omega
      clear hi
      go_wp2_with (at_builtin; first
        | (refine own_append kState kState_one (w.heap.size + 1) rfl _ _ 178 182 _ 16 rfl Try.underlying178 info_state rfl (by decide) (by decide) (.slice Ad nd cd) ((os.take k).map fun x => ⟨x, 0⟩) ⟨x, 0⟩ [.int .i64 x, .int .i64 0] (by rfl) (by rfl) HO.out (kState_pure.rob (w := wr) ⟨rfl, Hi.out, show I64 0 by decide⟩ _) hsz (by rw [List.length_map, List.length_take]; omega) ?_
           intro v1 w1 HO1 HB1 hg1 hat1
           clear hg1 hat1
           obtain ⟨Aq, bq, oq, cq, hvq, -⟩ := HO1.sl.form
           generalize ((os.take k).map (fun x => (⟨x, 0⟩ : St)) ++ [(⟨x, 0⟩ : St)]).length = nq at hvq
           subst hvq
           have HKb := hide ((HB1.block _ (Nat.lt_succ_self _)).trans HK.out)
           have e2' := BlkAt.cell (t := 180) HKb.out (i := 2) rfl
           have f2' := BlkAt.free (t := 180) HKb.out 2))
      all_goals try (exfalso; omega)
      refine ⟨⟨k + 1, _, by omega, by go_num, ?_, hide ?_, hide (BlkAt.set (t := 180) HKb.out 2 (.slice Aq nq cq)), hide (bel_set_new' (Below.trans HB.out (HB1.mono (Nat.le_succ _))) _ _)⟩, by simp [intOf]; omega⟩
      · have := HB1.size; simp; omega
      · rw [HT.out]
        exact HO1.far kState_pure (grown_set w1 ⟨w.heap.size, 2, none⟩ (.slice Aq nq cq)) (fun b hb => by have := (HO1.block b hb).1; simp; omega)
    · obtain rfl : k = os.length := by omega
      rw [List.take_length] at HO
      obtain ⟨g, cap, rfl, hg, cur, hcur, htake⟩ := tab_row HO.out (by rw [List.length_map]; omega)
      go_wp2_with fail
      go_ret2
      refine ⟨w.heap.size, g, cap, rfl, ⟨?_, ⟨cur, hcur, ?_⟩, by omega⟩, Nat.le_refl _, by omega, HB.out⟩
      · exact HK.out
      · exact htake
end Go.Proofs.Ythjhkbnajclcjaa
