/- The reference's framesMay: what it answers of a config of a few parts and devices. -/
import Derived.Test.YthjhkbnajclcjaaRWin
import Derived.Test.YthjhkbnajclcjaaApp
import Derived.Test.YthjhkbnajclcjaaDraw
set_option linter.unusedSimpArgs false
namespace Go.Proofs.Ythjhkbnajclcjaa
open Go.RowKit

theorem flatMap_take_succ {α β : Type} (f : α → List β) {xs : List α} {k : Nat} (h : k < xs.length) : (xs.take (k + 1)).flatMap f = (xs.take k).flatMap f ++ f xs[k] := by
  rw [List.take_succ_eq_append_getElem h, List.flatMap_append]
  simp
theorem all_take_succ {α : Type} (p : α → Bool) {xs : List α} {k : Nat} (h : k < xs.length) : (xs.take (k + 1)).all p = ((xs.take k).all p && p xs[k]) := by
  rw [List.take_succ_eq_append_getElem h, List.all_append]
  simp
theorem all_no {α : Type} (p : α → Bool) {xs : List α} {k : Nat} (h : k < xs.length) (hp : p xs[k] = false) : xs.all p = false := by
  rw [List.all_eq_false]
  exact ⟨_, List.getElem_mem h, by rw [hp]; simp⟩
theorem Marks.below {w W W' : World} {g n base : Nat} {t : TypeId} {f : Int → Bool} (h : Marks w g n t f W) (hb : Below base W W') (hg : g < base) : Marks w g n t f W' := by
  obtain ⟨cs, h1, h2, h3⟩ := h.row
  exact ⟨Below.trans h.bel (hb.mono (by have := h.hg; omega)), ⟨cs, (hb.block g hg).trans h1, h2, h3⟩, h.hg⟩
theorem grown_set (W : World) (p : Addr) (v : Value) : W.grownBy (W.setCell p v) (some p.block) :=
  ⟨rfl, rfl, rfl, by simp, fun k hk hne => Below.heap_setCell W p v k (fun e => hne (by rw [e]))⟩


set_option maxRecDepth 20000 in
set_option maxHeartbeats 16000000 in
theorem rFrames_calls (w : World) (v : Value) (c : Config) (h : CfgV w v c) (hf1 : 1 ≤ c.frames) (hf2 : c.frames ≤ 64) (hp4 : c.parts.length ≤ 4) (hd4 : c.devices.length ≤ 4) :
    Calls Try.prog 61 #[v] w fun e w' => e = .returned (.bool (refFrames c)) ∧ Bel w w' := by
  obtain ⟨A1, A2, A3, A4, b1, o1, n1, b2, o2, n2, b3, o3, n3, b4, o4, n4, rfl, HC, HR1, HR2, HR3, HR4, HS1, HS2, HS3, HS4, hA1, hA2, hA3, hA4, hL1, hL2, hL3, hL4⟩ := h.parts4
  have HE : Hid (refFrames c = (c.parts.all partLen && (c.devices.all (devMay c) && !(anyL (onceStep c.frames) (allFrames c) []).1))) := rfl
  generalize refFrames c = res at HE
  clear h HR3 HR4 HS2 HS3 HS4 HS1 hA3 hA4 hL1 hL2 hL3 hL4 HC
  go_enter Try.func61, Try.ntmps61
  go_upto_region 1 with fail
  obtain ⟨W1, hW1⟩ : ∃ W1 : World, W1 = w.alloc (.cells #[.int .i64 c.frames, .slice A1 c.parts.length n1, .slice A2 c.devices.length n2, .int .i64 c.major, .slice A3 c.windows.length n3, .slice A4 c.grants.length n4, .int .i64 c.sectors, .int .i64 c.quota, .int .i64 c.quiet] 27) := ⟨_, rfl⟩
  rw [← hW1]
  have HB1 := hide (show Bel w W1 by rw [hW1]; exact (bel_refl w).alloc _)
  have HX := hide (show BoxAt W1 w.heap.size (.int .i64 c.frames) (.slice A1 c.parts.length n1) (.slice A2 c.devices.length n2) (.int .i64 c.major) (.slice A3 c.windows.length n3) (.slice A4 c.grants.length n4) (.int .i64 c.sectors) (.int .i64 c.quota) (.int .i64 c.quiet) by rw [hW1]; exact box_new _ _ _ _ _ _ _ _ _ _ _)
  clear hW1
  have HQ1 := hide (HR1.out.bel HB1.out)
  have HQ2 := hide (HR2.out.bel HB1.out)
  have hwlt := hide (World.block_lt_of_cell? W1 _ HX.out.k0)
  clear HR1 HR2
  go_upto_region 2 with fail
  obtain ⟨g, hg⟩ : ∃ g : Nat, g = W1.heap.size := ⟨_, rfl⟩
  obtain ⟨W2, hW2⟩ : ∃ W2 : World, W2 = W1.alloc (.cells false64 170) := ⟨_, rfl⟩
  rw [← hW2, ← hg]
  have HM := hide (show Marks W1 g 64 170 (fun _ => false) W2 by rw [hW2, hg]; exact marks_new W1 _)
  have hgh := hide hg
  clear hW2 hg
  go_wp2_with fail
  go_loopw [4, 5] (fun t4 t5 W => ∃ k : Nat, k ≤ c.parts.length ∧ t5 = .int .i64 k ∧ Hid (Marks W1 g 64 170 (fun _ => false) W) ∧ Hid (kInt.Own 3 (g + 1) W t4 ((c.parts.take k).flatMap fun p => p.frames)) ∧ Hid ((c.parts.take k).all partLen = true) ∧ Hid (((c.parts.take k).flatMap fun p => p.frames).length ≤ 64 * k)) (fun _ t _ => c.parts.length - (intOf t).toNat)
  case atStart => exact ⟨0, Nat.zero_le _, rfl, HM, hide (Kind.Own.nil _ _ _ _), hide rfl, hide (by simp)⟩
  case round =>
    obtain ⟨k, hk, rfl, HI, HO, HAl, HLn⟩ := hrel
    have k1 := (HX.out.bel HI.out.bel).k1
    by_cases hlt : k < c.parts.length
    · obtain ⟨d0, d1, d2, d3, d4, hK, -, -, hc_2, -, -⟩ := (HQ1.out.bel HI.out.bel).get5 rfl hlt
      obtain ⟨-, -, hf, -, -, -, -⟩ := kPart_vals hK
      have HP := hide (all_take_succ partLen hlt)
      have HN := hide (fun h => all_no partLen hlt h)
      have HFl := hide (flatMap_take_succ (fun p : Part => p.frames) hlt)
      generalize c.parts[k] = x at hf HP HFl HN
      obtain ⟨xl, xf, xs, xc⟩ := x
      simp only at hf HFl
      obtain ⟨Af, bf, off, cf, rfl, hf1', hf2', -, -⟩ := hf.form
      obtain rfl := hA1 (by omega)
      have HF := hide hf
      clear hK hf
      by_cases p1 : (xf.length : Int) < 1
      · have HZ := hide (HN.out (by simp only [partLen]; rw [decide_eq_false (by omega)]; rfl))
        go_wp2_with fail
        all_goals try (exfalso; omega)
        go_ret
        rw [HE.out, HZ.out]
        exact ⟨rfl, Bel.trans HB1.out HI.out.bel⟩
      by_cases p2 : 64 < (xf.length : Int)
      · have HZ := hide (HN.out (by simp only [partLen]; rw [show decide (xf.length ≤ 64) = false from decide_eq_false (by omega)]; simp))
        go_wp2_with fail
        all_goals try (exfalso; omega)
        go_ret
        rw [HE.out, HZ.out]
        exact ⟨rfl, Bel.trans HB1.out HI.out.bel⟩
      have HZ := hide (show partLen ⟨xl, xf, xs, xc⟩ = true by simp only [partLen]; rw [decide_eq_true (by omega), decide_eq_true (by omega)]; rfl)
      clear HN
      have hbase := hide (show g + 1 ≤ wr.heap.size from HI.out.lt)
      go_wp2_with (at_builtin; refine own_append_slice kInt kInt_one kInt_pure (g + 1) rfl _ _ 38 3 _ 8 rfl Try.underlying38 info_int rfl (by decide) (by decide) u4 (.slice Af xf.length cf) _ xf rfl rfl HO.out HF.out hbase.out (by have := HLn.out; omega) ?_; intro v1 w1 HO1 HB2 hg1 hat1; clear hg1 hat1)
      all_goals try (exfalso; omega)
      exact ⟨⟨k + 1, by omega, by go_num, hide (HI.out.below HB2 (by omega)), hide (by rw [HFl.out]; exact HO1), hide (by rw [HP.out, HAl.out, HZ.out]; rfl), hide (by rw [HFl.out, List.length_append]; have := HLn.out; omega)⟩, by simp [intOf]; omega⟩
    · obtain rfl : k = c.parts.length := by omega
      have HPA := hide (show c.parts.all partLen = true by rw [← HAl.out, List.take_length])
      rw [List.take_length] at HO HLn
      clear HAl HQ1 hA1
      go_wp2_with fail
      clear k1
      go_loopw [4, 6] (fun t4 t6 W => ∃ k : Nat, k ≤ c.devices.length ∧ t6 = .int .i64 k ∧ Hid (Marks W1 g 64 170 (fun _ => false) W) ∧ Hid (kInt.Own 3 (g + 1) W t4 ((c.parts.flatMap fun p => p.frames) ++ (c.devices.take k).flatMap fun d => d.pool)) ∧ Hid ((c.devices.take k).all (devMay c) = true) ∧ Hid (((c.parts.flatMap fun p => p.frames) ++ (c.devices.take k).flatMap fun d => d.pool).length ≤ 256 + 5 * k)) (fun _ t _ => c.devices.length - (intOf t).toNat)
      case atStart => exact ⟨0, Nat.zero_le _, rfl, HI, hide (by simpa using HO.out), hide rfl, hide (by rw [List.take_zero, List.flatMap_nil, List.append_nil]; have := HLn.out; omega)⟩
      case round =>
        obtain ⟨k, hk, rfl, HI, HO, HAl, HLn⟩ := hrel
        obtain ⟨-, k1, k2, -⟩ := HX.out.bel HI.out.bel
        by_cases hlt : k < c.devices.length
        · obtain ⟨d0, d1, hK, hc_0, hc_1⟩ := (HQ2.out.bel HI.out.bel).get2 rfl hlt
          have HP := hide (all_take_succ (devMay c) hlt)
          have HN := hide (fun h => all_no (devMay c) hlt h)
          have HFl := hide (flatMap_take_succ (fun d : Device => d.pool) hlt)
          generalize c.devices[k] = x at hK HP HFl HN
          obtain ⟨xp, xf⟩ := x
          obtain ⟨vf, hcs, hf, -⟩ := hK
          simp only [List.cons.injEq, and_true] at hcs
          obtain ⟨rfl, rfl⟩ := hcs
          simp only at hf HFl
          obtain ⟨Af, bf, off, cf, rfl, hf1', hf2', -, -⟩ := hf.form
          obtain rfl := hA2 (by omega)
          have hwr := Nat.lt_of_lt_of_le hwlt.out HI.out.bel.size
          have HF := hide fun o => hf.bel ((bel_refl wr).alloc o)
          have HB3 := hide fun o => HI.out.bel.alloc o
          have HTI := hide (there_iff c xp)
          have HDM := hide (show devMay c ⟨xp, xf⟩ = (there c xp && (decide (2 ≤ xf.length) && decide (xf.length ≤ 5))) from rfl)
          clear hf
          cases qt : there c xp
          · rw [qt] at HTI HDM
            have hn : ¬ (0 ≤ xp ∧ xp < (c.parts.length : Int)) := fun h => by have := HTI.out.2 h; simp at this
            have HZ := hide (HN.out HDM.out)
            clear HTI qt
            by_cases n2 : xp < 0
            · clear hn
              go_wp2_with fail
              all_goals try (exfalso; omega)
              go_ret
              rw [HE.out, HPA.out, HZ.out]
              exact ⟨rfl, Bel.trans HB1.out (HB3.out _)⟩
            · have n3 : (c.parts.length : Int) ≤ xp := by omega
              clear hn
              go_wp2_with fail
              all_goals try (exfalso; omega)
              go_ret
              rw [HE.out, HPA.out, HZ.out]
              exact ⟨rfl, Bel.trans HB1.out (HB3.out _)⟩
          rw [qt] at HTI HDM
          obtain ⟨n2, n3⟩ := HTI.out.1 rfl
          clear HTI qt
          by_cases p1 : (xf.length : Int) < 2
          · have HZ := hide (HN.out (by rw [HDM.out, show decide (2 ≤ xf.length) = false from decide_eq_false (by omega)]; rfl))
            go_wp2_with fail
            all_goals try (exfalso; omega)
            go_ret
            rw [HE.out, HPA.out, HZ.out]
            exact ⟨rfl, Bel.trans HB1.out (HB3.out _)⟩
          by_cases p2 : 5 < (xf.length : Int)
          · have HZ := hide (HN.out (by rw [HDM.out, show decide (xf.length ≤ 5) = false from decide_eq_false (by omega)]; simp))
            go_wp2_with fail
            all_goals try (exfalso; omega)
            go_ret
            rw [HE.out, HPA.out, HZ.out]
            exact ⟨rfl, Bel.trans HB1.out (HB3.out _)⟩
          have HZ := hide (show devMay c ⟨xp, xf⟩ = true by rw [HDM.out, decide_eq_true (by omega), decide_eq_true (by omega)]; rfl)
          clear HN HDM
          have hbase := hide (show g + 1 ≤ wr.heap.size from HI.out.lt)
          go_wp2_with (at_builtin; go_must (refine own_append_slice kInt kInt_one kInt_pure (g + 1) rfl _ _ 38 3 _ 8 rfl Try.underlying38 info_int rfl (by decide) (by decide) u4 (.slice Af xf.length cf) _ xf rfl rfl (HO.out.bel ((bel_refl wr).alloc _)) (HF.out _) (by simp; have := hbase.out; omega) (by have := HLn.out; omega) ?_); intro v1 w1 HO1 HB2 hg1 hat1; clear hg1 hat1)
          all_goals try (exfalso; omega)
          exact ⟨⟨k + 1, by omega, by go_num, hide ((HI.out.alloc _).below HB2 (by omega)), hide (by rw [HFl.out, ← List.append_assoc]; exact HO1), hide (by rw [HP.out, HAl.out, HZ.out]; rfl), hide (by rw [HFl.out, ← List.append_assoc, List.length_append]; have := HLn.out; omega)⟩, by simp [intOf]; omega⟩
        · obtain rfl : k = c.devices.length := by omega
          have HDA := hide (show c.devices.all (devMay c) = true by rw [← HAl.out, List.take_length])
          rw [List.take_length] at HO HLn
          have HO : Hid (kInt.Own 3 (g + 1) wr u4 (allFrames c)) := HO
          have HLn : Hid ((allFrames c).length ≤ 256 + 5 * c.devices.length) := HLn
          clear HAl HQ2 hA2
          have HE2 := hide (show res = !(anyL (onceStep c.frames) (allFrames c) []).1 by rw [HE.out, HPA.out, HDA.out]; rfl)
          generalize allFrames c = all at HO HLn HE2
          have hall : all.length ≤ 276 := by have := HLn.out; omega
          obtain ⟨A, b, o, cc, hu, hl1, hl2, hA, hrows⟩ := HO.out.sl.form
          have hrows := hide hrows
          have huh := hide hu
          subst hu
          clear HLn HE HPA HDA HM
          obtain ⟨n, hn⟩ : ∃ n : Nat, c.frames = n := ⟨c.frames.toNat, by omega⟩
          have HX0 := hide (show W1.cell? ⟨w.heap.size, 0, none⟩ = some (.int .i64 (n : Int)) by rw [← hn]; exact HX.out.k0)
          rw [hn] at HE2 hf1 hf2
          clear HX hn
          go_wp2_with fail
          clear k1 k2
          go_loopw [8] (fun t W => ∃ (k : Nat) (s : List Int), k ≤ all.length ∧ t = .int .i64 k ∧ Hid (Marks W1 g 64 170 (has s) W) ∧ Hid (kInt.Own 3 (g + 1) W (.slice A all.length cc) all) ∧ Hid (anyL (onceStep n) (all.drop k) s = anyL (onceStep n) all [])) (fun t _ => all.length - (intOf t).toNat)
          case atStart => exact ⟨0, [], Nat.zero_le _, rfl, hide (HI.out.congr fun i _ => by simp [has]), HO, hide rfl⟩
          case round =>
            obtain ⟨k, s, hk, rfl, HI, HO, HW⟩ := hrel
            by_cases hlt : k < all.length
            · obtain ⟨e0, hk0, y0⟩ := (hrows.out wr HO.out.sl).get1 rfl hlt
              obtain ⟨hk0, -⟩ := hk0
              simp only [List.cons.injEq, and_true] at hk0
              subst hk0
              have HP := hide (show anyL (onceStep n) (all.drop k) s = if (onceStep n s all[k]).1 then (true, (onceStep n s all[k]).2) else anyL (onceStep n) (all.drop (k + 1)) (onceStep n s all[k]).2 by rw [drop_cons hlt]; rfl)
              generalize all[k] = y at y0 HP
              obtain rfl := hA (by omega)
              have m0 := HI.out.bel.cell HX0.out
              have HId := hide HI.out.drew
              have HOd := hide (HO.out.bel (bel_refl wr).drew)
              have j0 : (0 : Int) ≤ (k : Int) := by omega
              have j1 : (k : Int) < (all.length : Int) := by omega
              by_cases g1 : y < 0
              · have HS := hide (show onceStep n s y = (true, s) by simp [onceStep, show ¬ 0 ≤ y by omega])
                go_wp2_with fail
                refine wp_region_held_drew (S := fun w' => w'.cell? ⟨b, o + k, none⟩ = some (.int .i64 y) ∧ w'.cell? ⟨w.heap.size, 0, none⟩ = some (.int .i64 (n : Int))) (by kernel_rfl) ?_ (fun hHeld => ?_)
                · exact ⟨y0, m0⟩
                refine hT (i := 0) (v := ?_) rfl (by kernel_rfl) (fun _ _ _ h => h) (by rfl) ?_ hHeld ?_
                rotate_left
                · (intro w_ hw_; (try dsimp only at hw_); go_simp; try with_reducible rfl)
                simp only [Act.put, List.setIfInBounds_toArray, List.set_cons_zero, List.set_cons_succ, List.getElem_toArray, List.getElem_cons_zero]
                refine hT (i := 1) (v := ?_) rfl (by kernel_rfl) (fun _ _ _ h => h) (by rfl) ?_ hHeld ?_
                rotate_left
                · (intro w_ hw_; (try dsimp only at hw_); go_simp; try with_reducible rfl)
                simp only [Act.put, List.setIfInBounds_toArray, List.set_cons_zero, List.set_cons_succ, List.getElem_toArray, List.getElem_cons_zero, List.getElem_cons_succ]
                refine hT (i := 2) (v := ?_) rfl (by kernel_rfl) (fun _ _ _ h => h) (by rfl) ?_ hHeld ?_
                rotate_left
                · (intro w_ hw_; (try dsimp only at hw_); go_simp; try with_reducible rfl)
                simp only [Act.put, List.setIfInBounds_toArray, List.set_cons_zero, List.set_cons_succ, List.getElem_toArray, List.getElem_cons_zero, List.getElem_cons_succ]
                refine hT (i := 3) (v := ?_) rfl (by kernel_rfl) (fun _ _ _ h => h) (by rfl) ?_ hHeld ?_
                rotate_left
                · (intro w_ hw_; (try dsimp only at hw_); go_simp; try with_reducible rfl)
                simp only [Act.put, List.setIfInBounds_toArray, List.set_cons_zero, List.set_cons_succ, List.getElem_toArray, List.getElem_cons_zero, List.getElem_cons_succ]
                refine hT (i := 4) (v := ?_) rfl (by kernel_rfl) (fun _ _ _ h => h) (by rfl) ?_ hHeld ?_
                rotate_left
                · (intro w_ hw_; (try dsimp only at hw_); go_simp; try with_reducible rfl)
                simp only [Act.put, List.setIfInBounds_toArray, List.set_cons_zero, List.set_cons_succ, List.getElem_toArray, List.getElem_cons_zero, List.getElem_cons_succ]
                refine hT (i := 5) (v := ?_) rfl (by kernel_rfl) (fun _ _ _ h => h) (by rfl) ?_ hHeld ?_
                rotate_left
                · (intro w_ hw_; (try dsimp only at hw_); go_simp; try with_reducible rfl)
                simp only [Act.put, List.setIfInBounds_toArray, List.set_cons_zero, List.set_cons_succ, List.getElem_toArray, List.getElem_cons_zero, List.getElem_cons_succ]
                refine hN (i := 6) rfl (by kernel_rfl) (fun _ _ _ h => h) (by rfl) hHeld ?_
                simp only [Act.put, List.setIfInBounds_toArray, List.set_cons_zero, List.set_cons_succ, List.getElem_toArray, List.getElem_cons_zero, List.getElem_cons_succ]
                refine hN (i := 7) rfl (by kernel_rfl) (fun _ _ _ h => h) (by rfl) hHeld ?_
                simp only [Act.put, List.setIfInBounds_toArray, List.set_cons_zero, List.set_cons_succ, List.getElem_toArray, List.getElem_cons_zero, List.getElem_cons_succ]
                refine hN (i := 8) rfl (by kernel_rfl) (fun _ _ _ h => h) (by rfl) hHeld ?_
                simp only [Act.put, List.setIfInBounds_toArray, List.set_cons_zero, List.set_cons_succ, List.getElem_toArray, List.getElem_cons_zero, List.getElem_cons_succ]
                refine hN (i := 9) rfl (by kernel_rfl) (fun _ _ _ h => h) (by rfl) hHeld ?_
                simp only [Act.put, List.setIfInBounds_toArray, List.set_cons_zero, List.set_cons_succ, List.getElem_toArray, List.getElem_cons_zero, List.getElem_cons_succ]
                refine hN (i := 10) rfl (by kernel_rfl) (fun _ _ _ h => h) (by rfl) hHeld ?_
                simp only [Act.put, List.setIfInBounds_toArray, List.set_cons_zero, List.set_cons_succ, List.getElem_toArray, List.getElem_cons_zero, List.getElem_cons_succ]
                refine hN (i := 11) rfl (by kernel_rfl) (fun _ _ _ h => h) (by rfl) hHeld ?_
                simp only [Act.put, List.setIfInBounds_toArray, List.set_cons_zero, List.set_cons_succ, List.getElem_toArray, List.getElem_cons_zero, List.getElem_cons_succ]
                refine hN (i := 12) rfl (by kernel_rfl) (fun _ _ _ h => h) (by rfl) hHeld ?_
                simp only [Act.put, List.setIfInBounds_toArray, List.set_cons_zero, List.set_cons_succ, List.getElem_toArray, List.getElem_cons_zero, List.getElem_cons_succ]
                refine hT (i := 13) (v := ?_) rfl (by kernel_rfl) (fun _ _ _ h => h) (by rfl) ?_ hHeld ?_
                rotate_left
                · (intro w_ hw_; (try dsimp only at hw_); go_simp; try with_reducible rfl)
                simp only [Act.put, List.setIfInBounds_toArray, List.set_cons_zero, List.set_cons_succ, List.getElem_toArray, List.getElem_cons_zero, List.getElem_cons_succ]
                refine hT (i := 14) (v := ?_) rfl (by kernel_rfl) (fun _ _ _ h => h) (by rfl) ?_ hHeld ?_
                rotate_left
                · (intro w_ hw_; (try dsimp only at hw_); go_simp; try with_reducible rfl)
                simp only [Act.put, List.setIfInBounds_toArray, List.set_cons_zero, List.set_cons_succ, List.getElem_toArray, List.getElem_cons_zero, List.getElem_cons_succ]
                refine hN (i := 15) rfl (by kernel_rfl) (fun _ _ _ h => h) (by rfl) hHeld ?_
                simp only [Act.put, List.setIfInBounds_toArray, List.set_cons_zero, List.set_cons_succ, List.getElem_toArray, List.getElem_cons_zero, List.getElem_cons_succ]
                refine hN (i := 16) rfl (by kernel_rfl) (fun _ _ _ h => h) (by rfl) hHeld ?_
                simp only [Act.put, List.setIfInBounds_toArray, List.set_cons_zero, List.set_cons_succ, List.getElem_toArray, List.getElem_cons_zero, List.getElem_cons_succ]
                refine hN (i := 17) rfl (by kernel_rfl) (fun _ _ _ h => h) (by rfl) hHeld ?_
                simp only [Act.put, List.setIfInBounds_toArray, List.set_cons_zero, List.set_cons_succ, List.getElem_toArray, List.getElem_cons_zero, List.getElem_cons_succ]
                refine hN (i := 18) rfl (by kernel_rfl) (fun _ _ _ h => h) (by rfl) hHeld ?_
                simp only [Act.put, List.setIfInBounds_toArray, List.set_cons_zero, List.set_cons_succ, List.getElem_toArray, List.getElem_cons_zero, List.getElem_cons_succ]
                refine hN (i := 19) rfl (by kernel_rfl) (fun _ _ _ h => h) (by rfl) hHeld ?_
                simp only [Act.put, List.setIfInBounds_toArray, List.set_cons_zero, List.set_cons_succ, List.getElem_toArray, List.getElem_cons_zero, List.getElem_cons_succ]
                refine hN (i := 20) rfl (by kernel_rfl) (fun _ _ _ h => h) (by rfl) hHeld ?_
                simp only [Act.put, List.setIfInBounds_toArray, List.set_cons_zero, List.set_cons_succ, List.getElem_toArray, List.getElem_cons_zero, List.getElem_cons_succ]
                refine hT (i := 21) (v := ?_) rfl (by kernel_rfl) (fun _ _ _ h => h) (by rfl) ?_ hHeld ?_
                rotate_left
                · (intro w_ hw_; (try dsimp only at hw_); go_simp; try with_reducible rfl)
                simp only [Act.put, List.setIfInBounds_toArray, List.set_cons_zero, List.set_cons_succ, List.getElem_toArray, List.getElem_cons_zero, List.getElem_cons_succ]
                refine wpAnyH_done (by kernel_rfl) ?_ _
                clear hHeld
                go_wp2_with fail
                go_ret
                rw [HE2.out, ← HW.out, HP.out, HS.out]
                exact ⟨rfl, Bel.trans HB1.out HId.out.bel⟩
              obtain ⟨yn, rfl⟩ : ∃ yn : Nat, y = yn := ⟨y.toNat, by omega⟩
              clear g1
              by_cases g2 : (n : Int) ≤ (yn : Int)
              · have HS := hide (show onceStep n s yn = (true, s) by simp [onceStep, show ¬ (yn : Nat) < n by omega])
                go_wp2_with fail
                have hd1 : decide ((yn : Int) < 0) = false := decide_eq_false (by omega)
                have hd2 : decide (n ≤ yn) = true := decide_eq_true (by omega)
                refine wp_region_held_drew (S := fun w' => w'.cell? ⟨b, o + k, none⟩ = some (.int .i64 (yn : Int)) ∧ w'.cell? ⟨w.heap.size, 0, none⟩ = some (.int .i64 (n : Int))) (by kernel_rfl) ?_ (fun hHeld => ?_)
                · exact ⟨y0, m0⟩
                refine hT (i := 0) (v := ?_) rfl (by kernel_rfl) (fun _ _ _ h => h) (by rfl) ?_ hHeld ?_
                rotate_left
                · (intro w_ hw_; (try dsimp only at hw_); go_simp; try with_reducible rfl)
                simp only [Act.put, List.setIfInBounds_toArray, List.set_cons_zero, List.set_cons_succ, List.getElem_toArray, List.getElem_cons_zero]
                refine hT (i := 1) (v := ?_) rfl (by kernel_rfl) (fun _ _ _ h => h) (by rfl) ?_ hHeld ?_
                rotate_left
                · (intro w_ hw_; (try dsimp only at hw_); go_simp; try with_reducible rfl)
                simp only [Act.put, List.setIfInBounds_toArray, List.set_cons_zero, List.set_cons_succ, List.getElem_toArray, List.getElem_cons_zero, List.getElem_cons_succ]
                refine hT (i := 2) (v := ?_) rfl (by kernel_rfl) (fun _ _ _ h => h) (by rfl) ?_ hHeld ?_
                rotate_left
                · (intro w_ hw_; (try dsimp only at hw_); go_simp; try with_reducible rfl)
                simp only [Act.put, List.setIfInBounds_toArray, List.set_cons_zero, List.set_cons_succ, List.getElem_toArray, List.getElem_cons_zero, List.getElem_cons_succ]
                refine hT (i := 3) (v := ?_) rfl (by kernel_rfl) (fun _ _ _ h => h) (by rfl) ?_ hHeld ?_
                rotate_left
                · (intro w_ hw_; (try dsimp only at hw_); go_simp; try with_reducible rfl)
                simp only [Act.put, List.setIfInBounds_toArray, List.set_cons_zero, List.set_cons_succ, List.getElem_toArray, List.getElem_cons_zero, List.getElem_cons_succ]
                refine hT (i := 4) (v := ?_) rfl (by kernel_rfl) (fun _ _ _ h => h) (by rfl) ?_ hHeld ?_
                rotate_left
                · (intro w_ hw_; (try dsimp only at hw_); go_simp; try with_reducible rfl)
                simp only [Act.put, List.setIfInBounds_toArray, List.set_cons_zero, List.set_cons_succ, List.getElem_toArray, List.getElem_cons_zero, List.getElem_cons_succ]
                refine hT (i := 5) (v := ?_) rfl (by kernel_rfl) (fun _ _ _ h => h) (by rfl) ?_ hHeld ?_
                rotate_left
                · (intro w_ hw_; (try dsimp only at hw_); go_simp; try with_reducible rfl)
                simp only [Act.put, List.setIfInBounds_toArray, List.set_cons_zero, List.set_cons_succ, List.getElem_toArray, List.getElem_cons_zero, List.getElem_cons_succ]
                refine hT (i := 6) (v := ?_) rfl (by kernel_rfl) (fun _ _ _ h => h) (by rfl) ?_ hHeld ?_
                rotate_left
                · (intro w_ hw_; (try dsimp only at hw_); go_simp; try with_reducible rfl)
                simp only [Act.put, List.setIfInBounds_toArray, List.set_cons_zero, List.set_cons_succ, List.getElem_toArray, List.getElem_cons_zero, List.getElem_cons_succ]
                refine hT (i := 7) (v := ?_) rfl (by kernel_rfl) (fun _ _ _ h => h) (by rfl) ?_ hHeld ?_
                rotate_left
                · (intro w_ hw_; (try dsimp only at hw_); go_simp; try with_reducible rfl)
                simp only [Act.put, List.setIfInBounds_toArray, List.set_cons_zero, List.set_cons_succ, List.getElem_toArray, List.getElem_cons_zero, List.getElem_cons_succ]
                refine hT (i := 8) (v := ?_) rfl (by kernel_rfl) (fun _ _ _ h => h) (by rfl) ?_ hHeld ?_
                rotate_left
                · (intro w_ hw_; (try dsimp only at hw_); go_simp; try with_reducible rfl)
                simp only [Act.put, List.setIfInBounds_toArray, List.set_cons_zero, List.set_cons_succ, List.getElem_toArray, List.getElem_cons_zero, List.getElem_cons_succ]
                refine hT (i := 9) (v := ?_) rfl (by kernel_rfl) (fun _ _ _ h => h) (by rfl) ?_ hHeld ?_
                rotate_left
                · (intro w_ hw_; (try dsimp only at hw_); go_simp; try with_reducible rfl)
                simp only [Act.put, List.setIfInBounds_toArray, List.set_cons_zero, List.set_cons_succ, List.getElem_toArray, List.getElem_cons_zero, List.getElem_cons_succ]
                refine hT (i := 10) (v := ?_) rfl (by kernel_rfl) (fun _ _ _ h => h) (by rfl) ?_ hHeld ?_
                rotate_left
                · (intro w_ hw_; (try dsimp only at hw_); go_simp; try with_reducible rfl)
                simp only [Act.put, List.setIfInBounds_toArray, List.set_cons_zero, List.set_cons_succ, List.getElem_toArray, List.getElem_cons_zero, List.getElem_cons_succ]
                refine hT (i := 11) (v := ?_) rfl (by kernel_rfl) (fun _ _ _ h => h) (by rfl) ?_ hHeld ?_
                rotate_left
                · (intro w_ hw_; (try dsimp only at hw_); go_simp; try with_reducible rfl)
                simp only [Act.put, List.setIfInBounds_toArray, List.set_cons_zero, List.set_cons_succ, List.getElem_toArray, List.getElem_cons_zero, List.getElem_cons_succ]
                refine hT (i := 12) (v := ?_) rfl (by kernel_rfl) (fun _ _ _ h => h) (by rfl) ?_ hHeld ?_
                rotate_left
                · (intro w_ hw_; (try dsimp only at hw_); go_simp; try with_reducible rfl)
                simp only [Act.put, List.setIfInBounds_toArray, List.set_cons_zero, List.set_cons_succ, List.getElem_toArray, List.getElem_cons_zero, List.getElem_cons_succ]
                refine hT (i := 13) (v := ?_) rfl (by kernel_rfl) (fun _ _ _ h => h) (by rfl) ?_ hHeld ?_
                rotate_left
                · (intro w_ hw_; (try dsimp only at hw_); go_simp; try with_reducible rfl)
                simp only [Act.put, List.setIfInBounds_toArray, List.set_cons_zero, List.set_cons_succ, List.getElem_toArray, List.getElem_cons_zero, List.getElem_cons_succ]
                refine hT (i := 14) (v := ?_) rfl (by kernel_rfl) (fun _ _ _ h => h) (by rfl) ?_ hHeld ?_
                rotate_left
                · (intro w_ hw_; (try dsimp only at hw_); go_simp; try with_reducible rfl)
                simp only [Act.put, List.setIfInBounds_toArray, List.set_cons_zero, List.set_cons_succ, List.getElem_toArray, List.getElem_cons_zero, List.getElem_cons_succ]
                refine hN (i := 15) rfl (by kernel_rfl) (fun _ _ _ h => h) (by rfl) hHeld ?_
                simp only [Act.put, List.setIfInBounds_toArray, List.set_cons_zero, List.set_cons_succ, List.getElem_toArray, List.getElem_cons_zero, List.getElem_cons_succ]
                refine hN (i := 16) rfl (by kernel_rfl) (fun _ _ _ h => h) (by rfl) hHeld ?_
                simp only [Act.put, List.setIfInBounds_toArray, List.set_cons_zero, List.set_cons_succ, List.getElem_toArray, List.getElem_cons_zero, List.getElem_cons_succ]
                refine hN (i := 17) rfl (by kernel_rfl) (fun _ _ _ h => h) (by rfl) hHeld ?_
                simp only [Act.put, List.setIfInBounds_toArray, List.set_cons_zero, List.set_cons_succ, List.getElem_toArray, List.getElem_cons_zero, List.getElem_cons_succ]
                refine hN (i := 18) rfl (by kernel_rfl) (fun _ _ _ h => h) (by rfl) hHeld ?_
                simp only [Act.put, List.setIfInBounds_toArray, List.set_cons_zero, List.set_cons_succ, List.getElem_toArray, List.getElem_cons_zero, List.getElem_cons_succ]
                refine hN (i := 19) rfl (by kernel_rfl) (fun _ _ _ h => h) (by rfl) hHeld ?_
                simp only [Act.put, List.setIfInBounds_toArray, List.set_cons_zero, List.set_cons_succ, List.getElem_toArray, List.getElem_cons_zero, List.getElem_cons_succ]
                refine hN (i := 20) rfl (by kernel_rfl) (fun _ _ _ h => h) (by rfl) hHeld ?_
                simp only [Act.put, List.setIfInBounds_toArray, List.set_cons_zero, List.set_cons_succ, List.getElem_toArray, List.getElem_cons_zero, List.getElem_cons_succ]
                refine hT (i := 21) (v := ?_) rfl (by kernel_rfl) (fun _ _ _ h => h) (by rfl) ?_ hHeld ?_
                rotate_left
                · (intro w_ hw_; (try dsimp only at hw_); go_simp; try with_reducible rfl)
                simp only [Act.put, List.setIfInBounds_toArray, List.set_cons_zero, List.set_cons_succ, List.getElem_toArray, List.getElem_cons_zero, List.getElem_cons_succ]
                refine wpAnyH_done (by kernel_rfl) ?_ _
                clear hHeld
                go_wp2_with fail
                go_ret
                rw [HE2.out, ← HW.out, HP.out, HS.out]
                exact ⟨rfl, Bel.trans HB1.out HId.out.bel⟩
              have g3 : (yn : Int) < 64 := by omega
              have m1 := HI.out.cell (k := yn) (by omega)
              have m2 := HId.out.free yn
              cases g4 : has s (yn : Int)
              · have HS := hide (show onceStep n s yn = (false, (yn : Int) :: s) by simp [onceStep, g4]; omega)
                rw [g4] at m1
                have HS2 := hide ((HId.out.set yn).congr (f' := has ((yn : Int) :: s)) fun i _ => by simp [has])
                have HO2 := hide (HOd.out.far kInt_pure (grown_set wr.drew ⟨g, yn, none⟩ (.bool true)) fun k hk => by have := (HOd.out.block k hk).1; simp; omega)
                clear g4
                go_wp2_with fail
                have hd1 : decide ((yn : Int) < 0) = false := decide_eq_false (by omega)
                have hd2 : decide (n ≤ yn) = false := decide_eq_false (by omega)
                refine wp_region_held_drew (S := fun w' => w'.cell? ⟨b, o + k, none⟩ = some (.int .i64 (yn : Int)) ∧ w'.cell? ⟨w.heap.size, 0, none⟩ = some (.int .i64 (n : Int)) ∧ w'.cell? ⟨g, yn, none⟩ = some (.bool false)) (by kernel_rfl) ?_ (fun hHeld => ?_)
                · exact ⟨y0, m0, m1⟩
                refine hT (i := 0) (v := ?_) rfl (by kernel_rfl) (fun _ _ _ h => h) (by rfl) ?_ hHeld ?_
                rotate_left
                · (intro w_ hw_; (try dsimp only at hw_); go_simp; try with_reducible rfl)
                simp only [Act.put, List.setIfInBounds_toArray, List.set_cons_zero, List.set_cons_succ, List.getElem_toArray, List.getElem_cons_zero]
                refine hT (i := 1) (v := ?_) rfl (by kernel_rfl) (fun _ _ _ h => h) (by rfl) ?_ hHeld ?_
                rotate_left
                · (intro w_ hw_; (try dsimp only at hw_); go_simp; try with_reducible rfl)
                simp only [Act.put, List.setIfInBounds_toArray, List.set_cons_zero, List.set_cons_succ, List.getElem_toArray, List.getElem_cons_zero, List.getElem_cons_succ]
                refine hT (i := 2) (v := ?_) rfl (by kernel_rfl) (fun _ _ _ h => h) (by rfl) ?_ hHeld ?_
                rotate_left
                · (intro w_ hw_; (try dsimp only at hw_); go_simp; try with_reducible rfl)
                simp only [Act.put, List.setIfInBounds_toArray, List.set_cons_zero, List.set_cons_succ, List.getElem_toArray, List.getElem_cons_zero, List.getElem_cons_succ]
                refine hT (i := 3) (v := ?_) rfl (by kernel_rfl) (fun _ _ _ h => h) (by rfl) ?_ hHeld ?_
                rotate_left
                · (intro w_ hw_; (try dsimp only at hw_); go_simp; try with_reducible rfl)
                simp only [Act.put, List.setIfInBounds_toArray, List.set_cons_zero, List.set_cons_succ, List.getElem_toArray, List.getElem_cons_zero, List.getElem_cons_succ]
                refine hT (i := 4) (v := ?_) rfl (by kernel_rfl) (fun _ _ _ h => h) (by rfl) ?_ hHeld ?_
                rotate_left
                · (intro w_ hw_; (try dsimp only at hw_); go_simp; try with_reducible rfl)
                simp only [Act.put, List.setIfInBounds_toArray, List.set_cons_zero, List.set_cons_succ, List.getElem_toArray, List.getElem_cons_zero, List.getElem_cons_succ]
                refine hT (i := 5) (v := ?_) rfl (by kernel_rfl) (fun _ _ _ h => h) (by rfl) ?_ hHeld ?_
                rotate_left
                · (intro w_ hw_; (try dsimp only at hw_); go_simp; try with_reducible rfl)
                simp only [Act.put, List.setIfInBounds_toArray, List.set_cons_zero, List.set_cons_succ, List.getElem_toArray, List.getElem_cons_zero, List.getElem_cons_succ]
                refine hT (i := 6) (v := ?_) rfl (by kernel_rfl) (fun _ _ _ h => h) (by rfl) ?_ hHeld ?_
                rotate_left
                · (intro w_ hw_; (try dsimp only at hw_); go_simp; try with_reducible rfl)
                simp only [Act.put, List.setIfInBounds_toArray, List.set_cons_zero, List.set_cons_succ, List.getElem_toArray, List.getElem_cons_zero, List.getElem_cons_succ]
                refine hT (i := 7) (v := ?_) rfl (by kernel_rfl) (fun _ _ _ h => h) (by rfl) ?_ hHeld ?_
                rotate_left
                · (intro w_ hw_; (try dsimp only at hw_); go_simp; try with_reducible rfl)
                simp only [Act.put, List.setIfInBounds_toArray, List.set_cons_zero, List.set_cons_succ, List.getElem_toArray, List.getElem_cons_zero, List.getElem_cons_succ]
                refine hT (i := 8) (v := ?_) rfl (by kernel_rfl) (fun _ _ _ h => h) (by rfl) ?_ hHeld ?_
                rotate_left
                · (intro w_ hw_; (try dsimp only at hw_); go_simp; try with_reducible rfl)
                simp only [Act.put, List.setIfInBounds_toArray, List.set_cons_zero, List.set_cons_succ, List.getElem_toArray, List.getElem_cons_zero, List.getElem_cons_succ]
                refine hT (i := 9) (v := ?_) rfl (by kernel_rfl) (fun _ _ _ h => h) (by rfl) ?_ hHeld ?_
                rotate_left
                · (intro w_ hw_; (try dsimp only at hw_); go_simp; try with_reducible rfl)
                simp only [Act.put, List.setIfInBounds_toArray, List.set_cons_zero, List.set_cons_succ, List.getElem_toArray, List.getElem_cons_zero, List.getElem_cons_succ]
                refine hT (i := 10) (v := ?_) rfl (by kernel_rfl) (fun _ _ _ h => h) (by rfl) ?_ hHeld ?_
                rotate_left
                · (intro w_ hw_; (try dsimp only at hw_); go_simp; try with_reducible rfl)
                simp only [Act.put, List.setIfInBounds_toArray, List.set_cons_zero, List.set_cons_succ, List.getElem_toArray, List.getElem_cons_zero, List.getElem_cons_succ]
                refine hT (i := 11) (v := ?_) rfl (by kernel_rfl) (fun _ _ _ h => h) (by rfl) ?_ hHeld ?_
                rotate_left
                · (intro w_ hw_; (try dsimp only at hw_); go_simp; try with_reducible rfl)
                simp only [Act.put, List.setIfInBounds_toArray, List.set_cons_zero, List.set_cons_succ, List.getElem_toArray, List.getElem_cons_zero, List.getElem_cons_succ]
                refine hT (i := 12) (v := ?_) rfl (by kernel_rfl) (fun _ _ _ h => h) (by rfl) ?_ hHeld ?_
                rotate_left
                · (intro w_ hw_; (try dsimp only at hw_); go_simp; try with_reducible rfl)
                simp only [Act.put, List.setIfInBounds_toArray, List.set_cons_zero, List.set_cons_succ, List.getElem_toArray, List.getElem_cons_zero, List.getElem_cons_succ]
                refine hT (i := 13) (v := ?_) rfl (by kernel_rfl) (fun _ _ _ h => h) (by rfl) ?_ hHeld ?_
                rotate_left
                · (intro w_ hw_; (try dsimp only at hw_); go_simp; try with_reducible rfl)
                simp only [Act.put, List.setIfInBounds_toArray, List.set_cons_zero, List.set_cons_succ, List.getElem_toArray, List.getElem_cons_zero, List.getElem_cons_succ]
                refine hT (i := 14) (v := ?_) rfl (by kernel_rfl) (fun _ _ _ h => h) (by rfl) ?_ hHeld ?_
                rotate_left
                · (intro w_ hw_; (try dsimp only at hw_); go_simp; try with_reducible rfl)
                simp only [Act.put, List.setIfInBounds_toArray, List.set_cons_zero, List.set_cons_succ, List.getElem_toArray, List.getElem_cons_zero, List.getElem_cons_succ]
                refine hT (i := 15) (v := ?_) rfl (by kernel_rfl) (fun _ _ _ h => h) (by rfl) ?_ hHeld ?_
                rotate_left
                · (intro w_ hw_; (try dsimp only at hw_); go_simp; try with_reducible rfl)
                simp only [Act.put, List.setIfInBounds_toArray, List.set_cons_zero, List.set_cons_succ, List.getElem_toArray, List.getElem_cons_zero, List.getElem_cons_succ]
                refine hT (i := 16) (v := ?_) rfl (by kernel_rfl) (fun _ _ _ h => h) (by rfl) ?_ hHeld ?_
                rotate_left
                · (intro w_ hw_; (try dsimp only at hw_); go_simp; try with_reducible rfl)
                simp only [Act.put, List.setIfInBounds_toArray, List.set_cons_zero, List.set_cons_succ, List.getElem_toArray, List.getElem_cons_zero, List.getElem_cons_succ]
                refine hT (i := 17) (v := ?_) rfl (by kernel_rfl) (fun _ _ _ h => h) (by rfl) ?_ hHeld ?_
                rotate_left
                · (intro w_ hw_; (try dsimp only at hw_); go_simp; try with_reducible rfl)
                simp only [Act.put, List.setIfInBounds_toArray, List.set_cons_zero, List.set_cons_succ, List.getElem_toArray, List.getElem_cons_zero, List.getElem_cons_succ]
                refine hT (i := 18) (v := ?_) rfl (by kernel_rfl) (fun _ _ _ h => h) (by rfl) ?_ hHeld ?_
                rotate_left
                · (intro w_ hw_; (try dsimp only at hw_); go_simp; try with_reducible rfl)
                simp only [Act.put, List.setIfInBounds_toArray, List.set_cons_zero, List.set_cons_succ, List.getElem_toArray, List.getElem_cons_zero, List.getElem_cons_succ]
                refine hT (i := 19) (v := ?_) rfl (by kernel_rfl) (fun _ _ _ h => h) (by rfl) ?_ hHeld ?_
                rotate_left
                · (intro w_ hw_; (try dsimp only at hw_); go_simp; try with_reducible rfl)
                simp only [Act.put, List.setIfInBounds_toArray, List.set_cons_zero, List.set_cons_succ, List.getElem_toArray, List.getElem_cons_zero, List.getElem_cons_succ]
                refine hT (i := 20) (v := ?_) rfl (by kernel_rfl) (fun _ _ _ h => h) (by rfl) ?_ hHeld ?_
                rotate_left
                · (intro w_ hw_; (try dsimp only at hw_); go_simp; try with_reducible rfl)
                simp only [Act.put, List.setIfInBounds_toArray, List.set_cons_zero, List.set_cons_succ, List.getElem_toArray, List.getElem_cons_zero, List.getElem_cons_succ]
                refine hT (i := 21) (v := ?_) rfl (by kernel_rfl) (fun _ _ _ h => h) (by rfl) ?_ hHeld ?_
                rotate_left
                · (intro w_ hw_; (try dsimp only at hw_); go_simp; try with_reducible rfl)
                simp only [Act.put, List.setIfInBounds_toArray, List.set_cons_zero, List.set_cons_succ, List.getElem_toArray, List.getElem_cons_zero, List.getElem_cons_succ]
                refine wpAnyH_done (by kernel_rfl) ?_ _
                clear hHeld
                go_wp2_with fail
                exact ⟨⟨k + 1, (yn : Int) :: s, by omega, by go_num, HS2, HO2, hide (by rw [← HW.out, HP.out, HS.out]; rfl)⟩, by simp [intOf]; omega⟩
              · have HS := hide (show onceStep n s yn = (true, s) by simp [onceStep, g4])
                rw [g4] at m1
                clear g4
                go_wp2_with fail
                have hd1 : decide ((yn : Int) < 0) = false := decide_eq_false (by omega)
                have hd2 : decide (n ≤ yn) = false := decide_eq_false (by omega)
                refine wp_region_held_drew (S := fun w' => w'.cell? ⟨b, o + k, none⟩ = some (.int .i64 (yn : Int)) ∧ w'.cell? ⟨w.heap.size, 0, none⟩ = some (.int .i64 (n : Int)) ∧ w'.cell? ⟨g, yn, none⟩ = some (.bool true)) (by kernel_rfl) ?_ (fun hHeld => ?_)
                · exact ⟨y0, m0, m1⟩
                refine hT (i := 0) (v := ?_) rfl (by kernel_rfl) (fun _ _ _ h => h) (by rfl) ?_ hHeld ?_
                rotate_left
                · (intro w_ hw_; (try dsimp only at hw_); go_simp; try with_reducible rfl)
                simp only [Act.put, List.setIfInBounds_toArray, List.set_cons_zero, List.set_cons_succ, List.getElem_toArray, List.getElem_cons_zero]
                refine hT (i := 1) (v := ?_) rfl (by kernel_rfl) (fun _ _ _ h => h) (by rfl) ?_ hHeld ?_
                rotate_left
                · (intro w_ hw_; (try dsimp only at hw_); go_simp; try with_reducible rfl)
                simp only [Act.put, List.setIfInBounds_toArray, List.set_cons_zero, List.set_cons_succ, List.getElem_toArray, List.getElem_cons_zero, List.getElem_cons_succ]
                refine hT (i := 2) (v := ?_) rfl (by kernel_rfl) (fun _ _ _ h => h) (by rfl) ?_ hHeld ?_
                rotate_left
                · (intro w_ hw_; (try dsimp only at hw_); go_simp; try with_reducible rfl)
                simp only [Act.put, List.setIfInBounds_toArray, List.set_cons_zero, List.set_cons_succ, List.getElem_toArray, List.getElem_cons_zero, List.getElem_cons_succ]
                refine hT (i := 3) (v := ?_) rfl (by kernel_rfl) (fun _ _ _ h => h) (by rfl) ?_ hHeld ?_
                rotate_left
                · (intro w_ hw_; (try dsimp only at hw_); go_simp; try with_reducible rfl)
                simp only [Act.put, List.setIfInBounds_toArray, List.set_cons_zero, List.set_cons_succ, List.getElem_toArray, List.getElem_cons_zero, List.getElem_cons_succ]
                refine hT (i := 4) (v := ?_) rfl (by kernel_rfl) (fun _ _ _ h => h) (by rfl) ?_ hHeld ?_
                rotate_left
                · (intro w_ hw_; (try dsimp only at hw_); go_simp; try with_reducible rfl)
                simp only [Act.put, List.setIfInBounds_toArray, List.set_cons_zero, List.set_cons_succ, List.getElem_toArray, List.getElem_cons_zero, List.getElem_cons_succ]
                refine hT (i := 5) (v := ?_) rfl (by kernel_rfl) (fun _ _ _ h => h) (by rfl) ?_ hHeld ?_
                rotate_left
                · (intro w_ hw_; (try dsimp only at hw_); go_simp; try with_reducible rfl)
                simp only [Act.put, List.setIfInBounds_toArray, List.set_cons_zero, List.set_cons_succ, List.getElem_toArray, List.getElem_cons_zero, List.getElem_cons_succ]
                refine hT (i := 6) (v := ?_) rfl (by kernel_rfl) (fun _ _ _ h => h) (by rfl) ?_ hHeld ?_
                rotate_left
                · (intro w_ hw_; (try dsimp only at hw_); go_simp; try with_reducible rfl)
                simp only [Act.put, List.setIfInBounds_toArray, List.set_cons_zero, List.set_cons_succ, List.getElem_toArray, List.getElem_cons_zero, List.getElem_cons_succ]
                refine hT (i := 7) (v := ?_) rfl (by kernel_rfl) (fun _ _ _ h => h) (by rfl) ?_ hHeld ?_
                rotate_left
                · (intro w_ hw_; (try dsimp only at hw_); go_simp; try with_reducible rfl)
                simp only [Act.put, List.setIfInBounds_toArray, List.set_cons_zero, List.set_cons_succ, List.getElem_toArray, List.getElem_cons_zero, List.getElem_cons_succ]
                refine hT (i := 8) (v := ?_) rfl (by kernel_rfl) (fun _ _ _ h => h) (by rfl) ?_ hHeld ?_
                rotate_left
                · (intro w_ hw_; (try dsimp only at hw_); go_simp; try with_reducible rfl)
                simp only [Act.put, List.setIfInBounds_toArray, List.set_cons_zero, List.set_cons_succ, List.getElem_toArray, List.getElem_cons_zero, List.getElem_cons_succ]
                refine hT (i := 9) (v := ?_) rfl (by kernel_rfl) (fun _ _ _ h => h) (by rfl) ?_ hHeld ?_
                rotate_left
                · (intro w_ hw_; (try dsimp only at hw_); go_simp; try with_reducible rfl)
                simp only [Act.put, List.setIfInBounds_toArray, List.set_cons_zero, List.set_cons_succ, List.getElem_toArray, List.getElem_cons_zero, List.getElem_cons_succ]
                refine hT (i := 10) (v := ?_) rfl (by kernel_rfl) (fun _ _ _ h => h) (by rfl) ?_ hHeld ?_
                rotate_left
                · (intro w_ hw_; (try dsimp only at hw_); go_simp; try with_reducible rfl)
                simp only [Act.put, List.setIfInBounds_toArray, List.set_cons_zero, List.set_cons_succ, List.getElem_toArray, List.getElem_cons_zero, List.getElem_cons_succ]
                refine hT (i := 11) (v := ?_) rfl (by kernel_rfl) (fun _ _ _ h => h) (by rfl) ?_ hHeld ?_
                rotate_left
                · (intro w_ hw_; (try dsimp only at hw_); go_simp; try with_reducible rfl)
                simp only [Act.put, List.setIfInBounds_toArray, List.set_cons_zero, List.set_cons_succ, List.getElem_toArray, List.getElem_cons_zero, List.getElem_cons_succ]
                refine hT (i := 12) (v := ?_) rfl (by kernel_rfl) (fun _ _ _ h => h) (by rfl) ?_ hHeld ?_
                rotate_left
                · (intro w_ hw_; (try dsimp only at hw_); go_simp; try with_reducible rfl)
                simp only [Act.put, List.setIfInBounds_toArray, List.set_cons_zero, List.set_cons_succ, List.getElem_toArray, List.getElem_cons_zero, List.getElem_cons_succ]
                refine hT (i := 13) (v := ?_) rfl (by kernel_rfl) (fun _ _ _ h => h) (by rfl) ?_ hHeld ?_
                rotate_left
                · (intro w_ hw_; (try dsimp only at hw_); go_simp; try with_reducible rfl)
                simp only [Act.put, List.setIfInBounds_toArray, List.set_cons_zero, List.set_cons_succ, List.getElem_toArray, List.getElem_cons_zero, List.getElem_cons_succ]
                refine hT (i := 14) (v := ?_) rfl (by kernel_rfl) (fun _ _ _ h => h) (by rfl) ?_ hHeld ?_
                rotate_left
                · (intro w_ hw_; (try dsimp only at hw_); go_simp; try with_reducible rfl)
                simp only [Act.put, List.setIfInBounds_toArray, List.set_cons_zero, List.set_cons_succ, List.getElem_toArray, List.getElem_cons_zero, List.getElem_cons_succ]
                refine hT (i := 15) (v := ?_) rfl (by kernel_rfl) (fun _ _ _ h => h) (by rfl) ?_ hHeld ?_
                rotate_left
                · (intro w_ hw_; (try dsimp only at hw_); go_simp; try with_reducible rfl)
                simp only [Act.put, List.setIfInBounds_toArray, List.set_cons_zero, List.set_cons_succ, List.getElem_toArray, List.getElem_cons_zero, List.getElem_cons_succ]
                refine hT (i := 16) (v := ?_) rfl (by kernel_rfl) (fun _ _ _ h => h) (by rfl) ?_ hHeld ?_
                rotate_left
                · (intro w_ hw_; (try dsimp only at hw_); go_simp; try with_reducible rfl)
                simp only [Act.put, List.setIfInBounds_toArray, List.set_cons_zero, List.set_cons_succ, List.getElem_toArray, List.getElem_cons_zero, List.getElem_cons_succ]
                refine hT (i := 17) (v := ?_) rfl (by kernel_rfl) (fun _ _ _ h => h) (by rfl) ?_ hHeld ?_
                rotate_left
                · (intro w_ hw_; (try dsimp only at hw_); go_simp; try with_reducible rfl)
                simp only [Act.put, List.setIfInBounds_toArray, List.set_cons_zero, List.set_cons_succ, List.getElem_toArray, List.getElem_cons_zero, List.getElem_cons_succ]
                refine hT (i := 18) (v := ?_) rfl (by kernel_rfl) (fun _ _ _ h => h) (by rfl) ?_ hHeld ?_
                rotate_left
                · (intro w_ hw_; (try dsimp only at hw_); go_simp; try with_reducible rfl)
                simp only [Act.put, List.setIfInBounds_toArray, List.set_cons_zero, List.set_cons_succ, List.getElem_toArray, List.getElem_cons_zero, List.getElem_cons_succ]
                refine hT (i := 19) (v := ?_) rfl (by kernel_rfl) (fun _ _ _ h => h) (by rfl) ?_ hHeld ?_
                rotate_left
                · (intro w_ hw_; (try dsimp only at hw_); go_simp; try with_reducible rfl)
                simp only [Act.put, List.setIfInBounds_toArray, List.set_cons_zero, List.set_cons_succ, List.getElem_toArray, List.getElem_cons_zero, List.getElem_cons_succ]
                refine hT (i := 20) (v := ?_) rfl (by kernel_rfl) (fun _ _ _ h => h) (by rfl) ?_ hHeld ?_
                rotate_left
                · (intro w_ hw_; (try dsimp only at hw_); go_simp; try with_reducible rfl)
                simp only [Act.put, List.setIfInBounds_toArray, List.set_cons_zero, List.set_cons_succ, List.getElem_toArray, List.getElem_cons_zero, List.getElem_cons_succ]
                refine hT (i := 21) (v := ?_) rfl (by kernel_rfl) (fun _ _ _ h => h) (by rfl) ?_ hHeld ?_
                rotate_left
                · (intro w_ hw_; (try dsimp only at hw_); go_simp; try with_reducible rfl)
                simp only [Act.put, List.setIfInBounds_toArray, List.set_cons_zero, List.set_cons_succ, List.getElem_toArray, List.getElem_cons_zero, List.getElem_cons_succ]
                refine wpAnyH_done (by kernel_rfl) ?_ _
                clear hHeld
                go_wp2_with fail
                go_ret
                rw [HE2.out, ← HW.out, HP.out, HS.out]
                exact ⟨rfl, Bel.trans HB1.out HId.out.bel⟩
            · obtain rfl : k = all.length := by omega
              rw [List.drop_length] at HW
              go_wp2_with fail
              go_ret
              rw [HE2.out, ← HW.out]
              exact ⟨rfl, Bel.trans HB1.out HI.out.bel⟩
end Go.Proofs.Ythjhkbnajclcjaa
