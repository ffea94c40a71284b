/- view.Purge: the walk. -/
import Derived.Test.YthjhkbnajclcjaaStays
import Derived.Test.YthjhkbnajclcjaaReached
import Derived.Test.YthjhkbnajclcjaaDraw2
import Derived.Test.YthjhkbnajclcjaaSame
import Derived.Test.YthjhkbnajclcjaaCopy
set_option linter.unusedSimpArgs false
namespace Go.Proofs.Ythjhkbnajclcjaa
open Go.RowKit
theorem bool_row {base : Nat} {W : World} {v : Value} {xs : List Bool} (h : kBool.OwnS 4 base W v xs) (h0 : 0 < xs.length) : ∃ bt ct, v = .slice (some ⟨bt, 0, none⟩) xs.length ct ∧ base ≤ bt ∧ bt < W.heap.size ∧ ∀ q (hq : q < xs.length), W.cell? ⟨bt, q, none⟩ = some (.bool xs[q]) := by
  have hsl := h.seg.sl
  have hbl := h.block
  obtain ⟨inner, ho, -⟩ := h
  rcases ho.2 with ⟨rfl, hz⟩ | ⟨g, cap, cur, rfl, hb, hh, hn, hm, hs, ht⟩
  · omega
  · refine ⟨g, cap, rfl, hb, own_block_lt hh, fun q hq => ?_⟩
    obtain ⟨A, b, o, c, hv, -, -, hA, hr⟩ := hsl
    injection hv with hA' _ _
    have e := hA h0
    rw [← hA'] at e
    injection e with e
    injection e with e1 e2
    obtain ⟨c0, hk, hc⟩ := Kind.Row.get1 hr rfl hq
    have hk : [c0] = [Value.bool xs[q]] := hk
    simp only [List.cons.injEq, and_true] at hk
    rw [← e1, ← e2, Nat.zero_add, hk] at hc
    exact hc

set_option maxRecDepth 20000 in
set_option maxHeartbeats 16000000 in
theorem purge_p (w : World) (v vs : Value) (c : Config) (steps : List Step) (part : Int) (h : CfgV w v c) (hst : kStep.Sl w vs steps) (hF : steps.length * 64 ≤ 140737488351232) :
    Calls Try.prog 33 #[v, vs, .int .i64 part] w fun e w' => ∃ v' base, e = .returned (.tuple #[v', .int .i64 (purgeErr c part)]) ∧ w.heap.size ≤ base ∧ kStep.OwnS 59 base w' v' (purge c steps part) ∧ Bel w w' := by
  have HE : Hid (purgeOk c part = (mayCfg c && there c part)) := rfl
  have HP : Hid (purge c steps part = if purgeOk c part then purgeGo c part.toNat (initP c) steps else []) := rfl
  have HQ : Hid (purgeErr c part = if purgeOk c part then 0 else 2300) := rfl
  generalize purgeErr c part = res at HQ
  generalize purge c steps part = out at HP
  generalize purgeOk c part = ok at HE HP HQ
  obtain ⟨A1, A2, A3, A4, b1, o1, n1, b2, o2, n2, b3, o3, n3, b4, o4, n4, rfl, HC, HR1, HR2, HR3, HR4, HS1, HS2, HS3, HS4, hA1, hA2, hA3, hA4, hL1, hL2, hL3, hL4⟩ := h.parts4
  have HB0 := hide fun o => (bel_refl w).alloc o
  have HCB := hide fun W (hW : Bel (w.alloc (.cells #[.int .i64 c.frames, .slice A1 c.parts.length n1, .slice A2 c.devices.length n2, .int .i64 c.major, .slice A3 c.windows.length n3, .slice A4 c.grants.length n4, .int .i64 c.sectors, .int .i64 c.quota, .int .i64 c.quiet] 27)) W) => show kConfig.At W w.heap.size 0 c from by
    obtain ⟨cs, hcs, hk⟩ := HC.out
    injection hcs with hcs
    have hcs : cs = [.int .i64 c.frames, .slice A1 c.parts.length n1, .slice A2 c.devices.length n2, .int .i64 c.major, .slice A3 c.windows.length n3, .slice A4 c.grants.length n4, .int .i64 c.sectors, .int .i64 c.quota, .int .i64 c.quiet] := by simpa using congrArg Array.toList hcs.symm
    subst hcs
    exact cfg_box hk hW
  have hm := hide fun o => may_calls (w.alloc o) _ c (HC.out.bel (HB0.out o))
  have hth := hide fun W (hW : Bel (w.alloc _) W) => there_v W w.heap.size c part (HCB.out W hW)
  have HTI := hide (there_iff c part)
  have HMD := hide fun (h : mayCfg c = true) => And.intro (mayCfg_parts h) (mayCfg_devs h)
  have HOK := hide fun (h : mayCfg c = true) => initP_ok h
  clear h HR1 HR2 HR3 HR4 HS1 HS2 HS3 HS4 hA1 hA2 hA3 hA4
  cases qm : mayCfg c
  · rw [qm] at hm HE
    have HP := hide (show out = [] by rw [HP.out, HE.out]; rfl)
    have HQ := hide (show res = 2300 by rw [HQ.out, HE.out]; rfl)
    clear hth HMD HOK qm HTI
    go_enter Try.func33, Try.ntmps33
    go_wp2_with ((with_reducible refine (Hid.out hm _).mono ?_); rintro e w1 ⟨rfl, hi⟩)
    go_ret2
    rw [HP.out, HQ.out]
    exact ⟨_, w.heap.size, rfl, Nat.le_refl _, Kind.OwnS.nil _ _ _ _, Bel.trans (HB0.out _) hi⟩
  obtain ⟨⟨hp1, hp4⟩, hd1, hd4, hds, hq1, hq8⟩ := HMD.out qm
  have HOK := hide (HOK.out qm)
  rw [qm] at hm HE
  clear HMD qm
  cases qt : there c part
  · rw [qt] at hth HE
    have HP := hide (show out = [] by rw [HP.out, HE.out]; rfl)
    have HQ := hide (show res = 2300 by rw [HQ.out, HE.out]; rfl)
    clear HTI qt HOK hds
    go_enter Try.func33, Try.ntmps33
    go_wp2_with (first | ((with_reducible refine (Hid.out hm _).mono ?_); rintro e w1 ⟨rfl, hi⟩; have j1 := hide hi) | ((with_reducible refine (Hid.out hth _ j1.out).mono ?_); rintro e w2 ⟨rfl, rfl⟩))
    go_ret2
    rw [HP.out, HQ.out]
    exact ⟨_, w.heap.size, rfl, Nat.le_refl _, Kind.OwnS.nil _ _ _ _, Bel.trans (HB0.out _) j1.out⟩
  obtain ⟨pt0, pt1⟩ := HTI.out.1 qt
  rw [qt] at hth HE
  obtain ⟨t, rfl⟩ : ∃ t : Nat, part = t := ⟨part.toNat, by omega⟩
  have HP := hide (show out = purgeGo c t (initP c) steps by rw [HP.out, HE.out]; rfl)
  have HQ := hide (show res = 0 by rw [HQ.out, HE.out]; rfl)
  clear HTI qt HE
  have Hds := hide hds
  clear hds
  go_enter Try.func33, Try.ntmps33
  go_upto_region 3 with (first | ((with_reducible refine (Hid.out hm _).mono ?_); rintro e w1 ⟨rfl, hi⟩; have j1 := hide hi) | ((with_reducible refine (Hid.out hth _ j1.out).mono ?_); rintro e w2 ⟨rfl, rfl⟩))
  have HAt := hide fun W (hW : Bel w1 W) => HCB.out W (Bel.trans j1.out hW)
  have HBw1 := hide (Bel.trans (HB0.out _) j1.out)
  have hBlt := hide (show w.heap.size < w1.heap.size by have := j1.out.size; simp at this; omega)
  have how := hide fun W (hW : Bel w1 W) => owners_calls W w.heap.size c (HAt.out W hW) hd4
  have hnew := hide fun W v (hv : kInt.Sl W v (c.devices.map (·.part))) => tabNew W v (c.devices.map (·.part)) c.quiet c.parts.length hv ⟨hq1, hq8⟩ ⟨by omega, by omega⟩ ⟨by rw [List.length_map]; exact hd1, by rw [List.length_map]; exact hd4⟩ (fun x hx => by obtain ⟨d, hd, rfl⟩ := List.mem_map.1 hx; exact Hds.out d hd)
  have hd : Bel w1 w1.drew := (bel_refl w1).drew
  have HCE := hide fun W (hW : Bel w1 W) => show W.cell? ⟨w.heap.size, 1, none⟩ = some (.slice A1 c.parts.length n1) ∧ W.cell? ⟨w.heap.size, 8, none⟩ = some (.int .i64 c.quiet) from
    ⟨hW.cell (j1.out.cell (by go_simp)), hW.cell (j1.out.cell (by go_simp))⟩
  clear hi hm hth HCB HC
  refine wp_region_held_drew (S := fun w' => Bel w1 w' ∧ w'.cell? ⟨w.heap.size, 1, none⟩ = some (.slice A1 c.parts.length n1) ∧ w'.cell? ⟨w.heap.size, 8, none⟩ = some (.int .i64 c.quiet)) (by kernel_rfl) ?_ (fun hHeld => ?_)
  · exact ⟨hd, HCE.out _ hd⟩
  refine hT (i := 0) (v := ?_) rfl (by kernel_rfl) (fun _ _ _ h => h) (by rfl) ?_ hHeld ?_
  rotate_left
  · (intro w_ hw_; (try dsimp only at hw_); go_simp; try with_reducible rfl)
  simp only [Act.put, List.setIfInBounds_toArray, List.set_cons_zero, List.set_cons_succ, List.getElem_toArray, List.getElem_cons_zero]
  refine hT (i := 1) (v := ?_) rfl (by kernel_rfl) (fun _ _ _ h => h) (by rfl) ?_ hHeld ?_
  rotate_left
  · (intro w_ hw_; (try dsimp only at hw_); go_simp; try with_reducible rfl)
  simp only [Act.put, List.setIfInBounds_toArray, List.set_cons_zero, List.set_cons_succ, List.getElem_toArray, List.getElem_cons_zero, List.getElem_cons_succ]
  refine hT (i := 2) (v := ?_) rfl (by kernel_rfl) (fun _ _ _ h => h) (by rfl) ?_ hHeld ?_
  rotate_left
  · (intro w_ hw_; (try dsimp only at hw_); go_simp; try with_reducible rfl)
  simp only [Act.put, List.setIfInBounds_toArray, List.set_cons_zero, List.set_cons_succ, List.getElem_toArray, List.getElem_cons_zero, List.getElem_cons_succ]
  refine hT (i := 3) (v := ?_) rfl (by kernel_rfl) (fun _ _ _ h => h) (by rfl) ?_ hHeld ?_
  rotate_left
  · (intro w_ hw_; (try dsimp only at hw_); go_simp; try with_reducible rfl)
  simp only [Act.put, List.setIfInBounds_toArray, List.set_cons_zero, List.set_cons_succ, List.getElem_toArray, List.getElem_cons_zero, List.getElem_cons_succ]
  refine hT (i := 4) (v := ?_) rfl (by kernel_rfl) (fun _ _ _ h => h) (by rfl) ?_ hHeld ?_
  rotate_left
  · (intro w_ hw_; (try dsimp only at hw_); go_simp; try with_reducible rfl)
  simp only [Act.put, List.setIfInBounds_toArray, List.set_cons_zero, List.set_cons_succ, List.getElem_toArray, List.getElem_cons_zero, List.getElem_cons_succ]
  refine hE (i := 5) rfl (by kernel_rfl) (by rfl) (fun K hK => ?_)
  go_simp
  refine (how.out _ hHeld.1).mono ?_
  rintro e v5 ⟨vo, rfl, hvo, hi5⟩
  have j5 := hide (Bel.trans hHeld.1 hi5)
  have HVO := hide hvo
  refine hK.out _ _ ?_ (fun hHeld => ?_)
  · exact ⟨j5.out, HCE.out _ j5.out⟩
  clear hK K
  refine hE (i := 6) rfl (by kernel_rfl) (by rfl) (fun K hK => ?_)
  go_simp
  refine (hnew.out _ _ HVO.out).mono ?_
  rintro e v6 ⟨T, g, cap, rfl, htab, hTl, hgl, hi6⟩
  have j6 := hide (Bel.trans j5.out hi6)
  have HT := hide htab
  refine hK.out _ _ ?_ (fun hHeld => ?_)
  · exact ⟨j6.out, HCE.out _ j6.out⟩
  clear hK K
  refine hT (i := 7) (v := ?_) rfl (by kernel_rfl) (fun _ _ _ h => h) (by rfl) ?_ hHeld ?_
  rotate_left
  · (intro w_ hw_; (try dsimp only at hw_); go_simp; try with_reducible rfl)
  simp only [Act.put, List.setIfInBounds_toArray, List.set_cons_zero, List.set_cons_succ, List.getElem_toArray, List.getElem_cons_zero, List.getElem_cons_succ]
  refine hT (i := 8) (v := ?_) rfl (by kernel_rfl) (fun _ _ _ h => h) (by rfl) ?_ hHeld ?_
  rotate_left
  · (intro w_ hw_; (try dsimp only at hw_); go_simp; try with_reducible rfl)
  simp only [Act.put, List.setIfInBounds_toArray, List.set_cons_zero, List.set_cons_succ, List.getElem_toArray, List.getElem_cons_zero, List.getElem_cons_succ]
  refine hT (i := 9) (v := ?_) rfl (by kernel_rfl) (fun _ _ _ h => h) (by rfl) ?_ hHeld ?_
  rotate_left
  · (intro w_ hw_; (try dsimp only at hw_); go_simp; try with_reducible rfl)
  simp only [Act.put, List.setIfInBounds_toArray, List.set_cons_zero, List.set_cons_succ, List.getElem_toArray, List.getElem_cons_zero, List.getElem_cons_succ]
  refine hT (i := 10) (v := ?_) rfl (by kernel_rfl) (fun _ _ _ h => h) (by rfl) ?_ hHeld ?_
  rotate_left
  · (intro w_ hw_; (try dsimp only at hw_); go_simp; try with_reducible rfl)
  simp only [Act.put, List.setIfInBounds_toArray, List.set_cons_zero, List.set_cons_succ, List.getElem_toArray, List.getElem_cons_zero, List.getElem_cons_succ]
  refine hT (i := 11) (v := ?_) rfl (by kernel_rfl) (fun _ _ _ h => h) (by rfl) ?_ hHeld ?_
  rotate_left
  · (intro w_ hw_; (try dsimp only at hw_); go_simp; try with_reducible rfl)
  simp only [Act.put, List.setIfInBounds_toArray, List.set_cons_zero, List.set_cons_succ, List.getElem_toArray, List.getElem_cons_zero, List.getElem_cons_succ]
  refine wpAnyH_done (by kernel_rfl) ?_ _
  clear hHeld how hnew HCE hd
  go_upto_region 5 with fail
  obtain ⟨P, hP⟩ : ∃ P : Nat, P = v6.heap.size := ⟨_, rfl⟩
  obtain ⟨W7, hW7⟩ : ∃ W7 : World, W7 = v6.alloc (.cells #[.slice none 0 0, .pointer (some ⟨T, 0, none⟩), .int .i64 0] 133) := ⟨_, rfl⟩
  rw [← hW7, ← hP]
  have hsz7 : W7.heap.size = P + 1 := by rw [hW7, hP]; simp
  have HK7 := hide (show BlkAt W7 P [.slice none 0 0, .pointer (some ⟨T, 0, none⟩), .int .i64 0] 133 by rw [hW7, hP]; exact blk_new v6 [.slice none 0 0, .pointer (some ⟨T, 0, none⟩), .int .i64 0] 133)
  have hTP : T < P := by rw [hP]; exact HT.out.hd.lt
  have hgP : g < P := by rw [hP]; exact HT.out.glt
  have HT7 := hide (show TabAt W7 T g cap c.quiet c.parts.length (initP c).tab by
    rw [hW7]
    have h := HT.out.bel ((bel_refl v6).alloc (.cells #[.slice none 0 0, .pointer (some ⟨T, 0, none⟩), .int .i64 0] 133))
    rw [List.map_map] at h
    exact h)
  have HB7 := hide (show Bel w1 W7 by rw [hW7]; exact j6.out.alloc _)
  have hP1 : w1.heap.size ≤ P := by rw [hP]; exact j6.out.size
  have hbt := hBlt.out
  have hg1 : w1.heap.size ≤ g := Nat.le_trans j5.out.size hgl
  have HAt := hide fun W (hU : Turn P P W7 W) => HAt.out W (hU.bel HB7.out hP1 hP1)
  clear hW7 hP HT HVO j5 j6
  have ht : t < c.parts.length := by omega
  have hr64 : c.parts.length ≤ 64 := by omega
  have x1 := (HB7.out.cell (j1.out.cell (by go_simp)) : W7.cell? ⟨w.heap.size, 1, none⟩ = some (.slice A1 c.parts.length n1))
  go_wp2_with fail
  clear x1
  go_loopw [39] (fun t39 W => ∃ (k : Nat) (vt : Value), k ≤ c.parts.length ∧ t39 = .int .i64 k ∧ P + 1 ≤ W.heap.size ∧ Hid (Turn P P W7 W) ∧ Hid (BlkAt W P [vt, .pointer (some ⟨T, 0, none⟩), .int .i64 0] 133) ∧ Hid (kBool.OwnS 4 (P + 1) W vt ((List.range k).map fun q => flowsRow c q t))) (fun t _ => c.parts.length - (intOf t).toNat)
  case atStart => exact ⟨0, _, Nat.zero_le _, rfl, by omega, hide (Turn.refl _ _ _), HK7, hide (Kind.OwnS.nil _ _ _ _)⟩
  case round =>
    obtain ⟨k, vt, hk, rfl, hsz, HU, HK, HO⟩ := hrel
    by_cases hlt : k < c.parts.length
    · have hre := hide fun W (hU : Turn P P W7 W) => reached_calls W w.heap.size c k (HAt.out W hU) hlt hr64
      have HRS := hide (show (List.range (k + 1)).map (fun q => flowsRow c q t) = (List.range k).map (fun q => flowsRow c q t) ++ [flowsRow c k t] by rw [List.range_succ, List.map_append]; rfl)
      have hdU : Turn P P W7 wr.drew := HU.out.trans (Bel.turn (bel_refl wr).drew)
      have HOd := hide (show kBool.OwnS 4 (P + 1) wr.drew vt ((List.range k).map fun q => flowsRow c q t) from HO.out.bel (bel_refl wr).drew)
      have HKd := hide (show BlkAt wr.drew P [vt, .pointer (some ⟨T, 0, none⟩), .int .i64 0] 133 from HK.out)
      have e0 := HK.out.cell (i := 0) rfl
      have hbl := hide fun q (h : vt.ownBlock = some q) => (HO.out.block q h).2
      have hln : ((List.range k).map fun q => flowsRow c q t).length = k := by simp
      generalize (List.range k).map (fun q => flowsRow c q t) = L at HO HOd HRS hln
      have hkl : (k : Int) < (c.parts.length : Int) := by omega
      have hre := hide fun W (hU : Turn P P W7 W) => hre.out W hU
      go_wp2_with fail
      refine wp_region_held_drew (S := fun w' => Turn P P W7 w') (by kernel_rfl) ?_ (fun hHeld => ?_)
      · exact hdU
      refine hT (i := 0) (v := ?_) rfl (by kernel_rfl) (fun _ _ _ h => h) (by rfl) ?_ hHeld ?_
      rotate_left
      · (intro w_ hw_; (try dsimp only at hw_); go_simp; try with_reducible rfl)
      simp only [Act.put, List.setIfInBounds_toArray, List.set_cons_zero, List.set_cons_succ, List.getElem_toArray, List.getElem_cons_zero]
      refine hT (i := 1) (v := ?_) rfl (by kernel_rfl) (fun _ _ _ h => h) (by rfl) ?_ hHeld ?_
      rotate_left
      · (intro w_ hw_; (try dsimp only at hw_); go_simp; try with_reducible rfl)
      simp only [Act.put, List.setIfInBounds_toArray, List.set_cons_zero, List.set_cons_succ, List.getElem_toArray, List.getElem_cons_zero, List.getElem_cons_succ]
      refine hT (i := 2) (v := ?_) rfl (by kernel_rfl) (fun _ _ _ h => h) (by rfl) ?_ hHeld ?_
      rotate_left
      · (intro w_ hw_; (try dsimp only at hw_); go_simp; try with_reducible rfl)
      simp only [Act.put, List.setIfInBounds_toArray, List.set_cons_zero, List.set_cons_succ, List.getElem_toArray, List.getElem_cons_zero, List.getElem_cons_succ]
      refine hT (i := 3) (v := ?_) rfl (by kernel_rfl) (fun _ _ _ h => h) (by rfl) ?_ hHeld ?_
      rotate_left
      · (intro w_ hw_; (try dsimp only at hw_); go_simp; try with_reducible rfl)
      simp only [Act.put, List.setIfInBounds_toArray, List.set_cons_zero, List.set_cons_succ, List.getElem_toArray, List.getElem_cons_zero, List.getElem_cons_succ]
      refine hT (i := 5) (v := ?_) rfl (by kernel_rfl) (fun _ _ _ h => h) (by rfl) ?_ hHeld ?_
      rotate_left
      · (intro w_ hw_; (try dsimp only at hw_); go_simp; try with_reducible rfl)
      simp only [Act.put, List.setIfInBounds_toArray, List.set_cons_zero, List.set_cons_succ, List.getElem_toArray, List.getElem_cons_zero, List.getElem_cons_succ]
      refine hT (i := 7) (v := ?_) rfl (by kernel_rfl) (fun _ _ _ h => h) (by rfl) ?_ hHeld ?_
      rotate_left
      · (intro w_ hw_; (try dsimp only at hw_); go_simp; try with_reducible rfl)
      simp only [Act.put, List.setIfInBounds_toArray, List.set_cons_zero, List.set_cons_succ, List.getElem_toArray, List.getElem_cons_zero, List.getElem_cons_succ]
      refine hE2 (i := 4) (j := 6) rfl rfl (by kernel_rfl) (by rfl) (by rfl) (fun K hK => ?_) (fun K hK => ?_)
      · skip
        go_simp
        refine hK.out _ _ ?_ (fun hHeld => ?_)
        · exact hHeld
        clear hK K
        refine hE (i := 6) rfl (by kernel_rfl) (by rfl) (fun K hK => ?_)
        go_simp
        refine (hre.out _ hHeld).mono ?_
        rintro e u6 ⟨g6, rfl, hg6, hi6, hc6⟩
        have m6 := hide (hHeld.trans hi6.turn)
        have y6 := hide (hc6 t ht)
        have b6 := hide hi6
        have e06 := hi6.cell e0
        have hPu6 := World.block_lt_of_cell? u6 _ e06
        clear hi6 hc6
        refine hK.out _ _ ?_ (fun hHeld => ?_)
        · exact m6.out
        clear hK K
        refine wpAnyH_mono (S' := fun w' => Turn P P W7 w' ∧ w'.cell? ⟨g6, t, none⟩ = some (.bool (flowsRow c k t))) (fun _ h => h.1) _ _ _ _ ?_
        have hHeld := And.intro hHeld y6.out
        refine hT (i := 8) (v := ?_) rfl (by kernel_rfl) (fun _ _ _ h => h) (by rfl) ?_ hHeld ?_
        rotate_left
        · (intro w_ hw_; (try dsimp only at hw_); go_simp; try with_reducible rfl)
        simp only [Act.put, List.setIfInBounds_toArray, List.set_cons_zero, List.set_cons_succ, List.getElem_toArray, List.getElem_cons_zero, List.getElem_cons_succ]
        refine hT (i := 9) (v := ?_) rfl (by kernel_rfl) (fun _ _ _ h => h) (by rfl) ?_ hHeld ?_
        rotate_left
        · (intro w_ hw_; (try dsimp only at hw_); go_simp; try with_reducible rfl)
        simp only [Act.put, List.setIfInBounds_toArray, List.set_cons_zero, List.set_cons_succ, List.getElem_toArray, List.getElem_cons_zero, List.getElem_cons_succ]
        refine hE (i := 10) rfl (by kernel_rfl) (by rfl) (fun K hK => ?_)
        go_simp
        refine hK.out _ _ ?_ (fun hHeld => ?_)
        · exact ⟨hHeld.1.alloc _, ((bel_refl _).alloc _).cell hHeld.2⟩
        clear hK K
        refine hE (i := 11) rfl (by kernel_rfl) (by rfl) (fun K hK => ?_)
        refine own_append_wp (W := u6) kBool kBool_one (P + 1) _ _ 64 4 _ 1 rfl Try.underlying64 info_bool rfl (by decide) (by decide) vt L (flowsRow c k t) [.bool (flowsRow c k t)] (by rfl) (by rfl) (HOd.out.bel b6.out) (kBool_pure.robS (w := u6) rfl _) (Nat.le_trans hsz b6.out.size) (by omega) ?_
        intro v1 u11 HO1 HB1 hG1
        obtain ⟨Aq, bq, oq, cq, hvq, -⟩ := HO1.seg.sl.form
        generalize hnq : (L ++ [flowsRow c k t]).length = nq at hvq
        subst hvq
        have HK11 := hide (show BlkAt u11 P [vt, .pointer (some ⟨T, 0, none⟩), .int .i64 0] 133 from (HB1.block P (Nat.lt_succ_self P)).trans (HKd.out.bel b6.out))
        have e11 := HK11.out.cell (i := 0) rfl
        have f11 := HK11.out.free 0
        have m11 := hide (show Turn P P W7 u11 from ⟨HB1.os.trans m6.out.os, HB1.tape.trans m6.out.tape, HB1.output.trans m6.out.output, Nat.le_trans m6.out.size HB1.size, fun q h1 h2 h3 => (HB1.block q (by omega)).trans (m6.out.block q h1 h2 h3)⟩)
        have y11 := hide (show u11.cell? ⟨g6, t, none⟩ = some (.bool (flowsRow c k t)) from (World.cell?_of_block (w := u6) (hG1.block g6 (World.block_lt_of_cell? u6 _ y6.out) (fun h => by have := hbl.out g6 h.symm; have : wr.drew.heap.size = wr.heap.size := rfl; omega))).trans y6.out)
        have HO1 := hide HO1
        have HB1 := hide HB1
        refine hK.out _ _ ?_ (fun hHeld => ?_)
        · exact ⟨m11.out, y11.out⟩
        clear hK K
        refine hT (i := 12) (v := ?_) rfl (by kernel_rfl) (fun _ _ _ h => h) (by rfl) ?_ hHeld ?_
        rotate_left
        · (intro w_ hw_; (try dsimp only at hw_); go_simp; try with_reducible rfl)
        simp only [Act.put, List.setIfInBounds_toArray, List.set_cons_zero, List.set_cons_succ, List.getElem_toArray, List.getElem_cons_zero, List.getElem_cons_succ]
        refine hT (i := 13) (v := ?_) rfl (by kernel_rfl) (fun _ _ _ h => h) (by rfl) ?_ hHeld ?_
        rotate_left
        · (intro w_ hw_; (try dsimp only at hw_); go_simp; try with_reducible rfl)
        simp only [Act.put, List.setIfInBounds_toArray, List.set_cons_zero, List.set_cons_succ, List.getElem_toArray, List.getElem_cons_zero, List.getElem_cons_succ]
        refine hE (i := 14) rfl (by kernel_rfl) (by rfl) (fun K hK => ?_)
        go_simp
        refine hK.out _ _ ?_ (fun hHeld => ?_)
        · exact ⟨m11.out.setP 0 _, (cell_far _ (fun h => by have : wr.drew.heap.size = wr.heap.size := rfl; omega) _ _ _).trans y11.out⟩
        clear hK K
        refine wpAnyH_done (by kernel_rfl) ?_ _
        go_wp2_with fail
        exact ⟨⟨k + 1, _, by omega, by go_num, by have h1 := HB1.out.size; have h2 := b6.out.size; have h3 : wr.drew.heap.size = wr.heap.size := rfl; simp; omega, hide (m11.out.setP 0 _), hide (HK11.out.set 0 _), hide (by rw [HRS.out]; exact HO1.out.keep (by simp) (fun q hq _ => Below.heap_setCell u11 _ _ q (by dsimp only; omega)))⟩, by simp [intOf]; omega⟩
      · skip
        go_simp
        refine (hre.out _ hHeld).mono ?_
        rintro e u6 ⟨g6, rfl, hg6, hi6, hc6⟩
        have m6 := hide (hHeld.trans hi6.turn)
        have y6 := hide (hc6 t ht)
        have b6 := hide hi6
        have e06 := hi6.cell e0
        have hPu6 := World.block_lt_of_cell? u6 _ e06
        clear hi6 hc6
        refine hK.out _ _ ?_ (fun hHeld => ?_)
        · exact m6.out
        clear hK K
        refine wpAnyH_mono (S' := fun w' => Turn P P W7 w' ∧ w'.cell? ⟨g6, t, none⟩ = some (.bool (flowsRow c k t))) (fun _ h => h.1) _ _ _ _ ?_
        have hHeld := And.intro hHeld y6.out
        refine hT (i := 8) (v := ?_) rfl (by kernel_rfl) (fun _ _ _ h => h) (by rfl) ?_ hHeld ?_
        rotate_left
        · (intro w_ hw_; (try dsimp only at hw_); go_simp; try with_reducible rfl)
        simp only [Act.put, List.setIfInBounds_toArray, List.set_cons_zero, List.set_cons_succ, List.getElem_toArray, List.getElem_cons_zero, List.getElem_cons_succ]
        refine hT (i := 9) (v := ?_) rfl (by kernel_rfl) (fun _ _ _ h => h) (by rfl) ?_ hHeld ?_
        rotate_left
        · (intro w_ hw_; (try dsimp only at hw_); go_simp; try with_reducible rfl)
        simp only [Act.put, List.setIfInBounds_toArray, List.set_cons_zero, List.set_cons_succ, List.getElem_toArray, List.getElem_cons_zero, List.getElem_cons_succ]
        refine hE2 (i := 4) (j := 10) rfl rfl (by kernel_rfl) (by rfl) (by rfl) (fun K hK => ?_) (fun K hK => ?_)
        · skip
          go_simp
          refine hK.out _ _ ?_ (fun hHeld => ?_)
          · exact hHeld
          clear hK K
          refine hE (i := 10) rfl (by kernel_rfl) (by rfl) (fun K hK => ?_)
          go_simp
          refine hK.out _ _ ?_ (fun hHeld => ?_)
          · exact ⟨hHeld.1.alloc _, ((bel_refl _).alloc _).cell hHeld.2⟩
          clear hK K
          refine hE (i := 11) rfl (by kernel_rfl) (by rfl) (fun K hK => ?_)
          refine own_append_wp (W := u6) kBool kBool_one (P + 1) _ _ 64 4 _ 1 rfl Try.underlying64 info_bool rfl (by decide) (by decide) vt L (flowsRow c k t) [.bool (flowsRow c k t)] (by rfl) (by rfl) (HOd.out.bel b6.out) (kBool_pure.robS (w := u6) rfl _) (Nat.le_trans hsz b6.out.size) (by omega) ?_
          intro v1 u11 HO1 HB1 hG1
          obtain ⟨Aq, bq, oq, cq, hvq, -⟩ := HO1.seg.sl.form
          generalize hnq : (L ++ [flowsRow c k t]).length = nq at hvq
          subst hvq
          have HK11 := hide (show BlkAt u11 P [vt, .pointer (some ⟨T, 0, none⟩), .int .i64 0] 133 from (HB1.block P (Nat.lt_succ_self P)).trans (HKd.out.bel b6.out))
          have e11 := HK11.out.cell (i := 0) rfl
          have f11 := HK11.out.free 0
          have m11 := hide (show Turn P P W7 u11 from ⟨HB1.os.trans m6.out.os, HB1.tape.trans m6.out.tape, HB1.output.trans m6.out.output, Nat.le_trans m6.out.size HB1.size, fun q h1 h2 h3 => (HB1.block q (by omega)).trans (m6.out.block q h1 h2 h3)⟩)
          have y11 := hide (show u11.cell? ⟨g6, t, none⟩ = some (.bool (flowsRow c k t)) from (World.cell?_of_block (w := u6) (hG1.block g6 (World.block_lt_of_cell? u6 _ y6.out) (fun h => by have := hbl.out g6 h.symm; have : wr.drew.heap.size = wr.heap.size := rfl; omega))).trans y6.out)
          have HO1 := hide HO1
          have HB1 := hide HB1
          refine hK.out _ _ ?_ (fun hHeld => ?_)
          · exact ⟨m11.out, y11.out⟩
          clear hK K
          refine hT (i := 12) (v := ?_) rfl (by kernel_rfl) (fun _ _ _ h => h) (by rfl) ?_ hHeld ?_
          rotate_left
          · (intro w_ hw_; (try dsimp only at hw_); go_simp; try with_reducible rfl)
          simp only [Act.put, List.setIfInBounds_toArray, List.set_cons_zero, List.set_cons_succ, List.getElem_toArray, List.getElem_cons_zero, List.getElem_cons_succ]
          refine hT (i := 13) (v := ?_) rfl (by kernel_rfl) (fun _ _ _ h => h) (by rfl) ?_ hHeld ?_
          rotate_left
          · (intro w_ hw_; (try dsimp only at hw_); go_simp; try with_reducible rfl)
          simp only [Act.put, List.setIfInBounds_toArray, List.set_cons_zero, List.set_cons_succ, List.getElem_toArray, List.getElem_cons_zero, List.getElem_cons_succ]
          refine hE (i := 14) rfl (by kernel_rfl) (by rfl) (fun K hK => ?_)
          go_simp
          refine hK.out _ _ ?_ (fun hHeld => ?_)
          · exact ⟨m11.out.setP 0 _, (cell_far _ (fun h => by have : wr.drew.heap.size = wr.heap.size := rfl; omega) _ _ _).trans y11.out⟩
          clear hK K
          refine wpAnyH_done (by kernel_rfl) ?_ _
          go_wp2_with fail
          exact ⟨⟨k + 1, _, by omega, by go_num, by have h1 := HB1.out.size; have h2 := b6.out.size; have h3 : wr.drew.heap.size = wr.heap.size := rfl; simp; omega, hide (m11.out.setP 0 _), hide (HK11.out.set 0 _), hide (by rw [HRS.out]; exact HO1.out.keep (by simp) (fun q hq _ => Below.heap_setCell u11 _ _ q (by dsimp only; omega)))⟩, by simp [intOf]; omega⟩
        · skip
          go_simp
          refine hK.out _ _ ?_ (fun hHeld => ?_)
          · exact ⟨hHeld.1.alloc _, ((bel_refl _).alloc _).cell hHeld.2⟩
          clear hK K
          refine hE (i := 4) rfl (by kernel_rfl) (by rfl) (fun K hK => ?_)
          go_simp
          refine hK.out _ _ ?_ (fun hHeld => ?_)
          · exact hHeld
          clear hK K
          refine hE (i := 11) rfl (by kernel_rfl) (by rfl) (fun K hK => ?_)
          refine own_append_wp (W := u6) kBool kBool_one (P + 1) _ _ 64 4 _ 1 rfl Try.underlying64 info_bool rfl (by decide) (by decide) vt L (flowsRow c k t) [.bool (flowsRow c k t)] (by rfl) (by rfl) (HOd.out.bel b6.out) (kBool_pure.robS (w := u6) rfl _) (Nat.le_trans hsz b6.out.size) (by omega) ?_
          intro v1 u11 HO1 HB1 hG1
          obtain ⟨Aq, bq, oq, cq, hvq, -⟩ := HO1.seg.sl.form
          generalize hnq : (L ++ [flowsRow c k t]).length = nq at hvq
          subst hvq
          have HK11 := hide (show BlkAt u11 P [vt, .pointer (some ⟨T, 0, none⟩), .int .i64 0] 133 from (HB1.block P (Nat.lt_succ_self P)).trans (HKd.out.bel b6.out))
          have e11 := HK11.out.cell (i := 0) rfl
          have f11 := HK11.out.free 0
          have m11 := hide (show Turn P P W7 u11 from ⟨HB1.os.trans m6.out.os, HB1.tape.trans m6.out.tape, HB1.output.trans m6.out.output, Nat.le_trans m6.out.size HB1.size, fun q h1 h2 h3 => (HB1.block q (by omega)).trans (m6.out.block q h1 h2 h3)⟩)
          have y11 := hide (show u11.cell? ⟨g6, t, none⟩ = some (.bool (flowsRow c k t)) from (World.cell?_of_block (w := u6) (hG1.block g6 (World.block_lt_of_cell? u6 _ y6.out) (fun h => by have := hbl.out g6 h.symm; have : wr.drew.heap.size = wr.heap.size := rfl; omega))).trans y6.out)
          have HO1 := hide HO1
          have HB1 := hide HB1
          refine hK.out _ _ ?_ (fun hHeld => ?_)
          · exact ⟨m11.out, y11.out⟩
          clear hK K
          refine hT (i := 12) (v := ?_) rfl (by kernel_rfl) (fun _ _ _ h => h) (by rfl) ?_ hHeld ?_
          rotate_left
          · (intro w_ hw_; (try dsimp only at hw_); go_simp; try with_reducible rfl)
          simp only [Act.put, List.setIfInBounds_toArray, List.set_cons_zero, List.set_cons_succ, List.getElem_toArray, List.getElem_cons_zero, List.getElem_cons_succ]
          refine hT (i := 13) (v := ?_) rfl (by kernel_rfl) (fun _ _ _ h => h) (by rfl) ?_ hHeld ?_
          rotate_left
          · (intro w_ hw_; (try dsimp only at hw_); go_simp; try with_reducible rfl)
          simp only [Act.put, List.setIfInBounds_toArray, List.set_cons_zero, List.set_cons_succ, List.getElem_toArray, List.getElem_cons_zero, List.getElem_cons_succ]
          refine hE (i := 14) rfl (by kernel_rfl) (by rfl) (fun K hK => ?_)
          go_simp
          refine hK.out _ _ ?_ (fun hHeld => ?_)
          · exact ⟨m11.out.setP 0 _, (cell_far _ (fun h => by have : wr.drew.heap.size = wr.heap.size := rfl; omega) _ _ _).trans y11.out⟩
          clear hK K
          refine wpAnyH_done (by kernel_rfl) ?_ _
          go_wp2_with fail
          exact ⟨⟨k + 1, _, by omega, by go_num, by have h1 := HB1.out.size; have h2 := b6.out.size; have h3 : wr.drew.heap.size = wr.heap.size := rfl; simp; omega, hide (m11.out.setP 0 _), hide (HK11.out.set 0 _), hide (by rw [HRS.out]; exact HO1.out.keep (by simp) (fun q hq _ => Below.heap_setCell u11 _ _ q (by dsimp only; omega)))⟩, by simp [intOf]; omega⟩
    · obtain rfl : k = c.parts.length := by omega
      obtain ⟨bt, ct, rfl, hbt1, hbt2, hbtc⟩ := bool_row HO.out (by simp; omega)
      rw [List.length_map, List.length_range] at HK
      have hPU := hide (show PurAt c t wr P bt ct T g cap (initP c) from
        ⟨HK.out, fun q hq => by have h := hbtc q (by simpa using hq); simpa using h, HT7.out.keep (HU.out.block T (by omega) (by omega) (by omega)) (HU.out.block g (by omega) (by omega) (by omega)), by omega, by omega, by omega, by omega⟩)
      have HBr := hide (show Bel w wr from Bel.trans HBw1.out (HU.out.bel HB7.out hP1 hP1))
      obtain ⟨As, bs, os, cs, rfl, hls1, hls2, hAs, hrs⟩ := hst.form
      have HRs := hide (hrs w hst)
      have hPOK := hide (show POk c (initP c) from ⟨HOK.out, by simp [initP], by simp [initP]⟩)
      obtain ⟨base, hbase⟩ : ∃ base : Nat, base = wr.heap.size := ⟨_, rfl⟩
      obtain ⟨Wx, hWx⟩ : ∃ Wx : World, Wx = wr := ⟨_, rfl⟩
      have hwb := HBr.out.size
      clear hst hrs hbtc HO HU HK HT7 HAt hr64
      go_wp2_with fail
      go_loopw [12, 59] (fun t12 t59 W => ∃ (k : Nat) (s : PSt) (outk : List Step), k ≤ steps.length ∧ t59 = .int .i64 k ∧ outk.length = k ∧ base ≤ W.heap.size ∧ Hid (PurAt c t W P bt ct T g cap s) ∧ Hid (POk c s) ∧ Hid (∀ q, q < base → q ≠ P → q ≠ g → W.heap[q]? = wr.heap[q]?) ∧ Hid (Bel w W) ∧ Hid (kStep.OwnS 59 base W t12 outk) ∧ Hid (outk ++ purgeGo c t s (steps.drop k) = purgeGo c t (initP c) steps)) (fun _ t _ => steps.length - (intOf t).toNat)
      case atStart => exact ⟨0, initP c, [], Nat.zero_le _, rfl, rfl, by omega, hPU, hPOK, hide (fun _ _ _ _ => rfl), HBr, hide (Kind.OwnS.nil _ _ _ _), hide rfl⟩
      case round =>
        obtain ⟨k, s, outk, hk, rfl, hol, hszb, HPA, HPO, HF, HB, HO, HW⟩ := hrel
        by_cases hlt : k < steps.length
        · obtain ⟨c0, c1, c2, c3, c4, c5, c6, hK, y0, y1, y2, y3, y4, y5, y6⟩ := (HRs.out.bel HB.out).get7 rfl hlt
          obtain ⟨rfl, rfl, rfl, rfl, rfl, rfl, rfl⟩ := kStep_vals hK
          have HPR := hide (show purgeGo c t s (steps.drop k) = (if (stays c t s steps[k]).1 then steps[k] else zeroStep) :: purgeGo c t (stays c t s steps[k]).2 (steps.drop (k + 1)) by rw [drop_cons hlt]; rfl)
          have HKx := hide hK
          generalize steps[k] = x at y0 y1 y2 y3 y4 y5 y6 HPR HKx
          clear hK
          obtain ⟨xk, xp, xd, xa, xb, xc, xs⟩ := x
          simp only at y0 y1 y2 y3 y4 y5 y6
          obtain rfl := hAs (by omega)
          have hkl : (k : Int) < (steps.length : Int) := by omega
          have hPb : P < base := by rw [hbase]; omega
          have hTb : T < base := by omega
          have hgb : g < base := by omega
          have hbb : bt < base := by omega
          have hst := hide (stays_calls (wr.alloc (.cells #[.int .i64 xk, .int .i64 xp, .int .i64 xd, .int .i64 xa, .int .i64 xb, .int .i64 xc, .string xs] 59)) c t P bt ct T g cap wr.heap.size s ⟨xk, xp, xd, xa, xb, xc, xs⟩ (HPA.out.bel ((bel_refl wr).alloc _)) HPO.out ⟨hq1, hq8⟩ (by go_simp) (by go_simp) (by go_simp) (by go_simp) (by omega) (by omega))
          have HPO2 := hide (HPO.out.stays ⟨hq1, hq8⟩ t ⟨xk, xp, xd, xa, xb, xc, xs⟩)
          generalize stays c t s ⟨xk, xp, xd, xa, xb, xc, xs⟩ = r at hst HPR HPO2
          obtain ⟨rb, s2⟩ := r
          simp only at hst HPR HPO2
          have hk4 : steps.length * 64 ≤ 140737488351232 := hF
          cases rb
          · skip
            go_upto_region 15 with ((with_reducible refine (Hid.out hst).mono ?_); rintro e w2 ⟨rfl, hPA2, hU2⟩; have HPA2 := hide hPA2; have HU2 := hide hU2; clear hPA2 hU2)
            have hne1 : wr.heap.size ≠ P := by omega
            have hne2 : wr.heap.size ≠ g := by omega
            have HSb := hide (show BlkAt w2 wr.heap.size [.int .i64 xk, .int .i64 xp, .int .i64 xd, .int .i64 xa, .int .i64 xb, .int .i64 xc, .string xs] 59 from HU2.out.blk (blk_new wr [.int .i64 xk, .int .i64 xp, .int .i64 xd, .int .i64 xa, .int .i64 xb, .int .i64 xc, .string xs] 59) hne1 hne2)
            have hsz2 := HU2.out.size
            rw [size_alloc] at hsz2
            have HF2 := hide (show ∀ q, q < wr.heap.size → q ≠ P → q ≠ g → w2.heap[q]? = wr.heap[q]? from fun q h1 h2 h3 => (HU2.out.block q (by rw [size_alloc]; omega) h2 h3).trans (((bel_refl wr).alloc _).block q h1))
            have HO2 := hide (HO.out.keep (by omega) (fun q h1 h2 => HF2.out q h2 (by omega) (by omega)))
            have HB2 := hide (show Bel w w2 from HU2.out.bel (HB.out.alloc _) (by omega) (by omega))
            have f0 := fun i => HSb.out.free i
            have q0 := HSb.out.cell (i := 0) rfl
            have q1 := HSb.out.cell (i := 1) rfl
            have q2 := HSb.out.cell (i := 2) rfl
            have q3 := HSb.out.cell (i := 3) rfl
            have q4 := HSb.out.cell (i := 4) rfl
            have q5 := HSb.out.cell (i := 5) rfl
            have q6 := HSb.out.cell (i := 6) rfl
            go_upto_region 16 with fail
            clear q0 q1 q2 q3 q4 q5 q6 f0
            obtain ⟨w3, hw3⟩ : ∃ w3 : World, w3 = (((((((w2).setCell ⟨wr.heap.size, 0, none⟩ (.int .i64 0)).setCell ⟨wr.heap.size, 1, none⟩ (.int .i64 0)).setCell ⟨wr.heap.size, 2, none⟩ (.int .i64 0)).setCell ⟨wr.heap.size, 3, none⟩ (.int .i64 0)).setCell ⟨wr.heap.size, 4, none⟩ (.int .i64 0)).setCell ⟨wr.heap.size, 5, none⟩ (.int .i64 0)).setCell ⟨wr.heap.size, 6, none⟩ (.string ⟨#[]⟩) := ⟨_, rfl⟩
            rw [← hw3]
            have HSb3 := hide (show BlkAt w3 wr.heap.size [.int .i64 0, .int .i64 0, .int .i64 0, .int .i64 0, .int .i64 0, .int .i64 0, .string ⟨#[]⟩] 59 by rw [hw3]; exact ((((((HSb.out.set 0 _).set 1 _).set 2 _).set 3 _).set 4 _).set 5 _).set 6 _)
            have hs3 := hide (show w3.heap.size = w2.heap.size by rw [hw3]; simp)
            have hch : ∀ q, q ≠ wr.heap.size → w3.heap[q]? = w2.heap[q]? := fun q h => by
              rw [hw3]
              repeat rw [Below.heap_setCell _ _ _ q h]
            have HO3 := hide (show kStep.OwnS 59 base w3 u12 outk by
              obtain ⟨inner, ho, hr⟩ := HO2.out
              refine ⟨inner, ⟨ho.1, ?_⟩, fun j x hj => kStep_pure.robS (hr j x hj).k _⟩
              rcases ho.2 with h | ⟨gg, cap, cur, e1, e2, e3, e4⟩
              · exact .inl h
              · exact .inr ⟨gg, cap, cur, e1, e2, (hch gg (fun e => by have := (HO.out.block gg (by rw [e1]; rfl)).2; omega)).trans e3, e4⟩)
            have HB3 := hide (show Bel w w3 by
              rw [hw3]
              repeat (refine bel_set_new ?_ (by omega) _ _)
              exact HB2.out)
            have HPA3 := hide (show PurAt c t w3 P bt ct T g cap s2 from HPA2.out.low (base := base) (fun q hq => hch q (by omega)) hPb hTb hgb hbb)
            have HF3 := hide (show ∀ q, q < base → q ≠ P → q ≠ g → w3.heap[q]? = _ from fun q h1 h2 h3 => (hch q (by omega)).trans ((HF2.out q (by omega) h2 h3).trans (HF.out q h1 h2 h3)))
            clear hw3 hch
            have q0 := HSb3.out.cell (i := 0) rfl
            have q1 := HSb3.out.cell (i := 1) rfl
            have q2 := HSb3.out.cell (i := 2) rfl
            have q3 := HSb3.out.cell (i := 3) rfl
            have q4 := HSb3.out.cell (i := 4) rfl
            have q5 := HSb3.out.cell (i := 5) rfl
            have q6 := HSb3.out.cell (i := 6) rfl
            go_wp2_with (at_builtin; first
              | (refine own_appendS kStep kStep_one base rfl _ _ 49 59 _ 64 rfl Try.underlying49 info_Step rfl (by decide) (by decide) u12 outk zeroStep [.int .i64 0, .int .i64 0, .int .i64 0, .int .i64 0, .int .i64 0, .int .i64 0, .string ⟨#[]⟩] (by rfl) (by rfl) HO3.out (kStep_pure.robS (w := wr) ⟨rfl, by decide, by decide, by decide, by decide, by decide, by decide, by decide⟩ _) (by have := hs3.out; omega) (by omega) ?_
                 intro v4 w4 HO4 HB4 hg4 hat4
                 clear hg4 hat4))
            refine ⟨⟨k + 1, s2, outk ++ [zeroStep], by omega, by go_num, by rw [List.length_append, hol]; rfl, by have := HB4.size; have := hs3.out; omega, hide (HPA3.out.low HB4.block hPb hTb hgb hbb), HPO2, hide (fun q h1 h2 h3 => (HB4.block q h1).trans (HF3.out q h1 h2 h3)), hide (Below.trans HB3.out (HB4.mono (by omega))), hide HO4, hide ?_⟩, by simp [intOf]; omega⟩
            rw [← HW.out, HPR.out, List.append_assoc]
            try rfl
          · skip
            go_upto_region 16 with ((with_reducible refine (Hid.out hst).mono ?_); rintro e w2 ⟨rfl, hPA2, hU2⟩; have HPA2 := hide hPA2; have HU2 := hide hU2; clear hPA2 hU2)
            have hne1 : wr.heap.size ≠ P := by omega
            have hne2 : wr.heap.size ≠ g := by omega
            have HSb := hide (show BlkAt w2 wr.heap.size [.int .i64 xk, .int .i64 xp, .int .i64 xd, .int .i64 xa, .int .i64 xb, .int .i64 xc, .string xs] 59 from HU2.out.blk (blk_new wr [.int .i64 xk, .int .i64 xp, .int .i64 xd, .int .i64 xa, .int .i64 xb, .int .i64 xc, .string xs] 59) hne1 hne2)
            have hsz2 := HU2.out.size
            rw [size_alloc] at hsz2
            have HF2 := hide (show ∀ q, q < wr.heap.size → q ≠ P → q ≠ g → w2.heap[q]? = wr.heap[q]? from fun q h1 h2 h3 => (HU2.out.block q (by rw [size_alloc]; omega) h2 h3).trans (((bel_refl wr).alloc _).block q h1))
            have HO2 := hide (HO.out.keep (by omega) (fun q h1 h2 => HF2.out q h2 (by omega) (by omega)))
            have HB2 := hide (show Bel w w2 from HU2.out.bel (HB.out.alloc _) (by omega) (by omega))
            have HSb3 := HSb
            have HO3 := HO2
            have HB3 := HB2
            have HPA3 := HPA2
            have hs3 := hide (show w2.heap.size = w2.heap.size from rfl)
            have HF3 := hide (show ∀ q, q < base → q ≠ P → q ≠ g → w2.heap[q]? = _ from fun q h1 h2 h3 => (HF2.out q (by omega) h2 h3).trans (HF.out q h1 h2 h3))
            have q0 := HSb3.out.cell (i := 0) rfl
            have q1 := HSb3.out.cell (i := 1) rfl
            have q2 := HSb3.out.cell (i := 2) rfl
            have q3 := HSb3.out.cell (i := 3) rfl
            have q4 := HSb3.out.cell (i := 4) rfl
            have q5 := HSb3.out.cell (i := 5) rfl
            have q6 := HSb3.out.cell (i := 6) rfl
            go_wp2_with (at_builtin; first
              | (refine own_appendS kStep kStep_one base rfl _ _ 49 59 _ 64 rfl Try.underlying49 info_Step rfl (by decide) (by decide) u12 outk ⟨xk, xp, xd, xa, xb, xc, xs⟩ [.int .i64 xk, .int .i64 xp, .int .i64 xd, .int .i64 xa, .int .i64 xb, .int .i64 xc, .string xs] (by rfl) (by rfl) HO3.out (kStep_pure.robS (w := wr) HKx.out _) (by have := hs3.out; omega) (by omega) ?_
                 intro v4 w4 HO4 HB4 hg4 hat4
                 clear hg4 hat4))
            refine ⟨⟨k + 1, s2, outk ++ [⟨xk, xp, xd, xa, xb, xc, xs⟩], by omega, by go_num, by rw [List.length_append, hol]; rfl, by have := HB4.size; have := hs3.out; omega, hide (HPA3.out.low HB4.block hPb hTb hgb hbb), HPO2, hide (fun q h1 h2 h3 => (HB4.block q h1).trans (HF3.out q h1 h2 h3)), hide (Below.trans HB3.out (HB4.mono (by omega))), hide HO4, hide ?_⟩, by simp [intOf]; omega⟩
            rw [← HW.out, HPR.out, List.append_assoc]
            try rfl
        · obtain rfl : k = steps.length := by omega
          rw [List.drop_length] at HW
          have HZ := hide (show outk = purgeGo c t (initP c) steps by rw [← HW.out]; simp [purgeGo])
          go_wp2_with fail
          go_ret2
          rw [HQ.out, HP.out, ← HZ.out]
          exact ⟨_, base, rfl, by omega, HO.out, HB.out⟩
end Go.Proofs.Ythjhkbnajclcjaa
