/- caissonlaw23.PurgeCalls: the walk. -/
import Derived.Test.YthjhkbnajclcjaaPAgain
set_option linter.unusedSimpArgs false
namespace Go.Proofs.Ythjhkbnajclcjaa
open Go.RowKit

theorem purgeGo_call (c : Config) (t : Nat) : ∀ (xs : List Step) (s : PSt) (k : Nat) (x : Step), xs[k]? = some x → isCall x.kind = true → (purgeGo c t s xs)[k]? = some (if flowsTo c t x.part then x else zeroStep) := by
  intro xs
  induction xs with
  | nil => intro s k x h; simp at h
  | cons z xs ih =>
    intro s k x h1 h2
    cases k with
    | zero =>
      simp only [List.getElem?_cons_zero, Option.some.injEq] at h1
      subst h1
      simp only [purgeGo, List.getElem?_cons_zero]
      unfold stays
      rw [if_pos h2]
    | succ k =>
      simp only [purgeGo, List.getElem?_cons_succ] at h1 ⊢
      exact ih _ k x h1 h2
theorem plain_ok_all : ((List.range 3).all fun p => purgeOk plainCfg (p : Int)) = true := by kernel_rfl
theorem plain_ok (p : Nat) (h : p < 3) : purgeOk plainCfg p = true := by
  have h1 := plain_ok_all
  simp only [List.all_eq_true, List.mem_range] at h1
  exact h1 p h
theorem plain_flows : ((List.range 3).all fun p => (List.range 3).all fun t => flowsRow plainCfg p t == (p == t || p == 0)) = true := by kernel_rfl
theorem plain_to (p t : Nat) (hp : p < 3) (ht : t < 3) : flowsRow plainCfg p t = (p == t || p == 0) := by
  have h := plain_flows
  simp only [List.all_eq_true, List.mem_range, beq_iff_eq] at h
  exact h p hp t ht
theorem plain_flowsTo (x : Int) (t : Nat) (ht : t < 3) : flowsTo plainCfg t x = true ↔ 0 ≤ x ∧ x < 3 ∧ (x = t ∨ x = 0) := by
  unfold flowsTo
  have hl : plainCfg.parts.length = 3 := rfl
  rw [hl, Bool.and_eq_true, inB_iff]
  constructor
  · rintro ⟨⟨h1, h2⟩, h3⟩
    rw [plain_to _ _ (by omega) ht] at h3
    simp only [Bool.or_eq_true, beq_iff_eq] at h3
    exact ⟨h1, by omega, by omega⟩
  · rintro ⟨h1, h2, h3⟩
    refine ⟨⟨h1, by omega⟩, ?_⟩
    rw [plain_to _ _ (by omega) ht]
    simp only [Bool.or_eq_true, beq_iff_eq]
    omega
theorem purge_call (t : Nat) (ht : t < 3) (xs : List Step) (k : Nat) (hk : k < xs.length) (hk2 : k < (purge plainCfg xs t).length) (hc : isCall xs[k].kind = true) :
    (purge plainCfg xs t)[k] = if flowsTo plainCfg t xs[k].part then xs[k] else zeroStep := by
  have e : purge plainCfg xs t = purgeGo plainCfg t (initP plainCfg) xs := by unfold purge; rw [if_pos (plain_ok t ht)]; rfl
  have h := purgeGo_call plainCfg t xs (initP plainCfg) k _ (List.getElem?_eq_getElem hk) hc
  rw [← e, List.getElem?_eq_getElem hk2] at h
  exact Option.some.inj h

set_option maxRecDepth 20000 in
set_option maxHeartbeats 16000000 in
theorem purgeCalls_law (vs : Value) (steps : List Step) (part : Int) (w : World) (hs : kStep.Sl w vs steps) (hF : steps.length * 64 ≤ 140737488351232) :
    Calls Try.prog 11 #[vs, .int .i64 part] w fun e w' => e = .returned (.bool true) ∧ Bel w w' := by
  obtain ⟨A, b, o, cap, rfl, hl, hc, hA, hR⟩ := hs.open rfl
  have HR := hide (hR.out w hs)
  have HSt := hide hs
  have ha := hide awake23_calls
  have hn := hide num_calls
  have hp := hide plain23_calls'
  obtain ⟨t, Ht, htl⟩ := umodI' part 3 (by omega) (by omega)
  have ht3 : t < 3 := by omega
  obtain ⟨out, HO⟩ : ∃ out, Hid (purge plainCfg steps t = out) := ⟨_, rfl⟩
  have hln : out.length = steps.length := by rw [← HO.out]; exact purge_length _ _ _ (plain_ok t ht3)
  have HEl := hide fun k (hk : k < steps.length) (hk2 : k < out.length) (hc : isCall steps[k].kind = true) => show out[k] = if flowsTo plainCfg t steps[k].part then steps[k] else zeroStep from by
    have := HO.out
    subst this
    exact purge_call t ht3 steps k hk hk2 hc
  have HEr := hide (purgeErr_some plainCfg t (plain_ok t ht3))
  clear hs hR
  go_enter Try.func11, Try.ntmps11
  go_upto_region 3 with ((with_reducible refine (Hid.out ha _).mono ?_); rintro e w1 ⟨rfl, hb0⟩; have m0 := hide hb0; clear hb0)
  go_upto_region 4 with ((with_reducible refine (Hid.out hp _).mono ?_); rintro e w2 ⟨rfl, hb1, hc1, hs1⟩)
  obtain ⟨W3, hW3⟩ : ∃ W3 : World, W3 = w2.alloc (.cells #[.int .i64 16, .slice (some ⟨w1.heap.size + 4, 0, none⟩) 3 3, .slice (some ⟨w1.heap.size + 7, 0, none⟩) 2 2, .int .i64 6, .slice (some ⟨w1.heap.size + 8, 0, none⟩) 3 3, .slice (some ⟨w1.heap.size + 9, 0, none⟩) 1 1, .int .i64 10, .int .i64 6, .int .i64 2] 27) := ⟨_, rfl⟩
  rw [← hW3]
  have HB3 := hide (show Bel w W3 by rw [hW3]; exact (Bel.trans m0.out hb1.out).alloc _)
  have HX := hide fun W (hW : Bel W3 W) => show W.cell? ⟨w2.heap.size, 0, none⟩ = some (.int .i64 16) ∧ W.cell? ⟨w2.heap.size, 1, none⟩ = some (.slice (some ⟨w1.heap.size + 4, 0, none⟩) 3 3) ∧ W.cell? ⟨w2.heap.size, 2, none⟩ = some (.slice (some ⟨w1.heap.size + 7, 0, none⟩) 2 2) ∧ W.cell? ⟨w2.heap.size, 3, none⟩ = some (.int .i64 6) ∧ W.cell? ⟨w2.heap.size, 4, none⟩ = some (.slice (some ⟨w1.heap.size + 8, 0, none⟩) 3 3) ∧ W.cell? ⟨w2.heap.size, 5, none⟩ = some (.slice (some ⟨w1.heap.size + 9, 0, none⟩) 1 1) ∧ W.cell? ⟨w2.heap.size, 6, none⟩ = some (.int .i64 10) ∧ W.cell? ⟨w2.heap.size, 7, none⟩ = some (.int .i64 6) ∧ W.cell? ⟨w2.heap.size, 8, none⟩ = some (.int .i64 2) from by
    have hx := (show BoxAt W3 w2.heap.size (.int .i64 16) (.slice (some ⟨w1.heap.size + 4, 0, none⟩) 3 3) (.slice (some ⟨w1.heap.size + 7, 0, none⟩) 2 2) (.int .i64 6) (.slice (some ⟨w1.heap.size + 8, 0, none⟩) 3 3) (.slice (some ⟨w1.heap.size + 9, 0, none⟩) 1 1) (.int .i64 10) (.int .i64 6) (.int .i64 2) by rw [hW3]; exact box_new _ _ _ _ _ _ _ _ _ _ _).bel hW
    exact ⟨hx.k0, hx.k1, hx.k2, hx.k3, hx.k4, hx.k5, hx.k6, hx.k7, hx.k8⟩
  have CV := hide (show CfgV W3 (.agg #[.int .i64 16, .slice (some ⟨w1.heap.size + 4, 0, none⟩) 3 3, .slice (some ⟨w1.heap.size + 7, 0, none⟩) 2 2, .int .i64 6, .slice (some ⟨w1.heap.size + 8, 0, none⟩) 3 3, .slice (some ⟨w1.heap.size + 9, 0, none⟩) 1 1, .int .i64 10, .int .i64 6, .int .i64 2]) plainCfg from PlainAt.k (hc1.out.bel (show Bel w2 W3 by rw [hW3]; exact (bel_refl _).alloc _)))
  clear hW3 hb1 hc1 hp ha
  go_upto_region 5 with fail
  have hpu := hide (purge_p W3 _ _ plainCfg steps t CV.out (HSt.out.bel HB3.out) hF)
  rw [HO.out, HEr.out] at hpu
  clear HO HEr CV HSt
  obtain ⟨x0, x1, x2, x3, x4, x5, x6, x7, x8⟩ := HX.out _ (bel_refl W3)
  go_upto_region 6 with ((with_reducible refine (Hid.out hpu).mono ?_); rintro e w4 ⟨v4, base4, rfl, -, hO3, hB3⟩; obtain ⟨E1, e1b, e1o, cap1, rfl, hl3, hc3, hE1, hRo⟩ := hO3.seg.sl.open hln; have HSo := hide hO3.seg.sl; have j3 := hide hB3; clear hO3 hB3 hpu)
  clear x0 x1 x2 x3 x4 x5 x6 x7 x8 HX
  have HRo := hide (hRo.out w4 HSo.out)
  clear hRo HSo
  go_wp2_with ((with_reducible refine (Hid.out hn _ _).mono ?_); rintro e w8 ⟨rfl, rfl⟩)
  have hok := hide hln
  have H3 := hide (Bel.trans HB3.out j3.out)
  have HR := hide (HR.out.bel H3.out)
  clear hn hF
  go_loopw [9] (fun t W => ∃ k : Nat, k ≤ steps.length ∧ t = .int .i64 k ∧ Hid (Bel w4 W)) (fun t _ => steps.length - (intOf t).toNat)
  case atStart => exact ⟨0, Nat.zero_le _, rfl, hide (bel_refl w4)⟩
  case round =>
    obtain ⟨k, hk, rfl, HB⟩ := hrel
    by_cases hlt : k < steps.length
    · have hlo : k < out.length := by rw [hok.out]; exact hlt
      obtain ⟨c0, c1, c2, c3, c4, c5, c6, hK, y0, y1, y2, y3, y4, y5, y6⟩ := (HRo.out.bel HB.out).get7 rfl hlo
      obtain ⟨d0, d1, d2, d3, d4, d5, d6, hK', z0, z1, z2, z3, z4, z5, z6⟩ := (HR.out.bel HB.out).get7 rfl hlt
      obtain ⟨rfl, rfl, rfl, rfl, rfl, rfl, rfl⟩ := kStep_vals hK
      obtain ⟨rfl, rfl, rfl, rfl, rfl, rfl, rfl⟩ := kStep_vals hK'
      clear hK hK'
      have hel := HEl.out k hlt hlo
      generalize out[k] = y at hel y0 y1 y2 y3 y4 y5 y6
      generalize steps[k] = x at hel z0 z1 z2 z3 z4 z5 z6
      obtain ⟨xk, xp, xd, xa, xb, xc, xs⟩ := x
      obtain ⟨yk, yp, yd, ya, yb, yc, ys⟩ := y
      obtain rfl := hA.out (by omega)
      obtain rfl := hE1.out (by omega)
      have j0 : (0 : Int) ≤ (k : Int) := by omega
      have j1 : (k : Int) < (steps.length : Int) := by omega
      simp only at y0 y1 y2 y3 y4 y5 y6 z0 z1 z2 z3 z4 z5 z6 hel
      clear hA hE1 hlt hlo
      go_upto_region 12 with fail
      obtain ⟨W5, hW5⟩ : ∃ W5 : World, W5 = wr.alloc (.cells #[.int .i64 xk, .int .i64 xp, .int .i64 xd, .int .i64 xa, .int .i64 xb, .int .i64 xc, .string xs] 59) := ⟨_, rfl⟩
      rw [← hW5]
      have hb5 := (show Bel wr W5 by rw [hW5]; exact (bel_refl wr).alloc _)
      have HB5 := hide (Bel.trans HB.out hb5)
      have HBk := hide (show BlkAt W5 wr.heap.size [.int .i64 xk, .int .i64 xp, .int .i64 xd, .int .i64 xa, .int .i64 xb, .int .i64 xc, .string xs] 59 by rw [hW5]; exact blk_new wr _ _)
      replace y0 := hb5.cell y0
      replace y1 := hb5.cell y1
      replace y2 := hb5.cell y2
      replace y3 := hb5.cell y3
      replace y4 := hb5.cell y4
      replace y5 := hb5.cell y5
      replace y6 := hb5.cell y6
      clear hW5 hb5 z0 z1 z2 z3 z4 z5 z6
      generalize wr.heap.size = B5 at HBk ⊢
      have q0 := HBk.out.cell (i := 0) rfl
      have q1 := HBk.out.cell (i := 1) rfl
      have q2 := HBk.out.cell (i := 2) rfl
      have q3 := HBk.out.cell (i := 3) rfl
      have q4 := HBk.out.cell (i := 4) rfl
      have q5 := HBk.out.cell (i := 5) rfl
      have q6 := HBk.out.cell (i := 6) rfl
      by_cases hk1 : xk < 5
      · clear hel
        go_wp2_with fail
        exact ⟨⟨k + 1, by omega, by go_num, HB5⟩, by simp [intOf]; omega⟩
      by_cases hk2 : 16 < xk
      · clear hel
        have hk1i : ¬ xk < 5 := hk1
        go_wp2_with fail
        exact ⟨⟨k + 1, by omega, by go_num, HB5⟩, by simp [intOf]; omega⟩
      have hel := hel ((isCall_iff xk).2 ⟨by omega, by omega⟩)
      go_upto_region 14 with fail
      have HBd := hide HB5.out.drew
      by_cases hfl : flowsTo plainCfg t xp = true
      · rw [if_pos hfl] at hel
        rw [plain_flowsTo xp t ht3] at hfl
        obtain ⟨f1, f2, f3⟩ := hfl
        simp only [Step.mk.injEq] at hel
        obtain ⟨rfl, rfl, rfl, rfl, rfl, rfl, rfl⟩ := hel
        by_cases hft : yp = t
        · subst hft
          go_upto_region 15 with fail
          refine wp_region_held_drew (S := fun w' => (w'.cell? ⟨e1b, e1o + k * 7, none⟩ = some (.int .i64 yk) ∧ w'.cell? ⟨e1b, e1o + k * 7 + 1, none⟩ = some (.int .i64 t) ∧ w'.cell? ⟨e1b, e1o + k * 7 + 2, none⟩ = some (.int .i64 yd) ∧ w'.cell? ⟨e1b, e1o + k * 7 + 3, none⟩ = some (.int .i64 ya) ∧ w'.cell? ⟨e1b, e1o + k * 7 + 4, none⟩ = some (.int .i64 yb) ∧ w'.cell? ⟨e1b, e1o + k * 7 + 5, none⟩ = some (.int .i64 yc) ∧ w'.cell? ⟨e1b, e1o + k * 7 + 6, none⟩ = some (.string ys)) ∧ (w'.cell? ⟨B5, 0, none⟩ = some (.int .i64 yk) ∧ w'.cell? ⟨B5, 1, none⟩ = some (.int .i64 t) ∧ w'.cell? ⟨B5, 2, none⟩ = some (.int .i64 yd) ∧ w'.cell? ⟨B5, 3, none⟩ = some (.int .i64 ya) ∧ w'.cell? ⟨B5, 4, none⟩ = some (.int .i64 yb) ∧ w'.cell? ⟨B5, 5, none⟩ = some (.int .i64 yc) ∧ w'.cell? ⟨B5, 6, none⟩ = some (.string ys))) (by kernel_rfl) ?_ (fun hHeld => ?_)
          · exact ⟨⟨y0, y1, y2, y3, y4, y5, y6⟩, ⟨q0, q1, q2, q3, q4, q5, q6⟩⟩
          refine hT (i := 0) (v := ?_) rfl (by kernel_rfl) (fun _ _ _ h => h) (by rfl) ?_ hHeld ?_
          rotate_left
          · (intro w_ hw_; (try dsimp only at hw_); go_simp; try with_reducible rfl)
          simp only [Act.put, List.setIfInBounds_toArray, List.set_cons_zero, List.set_cons_succ, List.getElem_toArray, List.getElem_cons_zero]
          refine hT (i := 1) (v := ?_) rfl (by kernel_rfl) (fun _ _ _ h => h) (by rfl) ?_ hHeld ?_
          rotate_left
          · (intro w_ hw_; (try dsimp only at hw_); go_simp; try with_reducible rfl)
          simp only [Act.put, List.setIfInBounds_toArray, List.set_cons_zero, List.set_cons_succ, List.getElem_toArray, List.getElem_cons_zero, List.getElem_cons_succ]
          refine hT (i := 2) (v := ?_) rfl (by kernel_rfl) (fun _ _ _ h => h) (by rfl) ?_ hHeld ?_
          rotate_left
          · (intro w_ hw_; (try dsimp only at hw_); go_simp; try with_reducible rfl)
          simp only [Act.put, List.setIfInBounds_toArray, List.set_cons_zero, List.set_cons_succ, List.getElem_toArray, List.getElem_cons_zero, List.getElem_cons_succ]
          refine hT (i := 3) (v := ?_) rfl (by kernel_rfl) (fun _ _ _ h => h) (by rfl) ?_ hHeld ?_
          rotate_left
          · (intro w_ hw_; (try dsimp only at hw_); go_simp; try with_reducible rfl)
          simp only [Act.put, List.setIfInBounds_toArray, List.set_cons_zero, List.set_cons_succ, List.getElem_toArray, List.getElem_cons_zero, List.getElem_cons_succ]
          refine hT (i := 4) (v := ?_) rfl (by kernel_rfl) (fun _ _ _ h => h) (by rfl) ?_ hHeld ?_
          rotate_left
          · (intro w_ hw_; (try dsimp only at hw_); go_simp; try with_reducible rfl)
          simp only [Act.put, List.setIfInBounds_toArray, List.set_cons_zero, List.set_cons_succ, List.getElem_toArray, List.getElem_cons_zero, List.getElem_cons_succ]
          refine hT (i := 5) (v := ?_) rfl (by kernel_rfl) (fun _ _ _ h => h) (by rfl) ?_ hHeld ?_
          rotate_left
          · (intro w_ hw_; (try dsimp only at hw_); go_simp; try with_reducible rfl)
          simp only [Act.put, List.setIfInBounds_toArray, List.set_cons_zero, List.set_cons_succ, List.getElem_toArray, List.getElem_cons_zero, List.getElem_cons_succ]
          refine hT (i := 6) (v := ?_) rfl (by kernel_rfl) (fun _ _ _ h => h) (by rfl) ?_ hHeld ?_
          rotate_left
          · (intro w_ hw_; (try dsimp only at hw_); go_simp; try with_reducible rfl)
          simp only [Act.put, List.setIfInBounds_toArray, List.set_cons_zero, List.set_cons_succ, List.getElem_toArray, List.getElem_cons_zero, List.getElem_cons_succ]
          refine hT (i := 7) (v := ?_) rfl (by kernel_rfl) (fun _ _ _ h => h) (by rfl) ?_ hHeld ?_
          rotate_left
          · (intro w_ hw_; (try dsimp only at hw_); go_simp; try with_reducible rfl)
          simp only [Act.put, List.setIfInBounds_toArray, List.set_cons_zero, List.set_cons_succ, List.getElem_toArray, List.getElem_cons_zero, List.getElem_cons_succ]
          refine hT (i := 8) (v := ?_) rfl (by kernel_rfl) (fun _ _ _ h => h) (by rfl) ?_ hHeld ?_
          rotate_left
          · (intro w_ hw_; (try dsimp only at hw_); go_simp; try with_reducible rfl)
          simp only [Act.put, List.setIfInBounds_toArray, List.set_cons_zero, List.set_cons_succ, List.getElem_toArray, List.getElem_cons_zero, List.getElem_cons_succ]
          refine hT (i := 9) (v := ?_) rfl (by kernel_rfl) (fun _ _ _ h => h) (by rfl) ?_ hHeld ?_
          rotate_left
          · (intro w_ hw_; (try dsimp only at hw_); go_simp; try with_reducible rfl)
          simp only [Act.put, List.setIfInBounds_toArray, List.set_cons_zero, List.set_cons_succ, List.getElem_toArray, List.getElem_cons_zero, List.getElem_cons_succ]
          refine hT (i := 10) (v := ?_) rfl (by kernel_rfl) (fun _ _ _ h => h) (by rfl) ?_ hHeld ?_
          rotate_left
          · (intro w_ hw_; (try dsimp only at hw_); go_simp; try with_reducible rfl)
          simp only [Act.put, List.setIfInBounds_toArray, List.set_cons_zero, List.set_cons_succ, List.getElem_toArray, List.getElem_cons_zero, List.getElem_cons_succ]
          refine hT (i := 11) (v := ?_) rfl (by kernel_rfl) (fun _ _ _ h => h) (by rfl) ?_ hHeld ?_
          rotate_left
          · (intro w_ hw_; (try dsimp only at hw_); go_simp; try with_reducible rfl)
          simp only [Act.put, List.setIfInBounds_toArray, List.set_cons_zero, List.set_cons_succ, List.getElem_toArray, List.getElem_cons_zero, List.getElem_cons_succ]
          refine hT (i := 12) (v := ?_) rfl (by kernel_rfl) (fun _ _ _ h => h) (by rfl) ?_ hHeld ?_
          rotate_left
          · (intro w_ hw_; (try dsimp only at hw_); go_simp; try with_reducible rfl)
          simp only [Act.put, List.setIfInBounds_toArray, List.set_cons_zero, List.set_cons_succ, List.getElem_toArray, List.getElem_cons_zero, List.getElem_cons_succ]
          refine hN (i := 13) rfl (by kernel_rfl) (fun _ _ _ h => h) (by rfl) hHeld ?_
          simp only [Act.put, List.setIfInBounds_toArray, List.set_cons_zero, List.set_cons_succ, List.getElem_toArray, List.getElem_cons_zero, List.getElem_cons_succ]
          refine hN (i := 14) rfl (by kernel_rfl) (fun _ _ _ h => h) (by rfl) hHeld ?_
          simp only [Act.put, List.setIfInBounds_toArray, List.set_cons_zero, List.set_cons_succ, List.getElem_toArray, List.getElem_cons_zero, List.getElem_cons_succ]
          refine hN (i := 15) rfl (by kernel_rfl) (fun _ _ _ h => h) (by rfl) hHeld ?_
          simp only [Act.put, List.setIfInBounds_toArray, List.set_cons_zero, List.set_cons_succ, List.getElem_toArray, List.getElem_cons_zero, List.getElem_cons_succ]
          refine hN (i := 16) rfl (by kernel_rfl) (fun _ _ _ h => h) (by rfl) hHeld ?_
          simp only [Act.put, List.setIfInBounds_toArray, List.set_cons_zero, List.set_cons_succ, List.getElem_toArray, List.getElem_cons_zero, List.getElem_cons_succ]
          refine hN (i := 17) rfl (by kernel_rfl) (fun _ _ _ h => h) (by rfl) hHeld ?_
          simp only [Act.put, List.setIfInBounds_toArray, List.set_cons_zero, List.set_cons_succ, List.getElem_toArray, List.getElem_cons_zero, List.getElem_cons_succ]
          refine hN (i := 18) rfl (by kernel_rfl) (fun _ _ _ h => h) (by rfl) hHeld ?_
          simp only [Act.put, List.setIfInBounds_toArray, List.set_cons_zero, List.set_cons_succ, List.getElem_toArray, List.getElem_cons_zero, List.getElem_cons_succ]
          refine hT (i := 19) (v := ?_) rfl (by kernel_rfl) (fun _ _ _ h => h) (by rfl) ?_ hHeld ?_
          rotate_left
          · (intro w_ hw_; (try dsimp only at hw_); go_simp; try with_reducible rfl)
          simp only [Act.put, List.setIfInBounds_toArray, List.set_cons_zero, List.set_cons_succ, List.getElem_toArray, List.getElem_cons_zero, List.getElem_cons_succ]
          refine hT (i := 20) (v := ?_) rfl (by kernel_rfl) (fun _ _ _ h => h) (by rfl) ?_ hHeld ?_
          rotate_left
          · (intro w_ hw_; (try dsimp only at hw_); go_simp; try with_reducible rfl)
          simp only [Act.put, List.setIfInBounds_toArray, List.set_cons_zero, List.set_cons_succ, List.getElem_toArray, List.getElem_cons_zero, List.getElem_cons_succ]
          refine wpAnyH_done (by kernel_rfl) ?_ _
          clear hHeld
          go_wp2_with fail
          exact ⟨⟨k + 1, by omega, by go_num, HBd⟩, by simp [intOf]; omega⟩
        obtain rfl : yp = 0 := by omega
        have hft2 : (0 == (t : Int)) = false := by simp; omega
        · skip
          go_upto_region 15 with fail
          refine wp_region_held_drew (S := fun w' => (w'.cell? ⟨e1b, e1o + k * 7, none⟩ = some (.int .i64 yk) ∧ w'.cell? ⟨e1b, e1o + k * 7 + 1, none⟩ = some (.int .i64 0) ∧ w'.cell? ⟨e1b, e1o + k * 7 + 2, none⟩ = some (.int .i64 yd) ∧ w'.cell? ⟨e1b, e1o + k * 7 + 3, none⟩ = some (.int .i64 ya) ∧ w'.cell? ⟨e1b, e1o + k * 7 + 4, none⟩ = some (.int .i64 yb) ∧ w'.cell? ⟨e1b, e1o + k * 7 + 5, none⟩ = some (.int .i64 yc) ∧ w'.cell? ⟨e1b, e1o + k * 7 + 6, none⟩ = some (.string ys)) ∧ (w'.cell? ⟨B5, 0, none⟩ = some (.int .i64 yk) ∧ w'.cell? ⟨B5, 1, none⟩ = some (.int .i64 0) ∧ w'.cell? ⟨B5, 2, none⟩ = some (.int .i64 yd) ∧ w'.cell? ⟨B5, 3, none⟩ = some (.int .i64 ya) ∧ w'.cell? ⟨B5, 4, none⟩ = some (.int .i64 yb) ∧ w'.cell? ⟨B5, 5, none⟩ = some (.int .i64 yc) ∧ w'.cell? ⟨B5, 6, none⟩ = some (.string ys))) (by kernel_rfl) ?_ (fun hHeld => ?_)
          · exact ⟨⟨y0, y1, y2, y3, y4, y5, y6⟩, ⟨q0, q1, q2, q3, q4, q5, q6⟩⟩
          refine hT (i := 0) (v := ?_) rfl (by kernel_rfl) (fun _ _ _ h => h) (by rfl) ?_ hHeld ?_
          rotate_left
          · (intro w_ hw_; (try dsimp only at hw_); go_simp; try with_reducible rfl)
          simp only [Act.put, List.setIfInBounds_toArray, List.set_cons_zero, List.set_cons_succ, List.getElem_toArray, List.getElem_cons_zero]
          refine hT (i := 1) (v := ?_) rfl (by kernel_rfl) (fun _ _ _ h => h) (by rfl) ?_ hHeld ?_
          rotate_left
          · (intro w_ hw_; (try dsimp only at hw_); go_simp; try with_reducible rfl)
          simp only [Act.put, List.setIfInBounds_toArray, List.set_cons_zero, List.set_cons_succ, List.getElem_toArray, List.getElem_cons_zero, List.getElem_cons_succ]
          refine hT (i := 2) (v := ?_) rfl (by kernel_rfl) (fun _ _ _ h => h) (by rfl) ?_ hHeld ?_
          rotate_left
          · (intro w_ hw_; (try dsimp only at hw_); go_simp; try with_reducible rfl)
          simp only [Act.put, List.setIfInBounds_toArray, List.set_cons_zero, List.set_cons_succ, List.getElem_toArray, List.getElem_cons_zero, List.getElem_cons_succ]
          refine hT (i := 3) (v := ?_) rfl (by kernel_rfl) (fun _ _ _ h => h) (by rfl) ?_ hHeld ?_
          rotate_left
          · (intro w_ hw_; (try dsimp only at hw_); go_simp; try with_reducible rfl)
          simp only [Act.put, List.setIfInBounds_toArray, List.set_cons_zero, List.set_cons_succ, List.getElem_toArray, List.getElem_cons_zero, List.getElem_cons_succ]
          refine hT (i := 4) (v := ?_) rfl (by kernel_rfl) (fun _ _ _ h => h) (by rfl) ?_ hHeld ?_
          rotate_left
          · (intro w_ hw_; (try dsimp only at hw_); go_simp; try with_reducible rfl)
          simp only [Act.put, List.setIfInBounds_toArray, List.set_cons_zero, List.set_cons_succ, List.getElem_toArray, List.getElem_cons_zero, List.getElem_cons_succ]
          refine hT (i := 5) (v := ?_) rfl (by kernel_rfl) (fun _ _ _ h => h) (by rfl) ?_ hHeld ?_
          rotate_left
          · (intro w_ hw_; (try dsimp only at hw_); go_simp; try with_reducible rfl)
          simp only [Act.put, List.setIfInBounds_toArray, List.set_cons_zero, List.set_cons_succ, List.getElem_toArray, List.getElem_cons_zero, List.getElem_cons_succ]
          refine hT (i := 6) (v := ?_) rfl (by kernel_rfl) (fun _ _ _ h => h) (by rfl) ?_ hHeld ?_
          rotate_left
          · (intro w_ hw_; (try dsimp only at hw_); go_simp; try with_reducible rfl)
          simp only [Act.put, List.setIfInBounds_toArray, List.set_cons_zero, List.set_cons_succ, List.getElem_toArray, List.getElem_cons_zero, List.getElem_cons_succ]
          refine hT (i := 7) (v := ?_) rfl (by kernel_rfl) (fun _ _ _ h => h) (by rfl) ?_ hHeld ?_
          rotate_left
          · (intro w_ hw_; (try dsimp only at hw_); go_simp; try with_reducible rfl)
          simp only [Act.put, List.setIfInBounds_toArray, List.set_cons_zero, List.set_cons_succ, List.getElem_toArray, List.getElem_cons_zero, List.getElem_cons_succ]
          refine hT (i := 8) (v := ?_) rfl (by kernel_rfl) (fun _ _ _ h => h) (by rfl) ?_ hHeld ?_
          rotate_left
          · (intro w_ hw_; (try dsimp only at hw_); go_simp; try with_reducible rfl)
          simp only [Act.put, List.setIfInBounds_toArray, List.set_cons_zero, List.set_cons_succ, List.getElem_toArray, List.getElem_cons_zero, List.getElem_cons_succ]
          refine hT (i := 9) (v := ?_) rfl (by kernel_rfl) (fun _ _ _ h => h) (by rfl) ?_ hHeld ?_
          rotate_left
          · (intro w_ hw_; (try dsimp only at hw_); go_simp; try with_reducible rfl)
          simp only [Act.put, List.setIfInBounds_toArray, List.set_cons_zero, List.set_cons_succ, List.getElem_toArray, List.getElem_cons_zero, List.getElem_cons_succ]
          refine hT (i := 10) (v := ?_) rfl (by kernel_rfl) (fun _ _ _ h => h) (by rfl) ?_ hHeld ?_
          rotate_left
          · (intro w_ hw_; (try dsimp only at hw_); go_simp; try with_reducible rfl)
          simp only [Act.put, List.setIfInBounds_toArray, List.set_cons_zero, List.set_cons_succ, List.getElem_toArray, List.getElem_cons_zero, List.getElem_cons_succ]
          refine hT (i := 11) (v := ?_) rfl (by kernel_rfl) (fun _ _ _ h => h) (by rfl) ?_ hHeld ?_
          rotate_left
          · (intro w_ hw_; (try dsimp only at hw_); go_simp; try with_reducible rfl)
          simp only [Act.put, List.setIfInBounds_toArray, List.set_cons_zero, List.set_cons_succ, List.getElem_toArray, List.getElem_cons_zero, List.getElem_cons_succ]
          refine hT (i := 12) (v := ?_) rfl (by kernel_rfl) (fun _ _ _ h => h) (by rfl) ?_ hHeld ?_
          rotate_left
          · (intro w_ hw_; (try dsimp only at hw_); go_simp; try with_reducible rfl)
          simp only [Act.put, List.setIfInBounds_toArray, List.set_cons_zero, List.set_cons_succ, List.getElem_toArray, List.getElem_cons_zero, List.getElem_cons_succ]
          refine hN (i := 13) rfl (by kernel_rfl) (fun _ _ _ h => h) (by rfl) hHeld ?_
          simp only [Act.put, List.setIfInBounds_toArray, List.set_cons_zero, List.set_cons_succ, List.getElem_toArray, List.getElem_cons_zero, List.getElem_cons_succ]
          refine hN (i := 14) rfl (by kernel_rfl) (fun _ _ _ h => h) (by rfl) hHeld ?_
          simp only [Act.put, List.setIfInBounds_toArray, List.set_cons_zero, List.set_cons_succ, List.getElem_toArray, List.getElem_cons_zero, List.getElem_cons_succ]
          refine hN (i := 15) rfl (by kernel_rfl) (fun _ _ _ h => h) (by rfl) hHeld ?_
          simp only [Act.put, List.setIfInBounds_toArray, List.set_cons_zero, List.set_cons_succ, List.getElem_toArray, List.getElem_cons_zero, List.getElem_cons_succ]
          refine hN (i := 16) rfl (by kernel_rfl) (fun _ _ _ h => h) (by rfl) hHeld ?_
          simp only [Act.put, List.setIfInBounds_toArray, List.set_cons_zero, List.set_cons_succ, List.getElem_toArray, List.getElem_cons_zero, List.getElem_cons_succ]
          refine hN (i := 17) rfl (by kernel_rfl) (fun _ _ _ h => h) (by rfl) hHeld ?_
          simp only [Act.put, List.setIfInBounds_toArray, List.set_cons_zero, List.set_cons_succ, List.getElem_toArray, List.getElem_cons_zero, List.getElem_cons_succ]
          refine hN (i := 18) rfl (by kernel_rfl) (fun _ _ _ h => h) (by rfl) hHeld ?_
          simp only [Act.put, List.setIfInBounds_toArray, List.set_cons_zero, List.set_cons_succ, List.getElem_toArray, List.getElem_cons_zero, List.getElem_cons_succ]
          refine hT (i := 19) (v := ?_) rfl (by kernel_rfl) (fun _ _ _ h => h) (by rfl) ?_ hHeld ?_
          rotate_left
          · (intro w_ hw_; (try dsimp only at hw_); go_simp; try with_reducible rfl)
          simp only [Act.put, List.setIfInBounds_toArray, List.set_cons_zero, List.set_cons_succ, List.getElem_toArray, List.getElem_cons_zero, List.getElem_cons_succ]
          refine hT (i := 20) (v := ?_) rfl (by kernel_rfl) (fun _ _ _ h => h) (by rfl) ?_ hHeld ?_
          rotate_left
          · (intro w_ hw_; (try dsimp only at hw_); go_simp; try with_reducible rfl)
          simp only [Act.put, List.setIfInBounds_toArray, List.set_cons_zero, List.set_cons_succ, List.getElem_toArray, List.getElem_cons_zero, List.getElem_cons_succ]
          refine wpAnyH_done (by kernel_rfl) ?_ _
          clear hHeld
          go_wp2_with fail
          exact ⟨⟨k + 1, by omega, by go_num, HBd⟩, by simp [intOf]; omega⟩
      · rw [if_neg hfl] at hel
        rw [plain_flowsTo xp t ht3] at hfl
        simp only [zeroStep, Step.mk.injEq] at hel
        obtain ⟨rfl, rfl, rfl, rfl, rfl, rfl, rfl⟩ := hel
        by_cases f1 : xp < 0
        · have f1i : ¬ 0 ≤ xp := by omega
          go_upto_region 15 with fail
          refine wp_region_held_drew (S := fun w' => (w'.cell? ⟨e1b, e1o + k * 7, none⟩ = some (.int .i64 0) ∧ w'.cell? ⟨e1b, e1o + k * 7 + 1, none⟩ = some (.int .i64 0) ∧ w'.cell? ⟨e1b, e1o + k * 7 + 2, none⟩ = some (.int .i64 0) ∧ w'.cell? ⟨e1b, e1o + k * 7 + 3, none⟩ = some (.int .i64 0) ∧ w'.cell? ⟨e1b, e1o + k * 7 + 4, none⟩ = some (.int .i64 0) ∧ w'.cell? ⟨e1b, e1o + k * 7 + 5, none⟩ = some (.int .i64 0) ∧ w'.cell? ⟨e1b, e1o + k * 7 + 6, none⟩ = some (.string ⟨#[]⟩)) ∧ (w'.cell? ⟨B5, 0, none⟩ = some (.int .i64 xk) ∧ w'.cell? ⟨B5, 1, none⟩ = some (.int .i64 xp) ∧ w'.cell? ⟨B5, 2, none⟩ = some (.int .i64 xd) ∧ w'.cell? ⟨B5, 3, none⟩ = some (.int .i64 xa) ∧ w'.cell? ⟨B5, 4, none⟩ = some (.int .i64 xb) ∧ w'.cell? ⟨B5, 5, none⟩ = some (.int .i64 xc) ∧ w'.cell? ⟨B5, 6, none⟩ = some (.string xs))) (by kernel_rfl) ?_ (fun hHeld => ?_)
          · exact ⟨⟨y0, y1, y2, y3, y4, y5, y6⟩, ⟨q0, q1, q2, q3, q4, q5, q6⟩⟩
          refine hT (i := 0) (v := ?_) rfl (by kernel_rfl) (fun _ _ _ h => h) (by rfl) ?_ hHeld ?_
          rotate_left
          · (intro w_ hw_; (try dsimp only at hw_); go_simp; try with_reducible rfl)
          simp only [Act.put, List.setIfInBounds_toArray, List.set_cons_zero, List.set_cons_succ, List.getElem_toArray, List.getElem_cons_zero]
          refine hT (i := 1) (v := ?_) rfl (by kernel_rfl) (fun _ _ _ h => h) (by rfl) ?_ hHeld ?_
          rotate_left
          · (intro w_ hw_; (try dsimp only at hw_); go_simp; try with_reducible rfl)
          simp only [Act.put, List.setIfInBounds_toArray, List.set_cons_zero, List.set_cons_succ, List.getElem_toArray, List.getElem_cons_zero, List.getElem_cons_succ]
          refine hN (i := 2) rfl (by kernel_rfl) (fun _ _ _ h => h) (by rfl) hHeld ?_
          simp only [Act.put, List.setIfInBounds_toArray, List.set_cons_zero, List.set_cons_succ, List.getElem_toArray, List.getElem_cons_zero, List.getElem_cons_succ]
          refine hN (i := 3) rfl (by kernel_rfl) (fun _ _ _ h => h) (by rfl) hHeld ?_
          simp only [Act.put, List.setIfInBounds_toArray, List.set_cons_zero, List.set_cons_succ, List.getElem_toArray, List.getElem_cons_zero, List.getElem_cons_succ]
          refine hN (i := 4) rfl (by kernel_rfl) (fun _ _ _ h => h) (by rfl) hHeld ?_
          simp only [Act.put, List.setIfInBounds_toArray, List.set_cons_zero, List.set_cons_succ, List.getElem_toArray, List.getElem_cons_zero, List.getElem_cons_succ]
          refine hN (i := 5) rfl (by kernel_rfl) (fun _ _ _ h => h) (by rfl) hHeld ?_
          simp only [Act.put, List.setIfInBounds_toArray, List.set_cons_zero, List.set_cons_succ, List.getElem_toArray, List.getElem_cons_zero, List.getElem_cons_succ]
          refine hN (i := 6) rfl (by kernel_rfl) (fun _ _ _ h => h) (by rfl) hHeld ?_
          simp only [Act.put, List.setIfInBounds_toArray, List.set_cons_zero, List.set_cons_succ, List.getElem_toArray, List.getElem_cons_zero, List.getElem_cons_succ]
          refine hN (i := 7) rfl (by kernel_rfl) (fun _ _ _ h => h) (by rfl) hHeld ?_
          simp only [Act.put, List.setIfInBounds_toArray, List.set_cons_zero, List.set_cons_succ, List.getElem_toArray, List.getElem_cons_zero, List.getElem_cons_succ]
          refine hT (i := 8) (v := ?_) rfl (by kernel_rfl) (fun _ _ _ h => h) (by rfl) ?_ hHeld ?_
          rotate_left
          · (intro w_ hw_; (try dsimp only at hw_); go_simp; try with_reducible rfl)
          simp only [Act.put, List.setIfInBounds_toArray, List.set_cons_zero, List.set_cons_succ, List.getElem_toArray, List.getElem_cons_zero, List.getElem_cons_succ]
          refine hT (i := 9) (v := ?_) rfl (by kernel_rfl) (fun _ _ _ h => h) (by rfl) ?_ hHeld ?_
          rotate_left
          · (intro w_ hw_; (try dsimp only at hw_); go_simp; try with_reducible rfl)
          simp only [Act.put, List.setIfInBounds_toArray, List.set_cons_zero, List.set_cons_succ, List.getElem_toArray, List.getElem_cons_zero, List.getElem_cons_succ]
          refine hT (i := 10) (v := ?_) rfl (by kernel_rfl) (fun _ _ _ h => h) (by rfl) ?_ hHeld ?_
          rotate_left
          · (intro w_ hw_; (try dsimp only at hw_); go_simp; try with_reducible rfl)
          simp only [Act.put, List.setIfInBounds_toArray, List.set_cons_zero, List.set_cons_succ, List.getElem_toArray, List.getElem_cons_zero, List.getElem_cons_succ]
          refine hT (i := 11) (v := ?_) rfl (by kernel_rfl) (fun _ _ _ h => h) (by rfl) ?_ hHeld ?_
          rotate_left
          · (intro w_ hw_; (try dsimp only at hw_); go_simp; try with_reducible rfl)
          simp only [Act.put, List.setIfInBounds_toArray, List.set_cons_zero, List.set_cons_succ, List.getElem_toArray, List.getElem_cons_zero, List.getElem_cons_succ]
          refine hT (i := 12) (v := ?_) rfl (by kernel_rfl) (fun _ _ _ h => h) (by rfl) ?_ hHeld ?_
          rotate_left
          · (intro w_ hw_; (try dsimp only at hw_); go_simp; try with_reducible rfl)
          simp only [Act.put, List.setIfInBounds_toArray, List.set_cons_zero, List.set_cons_succ, List.getElem_toArray, List.getElem_cons_zero, List.getElem_cons_succ]
          refine hT (i := 13) (v := ?_) rfl (by kernel_rfl) (fun _ _ _ h => h) (by rfl) ?_ hHeld ?_
          rotate_left
          · (intro w_ hw_; (try dsimp only at hw_); go_simp; try with_reducible rfl)
          simp only [Act.put, List.setIfInBounds_toArray, List.set_cons_zero, List.set_cons_succ, List.getElem_toArray, List.getElem_cons_zero, List.getElem_cons_succ]
          refine hT (i := 14) (v := ?_) rfl (by kernel_rfl) (fun _ _ _ h => h) (by rfl) ?_ hHeld ?_
          rotate_left
          · (intro w_ hw_; (try dsimp only at hw_); go_simp; try with_reducible rfl)
          simp only [Act.put, List.setIfInBounds_toArray, List.set_cons_zero, List.set_cons_succ, List.getElem_toArray, List.getElem_cons_zero, List.getElem_cons_succ]
          refine hT (i := 15) (v := ?_) rfl (by kernel_rfl) (fun _ _ _ h => h) (by rfl) ?_ hHeld ?_
          rotate_left
          · (intro w_ hw_; (try dsimp only at hw_); go_simp; try with_reducible rfl)
          simp only [Act.put, List.setIfInBounds_toArray, List.set_cons_zero, List.set_cons_succ, List.getElem_toArray, List.getElem_cons_zero, List.getElem_cons_succ]
          refine hT (i := 16) (v := ?_) rfl (by kernel_rfl) (fun _ _ _ h => h) (by rfl) ?_ hHeld ?_
          rotate_left
          · (intro w_ hw_; (try dsimp only at hw_); go_simp; try with_reducible rfl)
          simp only [Act.put, List.setIfInBounds_toArray, List.set_cons_zero, List.set_cons_succ, List.getElem_toArray, List.getElem_cons_zero, List.getElem_cons_succ]
          refine hT (i := 17) (v := ?_) rfl (by kernel_rfl) (fun _ _ _ h => h) (by rfl) ?_ hHeld ?_
          rotate_left
          · (intro w_ hw_; (try dsimp only at hw_); go_simp; try with_reducible rfl)
          simp only [Act.put, List.setIfInBounds_toArray, List.set_cons_zero, List.set_cons_succ, List.getElem_toArray, List.getElem_cons_zero, List.getElem_cons_succ]
          refine hT (i := 18) (v := ?_) rfl (by kernel_rfl) (fun _ _ _ h => h) (by rfl) ?_ hHeld ?_
          rotate_left
          · (intro w_ hw_; (try dsimp only at hw_); go_simp; try with_reducible rfl)
          simp only [Act.put, List.setIfInBounds_toArray, List.set_cons_zero, List.set_cons_succ, List.getElem_toArray, List.getElem_cons_zero, List.getElem_cons_succ]
          refine hT (i := 19) (v := ?_) rfl (by kernel_rfl) (fun _ _ _ h => h) (by rfl) ?_ hHeld ?_
          rotate_left
          · (intro w_ hw_; (try dsimp only at hw_); go_simp; try with_reducible rfl)
          simp only [Act.put, List.setIfInBounds_toArray, List.set_cons_zero, List.set_cons_succ, List.getElem_toArray, List.getElem_cons_zero, List.getElem_cons_succ]
          refine hT (i := 20) (v := ?_) rfl (by kernel_rfl) (fun _ _ _ h => h) (by rfl) ?_ hHeld ?_
          rotate_left
          · (intro w_ hw_; (try dsimp only at hw_); go_simp; try with_reducible rfl)
          simp only [Act.put, List.setIfInBounds_toArray, List.set_cons_zero, List.set_cons_succ, List.getElem_toArray, List.getElem_cons_zero, List.getElem_cons_succ]
          refine wpAnyH_done (by kernel_rfl) ?_ _
          clear hHeld
          go_wp2_with fail
          exact ⟨⟨k + 1, by omega, by go_num, HBd⟩, by simp [intOf]; omega⟩
        by_cases f2 : 3 ≤ xp
        · have f2i : ¬ xp < 3 := by omega
          have f1i : 0 ≤ xp := by omega
          go_upto_region 15 with fail
          refine wp_region_held_drew (S := fun w' => (w'.cell? ⟨e1b, e1o + k * 7, none⟩ = some (.int .i64 0) ∧ w'.cell? ⟨e1b, e1o + k * 7 + 1, none⟩ = some (.int .i64 0) ∧ w'.cell? ⟨e1b, e1o + k * 7 + 2, none⟩ = some (.int .i64 0) ∧ w'.cell? ⟨e1b, e1o + k * 7 + 3, none⟩ = some (.int .i64 0) ∧ w'.cell? ⟨e1b, e1o + k * 7 + 4, none⟩ = some (.int .i64 0) ∧ w'.cell? ⟨e1b, e1o + k * 7 + 5, none⟩ = some (.int .i64 0) ∧ w'.cell? ⟨e1b, e1o + k * 7 + 6, none⟩ = some (.string ⟨#[]⟩)) ∧ (w'.cell? ⟨B5, 0, none⟩ = some (.int .i64 xk) ∧ w'.cell? ⟨B5, 1, none⟩ = some (.int .i64 xp) ∧ w'.cell? ⟨B5, 2, none⟩ = some (.int .i64 xd) ∧ w'.cell? ⟨B5, 3, none⟩ = some (.int .i64 xa) ∧ w'.cell? ⟨B5, 4, none⟩ = some (.int .i64 xb) ∧ w'.cell? ⟨B5, 5, none⟩ = some (.int .i64 xc) ∧ w'.cell? ⟨B5, 6, none⟩ = some (.string xs))) (by kernel_rfl) ?_ (fun hHeld => ?_)
          · exact ⟨⟨y0, y1, y2, y3, y4, y5, y6⟩, ⟨q0, q1, q2, q3, q4, q5, q6⟩⟩
          refine hT (i := 0) (v := ?_) rfl (by kernel_rfl) (fun _ _ _ h => h) (by rfl) ?_ hHeld ?_
          rotate_left
          · (intro w_ hw_; (try dsimp only at hw_); go_simp; try with_reducible rfl)
          simp only [Act.put, List.setIfInBounds_toArray, List.set_cons_zero, List.set_cons_succ, List.getElem_toArray, List.getElem_cons_zero]
          refine hT (i := 1) (v := ?_) rfl (by kernel_rfl) (fun _ _ _ h => h) (by rfl) ?_ hHeld ?_
          rotate_left
          · (intro w_ hw_; (try dsimp only at hw_); go_simp; try with_reducible rfl)
          simp only [Act.put, List.setIfInBounds_toArray, List.set_cons_zero, List.set_cons_succ, List.getElem_toArray, List.getElem_cons_zero, List.getElem_cons_succ]
          refine hN (i := 2) rfl (by kernel_rfl) (fun _ _ _ h => h) (by rfl) hHeld ?_
          simp only [Act.put, List.setIfInBounds_toArray, List.set_cons_zero, List.set_cons_succ, List.getElem_toArray, List.getElem_cons_zero, List.getElem_cons_succ]
          refine hN (i := 3) rfl (by kernel_rfl) (fun _ _ _ h => h) (by rfl) hHeld ?_
          simp only [Act.put, List.setIfInBounds_toArray, List.set_cons_zero, List.set_cons_succ, List.getElem_toArray, List.getElem_cons_zero, List.getElem_cons_succ]
          refine hN (i := 4) rfl (by kernel_rfl) (fun _ _ _ h => h) (by rfl) hHeld ?_
          simp only [Act.put, List.setIfInBounds_toArray, List.set_cons_zero, List.set_cons_succ, List.getElem_toArray, List.getElem_cons_zero, List.getElem_cons_succ]
          refine hN (i := 5) rfl (by kernel_rfl) (fun _ _ _ h => h) (by rfl) hHeld ?_
          simp only [Act.put, List.setIfInBounds_toArray, List.set_cons_zero, List.set_cons_succ, List.getElem_toArray, List.getElem_cons_zero, List.getElem_cons_succ]
          refine hN (i := 6) rfl (by kernel_rfl) (fun _ _ _ h => h) (by rfl) hHeld ?_
          simp only [Act.put, List.setIfInBounds_toArray, List.set_cons_zero, List.set_cons_succ, List.getElem_toArray, List.getElem_cons_zero, List.getElem_cons_succ]
          refine hN (i := 7) rfl (by kernel_rfl) (fun _ _ _ h => h) (by rfl) hHeld ?_
          simp only [Act.put, List.setIfInBounds_toArray, List.set_cons_zero, List.set_cons_succ, List.getElem_toArray, List.getElem_cons_zero, List.getElem_cons_succ]
          refine hT (i := 8) (v := ?_) rfl (by kernel_rfl) (fun _ _ _ h => h) (by rfl) ?_ hHeld ?_
          rotate_left
          · (intro w_ hw_; (try dsimp only at hw_); go_simp; try with_reducible rfl)
          simp only [Act.put, List.setIfInBounds_toArray, List.set_cons_zero, List.set_cons_succ, List.getElem_toArray, List.getElem_cons_zero, List.getElem_cons_succ]
          refine hT (i := 9) (v := ?_) rfl (by kernel_rfl) (fun _ _ _ h => h) (by rfl) ?_ hHeld ?_
          rotate_left
          · (intro w_ hw_; (try dsimp only at hw_); go_simp; try with_reducible rfl)
          simp only [Act.put, List.setIfInBounds_toArray, List.set_cons_zero, List.set_cons_succ, List.getElem_toArray, List.getElem_cons_zero, List.getElem_cons_succ]
          refine hT (i := 10) (v := ?_) rfl (by kernel_rfl) (fun _ _ _ h => h) (by rfl) ?_ hHeld ?_
          rotate_left
          · (intro w_ hw_; (try dsimp only at hw_); go_simp; try with_reducible rfl)
          simp only [Act.put, List.setIfInBounds_toArray, List.set_cons_zero, List.set_cons_succ, List.getElem_toArray, List.getElem_cons_zero, List.getElem_cons_succ]
          refine hT (i := 11) (v := ?_) rfl (by kernel_rfl) (fun _ _ _ h => h) (by rfl) ?_ hHeld ?_
          rotate_left
          · (intro w_ hw_; (try dsimp only at hw_); go_simp; try with_reducible rfl)
          simp only [Act.put, List.setIfInBounds_toArray, List.set_cons_zero, List.set_cons_succ, List.getElem_toArray, List.getElem_cons_zero, List.getElem_cons_succ]
          refine hT (i := 12) (v := ?_) rfl (by kernel_rfl) (fun _ _ _ h => h) (by rfl) ?_ hHeld ?_
          rotate_left
          · (intro w_ hw_; (try dsimp only at hw_); go_simp; try with_reducible rfl)
          simp only [Act.put, List.setIfInBounds_toArray, List.set_cons_zero, List.set_cons_succ, List.getElem_toArray, List.getElem_cons_zero, List.getElem_cons_succ]
          refine hT (i := 13) (v := ?_) rfl (by kernel_rfl) (fun _ _ _ h => h) (by rfl) ?_ hHeld ?_
          rotate_left
          · (intro w_ hw_; (try dsimp only at hw_); go_simp; try with_reducible rfl)
          simp only [Act.put, List.setIfInBounds_toArray, List.set_cons_zero, List.set_cons_succ, List.getElem_toArray, List.getElem_cons_zero, List.getElem_cons_succ]
          refine hT (i := 14) (v := ?_) rfl (by kernel_rfl) (fun _ _ _ h => h) (by rfl) ?_ hHeld ?_
          rotate_left
          · (intro w_ hw_; (try dsimp only at hw_); go_simp; try with_reducible rfl)
          simp only [Act.put, List.setIfInBounds_toArray, List.set_cons_zero, List.set_cons_succ, List.getElem_toArray, List.getElem_cons_zero, List.getElem_cons_succ]
          refine hT (i := 15) (v := ?_) rfl (by kernel_rfl) (fun _ _ _ h => h) (by rfl) ?_ hHeld ?_
          rotate_left
          · (intro w_ hw_; (try dsimp only at hw_); go_simp; try with_reducible rfl)
          simp only [Act.put, List.setIfInBounds_toArray, List.set_cons_zero, List.set_cons_succ, List.getElem_toArray, List.getElem_cons_zero, List.getElem_cons_succ]
          refine hT (i := 16) (v := ?_) rfl (by kernel_rfl) (fun _ _ _ h => h) (by rfl) ?_ hHeld ?_
          rotate_left
          · (intro w_ hw_; (try dsimp only at hw_); go_simp; try with_reducible rfl)
          simp only [Act.put, List.setIfInBounds_toArray, List.set_cons_zero, List.set_cons_succ, List.getElem_toArray, List.getElem_cons_zero, List.getElem_cons_succ]
          refine hT (i := 17) (v := ?_) rfl (by kernel_rfl) (fun _ _ _ h => h) (by rfl) ?_ hHeld ?_
          rotate_left
          · (intro w_ hw_; (try dsimp only at hw_); go_simp; try with_reducible rfl)
          simp only [Act.put, List.setIfInBounds_toArray, List.set_cons_zero, List.set_cons_succ, List.getElem_toArray, List.getElem_cons_zero, List.getElem_cons_succ]
          refine hT (i := 18) (v := ?_) rfl (by kernel_rfl) (fun _ _ _ h => h) (by rfl) ?_ hHeld ?_
          rotate_left
          · (intro w_ hw_; (try dsimp only at hw_); go_simp; try with_reducible rfl)
          simp only [Act.put, List.setIfInBounds_toArray, List.set_cons_zero, List.set_cons_succ, List.getElem_toArray, List.getElem_cons_zero, List.getElem_cons_succ]
          refine hT (i := 19) (v := ?_) rfl (by kernel_rfl) (fun _ _ _ h => h) (by rfl) ?_ hHeld ?_
          rotate_left
          · (intro w_ hw_; (try dsimp only at hw_); go_simp; try with_reducible rfl)
          simp only [Act.put, List.setIfInBounds_toArray, List.set_cons_zero, List.set_cons_succ, List.getElem_toArray, List.getElem_cons_zero, List.getElem_cons_succ]
          refine hT (i := 20) (v := ?_) rfl (by kernel_rfl) (fun _ _ _ h => h) (by rfl) ?_ hHeld ?_
          rotate_left
          · (intro w_ hw_; (try dsimp only at hw_); go_simp; try with_reducible rfl)
          simp only [Act.put, List.setIfInBounds_toArray, List.set_cons_zero, List.set_cons_succ, List.getElem_toArray, List.getElem_cons_zero, List.getElem_cons_succ]
          refine wpAnyH_done (by kernel_rfl) ?_ _
          clear hHeld
          go_wp2_with fail
          exact ⟨⟨k + 1, by omega, by go_num, HBd⟩, by simp [intOf]; omega⟩
        · have f1i : 0 ≤ xp := by omega
          have f2i : xp < 3 := by omega
          have f3 : (xp == (t : Int)) = false := by simp; omega
          have f4 : (xp == 0) = false := by simp; omega
          have f3i : ¬ xp = (t : Int) := by omega
          have f4i : ¬ xp = 0 := by omega
          go_upto_region 15 with fail
          refine wp_region_held_drew (S := fun w' => (w'.cell? ⟨e1b, e1o + k * 7, none⟩ = some (.int .i64 0) ∧ w'.cell? ⟨e1b, e1o + k * 7 + 1, none⟩ = some (.int .i64 0) ∧ w'.cell? ⟨e1b, e1o + k * 7 + 2, none⟩ = some (.int .i64 0) ∧ w'.cell? ⟨e1b, e1o + k * 7 + 3, none⟩ = some (.int .i64 0) ∧ w'.cell? ⟨e1b, e1o + k * 7 + 4, none⟩ = some (.int .i64 0) ∧ w'.cell? ⟨e1b, e1o + k * 7 + 5, none⟩ = some (.int .i64 0) ∧ w'.cell? ⟨e1b, e1o + k * 7 + 6, none⟩ = some (.string ⟨#[]⟩)) ∧ (w'.cell? ⟨B5, 0, none⟩ = some (.int .i64 xk) ∧ w'.cell? ⟨B5, 1, none⟩ = some (.int .i64 xp) ∧ w'.cell? ⟨B5, 2, none⟩ = some (.int .i64 xd) ∧ w'.cell? ⟨B5, 3, none⟩ = some (.int .i64 xa) ∧ w'.cell? ⟨B5, 4, none⟩ = some (.int .i64 xb) ∧ w'.cell? ⟨B5, 5, none⟩ = some (.int .i64 xc) ∧ w'.cell? ⟨B5, 6, none⟩ = some (.string xs))) (by kernel_rfl) ?_ (fun hHeld => ?_)
          · exact ⟨⟨y0, y1, y2, y3, y4, y5, y6⟩, ⟨q0, q1, q2, q3, q4, q5, q6⟩⟩
          refine hT (i := 0) (v := ?_) rfl (by kernel_rfl) (fun _ _ _ h => h) (by rfl) ?_ hHeld ?_
          rotate_left
          · (intro w_ hw_; (try dsimp only at hw_); go_simp; try with_reducible rfl)
          simp only [Act.put, List.setIfInBounds_toArray, List.set_cons_zero, List.set_cons_succ, List.getElem_toArray, List.getElem_cons_zero]
          refine hT (i := 1) (v := ?_) rfl (by kernel_rfl) (fun _ _ _ h => h) (by rfl) ?_ hHeld ?_
          rotate_left
          · (intro w_ hw_; (try dsimp only at hw_); go_simp; try with_reducible rfl)
          simp only [Act.put, List.setIfInBounds_toArray, List.set_cons_zero, List.set_cons_succ, List.getElem_toArray, List.getElem_cons_zero, List.getElem_cons_succ]
          refine hN (i := 2) rfl (by kernel_rfl) (fun _ _ _ h => h) (by rfl) hHeld ?_
          simp only [Act.put, List.setIfInBounds_toArray, List.set_cons_zero, List.set_cons_succ, List.getElem_toArray, List.getElem_cons_zero, List.getElem_cons_succ]
          refine hN (i := 3) rfl (by kernel_rfl) (fun _ _ _ h => h) (by rfl) hHeld ?_
          simp only [Act.put, List.setIfInBounds_toArray, List.set_cons_zero, List.set_cons_succ, List.getElem_toArray, List.getElem_cons_zero, List.getElem_cons_succ]
          refine hN (i := 4) rfl (by kernel_rfl) (fun _ _ _ h => h) (by rfl) hHeld ?_
          simp only [Act.put, List.setIfInBounds_toArray, List.set_cons_zero, List.set_cons_succ, List.getElem_toArray, List.getElem_cons_zero, List.getElem_cons_succ]
          refine hN (i := 5) rfl (by kernel_rfl) (fun _ _ _ h => h) (by rfl) hHeld ?_
          simp only [Act.put, List.setIfInBounds_toArray, List.set_cons_zero, List.set_cons_succ, List.getElem_toArray, List.getElem_cons_zero, List.getElem_cons_succ]
          refine hN (i := 6) rfl (by kernel_rfl) (fun _ _ _ h => h) (by rfl) hHeld ?_
          simp only [Act.put, List.setIfInBounds_toArray, List.set_cons_zero, List.set_cons_succ, List.getElem_toArray, List.getElem_cons_zero, List.getElem_cons_succ]
          refine hN (i := 7) rfl (by kernel_rfl) (fun _ _ _ h => h) (by rfl) hHeld ?_
          simp only [Act.put, List.setIfInBounds_toArray, List.set_cons_zero, List.set_cons_succ, List.getElem_toArray, List.getElem_cons_zero, List.getElem_cons_succ]
          refine hT (i := 8) (v := ?_) rfl (by kernel_rfl) (fun _ _ _ h => h) (by rfl) ?_ hHeld ?_
          rotate_left
          · (intro w_ hw_; (try dsimp only at hw_); go_simp; try with_reducible rfl)
          simp only [Act.put, List.setIfInBounds_toArray, List.set_cons_zero, List.set_cons_succ, List.getElem_toArray, List.getElem_cons_zero, List.getElem_cons_succ]
          refine hT (i := 9) (v := ?_) rfl (by kernel_rfl) (fun _ _ _ h => h) (by rfl) ?_ hHeld ?_
          rotate_left
          · (intro w_ hw_; (try dsimp only at hw_); go_simp; try with_reducible rfl)
          simp only [Act.put, List.setIfInBounds_toArray, List.set_cons_zero, List.set_cons_succ, List.getElem_toArray, List.getElem_cons_zero, List.getElem_cons_succ]
          refine hT (i := 10) (v := ?_) rfl (by kernel_rfl) (fun _ _ _ h => h) (by rfl) ?_ hHeld ?_
          rotate_left
          · (intro w_ hw_; (try dsimp only at hw_); go_simp; try with_reducible rfl)
          simp only [Act.put, List.setIfInBounds_toArray, List.set_cons_zero, List.set_cons_succ, List.getElem_toArray, List.getElem_cons_zero, List.getElem_cons_succ]
          refine hT (i := 11) (v := ?_) rfl (by kernel_rfl) (fun _ _ _ h => h) (by rfl) ?_ hHeld ?_
          rotate_left
          · (intro w_ hw_; (try dsimp only at hw_); go_simp; try with_reducible rfl)
          simp only [Act.put, List.setIfInBounds_toArray, List.set_cons_zero, List.set_cons_succ, List.getElem_toArray, List.getElem_cons_zero, List.getElem_cons_succ]
          refine hT (i := 12) (v := ?_) rfl (by kernel_rfl) (fun _ _ _ h => h) (by rfl) ?_ hHeld ?_
          rotate_left
          · (intro w_ hw_; (try dsimp only at hw_); go_simp; try with_reducible rfl)
          simp only [Act.put, List.setIfInBounds_toArray, List.set_cons_zero, List.set_cons_succ, List.getElem_toArray, List.getElem_cons_zero, List.getElem_cons_succ]
          refine hT (i := 13) (v := ?_) rfl (by kernel_rfl) (fun _ _ _ h => h) (by rfl) ?_ hHeld ?_
          rotate_left
          · (intro w_ hw_; (try dsimp only at hw_); go_simp; try with_reducible rfl)
          simp only [Act.put, List.setIfInBounds_toArray, List.set_cons_zero, List.set_cons_succ, List.getElem_toArray, List.getElem_cons_zero, List.getElem_cons_succ]
          refine hT (i := 14) (v := ?_) rfl (by kernel_rfl) (fun _ _ _ h => h) (by rfl) ?_ hHeld ?_
          rotate_left
          · (intro w_ hw_; (try dsimp only at hw_); go_simp; try with_reducible rfl)
          simp only [Act.put, List.setIfInBounds_toArray, List.set_cons_zero, List.set_cons_succ, List.getElem_toArray, List.getElem_cons_zero, List.getElem_cons_succ]
          refine hT (i := 15) (v := ?_) rfl (by kernel_rfl) (fun _ _ _ h => h) (by rfl) ?_ hHeld ?_
          rotate_left
          · (intro w_ hw_; (try dsimp only at hw_); go_simp; try with_reducible rfl)
          simp only [Act.put, List.setIfInBounds_toArray, List.set_cons_zero, List.set_cons_succ, List.getElem_toArray, List.getElem_cons_zero, List.getElem_cons_succ]
          refine hT (i := 16) (v := ?_) rfl (by kernel_rfl) (fun _ _ _ h => h) (by rfl) ?_ hHeld ?_
          rotate_left
          · (intro w_ hw_; (try dsimp only at hw_); go_simp; try with_reducible rfl)
          simp only [Act.put, List.setIfInBounds_toArray, List.set_cons_zero, List.set_cons_succ, List.getElem_toArray, List.getElem_cons_zero, List.getElem_cons_succ]
          refine hT (i := 17) (v := ?_) rfl (by kernel_rfl) (fun _ _ _ h => h) (by rfl) ?_ hHeld ?_
          rotate_left
          · (intro w_ hw_; (try dsimp only at hw_); go_simp; try with_reducible rfl)
          simp only [Act.put, List.setIfInBounds_toArray, List.set_cons_zero, List.set_cons_succ, List.getElem_toArray, List.getElem_cons_zero, List.getElem_cons_succ]
          refine hT (i := 18) (v := ?_) rfl (by kernel_rfl) (fun _ _ _ h => h) (by rfl) ?_ hHeld ?_
          rotate_left
          · (intro w_ hw_; (try dsimp only at hw_); go_simp; try with_reducible rfl)
          simp only [Act.put, List.setIfInBounds_toArray, List.set_cons_zero, List.set_cons_succ, List.getElem_toArray, List.getElem_cons_zero, List.getElem_cons_succ]
          refine hT (i := 19) (v := ?_) rfl (by kernel_rfl) (fun _ _ _ h => h) (by rfl) ?_ hHeld ?_
          rotate_left
          · (intro w_ hw_; (try dsimp only at hw_); go_simp; try with_reducible rfl)
          simp only [Act.put, List.setIfInBounds_toArray, List.set_cons_zero, List.set_cons_succ, List.getElem_toArray, List.getElem_cons_zero, List.getElem_cons_succ]
          refine hT (i := 20) (v := ?_) rfl (by kernel_rfl) (fun _ _ _ h => h) (by rfl) ?_ hHeld ?_
          rotate_left
          · (intro w_ hw_; (try dsimp only at hw_); go_simp; try with_reducible rfl)
          simp only [Act.put, List.setIfInBounds_toArray, List.set_cons_zero, List.set_cons_succ, List.getElem_toArray, List.getElem_cons_zero, List.getElem_cons_succ]
          refine wpAnyH_done (by kernel_rfl) ?_ _
          clear hHeld
          go_wp2_with fail
          exact ⟨⟨k + 1, by omega, by go_num, HBd⟩, by simp [intOf]; omega⟩
    · obtain rfl : k = steps.length := by omega
      go_wp2_with fail
      go_ret
      exact ⟨rfl, Bel.trans H3.out HB.out⟩
end Go.Proofs.Ythjhkbnajclcjaa
