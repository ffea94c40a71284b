/- caissonlaw23.PurgeAll: the walk. -/
import Derived.Test.YthjhkbnajclcjaaPAll
set_option linter.unusedSimpArgs false
namespace Go.Proofs.Ythjhkbnajclcjaa
open Go.RowKit


set_option maxRecDepth 20000 in
set_option maxHeartbeats 16000000 in
theorem purgeAll_law (vs_ : Value) (steps : List Step) (w : World) (hs : kStep.Sl w vs_ steps) (hF : steps.length * 64 ≤ 140737488351232) :
    Calls Try.prog 14 #[vs_] w fun e w' => e = .returned (.bool true) ∧ Bel w w' := by
  obtain ⟨A, b, o, cap, rfl, hl, hc, hA, hR⟩ := hs.open rfl
  have HR := hide (hR.out w hs)
  have HSt := hide hs
  have ha := hide awake23_calls
  have hn := hide num_calls
  have hp := hide plain23_calls'
  obtain ⟨out, HO⟩ : ∃ out, Hid (purge allCfg steps 2 = out) := ⟨_, rfl⟩
  have hln : out.length = steps.length := by rw [← HO.out]; exact purge_length _ _ _ all_ok
  have HEl := hide fun k (hk : k < steps.length) (hk2 : k < out.length) => show OutE ((steps.take k).any (·.kind == 2) || steps[k].kind == 2) steps[k] out[k] from by
    have := HO.out
    subst this
    exact purge_all steps k hk hk2
  have HEr := hide (purgeErr_some allCfg 2 all_ok)
  clear hs hR
  go_enter Try.func14, Try.ntmps14
  go_upto_region 3 with ((with_reducible refine (Hid.out ha _).mono ?_); rintro e w1 ⟨rfl, hb0⟩; have m0 := hide hb0; clear hb0)
  go_upto_region 4 with ((with_reducible refine (Hid.out hp _).mono ?_); rintro e w2 ⟨rfl, hb1, hc1, hs1⟩)
  obtain ⟨W3, hW3⟩ : ∃ W3 : World, W3 = w2.alloc (.cells #[.int .i64 16, .slice (some ⟨w1.heap.size + 4, 0, none⟩) 3 3, .slice (some ⟨w1.heap.size + 7, 0, none⟩) 2 2, .int .i64 6, .slice (some ⟨w1.heap.size + 8, 0, none⟩) 3 3, .slice (some ⟨w1.heap.size + 9, 0, none⟩) 1 1, .int .i64 10, .int .i64 6, .int .i64 2] 27) := ⟨_, rfl⟩
  rw [← hW3]
  have hw1 := m0.out.size
  have HB3 := hide (show Bel w W3 by rw [hW3]; exact (Bel.trans m0.out hb1.out).alloc _)
  have HBx := hide (show BlkAt W3 w2.heap.size [.int .i64 16, .slice (some ⟨w1.heap.size + 4, 0, none⟩) 3 3, .slice (some ⟨w1.heap.size + 7, 0, none⟩) 2 2, .int .i64 6, .slice (some ⟨w1.heap.size + 8, 0, none⟩) 3 3, .slice (some ⟨w1.heap.size + 9, 0, none⟩) 1 1, .int .i64 10, .int .i64 6, .int .i64 2] 27 by rw [hW3]; exact blk_new w2 _ _)
  have HPl := hide (show AllAt W3 w1.heap.size 0 from hc1.out.bel (show Bel w2 W3 by rw [hW3]; exact (bel_refl _).alloc _))
  clear hW3 hb1 hc1 hp ha m0
  generalize w1.heap.size = N at *
  generalize w2.heap.size = B3 at *
  go_wp2_with fail
  go_loopw [4] (fun t W => ∃ k : Nat, k ≤ 3 ∧ t = .int .i64 k ∧ Hid (AllAt W N k) ∧ Hid (BlkAt W B3 [.int .i64 16, .slice (some ⟨N + 4, 0, none⟩) 3 3, .slice (some ⟨N + 7, 0, none⟩) 2 2, .int .i64 6, .slice (some ⟨N + 8, 0, none⟩) 3 3, .slice (some ⟨N + 9, 0, none⟩) 1 1, .int .i64 10, .int .i64 6, .int .i64 2] 27) ∧ Hid (Bel w W)) (fun t _ => 3 - (intOf t).toNat)
  case atStart => exact ⟨0, by omega, rfl, HPl, HBx, HB3⟩
  case round =>
    obtain ⟨k, hk, rfl, HP, HQ, HB⟩ := hrel
    have x1 := HQ.out.cell (i := 1) rfl
    have f1 := fun i => HP.out.b_ps.free i
    match k, hk with
    | 0, _ =>
      have g0 := HP.out.b_ps.cell (i := 0) rfl
      have g1 := HP.out.b_ps.cell (i := 1) rfl
      go_wp2_with fail
      exact ⟨⟨1, by omega, by go_num, hide ((HP.out.set_ps 0 (vi 0)).set_ps 1 (vi 0)), hide ((HQ.out.other (p := ⟨N + 4, 0, none⟩) (by dsimp only; omega) _).other (p := ⟨N + 4, 1, none⟩) (by dsimp only; omega) _), hide ((HB.out.setCell (by dsimp only; omega) _).setCell (by dsimp only; omega) _)⟩, by simp [intOf]⟩
    | 1, _ =>
      have g0 := HP.out.b_ps.cell (i := 5) rfl
      have g1 := HP.out.b_ps.cell (i := 6) rfl
      go_wp2_with fail
      exact ⟨⟨2, by omega, by go_num, hide ((HP.out.set_ps 5 (vi 1)).set_ps 6 (vi 0)), hide ((HQ.out.other (p := ⟨N + 4, 5, none⟩) (by dsimp only; omega) _).other (p := ⟨N + 4, 6, none⟩) (by dsimp only; omega) _), hide ((HB.out.setCell (by dsimp only; omega) _).setCell (by dsimp only; omega) _)⟩, by simp [intOf]⟩
    | 2, _ =>
      have g0 := HP.out.b_ps.cell (i := 10) rfl
      have g1 := HP.out.b_ps.cell (i := 11) rfl
      go_wp2_with fail
      exact ⟨⟨3, by omega, by go_num, hide ((HP.out.set_ps 10 (vi 2)).set_ps 11 (vi 0)), hide ((HQ.out.other (p := ⟨N + 4, 10, none⟩) (by dsimp only; omega) _).other (p := ⟨N + 4, 11, none⟩) (by dsimp only; omega) _), hide ((HB.out.setCell (by dsimp only; omega) _).setCell (by dsimp only; omega) _)⟩, by simp [intOf]⟩
    | 3, _ =>
      clear HPl HBx HB3 f1 x1
      have CV := hide (show CfgV wr (.agg #[.int .i64 16, .slice (some ⟨N + 4, 0, none⟩) 3 3, .slice (some ⟨N + 7, 0, none⟩) 2 2, .int .i64 6, .slice (some ⟨N + 8, 0, none⟩) 3 3, .slice (some ⟨N + 9, 0, none⟩) 1 1, .int .i64 10, .int .i64 6, .int .i64 2]) allCfg from AllAt.k HP.out)
      have hpu := hide (purge_p wr _ _ allCfg steps 2 CV.out (HSt.out.bel HB.out) hF)
      rw [HO.out, HEr.out] at hpu
      clear HO HEr CV HSt HP hs1
      have x0 := HQ.out.cell (i := 0) rfl
      have x1 := HQ.out.cell (i := 1) rfl
      have x2 := HQ.out.cell (i := 2) rfl
      have x3 := HQ.out.cell (i := 3) rfl
      have x4 := HQ.out.cell (i := 4) rfl
      have x5 := HQ.out.cell (i := 5) rfl
      have x6 := HQ.out.cell (i := 6) rfl
      have x7 := HQ.out.cell (i := 7) rfl
      have x8 := HQ.out.cell (i := 8) rfl
      go_upto_region 9 with ((with_reducible refine (Hid.out hpu).mono ?_); rintro e w4 ⟨v4, base4, rfl, -, hO3, hB3⟩; obtain ⟨E1, e1b, e1o, cap1, rfl, hl3, hc3, hE1, hRo⟩ := hO3.seg.sl.open hln; have HSo := hide hO3.seg.sl; have j3 := hide hB3; clear hO3 hB3 hpu)
      clear x0 x1 x2 x3 x4 x5 x6 x7 x8 HQ
      have HRo := hide (hRo.out w4 HSo.out)
      clear hRo HSo
      go_wp2_with ((with_reducible refine (Hid.out hn _ _).mono ?_); rintro e w8 ⟨rfl, rfl⟩)
      have hok := hide hln
      have H3 := hide (Bel.trans HB.out j3.out)
      have HR := hide (HR.out.bel H3.out)
      clear hn hF HB j3
      go_loopw [7, 8] (fun t7 t W => ∃ (k : Nat) (mv : Bool), k ≤ steps.length ∧ t = .int .i64 k ∧ t7 = .bool mv ∧ Hid (mv = (steps.take k).any (·.kind == 2)) ∧ Hid (Bel w4 W)) (fun _ t _ => steps.length - (intOf t).toNat)
      case atStart => exact ⟨0, false, Nat.zero_le _, rfl, rfl, hide rfl, hide (bel_refl w4)⟩
      case round =>
        obtain ⟨k, mv, hk, rfl, rfl, HM, HB⟩ := hrel
        by_cases hlt : k < steps.length
        · have hlo : k < out.length := by rw [hok.out]; exact hlt
          obtain ⟨c0, c1, c2, c3, c4, c5, c6, hK, y0, y1, y2, y3, y4, y5, y6⟩ := (HRo.out.bel HB.out).get7 rfl hlo
          obtain ⟨d0, d1, d2, d3, d4, d5, d6, hK', z0, z1, z2, z3, z4, z5, z6⟩ := (HR.out.bel HB.out).get7 rfl hlt
          obtain ⟨rfl, rfl, rfl, rfl, rfl, rfl, rfl⟩ := kStep_vals hK
          obtain ⟨rfl, rfl, rfl, rfl, rfl, rfl, rfl⟩ := kStep_vals hK'
          clear hK hK'
          have hel := HEl.out k hlt hlo
          rw [← HM.out] at hel
          have HM := hide (show (mv || steps[k].kind == 2) = (steps.take (k + 1)).any (·.kind == 2) by rw [List.take_succ_eq_append_getElem hlt, List.any_append, List.any_cons, List.any_nil, Bool.or_false, HM.out])
          generalize out[k] = y at hel y0 y1 y2 y3 y4 y5 y6
          generalize steps[k] = x at hel HM z0 z1 z2 z3 z4 z5 z6
          obtain ⟨xk, xp, xd, xa, xb, xc, xs⟩ := x
          obtain rfl := hA.out (by omega)
          obtain rfl := hE1.out (by omega)
          have j0 : (0 : Int) ≤ (k : Int) := by omega
          have j1 : (k : Int) < (steps.length : Int) := by omega
          simp only at z0 z1 z2 z3 z4 z5 z6
          obtain ⟨hz, hxy⟩ := hel
          have hz := hide hz
          have hxy := hide hxy
          clear hA hE1 hlt hlo HEl hok
          go_upto_region 16 with fail
          obtain ⟨W5, hW5⟩ : ∃ W5 : World, W5 = wr.alloc (.cells #[.int .i64 xk, .int .i64 xp, .int .i64 xd, .int .i64 xa, .int .i64 xb, .int .i64 xc, .string xs] 59) := ⟨_, rfl⟩
          rw [← hW5]
          have hb5 := (show Bel wr W5 by rw [hW5]; exact (bel_refl wr).alloc _)
          have HB5 := hide (Bel.trans HB.out hb5)
          have HBk := hide (show BlkAt W5 wr.heap.size [.int .i64 xk, .int .i64 xp, .int .i64 xd, .int .i64 xa, .int .i64 xb, .int .i64 xc, .string xs] 59 by rw [hW5]; exact blk_new wr _ _)
          replace y0 := hb5.cell y0
          replace y1 := hb5.cell y1
          replace y2 := hb5.cell y2
          replace y3 := hb5.cell y3
          replace y4 := hb5.cell y4
          replace y5 := hb5.cell y5
          replace y6 := hb5.cell y6
          clear hW5 hb5 z0 z1 z2 z3 z4 z5 z6
          generalize wr.heap.size = B5 at HBk ⊢
          have q0 := HBk.out.cell (i := 0) rfl
          have q1 := HBk.out.cell (i := 1) rfl
          have q2 := HBk.out.cell (i := 2) rfl
          have q3 := HBk.out.cell (i := 3) rfl
          have q4 := HBk.out.cell (i := 4) rfl
          have q5 := HBk.out.cell (i := 5) rfl
          have q6 := HBk.out.cell (i := 6) rfl
          have HBd := hide HB5.out.drew
          cases mv
          · skip
            by_cases k2 : xk = 2
            · subst k2
              obtain rfl : y = _ := (hxy.out rfl).2 (.inl rfl)
              simp only at y0 y1 y2 y3 y4 y5 y6
              go_upto_region 26 with fail
              refine wp_region_held_drew (S := fun w' => (w'.cell? ⟨e1b, e1o + k * 7, none⟩ = some (.int .i64 2) ∧ w'.cell? ⟨e1b, e1o + k * 7 + 1, none⟩ = some (.int .i64 xp) ∧ w'.cell? ⟨e1b, e1o + k * 7 + 2, none⟩ = some (.int .i64 xd) ∧ w'.cell? ⟨e1b, e1o + k * 7 + 3, none⟩ = some (.int .i64 xa) ∧ w'.cell? ⟨e1b, e1o + k * 7 + 4, none⟩ = some (.int .i64 xb) ∧ w'.cell? ⟨e1b, e1o + k * 7 + 5, none⟩ = some (.int .i64 xc) ∧ w'.cell? ⟨e1b, e1o + k * 7 + 6, none⟩ = some (.string xs)) ∧ (w'.cell? ⟨B5, 0, none⟩ = some (.int .i64 2) ∧ w'.cell? ⟨B5, 1, none⟩ = some (.int .i64 xp) ∧ w'.cell? ⟨B5, 2, none⟩ = some (.int .i64 xd) ∧ w'.cell? ⟨B5, 3, none⟩ = some (.int .i64 xa) ∧ w'.cell? ⟨B5, 4, none⟩ = some (.int .i64 xb) ∧ w'.cell? ⟨B5, 5, none⟩ = some (.int .i64 xc) ∧ w'.cell? ⟨B5, 6, none⟩ = some (.string xs))) (by kernel_rfl) ?_ (fun hHeld => ?_)
              · exact ⟨⟨y0, y1, y2, y3, y4, y5, y6⟩, ⟨q0, q1, q2, q3, q4, q5, q6⟩⟩
              refine hT (i := 0) (v := ?_) rfl (by kernel_rfl) (fun _ _ _ h => h) (by rfl) ?_ hHeld ?_
              rotate_left
              · (intro w_ hw_; (try dsimp only at hw_); go_simp; try with_reducible rfl)
              simp only [Act.put, List.setIfInBounds_toArray, List.set_cons_zero, List.set_cons_succ, List.getElem_toArray, List.getElem_cons_zero]
              refine hT (i := 1) (v := ?_) rfl (by kernel_rfl) (fun _ _ _ h => h) (by rfl) ?_ hHeld ?_
              rotate_left
              · (intro w_ hw_; (try dsimp only at hw_); go_simp; try with_reducible rfl)
              simp only [Act.put, List.setIfInBounds_toArray, List.set_cons_zero, List.set_cons_succ, List.getElem_toArray, List.getElem_cons_zero, List.getElem_cons_succ]
              refine hT (i := 2) (v := ?_) rfl (by kernel_rfl) (fun _ _ _ h => h) (by rfl) ?_ hHeld ?_
              rotate_left
              · (intro w_ hw_; (try dsimp only at hw_); go_simp; try with_reducible rfl)
              simp only [Act.put, List.setIfInBounds_toArray, List.set_cons_zero, List.set_cons_succ, List.getElem_toArray, List.getElem_cons_zero, List.getElem_cons_succ]
              refine hT (i := 3) (v := ?_) rfl (by kernel_rfl) (fun _ _ _ h => h) (by rfl) ?_ hHeld ?_
              rotate_left
              · (intro w_ hw_; (try dsimp only at hw_); go_simp; try with_reducible rfl)
              simp only [Act.put, List.setIfInBounds_toArray, List.set_cons_zero, List.set_cons_succ, List.getElem_toArray, List.getElem_cons_zero, List.getElem_cons_succ]
              refine hT (i := 4) (v := ?_) rfl (by kernel_rfl) (fun _ _ _ h => h) (by rfl) ?_ hHeld ?_
              rotate_left
              · (intro w_ hw_; (try dsimp only at hw_); go_simp; try with_reducible rfl)
              simp only [Act.put, List.setIfInBounds_toArray, List.set_cons_zero, List.set_cons_succ, List.getElem_toArray, List.getElem_cons_zero, List.getElem_cons_succ]
              refine hT (i := 5) (v := ?_) rfl (by kernel_rfl) (fun _ _ _ h => h) (by rfl) ?_ hHeld ?_
              rotate_left
              · (intro w_ hw_; (try dsimp only at hw_); go_simp; try with_reducible rfl)
              simp only [Act.put, List.setIfInBounds_toArray, List.set_cons_zero, List.set_cons_succ, List.getElem_toArray, List.getElem_cons_zero, List.getElem_cons_succ]
              refine hT (i := 6) (v := ?_) rfl (by kernel_rfl) (fun _ _ _ h => h) (by rfl) ?_ hHeld ?_
              rotate_left
              · (intro w_ hw_; (try dsimp only at hw_); go_simp; try with_reducible rfl)
              simp only [Act.put, List.setIfInBounds_toArray, List.set_cons_zero, List.set_cons_succ, List.getElem_toArray, List.getElem_cons_zero, List.getElem_cons_succ]
              refine wpAnyH_done (by kernel_rfl) ?_ _
              clear hHeld
              go_wp2_with fail
              exact ⟨⟨k + 1, true, by omega, by go_num, rfl, hide (by rw [← HM.out]; first | done | (simp; done) | (simp; omega)), HBd⟩, by simp [intOf]; omega⟩
            by_cases k3 : xk = 3
            · subst k3
              by_cases d0 : xd < 0
              · have hy := hz.out (by simp [badX, isCall, isReq, inB]; omega)
                subst hy
                unfold zeroStep at y0 y1 y2 y3 y4 y5 y6
                simp only at y0 y1 y2 y3 y4 y5 y6
                go_wp2_with fail
                exact ⟨⟨k + 1, false, by omega, by go_num, rfl, hide (by rw [← HM.out]; first | done | (simp; done) | (simp; omega)), HB5⟩, by simp [intOf]; omega⟩
              by_cases d1 : 1 < xd
              · have hy := hz.out (by simp [badX, isCall, isReq, inB]; omega)
                have d0i : ¬ xd < 0 := d0
                subst hy
                unfold zeroStep at y0 y1 y2 y3 y4 y5 y6
                simp only at y0 y1 y2 y3 y4 y5 y6
                go_wp2_with fail
                exact ⟨⟨k + 1, false, by omega, by go_num, rfl, hide (by rw [← HM.out]; first | done | (simp; done) | (simp; omega)), HB5⟩, by simp [intOf]; omega⟩
              have hnb : badX ⟨3, xp, xd, xa, xb, xc, xs⟩ = false := by simp [badX, isCall, isReq, inB]; omega
              obtain rfl : y = _ := (hxy.out hnb).2 (.inr rfl)
              simp only at y0 y1 y2 y3 y4 y5 y6
              go_upto_region 26 with fail
              refine wp_region_held_drew (S := fun w' => (w'.cell? ⟨e1b, e1o + k * 7, none⟩ = some (.int .i64 3) ∧ w'.cell? ⟨e1b, e1o + k * 7 + 1, none⟩ = some (.int .i64 xp) ∧ w'.cell? ⟨e1b, e1o + k * 7 + 2, none⟩ = some (.int .i64 xd) ∧ w'.cell? ⟨e1b, e1o + k * 7 + 3, none⟩ = some (.int .i64 xa) ∧ w'.cell? ⟨e1b, e1o + k * 7 + 4, none⟩ = some (.int .i64 xb) ∧ w'.cell? ⟨e1b, e1o + k * 7 + 5, none⟩ = some (.int .i64 xc) ∧ w'.cell? ⟨e1b, e1o + k * 7 + 6, none⟩ = some (.string xs)) ∧ (w'.cell? ⟨B5, 0, none⟩ = some (.int .i64 3) ∧ w'.cell? ⟨B5, 1, none⟩ = some (.int .i64 xp) ∧ w'.cell? ⟨B5, 2, none⟩ = some (.int .i64 xd) ∧ w'.cell? ⟨B5, 3, none⟩ = some (.int .i64 xa) ∧ w'.cell? ⟨B5, 4, none⟩ = some (.int .i64 xb) ∧ w'.cell? ⟨B5, 5, none⟩ = some (.int .i64 xc) ∧ w'.cell? ⟨B5, 6, none⟩ = some (.string xs))) (by kernel_rfl) ?_ (fun hHeld => ?_)
              · exact ⟨⟨y0, y1, y2, y3, y4, y5, y6⟩, ⟨q0, q1, q2, q3, q4, q5, q6⟩⟩
              refine hT (i := 0) (v := ?_) rfl (by kernel_rfl) (fun _ _ _ h => h) (by rfl) ?_ hHeld ?_
              rotate_left
              · (intro w_ hw_; (try dsimp only at hw_); go_simp; try with_reducible rfl)
              simp only [Act.put, List.setIfInBounds_toArray, List.set_cons_zero, List.set_cons_succ, List.getElem_toArray, List.getElem_cons_zero]
              refine hT (i := 1) (v := ?_) rfl (by kernel_rfl) (fun _ _ _ h => h) (by rfl) ?_ hHeld ?_
              rotate_left
              · (intro w_ hw_; (try dsimp only at hw_); go_simp; try with_reducible rfl)
              simp only [Act.put, List.setIfInBounds_toArray, List.set_cons_zero, List.set_cons_succ, List.getElem_toArray, List.getElem_cons_zero, List.getElem_cons_succ]
              refine hT (i := 2) (v := ?_) rfl (by kernel_rfl) (fun _ _ _ h => h) (by rfl) ?_ hHeld ?_
              rotate_left
              · (intro w_ hw_; (try dsimp only at hw_); go_simp; try with_reducible rfl)
              simp only [Act.put, List.setIfInBounds_toArray, List.set_cons_zero, List.set_cons_succ, List.getElem_toArray, List.getElem_cons_zero, List.getElem_cons_succ]
              refine hT (i := 3) (v := ?_) rfl (by kernel_rfl) (fun _ _ _ h => h) (by rfl) ?_ hHeld ?_
              rotate_left
              · (intro w_ hw_; (try dsimp only at hw_); go_simp; try with_reducible rfl)
              simp only [Act.put, List.setIfInBounds_toArray, List.set_cons_zero, List.set_cons_succ, List.getElem_toArray, List.getElem_cons_zero, List.getElem_cons_succ]
              refine hT (i := 4) (v := ?_) rfl (by kernel_rfl) (fun _ _ _ h => h) (by rfl) ?_ hHeld ?_
              rotate_left
              · (intro w_ hw_; (try dsimp only at hw_); go_simp; try with_reducible rfl)
              simp only [Act.put, List.setIfInBounds_toArray, List.set_cons_zero, List.set_cons_succ, List.getElem_toArray, List.getElem_cons_zero, List.getElem_cons_succ]
              refine hT (i := 5) (v := ?_) rfl (by kernel_rfl) (fun _ _ _ h => h) (by rfl) ?_ hHeld ?_
              rotate_left
              · (intro w_ hw_; (try dsimp only at hw_); go_simp; try with_reducible rfl)
              simp only [Act.put, List.setIfInBounds_toArray, List.set_cons_zero, List.set_cons_succ, List.getElem_toArray, List.getElem_cons_zero, List.getElem_cons_succ]
              refine hT (i := 6) (v := ?_) rfl (by kernel_rfl) (fun _ _ _ h => h) (by rfl) ?_ hHeld ?_
              rotate_left
              · (intro w_ hw_; (try dsimp only at hw_); go_simp; try with_reducible rfl)
              simp only [Act.put, List.setIfInBounds_toArray, List.set_cons_zero, List.set_cons_succ, List.getElem_toArray, List.getElem_cons_zero, List.getElem_cons_succ]
              refine wpAnyH_done (by kernel_rfl) ?_ _
              clear hHeld
              go_wp2_with fail
              exact ⟨⟨k + 1, false, by omega, by go_num, rfl, hide (by rw [← HM.out]; first | done | (simp; done) | (simp; omega)), HBd⟩, by simp [intOf]; omega⟩
            by_cases k4 : xk = 4
            · subst k4
              by_cases d0 : xd < 0
              · have hy := hz.out (by simp [badX, isCall, isReq, inB]; omega)
                subst hy
                unfold zeroStep at y0 y1 y2 y3 y4 y5 y6
                simp only at y0 y1 y2 y3 y4 y5 y6
                go_wp2_with fail
                exact ⟨⟨k + 1, false, by omega, by go_num, rfl, hide (by rw [← HM.out]; first | done | (simp; done) | (simp; omega)), HB5⟩, by simp [intOf]; omega⟩
              by_cases d1 : 1 < xd
              · have hy := hz.out (by simp [badX, isCall, isReq, inB]; omega)
                have d0i : ¬ xd < 0 := d0
                subst hy
                unfold zeroStep at y0 y1 y2 y3 y4 y5 y6
                simp only at y0 y1 y2 y3 y4 y5 y6
                go_wp2_with fail
                exact ⟨⟨k + 1, false, by omega, by go_num, rfl, hide (by rw [← HM.out]; first | done | (simp; done) | (simp; omega)), HB5⟩, by simp [intOf]; omega⟩
              have hnb : badX ⟨4, xp, xd, xa, xb, xc, xs⟩ = false := by simp [badX, isCall, isReq, inB]; omega
              obtain rfl : y = _ := (hxy.out hnb).2 (.inr rfl)
              simp only at y0 y1 y2 y3 y4 y5 y6
              go_upto_region 26 with fail
              refine wp_region_held_drew (S := fun w' => (w'.cell? ⟨e1b, e1o + k * 7, none⟩ = some (.int .i64 4) ∧ w'.cell? ⟨e1b, e1o + k * 7 + 1, none⟩ = some (.int .i64 xp) ∧ w'.cell? ⟨e1b, e1o + k * 7 + 2, none⟩ = some (.int .i64 xd) ∧ w'.cell? ⟨e1b, e1o + k * 7 + 3, none⟩ = some (.int .i64 xa) ∧ w'.cell? ⟨e1b, e1o + k * 7 + 4, none⟩ = some (.int .i64 xb) ∧ w'.cell? ⟨e1b, e1o + k * 7 + 5, none⟩ = some (.int .i64 xc) ∧ w'.cell? ⟨e1b, e1o + k * 7 + 6, none⟩ = some (.string xs)) ∧ (w'.cell? ⟨B5, 0, none⟩ = some (.int .i64 4) ∧ w'.cell? ⟨B5, 1, none⟩ = some (.int .i64 xp) ∧ w'.cell? ⟨B5, 2, none⟩ = some (.int .i64 xd) ∧ w'.cell? ⟨B5, 3, none⟩ = some (.int .i64 xa) ∧ w'.cell? ⟨B5, 4, none⟩ = some (.int .i64 xb) ∧ w'.cell? ⟨B5, 5, none⟩ = some (.int .i64 xc) ∧ w'.cell? ⟨B5, 6, none⟩ = some (.string xs))) (by kernel_rfl) ?_ (fun hHeld => ?_)
              · exact ⟨⟨y0, y1, y2, y3, y4, y5, y6⟩, ⟨q0, q1, q2, q3, q4, q5, q6⟩⟩
              refine hT (i := 0) (v := ?_) rfl (by kernel_rfl) (fun _ _ _ h => h) (by rfl) ?_ hHeld ?_
              rotate_left
              · (intro w_ hw_; (try dsimp only at hw_); go_simp; try with_reducible rfl)
              simp only [Act.put, List.setIfInBounds_toArray, List.set_cons_zero, List.set_cons_succ, List.getElem_toArray, List.getElem_cons_zero]
              refine hT (i := 1) (v := ?_) rfl (by kernel_rfl) (fun _ _ _ h => h) (by rfl) ?_ hHeld ?_
              rotate_left
              · (intro w_ hw_; (try dsimp only at hw_); go_simp; try with_reducible rfl)
              simp only [Act.put, List.setIfInBounds_toArray, List.set_cons_zero, List.set_cons_succ, List.getElem_toArray, List.getElem_cons_zero, List.getElem_cons_succ]
              refine hT (i := 2) (v := ?_) rfl (by kernel_rfl) (fun _ _ _ h => h) (by rfl) ?_ hHeld ?_
              rotate_left
              · (intro w_ hw_; (try dsimp only at hw_); go_simp; try with_reducible rfl)
              simp only [Act.put, List.setIfInBounds_toArray, List.set_cons_zero, List.set_cons_succ, List.getElem_toArray, List.getElem_cons_zero, List.getElem_cons_succ]
              refine hT (i := 3) (v := ?_) rfl (by kernel_rfl) (fun _ _ _ h => h) (by rfl) ?_ hHeld ?_
              rotate_left
              · (intro w_ hw_; (try dsimp only at hw_); go_simp; try with_reducible rfl)
              simp only [Act.put, List.setIfInBounds_toArray, List.set_cons_zero, List.set_cons_succ, List.getElem_toArray, List.getElem_cons_zero, List.getElem_cons_succ]
              refine hT (i := 4) (v := ?_) rfl (by kernel_rfl) (fun _ _ _ h => h) (by rfl) ?_ hHeld ?_
              rotate_left
              · (intro w_ hw_; (try dsimp only at hw_); go_simp; try with_reducible rfl)
              simp only [Act.put, List.setIfInBounds_toArray, List.set_cons_zero, List.set_cons_succ, List.getElem_toArray, List.getElem_cons_zero, List.getElem_cons_succ]
              refine hT (i := 5) (v := ?_) rfl (by kernel_rfl) (fun _ _ _ h => h) (by rfl) ?_ hHeld ?_
              rotate_left
              · (intro w_ hw_; (try dsimp only at hw_); go_simp; try with_reducible rfl)
              simp only [Act.put, List.setIfInBounds_toArray, List.set_cons_zero, List.set_cons_succ, List.getElem_toArray, List.getElem_cons_zero, List.getElem_cons_succ]
              refine hT (i := 6) (v := ?_) rfl (by kernel_rfl) (fun _ _ _ h => h) (by rfl) ?_ hHeld ?_
              rotate_left
              · (intro w_ hw_; (try dsimp only at hw_); go_simp; try with_reducible rfl)
              simp only [Act.put, List.setIfInBounds_toArray, List.set_cons_zero, List.set_cons_succ, List.getElem_toArray, List.getElem_cons_zero, List.getElem_cons_succ]
              refine wpAnyH_done (by kernel_rfl) ?_ _
              clear hHeld
              go_wp2_with fail
              exact ⟨⟨k + 1, false, by omega, by go_num, rfl, hide (by rw [← HM.out]; first | done | (simp; done) | (simp; omega)), HBd⟩, by simp [intOf]; omega⟩
            have nk2 : (xk == 2) = false := by simp; omega
            have nk3 : (xk == 3) = false := by simp; omega
            have nk4 : (xk == 4) = false := by simp; omega
            have mk2 : ¬ xk = 2 := by omega
            have mk3 : ¬ xk = 3 := by omega
            have mk4 : ¬ xk = 4 := by omega
            by_cases kc : 5 ≤ xk ∧ xk ≤ 16
            · obtain ⟨kc5, kc16⟩ := kc
              have hic : isCall xk = true := (isCall_iff xk).2 ⟨kc5, kc16⟩
              by_cases p0 : xp < 0
              · have hy := hz.out (by simp [badX, hic, inB]; omega)
                subst hy
                unfold zeroStep at y0 y1 y2 y3 y4 y5 y6
                simp only at y0 y1 y2 y3 y4 y5 y6
                go_wp2_with fail
                exact ⟨⟨k + 1, false, by omega, by go_num, rfl, hide (by rw [← HM.out]; first | done | (simp; done) | (simp; omega)), HB5⟩, by simp [intOf]; omega⟩
              by_cases p1 : 2 < xp
              · have hy := hz.out (by simp [badX, hic, inB]; omega)
                have p0i : ¬ xp < 0 := p0
                subst hy
                unfold zeroStep at y0 y1 y2 y3 y4 y5 y6
                simp only at y0 y1 y2 y3 y4 y5 y6
                go_wp2_with fail
                exact ⟨⟨k + 1, false, by omega, by go_num, rfl, hide (by rw [← HM.out]; first | done | (simp; done) | (simp; omega)), HB5⟩, by simp [intOf]; omega⟩
              have hnb : badX ⟨xk, xp, xd, xa, xb, xc, xs⟩ = false := by simp [badX, hic, isReq, inB, nk3, nk4]; omega
              obtain rfl : y = _ := (hxy.out hnb).2 (.inl (by simp [isReq, nk3, nk4]))
              simp only at y0 y1 y2 y3 y4 y5 y6
              go_upto_region 26 with fail
              refine wp_region_held_drew (S := fun w' => (w'.cell? ⟨e1b, e1o + k * 7, none⟩ = some (.int .i64 xk) ∧ w'.cell? ⟨e1b, e1o + k * 7 + 1, none⟩ = some (.int .i64 xp) ∧ w'.cell? ⟨e1b, e1o + k * 7 + 2, none⟩ = some (.int .i64 xd) ∧ w'.cell? ⟨e1b, e1o + k * 7 + 3, none⟩ = some (.int .i64 xa) ∧ w'.cell? ⟨e1b, e1o + k * 7 + 4, none⟩ = some (.int .i64 xb) ∧ w'.cell? ⟨e1b, e1o + k * 7 + 5, none⟩ = some (.int .i64 xc) ∧ w'.cell? ⟨e1b, e1o + k * 7 + 6, none⟩ = some (.string xs)) ∧ (w'.cell? ⟨B5, 0, none⟩ = some (.int .i64 xk) ∧ w'.cell? ⟨B5, 1, none⟩ = some (.int .i64 xp) ∧ w'.cell? ⟨B5, 2, none⟩ = some (.int .i64 xd) ∧ w'.cell? ⟨B5, 3, none⟩ = some (.int .i64 xa) ∧ w'.cell? ⟨B5, 4, none⟩ = some (.int .i64 xb) ∧ w'.cell? ⟨B5, 5, none⟩ = some (.int .i64 xc) ∧ w'.cell? ⟨B5, 6, none⟩ = some (.string xs))) (by kernel_rfl) ?_ (fun hHeld => ?_)
              · exact ⟨⟨y0, y1, y2, y3, y4, y5, y6⟩, ⟨q0, q1, q2, q3, q4, q5, q6⟩⟩
              refine hT (i := 0) (v := ?_) rfl (by kernel_rfl) (fun _ _ _ h => h) (by rfl) ?_ hHeld ?_
              rotate_left
              · (intro w_ hw_; (try dsimp only at hw_); go_simp; try with_reducible rfl)
              simp only [Act.put, List.setIfInBounds_toArray, List.set_cons_zero, List.set_cons_succ, List.getElem_toArray, List.getElem_cons_zero]
              refine hT (i := 1) (v := ?_) rfl (by kernel_rfl) (fun _ _ _ h => h) (by rfl) ?_ hHeld ?_
              rotate_left
              · (intro w_ hw_; (try dsimp only at hw_); go_simp; try with_reducible rfl)
              simp only [Act.put, List.setIfInBounds_toArray, List.set_cons_zero, List.set_cons_succ, List.getElem_toArray, List.getElem_cons_zero, List.getElem_cons_succ]
              refine hT (i := 2) (v := ?_) rfl (by kernel_rfl) (fun _ _ _ h => h) (by rfl) ?_ hHeld ?_
              rotate_left
              · (intro w_ hw_; (try dsimp only at hw_); go_simp; try with_reducible rfl)
              simp only [Act.put, List.setIfInBounds_toArray, List.set_cons_zero, List.set_cons_succ, List.getElem_toArray, List.getElem_cons_zero, List.getElem_cons_succ]
              refine hT (i := 3) (v := ?_) rfl (by kernel_rfl) (fun _ _ _ h => h) (by rfl) ?_ hHeld ?_
              rotate_left
              · (intro w_ hw_; (try dsimp only at hw_); go_simp; try with_reducible rfl)
              simp only [Act.put, List.setIfInBounds_toArray, List.set_cons_zero, List.set_cons_succ, List.getElem_toArray, List.getElem_cons_zero, List.getElem_cons_succ]
              refine hT (i := 4) (v := ?_) rfl (by kernel_rfl) (fun _ _ _ h => h) (by rfl) ?_ hHeld ?_
              rotate_left
              · (intro w_ hw_; (try dsimp only at hw_); go_simp; try with_reducible rfl)
              simp only [Act.put, List.setIfInBounds_toArray, List.set_cons_zero, List.set_cons_succ, List.getElem_toArray, List.getElem_cons_zero, List.getElem_cons_succ]
              refine hT (i := 5) (v := ?_) rfl (by kernel_rfl) (fun _ _ _ h => h) (by rfl) ?_ hHeld ?_
              rotate_left
              · (intro w_ hw_; (try dsimp only at hw_); go_simp; try with_reducible rfl)
              simp only [Act.put, List.setIfInBounds_toArray, List.set_cons_zero, List.set_cons_succ, List.getElem_toArray, List.getElem_cons_zero, List.getElem_cons_succ]
              refine hT (i := 6) (v := ?_) rfl (by kernel_rfl) (fun _ _ _ h => h) (by rfl) ?_ hHeld ?_
              rotate_left
              · (intro w_ hw_; (try dsimp only at hw_); go_simp; try with_reducible rfl)
              simp only [Act.put, List.setIfInBounds_toArray, List.set_cons_zero, List.set_cons_succ, List.getElem_toArray, List.getElem_cons_zero, List.getElem_cons_succ]
              refine wpAnyH_done (by kernel_rfl) ?_ _
              clear hHeld
              go_wp2_with fail
              exact ⟨⟨k + 1, false, by omega, by go_num, rfl, hide (by rw [← HM.out]; first | done | (simp; done) | (simp; omega)), HBd⟩, by simp [intOf]; omega⟩
            have hic : isCall xk = false := by rw [← Bool.not_eq_true, isCall_iff]; exact kc
            have hnb : badX ⟨xk, xp, xd, xa, xb, xc, xs⟩ = false := by simp [badX, hic, isReq, nk3, nk4]
            obtain rfl : y = _ := (hxy.out hnb).2 (.inl (by simp [isReq, nk3, nk4]))
            by_cases kc5 : xk < 5
            · have kc5i : ¬ 5 ≤ xk := by omega
              simp only at y0 y1 y2 y3 y4 y5 y6
              go_upto_region 26 with fail
              refine wp_region_held_drew (S := fun w' => (w'.cell? ⟨e1b, e1o + k * 7, none⟩ = some (.int .i64 xk) ∧ w'.cell? ⟨e1b, e1o + k * 7 + 1, none⟩ = some (.int .i64 xp) ∧ w'.cell? ⟨e1b, e1o + k * 7 + 2, none⟩ = some (.int .i64 xd) ∧ w'.cell? ⟨e1b, e1o + k * 7 + 3, none⟩ = some (.int .i64 xa) ∧ w'.cell? ⟨e1b, e1o + k * 7 + 4, none⟩ = some (.int .i64 xb) ∧ w'.cell? ⟨e1b, e1o + k * 7 + 5, none⟩ = some (.int .i64 xc) ∧ w'.cell? ⟨e1b, e1o + k * 7 + 6, none⟩ = some (.string xs)) ∧ (w'.cell? ⟨B5, 0, none⟩ = some (.int .i64 xk) ∧ w'.cell? ⟨B5, 1, none⟩ = some (.int .i64 xp) ∧ w'.cell? ⟨B5, 2, none⟩ = some (.int .i64 xd) ∧ w'.cell? ⟨B5, 3, none⟩ = some (.int .i64 xa) ∧ w'.cell? ⟨B5, 4, none⟩ = some (.int .i64 xb) ∧ w'.cell? ⟨B5, 5, none⟩ = some (.int .i64 xc) ∧ w'.cell? ⟨B5, 6, none⟩ = some (.string xs))) (by kernel_rfl) ?_ (fun hHeld => ?_)
              · exact ⟨⟨y0, y1, y2, y3, y4, y5, y6⟩, ⟨q0, q1, q2, q3, q4, q5, q6⟩⟩
              refine hT (i := 0) (v := ?_) rfl (by kernel_rfl) (fun _ _ _ h => h) (by rfl) ?_ hHeld ?_
              rotate_left
              · (intro w_ hw_; (try dsimp only at hw_); go_simp; try with_reducible rfl)
              simp only [Act.put, List.setIfInBounds_toArray, List.set_cons_zero, List.set_cons_succ, List.getElem_toArray, List.getElem_cons_zero]
              refine hT (i := 1) (v := ?_) rfl (by kernel_rfl) (fun _ _ _ h => h) (by rfl) ?_ hHeld ?_
              rotate_left
              · (intro w_ hw_; (try dsimp only at hw_); go_simp; try with_reducible rfl)
              simp only [Act.put, List.setIfInBounds_toArray, List.set_cons_zero, List.set_cons_succ, List.getElem_toArray, List.getElem_cons_zero, List.getElem_cons_succ]
              refine hT (i := 2) (v := ?_) rfl (by kernel_rfl) (fun _ _ _ h => h) (by rfl) ?_ hHeld ?_
              rotate_left
              · (intro w_ hw_; (try dsimp only at hw_); go_simp; try with_reducible rfl)
              simp only [Act.put, List.setIfInBounds_toArray, List.set_cons_zero, List.set_cons_succ, List.getElem_toArray, List.getElem_cons_zero, List.getElem_cons_succ]
              refine hT (i := 3) (v := ?_) rfl (by kernel_rfl) (fun _ _ _ h => h) (by rfl) ?_ hHeld ?_
              rotate_left
              · (intro w_ hw_; (try dsimp only at hw_); go_simp; try with_reducible rfl)
              simp only [Act.put, List.setIfInBounds_toArray, List.set_cons_zero, List.set_cons_succ, List.getElem_toArray, List.getElem_cons_zero, List.getElem_cons_succ]
              refine hT (i := 4) (v := ?_) rfl (by kernel_rfl) (fun _ _ _ h => h) (by rfl) ?_ hHeld ?_
              rotate_left
              · (intro w_ hw_; (try dsimp only at hw_); go_simp; try with_reducible rfl)
              simp only [Act.put, List.setIfInBounds_toArray, List.set_cons_zero, List.set_cons_succ, List.getElem_toArray, List.getElem_cons_zero, List.getElem_cons_succ]
              refine hT (i := 5) (v := ?_) rfl (by kernel_rfl) (fun _ _ _ h => h) (by rfl) ?_ hHeld ?_
              rotate_left
              · (intro w_ hw_; (try dsimp only at hw_); go_simp; try with_reducible rfl)
              simp only [Act.put, List.setIfInBounds_toArray, List.set_cons_zero, List.set_cons_succ, List.getElem_toArray, List.getElem_cons_zero, List.getElem_cons_succ]
              refine hT (i := 6) (v := ?_) rfl (by kernel_rfl) (fun _ _ _ h => h) (by rfl) ?_ hHeld ?_
              rotate_left
              · (intro w_ hw_; (try dsimp only at hw_); go_simp; try with_reducible rfl)
              simp only [Act.put, List.setIfInBounds_toArray, List.set_cons_zero, List.set_cons_succ, List.getElem_toArray, List.getElem_cons_zero, List.getElem_cons_succ]
              refine wpAnyH_done (by kernel_rfl) ?_ _
              clear hHeld
              go_wp2_with fail
              exact ⟨⟨k + 1, false, by omega, by go_num, rfl, hide (by rw [← HM.out]; first | done | (simp; done) | (simp; omega)), HBd⟩, by simp [intOf]; omega⟩
            have kc5i : 5 ≤ xk := by omega
            have kc16 : ¬ xk ≤ 16 := by omega
            simp only at y0 y1 y2 y3 y4 y5 y6
            go_upto_region 26 with fail
            refine wp_region_held_drew (S := fun w' => (w'.cell? ⟨e1b, e1o + k * 7, none⟩ = some (.int .i64 xk) ∧ w'.cell? ⟨e1b, e1o + k * 7 + 1, none⟩ = some (.int .i64 xp) ∧ w'.cell? ⟨e1b, e1o + k * 7 + 2, none⟩ = some (.int .i64 xd) ∧ w'.cell? ⟨e1b, e1o + k * 7 + 3, none⟩ = some (.int .i64 xa) ∧ w'.cell? ⟨e1b, e1o + k * 7 + 4, none⟩ = some (.int .i64 xb) ∧ w'.cell? ⟨e1b, e1o + k * 7 + 5, none⟩ = some (.int .i64 xc) ∧ w'.cell? ⟨e1b, e1o + k * 7 + 6, none⟩ = some (.string xs)) ∧ (w'.cell? ⟨B5, 0, none⟩ = some (.int .i64 xk) ∧ w'.cell? ⟨B5, 1, none⟩ = some (.int .i64 xp) ∧ w'.cell? ⟨B5, 2, none⟩ = some (.int .i64 xd) ∧ w'.cell? ⟨B5, 3, none⟩ = some (.int .i64 xa) ∧ w'.cell? ⟨B5, 4, none⟩ = some (.int .i64 xb) ∧ w'.cell? ⟨B5, 5, none⟩ = some (.int .i64 xc) ∧ w'.cell? ⟨B5, 6, none⟩ = some (.string xs))) (by kernel_rfl) ?_ (fun hHeld => ?_)
            · exact ⟨⟨y0, y1, y2, y3, y4, y5, y6⟩, ⟨q0, q1, q2, q3, q4, q5, q6⟩⟩
            refine hT (i := 0) (v := ?_) rfl (by kernel_rfl) (fun _ _ _ h => h) (by rfl) ?_ hHeld ?_
            rotate_left
            · (intro w_ hw_; (try dsimp only at hw_); go_simp; try with_reducible rfl)
            simp only [Act.put, List.setIfInBounds_toArray, List.set_cons_zero, List.set_cons_succ, List.getElem_toArray, List.getElem_cons_zero]
            refine hT (i := 1) (v := ?_) rfl (by kernel_rfl) (fun _ _ _ h => h) (by rfl) ?_ hHeld ?_
            rotate_left
            · (intro w_ hw_; (try dsimp only at hw_); go_simp; try with_reducible rfl)
            simp only [Act.put, List.setIfInBounds_toArray, List.set_cons_zero, List.set_cons_succ, List.getElem_toArray, List.getElem_cons_zero, List.getElem_cons_succ]
            refine hT (i := 2) (v := ?_) rfl (by kernel_rfl) (fun _ _ _ h => h) (by rfl) ?_ hHeld ?_
            rotate_left
            · (intro w_ hw_; (try dsimp only at hw_); go_simp; try with_reducible rfl)
            simp only [Act.put, List.setIfInBounds_toArray, List.set_cons_zero, List.set_cons_succ, List.getElem_toArray, List.getElem_cons_zero, List.getElem_cons_succ]
            refine hT (i := 3) (v := ?_) rfl (by kernel_rfl) (fun _ _ _ h => h) (by rfl) ?_ hHeld ?_
            rotate_left
            · (intro w_ hw_; (try dsimp only at hw_); go_simp; try with_reducible rfl)
            simp only [Act.put, List.setIfInBounds_toArray, List.set_cons_zero, List.set_cons_succ, List.getElem_toArray, List.getElem_cons_zero, List.getElem_cons_succ]
            refine hT (i := 4) (v := ?_) rfl (by kernel_rfl) (fun _ _ _ h => h) (by rfl) ?_ hHeld ?_
            rotate_left
            · (intro w_ hw_; (try dsimp only at hw_); go_simp; try with_reducible rfl)
            simp only [Act.put, List.setIfInBounds_toArray, List.set_cons_zero, List.set_cons_succ, List.getElem_toArray, List.getElem_cons_zero, List.getElem_cons_succ]
            refine hT (i := 5) (v := ?_) rfl (by kernel_rfl) (fun _ _ _ h => h) (by rfl) ?_ hHeld ?_
            rotate_left
            · (intro w_ hw_; (try dsimp only at hw_); go_simp; try with_reducible rfl)
            simp only [Act.put, List.setIfInBounds_toArray, List.set_cons_zero, List.set_cons_succ, List.getElem_toArray, List.getElem_cons_zero, List.getElem_cons_succ]
            refine hT (i := 6) (v := ?_) rfl (by kernel_rfl) (fun _ _ _ h => h) (by rfl) ?_ hHeld ?_
            rotate_left
            · (intro w_ hw_; (try dsimp only at hw_); go_simp; try with_reducible rfl)
            simp only [Act.put, List.setIfInBounds_toArray, List.set_cons_zero, List.set_cons_succ, List.getElem_toArray, List.getElem_cons_zero, List.getElem_cons_succ]
            refine wpAnyH_done (by kernel_rfl) ?_ _
            clear hHeld
            go_wp2_with fail
            exact ⟨⟨k + 1, false, by omega, by go_num, rfl, hide (by rw [← HM.out]; first | done | (simp; done) | (simp; omega)), HBd⟩, by simp [intOf]; omega⟩
          · skip
            by_cases k2 : xk = 2
            · subst k2
              obtain rfl : y = _ := (hxy.out rfl).2 (.inl rfl)
              simp only at y0 y1 y2 y3 y4 y5 y6
              go_upto_region 26 with fail
              refine wp_region_held_drew (S := fun w' => (w'.cell? ⟨e1b, e1o + k * 7, none⟩ = some (.int .i64 2) ∧ w'.cell? ⟨e1b, e1o + k * 7 + 1, none⟩ = some (.int .i64 xp) ∧ w'.cell? ⟨e1b, e1o + k * 7 + 2, none⟩ = some (.int .i64 xd) ∧ w'.cell? ⟨e1b, e1o + k * 7 + 3, none⟩ = some (.int .i64 xa) ∧ w'.cell? ⟨e1b, e1o + k * 7 + 4, none⟩ = some (.int .i64 xb) ∧ w'.cell? ⟨e1b, e1o + k * 7 + 5, none⟩ = some (.int .i64 xc) ∧ w'.cell? ⟨e1b, e1o + k * 7 + 6, none⟩ = some (.string xs)) ∧ (w'.cell? ⟨B5, 0, none⟩ = some (.int .i64 2) ∧ w'.cell? ⟨B5, 1, none⟩ = some (.int .i64 xp) ∧ w'.cell? ⟨B5, 2, none⟩ = some (.int .i64 xd) ∧ w'.cell? ⟨B5, 3, none⟩ = some (.int .i64 xa) ∧ w'.cell? ⟨B5, 4, none⟩ = some (.int .i64 xb) ∧ w'.cell? ⟨B5, 5, none⟩ = some (.int .i64 xc) ∧ w'.cell? ⟨B5, 6, none⟩ = some (.string xs))) (by kernel_rfl) ?_ (fun hHeld => ?_)
              · exact ⟨⟨y0, y1, y2, y3, y4, y5, y6⟩, ⟨q0, q1, q2, q3, q4, q5, q6⟩⟩
              refine hT (i := 0) (v := ?_) rfl (by kernel_rfl) (fun _ _ _ h => h) (by rfl) ?_ hHeld ?_
              rotate_left
              · (intro w_ hw_; (try dsimp only at hw_); go_simp; try with_reducible rfl)
              simp only [Act.put, List.setIfInBounds_toArray, List.set_cons_zero, List.set_cons_succ, List.getElem_toArray, List.getElem_cons_zero]
              refine hT (i := 1) (v := ?_) rfl (by kernel_rfl) (fun _ _ _ h => h) (by rfl) ?_ hHeld ?_
              rotate_left
              · (intro w_ hw_; (try dsimp only at hw_); go_simp; try with_reducible rfl)
              simp only [Act.put, List.setIfInBounds_toArray, List.set_cons_zero, List.set_cons_succ, List.getElem_toArray, List.getElem_cons_zero, List.getElem_cons_succ]
              refine hT (i := 2) (v := ?_) rfl (by kernel_rfl) (fun _ _ _ h => h) (by rfl) ?_ hHeld ?_
              rotate_left
              · (intro w_ hw_; (try dsimp only at hw_); go_simp; try with_reducible rfl)
              simp only [Act.put, List.setIfInBounds_toArray, List.set_cons_zero, List.set_cons_succ, List.getElem_toArray, List.getElem_cons_zero, List.getElem_cons_succ]
              refine hT (i := 3) (v := ?_) rfl (by kernel_rfl) (fun _ _ _ h => h) (by rfl) ?_ hHeld ?_
              rotate_left
              · (intro w_ hw_; (try dsimp only at hw_); go_simp; try with_reducible rfl)
              simp only [Act.put, List.setIfInBounds_toArray, List.set_cons_zero, List.set_cons_succ, List.getElem_toArray, List.getElem_cons_zero, List.getElem_cons_succ]
              refine hT (i := 4) (v := ?_) rfl (by kernel_rfl) (fun _ _ _ h => h) (by rfl) ?_ hHeld ?_
              rotate_left
              · (intro w_ hw_; (try dsimp only at hw_); go_simp; try with_reducible rfl)
              simp only [Act.put, List.setIfInBounds_toArray, List.set_cons_zero, List.set_cons_succ, List.getElem_toArray, List.getElem_cons_zero, List.getElem_cons_succ]
              refine hT (i := 5) (v := ?_) rfl (by kernel_rfl) (fun _ _ _ h => h) (by rfl) ?_ hHeld ?_
              rotate_left
              · (intro w_ hw_; (try dsimp only at hw_); go_simp; try with_reducible rfl)
              simp only [Act.put, List.setIfInBounds_toArray, List.set_cons_zero, List.set_cons_succ, List.getElem_toArray, List.getElem_cons_zero, List.getElem_cons_succ]
              refine hT (i := 6) (v := ?_) rfl (by kernel_rfl) (fun _ _ _ h => h) (by rfl) ?_ hHeld ?_
              rotate_left
              · (intro w_ hw_; (try dsimp only at hw_); go_simp; try with_reducible rfl)
              simp only [Act.put, List.setIfInBounds_toArray, List.set_cons_zero, List.set_cons_succ, List.getElem_toArray, List.getElem_cons_zero, List.getElem_cons_succ]
              refine wpAnyH_done (by kernel_rfl) ?_ _
              clear hHeld
              go_wp2_with fail
              exact ⟨⟨k + 1, true, by omega, by go_num, rfl, hide (by rw [← HM.out]; first | done | (simp; done) | (simp; omega)), HBd⟩, by simp [intOf]; omega⟩
            by_cases k3 : xk = 3
            · subst k3
              by_cases d0 : xd < 0
              · have hy := hz.out (by simp [badX, isCall, isReq, inB]; omega)
                subst hy
                unfold zeroStep at y0 y1 y2 y3 y4 y5 y6
                simp only at y0 y1 y2 y3 y4 y5 y6
                go_wp2_with fail
                exact ⟨⟨k + 1, true, by omega, by go_num, rfl, hide (by rw [← HM.out]; first | done | (simp; done) | (simp; omega)), HB5⟩, by simp [intOf]; omega⟩
              by_cases d1 : 1 < xd
              · have hy := hz.out (by simp [badX, isCall, isReq, inB]; omega)
                have d0i : ¬ xd < 0 := d0
                subst hy
                unfold zeroStep at y0 y1 y2 y3 y4 y5 y6
                simp only at y0 y1 y2 y3 y4 y5 y6
                go_wp2_with fail
                exact ⟨⟨k + 1, true, by omega, by go_num, rfl, hide (by rw [← HM.out]; first | done | (simp; done) | (simp; omega)), HB5⟩, by simp [intOf]; omega⟩
              have hnb : badX ⟨3, xp, xd, xa, xb, xc, xs⟩ = false := by simp [badX, isCall, isReq, inB]; omega
              by_cases heq : y = ⟨3, xp, xd, xa, xb, xc, xs⟩
              · subst heq
                simp only at y0 y1 y2 y3 y4 y5 y6
                go_upto_region 24 with fail
                refine wp_region_held_drew (S := fun w' => (w'.cell? ⟨e1b, e1o + k * 7, none⟩ = some (.int .i64 3) ∧ w'.cell? ⟨e1b, e1o + k * 7 + 1, none⟩ = some (.int .i64 xp) ∧ w'.cell? ⟨e1b, e1o + k * 7 + 2, none⟩ = some (.int .i64 xd) ∧ w'.cell? ⟨e1b, e1o + k * 7 + 3, none⟩ = some (.int .i64 xa) ∧ w'.cell? ⟨e1b, e1o + k * 7 + 4, none⟩ = some (.int .i64 xb) ∧ w'.cell? ⟨e1b, e1o + k * 7 + 5, none⟩ = some (.int .i64 xc) ∧ w'.cell? ⟨e1b, e1o + k * 7 + 6, none⟩ = some (.string xs)) ∧ (w'.cell? ⟨B5, 0, none⟩ = some (.int .i64 3) ∧ w'.cell? ⟨B5, 1, none⟩ = some (.int .i64 xp) ∧ w'.cell? ⟨B5, 2, none⟩ = some (.int .i64 xd) ∧ w'.cell? ⟨B5, 3, none⟩ = some (.int .i64 xa) ∧ w'.cell? ⟨B5, 4, none⟩ = some (.int .i64 xb) ∧ w'.cell? ⟨B5, 5, none⟩ = some (.int .i64 xc) ∧ w'.cell? ⟨B5, 6, none⟩ = some (.string xs))) (by kernel_rfl) ?_ (fun hHeld => ?_)
                · exact ⟨⟨y0, y1, y2, y3, y4, y5, y6⟩, ⟨q0, q1, q2, q3, q4, q5, q6⟩⟩
                refine hT (i := 0) (v := ?_) rfl (by kernel_rfl) (fun _ _ _ h => h) (by rfl) ?_ hHeld ?_
                rotate_left
                · (intro w_ hw_; (try dsimp only at hw_); go_simp; try with_reducible rfl)
                simp only [Act.put, List.setIfInBounds_toArray, List.set_cons_zero, List.set_cons_succ, List.getElem_toArray, List.getElem_cons_zero]
                refine hT (i := 1) (v := ?_) rfl (by kernel_rfl) (fun _ _ _ h => h) (by rfl) ?_ hHeld ?_
                rotate_left
                · (intro w_ hw_; (try dsimp only at hw_); go_simp; try with_reducible rfl)
                simp only [Act.put, List.setIfInBounds_toArray, List.set_cons_zero, List.set_cons_succ, List.getElem_toArray, List.getElem_cons_zero, List.getElem_cons_succ]
                refine hT (i := 2) (v := ?_) rfl (by kernel_rfl) (fun _ _ _ h => h) (by rfl) ?_ hHeld ?_
                rotate_left
                · (intro w_ hw_; (try dsimp only at hw_); go_simp; try with_reducible rfl)
                simp only [Act.put, List.setIfInBounds_toArray, List.set_cons_zero, List.set_cons_succ, List.getElem_toArray, List.getElem_cons_zero, List.getElem_cons_succ]
                refine hT (i := 3) (v := ?_) rfl (by kernel_rfl) (fun _ _ _ h => h) (by rfl) ?_ hHeld ?_
                rotate_left
                · (intro w_ hw_; (try dsimp only at hw_); go_simp; try with_reducible rfl)
                simp only [Act.put, List.setIfInBounds_toArray, List.set_cons_zero, List.set_cons_succ, List.getElem_toArray, List.getElem_cons_zero, List.getElem_cons_succ]
                refine hT (i := 4) (v := ?_) rfl (by kernel_rfl) (fun _ _ _ h => h) (by rfl) ?_ hHeld ?_
                rotate_left
                · (intro w_ hw_; (try dsimp only at hw_); go_simp; try with_reducible rfl)
                simp only [Act.put, List.setIfInBounds_toArray, List.set_cons_zero, List.set_cons_succ, List.getElem_toArray, List.getElem_cons_zero, List.getElem_cons_succ]
                refine hT (i := 5) (v := ?_) rfl (by kernel_rfl) (fun _ _ _ h => h) (by rfl) ?_ hHeld ?_
                rotate_left
                · (intro w_ hw_; (try dsimp only at hw_); go_simp; try with_reducible rfl)
                simp only [Act.put, List.setIfInBounds_toArray, List.set_cons_zero, List.set_cons_succ, List.getElem_toArray, List.getElem_cons_zero, List.getElem_cons_succ]
                refine hT (i := 6) (v := ?_) rfl (by kernel_rfl) (fun _ _ _ h => h) (by rfl) ?_ hHeld ?_
                rotate_left
                · (intro w_ hw_; (try dsimp only at hw_); go_simp; try with_reducible rfl)
                simp only [Act.put, List.setIfInBounds_toArray, List.set_cons_zero, List.set_cons_succ, List.getElem_toArray, List.getElem_cons_zero, List.getElem_cons_succ]
                refine hN (i := 7) rfl (by kernel_rfl) (fun _ _ _ h => h) (by rfl) hHeld ?_
                simp only [Act.put, List.setIfInBounds_toArray, List.set_cons_zero, List.set_cons_succ, List.getElem_toArray, List.getElem_cons_zero, List.getElem_cons_succ]
                refine hN (i := 8) rfl (by kernel_rfl) (fun _ _ _ h => h) (by rfl) hHeld ?_
                simp only [Act.put, List.setIfInBounds_toArray, List.set_cons_zero, List.set_cons_succ, List.getElem_toArray, List.getElem_cons_zero, List.getElem_cons_succ]
                refine hN (i := 9) rfl (by kernel_rfl) (fun _ _ _ h => h) (by rfl) hHeld ?_
                simp only [Act.put, List.setIfInBounds_toArray, List.set_cons_zero, List.set_cons_succ, List.getElem_toArray, List.getElem_cons_zero, List.getElem_cons_succ]
                refine hN (i := 10) rfl (by kernel_rfl) (fun _ _ _ h => h) (by rfl) hHeld ?_
                simp only [Act.put, List.setIfInBounds_toArray, List.set_cons_zero, List.set_cons_succ, List.getElem_toArray, List.getElem_cons_zero, List.getElem_cons_succ]
                refine hN (i := 11) rfl (by kernel_rfl) (fun _ _ _ h => h) (by rfl) hHeld ?_
                simp only [Act.put, List.setIfInBounds_toArray, List.set_cons_zero, List.set_cons_succ, List.getElem_toArray, List.getElem_cons_zero, List.getElem_cons_succ]
                refine hN (i := 12) rfl (by kernel_rfl) (fun _ _ _ h => h) (by rfl) hHeld ?_
                simp only [Act.put, List.setIfInBounds_toArray, List.set_cons_zero, List.set_cons_succ, List.getElem_toArray, List.getElem_cons_zero, List.getElem_cons_succ]
                refine hT (i := 13) (v := ?_) rfl (by kernel_rfl) (fun _ _ _ h => h) (by rfl) ?_ hHeld ?_
                rotate_left
                · (intro w_ hw_; (try dsimp only at hw_); go_simp; try with_reducible rfl)
                simp only [Act.put, List.setIfInBounds_toArray, List.set_cons_zero, List.set_cons_succ, List.getElem_toArray, List.getElem_cons_zero, List.getElem_cons_succ]
                refine wpAnyH_done (by kernel_rfl) ?_ _
                clear hHeld
                go_wp2_with fail
                exact ⟨⟨k + 1, true, by omega, by go_num, rfl, hide (by rw [← HM.out]; first | done | (simp; done) | (simp; omega)), HBd⟩, by simp [intOf]; omega⟩
              obtain rfl := ((hxy.out hnb).1 rfl rfl).resolve_left heq
              unfold zeroStep at y0 y1 y2 y3 y4 y5 y6
              simp only at y0 y1 y2 y3 y4 y5 y6
              clear heq
              go_upto_region 24 with fail
              refine wp_region_held_drew (S := fun w' => (w'.cell? ⟨e1b, e1o + k * 7, none⟩ = some (.int .i64 0) ∧ w'.cell? ⟨e1b, e1o + k * 7 + 1, none⟩ = some (.int .i64 0) ∧ w'.cell? ⟨e1b, e1o + k * 7 + 2, none⟩ = some (.int .i64 0) ∧ w'.cell? ⟨e1b, e1o + k * 7 + 3, none⟩ = some (.int .i64 0) ∧ w'.cell? ⟨e1b, e1o + k * 7 + 4, none⟩ = some (.int .i64 0) ∧ w'.cell? ⟨e1b, e1o + k * 7 + 5, none⟩ = some (.int .i64 0) ∧ w'.cell? ⟨e1b, e1o + k * 7 + 6, none⟩ = some (.string ⟨#[]⟩)) ∧ (w'.cell? ⟨B5, 0, none⟩ = some (.int .i64 3) ∧ w'.cell? ⟨B5, 1, none⟩ = some (.int .i64 xp) ∧ w'.cell? ⟨B5, 2, none⟩ = some (.int .i64 xd) ∧ w'.cell? ⟨B5, 3, none⟩ = some (.int .i64 xa) ∧ w'.cell? ⟨B5, 4, none⟩ = some (.int .i64 xb) ∧ w'.cell? ⟨B5, 5, none⟩ = some (.int .i64 xc) ∧ w'.cell? ⟨B5, 6, none⟩ = some (.string xs))) (by kernel_rfl) ?_ (fun hHeld => ?_)
              · exact ⟨⟨y0, y1, y2, y3, y4, y5, y6⟩, ⟨q0, q1, q2, q3, q4, q5, q6⟩⟩
              refine hT (i := 0) (v := ?_) rfl (by kernel_rfl) (fun _ _ _ h => h) (by rfl) ?_ hHeld ?_
              rotate_left
              · (intro w_ hw_; (try dsimp only at hw_); go_simp; try with_reducible rfl)
              simp only [Act.put, List.setIfInBounds_toArray, List.set_cons_zero, List.set_cons_succ, List.getElem_toArray, List.getElem_cons_zero]
              refine hT (i := 1) (v := ?_) rfl (by kernel_rfl) (fun _ _ _ h => h) (by rfl) ?_ hHeld ?_
              rotate_left
              · (intro w_ hw_; (try dsimp only at hw_); go_simp; try with_reducible rfl)
              simp only [Act.put, List.setIfInBounds_toArray, List.set_cons_zero, List.set_cons_succ, List.getElem_toArray, List.getElem_cons_zero, List.getElem_cons_succ]
              refine hT (i := 2) (v := ?_) rfl (by kernel_rfl) (fun _ _ _ h => h) (by rfl) ?_ hHeld ?_
              rotate_left
              · (intro w_ hw_; (try dsimp only at hw_); go_simp; try with_reducible rfl)
              simp only [Act.put, List.setIfInBounds_toArray, List.set_cons_zero, List.set_cons_succ, List.getElem_toArray, List.getElem_cons_zero, List.getElem_cons_succ]
              refine hT (i := 3) (v := ?_) rfl (by kernel_rfl) (fun _ _ _ h => h) (by rfl) ?_ hHeld ?_
              rotate_left
              · (intro w_ hw_; (try dsimp only at hw_); go_simp; try with_reducible rfl)
              simp only [Act.put, List.setIfInBounds_toArray, List.set_cons_zero, List.set_cons_succ, List.getElem_toArray, List.getElem_cons_zero, List.getElem_cons_succ]
              refine hT (i := 4) (v := ?_) rfl (by kernel_rfl) (fun _ _ _ h => h) (by rfl) ?_ hHeld ?_
              rotate_left
              · (intro w_ hw_; (try dsimp only at hw_); go_simp; try with_reducible rfl)
              simp only [Act.put, List.setIfInBounds_toArray, List.set_cons_zero, List.set_cons_succ, List.getElem_toArray, List.getElem_cons_zero, List.getElem_cons_succ]
              refine hT (i := 5) (v := ?_) rfl (by kernel_rfl) (fun _ _ _ h => h) (by rfl) ?_ hHeld ?_
              rotate_left
              · (intro w_ hw_; (try dsimp only at hw_); go_simp; try with_reducible rfl)
              simp only [Act.put, List.setIfInBounds_toArray, List.set_cons_zero, List.set_cons_succ, List.getElem_toArray, List.getElem_cons_zero, List.getElem_cons_succ]
              refine hT (i := 6) (v := ?_) rfl (by kernel_rfl) (fun _ _ _ h => h) (by rfl) ?_ hHeld ?_
              rotate_left
              · (intro w_ hw_; (try dsimp only at hw_); go_simp; try with_reducible rfl)
              simp only [Act.put, List.setIfInBounds_toArray, List.set_cons_zero, List.set_cons_succ, List.getElem_toArray, List.getElem_cons_zero, List.getElem_cons_succ]
              refine hT (i := 7) (v := ?_) rfl (by kernel_rfl) (fun _ _ _ h => h) (by rfl) ?_ hHeld ?_
              rotate_left
              · (intro w_ hw_; (try dsimp only at hw_); go_simp; try with_reducible rfl)
              simp only [Act.put, List.setIfInBounds_toArray, List.set_cons_zero, List.set_cons_succ, List.getElem_toArray, List.getElem_cons_zero, List.getElem_cons_succ]
              refine hT (i := 8) (v := ?_) rfl (by kernel_rfl) (fun _ _ _ h => h) (by rfl) ?_ hHeld ?_
              rotate_left
              · (intro w_ hw_; (try dsimp only at hw_); go_simp; try with_reducible rfl)
              simp only [Act.put, List.setIfInBounds_toArray, List.set_cons_zero, List.set_cons_succ, List.getElem_toArray, List.getElem_cons_zero, List.getElem_cons_succ]
              refine hT (i := 9) (v := ?_) rfl (by kernel_rfl) (fun _ _ _ h => h) (by rfl) ?_ hHeld ?_
              rotate_left
              · (intro w_ hw_; (try dsimp only at hw_); go_simp; try with_reducible rfl)
              simp only [Act.put, List.setIfInBounds_toArray, List.set_cons_zero, List.set_cons_succ, List.getElem_toArray, List.getElem_cons_zero, List.getElem_cons_succ]
              refine hT (i := 10) (v := ?_) rfl (by kernel_rfl) (fun _ _ _ h => h) (by rfl) ?_ hHeld ?_
              rotate_left
              · (intro w_ hw_; (try dsimp only at hw_); go_simp; try with_reducible rfl)
              simp only [Act.put, List.setIfInBounds_toArray, List.set_cons_zero, List.set_cons_succ, List.getElem_toArray, List.getElem_cons_zero, List.getElem_cons_succ]
              refine hT (i := 11) (v := ?_) rfl (by kernel_rfl) (fun _ _ _ h => h) (by rfl) ?_ hHeld ?_
              rotate_left
              · (intro w_ hw_; (try dsimp only at hw_); go_simp; try with_reducible rfl)
              simp only [Act.put, List.setIfInBounds_toArray, List.set_cons_zero, List.set_cons_succ, List.getElem_toArray, List.getElem_cons_zero, List.getElem_cons_succ]
              refine hT (i := 12) (v := ?_) rfl (by kernel_rfl) (fun _ _ _ h => h) (by rfl) ?_ hHeld ?_
              rotate_left
              · (intro w_ hw_; (try dsimp only at hw_); go_simp; try with_reducible rfl)
              simp only [Act.put, List.setIfInBounds_toArray, List.set_cons_zero, List.set_cons_succ, List.getElem_toArray, List.getElem_cons_zero, List.getElem_cons_succ]
              refine hT (i := 13) (v := ?_) rfl (by kernel_rfl) (fun _ _ _ h => h) (by rfl) ?_ hHeld ?_
              rotate_left
              · (intro w_ hw_; (try dsimp only at hw_); go_simp; try with_reducible rfl)
              simp only [Act.put, List.setIfInBounds_toArray, List.set_cons_zero, List.set_cons_succ, List.getElem_toArray, List.getElem_cons_zero, List.getElem_cons_succ]
              refine wpAnyH_done (by kernel_rfl) ?_ _
              clear hHeld
              go_wp2_with fail
              exact ⟨⟨k + 1, true, by omega, by go_num, rfl, hide (by rw [← HM.out]; first | done | (simp; done) | (simp; omega)), HBd⟩, by simp [intOf]; omega⟩
            by_cases k4 : xk = 4
            · subst k4
              by_cases d0 : xd < 0
              · have hy := hz.out (by simp [badX, isCall, isReq, inB]; omega)
                subst hy
                unfold zeroStep at y0 y1 y2 y3 y4 y5 y6
                simp only at y0 y1 y2 y3 y4 y5 y6
                go_wp2_with fail
                exact ⟨⟨k + 1, true, by omega, by go_num, rfl, hide (by rw [← HM.out]; first | done | (simp; done) | (simp; omega)), HB5⟩, by simp [intOf]; omega⟩
              by_cases d1 : 1 < xd
              · have hy := hz.out (by simp [badX, isCall, isReq, inB]; omega)
                have d0i : ¬ xd < 0 := d0
                subst hy
                unfold zeroStep at y0 y1 y2 y3 y4 y5 y6
                simp only at y0 y1 y2 y3 y4 y5 y6
                go_wp2_with fail
                exact ⟨⟨k + 1, true, by omega, by go_num, rfl, hide (by rw [← HM.out]; first | done | (simp; done) | (simp; omega)), HB5⟩, by simp [intOf]; omega⟩
              have hnb : badX ⟨4, xp, xd, xa, xb, xc, xs⟩ = false := by simp [badX, isCall, isReq, inB]; omega
              by_cases heq : y = ⟨4, xp, xd, xa, xb, xc, xs⟩
              · subst heq
                simp only at y0 y1 y2 y3 y4 y5 y6
                go_upto_region 24 with fail
                refine wp_region_held_drew (S := fun w' => (w'.cell? ⟨e1b, e1o + k * 7, none⟩ = some (.int .i64 4) ∧ w'.cell? ⟨e1b, e1o + k * 7 + 1, none⟩ = some (.int .i64 xp) ∧ w'.cell? ⟨e1b, e1o + k * 7 + 2, none⟩ = some (.int .i64 xd) ∧ w'.cell? ⟨e1b, e1o + k * 7 + 3, none⟩ = some (.int .i64 xa) ∧ w'.cell? ⟨e1b, e1o + k * 7 + 4, none⟩ = some (.int .i64 xb) ∧ w'.cell? ⟨e1b, e1o + k * 7 + 5, none⟩ = some (.int .i64 xc) ∧ w'.cell? ⟨e1b, e1o + k * 7 + 6, none⟩ = some (.string xs)) ∧ (w'.cell? ⟨B5, 0, none⟩ = some (.int .i64 4) ∧ w'.cell? ⟨B5, 1, none⟩ = some (.int .i64 xp) ∧ w'.cell? ⟨B5, 2, none⟩ = some (.int .i64 xd) ∧ w'.cell? ⟨B5, 3, none⟩ = some (.int .i64 xa) ∧ w'.cell? ⟨B5, 4, none⟩ = some (.int .i64 xb) ∧ w'.cell? ⟨B5, 5, none⟩ = some (.int .i64 xc) ∧ w'.cell? ⟨B5, 6, none⟩ = some (.string xs))) (by kernel_rfl) ?_ (fun hHeld => ?_)
                · exact ⟨⟨y0, y1, y2, y3, y4, y5, y6⟩, ⟨q0, q1, q2, q3, q4, q5, q6⟩⟩
                refine hT (i := 0) (v := ?_) rfl (by kernel_rfl) (fun _ _ _ h => h) (by rfl) ?_ hHeld ?_
                rotate_left
                · (intro w_ hw_; (try dsimp only at hw_); go_simp; try with_reducible rfl)
                simp only [Act.put, List.setIfInBounds_toArray, List.set_cons_zero, List.set_cons_succ, List.getElem_toArray, List.getElem_cons_zero]
                refine hT (i := 1) (v := ?_) rfl (by kernel_rfl) (fun _ _ _ h => h) (by rfl) ?_ hHeld ?_
                rotate_left
                · (intro w_ hw_; (try dsimp only at hw_); go_simp; try with_reducible rfl)
                simp only [Act.put, List.setIfInBounds_toArray, List.set_cons_zero, List.set_cons_succ, List.getElem_toArray, List.getElem_cons_zero, List.getElem_cons_succ]
                refine hT (i := 2) (v := ?_) rfl (by kernel_rfl) (fun _ _ _ h => h) (by rfl) ?_ hHeld ?_
                rotate_left
                · (intro w_ hw_; (try dsimp only at hw_); go_simp; try with_reducible rfl)
                simp only [Act.put, List.setIfInBounds_toArray, List.set_cons_zero, List.set_cons_succ, List.getElem_toArray, List.getElem_cons_zero, List.getElem_cons_succ]
                refine hT (i := 3) (v := ?_) rfl (by kernel_rfl) (fun _ _ _ h => h) (by rfl) ?_ hHeld ?_
                rotate_left
                · (intro w_ hw_; (try dsimp only at hw_); go_simp; try with_reducible rfl)
                simp only [Act.put, List.setIfInBounds_toArray, List.set_cons_zero, List.set_cons_succ, List.getElem_toArray, List.getElem_cons_zero, List.getElem_cons_succ]
                refine hT (i := 4) (v := ?_) rfl (by kernel_rfl) (fun _ _ _ h => h) (by rfl) ?_ hHeld ?_
                rotate_left
                · (intro w_ hw_; (try dsimp only at hw_); go_simp; try with_reducible rfl)
                simp only [Act.put, List.setIfInBounds_toArray, List.set_cons_zero, List.set_cons_succ, List.getElem_toArray, List.getElem_cons_zero, List.getElem_cons_succ]
                refine hT (i := 5) (v := ?_) rfl (by kernel_rfl) (fun _ _ _ h => h) (by rfl) ?_ hHeld ?_
                rotate_left
                · (intro w_ hw_; (try dsimp only at hw_); go_simp; try with_reducible rfl)
                simp only [Act.put, List.setIfInBounds_toArray, List.set_cons_zero, List.set_cons_succ, List.getElem_toArray, List.getElem_cons_zero, List.getElem_cons_succ]
                refine hT (i := 6) (v := ?_) rfl (by kernel_rfl) (fun _ _ _ h => h) (by rfl) ?_ hHeld ?_
                rotate_left
                · (intro w_ hw_; (try dsimp only at hw_); go_simp; try with_reducible rfl)
                simp only [Act.put, List.setIfInBounds_toArray, List.set_cons_zero, List.set_cons_succ, List.getElem_toArray, List.getElem_cons_zero, List.getElem_cons_succ]
                refine hN (i := 7) rfl (by kernel_rfl) (fun _ _ _ h => h) (by rfl) hHeld ?_
                simp only [Act.put, List.setIfInBounds_toArray, List.set_cons_zero, List.set_cons_succ, List.getElem_toArray, List.getElem_cons_zero, List.getElem_cons_succ]
                refine hN (i := 8) rfl (by kernel_rfl) (fun _ _ _ h => h) (by rfl) hHeld ?_
                simp only [Act.put, List.setIfInBounds_toArray, List.set_cons_zero, List.set_cons_succ, List.getElem_toArray, List.getElem_cons_zero, List.getElem_cons_succ]
                refine hN (i := 9) rfl (by kernel_rfl) (fun _ _ _ h => h) (by rfl) hHeld ?_
                simp only [Act.put, List.setIfInBounds_toArray, List.set_cons_zero, List.set_cons_succ, List.getElem_toArray, List.getElem_cons_zero, List.getElem_cons_succ]
                refine hN (i := 10) rfl (by kernel_rfl) (fun _ _ _ h => h) (by rfl) hHeld ?_
                simp only [Act.put, List.setIfInBounds_toArray, List.set_cons_zero, List.set_cons_succ, List.getElem_toArray, List.getElem_cons_zero, List.getElem_cons_succ]
                refine hN (i := 11) rfl (by kernel_rfl) (fun _ _ _ h => h) (by rfl) hHeld ?_
                simp only [Act.put, List.setIfInBounds_toArray, List.set_cons_zero, List.set_cons_succ, List.getElem_toArray, List.getElem_cons_zero, List.getElem_cons_succ]
                refine hN (i := 12) rfl (by kernel_rfl) (fun _ _ _ h => h) (by rfl) hHeld ?_
                simp only [Act.put, List.setIfInBounds_toArray, List.set_cons_zero, List.set_cons_succ, List.getElem_toArray, List.getElem_cons_zero, List.getElem_cons_succ]
                refine hT (i := 13) (v := ?_) rfl (by kernel_rfl) (fun _ _ _ h => h) (by rfl) ?_ hHeld ?_
                rotate_left
                · (intro w_ hw_; (try dsimp only at hw_); go_simp; try with_reducible rfl)
                simp only [Act.put, List.setIfInBounds_toArray, List.set_cons_zero, List.set_cons_succ, List.getElem_toArray, List.getElem_cons_zero, List.getElem_cons_succ]
                refine wpAnyH_done (by kernel_rfl) ?_ _
                clear hHeld
                go_wp2_with fail
                exact ⟨⟨k + 1, true, by omega, by go_num, rfl, hide (by rw [← HM.out]; first | done | (simp; done) | (simp; omega)), HBd⟩, by simp [intOf]; omega⟩
              obtain rfl := ((hxy.out hnb).1 rfl rfl).resolve_left heq
              unfold zeroStep at y0 y1 y2 y3 y4 y5 y6
              simp only at y0 y1 y2 y3 y4 y5 y6
              clear heq
              go_upto_region 24 with fail
              refine wp_region_held_drew (S := fun w' => (w'.cell? ⟨e1b, e1o + k * 7, none⟩ = some (.int .i64 0) ∧ w'.cell? ⟨e1b, e1o + k * 7 + 1, none⟩ = some (.int .i64 0) ∧ w'.cell? ⟨e1b, e1o + k * 7 + 2, none⟩ = some (.int .i64 0) ∧ w'.cell? ⟨e1b, e1o + k * 7 + 3, none⟩ = some (.int .i64 0) ∧ w'.cell? ⟨e1b, e1o + k * 7 + 4, none⟩ = some (.int .i64 0) ∧ w'.cell? ⟨e1b, e1o + k * 7 + 5, none⟩ = some (.int .i64 0) ∧ w'.cell? ⟨e1b, e1o + k * 7 + 6, none⟩ = some (.string ⟨#[]⟩)) ∧ (w'.cell? ⟨B5, 0, none⟩ = some (.int .i64 4) ∧ w'.cell? ⟨B5, 1, none⟩ = some (.int .i64 xp) ∧ w'.cell? ⟨B5, 2, none⟩ = some (.int .i64 xd) ∧ w'.cell? ⟨B5, 3, none⟩ = some (.int .i64 xa) ∧ w'.cell? ⟨B5, 4, none⟩ = some (.int .i64 xb) ∧ w'.cell? ⟨B5, 5, none⟩ = some (.int .i64 xc) ∧ w'.cell? ⟨B5, 6, none⟩ = some (.string xs))) (by kernel_rfl) ?_ (fun hHeld => ?_)
              · exact ⟨⟨y0, y1, y2, y3, y4, y5, y6⟩, ⟨q0, q1, q2, q3, q4, q5, q6⟩⟩
              refine hT (i := 0) (v := ?_) rfl (by kernel_rfl) (fun _ _ _ h => h) (by rfl) ?_ hHeld ?_
              rotate_left
              · (intro w_ hw_; (try dsimp only at hw_); go_simp; try with_reducible rfl)
              simp only [Act.put, List.setIfInBounds_toArray, List.set_cons_zero, List.set_cons_succ, List.getElem_toArray, List.getElem_cons_zero]
              refine hT (i := 1) (v := ?_) rfl (by kernel_rfl) (fun _ _ _ h => h) (by rfl) ?_ hHeld ?_
              rotate_left
              · (intro w_ hw_; (try dsimp only at hw_); go_simp; try with_reducible rfl)
              simp only [Act.put, List.setIfInBounds_toArray, List.set_cons_zero, List.set_cons_succ, List.getElem_toArray, List.getElem_cons_zero, List.getElem_cons_succ]
              refine hT (i := 2) (v := ?_) rfl (by kernel_rfl) (fun _ _ _ h => h) (by rfl) ?_ hHeld ?_
              rotate_left
              · (intro w_ hw_; (try dsimp only at hw_); go_simp; try with_reducible rfl)
              simp only [Act.put, List.setIfInBounds_toArray, List.set_cons_zero, List.set_cons_succ, List.getElem_toArray, List.getElem_cons_zero, List.getElem_cons_succ]
              refine hT (i := 3) (v := ?_) rfl (by kernel_rfl) (fun _ _ _ h => h) (by rfl) ?_ hHeld ?_
              rotate_left
              · (intro w_ hw_; (try dsimp only at hw_); go_simp; try with_reducible rfl)
              simp only [Act.put, List.setIfInBounds_toArray, List.set_cons_zero, List.set_cons_succ, List.getElem_toArray, List.getElem_cons_zero, List.getElem_cons_succ]
              refine hT (i := 4) (v := ?_) rfl (by kernel_rfl) (fun _ _ _ h => h) (by rfl) ?_ hHeld ?_
              rotate_left
              · (intro w_ hw_; (try dsimp only at hw_); go_simp; try with_reducible rfl)
              simp only [Act.put, List.setIfInBounds_toArray, List.set_cons_zero, List.set_cons_succ, List.getElem_toArray, List.getElem_cons_zero, List.getElem_cons_succ]
              refine hT (i := 5) (v := ?_) rfl (by kernel_rfl) (fun _ _ _ h => h) (by rfl) ?_ hHeld ?_
              rotate_left
              · (intro w_ hw_; (try dsimp only at hw_); go_simp; try with_reducible rfl)
              simp only [Act.put, List.setIfInBounds_toArray, List.set_cons_zero, List.set_cons_succ, List.getElem_toArray, List.getElem_cons_zero, List.getElem_cons_succ]
              refine hT (i := 6) (v := ?_) rfl (by kernel_rfl) (fun _ _ _ h => h) (by rfl) ?_ hHeld ?_
              rotate_left
              · (intro w_ hw_; (try dsimp only at hw_); go_simp; try with_reducible rfl)
              simp only [Act.put, List.setIfInBounds_toArray, List.set_cons_zero, List.set_cons_succ, List.getElem_toArray, List.getElem_cons_zero, List.getElem_cons_succ]
              refine hT (i := 7) (v := ?_) rfl (by kernel_rfl) (fun _ _ _ h => h) (by rfl) ?_ hHeld ?_
              rotate_left
              · (intro w_ hw_; (try dsimp only at hw_); go_simp; try with_reducible rfl)
              simp only [Act.put, List.setIfInBounds_toArray, List.set_cons_zero, List.set_cons_succ, List.getElem_toArray, List.getElem_cons_zero, List.getElem_cons_succ]
              refine hT (i := 8) (v := ?_) rfl (by kernel_rfl) (fun _ _ _ h => h) (by rfl) ?_ hHeld ?_
              rotate_left
              · (intro w_ hw_; (try dsimp only at hw_); go_simp; try with_reducible rfl)
              simp only [Act.put, List.setIfInBounds_toArray, List.set_cons_zero, List.set_cons_succ, List.getElem_toArray, List.getElem_cons_zero, List.getElem_cons_succ]
              refine hT (i := 9) (v := ?_) rfl (by kernel_rfl) (fun _ _ _ h => h) (by rfl) ?_ hHeld ?_
              rotate_left
              · (intro w_ hw_; (try dsimp only at hw_); go_simp; try with_reducible rfl)
              simp only [Act.put, List.setIfInBounds_toArray, List.set_cons_zero, List.set_cons_succ, List.getElem_toArray, List.getElem_cons_zero, List.getElem_cons_succ]
              refine hT (i := 10) (v := ?_) rfl (by kernel_rfl) (fun _ _ _ h => h) (by rfl) ?_ hHeld ?_
              rotate_left
              · (intro w_ hw_; (try dsimp only at hw_); go_simp; try with_reducible rfl)
              simp only [Act.put, List.setIfInBounds_toArray, List.set_cons_zero, List.set_cons_succ, List.getElem_toArray, List.getElem_cons_zero, List.getElem_cons_succ]
              refine hT (i := 11) (v := ?_) rfl (by kernel_rfl) (fun _ _ _ h => h) (by rfl) ?_ hHeld ?_
              rotate_left
              · (intro w_ hw_; (try dsimp only at hw_); go_simp; try with_reducible rfl)
              simp only [Act.put, List.setIfInBounds_toArray, List.set_cons_zero, List.set_cons_succ, List.getElem_toArray, List.getElem_cons_zero, List.getElem_cons_succ]
              refine hT (i := 12) (v := ?_) rfl (by kernel_rfl) (fun _ _ _ h => h) (by rfl) ?_ hHeld ?_
              rotate_left
              · (intro w_ hw_; (try dsimp only at hw_); go_simp; try with_reducible rfl)
              simp only [Act.put, List.setIfInBounds_toArray, List.set_cons_zero, List.set_cons_succ, List.getElem_toArray, List.getElem_cons_zero, List.getElem_cons_succ]
              refine hT (i := 13) (v := ?_) rfl (by kernel_rfl) (fun _ _ _ h => h) (by rfl) ?_ hHeld ?_
              rotate_left
              · (intro w_ hw_; (try dsimp only at hw_); go_simp; try with_reducible rfl)
              simp only [Act.put, List.setIfInBounds_toArray, List.set_cons_zero, List.set_cons_succ, List.getElem_toArray, List.getElem_cons_zero, List.getElem_cons_succ]
              refine wpAnyH_done (by kernel_rfl) ?_ _
              clear hHeld
              go_wp2_with fail
              exact ⟨⟨k + 1, true, by omega, by go_num, rfl, hide (by rw [← HM.out]; first | done | (simp; done) | (simp; omega)), HBd⟩, by simp [intOf]; omega⟩
            have nk2 : (xk == 2) = false := by simp; omega
            have nk3 : (xk == 3) = false := by simp; omega
            have nk4 : (xk == 4) = false := by simp; omega
            have mk2 : ¬ xk = 2 := by omega
            have mk3 : ¬ xk = 3 := by omega
            have mk4 : ¬ xk = 4 := by omega
            by_cases kc : 5 ≤ xk ∧ xk ≤ 16
            · obtain ⟨kc5, kc16⟩ := kc
              have hic : isCall xk = true := (isCall_iff xk).2 ⟨kc5, kc16⟩
              by_cases p0 : xp < 0
              · have hy := hz.out (by simp [badX, hic, inB]; omega)
                subst hy
                unfold zeroStep at y0 y1 y2 y3 y4 y5 y6
                simp only at y0 y1 y2 y3 y4 y5 y6
                go_wp2_with fail
                exact ⟨⟨k + 1, true, by omega, by go_num, rfl, hide (by rw [← HM.out]; first | done | (simp; done) | (simp; omega)), HB5⟩, by simp [intOf]; omega⟩
              by_cases p1 : 2 < xp
              · have hy := hz.out (by simp [badX, hic, inB]; omega)
                have p0i : ¬ xp < 0 := p0
                subst hy
                unfold zeroStep at y0 y1 y2 y3 y4 y5 y6
                simp only at y0 y1 y2 y3 y4 y5 y6
                go_wp2_with fail
                exact ⟨⟨k + 1, true, by omega, by go_num, rfl, hide (by rw [← HM.out]; first | done | (simp; done) | (simp; omega)), HB5⟩, by simp [intOf]; omega⟩
              have hnb : badX ⟨xk, xp, xd, xa, xb, xc, xs⟩ = false := by simp [badX, hic, isReq, inB, nk3, nk4]; omega
              obtain rfl : y = _ := (hxy.out hnb).2 (.inl (by simp [isReq, nk3, nk4]))
              simp only at y0 y1 y2 y3 y4 y5 y6
              go_upto_region 26 with fail
              refine wp_region_held_drew (S := fun w' => (w'.cell? ⟨e1b, e1o + k * 7, none⟩ = some (.int .i64 xk) ∧ w'.cell? ⟨e1b, e1o + k * 7 + 1, none⟩ = some (.int .i64 xp) ∧ w'.cell? ⟨e1b, e1o + k * 7 + 2, none⟩ = some (.int .i64 xd) ∧ w'.cell? ⟨e1b, e1o + k * 7 + 3, none⟩ = some (.int .i64 xa) ∧ w'.cell? ⟨e1b, e1o + k * 7 + 4, none⟩ = some (.int .i64 xb) ∧ w'.cell? ⟨e1b, e1o + k * 7 + 5, none⟩ = some (.int .i64 xc) ∧ w'.cell? ⟨e1b, e1o + k * 7 + 6, none⟩ = some (.string xs)) ∧ (w'.cell? ⟨B5, 0, none⟩ = some (.int .i64 xk) ∧ w'.cell? ⟨B5, 1, none⟩ = some (.int .i64 xp) ∧ w'.cell? ⟨B5, 2, none⟩ = some (.int .i64 xd) ∧ w'.cell? ⟨B5, 3, none⟩ = some (.int .i64 xa) ∧ w'.cell? ⟨B5, 4, none⟩ = some (.int .i64 xb) ∧ w'.cell? ⟨B5, 5, none⟩ = some (.int .i64 xc) ∧ w'.cell? ⟨B5, 6, none⟩ = some (.string xs))) (by kernel_rfl) ?_ (fun hHeld => ?_)
              · exact ⟨⟨y0, y1, y2, y3, y4, y5, y6⟩, ⟨q0, q1, q2, q3, q4, q5, q6⟩⟩
              refine hT (i := 0) (v := ?_) rfl (by kernel_rfl) (fun _ _ _ h => h) (by rfl) ?_ hHeld ?_
              rotate_left
              · (intro w_ hw_; (try dsimp only at hw_); go_simp; try with_reducible rfl)
              simp only [Act.put, List.setIfInBounds_toArray, List.set_cons_zero, List.set_cons_succ, List.getElem_toArray, List.getElem_cons_zero]
              refine hT (i := 1) (v := ?_) rfl (by kernel_rfl) (fun _ _ _ h => h) (by rfl) ?_ hHeld ?_
              rotate_left
              · (intro w_ hw_; (try dsimp only at hw_); go_simp; try with_reducible rfl)
              simp only [Act.put, List.setIfInBounds_toArray, List.set_cons_zero, List.set_cons_succ, List.getElem_toArray, List.getElem_cons_zero, List.getElem_cons_succ]
              refine hT (i := 2) (v := ?_) rfl (by kernel_rfl) (fun _ _ _ h => h) (by rfl) ?_ hHeld ?_
              rotate_left
              · (intro w_ hw_; (try dsimp only at hw_); go_simp; try with_reducible rfl)
              simp only [Act.put, List.setIfInBounds_toArray, List.set_cons_zero, List.set_cons_succ, List.getElem_toArray, List.getElem_cons_zero, List.getElem_cons_succ]
              refine hT (i := 3) (v := ?_) rfl (by kernel_rfl) (fun _ _ _ h => h) (by rfl) ?_ hHeld ?_
              rotate_left
              · (intro w_ hw_; (try dsimp only at hw_); go_simp; try with_reducible rfl)
              simp only [Act.put, List.setIfInBounds_toArray, List.set_cons_zero, List.set_cons_succ, List.getElem_toArray, List.getElem_cons_zero, List.getElem_cons_succ]
              refine hT (i := 4) (v := ?_) rfl (by kernel_rfl) (fun _ _ _ h => h) (by rfl) ?_ hHeld ?_
              rotate_left
              · (intro w_ hw_; (try dsimp only at hw_); go_simp; try with_reducible rfl)
              simp only [Act.put, List.setIfInBounds_toArray, List.set_cons_zero, List.set_cons_succ, List.getElem_toArray, List.getElem_cons_zero, List.getElem_cons_succ]
              refine hT (i := 5) (v := ?_) rfl (by kernel_rfl) (fun _ _ _ h => h) (by rfl) ?_ hHeld ?_
              rotate_left
              · (intro w_ hw_; (try dsimp only at hw_); go_simp; try with_reducible rfl)
              simp only [Act.put, List.setIfInBounds_toArray, List.set_cons_zero, List.set_cons_succ, List.getElem_toArray, List.getElem_cons_zero, List.getElem_cons_succ]
              refine hT (i := 6) (v := ?_) rfl (by kernel_rfl) (fun _ _ _ h => h) (by rfl) ?_ hHeld ?_
              rotate_left
              · (intro w_ hw_; (try dsimp only at hw_); go_simp; try with_reducible rfl)
              simp only [Act.put, List.setIfInBounds_toArray, List.set_cons_zero, List.set_cons_succ, List.getElem_toArray, List.getElem_cons_zero, List.getElem_cons_succ]
              refine wpAnyH_done (by kernel_rfl) ?_ _
              clear hHeld
              go_wp2_with fail
              exact ⟨⟨k + 1, true, by omega, by go_num, rfl, hide (by rw [← HM.out]; first | done | (simp; done) | (simp; omega)), HBd⟩, by simp [intOf]; omega⟩
            have hic : isCall xk = false := by rw [← Bool.not_eq_true, isCall_iff]; exact kc
            have hnb : badX ⟨xk, xp, xd, xa, xb, xc, xs⟩ = false := by simp [badX, hic, isReq, nk3, nk4]
            obtain rfl : y = _ := (hxy.out hnb).2 (.inl (by simp [isReq, nk3, nk4]))
            by_cases kc5 : xk < 5
            · have kc5i : ¬ 5 ≤ xk := by omega
              simp only at y0 y1 y2 y3 y4 y5 y6
              go_upto_region 26 with fail
              refine wp_region_held_drew (S := fun w' => (w'.cell? ⟨e1b, e1o + k * 7, none⟩ = some (.int .i64 xk) ∧ w'.cell? ⟨e1b, e1o + k * 7 + 1, none⟩ = some (.int .i64 xp) ∧ w'.cell? ⟨e1b, e1o + k * 7 + 2, none⟩ = some (.int .i64 xd) ∧ w'.cell? ⟨e1b, e1o + k * 7 + 3, none⟩ = some (.int .i64 xa) ∧ w'.cell? ⟨e1b, e1o + k * 7 + 4, none⟩ = some (.int .i64 xb) ∧ w'.cell? ⟨e1b, e1o + k * 7 + 5, none⟩ = some (.int .i64 xc) ∧ w'.cell? ⟨e1b, e1o + k * 7 + 6, none⟩ = some (.string xs)) ∧ (w'.cell? ⟨B5, 0, none⟩ = some (.int .i64 xk) ∧ w'.cell? ⟨B5, 1, none⟩ = some (.int .i64 xp) ∧ w'.cell? ⟨B5, 2, none⟩ = some (.int .i64 xd) ∧ w'.cell? ⟨B5, 3, none⟩ = some (.int .i64 xa) ∧ w'.cell? ⟨B5, 4, none⟩ = some (.int .i64 xb) ∧ w'.cell? ⟨B5, 5, none⟩ = some (.int .i64 xc) ∧ w'.cell? ⟨B5, 6, none⟩ = some (.string xs))) (by kernel_rfl) ?_ (fun hHeld => ?_)
              · exact ⟨⟨y0, y1, y2, y3, y4, y5, y6⟩, ⟨q0, q1, q2, q3, q4, q5, q6⟩⟩
              refine hT (i := 0) (v := ?_) rfl (by kernel_rfl) (fun _ _ _ h => h) (by rfl) ?_ hHeld ?_
              rotate_left
              · (intro w_ hw_; (try dsimp only at hw_); go_simp; try with_reducible rfl)
              simp only [Act.put, List.setIfInBounds_toArray, List.set_cons_zero, List.set_cons_succ, List.getElem_toArray, List.getElem_cons_zero]
              refine hT (i := 1) (v := ?_) rfl (by kernel_rfl) (fun _ _ _ h => h) (by rfl) ?_ hHeld ?_
              rotate_left
              · (intro w_ hw_; (try dsimp only at hw_); go_simp; try with_reducible rfl)
              simp only [Act.put, List.setIfInBounds_toArray, List.set_cons_zero, List.set_cons_succ, List.getElem_toArray, List.getElem_cons_zero, List.getElem_cons_succ]
              refine hT (i := 2) (v := ?_) rfl (by kernel_rfl) (fun _ _ _ h => h) (by rfl) ?_ hHeld ?_
              rotate_left
              · (intro w_ hw_; (try dsimp only at hw_); go_simp; try with_reducible rfl)
              simp only [Act.put, List.setIfInBounds_toArray, List.set_cons_zero, List.set_cons_succ, List.getElem_toArray, List.getElem_cons_zero, List.getElem_cons_succ]
              refine hT (i := 3) (v := ?_) rfl (by kernel_rfl) (fun _ _ _ h => h) (by rfl) ?_ hHeld ?_
              rotate_left
              · (intro w_ hw_; (try dsimp only at hw_); go_simp; try with_reducible rfl)
              simp only [Act.put, List.setIfInBounds_toArray, List.set_cons_zero, List.set_cons_succ, List.getElem_toArray, List.getElem_cons_zero, List.getElem_cons_succ]
              refine hT (i := 4) (v := ?_) rfl (by kernel_rfl) (fun _ _ _ h => h) (by rfl) ?_ hHeld ?_
              rotate_left
              · (intro w_ hw_; (try dsimp only at hw_); go_simp; try with_reducible rfl)
              simp only [Act.put, List.setIfInBounds_toArray, List.set_cons_zero, List.set_cons_succ, List.getElem_toArray, List.getElem_cons_zero, List.getElem_cons_succ]
              refine hT (i := 5) (v := ?_) rfl (by kernel_rfl) (fun _ _ _ h => h) (by rfl) ?_ hHeld ?_
              rotate_left
              · (intro w_ hw_; (try dsimp only at hw_); go_simp; try with_reducible rfl)
              simp only [Act.put, List.setIfInBounds_toArray, List.set_cons_zero, List.set_cons_succ, List.getElem_toArray, List.getElem_cons_zero, List.getElem_cons_succ]
              refine hT (i := 6) (v := ?_) rfl (by kernel_rfl) (fun _ _ _ h => h) (by rfl) ?_ hHeld ?_
              rotate_left
              · (intro w_ hw_; (try dsimp only at hw_); go_simp; try with_reducible rfl)
              simp only [Act.put, List.setIfInBounds_toArray, List.set_cons_zero, List.set_cons_succ, List.getElem_toArray, List.getElem_cons_zero, List.getElem_cons_succ]
              refine wpAnyH_done (by kernel_rfl) ?_ _
              clear hHeld
              go_wp2_with fail
              exact ⟨⟨k + 1, true, by omega, by go_num, rfl, hide (by rw [← HM.out]; first | done | (simp; done) | (simp; omega)), HBd⟩, by simp [intOf]; omega⟩
            have kc5i : 5 ≤ xk := by omega
            have kc16 : ¬ xk ≤ 16 := by omega
            simp only at y0 y1 y2 y3 y4 y5 y6
            go_upto_region 26 with fail
            refine wp_region_held_drew (S := fun w' => (w'.cell? ⟨e1b, e1o + k * 7, none⟩ = some (.int .i64 xk) ∧ w'.cell? ⟨e1b, e1o + k * 7 + 1, none⟩ = some (.int .i64 xp) ∧ w'.cell? ⟨e1b, e1o + k * 7 + 2, none⟩ = some (.int .i64 xd) ∧ w'.cell? ⟨e1b, e1o + k * 7 + 3, none⟩ = some (.int .i64 xa) ∧ w'.cell? ⟨e1b, e1o + k * 7 + 4, none⟩ = some (.int .i64 xb) ∧ w'.cell? ⟨e1b, e1o + k * 7 + 5, none⟩ = some (.int .i64 xc) ∧ w'.cell? ⟨e1b, e1o + k * 7 + 6, none⟩ = some (.string xs)) ∧ (w'.cell? ⟨B5, 0, none⟩ = some (.int .i64 xk) ∧ w'.cell? ⟨B5, 1, none⟩ = some (.int .i64 xp) ∧ w'.cell? ⟨B5, 2, none⟩ = some (.int .i64 xd) ∧ w'.cell? ⟨B5, 3, none⟩ = some (.int .i64 xa) ∧ w'.cell? ⟨B5, 4, none⟩ = some (.int .i64 xb) ∧ w'.cell? ⟨B5, 5, none⟩ = some (.int .i64 xc) ∧ w'.cell? ⟨B5, 6, none⟩ = some (.string xs))) (by kernel_rfl) ?_ (fun hHeld => ?_)
            · exact ⟨⟨y0, y1, y2, y3, y4, y5, y6⟩, ⟨q0, q1, q2, q3, q4, q5, q6⟩⟩
            refine hT (i := 0) (v := ?_) rfl (by kernel_rfl) (fun _ _ _ h => h) (by rfl) ?_ hHeld ?_
            rotate_left
            · (intro w_ hw_; (try dsimp only at hw_); go_simp; try with_reducible rfl)
            simp only [Act.put, List.setIfInBounds_toArray, List.set_cons_zero, List.set_cons_succ, List.getElem_toArray, List.getElem_cons_zero]
            refine hT (i := 1) (v := ?_) rfl (by kernel_rfl) (fun _ _ _ h => h) (by rfl) ?_ hHeld ?_
            rotate_left
            · (intro w_ hw_; (try dsimp only at hw_); go_simp; try with_reducible rfl)
            simp only [Act.put, List.setIfInBounds_toArray, List.set_cons_zero, List.set_cons_succ, List.getElem_toArray, List.getElem_cons_zero, List.getElem_cons_succ]
            refine hT (i := 2) (v := ?_) rfl (by kernel_rfl) (fun _ _ _ h => h) (by rfl) ?_ hHeld ?_
            rotate_left
            · (intro w_ hw_; (try dsimp only at hw_); go_simp; try with_reducible rfl)
            simp only [Act.put, List.setIfInBounds_toArray, List.set_cons_zero, List.set_cons_succ, List.getElem_toArray, List.getElem_cons_zero, List.getElem_cons_succ]
            refine hT (i := 3) (v := ?_) rfl (by kernel_rfl) (fun _ _ _ h => h) (by rfl) ?_ hHeld ?_
            rotate_left
            · (intro w_ hw_; (try dsimp only at hw_); go_simp; try with_reducible rfl)
            simp only [Act.put, List.setIfInBounds_toArray, List.set_cons_zero, List.set_cons_succ, List.getElem_toArray, List.getElem_cons_zero, List.getElem_cons_succ]
            refine hT (i := 4) (v := ?_) rfl (by kernel_rfl) (fun _ _ _ h => h) (by rfl) ?_ hHeld ?_
            rotate_left
            · (intro w_ hw_; (try dsimp only at hw_); go_simp; try with_reducible rfl)
            simp only [Act.put, List.setIfInBounds_toArray, List.set_cons_zero, List.set_cons_succ, List.getElem_toArray, List.getElem_cons_zero, List.getElem_cons_succ]
            refine hT (i := 5) (v := ?_) rfl (by kernel_rfl) (fun _ _ _ h => h) (by rfl) ?_ hHeld ?_
            rotate_left
            · (intro w_ hw_; (try dsimp only at hw_); go_simp; try with_reducible rfl)
            simp only [Act.put, List.setIfInBounds_toArray, List.set_cons_zero, List.set_cons_succ, List.getElem_toArray, List.getElem_cons_zero, List.getElem_cons_succ]
            refine hT (i := 6) (v := ?_) rfl (by kernel_rfl) (fun _ _ _ h => h) (by rfl) ?_ hHeld ?_
            rotate_left
            · (intro w_ hw_; (try dsimp only at hw_); go_simp; try with_reducible rfl)
            simp only [Act.put, List.setIfInBounds_toArray, List.set_cons_zero, List.set_cons_succ, List.getElem_toArray, List.getElem_cons_zero, List.getElem_cons_succ]
            refine wpAnyH_done (by kernel_rfl) ?_ _
            clear hHeld
            go_wp2_with fail
            exact ⟨⟨k + 1, true, by omega, by go_num, rfl, hide (by rw [← HM.out]; first | done | (simp; done) | (simp; omega)), HBd⟩, by simp [intOf]; omega⟩
        · obtain rfl : k = steps.length := by omega
          go_wp2_with fail
          go_ret
          exact ⟨rfl, Bel.trans H3.out HB.out⟩
    | n + 4, h => exact absurd h (by omega)
end Go.Proofs.Ythjhkbnajclcjaa
