/- caissonlaw23.PurgeAgain: the walk. -/
import Derived.Test.YthjhkbnajclcjaaView23
set_option linter.unusedSimpArgs false
namespace Go.Proofs.Ythjhkbnajclcjaa
open Go.RowKit

theorem stays_gone {c : Config} {t : Nat} {s : PSt} {x : Step} (h : (stays c t s x).1 = false) : (stays c t s x).2 = s ∧ x.kind ≠ 1 ∧ x.kind ≠ 2 := by
  unfold stays at h ⊢
  split at h
  · rename_i hk
    rw [if_pos hk]
    have := (isCall_iff x.kind).1 hk
    exact ⟨rfl, by omega, by omega⟩
  · rename_i hk
    rw [if_neg hk]
    split at h
    · rename_i hk2
      rw [if_pos hk2]
      simp only [Bool.or_eq_true, beq_iff_eq] at hk2
      exact ⟨rfl, by omega, by omega⟩
    · split at h
      · simp at h
      · split at h <;> simp at h
theorem stays_zero (c : Config) (t : Nat) (s : PSt) : stays c t s zeroStep = (true, s) := by
  unfold stays zeroStep
  simp [isCall]
theorem purgeGo_again (c : Config) (t : Nat) : ∀ (xs : List Step) (s : PSt), purgeGo c t s (purgeGo c t s xs) = purgeGo c t s xs := by
  intro xs
  induction xs with
  | nil => intro s; rfl
  | cons x xs ih =>
    intro s
    cases h : (stays c t s x).1
    · obtain ⟨h2, -⟩ := stays_gone h
      simp only [purgeGo, h, h2, stays_zero, ih, if_true, Bool.false_eq_true, if_false]
    · simp only [purgeGo, h, ih, if_true]
theorem purge_again (c : Config) (p : Int) (xs : List Step) : purge c (purge c xs p) p = purge c xs p := by
  unfold purge
  split
  · exact purgeGo_again _ _ _ _
  · rfl
theorem purgeGo_elem (c : Config) (t : Nat) : ∀ (xs : List Step) (s : PSt) (k : Nat) (x y : Step), xs[k]? = some x → (purgeGo c t s xs)[k]? = some y → y = x ∨ (y = zeroStep ∧ x.kind ≠ 1 ∧ x.kind ≠ 2) := by
  intro xs
  induction xs with
  | nil => intro s k x y h; simp at h
  | cons z xs ih =>
    intro s k x y h1 h2
    cases k with
    | zero =>
      simp only [purgeGo, List.getElem?_cons_zero, Option.some.injEq] at h1 h2
      subst h1 h2
      split
      · exact .inl rfl
      · rename_i h
        exact .inr ⟨rfl, (stays_gone (by simpa using h)).2⟩
    | succ k =>
      simp only [purgeGo, List.getElem?_cons_succ] at h1 h2
      exact ih _ k x y h1 h2
theorem purge_elem (c : Config) (p : Int) (xs : List Step) (h : (purge c xs p).length = xs.length) (k : Nat) (hk : k < xs.length) (hk2 : k < (purge c xs p).length) : (purge c xs p)[k] = xs[k] ∨ ((purge c xs p)[k] = zeroStep ∧ xs[k].kind ≠ 1 ∧ xs[k].kind ≠ 2) := by
  by_cases hq : purgeOk c p = true
  · have e : purge c xs p = purgeGo c p.toNat (initP c) xs := by unfold purge; rw [if_pos hq]
    refine purgeGo_elem c p.toNat xs (initP c) k _ _ (List.getElem?_eq_getElem hk) ?_
    rw [← e]
    exact List.getElem?_eq_getElem hk2
  · rw [purge_none c p xs (by simpa using hq)] at hk2
    simp at hk2

set_option maxRecDepth 20000 in
set_option maxHeartbeats 16000000 in
theorem purgeAgain_law (v vs : Value) (c : Config) (steps : List Step) (p : Int) (w : World) (h : CfgV w v c) (hs : kStep.Sl w vs steps) (hF : steps.length * 64 ≤ 140737488351232) :
    Calls Try.prog 9 #[v, vs, .int .i64 p] w fun e w' => e = .returned (.bool true) ∧ Bel w w' := by
  obtain ⟨A1, A2, A3, A4, b1, o1, n1, b2, o2, n2, b3, o3, n3, b4, o4, n4, rfl, HC, HR1, HR2, HR3, HR4, HS1, HS2, HS3, HS4, hA1, hA2, hA3, hA4, hL1, hL2, hL3, hL4⟩ := h.parts4
  obtain ⟨A, b, o, cap, rfl, hl, hc, hA, hR⟩ := hs.open rfl
  have HR := hide (hR.out w hs)
  have HSt := hide hs
  have hpu := hide fun W v xs (hW : Bel w W) (h1 : kStep.Sl W v xs) h2 => purge_p W _ v c xs p (h.bel hW) h1 h2
  have ha := hide awake23_calls
  have hn := hide num_calls
  have p1 := hide fun W (hW : Bel w W) => hpu.out W _ steps hW (HSt.out.bel hW) hF
  obtain ⟨out, HO⟩ : ∃ out, Hid (purge c steps p = out) := ⟨_, rfl⟩
  have p2 := hide fun W v (hW : Bel w W) (h1 : kStep.Sl W v out) hF2 => hpu.out W v out hW h1 hF2
  have HAg : purge c out p = out := by rw [← HO.out]; exact purge_again c p steps
  have HEl := hide fun (h : out.length = steps.length) k (hk : k < steps.length) (hk2 : k < out.length) => show out[k] = steps[k] ∨ (out[k] = zeroStep ∧ steps[k].kind ≠ 1 ∧ steps[k].kind ≠ 2) from by
    have := HO.out
    subst this
    exact purge_elem c p steps h k hk hk2
  simp only [HAg] at p2
  clear h HC HR1 HR2 HR3 HR4 HS1 HS2 HS3 HS4 hA1 hA2 hA3 hA4 hL1 hL2 hL3 hL4 hpu hs hR HAg HSt
  go_enter Try.func9, Try.ntmps9
  go_upto_region 1 with fail
  obtain ⟨W1, hW1⟩ : ∃ W1 : World, W1 = w.alloc (.cells #[.int .i64 c.frames, .slice A1 c.parts.length n1, .slice A2 c.devices.length n2, .int .i64 c.major, .slice A3 c.windows.length n3, .slice A4 c.grants.length n4, .int .i64 c.sectors, .int .i64 c.quota, .int .i64 c.quiet] 27) := ⟨_, rfl⟩
  rw [← hW1]
  have HB1 := hide (show Bel w W1 by rw [hW1]; exact (bel_refl w).alloc _)
  have HX := hide fun W (hW : Bel W1 W) => show W.cell? ⟨w.heap.size, 0, none⟩ = some (.int .i64 c.frames) ∧ W.cell? ⟨w.heap.size, 1, none⟩ = some (.slice A1 c.parts.length n1) ∧ W.cell? ⟨w.heap.size, 2, none⟩ = some (.slice A2 c.devices.length n2) ∧ W.cell? ⟨w.heap.size, 3, none⟩ = some (.int .i64 c.major) ∧ W.cell? ⟨w.heap.size, 4, none⟩ = some (.slice A3 c.windows.length n3) ∧ W.cell? ⟨w.heap.size, 5, none⟩ = some (.slice A4 c.grants.length n4) ∧ W.cell? ⟨w.heap.size, 6, none⟩ = some (.int .i64 c.sectors) ∧ W.cell? ⟨w.heap.size, 7, none⟩ = some (.int .i64 c.quota) ∧ W.cell? ⟨w.heap.size, 8, none⟩ = some (.int .i64 c.quiet) from by
    have hx := (show BoxAt W1 w.heap.size (.int .i64 c.frames) (.slice A1 c.parts.length n1) (.slice A2 c.devices.length n2) (.int .i64 c.major) (.slice A3 c.windows.length n3) (.slice A4 c.grants.length n4) (.int .i64 c.sectors) (.int .i64 c.quota) (.int .i64 c.quiet) by rw [hW1]; exact box_new _ _ _ _ _ _ _ _ _ _ _).bel hW
    exact ⟨hx.k0, hx.k1, hx.k2, hx.k3, hx.k4, hx.k5, hx.k6, hx.k7, hx.k8⟩
  clear hW1
  go_upto_region 3 with ((with_reducible refine (Hid.out ha _).mono ?_); rintro e w0 ⟨rfl, hb0⟩; have m0 := hide hb0; clear hb0)
  clear ha
  have p1 := hide (p1.out w0 (Bel.trans HB1.out m0.out))
  obtain ⟨x0, x1, x2, x3, x4, x5, x6, x7, x8⟩ := HX.out _ m0.out
  obtain ⟨n, hln, hres⟩ : ∃ n, out.length = n ∧ ((purgeErr c p = 2300 ∧ n = 0) ∨ (purgeErr c p = 0 ∧ n = steps.length)) := by
    rw [← HO.out]
    cases hq : purgeOk c p
    · exact ⟨0, by rw [purge_none c p steps hq]; rfl, .inl ⟨purgeErr_none c p hq, rfl⟩⟩
    · exact ⟨_, purge_length c p steps hq, .inr ⟨purgeErr_some c p hq, rfl⟩⟩
  rw [HO.out] at p1
  clear HO
  generalize purgeErr c p = res at hres p1 p2
  go_upto_region 4 with ((with_reducible refine (Hid.out p1).mono ?_); rintro e w3 ⟨v3, base3, rfl, -, hO3, hB3⟩; obtain ⟨E1, e1b, e1o, cap1, rfl, hl3, hc3, hE1, hRo⟩ := hO3.seg.sl.open hln; have HSo := hide hO3.seg.sl; have j3 := hide (Bel.trans m0.out hB3); clear hO3 hB3 p1)
  clear x0 x1 x2 x3 x4 x5 x6 x7 x8
  rcases hres with ⟨rfl, rfl⟩ | ⟨rfl, rfl⟩
  · clear HEl p2
    go_wp2_with ((with_reducible refine (Hid.out hn _ _).mono ?_); rintro e w8 ⟨rfl, rfl⟩)
    go_ret
    exact ⟨rfl, Bel.trans HB1.out j3.out⟩
  have HRo := hide (hRo.out w3 HSo.out)
  have HEl := hide (HEl.out hln)
  have p2 := hide (p2.out w3 _ (Bel.trans HB1.out j3.out) HSo.out (by rw [hln]; exact hF))
  obtain ⟨x0, x1, x2, x3, x4, x5, x6, x7, x8⟩ := HX.out _ j3.out
  go_upto_region 7 with (first | ((with_reducible refine (Hid.out p2).mono ?_); rintro e w5 ⟨v5, base5, rfl, -, hO5, hB5⟩; obtain ⟨E2, e2b, e2o, cap2, rfl, hl5, hc5, -, -⟩ := hO5.seg.sl.open hln; have HO5 := hide hO5; have k5 := hide hB5; clear hO5 hB5 p2) | ((with_reducible refine (Hid.out hn _ _).mono ?_); rintro e w8 ⟨rfl, rfl⟩))
  clear x0 x1 x2 x3 x4 x5 x6 x7 x8 HX hRo
  have hss := hide (same_Steps w5 _ _ out (HSo.out.bel k5.out) HO5.out.seg.sl)
  clear HO5
  go_wp2_with (first | ((with_reducible refine (Hid.out hn _ _).mono ?_); rintro e w8 ⟨rfl, rfl⟩) | ((with_reducible refine (Hid.out hss).mono ?_); rintro e w9 ⟨rfl, hi9⟩; have k9 := hide (Bel.trans k5.out hi9); clear hi9))
  clear hn hss k5
  have hok := hide hln
  have H3 := hide (Bel.trans HB1.out j3.out)
  have HR := hide (HR.out.bel H3.out)
  go_loopw [11] (fun t W => ∃ k : Nat, k ≤ steps.length ∧ t = .int .i64 k ∧ Hid (Bel w3 W)) (fun t _ => steps.length - (intOf t).toNat)
  case atStart => exact ⟨0, Nat.zero_le _, rfl, k9⟩
  case round =>
    obtain ⟨k, hk, rfl, HB⟩ := hrel
    by_cases hlt : k < steps.length
    · have hlo : k < out.length := by rw [hok.out]; exact hlt
      obtain ⟨c0, c1, c2, c3, c4, c5, c6, hK, y0, y1, y2, y3, y4, y5, y6⟩ := (HRo.out.bel HB.out).get7 rfl hlo
      obtain ⟨d0, d1, d2, d3, d4, d5, d6, hK', z0, z1, z2, z3, z4, z5, z6⟩ := (HR.out.bel HB.out).get7 rfl hlt
      obtain ⟨rfl, rfl, rfl, rfl, rfl, rfl, rfl⟩ := kStep_vals hK
      obtain ⟨rfl, rfl, rfl, rfl, rfl, rfl, rfl⟩ := kStep_vals hK'
      clear hK hK'
      have hel := HEl.out k hlt hlo
      generalize out[k] = y at hel y0 y1 y2 y3 y4 y5 y6
      generalize steps[k] = x at hel z0 z1 z2 z3 z4 z5 z6
      obtain ⟨xk, xp, xd, xa, xb, xc, xs⟩ := x
      obtain rfl := hA.out (by omega)
      obtain rfl := hE1.out (by omega)
      have HBd := hide HB.out.drew
      have j0 : (0 : Int) ≤ (k : Int) := by omega
      have j1 : (k : Int) < (steps.length : Int) := by omega
      simp only at z0 z1 z2 z3 z4 z5 z6
      clear hA hE1 hlt hlo hF
      by_cases heq : y = ⟨xk, xp, xd, xa, xb, xc, xs⟩
      · subst heq
        clear hel
        simp only at y0 y1 y2 y3 y4 y5 y6
        obtain ⟨still, hstill⟩ : ∃ still : Bool, still = (xk == 1 || xk == 2) := ⟨_, rfl⟩
        clear hstill still
        by_cases h1 : xk = 1
        · subst h1
          go_upto_region 13 with fail
          refine wp_region_held_drew (S := fun w' => (w'.cell? ⟨e1b, e1o + k * 7, none⟩ = some (.int .i64 1) ∧ w'.cell? ⟨e1b, e1o + k * 7 + 1, none⟩ = some (.int .i64 xp) ∧ w'.cell? ⟨e1b, e1o + k * 7 + 2, none⟩ = some (.int .i64 xd) ∧ w'.cell? ⟨e1b, e1o + k * 7 + 3, none⟩ = some (.int .i64 xa) ∧ w'.cell? ⟨e1b, e1o + k * 7 + 4, none⟩ = some (.int .i64 xb) ∧ w'.cell? ⟨e1b, e1o + k * 7 + 5, none⟩ = some (.int .i64 xc) ∧ w'.cell? ⟨e1b, e1o + k * 7 + 6, none⟩ = some (.string xs)) ∧ (w'.cell? ⟨b, o + k * 7, none⟩ = some (.int .i64 1) ∧ w'.cell? ⟨b, o + k * 7 + 1, none⟩ = some (.int .i64 xp) ∧ w'.cell? ⟨b, o + k * 7 + 2, none⟩ = some (.int .i64 xd) ∧ w'.cell? ⟨b, o + k * 7 + 3, none⟩ = some (.int .i64 xa) ∧ w'.cell? ⟨b, o + k * 7 + 4, none⟩ = some (.int .i64 xb) ∧ w'.cell? ⟨b, o + k * 7 + 5, none⟩ = some (.int .i64 xc) ∧ w'.cell? ⟨b, o + k * 7 + 6, none⟩ = some (.string xs))) (by kernel_rfl) ?_ (fun hHeld => ?_)
          · exact ⟨⟨y0, y1, y2, y3, y4, y5, y6⟩, ⟨z0, z1, z2, z3, z4, z5, z6⟩⟩
          refine hT (i := 0) (v := ?_) rfl (by kernel_rfl) (fun _ _ _ h => h) (by rfl) ?_ hHeld ?_
          rotate_left
          · (intro w_ hw_; (try dsimp only at hw_); go_simp; try with_reducible rfl)
          simp only [Act.put, List.setIfInBounds_toArray, List.set_cons_zero, List.set_cons_succ, List.getElem_toArray, List.getElem_cons_zero]
          refine hT (i := 1) (v := ?_) rfl (by kernel_rfl) (fun _ _ _ h => h) (by rfl) ?_ hHeld ?_
          rotate_left
          · (intro w_ hw_; (try dsimp only at hw_); go_simp; try with_reducible rfl)
          simp only [Act.put, List.setIfInBounds_toArray, List.set_cons_zero, List.set_cons_succ, List.getElem_toArray, List.getElem_cons_zero, List.getElem_cons_succ]
          refine hT (i := 2) (v := ?_) rfl (by kernel_rfl) (fun _ _ _ h => h) (by rfl) ?_ hHeld ?_
          rotate_left
          · (intro w_ hw_; (try dsimp only at hw_); go_simp; try with_reducible rfl)
          simp only [Act.put, List.setIfInBounds_toArray, List.set_cons_zero, List.set_cons_succ, List.getElem_toArray, List.getElem_cons_zero, List.getElem_cons_succ]
          refine hT (i := 3) (v := ?_) rfl (by kernel_rfl) (fun _ _ _ h => h) (by rfl) ?_ hHeld ?_
          rotate_left
          · (intro w_ hw_; (try dsimp only at hw_); go_simp; try with_reducible rfl)
          simp only [Act.put, List.setIfInBounds_toArray, List.set_cons_zero, List.set_cons_succ, List.getElem_toArray, List.getElem_cons_zero, List.getElem_cons_succ]
          refine hT (i := 4) (v := ?_) rfl (by kernel_rfl) (fun _ _ _ h => h) (by rfl) ?_ hHeld ?_
          rotate_left
          · (intro w_ hw_; (try dsimp only at hw_); go_simp; try with_reducible rfl)
          simp only [Act.put, List.setIfInBounds_toArray, List.set_cons_zero, List.set_cons_succ, List.getElem_toArray, List.getElem_cons_zero, List.getElem_cons_succ]
          refine hT (i := 5) (v := ?_) rfl (by kernel_rfl) (fun _ _ _ h => h) (by rfl) ?_ hHeld ?_
          rotate_left
          · (intro w_ hw_; (try dsimp only at hw_); go_simp; try with_reducible rfl)
          simp only [Act.put, List.setIfInBounds_toArray, List.set_cons_zero, List.set_cons_succ, List.getElem_toArray, List.getElem_cons_zero, List.getElem_cons_succ]
          refine hT (i := 6) (v := ?_) rfl (by kernel_rfl) (fun _ _ _ h => h) (by rfl) ?_ hHeld ?_
          rotate_left
          · (intro w_ hw_; (try dsimp only at hw_); go_simp; try with_reducible rfl)
          simp only [Act.put, List.setIfInBounds_toArray, List.set_cons_zero, List.set_cons_succ, List.getElem_toArray, List.getElem_cons_zero, List.getElem_cons_succ]
          refine hT (i := 7) (v := ?_) rfl (by kernel_rfl) (fun _ _ _ h => h) (by rfl) ?_ hHeld ?_
          rotate_left
          · (intro w_ hw_; (try dsimp only at hw_); go_simp; try with_reducible rfl)
          simp only [Act.put, List.setIfInBounds_toArray, List.set_cons_zero, List.set_cons_succ, List.getElem_toArray, List.getElem_cons_zero, List.getElem_cons_succ]
          refine hT (i := 8) (v := ?_) rfl (by kernel_rfl) (fun _ _ _ h => h) (by rfl) ?_ hHeld ?_
          rotate_left
          · (intro w_ hw_; (try dsimp only at hw_); go_simp; try with_reducible rfl)
          simp only [Act.put, List.setIfInBounds_toArray, List.set_cons_zero, List.set_cons_succ, List.getElem_toArray, List.getElem_cons_zero, List.getElem_cons_succ]
          refine hT (i := 9) (v := ?_) rfl (by kernel_rfl) (fun _ _ _ h => h) (by rfl) ?_ hHeld ?_
          rotate_left
          · (intro w_ hw_; (try dsimp only at hw_); go_simp; try with_reducible rfl)
          simp only [Act.put, List.setIfInBounds_toArray, List.set_cons_zero, List.set_cons_succ, List.getElem_toArray, List.getElem_cons_zero, List.getElem_cons_succ]
          refine hN (i := 10) rfl (by kernel_rfl) (fun _ _ _ h => h) (by rfl) hHeld ?_
          simp only [Act.put, List.setIfInBounds_toArray, List.set_cons_zero, List.set_cons_succ, List.getElem_toArray, List.getElem_cons_zero, List.getElem_cons_succ]
          refine hN (i := 11) rfl (by kernel_rfl) (fun _ _ _ h => h) (by rfl) hHeld ?_
          simp only [Act.put, List.setIfInBounds_toArray, List.set_cons_zero, List.set_cons_succ, List.getElem_toArray, List.getElem_cons_zero, List.getElem_cons_succ]
          refine hN (i := 12) rfl (by kernel_rfl) (fun _ _ _ h => h) (by rfl) hHeld ?_
          simp only [Act.put, List.setIfInBounds_toArray, List.set_cons_zero, List.set_cons_succ, List.getElem_toArray, List.getElem_cons_zero, List.getElem_cons_succ]
          refine hN (i := 13) rfl (by kernel_rfl) (fun _ _ _ h => h) (by rfl) hHeld ?_
          simp only [Act.put, List.setIfInBounds_toArray, List.set_cons_zero, List.set_cons_succ, List.getElem_toArray, List.getElem_cons_zero, List.getElem_cons_succ]
          refine hN (i := 14) rfl (by kernel_rfl) (fun _ _ _ h => h) (by rfl) hHeld ?_
          simp only [Act.put, List.setIfInBounds_toArray, List.set_cons_zero, List.set_cons_succ, List.getElem_toArray, List.getElem_cons_zero, List.getElem_cons_succ]
          refine hN (i := 15) rfl (by kernel_rfl) (fun _ _ _ h => h) (by rfl) hHeld ?_
          simp only [Act.put, List.setIfInBounds_toArray, List.set_cons_zero, List.set_cons_succ, List.getElem_toArray, List.getElem_cons_zero, List.getElem_cons_succ]
          refine hN (i := 16) rfl (by kernel_rfl) (fun _ _ _ h => h) (by rfl) hHeld ?_
          simp only [Act.put, List.setIfInBounds_toArray, List.set_cons_zero, List.set_cons_succ, List.getElem_toArray, List.getElem_cons_zero, List.getElem_cons_succ]
          refine hN (i := 17) rfl (by kernel_rfl) (fun _ _ _ h => h) (by rfl) hHeld ?_
          simp only [Act.put, List.setIfInBounds_toArray, List.set_cons_zero, List.set_cons_succ, List.getElem_toArray, List.getElem_cons_zero, List.getElem_cons_succ]
          refine hN (i := 18) rfl (by kernel_rfl) (fun _ _ _ h => h) (by rfl) hHeld ?_
          simp only [Act.put, List.setIfInBounds_toArray, List.set_cons_zero, List.set_cons_succ, List.getElem_toArray, List.getElem_cons_zero, List.getElem_cons_succ]
          refine hT (i := 19) (v := ?_) rfl (by kernel_rfl) (fun _ _ _ h => h) (by rfl) ?_ hHeld ?_
          rotate_left
          · (intro w_ hw_; (try dsimp only at hw_); go_simp; try with_reducible rfl)
          simp only [Act.put, List.setIfInBounds_toArray, List.set_cons_zero, List.set_cons_succ, List.getElem_toArray, List.getElem_cons_zero, List.getElem_cons_succ]
          refine wpAnyH_done (by kernel_rfl) ?_ _
          clear hHeld
          go_wp2_with fail
          exact ⟨⟨k + 1, by omega, by go_num, HBd⟩, by simp [intOf]; omega⟩
        by_cases h2 : xk = 2
        · subst h2
          go_upto_region 13 with fail
          refine wp_region_held_drew (S := fun w' => (w'.cell? ⟨e1b, e1o + k * 7, none⟩ = some (.int .i64 2) ∧ w'.cell? ⟨e1b, e1o + k * 7 + 1, none⟩ = some (.int .i64 xp) ∧ w'.cell? ⟨e1b, e1o + k * 7 + 2, none⟩ = some (.int .i64 xd) ∧ w'.cell? ⟨e1b, e1o + k * 7 + 3, none⟩ = some (.int .i64 xa) ∧ w'.cell? ⟨e1b, e1o + k * 7 + 4, none⟩ = some (.int .i64 xb) ∧ w'.cell? ⟨e1b, e1o + k * 7 + 5, none⟩ = some (.int .i64 xc) ∧ w'.cell? ⟨e1b, e1o + k * 7 + 6, none⟩ = some (.string xs)) ∧ (w'.cell? ⟨b, o + k * 7, none⟩ = some (.int .i64 2) ∧ w'.cell? ⟨b, o + k * 7 + 1, none⟩ = some (.int .i64 xp) ∧ w'.cell? ⟨b, o + k * 7 + 2, none⟩ = some (.int .i64 xd) ∧ w'.cell? ⟨b, o + k * 7 + 3, none⟩ = some (.int .i64 xa) ∧ w'.cell? ⟨b, o + k * 7 + 4, none⟩ = some (.int .i64 xb) ∧ w'.cell? ⟨b, o + k * 7 + 5, none⟩ = some (.int .i64 xc) ∧ w'.cell? ⟨b, o + k * 7 + 6, none⟩ = some (.string xs))) (by kernel_rfl) ?_ (fun hHeld => ?_)
          · exact ⟨⟨y0, y1, y2, y3, y4, y5, y6⟩, ⟨z0, z1, z2, z3, z4, z5, z6⟩⟩
          refine hT (i := 0) (v := ?_) rfl (by kernel_rfl) (fun _ _ _ h => h) (by rfl) ?_ hHeld ?_
          rotate_left
          · (intro w_ hw_; (try dsimp only at hw_); go_simp; try with_reducible rfl)
          simp only [Act.put, List.setIfInBounds_toArray, List.set_cons_zero, List.set_cons_succ, List.getElem_toArray, List.getElem_cons_zero]
          refine hT (i := 1) (v := ?_) rfl (by kernel_rfl) (fun _ _ _ h => h) (by rfl) ?_ hHeld ?_
          rotate_left
          · (intro w_ hw_; (try dsimp only at hw_); go_simp; try with_reducible rfl)
          simp only [Act.put, List.setIfInBounds_toArray, List.set_cons_zero, List.set_cons_succ, List.getElem_toArray, List.getElem_cons_zero, List.getElem_cons_succ]
          refine hT (i := 2) (v := ?_) rfl (by kernel_rfl) (fun _ _ _ h => h) (by rfl) ?_ hHeld ?_
          rotate_left
          · (intro w_ hw_; (try dsimp only at hw_); go_simp; try with_reducible rfl)
          simp only [Act.put, List.setIfInBounds_toArray, List.set_cons_zero, List.set_cons_succ, List.getElem_toArray, List.getElem_cons_zero, List.getElem_cons_succ]
          refine hT (i := 3) (v := ?_) rfl (by kernel_rfl) (fun _ _ _ h => h) (by rfl) ?_ hHeld ?_
          rotate_left
          · (intro w_ hw_; (try dsimp only at hw_); go_simp; try with_reducible rfl)
          simp only [Act.put, List.setIfInBounds_toArray, List.set_cons_zero, List.set_cons_succ, List.getElem_toArray, List.getElem_cons_zero, List.getElem_cons_succ]
          refine hT (i := 4) (v := ?_) rfl (by kernel_rfl) (fun _ _ _ h => h) (by rfl) ?_ hHeld ?_
          rotate_left
          · (intro w_ hw_; (try dsimp only at hw_); go_simp; try with_reducible rfl)
          simp only [Act.put, List.setIfInBounds_toArray, List.set_cons_zero, List.set_cons_succ, List.getElem_toArray, List.getElem_cons_zero, List.getElem_cons_succ]
          refine hT (i := 5) (v := ?_) rfl (by kernel_rfl) (fun _ _ _ h => h) (by rfl) ?_ hHeld ?_
          rotate_left
          · (intro w_ hw_; (try dsimp only at hw_); go_simp; try with_reducible rfl)
          simp only [Act.put, List.setIfInBounds_toArray, List.set_cons_zero, List.set_cons_succ, List.getElem_toArray, List.getElem_cons_zero, List.getElem_cons_succ]
          refine hT (i := 6) (v := ?_) rfl (by kernel_rfl) (fun _ _ _ h => h) (by rfl) ?_ hHeld ?_
          rotate_left
          · (intro w_ hw_; (try dsimp only at hw_); go_simp; try with_reducible rfl)
          simp only [Act.put, List.setIfInBounds_toArray, List.set_cons_zero, List.set_cons_succ, List.getElem_toArray, List.getElem_cons_zero, List.getElem_cons_succ]
          refine hT (i := 7) (v := ?_) rfl (by kernel_rfl) (fun _ _ _ h => h) (by rfl) ?_ hHeld ?_
          rotate_left
          · (intro w_ hw_; (try dsimp only at hw_); go_simp; try with_reducible rfl)
          simp only [Act.put, List.setIfInBounds_toArray, List.set_cons_zero, List.set_cons_succ, List.getElem_toArray, List.getElem_cons_zero, List.getElem_cons_succ]
          refine hT (i := 8) (v := ?_) rfl (by kernel_rfl) (fun _ _ _ h => h) (by rfl) ?_ hHeld ?_
          rotate_left
          · (intro w_ hw_; (try dsimp only at hw_); go_simp; try with_reducible rfl)
          simp only [Act.put, List.setIfInBounds_toArray, List.set_cons_zero, List.set_cons_succ, List.getElem_toArray, List.getElem_cons_zero, List.getElem_cons_succ]
          refine hT (i := 9) (v := ?_) rfl (by kernel_rfl) (fun _ _ _ h => h) (by rfl) ?_ hHeld ?_
          rotate_left
          · (intro w_ hw_; (try dsimp only at hw_); go_simp; try with_reducible rfl)
          simp only [Act.put, List.setIfInBounds_toArray, List.set_cons_zero, List.set_cons_succ, List.getElem_toArray, List.getElem_cons_zero, List.getElem_cons_succ]
          refine hN (i := 10) rfl (by kernel_rfl) (fun _ _ _ h => h) (by rfl) hHeld ?_
          simp only [Act.put, List.setIfInBounds_toArray, List.set_cons_zero, List.set_cons_succ, List.getElem_toArray, List.getElem_cons_zero, List.getElem_cons_succ]
          refine hN (i := 11) rfl (by kernel_rfl) (fun _ _ _ h => h) (by rfl) hHeld ?_
          simp only [Act.put, List.setIfInBounds_toArray, List.set_cons_zero, List.set_cons_succ, List.getElem_toArray, List.getElem_cons_zero, List.getElem_cons_succ]
          refine hN (i := 12) rfl (by kernel_rfl) (fun _ _ _ h => h) (by rfl) hHeld ?_
          simp only [Act.put, List.setIfInBounds_toArray, List.set_cons_zero, List.set_cons_succ, List.getElem_toArray, List.getElem_cons_zero, List.getElem_cons_succ]
          refine hN (i := 13) rfl (by kernel_rfl) (fun _ _ _ h => h) (by rfl) hHeld ?_
          simp only [Act.put, List.setIfInBounds_toArray, List.set_cons_zero, List.set_cons_succ, List.getElem_toArray, List.getElem_cons_zero, List.getElem_cons_succ]
          refine hN (i := 14) rfl (by kernel_rfl) (fun _ _ _ h => h) (by rfl) hHeld ?_
          simp only [Act.put, List.setIfInBounds_toArray, List.set_cons_zero, List.set_cons_succ, List.getElem_toArray, List.getElem_cons_zero, List.getElem_cons_succ]
          refine hN (i := 15) rfl (by kernel_rfl) (fun _ _ _ h => h) (by rfl) hHeld ?_
          simp only [Act.put, List.setIfInBounds_toArray, List.set_cons_zero, List.set_cons_succ, List.getElem_toArray, List.getElem_cons_zero, List.getElem_cons_succ]
          refine hN (i := 16) rfl (by kernel_rfl) (fun _ _ _ h => h) (by rfl) hHeld ?_
          simp only [Act.put, List.setIfInBounds_toArray, List.set_cons_zero, List.set_cons_succ, List.getElem_toArray, List.getElem_cons_zero, List.getElem_cons_succ]
          refine hN (i := 17) rfl (by kernel_rfl) (fun _ _ _ h => h) (by rfl) hHeld ?_
          simp only [Act.put, List.setIfInBounds_toArray, List.set_cons_zero, List.set_cons_succ, List.getElem_toArray, List.getElem_cons_zero, List.getElem_cons_succ]
          refine hN (i := 18) rfl (by kernel_rfl) (fun _ _ _ h => h) (by rfl) hHeld ?_
          simp only [Act.put, List.setIfInBounds_toArray, List.set_cons_zero, List.set_cons_succ, List.getElem_toArray, List.getElem_cons_zero, List.getElem_cons_succ]
          refine hT (i := 19) (v := ?_) rfl (by kernel_rfl) (fun _ _ _ h => h) (by rfl) ?_ hHeld ?_
          rotate_left
          · (intro w_ hw_; (try dsimp only at hw_); go_simp; try with_reducible rfl)
          simp only [Act.put, List.setIfInBounds_toArray, List.set_cons_zero, List.set_cons_succ, List.getElem_toArray, List.getElem_cons_zero, List.getElem_cons_succ]
          refine wpAnyH_done (by kernel_rfl) ?_ _
          clear hHeld
          go_wp2_with fail
          exact ⟨⟨k + 1, by omega, by go_num, HBd⟩, by simp [intOf]; omega⟩
        have h1i : ¬ (xk = 1) := h1
        · skip
          go_upto_region 13 with fail
          refine wp_region_held_drew (S := fun w' => (w'.cell? ⟨e1b, e1o + k * 7, none⟩ = some (.int .i64 xk) ∧ w'.cell? ⟨e1b, e1o + k * 7 + 1, none⟩ = some (.int .i64 xp) ∧ w'.cell? ⟨e1b, e1o + k * 7 + 2, none⟩ = some (.int .i64 xd) ∧ w'.cell? ⟨e1b, e1o + k * 7 + 3, none⟩ = some (.int .i64 xa) ∧ w'.cell? ⟨e1b, e1o + k * 7 + 4, none⟩ = some (.int .i64 xb) ∧ w'.cell? ⟨e1b, e1o + k * 7 + 5, none⟩ = some (.int .i64 xc) ∧ w'.cell? ⟨e1b, e1o + k * 7 + 6, none⟩ = some (.string xs)) ∧ (w'.cell? ⟨b, o + k * 7, none⟩ = some (.int .i64 xk) ∧ w'.cell? ⟨b, o + k * 7 + 1, none⟩ = some (.int .i64 xp) ∧ w'.cell? ⟨b, o + k * 7 + 2, none⟩ = some (.int .i64 xd) ∧ w'.cell? ⟨b, o + k * 7 + 3, none⟩ = some (.int .i64 xa) ∧ w'.cell? ⟨b, o + k * 7 + 4, none⟩ = some (.int .i64 xb) ∧ w'.cell? ⟨b, o + k * 7 + 5, none⟩ = some (.int .i64 xc) ∧ w'.cell? ⟨b, o + k * 7 + 6, none⟩ = some (.string xs))) (by kernel_rfl) ?_ (fun hHeld => ?_)
          · exact ⟨⟨y0, y1, y2, y3, y4, y5, y6⟩, ⟨z0, z1, z2, z3, z4, z5, z6⟩⟩
          refine hT (i := 0) (v := ?_) rfl (by kernel_rfl) (fun _ _ _ h => h) (by rfl) ?_ hHeld ?_
          rotate_left
          · (intro w_ hw_; (try dsimp only at hw_); go_simp; try with_reducible rfl)
          simp only [Act.put, List.setIfInBounds_toArray, List.set_cons_zero, List.set_cons_succ, List.getElem_toArray, List.getElem_cons_zero]
          refine hT (i := 1) (v := ?_) rfl (by kernel_rfl) (fun _ _ _ h => h) (by rfl) ?_ hHeld ?_
          rotate_left
          · (intro w_ hw_; (try dsimp only at hw_); go_simp; try with_reducible rfl)
          simp only [Act.put, List.setIfInBounds_toArray, List.set_cons_zero, List.set_cons_succ, List.getElem_toArray, List.getElem_cons_zero, List.getElem_cons_succ]
          refine hT (i := 2) (v := ?_) rfl (by kernel_rfl) (fun _ _ _ h => h) (by rfl) ?_ hHeld ?_
          rotate_left
          · (intro w_ hw_; (try dsimp only at hw_); go_simp; try with_reducible rfl)
          simp only [Act.put, List.setIfInBounds_toArray, List.set_cons_zero, List.set_cons_succ, List.getElem_toArray, List.getElem_cons_zero, List.getElem_cons_succ]
          refine hT (i := 3) (v := ?_) rfl (by kernel_rfl) (fun _ _ _ h => h) (by rfl) ?_ hHeld ?_
          rotate_left
          · (intro w_ hw_; (try dsimp only at hw_); go_simp; try with_reducible rfl)
          simp only [Act.put, List.setIfInBounds_toArray, List.set_cons_zero, List.set_cons_succ, List.getElem_toArray, List.getElem_cons_zero, List.getElem_cons_succ]
          refine hT (i := 4) (v := ?_) rfl (by kernel_rfl) (fun _ _ _ h => h) (by rfl) ?_ hHeld ?_
          rotate_left
          · (intro w_ hw_; (try dsimp only at hw_); go_simp; try with_reducible rfl)
          simp only [Act.put, List.setIfInBounds_toArray, List.set_cons_zero, List.set_cons_succ, List.getElem_toArray, List.getElem_cons_zero, List.getElem_cons_succ]
          refine hT (i := 5) (v := ?_) rfl (by kernel_rfl) (fun _ _ _ h => h) (by rfl) ?_ hHeld ?_
          rotate_left
          · (intro w_ hw_; (try dsimp only at hw_); go_simp; try with_reducible rfl)
          simp only [Act.put, List.setIfInBounds_toArray, List.set_cons_zero, List.set_cons_succ, List.getElem_toArray, List.getElem_cons_zero, List.getElem_cons_succ]
          refine hT (i := 6) (v := ?_) rfl (by kernel_rfl) (fun _ _ _ h => h) (by rfl) ?_ hHeld ?_
          rotate_left
          · (intro w_ hw_; (try dsimp only at hw_); go_simp; try with_reducible rfl)
          simp only [Act.put, List.setIfInBounds_toArray, List.set_cons_zero, List.set_cons_succ, List.getElem_toArray, List.getElem_cons_zero, List.getElem_cons_succ]
          refine hT (i := 7) (v := ?_) rfl (by kernel_rfl) (fun _ _ _ h => h) (by rfl) ?_ hHeld ?_
          rotate_left
          · (intro w_ hw_; (try dsimp only at hw_); go_simp; try with_reducible rfl)
          simp only [Act.put, List.setIfInBounds_toArray, List.set_cons_zero, List.set_cons_succ, List.getElem_toArray, List.getElem_cons_zero, List.getElem_cons_succ]
          refine hT (i := 8) (v := ?_) rfl (by kernel_rfl) (fun _ _ _ h => h) (by rfl) ?_ hHeld ?_
          rotate_left
          · (intro w_ hw_; (try dsimp only at hw_); go_simp; try with_reducible rfl)
          simp only [Act.put, List.setIfInBounds_toArray, List.set_cons_zero, List.set_cons_succ, List.getElem_toArray, List.getElem_cons_zero, List.getElem_cons_succ]
          refine hT (i := 9) (v := ?_) rfl (by kernel_rfl) (fun _ _ _ h => h) (by rfl) ?_ hHeld ?_
          rotate_left
          · (intro w_ hw_; (try dsimp only at hw_); go_simp; try with_reducible rfl)
          simp only [Act.put, List.setIfInBounds_toArray, List.set_cons_zero, List.set_cons_succ, List.getElem_toArray, List.getElem_cons_zero, List.getElem_cons_succ]
          refine hN (i := 10) rfl (by kernel_rfl) (fun _ _ _ h => h) (by rfl) hHeld ?_
          simp only [Act.put, List.setIfInBounds_toArray, List.set_cons_zero, List.set_cons_succ, List.getElem_toArray, List.getElem_cons_zero, List.getElem_cons_succ]
          refine hN (i := 11) rfl (by kernel_rfl) (fun _ _ _ h => h) (by rfl) hHeld ?_
          simp only [Act.put, List.setIfInBounds_toArray, List.set_cons_zero, List.set_cons_succ, List.getElem_toArray, List.getElem_cons_zero, List.getElem_cons_succ]
          refine hN (i := 12) rfl (by kernel_rfl) (fun _ _ _ h => h) (by rfl) hHeld ?_
          simp only [Act.put, List.setIfInBounds_toArray, List.set_cons_zero, List.set_cons_succ, List.getElem_toArray, List.getElem_cons_zero, List.getElem_cons_succ]
          refine hN (i := 13) rfl (by kernel_rfl) (fun _ _ _ h => h) (by rfl) hHeld ?_
          simp only [Act.put, List.setIfInBounds_toArray, List.set_cons_zero, List.set_cons_succ, List.getElem_toArray, List.getElem_cons_zero, List.getElem_cons_succ]
          refine hN (i := 14) rfl (by kernel_rfl) (fun _ _ _ h => h) (by rfl) hHeld ?_
          simp only [Act.put, List.setIfInBounds_toArray, List.set_cons_zero, List.set_cons_succ, List.getElem_toArray, List.getElem_cons_zero, List.getElem_cons_succ]
          refine hN (i := 15) rfl (by kernel_rfl) (fun _ _ _ h => h) (by rfl) hHeld ?_
          simp only [Act.put, List.setIfInBounds_toArray, List.set_cons_zero, List.set_cons_succ, List.getElem_toArray, List.getElem_cons_zero, List.getElem_cons_succ]
          refine hN (i := 16) rfl (by kernel_rfl) (fun _ _ _ h => h) (by rfl) hHeld ?_
          simp only [Act.put, List.setIfInBounds_toArray, List.set_cons_zero, List.set_cons_succ, List.getElem_toArray, List.getElem_cons_zero, List.getElem_cons_succ]
          refine hN (i := 17) rfl (by kernel_rfl) (fun _ _ _ h => h) (by rfl) hHeld ?_
          simp only [Act.put, List.setIfInBounds_toArray, List.set_cons_zero, List.set_cons_succ, List.getElem_toArray, List.getElem_cons_zero, List.getElem_cons_succ]
          refine hN (i := 18) rfl (by kernel_rfl) (fun _ _ _ h => h) (by rfl) hHeld ?_
          simp only [Act.put, List.setIfInBounds_toArray, List.set_cons_zero, List.set_cons_succ, List.getElem_toArray, List.getElem_cons_zero, List.getElem_cons_succ]
          refine hT (i := 19) (v := ?_) rfl (by kernel_rfl) (fun _ _ _ h => h) (by rfl) ?_ hHeld ?_
          rotate_left
          · (intro w_ hw_; (try dsimp only at hw_); go_simp; try with_reducible rfl)
          simp only [Act.put, List.setIfInBounds_toArray, List.set_cons_zero, List.set_cons_succ, List.getElem_toArray, List.getElem_cons_zero, List.getElem_cons_succ]
          refine wpAnyH_done (by kernel_rfl) ?_ _
          clear hHeld
          go_wp2_with fail
          exact ⟨⟨k + 1, by omega, by go_num, HBd⟩, by simp [intOf]; omega⟩
      · obtain ⟨rfl, h1, h2⟩ := hel.resolve_left heq
        simp only at h1 h2
        unfold zeroStep at heq y0 y1 y2 y3 y4 y5 y6
        simp only at y0 y1 y2 y3 y4 y5 y6
        have hne : ∀ (α : Type) (a r : α), (if 0 = xk then if 0 = xp then if 0 = xd then if 0 = xa then if 0 = xb then if 0 = xc then if xs.toList = [] then a else r else r else r else r else r else r else r) = r := fun α a r => by
          repeat' split
          · exfalso
            apply heq
            have hxs : xs = ⟨#[]⟩ := by
              apply ByteArray.ext
              apply Array.toList_inj.1
              simpa [ByteArray.toList_eq] using ‹xs.toList = []›
            subst hxs
            simp only [Step.mk.injEq]
            exact ⟨‹0 = xk›, ‹0 = xp›, ‹0 = xd›, ‹0 = xa›, ‹0 = xb›, ‹0 = xc›, trivial⟩
          all_goals rfl
        have hb1 : (xk == 1) = false := by simpa using h1
        have hb2 : (xk == 2) = false := by simpa using h2
        clear hel heq
        go_upto_region 13 with fail
        refine wp_region_held_drew (S := fun w' => (w'.cell? ⟨e1b, e1o + k * 7, none⟩ = some (.int .i64 0) ∧ w'.cell? ⟨e1b, e1o + k * 7 + 1, none⟩ = some (.int .i64 0) ∧ w'.cell? ⟨e1b, e1o + k * 7 + 2, none⟩ = some (.int .i64 0) ∧ w'.cell? ⟨e1b, e1o + k * 7 + 3, none⟩ = some (.int .i64 0) ∧ w'.cell? ⟨e1b, e1o + k * 7 + 4, none⟩ = some (.int .i64 0) ∧ w'.cell? ⟨e1b, e1o + k * 7 + 5, none⟩ = some (.int .i64 0) ∧ w'.cell? ⟨e1b, e1o + k * 7 + 6, none⟩ = some (.string ⟨#[]⟩)) ∧ (w'.cell? ⟨b, o + k * 7, none⟩ = some (.int .i64 xk) ∧ w'.cell? ⟨b, o + k * 7 + 1, none⟩ = some (.int .i64 xp) ∧ w'.cell? ⟨b, o + k * 7 + 2, none⟩ = some (.int .i64 xd) ∧ w'.cell? ⟨b, o + k * 7 + 3, none⟩ = some (.int .i64 xa) ∧ w'.cell? ⟨b, o + k * 7 + 4, none⟩ = some (.int .i64 xb) ∧ w'.cell? ⟨b, o + k * 7 + 5, none⟩ = some (.int .i64 xc) ∧ w'.cell? ⟨b, o + k * 7 + 6, none⟩ = some (.string xs))) (by kernel_rfl) ?_ (fun hHeld => ?_)
        · exact ⟨⟨y0, y1, y2, y3, y4, y5, y6⟩, ⟨z0, z1, z2, z3, z4, z5, z6⟩⟩
        refine hT (i := 0) (v := ?_) rfl (by kernel_rfl) (fun _ _ _ h => h) (by rfl) ?_ hHeld ?_
        rotate_left
        · (intro w_ hw_; (try dsimp only at hw_); go_simp; try with_reducible rfl)
        simp only [Act.put, List.setIfInBounds_toArray, List.set_cons_zero, List.set_cons_succ, List.getElem_toArray, List.getElem_cons_zero]
        refine hT (i := 1) (v := ?_) rfl (by kernel_rfl) (fun _ _ _ h => h) (by rfl) ?_ hHeld ?_
        rotate_left
        · (intro w_ hw_; (try dsimp only at hw_); go_simp; try with_reducible rfl)
        simp only [Act.put, List.setIfInBounds_toArray, List.set_cons_zero, List.set_cons_succ, List.getElem_toArray, List.getElem_cons_zero, List.getElem_cons_succ]
        refine hT (i := 2) (v := ?_) rfl (by kernel_rfl) (fun _ _ _ h => h) (by rfl) ?_ hHeld ?_
        rotate_left
        · (intro w_ hw_; (try dsimp only at hw_); go_simp; try with_reducible rfl)
        simp only [Act.put, List.setIfInBounds_toArray, List.set_cons_zero, List.set_cons_succ, List.getElem_toArray, List.getElem_cons_zero, List.getElem_cons_succ]
        refine hT (i := 3) (v := ?_) rfl (by kernel_rfl) (fun _ _ _ h => h) (by rfl) ?_ hHeld ?_
        rotate_left
        · (intro w_ hw_; (try dsimp only at hw_); go_simp; try with_reducible rfl)
        simp only [Act.put, List.setIfInBounds_toArray, List.set_cons_zero, List.set_cons_succ, List.getElem_toArray, List.getElem_cons_zero, List.getElem_cons_succ]
        refine hT (i := 4) (v := ?_) rfl (by kernel_rfl) (fun _ _ _ h => h) (by rfl) ?_ hHeld ?_
        rotate_left
        · (intro w_ hw_; (try dsimp only at hw_); go_simp; try with_reducible rfl)
        simp only [Act.put, List.setIfInBounds_toArray, List.set_cons_zero, List.set_cons_succ, List.getElem_toArray, List.getElem_cons_zero, List.getElem_cons_succ]
        refine hT (i := 5) (v := ?_) rfl (by kernel_rfl) (fun _ _ _ h => h) (by rfl) ?_ hHeld ?_
        rotate_left
        · (intro w_ hw_; (try dsimp only at hw_); go_simp; try with_reducible rfl)
        simp only [Act.put, List.setIfInBounds_toArray, List.set_cons_zero, List.set_cons_succ, List.getElem_toArray, List.getElem_cons_zero, List.getElem_cons_succ]
        refine hT (i := 6) (v := ?_) rfl (by kernel_rfl) (fun _ _ _ h => h) (by rfl) ?_ hHeld ?_
        rotate_left
        · (intro w_ hw_; (try dsimp only at hw_); go_simp; try with_reducible rfl)
        simp only [Act.put, List.setIfInBounds_toArray, List.set_cons_zero, List.set_cons_succ, List.getElem_toArray, List.getElem_cons_zero, List.getElem_cons_succ]
        refine hT (i := 7) (v := ?_) rfl (by kernel_rfl) (fun _ _ _ h => h) (by rfl) ?_ hHeld ?_
        rotate_left
        · (intro w_ hw_; (try dsimp only at hw_); go_simp; try with_reducible rfl)
        simp only [Act.put, List.setIfInBounds_toArray, List.set_cons_zero, List.set_cons_succ, List.getElem_toArray, List.getElem_cons_zero, List.getElem_cons_succ]
        refine hT (i := 8) (v := ?_) rfl (by kernel_rfl) (fun _ _ _ h => h) (by rfl) ?_ hHeld ?_
        rotate_left
        · (intro w_ hw_; (try dsimp only at hw_); go_simp; try with_reducible rfl)
        simp only [Act.put, List.setIfInBounds_toArray, List.set_cons_zero, List.set_cons_succ, List.getElem_toArray, List.getElem_cons_zero, List.getElem_cons_succ]
        refine hT (i := 9) (v := ?_) rfl (by kernel_rfl) (fun _ _ _ h => h) (by rfl) ?_ hHeld ?_
        rotate_left
        · (intro w_ hw_; (try dsimp only at hw_); go_simp; try with_reducible rfl)
        simp only [Act.put, List.setIfInBounds_toArray, List.set_cons_zero, List.set_cons_succ, List.getElem_toArray, List.getElem_cons_zero, List.getElem_cons_succ]
        refine hT (i := 10) (v := ?_) rfl (by kernel_rfl) (fun _ _ _ h => h) (by rfl) ?_ hHeld ?_
        rotate_left
        · (intro w_ hw_; (try dsimp only at hw_); go_simp; try with_reducible rfl)
        simp only [Act.put, List.setIfInBounds_toArray, List.set_cons_zero, List.set_cons_succ, List.getElem_toArray, List.getElem_cons_zero, List.getElem_cons_succ]
        refine hT (i := 11) (v := ?_) rfl (by kernel_rfl) (fun _ _ _ h => h) (by rfl) ?_ hHeld ?_
        rotate_left
        · (intro w_ hw_; (try dsimp only at hw_); go_simp; try with_reducible rfl)
        simp only [Act.put, List.setIfInBounds_toArray, List.set_cons_zero, List.set_cons_succ, List.getElem_toArray, List.getElem_cons_zero, List.getElem_cons_succ]
        refine hT (i := 12) (v := ?_) rfl (by kernel_rfl) (fun _ _ _ h => h) (by rfl) ?_ hHeld ?_
        rotate_left
        · (intro w_ hw_; (try dsimp only at hw_); go_simp; try with_reducible rfl)
        simp only [Act.put, List.setIfInBounds_toArray, List.set_cons_zero, List.set_cons_succ, List.getElem_toArray, List.getElem_cons_zero, List.getElem_cons_succ]
        refine hT (i := 13) (v := ?_) rfl (by kernel_rfl) (fun _ _ _ h => h) (by rfl) ?_ hHeld ?_
        rotate_left
        · (intro w_ hw_; (try dsimp only at hw_); go_simp; try with_reducible rfl)
        simp only [Act.put, List.setIfInBounds_toArray, List.set_cons_zero, List.set_cons_succ, List.getElem_toArray, List.getElem_cons_zero, List.getElem_cons_succ]
        refine hT (i := 14) (v := ?_) rfl (by kernel_rfl) (fun _ _ _ h => h) (by rfl) ?_ hHeld ?_
        rotate_left
        · (intro w_ hw_; (try dsimp only at hw_); go_simp; try with_reducible rfl)
        simp only [Act.put, List.setIfInBounds_toArray, List.set_cons_zero, List.set_cons_succ, List.getElem_toArray, List.getElem_cons_zero, List.getElem_cons_succ]
        refine hT (i := 15) (v := ?_) rfl (by kernel_rfl) (fun _ _ _ h => h) (by rfl) ?_ hHeld ?_
        rotate_left
        · (intro w_ hw_; (try dsimp only at hw_); go_simp; try with_reducible rfl)
        simp only [Act.put, List.setIfInBounds_toArray, List.set_cons_zero, List.set_cons_succ, List.getElem_toArray, List.getElem_cons_zero, List.getElem_cons_succ]
        refine hT (i := 16) (v := ?_) rfl (by kernel_rfl) (fun _ _ _ h => h) (by rfl) ?_ hHeld ?_
        rotate_left
        · (intro w_ hw_; (try dsimp only at hw_); go_simp; try with_reducible rfl)
        simp only [Act.put, List.setIfInBounds_toArray, List.set_cons_zero, List.set_cons_succ, List.getElem_toArray, List.getElem_cons_zero, List.getElem_cons_succ]
        refine hT (i := 17) (v := ?_) rfl (by kernel_rfl) (fun _ _ _ h => h) (by rfl) ?_ hHeld ?_
        rotate_left
        · (intro w_ hw_; (try dsimp only at hw_); go_simp; try with_reducible rfl)
        simp only [Act.put, List.setIfInBounds_toArray, List.set_cons_zero, List.set_cons_succ, List.getElem_toArray, List.getElem_cons_zero, List.getElem_cons_succ]
        refine hT (i := 18) (v := ?_) rfl (by kernel_rfl) (fun _ _ _ h => h) (by rfl) ?_ hHeld ?_
        rotate_left
        · (intro w_ hw_; (try dsimp only at hw_); go_simp; try with_reducible rfl)
        simp only [Act.put, List.setIfInBounds_toArray, List.set_cons_zero, List.set_cons_succ, List.getElem_toArray, List.getElem_cons_zero, List.getElem_cons_succ]
        refine hT (i := 19) (v := ?_) rfl (by kernel_rfl) (fun _ _ _ h => h) (by rfl) ?_ hHeld ?_
        rotate_left
        · (intro w_ hw_; (try dsimp only at hw_); go_simp; try with_reducible rfl)
        simp only [Act.put, List.setIfInBounds_toArray, List.set_cons_zero, List.set_cons_succ, List.getElem_toArray, List.getElem_cons_zero, List.getElem_cons_succ]
        refine wpAnyH_done (by kernel_rfl) ?_ _
        clear hHeld
        go_wp2_with fail
        exact ⟨⟨k + 1, by omega, by go_num, HBd⟩, by simp [intOf]; omega⟩
    · obtain rfl : k = steps.length := by omega
      go_wp2_with fail
      go_ret
      exact ⟨rfl, Bel.trans H3.out HB.out⟩
end Go.Proofs.Ythjhkbnajclcjaa
