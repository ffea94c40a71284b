/- caissonlaw21.ConfigApart: the walk. -/
import Derived.Test.YthjhkbnajclcjaaApP
import Derived.Test.YthjhkbnajclcjaaAwake
import Derived.Test.YthjhkbnajclcjaaGrP
import Derived.Test.YthjhkbnajclcjaaDraw
import Derived.Deep.CutBlock
import Derived.Deep.DeepCutAuto
set_option linter.unusedSimpArgs false
namespace Go.Proofs.Ythjhkbnajclcjaa
open Go.RowKit

set_option maxRecDepth 20000 in
set_option maxHeartbeats 40000000 in
theorem apart_law (v : Value) (c : Config) (at_ part : Int) (w : World) (h : CfgV w v c) (hat : I64 at_) (hpart : I64 part) : Calls Try.prog 4 #[v, .int .i64 at_, .int .i64 part] w fun e w' => e = .returned (.bool true) ∧ Bel w w' := by
  obtain ⟨c0, c1, c2, c3, c4, c5, c6, c7, c8, rfl, hk, ⟨n1, a1, b1, rfl⟩, ⟨n2, a2, b2, rfl⟩, ⟨n3, a3, b3, rfl⟩, ⟨n4, a4, b4, rfl⟩, rfl, rfl, rfl, rfl, rfl⟩ := h.open
  have hn1 : n1 = c.parts.length := by
    obtain ⟨vp, vd, vw, vg, hcs, hp, -⟩ := hk
    simp only [List.cons.injEq, and_true] at hcs
    obtain ⟨-, rfl, -⟩ := hcs
    exact hp.len_eq.1
  have hlen : (c.parts.length : Int) ≤ 9223372036854775807 := by
    obtain ⟨vp, vd, vw, vg, hcs, hp, -⟩ := hk
    simp only [List.cons.injEq, and_true] at hcs
    obtain ⟨-, rfl, -⟩ := hcs
    have := hp.len_eq
    omega
  subst hn1
  have hkn := hide (show kConfig.K w (noGr c) [.int .i64 c.frames, .slice a1 c.parts.length b1, .slice a2 n2 b2, .int .i64 c.major, .slice a3 n3 b3, .slice none 0 0, .int .i64 c.sectors, .int .i64 c.quota, .int .i64 c.quiet] by
    obtain ⟨vp, vd, vw, vg, hcs, hp, hd, hw, hg, hr⟩ := hk
    simp only [List.cons.injEq, and_true] at hcs
    obtain ⟨-, rfl, rfl, -, rfl, rfl, -, -, -⟩ := hcs
    exact ⟨_, _, _, _, rfl, hp, hd, hw, nil_sl _ _, hr⟩)
  have hk := hide hk
  have ha := hide awake_calls
  have HB0 := hide fun o => (bel_refl w).alloc o
  clear h
  go_enter Try.func4, Try.ntmps4
  go_upto_region 3 with ((with_reducible refine (Hid.out ha _).mono ?_); rintro e w0 ⟨rfl, hb0⟩; have hb0h := hide hb0; clear hb0)
  have B3 : Hid (BlkAt w0 w.heap.size [.int .i64 c.frames, .slice a1 c.parts.length b1, .slice a2 n2 b2, .int .i64 c.major, .slice a3 n3 b3, .slice a4 n4 b4, .int .i64 c.sectors, .int .i64 c.quota, .int .i64 c.quiet] 27) := (blk_new w [.int .i64 c.frames, .slice a1 c.parts.length b1, .slice a2 n2 b2, .int .i64 c.major, .slice a3 n3 b3, .slice a4 n4 b4, .int .i64 c.sectors, .int .i64 c.quota, .int .i64 c.quiet] 27).bel hb0h.out
  have HB := hide (Bel.trans (HB0.out _) hb0h.out)
  have kc := hide fun W (hW : Bel w0 W) => show CfgV W (.agg #[.int .i64 c.frames, .slice a1 c.parts.length b1, .slice a2 n2 b2, .int .i64 c.major, .slice a3 n3 b3, .slice a4 n4 b4, .int .i64 c.sectors, .int .i64 c.quota, .int .i64 c.quiet]) c from ⟨_, rfl, kConfig.bel (Bel.trans HB.out hW) hk.out⟩
  have kn := hide fun W (hW : Bel w0 W) => show CfgV W (.agg #[.int .i64 c.frames, .slice a1 c.parts.length b1, .slice a2 n2 b2, .int .i64 c.major, .slice a3 n3 b3, .slice none 0 0, .int .i64 c.sectors, .int .i64 c.quota, .int .i64 c.quiet]) (noGr c) from ⟨_, rfl, kConfig.bel (Bel.trans HB.out hW) hkn.out⟩
  have b3c := hide fun W (hW : Bel w0 W) => show W.cell? ⟨w.heap.size, 0, none⟩ = some (.int .i64 c.frames) ∧ W.cell? ⟨w.heap.size, 1, none⟩ = some (.slice a1 c.parts.length b1) ∧ W.cell? ⟨w.heap.size, 2, none⟩ = some (.slice a2 n2 b2) ∧ W.cell? ⟨w.heap.size, 3, none⟩ = some (.int .i64 c.major) ∧ W.cell? ⟨w.heap.size, 4, none⟩ = some (.slice a3 n3 b3) ∧ W.cell? ⟨w.heap.size, 5, none⟩ = some (.slice a4 n4 b4) ∧ W.cell? ⟨w.heap.size, 6, none⟩ = some (.int .i64 c.sectors) ∧ W.cell? ⟨w.heap.size, 7, none⟩ = some (.int .i64 c.quota) ∧ W.cell? ⟨w.heap.size, 8, none⟩ = some (.int .i64 c.quiet) from
    ⟨BlkAt.cell (BlkAt.bel B3.out hW) (i := 0) rfl, BlkAt.cell (BlkAt.bel B3.out hW) (i := 1) rfl, BlkAt.cell (BlkAt.bel B3.out hW) (i := 2) rfl, BlkAt.cell (BlkAt.bel B3.out hW) (i := 3) rfl, BlkAt.cell (BlkAt.bel B3.out hW) (i := 4) rfl, BlkAt.cell (BlkAt.bel B3.out hW) (i := 5) rfl, BlkAt.cell (BlkAt.bel B3.out hW) (i := 6) rfl, BlkAt.cell (BlkAt.bel B3.out hW) (i := 7) rfl, BlkAt.cell (BlkAt.bel B3.out hW) (i := 8) rfl⟩
  have m3 := hide fun W (hW : Bel w0 W) => may_calls W _ c (kc.out W hW)
  clear hb0h HB0 ha hk hkn
  have k0 := b3c.out w0 (bel_refl _)
  cases hm : mayCfg c
  · rw [hm] at m3
    have r1 := hide fun W (hW : Bel w0 W) => reads_calls W _ c 0 at_ 1 (kc.out W hW) hat (by decide)
    have r2 := hide fun W (hW : Bel w0 W) => writes_calls W _ c 0 at_ 1 (kc.out W hW) hat (by decide)
    simp only [allowed_no hm] at r1 r2
    clear hm kn kc hat hpart
    go_wp2_with (first
      | ((with_reducible refine (Hid.out m3 _ (bel_refl w0)).mono ?_); rintro e v1 ⟨rfl, i1⟩; have h1 := hide i1; clear i1; have k1 := b3c.out _ h1.out)
      | ((with_reducible refine (Hid.out r1 _ h1.out).mono ?_); rintro e v2 ⟨rfl, i2⟩; have h2 := hide (Bel.trans h1.out i2); clear i2; have k2 := b3c.out _ h2.out)
      | ((with_reducible refine (Hid.out r2 _ h2.out).mono ?_); rintro e v3 ⟨rfl, i3⟩; have h3 := hide (Bel.trans h2.out i3); clear i3))
    go_ret
    exact ⟨rfl, Bel.trans HB.out h3.out⟩
  · rw [hm] at m3
    obtain ⟨hf1, hf2⟩ := mayCfg_frames hm
    have hmh := hide hm
    clear hm
    have hwr : IntKind.i64.wrap (c.frames * 64) = c.frames * 64 := IntWalk.i64_in _ (by omega)
    go_upto_region 5 with ((with_reducible refine (Hid.out m3 _ (bel_refl w0)).mono ?_); rintro e v1 ⟨rfl, i1⟩; have h1 := hide i1; clear i1; have k1 := b3c.out _ h1.out)
    have k2 := fun o => b3c.out (v1.alloc o) (h1.out.alloc o)
    go_upto_region 8 with fail
    obtain ⟨a, ha, haF⟩ := umod at_ (c.frames * 64) (by omega) (by omega)
    rw [ha]
    clear ha k2 k1 k0 m3
    obtain ⟨W5, hW5⟩ : ∃ W5 : World, W5 = v1.alloc (.cells #[.int .i64 c.frames, .slice a1 c.parts.length b1, .slice a2 n2 b2, .int .i64 c.major, .slice a3 n3 b3, .slice none 0 0, .int .i64 c.sectors, .int .i64 c.quota, .int .i64 c.quiet] 27) := ⟨_, rfl⟩
    rw [← hW5]
    have B7 : Hid (BlkAt W5 v1.heap.size [.int .i64 c.frames, .slice a1 c.parts.length b1, .slice a2 n2 b2, .int .i64 c.major, .slice a3 n3 b3, .slice none 0 0, .int .i64 c.sectors, .int .i64 c.quota, .int .i64 c.quiet] 27) := by
      have h := blk_new v1 [.int .i64 c.frames, .slice a1 c.parts.length b1, .slice a2 n2 b2, .int .i64 c.major, .slice a3 n3 b3, .slice none 0 0, .int .i64 c.sectors, .int .i64 c.quota, .int .i64 c.quiet] 27
      rw [hW5]
      exact h
    have h5 := hide (show Bel w0 W5 by rw [hW5]; exact h1.out.alloc _)
    clear hW5 h1
    have q3 := hide fun W (hW : Bel W5 W) => b3c.out W (Bel.trans h5.out hW)
    have q7 := hide fun W (hW : Bel W5 W) => show W.cell? ⟨v1.heap.size, 0, none⟩ = some (.int .i64 c.frames) ∧ W.cell? ⟨v1.heap.size, 1, none⟩ = some (.slice a1 c.parts.length b1) ∧ W.cell? ⟨v1.heap.size, 2, none⟩ = some (.slice a2 n2 b2) ∧ W.cell? ⟨v1.heap.size, 3, none⟩ = some (.int .i64 c.major) ∧ W.cell? ⟨v1.heap.size, 4, none⟩ = some (.slice a3 n3 b3) ∧ W.cell? ⟨v1.heap.size, 5, none⟩ = some (.slice none 0 0) ∧ W.cell? ⟨v1.heap.size, 6, none⟩ = some (.int .i64 c.sectors) ∧ W.cell? ⟨v1.heap.size, 7, none⟩ = some (.int .i64 c.quota) ∧ W.cell? ⟨v1.heap.size, 8, none⟩ = some (.int .i64 c.quiet) from
      ⟨BlkAt.cell (BlkAt.bel B7.out hW) (i := 0) rfl, BlkAt.cell (BlkAt.bel B7.out hW) (i := 1) rfl, BlkAt.cell (BlkAt.bel B7.out hW) (i := 2) rfl, BlkAt.cell (BlkAt.bel B7.out hW) (i := 3) rfl, BlkAt.cell (BlkAt.bel B7.out hW) (i := 4) rfl, BlkAt.cell (BlkAt.bel B7.out hW) (i := 5) rfl, BlkAt.cell (BlkAt.bel B7.out hW) (i := 6) rfl, BlkAt.cell (BlkAt.bel B7.out hW) (i := 7) rfl, BlkAt.cell (BlkAt.bel B7.out hW) (i := 8) rfl⟩
    have ha4 : (a : Int) < 4096 := by omega
    have rc : Hid (∀ (k : Nat) (W : World), k < c.parts.length → Bel W5 W → Calls Try.prog 24 #[.agg #[.int .i64 c.frames, .slice a1 c.parts.length b1, .slice a2 n2 b2, .int .i64 c.major, .slice a3 n3 b3, .slice a4 n4 b4, .int .i64 c.sectors, .int .i64 c.quota, .int .i64 c.quiet], .int .i64 (k : Int), .int .i64 (a : Int), .int .i64 1] W fun e w' => e = .returned (.bool (reach c k ((a : Int) / 64) false)) ∧ Bel W w') := fun k W hk hW => by
      have h := reads_calls W _ c k a 1 (kc.out W (Bel.trans h5.out hW)) (by unfold I64; omega) (by decide)
      rw [allowed_one hmh.out k a false (by omega) (by omega) (by omega) haF] at h
      exact h
    have wc : Hid (∀ (k : Nat) (W : World), k < c.parts.length → Bel W5 W → Calls Try.prog 26 #[.agg #[.int .i64 c.frames, .slice a1 c.parts.length b1, .slice a2 n2 b2, .int .i64 c.major, .slice a3 n3 b3, .slice a4 n4 b4, .int .i64 c.sectors, .int .i64 c.quota, .int .i64 c.quiet], .int .i64 (k : Int), .int .i64 (a : Int), .int .i64 1] W fun e w' => e = .returned (.bool (reach c k ((a : Int) / 64) true)) ∧ Bel W w') := fun k W hk hW => by
      have h := writes_calls W _ c k a 1 (kc.out W (Bel.trans h5.out hW)) (by unfold I64; omega) (by decide)
      rw [allowed_one hmh.out k a true (by omega) (by omega) (by omega) haF] at h
      exact h
    have rn : Hid (∀ (k : Nat) (W : World), k < c.parts.length → Bel W5 W → Calls Try.prog 24 #[.agg #[.int .i64 c.frames, .slice a1 c.parts.length b1, .slice a2 n2 b2, .int .i64 c.major, .slice a3 n3 b3, .slice none 0 0, .int .i64 c.sectors, .int .i64 c.quota, .int .i64 c.quiet], .int .i64 (k : Int), .int .i64 (a : Int), .int .i64 1] W fun e w' => e = .returned (.bool (ownerOf c ((a : Int) / 64) == (k : Int))) ∧ Bel W w') := fun k W hk hW => by
      have h := reads_calls W _ (noGr c) k a 1 (kn.out W (Bel.trans h5.out hW)) (by unfold I64; omega) (by decide)
      rw [allowed_one (may_noGr hmh.out) k a false (by omega) (by show (k : Int) < c.parts.length; omega) (by omega) haF, reach_noGr] at h
      exact h
    have wn : Hid (∀ (k : Nat) (W : World), k < c.parts.length → Bel W5 W → Calls Try.prog 26 #[.agg #[.int .i64 c.frames, .slice a1 c.parts.length b1, .slice a2 n2 b2, .int .i64 c.major, .slice a3 n3 b3, .slice none 0 0, .int .i64 c.sectors, .int .i64 c.quota, .int .i64 c.quiet], .int .i64 (k : Int), .int .i64 (a : Int), .int .i64 1] W fun e w' => e = .returned (.bool (ownerOf c ((a : Int) / 64) == (k : Int))) ∧ Bel W w') := fun k W hk hW => by
      have h := writes_calls W _ (noGr c) k a 1 (kn.out W (Bel.trans h5.out hW)) (by unfold I64; omega) (by decide)
      rw [allowed_one (may_noGr hmh.out) k a true (by omega) (by show (k : Int) < c.parts.length; omega) (by omega) haF, reach_noGr] at h
      exact h
    have mn : Hid (∀ W : World, Bel W5 W → Calls Try.prog 22 #[.agg #[.int .i64 c.frames, .slice a1 c.parts.length b1, .slice a2 n2 b2, .int .i64 c.major, .slice a3 n3 b3, .slice none 0 0, .int .i64 c.sectors, .int .i64 c.quota, .int .i64 c.quiet]] W fun e w' => e = .returned (.bool true) ∧ Bel W w') := fun W hW => by
      have h := may_calls W _ (noGr c) (kn.out W (Bel.trans h5.out hW))
      rw [may_noGr hmh.out] at h
      exact h
    have ro : Hid (∀ (x : Int) (W : World), I64 x → there c x = false → Bel W5 W → Calls Try.prog 24 #[.agg #[.int .i64 c.frames, .slice a1 c.parts.length b1, .slice a2 n2 b2, .int .i64 c.major, .slice a3 n3 b3, .slice a4 n4 b4, .int .i64 c.sectors, .int .i64 c.quota, .int .i64 c.quiet], .int .i64 x, .int .i64 (a : Int), .int .i64 1] W fun e w' => e = .returned (.bool false) ∧ Bel W w') := fun x W hx ht hW => by
      have h := reads_calls W _ c x a 1 (kc.out W (Bel.trans h5.out hW)) (by unfold I64; omega) (by decide)
      rw [allowed_out x a 1 false ht] at h
      exact h
    have HW5 := hide (Bel.trans HB.out h5.out)
    have HA := hide fun (k : Nat) (h : (ownerOf c ((a : Int) / 64) == (k : Int)) = true) => reach_own (c := c) true h
    have HR := hide fun (k : Nat) (h : reach c k ((a : Int) / 64) true = true) => reach_mono h
    generalize ho : ownerOf c ((a : Int) / 64) = o at rn wn HA
    clear ho kc kn b3c hmh B3 B7 h5 HB hat
    have hpart7 := band_i64 part 7 (by decide)
    go_wp2_with fail
    go_loopw [9, 10] (fun t9 t10 W => ∃ k : Nat, k ≤ c.parts.length ∧ t10 = .int .i64 k ∧ t9 = .int .i64 (manyK o k) ∧ Hid (Bel W5 W)) (fun _ t _ => c.parts.length - (intOf t).toNat)
    case atStart => exact ⟨0, by omega, rfl, by rw [manyK_zero], hide (bel_refl _)⟩
    case round =>
      obtain ⟨k, hk, rfl, rfl, HI⟩ := hrel
      have k3 := q3.out wr HI.out
      by_cases hlt : k < c.parts.length
      · have rck := hide fun W (hW : Bel W5 W) => rc.out k W hlt hW
        have wck := hide fun W (hW : Bel W5 W) => wc.out k W hlt hW
        have rnk := hide fun W (hW : Bel W5 W) => rn.out k W hlt hW
        have wnk := hide fun W (hW : Bel W5 W) => wn.out k W hlt hW
        have HAk := hide (HA.out k)
        have HRk := hide (HR.out k)
        generalize reach c k ((a : Int) / 64) true = wb at wck HAk HRk
        generalize reach c k ((a : Int) / 64) false = rb at rck HRk
        have HY := hide fun h => manyK_yes o k h
        have HN := hide fun h => manyK_no o k h
        generalize (o == (k : Int)) = ob at rnk wnk HAk HY HN
        clear rc wc rn wn mn ro HA HR
        go_upto_region 12 with fail
        have hd := HI.out.drew
        cases ob
        rotate_left
        · obtain rfl : wb = true := HAk.out rfl
          obtain rfl : rb = true := HRk.out rfl
          obtain ⟨y0, y1⟩ := HY.out rfl
          rw [y0]
          have y1 := hide y1
          clear y0 HY HN HAk HRk
          refine wp_region_held_drew (S := fun w' => Bel W5 w' ∧ (w'.cell? ⟨w.heap.size, 0, none⟩ = some (.int .i64 c.frames) ∧ w'.cell? ⟨w.heap.size, 1, none⟩ = some (.slice a1 c.parts.length b1) ∧ w'.cell? ⟨w.heap.size, 2, none⟩ = some (.slice a2 n2 b2) ∧ w'.cell? ⟨w.heap.size, 3, none⟩ = some (.int .i64 c.major) ∧ w'.cell? ⟨w.heap.size, 4, none⟩ = some (.slice a3 n3 b3) ∧ w'.cell? ⟨w.heap.size, 5, none⟩ = some (.slice a4 n4 b4) ∧ w'.cell? ⟨w.heap.size, 6, none⟩ = some (.int .i64 c.sectors) ∧ w'.cell? ⟨w.heap.size, 7, none⟩ = some (.int .i64 c.quota) ∧ w'.cell? ⟨w.heap.size, 8, none⟩ = some (.int .i64 c.quiet)) ∧ (w'.cell? ⟨v1.heap.size, 0, none⟩ = some (.int .i64 c.frames) ∧ w'.cell? ⟨v1.heap.size, 1, none⟩ = some (.slice a1 c.parts.length b1) ∧ w'.cell? ⟨v1.heap.size, 2, none⟩ = some (.slice a2 n2 b2) ∧ w'.cell? ⟨v1.heap.size, 3, none⟩ = some (.int .i64 c.major) ∧ w'.cell? ⟨v1.heap.size, 4, none⟩ = some (.slice a3 n3 b3) ∧ w'.cell? ⟨v1.heap.size, 5, none⟩ = some (.slice none 0 0) ∧ w'.cell? ⟨v1.heap.size, 6, none⟩ = some (.int .i64 c.sectors) ∧ w'.cell? ⟨v1.heap.size, 7, none⟩ = some (.int .i64 c.quota) ∧ w'.cell? ⟨v1.heap.size, 8, none⟩ = some (.int .i64 c.quiet))) (by kernel_rfl) ?_ (fun hHeld => ?_)
          · exact ⟨hd, q3.out _ hd, q7.out _ hd⟩
          refine hT (i := 0) (v := ?_) rfl (by kernel_rfl) (fun _ _ _ h => h) (by rfl) ?_ hHeld ?_
          rotate_left
          · (intro w_ hw_; (try dsimp only at hw_); go_simp; try with_reducible rfl)
          simp only [Act.put, List.setIfInBounds_toArray, List.set_cons_zero, List.set_cons_succ, List.getElem_toArray, List.getElem_cons_zero]
          refine hT (i := 1) (v := ?_) rfl (by kernel_rfl) (fun _ _ _ h => h) (by rfl) ?_ hHeld ?_
          rotate_left
          · (intro w_ hw_; (try dsimp only at hw_); go_simp; try with_reducible rfl)
          simp only [Act.put, List.setIfInBounds_toArray, List.set_cons_zero, List.set_cons_succ, List.getElem_toArray, List.getElem_cons_zero, List.getElem_cons_succ]
          refine hT (i := 2) (v := ?_) rfl (by kernel_rfl) (fun _ _ _ h => h) (by rfl) ?_ hHeld ?_
          rotate_left
          · (intro w_ hw_; (try dsimp only at hw_); go_simp; try with_reducible rfl)
          simp only [Act.put, List.setIfInBounds_toArray, List.set_cons_zero, List.set_cons_succ, List.getElem_toArray, List.getElem_cons_zero, List.getElem_cons_succ]
          refine hE (i := 3) rfl (by kernel_rfl) (by rfl) (fun K hK => ?_)
          go_simp
          refine (wck.out _ hHeld.1).mono ?_
          rintro e v3 ⟨rfl, hi⟩
          have j3 := hide (Bel.trans hHeld.1 hi)
          refine hK.out _ _ ?_ (fun hHeld => ?_)
          · exact ⟨j3.out, q3.out _ j3.out, q7.out _ j3.out⟩
          clear hK K
          refine hT (i := 4) (v := ?_) rfl (by kernel_rfl) (fun _ _ _ h => h) (by rfl) ?_ hHeld ?_
          rotate_left
          · (intro w_ hw_; (try dsimp only at hw_); go_simp; try with_reducible rfl)
          simp only [Act.put, List.setIfInBounds_toArray, List.set_cons_zero, List.set_cons_succ, List.getElem_toArray, List.getElem_cons_zero, List.getElem_cons_succ]
          refine hT (i := 5) (v := ?_) rfl (by kernel_rfl) (fun _ _ _ h => h) (by rfl) ?_ hHeld ?_
          rotate_left
          · (intro w_ hw_; (try dsimp only at hw_); go_simp; try with_reducible rfl)
          simp only [Act.put, List.setIfInBounds_toArray, List.set_cons_zero, List.set_cons_succ, List.getElem_toArray, List.getElem_cons_zero, List.getElem_cons_succ]
          refine hT (i := 6) (v := ?_) rfl (by kernel_rfl) (fun _ _ _ h => h) (by rfl) ?_ hHeld ?_
          rotate_left
          · (intro w_ hw_; (try dsimp only at hw_); go_simp; try with_reducible rfl)
          simp only [Act.put, List.setIfInBounds_toArray, List.set_cons_zero, List.set_cons_succ, List.getElem_toArray, List.getElem_cons_zero, List.getElem_cons_succ]
          refine hT (i := 7) (v := ?_) rfl (by kernel_rfl) (fun _ _ _ h => h) (by rfl) ?_ hHeld ?_
          rotate_left
          · (intro w_ hw_; (try dsimp only at hw_); go_simp; try with_reducible rfl)
          simp only [Act.put, List.setIfInBounds_toArray, List.set_cons_zero, List.set_cons_succ, List.getElem_toArray, List.getElem_cons_zero, List.getElem_cons_succ]
          refine hE (i := 8) rfl (by kernel_rfl) (by rfl) (fun K hK => ?_)
          go_simp
          refine (rck.out _ hHeld.1).mono ?_
          rintro e v8 ⟨rfl, hi⟩
          have j8 := hide (Bel.trans hHeld.1 hi)
          refine hK.out _ _ ?_ (fun hHeld => ?_)
          · exact ⟨j8.out, q3.out _ j8.out, q7.out _ j8.out⟩
          clear hK K
          refine hT (i := 9) (v := ?_) rfl (by kernel_rfl) (fun _ _ _ h => h) (by rfl) ?_ hHeld ?_
          rotate_left
          · (intro w_ hw_; (try dsimp only at hw_); go_simp; try with_reducible rfl)
          simp only [Act.put, List.setIfInBounds_toArray, List.set_cons_zero, List.set_cons_succ, List.getElem_toArray, List.getElem_cons_zero, List.getElem_cons_succ]
          refine hT (i := 10) (v := ?_) rfl (by kernel_rfl) (fun _ _ _ h => h) (by rfl) ?_ hHeld ?_
          rotate_left
          · (intro w_ hw_; (try dsimp only at hw_); go_simp; try with_reducible rfl)
          simp only [Act.put, List.setIfInBounds_toArray, List.set_cons_zero, List.set_cons_succ, List.getElem_toArray, List.getElem_cons_zero, List.getElem_cons_succ]
          refine hT (i := 11) (v := ?_) rfl (by kernel_rfl) (fun _ _ _ h => h) (by rfl) ?_ hHeld ?_
          rotate_left
          · (intro w_ hw_; (try dsimp only at hw_); go_simp; try with_reducible rfl)
          simp only [Act.put, List.setIfInBounds_toArray, List.set_cons_zero, List.set_cons_succ, List.getElem_toArray, List.getElem_cons_zero, List.getElem_cons_succ]
          refine hT (i := 12) (v := ?_) rfl (by kernel_rfl) (fun _ _ _ h => h) (by rfl) ?_ hHeld ?_
          rotate_left
          · (intro w_ hw_; (try dsimp only at hw_); go_simp; try with_reducible rfl)
          simp only [Act.put, List.setIfInBounds_toArray, List.set_cons_zero, List.set_cons_succ, List.getElem_toArray, List.getElem_cons_zero, List.getElem_cons_succ]
          refine hT (i := 13) (v := ?_) rfl (by kernel_rfl) (fun _ _ _ h => h) (by rfl) ?_ hHeld ?_
          rotate_left
          · (intro w_ hw_; (try dsimp only at hw_); go_simp; try with_reducible rfl)
          simp only [Act.put, List.setIfInBounds_toArray, List.set_cons_zero, List.set_cons_succ, List.getElem_toArray, List.getElem_cons_zero, List.getElem_cons_succ]
          refine hT (i := 14) (v := ?_) rfl (by kernel_rfl) (fun _ _ _ h => h) (by rfl) ?_ hHeld ?_
          rotate_left
          · (intro w_ hw_; (try dsimp only at hw_); go_simp; try with_reducible rfl)
          simp only [Act.put, List.setIfInBounds_toArray, List.set_cons_zero, List.set_cons_succ, List.getElem_toArray, List.getElem_cons_zero, List.getElem_cons_succ]
          refine hT (i := 16) (v := ?_) rfl (by kernel_rfl) (fun _ _ _ h => h) (by rfl) ?_ hHeld ?_
          rotate_left
          · (intro w_ hw_; (try dsimp only at hw_); go_simp; try with_reducible rfl)
          simp only [Act.put, List.setIfInBounds_toArray, List.set_cons_zero, List.set_cons_succ, List.getElem_toArray, List.getElem_cons_zero, List.getElem_cons_succ]
          refine hT (i := 17) (v := ?_) rfl (by kernel_rfl) (fun _ _ _ h => h) (by rfl) ?_ hHeld ?_
          rotate_left
          · (intro w_ hw_; (try dsimp only at hw_); go_simp; try with_reducible rfl)
          simp only [Act.put, List.setIfInBounds_toArray, List.set_cons_zero, List.set_cons_succ, List.getElem_toArray, List.getElem_cons_zero, List.getElem_cons_succ]
          refine hT (i := 18) (v := ?_) rfl (by kernel_rfl) (fun _ _ _ h => h) (by rfl) ?_ hHeld ?_
          rotate_left
          · (intro w_ hw_; (try dsimp only at hw_); go_simp; try with_reducible rfl)
          simp only [Act.put, List.setIfInBounds_toArray, List.set_cons_zero, List.set_cons_succ, List.getElem_toArray, List.getElem_cons_zero, List.getElem_cons_succ]
          refine hE (i := 15) rfl (by kernel_rfl) (by rfl) (fun K hK => ?_)
          go_simp
          refine (rnk.out _ hHeld.1).mono ?_
          rintro e v15 ⟨rfl, hi⟩
          have j15 := hide (Bel.trans hHeld.1 hi)
          refine hK.out _ _ ?_ (fun hHeld => ?_)
          · exact ⟨j15.out, q3.out _ j15.out, q7.out _ j15.out⟩
          clear hK K
          refine hE (i := 19) rfl (by kernel_rfl) (by rfl) (fun K hK => ?_)
          go_simp
          refine (wnk.out _ hHeld.1).mono ?_
          rintro e v19 ⟨rfl, hi⟩
          have j19 := hide (Bel.trans hHeld.1 hi)
          refine hK.out _ _ ?_ (fun hHeld => ?_)
          · exact ⟨j19.out, q3.out _ j19.out, q7.out _ j19.out⟩
          clear hK K
          refine hT (i := 20) (v := ?_) rfl (by kernel_rfl) (fun _ _ _ h => h) (by rfl) ?_ hHeld ?_
          rotate_left
          · (intro w_ hw_; (try dsimp only at hw_); go_simp; try with_reducible rfl)
          simp only [Act.put, List.setIfInBounds_toArray, List.set_cons_zero, List.set_cons_succ, List.getElem_toArray, List.getElem_cons_zero, List.getElem_cons_succ]
          refine hT (i := 21) (v := ?_) rfl (by kernel_rfl) (fun _ _ _ h => h) (by rfl) ?_ hHeld ?_
          rotate_left
          · (intro w_ hw_; (try dsimp only at hw_); go_simp; try with_reducible rfl)
          simp only [Act.put, List.setIfInBounds_toArray, List.set_cons_zero, List.set_cons_succ, List.getElem_toArray, List.getElem_cons_zero, List.getElem_cons_succ]
          refine hT (i := 22) (v := ?_) rfl (by kernel_rfl) (fun _ _ _ h => h) (by rfl) ?_ hHeld ?_
          rotate_left
          · (intro w_ hw_; (try dsimp only at hw_); go_simp; try with_reducible rfl)
          simp only [Act.put, List.setIfInBounds_toArray, List.set_cons_zero, List.set_cons_succ, List.getElem_toArray, List.getElem_cons_zero, List.getElem_cons_succ]
          refine hT (i := 23) (v := ?_) rfl (by kernel_rfl) (fun _ _ _ h => h) (by rfl) ?_ hHeld ?_
          rotate_left
          · (intro w_ hw_; (try dsimp only at hw_); go_simp; try with_reducible rfl)
          simp only [Act.put, List.setIfInBounds_toArray, List.set_cons_zero, List.set_cons_succ, List.getElem_toArray, List.getElem_cons_zero, List.getElem_cons_succ]
          refine hT (i := 24) (v := ?_) rfl (by kernel_rfl) (fun _ _ _ h => h) (by rfl) ?_ hHeld ?_
          rotate_left
          · (intro w_ hw_; (try dsimp only at hw_); go_simp; try with_reducible rfl)
          simp only [Act.put, List.setIfInBounds_toArray, List.set_cons_zero, List.set_cons_succ, List.getElem_toArray, List.getElem_cons_zero, List.getElem_cons_succ]
          refine hT (i := 25) (v := ?_) rfl (by kernel_rfl) (fun _ _ _ h => h) (by rfl) ?_ hHeld ?_
          rotate_left
          · (intro w_ hw_; (try dsimp only at hw_); go_simp; try with_reducible rfl)
          simp only [Act.put, List.setIfInBounds_toArray, List.set_cons_zero, List.set_cons_succ, List.getElem_toArray, List.getElem_cons_zero, List.getElem_cons_succ]
          refine hE (i := 26) rfl (by kernel_rfl) (by rfl) (fun K hK => ?_)
          go_simp
          refine (rnk.out _ hHeld.1).mono ?_
          rintro e v26 ⟨rfl, hi⟩
          have j26 := hide (Bel.trans hHeld.1 hi)
          refine hK.out _ _ ?_ (fun hHeld => ?_)
          · exact ⟨j26.out, q3.out _ j26.out, q7.out _ j26.out⟩
          clear hK K
          refine hT (i := 27) (v := ?_) rfl (by kernel_rfl) (fun _ _ _ h => h) (by rfl) ?_ hHeld ?_
          rotate_left
          · (intro w_ hw_; (try dsimp only at hw_); go_simp; try with_reducible rfl)
          simp only [Act.put, List.setIfInBounds_toArray, List.set_cons_zero, List.set_cons_succ, List.getElem_toArray, List.getElem_cons_zero, List.getElem_cons_succ]
          refine hT (i := 28) (v := ?_) rfl (by kernel_rfl) (fun _ _ _ h => h) (by rfl) ?_ hHeld ?_
          rotate_left
          · (intro w_ hw_; (try dsimp only at hw_); go_simp; try with_reducible rfl)
          simp only [Act.put, List.setIfInBounds_toArray, List.set_cons_zero, List.set_cons_succ, List.getElem_toArray, List.getElem_cons_zero, List.getElem_cons_succ]
          refine hT (i := 29) (v := ?_) rfl (by kernel_rfl) (fun _ _ _ h => h) (by rfl) ?_ hHeld ?_
          rotate_left
          · (intro w_ hw_; (try dsimp only at hw_); go_simp; try with_reducible rfl)
          simp only [Act.put, List.setIfInBounds_toArray, List.set_cons_zero, List.set_cons_succ, List.getElem_toArray, List.getElem_cons_zero, List.getElem_cons_succ]
          refine hT (i := 30) (v := ?_) rfl (by kernel_rfl) (fun _ _ _ h => h) (by rfl) ?_ hHeld ?_
          rotate_left
          · (intro w_ hw_; (try dsimp only at hw_); go_simp; try with_reducible rfl)
          simp only [Act.put, List.setIfInBounds_toArray, List.set_cons_zero, List.set_cons_succ, List.getElem_toArray, List.getElem_cons_zero, List.getElem_cons_succ]
          refine hE (i := 31) rfl (by kernel_rfl) (by rfl) (fun K hK => ?_)
          go_simp
          refine (wck.out _ hHeld.1).mono ?_
          rintro e v31 ⟨rfl, hi⟩
          have j31 := hide (Bel.trans hHeld.1 hi)
          refine hK.out _ _ ?_ (fun hHeld => ?_)
          · exact ⟨j31.out, q3.out _ j31.out, q7.out _ j31.out⟩
          clear hK K
          refine hT (i := 32) (v := ?_) rfl (by kernel_rfl) (fun _ _ _ h => h) (by rfl) ?_ hHeld ?_
          rotate_left
          · (intro w_ hw_; (try dsimp only at hw_); go_simp; try with_reducible rfl)
          simp only [Act.put, List.setIfInBounds_toArray, List.set_cons_zero, List.set_cons_succ, List.getElem_toArray, List.getElem_cons_zero, List.getElem_cons_succ]
          refine hT (i := 33) (v := ?_) rfl (by kernel_rfl) (fun _ _ _ h => h) (by rfl) ?_ hHeld ?_
          rotate_left
          · (intro w_ hw_; (try dsimp only at hw_); go_simp; try with_reducible rfl)
          simp only [Act.put, List.setIfInBounds_toArray, List.set_cons_zero, List.set_cons_succ, List.getElem_toArray, List.getElem_cons_zero, List.getElem_cons_succ]
          refine hT (i := 34) (v := ?_) rfl (by kernel_rfl) (fun _ _ _ h => h) (by rfl) ?_ hHeld ?_
          rotate_left
          · (intro w_ hw_; (try dsimp only at hw_); go_simp; try with_reducible rfl)
          simp only [Act.put, List.setIfInBounds_toArray, List.set_cons_zero, List.set_cons_succ, List.getElem_toArray, List.getElem_cons_zero, List.getElem_cons_succ]
          refine wpAnyH_done (by kernel_rfl) ?_ _
          have z7 := q7.out _ j31.out
          clear hHeld
          go_wp2_with ((with_reducible refine (Hid.out rnk _ j31.out).mono ?_); rintro e v99 ⟨rfl, hi⟩; have j99 := hide (Bel.trans j31.out hi); clear hi)
          exact ⟨⟨k + 1, by omega, by go_num, by rw [y1.out], j99⟩, by simp [intOf]; omega⟩
        · have y1 := hide (HN.out rfl)
          clear HY HN HAk
          cases wb
          rotate_left
          · obtain rfl : rb = true := HRk.out rfl
            clear HRk
            refine wp_region_held_drew (S := fun w' => Bel W5 w' ∧ (w'.cell? ⟨w.heap.size, 0, none⟩ = some (.int .i64 c.frames) ∧ w'.cell? ⟨w.heap.size, 1, none⟩ = some (.slice a1 c.parts.length b1) ∧ w'.cell? ⟨w.heap.size, 2, none⟩ = some (.slice a2 n2 b2) ∧ w'.cell? ⟨w.heap.size, 3, none⟩ = some (.int .i64 c.major) ∧ w'.cell? ⟨w.heap.size, 4, none⟩ = some (.slice a3 n3 b3) ∧ w'.cell? ⟨w.heap.size, 5, none⟩ = some (.slice a4 n4 b4) ∧ w'.cell? ⟨w.heap.size, 6, none⟩ = some (.int .i64 c.sectors) ∧ w'.cell? ⟨w.heap.size, 7, none⟩ = some (.int .i64 c.quota) ∧ w'.cell? ⟨w.heap.size, 8, none⟩ = some (.int .i64 c.quiet)) ∧ (w'.cell? ⟨v1.heap.size, 0, none⟩ = some (.int .i64 c.frames) ∧ w'.cell? ⟨v1.heap.size, 1, none⟩ = some (.slice a1 c.parts.length b1) ∧ w'.cell? ⟨v1.heap.size, 2, none⟩ = some (.slice a2 n2 b2) ∧ w'.cell? ⟨v1.heap.size, 3, none⟩ = some (.int .i64 c.major) ∧ w'.cell? ⟨v1.heap.size, 4, none⟩ = some (.slice a3 n3 b3) ∧ w'.cell? ⟨v1.heap.size, 5, none⟩ = some (.slice none 0 0) ∧ w'.cell? ⟨v1.heap.size, 6, none⟩ = some (.int .i64 c.sectors) ∧ w'.cell? ⟨v1.heap.size, 7, none⟩ = some (.int .i64 c.quota) ∧ w'.cell? ⟨v1.heap.size, 8, none⟩ = some (.int .i64 c.quiet))) (by kernel_rfl) ?_ (fun hHeld => ?_)
            · exact ⟨hd, q3.out _ hd, q7.out _ hd⟩
            refine hT (i := 0) (v := ?_) rfl (by kernel_rfl) (fun _ _ _ h => h) (by rfl) ?_ hHeld ?_
            rotate_left
            · (intro w_ hw_; (try dsimp only at hw_); go_simp; try with_reducible rfl)
            simp only [Act.put, List.setIfInBounds_toArray, List.set_cons_zero, List.set_cons_succ, List.getElem_toArray, List.getElem_cons_zero]
            refine hT (i := 1) (v := ?_) rfl (by kernel_rfl) (fun _ _ _ h => h) (by rfl) ?_ hHeld ?_
            rotate_left
            · (intro w_ hw_; (try dsimp only at hw_); go_simp; try with_reducible rfl)
            simp only [Act.put, List.setIfInBounds_toArray, List.set_cons_zero, List.set_cons_succ, List.getElem_toArray, List.getElem_cons_zero, List.getElem_cons_succ]
            refine hT (i := 2) (v := ?_) rfl (by kernel_rfl) (fun _ _ _ h => h) (by rfl) ?_ hHeld ?_
            rotate_left
            · (intro w_ hw_; (try dsimp only at hw_); go_simp; try with_reducible rfl)
            simp only [Act.put, List.setIfInBounds_toArray, List.set_cons_zero, List.set_cons_succ, List.getElem_toArray, List.getElem_cons_zero, List.getElem_cons_succ]
            refine hE (i := 3) rfl (by kernel_rfl) (by rfl) (fun K hK => ?_)
            go_simp
            refine (wck.out _ hHeld.1).mono ?_
            rintro e v3 ⟨rfl, hi⟩
            have j3 := hide (Bel.trans hHeld.1 hi)
            refine hK.out _ _ ?_ (fun hHeld => ?_)
            · exact ⟨j3.out, q3.out _ j3.out, q7.out _ j3.out⟩
            clear hK K
            refine hT (i := 4) (v := ?_) rfl (by kernel_rfl) (fun _ _ _ h => h) (by rfl) ?_ hHeld ?_
            rotate_left
            · (intro w_ hw_; (try dsimp only at hw_); go_simp; try with_reducible rfl)
            simp only [Act.put, List.setIfInBounds_toArray, List.set_cons_zero, List.set_cons_succ, List.getElem_toArray, List.getElem_cons_zero, List.getElem_cons_succ]
            refine hT (i := 5) (v := ?_) rfl (by kernel_rfl) (fun _ _ _ h => h) (by rfl) ?_ hHeld ?_
            rotate_left
            · (intro w_ hw_; (try dsimp only at hw_); go_simp; try with_reducible rfl)
            simp only [Act.put, List.setIfInBounds_toArray, List.set_cons_zero, List.set_cons_succ, List.getElem_toArray, List.getElem_cons_zero, List.getElem_cons_succ]
            refine hT (i := 6) (v := ?_) rfl (by kernel_rfl) (fun _ _ _ h => h) (by rfl) ?_ hHeld ?_
            rotate_left
            · (intro w_ hw_; (try dsimp only at hw_); go_simp; try with_reducible rfl)
            simp only [Act.put, List.setIfInBounds_toArray, List.set_cons_zero, List.set_cons_succ, List.getElem_toArray, List.getElem_cons_zero, List.getElem_cons_succ]
            refine hT (i := 7) (v := ?_) rfl (by kernel_rfl) (fun _ _ _ h => h) (by rfl) ?_ hHeld ?_
            rotate_left
            · (intro w_ hw_; (try dsimp only at hw_); go_simp; try with_reducible rfl)
            simp only [Act.put, List.setIfInBounds_toArray, List.set_cons_zero, List.set_cons_succ, List.getElem_toArray, List.getElem_cons_zero, List.getElem_cons_succ]
            refine hE (i := 8) rfl (by kernel_rfl) (by rfl) (fun K hK => ?_)
            go_simp
            refine (rck.out _ hHeld.1).mono ?_
            rintro e v8 ⟨rfl, hi⟩
            have j8 := hide (Bel.trans hHeld.1 hi)
            refine hK.out _ _ ?_ (fun hHeld => ?_)
            · exact ⟨j8.out, q3.out _ j8.out, q7.out _ j8.out⟩
            clear hK K
            refine hT (i := 9) (v := ?_) rfl (by kernel_rfl) (fun _ _ _ h => h) (by rfl) ?_ hHeld ?_
            rotate_left
            · (intro w_ hw_; (try dsimp only at hw_); go_simp; try with_reducible rfl)
            simp only [Act.put, List.setIfInBounds_toArray, List.set_cons_zero, List.set_cons_succ, List.getElem_toArray, List.getElem_cons_zero, List.getElem_cons_succ]
            refine hT (i := 10) (v := ?_) rfl (by kernel_rfl) (fun _ _ _ h => h) (by rfl) ?_ hHeld ?_
            rotate_left
            · (intro w_ hw_; (try dsimp only at hw_); go_simp; try with_reducible rfl)
            simp only [Act.put, List.setIfInBounds_toArray, List.set_cons_zero, List.set_cons_succ, List.getElem_toArray, List.getElem_cons_zero, List.getElem_cons_succ]
            refine hT (i := 11) (v := ?_) rfl (by kernel_rfl) (fun _ _ _ h => h) (by rfl) ?_ hHeld ?_
            rotate_left
            · (intro w_ hw_; (try dsimp only at hw_); go_simp; try with_reducible rfl)
            simp only [Act.put, List.setIfInBounds_toArray, List.set_cons_zero, List.set_cons_succ, List.getElem_toArray, List.getElem_cons_zero, List.getElem_cons_succ]
            refine hT (i := 12) (v := ?_) rfl (by kernel_rfl) (fun _ _ _ h => h) (by rfl) ?_ hHeld ?_
            rotate_left
            · (intro w_ hw_; (try dsimp only at hw_); go_simp; try with_reducible rfl)
            simp only [Act.put, List.setIfInBounds_toArray, List.set_cons_zero, List.set_cons_succ, List.getElem_toArray, List.getElem_cons_zero, List.getElem_cons_succ]
            refine hT (i := 13) (v := ?_) rfl (by kernel_rfl) (fun _ _ _ h => h) (by rfl) ?_ hHeld ?_
            rotate_left
            · (intro w_ hw_; (try dsimp only at hw_); go_simp; try with_reducible rfl)
            simp only [Act.put, List.setIfInBounds_toArray, List.set_cons_zero, List.set_cons_succ, List.getElem_toArray, List.getElem_cons_zero, List.getElem_cons_succ]
            refine hT (i := 14) (v := ?_) rfl (by kernel_rfl) (fun _ _ _ h => h) (by rfl) ?_ hHeld ?_
            rotate_left
            · (intro w_ hw_; (try dsimp only at hw_); go_simp; try with_reducible rfl)
            simp only [Act.put, List.setIfInBounds_toArray, List.set_cons_zero, List.set_cons_succ, List.getElem_toArray, List.getElem_cons_zero, List.getElem_cons_succ]
            refine hT (i := 16) (v := ?_) rfl (by kernel_rfl) (fun _ _ _ h => h) (by rfl) ?_ hHeld ?_
            rotate_left
            · (intro w_ hw_; (try dsimp only at hw_); go_simp; try with_reducible rfl)
            simp only [Act.put, List.setIfInBounds_toArray, List.set_cons_zero, List.set_cons_succ, List.getElem_toArray, List.getElem_cons_zero, List.getElem_cons_succ]
            refine hT (i := 17) (v := ?_) rfl (by kernel_rfl) (fun _ _ _ h => h) (by rfl) ?_ hHeld ?_
            rotate_left
            · (intro w_ hw_; (try dsimp only at hw_); go_simp; try with_reducible rfl)
            simp only [Act.put, List.setIfInBounds_toArray, List.set_cons_zero, List.set_cons_succ, List.getElem_toArray, List.getElem_cons_zero, List.getElem_cons_succ]
            refine hT (i := 18) (v := ?_) rfl (by kernel_rfl) (fun _ _ _ h => h) (by rfl) ?_ hHeld ?_
            rotate_left
            · (intro w_ hw_; (try dsimp only at hw_); go_simp; try with_reducible rfl)
            simp only [Act.put, List.setIfInBounds_toArray, List.set_cons_zero, List.set_cons_succ, List.getElem_toArray, List.getElem_cons_zero, List.getElem_cons_succ]
            refine hE (i := 15) rfl (by kernel_rfl) (by rfl) (fun K hK => ?_)
            go_simp
            refine (rnk.out _ hHeld.1).mono ?_
            rintro e v15 ⟨rfl, hi⟩
            have j15 := hide (Bel.trans hHeld.1 hi)
            refine hK.out _ _ ?_ (fun hHeld => ?_)
            · exact ⟨j15.out, q3.out _ j15.out, q7.out _ j15.out⟩
            clear hK K
            refine hE (i := 19) rfl (by kernel_rfl) (by rfl) (fun K hK => ?_)
            go_simp
            refine (wnk.out _ hHeld.1).mono ?_
            rintro e v19 ⟨rfl, hi⟩
            have j19 := hide (Bel.trans hHeld.1 hi)
            refine hK.out _ _ ?_ (fun hHeld => ?_)
            · exact ⟨j19.out, q3.out _ j19.out, q7.out _ j19.out⟩
            clear hK K
            refine hT (i := 20) (v := ?_) rfl (by kernel_rfl) (fun _ _ _ h => h) (by rfl) ?_ hHeld ?_
            rotate_left
            · (intro w_ hw_; (try dsimp only at hw_); go_simp; try with_reducible rfl)
            simp only [Act.put, List.setIfInBounds_toArray, List.set_cons_zero, List.set_cons_succ, List.getElem_toArray, List.getElem_cons_zero, List.getElem_cons_succ]
            refine hT (i := 21) (v := ?_) rfl (by kernel_rfl) (fun _ _ _ h => h) (by rfl) ?_ hHeld ?_
            rotate_left
            · (intro w_ hw_; (try dsimp only at hw_); go_simp; try with_reducible rfl)
            simp only [Act.put, List.setIfInBounds_toArray, List.set_cons_zero, List.set_cons_succ, List.getElem_toArray, List.getElem_cons_zero, List.getElem_cons_succ]
            refine hT (i := 22) (v := ?_) rfl (by kernel_rfl) (fun _ _ _ h => h) (by rfl) ?_ hHeld ?_
            rotate_left
            · (intro w_ hw_; (try dsimp only at hw_); go_simp; try with_reducible rfl)
            simp only [Act.put, List.setIfInBounds_toArray, List.set_cons_zero, List.set_cons_succ, List.getElem_toArray, List.getElem_cons_zero, List.getElem_cons_succ]
            refine hT (i := 23) (v := ?_) rfl (by kernel_rfl) (fun _ _ _ h => h) (by rfl) ?_ hHeld ?_
            rotate_left
            · (intro w_ hw_; (try dsimp only at hw_); go_simp; try with_reducible rfl)
            simp only [Act.put, List.setIfInBounds_toArray, List.set_cons_zero, List.set_cons_succ, List.getElem_toArray, List.getElem_cons_zero, List.getElem_cons_succ]
            refine hT (i := 24) (v := ?_) rfl (by kernel_rfl) (fun _ _ _ h => h) (by rfl) ?_ hHeld ?_
            rotate_left
            · (intro w_ hw_; (try dsimp only at hw_); go_simp; try with_reducible rfl)
            simp only [Act.put, List.setIfInBounds_toArray, List.set_cons_zero, List.set_cons_succ, List.getElem_toArray, List.getElem_cons_zero, List.getElem_cons_succ]
            refine hT (i := 25) (v := ?_) rfl (by kernel_rfl) (fun _ _ _ h => h) (by rfl) ?_ hHeld ?_
            rotate_left
            · (intro w_ hw_; (try dsimp only at hw_); go_simp; try with_reducible rfl)
            simp only [Act.put, List.setIfInBounds_toArray, List.set_cons_zero, List.set_cons_succ, List.getElem_toArray, List.getElem_cons_zero, List.getElem_cons_succ]
            refine hE (i := 26) rfl (by kernel_rfl) (by rfl) (fun K hK => ?_)
            go_simp
            refine (rnk.out _ hHeld.1).mono ?_
            rintro e v26 ⟨rfl, hi⟩
            have j26 := hide (Bel.trans hHeld.1 hi)
            refine hK.out _ _ ?_ (fun hHeld => ?_)
            · exact ⟨j26.out, q3.out _ j26.out, q7.out _ j26.out⟩
            clear hK K
            refine hT (i := 27) (v := ?_) rfl (by kernel_rfl) (fun _ _ _ h => h) (by rfl) ?_ hHeld ?_
            rotate_left
            · (intro w_ hw_; (try dsimp only at hw_); go_simp; try with_reducible rfl)
            simp only [Act.put, List.setIfInBounds_toArray, List.set_cons_zero, List.set_cons_succ, List.getElem_toArray, List.getElem_cons_zero, List.getElem_cons_succ]
            refine hN (i := 28) rfl (by kernel_rfl) (fun _ _ _ h => h) (by rfl) hHeld ?_
            simp only [Act.put, List.setIfInBounds_toArray, List.set_cons_zero, List.set_cons_succ, List.getElem_toArray, List.getElem_cons_zero, List.getElem_cons_succ]
            refine hN (i := 29) rfl (by kernel_rfl) (fun _ _ _ h => h) (by rfl) hHeld ?_
            simp only [Act.put, List.setIfInBounds_toArray, List.set_cons_zero, List.set_cons_succ, List.getElem_toArray, List.getElem_cons_zero, List.getElem_cons_succ]
            refine hN (i := 30) rfl (by kernel_rfl) (fun _ _ _ h => h) (by rfl) hHeld ?_
            simp only [Act.put, List.setIfInBounds_toArray, List.set_cons_zero, List.set_cons_succ, List.getElem_toArray, List.getElem_cons_zero, List.getElem_cons_succ]
            refine hN (i := 31) rfl (by kernel_rfl) (fun _ _ _ h => h) (by rfl) hHeld ?_
            simp only [Act.put, List.setIfInBounds_toArray, List.set_cons_zero, List.set_cons_succ, List.getElem_toArray, List.getElem_cons_zero, List.getElem_cons_succ]
            refine hN (i := 32) rfl (by kernel_rfl) (fun _ _ _ h => h) (by rfl) hHeld ?_
            simp only [Act.put, List.setIfInBounds_toArray, List.set_cons_zero, List.set_cons_succ, List.getElem_toArray, List.getElem_cons_zero, List.getElem_cons_succ]
            refine hT (i := 33) (v := ?_) rfl (by kernel_rfl) (fun _ _ _ h => h) (by rfl) ?_ hHeld ?_
            rotate_left
            · (intro w_ hw_; (try dsimp only at hw_); go_simp; try with_reducible rfl)
            simp only [Act.put, List.setIfInBounds_toArray, List.set_cons_zero, List.set_cons_succ, List.getElem_toArray, List.getElem_cons_zero, List.getElem_cons_succ]
            refine hT (i := 34) (v := ?_) rfl (by kernel_rfl) (fun _ _ _ h => h) (by rfl) ?_ hHeld ?_
            rotate_left
            · (intro w_ hw_; (try dsimp only at hw_); go_simp; try with_reducible rfl)
            simp only [Act.put, List.setIfInBounds_toArray, List.set_cons_zero, List.set_cons_succ, List.getElem_toArray, List.getElem_cons_zero, List.getElem_cons_succ]
            refine wpAnyH_done (by kernel_rfl) ?_ _
            have z7 := q7.out _ j26.out
            clear hHeld
            go_wp2_with ((with_reducible refine (Hid.out rnk _ j26.out).mono ?_); rintro e v99 ⟨rfl, hi⟩; have j99 := hide (Bel.trans j26.out hi); clear hi)
            exact ⟨⟨k + 1, by omega, by go_num, by rw [y1.out], j99⟩, by simp [intOf]; omega⟩
          · clear HRk
            refine wp_region_held_drew (S := fun w' => Bel W5 w' ∧ (w'.cell? ⟨w.heap.size, 0, none⟩ = some (.int .i64 c.frames) ∧ w'.cell? ⟨w.heap.size, 1, none⟩ = some (.slice a1 c.parts.length b1) ∧ w'.cell? ⟨w.heap.size, 2, none⟩ = some (.slice a2 n2 b2) ∧ w'.cell? ⟨w.heap.size, 3, none⟩ = some (.int .i64 c.major) ∧ w'.cell? ⟨w.heap.size, 4, none⟩ = some (.slice a3 n3 b3) ∧ w'.cell? ⟨w.heap.size, 5, none⟩ = some (.slice a4 n4 b4) ∧ w'.cell? ⟨w.heap.size, 6, none⟩ = some (.int .i64 c.sectors) ∧ w'.cell? ⟨w.heap.size, 7, none⟩ = some (.int .i64 c.quota) ∧ w'.cell? ⟨w.heap.size, 8, none⟩ = some (.int .i64 c.quiet)) ∧ (w'.cell? ⟨v1.heap.size, 0, none⟩ = some (.int .i64 c.frames) ∧ w'.cell? ⟨v1.heap.size, 1, none⟩ = some (.slice a1 c.parts.length b1) ∧ w'.cell? ⟨v1.heap.size, 2, none⟩ = some (.slice a2 n2 b2) ∧ w'.cell? ⟨v1.heap.size, 3, none⟩ = some (.int .i64 c.major) ∧ w'.cell? ⟨v1.heap.size, 4, none⟩ = some (.slice a3 n3 b3) ∧ w'.cell? ⟨v1.heap.size, 5, none⟩ = some (.slice none 0 0) ∧ w'.cell? ⟨v1.heap.size, 6, none⟩ = some (.int .i64 c.sectors) ∧ w'.cell? ⟨v1.heap.size, 7, none⟩ = some (.int .i64 c.quota) ∧ w'.cell? ⟨v1.heap.size, 8, none⟩ = some (.int .i64 c.quiet))) (by kernel_rfl) ?_ (fun hHeld => ?_)
            · exact ⟨hd, q3.out _ hd, q7.out _ hd⟩
            refine hT (i := 0) (v := ?_) rfl (by kernel_rfl) (fun _ _ _ h => h) (by rfl) ?_ hHeld ?_
            rotate_left
            · (intro w_ hw_; (try dsimp only at hw_); go_simp; try with_reducible rfl)
            simp only [Act.put, List.setIfInBounds_toArray, List.set_cons_zero, List.set_cons_succ, List.getElem_toArray, List.getElem_cons_zero]
            refine hT (i := 1) (v := ?_) rfl (by kernel_rfl) (fun _ _ _ h => h) (by rfl) ?_ hHeld ?_
            rotate_left
            · (intro w_ hw_; (try dsimp only at hw_); go_simp; try with_reducible rfl)
            simp only [Act.put, List.setIfInBounds_toArray, List.set_cons_zero, List.set_cons_succ, List.getElem_toArray, List.getElem_cons_zero, List.getElem_cons_succ]
            refine hT (i := 2) (v := ?_) rfl (by kernel_rfl) (fun _ _ _ h => h) (by rfl) ?_ hHeld ?_
            rotate_left
            · (intro w_ hw_; (try dsimp only at hw_); go_simp; try with_reducible rfl)
            simp only [Act.put, List.setIfInBounds_toArray, List.set_cons_zero, List.set_cons_succ, List.getElem_toArray, List.getElem_cons_zero, List.getElem_cons_succ]
            refine hE (i := 3) rfl (by kernel_rfl) (by rfl) (fun K hK => ?_)
            go_simp
            refine (wck.out _ hHeld.1).mono ?_
            rintro e v3 ⟨rfl, hi⟩
            have j3 := hide (Bel.trans hHeld.1 hi)
            refine hK.out _ _ ?_ (fun hHeld => ?_)
            · exact ⟨j3.out, q3.out _ j3.out, q7.out _ j3.out⟩
            clear hK K
            refine hT (i := 4) (v := ?_) rfl (by kernel_rfl) (fun _ _ _ h => h) (by rfl) ?_ hHeld ?_
            rotate_left
            · (intro w_ hw_; (try dsimp only at hw_); go_simp; try with_reducible rfl)
            simp only [Act.put, List.setIfInBounds_toArray, List.set_cons_zero, List.set_cons_succ, List.getElem_toArray, List.getElem_cons_zero, List.getElem_cons_succ]
            refine hN (i := 5) rfl (by kernel_rfl) (fun _ _ _ h => h) (by rfl) hHeld ?_
            simp only [Act.put, List.setIfInBounds_toArray, List.set_cons_zero, List.set_cons_succ, List.getElem_toArray, List.getElem_cons_zero, List.getElem_cons_succ]
            refine hN (i := 6) rfl (by kernel_rfl) (fun _ _ _ h => h) (by rfl) hHeld ?_
            simp only [Act.put, List.setIfInBounds_toArray, List.set_cons_zero, List.set_cons_succ, List.getElem_toArray, List.getElem_cons_zero, List.getElem_cons_succ]
            refine hN (i := 7) rfl (by kernel_rfl) (fun _ _ _ h => h) (by rfl) hHeld ?_
            simp only [Act.put, List.setIfInBounds_toArray, List.set_cons_zero, List.set_cons_succ, List.getElem_toArray, List.getElem_cons_zero, List.getElem_cons_succ]
            refine hN (i := 8) rfl (by kernel_rfl) (fun _ _ _ h => h) (by rfl) hHeld ?_
            simp only [Act.put, List.setIfInBounds_toArray, List.set_cons_zero, List.set_cons_succ, List.getElem_toArray, List.getElem_cons_zero, List.getElem_cons_succ]
            refine hN (i := 9) rfl (by kernel_rfl) (fun _ _ _ h => h) (by rfl) hHeld ?_
            simp only [Act.put, List.setIfInBounds_toArray, List.set_cons_zero, List.set_cons_succ, List.getElem_toArray, List.getElem_cons_zero, List.getElem_cons_succ]
            refine hT (i := 10) (v := ?_) rfl (by kernel_rfl) (fun _ _ _ h => h) (by rfl) ?_ hHeld ?_
            rotate_left
            · (intro w_ hw_; (try dsimp only at hw_); go_simp; try with_reducible rfl)
            simp only [Act.put, List.setIfInBounds_toArray, List.set_cons_zero, List.set_cons_succ, List.getElem_toArray, List.getElem_cons_zero, List.getElem_cons_succ]
            refine hT (i := 11) (v := ?_) rfl (by kernel_rfl) (fun _ _ _ h => h) (by rfl) ?_ hHeld ?_
            rotate_left
            · (intro w_ hw_; (try dsimp only at hw_); go_simp; try with_reducible rfl)
            simp only [Act.put, List.setIfInBounds_toArray, List.set_cons_zero, List.set_cons_succ, List.getElem_toArray, List.getElem_cons_zero, List.getElem_cons_succ]
            refine hT (i := 12) (v := ?_) rfl (by kernel_rfl) (fun _ _ _ h => h) (by rfl) ?_ hHeld ?_
            rotate_left
            · (intro w_ hw_; (try dsimp only at hw_); go_simp; try with_reducible rfl)
            simp only [Act.put, List.setIfInBounds_toArray, List.set_cons_zero, List.set_cons_succ, List.getElem_toArray, List.getElem_cons_zero, List.getElem_cons_succ]
            refine hT (i := 13) (v := ?_) rfl (by kernel_rfl) (fun _ _ _ h => h) (by rfl) ?_ hHeld ?_
            rotate_left
            · (intro w_ hw_; (try dsimp only at hw_); go_simp; try with_reducible rfl)
            simp only [Act.put, List.setIfInBounds_toArray, List.set_cons_zero, List.set_cons_succ, List.getElem_toArray, List.getElem_cons_zero, List.getElem_cons_succ]
            refine hT (i := 14) (v := ?_) rfl (by kernel_rfl) (fun _ _ _ h => h) (by rfl) ?_ hHeld ?_
            rotate_left
            · (intro w_ hw_; (try dsimp only at hw_); go_simp; try with_reducible rfl)
            simp only [Act.put, List.setIfInBounds_toArray, List.set_cons_zero, List.set_cons_succ, List.getElem_toArray, List.getElem_cons_zero, List.getElem_cons_succ]
            refine hT (i := 16) (v := ?_) rfl (by kernel_rfl) (fun _ _ _ h => h) (by rfl) ?_ hHeld ?_
            rotate_left
            · (intro w_ hw_; (try dsimp only at hw_); go_simp; try with_reducible rfl)
            simp only [Act.put, List.setIfInBounds_toArray, List.set_cons_zero, List.set_cons_succ, List.getElem_toArray, List.getElem_cons_zero, List.getElem_cons_succ]
            refine hT (i := 17) (v := ?_) rfl (by kernel_rfl) (fun _ _ _ h => h) (by rfl) ?_ hHeld ?_
            rotate_left
            · (intro w_ hw_; (try dsimp only at hw_); go_simp; try with_reducible rfl)
            simp only [Act.put, List.setIfInBounds_toArray, List.set_cons_zero, List.set_cons_succ, List.getElem_toArray, List.getElem_cons_zero, List.getElem_cons_succ]
            refine hT (i := 18) (v := ?_) rfl (by kernel_rfl) (fun _ _ _ h => h) (by rfl) ?_ hHeld ?_
            rotate_left
            · (intro w_ hw_; (try dsimp only at hw_); go_simp; try with_reducible rfl)
            simp only [Act.put, List.setIfInBounds_toArray, List.set_cons_zero, List.set_cons_succ, List.getElem_toArray, List.getElem_cons_zero, List.getElem_cons_succ]
            refine hE (i := 15) rfl (by kernel_rfl) (by rfl) (fun K hK => ?_)
            go_simp
            refine (rnk.out _ hHeld.1).mono ?_
            rintro e v15 ⟨rfl, hi⟩
            have j15 := hide (Bel.trans hHeld.1 hi)
            refine hK.out _ _ ?_ (fun hHeld => ?_)
            · exact ⟨j15.out, q3.out _ j15.out, q7.out _ j15.out⟩
            clear hK K
            refine hE (i := 19) rfl (by kernel_rfl) (by rfl) (fun K hK => ?_)
            go_simp
            refine (wnk.out _ hHeld.1).mono ?_
            rintro e v19 ⟨rfl, hi⟩
            have j19 := hide (Bel.trans hHeld.1 hi)
            refine hK.out _ _ ?_ (fun hHeld => ?_)
            · exact ⟨j19.out, q3.out _ j19.out, q7.out _ j19.out⟩
            clear hK K
            refine hT (i := 20) (v := ?_) rfl (by kernel_rfl) (fun _ _ _ h => h) (by rfl) ?_ hHeld ?_
            rotate_left
            · (intro w_ hw_; (try dsimp only at hw_); go_simp; try with_reducible rfl)
            simp only [Act.put, List.setIfInBounds_toArray, List.set_cons_zero, List.set_cons_succ, List.getElem_toArray, List.getElem_cons_zero, List.getElem_cons_succ]
            refine hT (i := 21) (v := ?_) rfl (by kernel_rfl) (fun _ _ _ h => h) (by rfl) ?_ hHeld ?_
            rotate_left
            · (intro w_ hw_; (try dsimp only at hw_); go_simp; try with_reducible rfl)
            simp only [Act.put, List.setIfInBounds_toArray, List.set_cons_zero, List.set_cons_succ, List.getElem_toArray, List.getElem_cons_zero, List.getElem_cons_succ]
            refine hT (i := 22) (v := ?_) rfl (by kernel_rfl) (fun _ _ _ h => h) (by rfl) ?_ hHeld ?_
            rotate_left
            · (intro w_ hw_; (try dsimp only at hw_); go_simp; try with_reducible rfl)
            simp only [Act.put, List.setIfInBounds_toArray, List.set_cons_zero, List.set_cons_succ, List.getElem_toArray, List.getElem_cons_zero, List.getElem_cons_succ]
            refine hT (i := 23) (v := ?_) rfl (by kernel_rfl) (fun _ _ _ h => h) (by rfl) ?_ hHeld ?_
            rotate_left
            · (intro w_ hw_; (try dsimp only at hw_); go_simp; try with_reducible rfl)
            simp only [Act.put, List.setIfInBounds_toArray, List.set_cons_zero, List.set_cons_succ, List.getElem_toArray, List.getElem_cons_zero, List.getElem_cons_succ]
            refine hT (i := 24) (v := ?_) rfl (by kernel_rfl) (fun _ _ _ h => h) (by rfl) ?_ hHeld ?_
            rotate_left
            · (intro w_ hw_; (try dsimp only at hw_); go_simp; try with_reducible rfl)
            simp only [Act.put, List.setIfInBounds_toArray, List.set_cons_zero, List.set_cons_succ, List.getElem_toArray, List.getElem_cons_zero, List.getElem_cons_succ]
            refine hT (i := 25) (v := ?_) rfl (by kernel_rfl) (fun _ _ _ h => h) (by rfl) ?_ hHeld ?_
            rotate_left
            · (intro w_ hw_; (try dsimp only at hw_); go_simp; try with_reducible rfl)
            simp only [Act.put, List.setIfInBounds_toArray, List.set_cons_zero, List.set_cons_succ, List.getElem_toArray, List.getElem_cons_zero, List.getElem_cons_succ]
            refine hE (i := 26) rfl (by kernel_rfl) (by rfl) (fun K hK => ?_)
            go_simp
            refine (rnk.out _ hHeld.1).mono ?_
            rintro e v26 ⟨rfl, hi⟩
            have j26 := hide (Bel.trans hHeld.1 hi)
            refine hK.out _ _ ?_ (fun hHeld => ?_)
            · exact ⟨j26.out, q3.out _ j26.out, q7.out _ j26.out⟩
            clear hK K
            refine hT (i := 27) (v := ?_) rfl (by kernel_rfl) (fun _ _ _ h => h) (by rfl) ?_ hHeld ?_
            rotate_left
            · (intro w_ hw_; (try dsimp only at hw_); go_simp; try with_reducible rfl)
            simp only [Act.put, List.setIfInBounds_toArray, List.set_cons_zero, List.set_cons_succ, List.getElem_toArray, List.getElem_cons_zero, List.getElem_cons_succ]
            refine hN (i := 28) rfl (by kernel_rfl) (fun _ _ _ h => h) (by rfl) hHeld ?_
            simp only [Act.put, List.setIfInBounds_toArray, List.set_cons_zero, List.set_cons_succ, List.getElem_toArray, List.getElem_cons_zero, List.getElem_cons_succ]
            refine hN (i := 29) rfl (by kernel_rfl) (fun _ _ _ h => h) (by rfl) hHeld ?_
            simp only [Act.put, List.setIfInBounds_toArray, List.set_cons_zero, List.set_cons_succ, List.getElem_toArray, List.getElem_cons_zero, List.getElem_cons_succ]
            refine hN (i := 30) rfl (by kernel_rfl) (fun _ _ _ h => h) (by rfl) hHeld ?_
            simp only [Act.put, List.setIfInBounds_toArray, List.set_cons_zero, List.set_cons_succ, List.getElem_toArray, List.getElem_cons_zero, List.getElem_cons_succ]
            refine hN (i := 31) rfl (by kernel_rfl) (fun _ _ _ h => h) (by rfl) hHeld ?_
            simp only [Act.put, List.setIfInBounds_toArray, List.set_cons_zero, List.set_cons_succ, List.getElem_toArray, List.getElem_cons_zero, List.getElem_cons_succ]
            refine hN (i := 32) rfl (by kernel_rfl) (fun _ _ _ h => h) (by rfl) hHeld ?_
            simp only [Act.put, List.setIfInBounds_toArray, List.set_cons_zero, List.set_cons_succ, List.getElem_toArray, List.getElem_cons_zero, List.getElem_cons_succ]
            refine hT (i := 33) (v := ?_) rfl (by kernel_rfl) (fun _ _ _ h => h) (by rfl) ?_ hHeld ?_
            rotate_left
            · (intro w_ hw_; (try dsimp only at hw_); go_simp; try with_reducible rfl)
            simp only [Act.put, List.setIfInBounds_toArray, List.set_cons_zero, List.set_cons_succ, List.getElem_toArray, List.getElem_cons_zero, List.getElem_cons_succ]
            refine hT (i := 34) (v := ?_) rfl (by kernel_rfl) (fun _ _ _ h => h) (by rfl) ?_ hHeld ?_
            rotate_left
            · (intro w_ hw_; (try dsimp only at hw_); go_simp; try with_reducible rfl)
            simp only [Act.put, List.setIfInBounds_toArray, List.set_cons_zero, List.set_cons_succ, List.getElem_toArray, List.getElem_cons_zero, List.getElem_cons_succ]
            refine wpAnyH_done (by kernel_rfl) ?_ _
            have z7 := q7.out _ j26.out
            clear hHeld
            go_wp2_with ((with_reducible refine (Hid.out rnk _ j26.out).mono ?_); rintro e v99 ⟨rfl, hi⟩; have j99 := hide (Bel.trans j26.out hi); clear hi)
            exact ⟨⟨k + 1, by omega, by go_num, by rw [y1.out], j99⟩, by simp [intOf]; omega⟩
      · obtain rfl : k = c.parts.length := by omega
        obtain ⟨hm0, hm1⟩ := manyK_le o c.parts.length
        generalize manyK o c.parts.length = y at hm0 hm1 ⊢
        clear rc wc rn wn HA HR
        have ro1 := hide fun W (hW : Bel W5 W) => ro.out (c.parts.length : Int) W (by unfold I64; omega) (by unfold there; simp) hW
        simp only [Int.cast_ofNat_Int] at hpart7
        have ro2 := hide fun W (hW : Bel W5 W) => ro.out (-1 - bits BinOp.and IntKind.i64 part 7) W (by unfold I64; omega) (by unfold there; rw [decide_eq_false (by omega)]; rfl) hW
        clear ro
        have k7 := q7.out wr HI.out
        go_wp2_with (first
          | ((with_reducible refine (Hid.out mn _ HI.out).mono ?_); rintro e v2 ⟨rfl, i2⟩; have h2 := hide (Bel.trans HI.out i2); clear i2; have k4 := q3.out _ h2.out)
          | ((with_reducible refine (Hid.out ro1 _ h2.out).mono ?_); rintro e v3 ⟨rfl, i3⟩; have h3 := hide (Bel.trans h2.out i3); clear i3; have k5 := q3.out _ h3.out)
          | ((with_reducible refine (Hid.out ro2 _ h3.out).mono ?_); rintro e v4 ⟨rfl, i4⟩; have h4 := hide (Bel.trans h3.out i4); clear i4))
        go_ret
        exact ⟨rfl, Bel.trans HW5.out h4.out⟩
end Go.Proofs.Ythjhkbnajclcjaa
