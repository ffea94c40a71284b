/- The reference's grantsMay: it answers as config.grants. -/
import Derived.Test.YthjhkbnajclcjaaROwn
import Derived.Test.YthjhkbnajclcjaaCfgP
import Derived.Test.YthjhkbnajclcjaaDraw
set_option linter.unusedSimpArgs false
namespace Go.Proofs.Ythjhkbnajclcjaa
open Go.RowKit

/-- The grants that were looked at, the last one first. -/
def prevs (gs : List Grant) (k : Nat) : List (Int × Int) := ((gs.take k).map fun g => (g.frame, g.to)).reverse
theorem prevs_succ {gs : List Grant} {k : Nat} (h : k < gs.length) : prevs gs (k + 1) = (gs[k].frame, gs[k].to) :: prevs gs k := by
  unfold prevs
  rw [List.take_succ_eq_append_getElem h, List.map_append, List.reverse_append]
  rfl
def sameGr (f t : Int) (h : Grant) : Bool := h.frame == f && h.to == t
theorem prevs_mem (gs : List Grant) (k : Nat) (f t : Int) : (gs.take k).any (sameGr f t) = decide ((f, t) ∈ prevs gs k) := by
  rw [Bool.eq_iff_iff]
  simp only [prevs, List.any_eq_true, sameGr, Bool.and_eq_true, beq_iff_eq, decide_eq_true_eq, List.mem_reverse, List.mem_map, Prod.mk.injEq]

set_option maxRecDepth 20000 in
set_option maxHeartbeats 16000000 in
theorem rGrants_calls (w : World) (v : Value) (c : Config) (h : CfgV w v c) :
    Calls Try.prog 62 #[v] w fun e w' => e = .returned (.bool (grantsRule c)) ∧ Bel w w' := by
  obtain ⟨A1, A2, A3, A4, b1, o1, n1, b2, o2, n2, b3, o3, n3, b4, o4, n4, rfl, HC, HR1, HR2, HR3, HR4, HS1, HS2, HS3, HS4, hA1, hA2, hA3, hA4, hL1, hL2, hL3, hL4⟩ := h.parts4
  have HE : Hid (grantsRule c = grantsGo c [] c.grants) := rfl
  generalize grantsRule c = res at HE
  have HO := hide fun W f (hW : Bel w W) => rOwner_calls W _ c f (h.bel hW)
  clear h HR1 HR2 HR3 HS2 HS3 HS4 HS1 hA1 hA2 hA3 hL2 hL3 HC
  go_enter Try.func62, Try.ntmps62
  go_upto_region 1 with fail
  obtain ⟨W1, hW1⟩ : ∃ W1 : World, W1 = w.alloc (.cells #[.int .i64 c.frames, .slice A1 c.parts.length n1, .slice A2 c.devices.length n2, .int .i64 c.major, .slice A3 c.windows.length n3, .slice A4 c.grants.length n4, .int .i64 c.sectors, .int .i64 c.quota, .int .i64 c.quiet] 27) := ⟨_, rfl⟩
  rw [← hW1]
  have HB1 := hide (show Bel w W1 by rw [hW1]; exact (bel_refl w).alloc _)
  have HX := hide (show BoxAt W1 w.heap.size (.int .i64 c.frames) (.slice A1 c.parts.length n1) (.slice A2 c.devices.length n2) (.int .i64 c.major) (.slice A3 c.windows.length n3) (.slice A4 c.grants.length n4) (.int .i64 c.sectors) (.int .i64 c.quota) (.int .i64 c.quiet) by rw [hW1]; exact box_new _ _ _ _ _ _ _ _ _ _ _)
  clear hW1
  have HR := hide (HR4.out.bel HB1.out)
  have hwlt := hide (World.block_lt_of_cell? W1 _ HX.out.k0)
  clear HR4
  go_wp2_with fail
  go_loopw [3] (fun t W => ∃ k : Nat, k ≤ c.grants.length ∧ t = .int .i64 k ∧ Hid (Bel W1 W) ∧ Hid (grantsGo c (prevs c.grants k) (c.grants.drop k) = grantsGo c [] c.grants)) (fun t _ => c.grants.length - (intOf t).toNat)
  case atStart => exact ⟨0, Nat.zero_le _, rfl, hide (bel_refl _), hide rfl⟩
  case round =>
    obtain ⟨k, hk, rfl, HI, HW⟩ := hrel
    have hwr := Nat.lt_of_lt_of_le hwlt.out HI.out.size
    obtain ⟨k0, k1, k2, k3, k4, k5, k6, k7, k8⟩ := HX.out.bel HI.out
    by_cases hlt : k < c.grants.length
    · obtain ⟨d0, d1, d2, hK, hc_0, hc_1, hc_2⟩ := (HR.out.bel HI.out).get3 rfl hlt
      have HP := hide (show grantsGo c (prevs c.grants k) (c.grants.drop k) = ((decide (0 ≤ ownerOf c c.grants[k].frame) && (there c c.grants[k].to && (!(c.grants[k].to == ownerOf c c.grants[k].frame) && !decide ((c.grants[k].frame, c.grants[k].to) ∈ prevs c.grants k)))) && grantsGo c (prevs c.grants (k + 1)) (c.grants.drop (k + 1))) by rw [drop_cons hlt, prevs_succ hlt]; rfl)
      obtain ⟨rfl, rfl, rfl, -, -⟩ := kGrant_vals hK
      have hpm := prevs_mem c.grants k c.grants[k].frame c.grants[k].to
      rw [← hpm] at HP
      clear hK hpm
      generalize c.grants[k] = x at hc_0 hc_1 hc_2 HP
      obtain ⟨xf, xt, xw⟩ := x
      simp only at hc_0 hc_1 hc_2 HP
      obtain rfl := hA4 (by omega)
      have ho := hide fun W (hW : Bel wr W) => HO.out W xf (Bel.trans HB1.out (Bel.trans HI.out hW))
      have HTI := hide (there_iff c xt)
      generalize ownerOf c xf = ow at ho HP
      have HB2 := hide fun o => (bel_refl wr).alloc o
      go_upto_region 6 with ((with_reducible refine (Hid.out ho _ ((bel_refl wr).alloc _)).mono ?_); rintro e W2 ⟨rfl, hi⟩)
      have x0 := hi.cell (p := ⟨wr.heap.size, 0, none⟩) (v := .int .i64 xf) (by go_simp)
      have x1 := hi.cell (p := ⟨wr.heap.size, 1, none⟩) (v := .int .i64 xt) (by go_simp)
      have HW2 := hide (Bel.trans (HB2.out _) hi)
      obtain ⟨-, m1, -, -, -, m5, -⟩ := HX.out.bel (Bel.trans HI.out HW2.out)
      have hwr2 := hide (World.block_lt_of_cell? W2 _ x0)
      clear hi ho k0 k1 k2 k3 k4 k5 k6 k7 k8 hc_0 hc_1 hc_2
      generalize wr.heap.size = B at x0 x1 hwr2 ⊢
      by_cases n1 : ow < 0
      · have HX1 := hide (show decide (0 ≤ ow) = false from decide_eq_false (by omega))
        go_wp2_with fail
        go_ret
        rw [HE.out, ← HW.out, HP.out, HX1.out]
        exact ⟨rfl, Bel.trans HB1.out (Bel.trans HI.out HW2.out)⟩
      have HX1 := hide (show decide (0 ≤ ow) = true from decide_eq_true (by omega))
      cases qt : there c xt
      · rw [qt] at HP HTI
        have hn : ¬ (0 ≤ xt ∧ xt < (c.parts.length : Int)) := fun h => by have := HTI.out.2 h; simp at this
        clear HTI qt
        by_cases n2 : xt < 0
        · clear hn
          go_wp2_with fail
          go_ret
          rw [HE.out, ← HW.out, HP.out, HX1.out]
          exact ⟨rfl, Bel.trans HB1.out (Bel.trans HI.out HW2.out)⟩
        · have n3 : (c.parts.length : Int) ≤ xt := by omega
          clear hn
          go_wp2_with fail
          go_ret
          rw [HE.out, ← HW.out, HP.out, HX1.out]
          exact ⟨rfl, Bel.trans HB1.out (Bel.trans HI.out HW2.out)⟩
      rw [qt] at HP HTI
      obtain ⟨n2, n3⟩ := HTI.out.1 rfl
      clear HTI qt
      cases q3 : (xt == ow)
      · rw [q3] at HP
        go_wp2_with fail
        clear m1
        go_loopw [6] (fun t W => ∃ j : Nat, j ≤ k ∧ t = .int .i64 j ∧ Hid (Bel W2 W) ∧ Hid (((c.grants.take k).drop j).any (sameGr xf xt) = (c.grants.take k).any (sameGr xf xt))) (fun t _ => k - (intOf t).toNat)
        case atStart => exact ⟨0, Nat.zero_le _, rfl, hide (bel_refl _), hide rfl⟩
        case round =>
          obtain ⟨j, hj, rfl, HJ, HA2⟩ := hrel
          by_cases hjlt : j < k
          · have hjp : j < c.grants.length := by omega
            obtain ⟨e0, e1, e2, hK, y0, y1, y2⟩ := (HR.out.bel (Bel.trans HI.out (Bel.trans HW2.out HJ.out))).get3 rfl hjp
            obtain ⟨rfl, rfl, rfl, -, -⟩ := kGrant_vals hK
            have HPj := hide (show ((c.grants.take k).drop j).any (sameGr xf xt) = ((c.grants[j].frame == xf && c.grants[j].to == xt) || ((c.grants.take k).drop (j + 1)).any (sameGr xf xt)) by
              rw [drop_cons (by rw [List.length_take]; omega), List.any_cons, List.getElem_take]; rfl)
            clear hK y2
            generalize c.grants[j] = y at y0 y1 HPj
            obtain ⟨yf, yt, yw⟩ := y
            simp only at y0 y1 HPj
            have m5 := HJ.out.cell m5
            have x0 := HJ.out.cell x0
            have x1 := HJ.out.cell x1
            have HJd := hide HJ.out.drew
            have j0 : (0 : Int) ≤ (j : Int) := by omega
            have j1 : (j : Int) < (c.grants.length : Int) := by omega
            cases p1 : (yf == xf)
            · rw [p1] at HPj
              go_wp2_with fail
              refine wp_region_held_drew (S := fun w' => w'.cell? ⟨w.heap.size, 5, none⟩ = some (.slice (some ⟨b4, o4, none⟩) c.grants.length n4) ∧ w'.cell? ⟨b4, o4 + j * 3, none⟩ = some (.int .i64 yf) ∧ w'.cell? ⟨b4, o4 + j * 3 + 1, none⟩ = some (.int .i64 yt) ∧ w'.cell? ⟨B, 0, none⟩ = some (.int .i64 xf) ∧ w'.cell? ⟨B, 1, none⟩ = some (.int .i64 xt)) (by kernel_rfl) ?_ (fun hHeld => ?_)
              · exact ⟨m5, y0, y1, x0, x1⟩
              refine hT (i := 0) (v := ?_) rfl (by kernel_rfl) (fun _ _ _ h => h) (by rfl) ?_ hHeld ?_
              rotate_left
              · (intro w_ hw_; (try dsimp only at hw_); go_simp; try with_reducible rfl)
              simp only [Act.put, List.setIfInBounds_toArray, List.set_cons_zero, List.set_cons_succ, List.getElem_toArray, List.getElem_cons_zero]
              refine hT (i := 1) (v := ?_) rfl (by kernel_rfl) (fun _ _ _ h => h) (by rfl) ?_ hHeld ?_
              rotate_left
              · (intro w_ hw_; (try dsimp only at hw_); go_simp; try with_reducible rfl)
              simp only [Act.put, List.setIfInBounds_toArray, List.set_cons_zero, List.set_cons_succ, List.getElem_toArray, List.getElem_cons_zero, List.getElem_cons_succ]
              refine hT (i := 2) (v := ?_) rfl (by kernel_rfl) (fun _ _ _ h => h) (by rfl) ?_ hHeld ?_
              rotate_left
              · (intro w_ hw_; (try dsimp only at hw_); go_simp; try with_reducible rfl)
              simp only [Act.put, List.setIfInBounds_toArray, List.set_cons_zero, List.set_cons_succ, List.getElem_toArray, List.getElem_cons_zero, List.getElem_cons_succ]
              refine hT (i := 3) (v := ?_) rfl (by kernel_rfl) (fun _ _ _ h => h) (by rfl) ?_ hHeld ?_
              rotate_left
              · (intro w_ hw_; (try dsimp only at hw_); go_simp; try with_reducible rfl)
              simp only [Act.put, List.setIfInBounds_toArray, List.set_cons_zero, List.set_cons_succ, List.getElem_toArray, List.getElem_cons_zero, List.getElem_cons_succ]
              refine hT (i := 4) (v := ?_) rfl (by kernel_rfl) (fun _ _ _ h => h) (by rfl) ?_ hHeld ?_
              rotate_left
              · (intro w_ hw_; (try dsimp only at hw_); go_simp; try with_reducible rfl)
              simp only [Act.put, List.setIfInBounds_toArray, List.set_cons_zero, List.set_cons_succ, List.getElem_toArray, List.getElem_cons_zero, List.getElem_cons_succ]
              refine hT (i := 5) (v := ?_) rfl (by kernel_rfl) (fun _ _ _ h => h) (by rfl) ?_ hHeld ?_
              rotate_left
              · (intro w_ hw_; (try dsimp only at hw_); go_simp; try with_reducible rfl)
              simp only [Act.put, List.setIfInBounds_toArray, List.set_cons_zero, List.set_cons_succ, List.getElem_toArray, List.getElem_cons_zero, List.getElem_cons_succ]
              refine hT (i := 6) (v := ?_) rfl (by kernel_rfl) (fun _ _ _ h => h) (by rfl) ?_ hHeld ?_
              rotate_left
              · (intro w_ hw_; (try dsimp only at hw_); go_simp; try with_reducible rfl)
              simp only [Act.put, List.setIfInBounds_toArray, List.set_cons_zero, List.set_cons_succ, List.getElem_toArray, List.getElem_cons_zero, List.getElem_cons_succ]
              refine hT (i := 7) (v := ?_) rfl (by kernel_rfl) (fun _ _ _ h => h) (by rfl) ?_ hHeld ?_
              rotate_left
              · (intro w_ hw_; (try dsimp only at hw_); go_simp; try with_reducible rfl)
              simp only [Act.put, List.setIfInBounds_toArray, List.set_cons_zero, List.set_cons_succ, List.getElem_toArray, List.getElem_cons_zero, List.getElem_cons_succ]
              refine hT (i := 8) (v := ?_) rfl (by kernel_rfl) (fun _ _ _ h => h) (by rfl) ?_ hHeld ?_
              rotate_left
              · (intro w_ hw_; (try dsimp only at hw_); go_simp; try with_reducible rfl)
              simp only [Act.put, List.setIfInBounds_toArray, List.set_cons_zero, List.set_cons_succ, List.getElem_toArray, List.getElem_cons_zero, List.getElem_cons_succ]
              refine hT (i := 9) (v := ?_) rfl (by kernel_rfl) (fun _ _ _ h => h) (by rfl) ?_ hHeld ?_
              rotate_left
              · (intro w_ hw_; (try dsimp only at hw_); go_simp; try with_reducible rfl)
              simp only [Act.put, List.setIfInBounds_toArray, List.set_cons_zero, List.set_cons_succ, List.getElem_toArray, List.getElem_cons_zero, List.getElem_cons_succ]
              refine hN (i := 10) rfl (by kernel_rfl) (fun _ _ _ h => h) (by rfl) hHeld ?_
              simp only [Act.put, List.setIfInBounds_toArray, List.set_cons_zero, List.set_cons_succ, List.getElem_toArray, List.getElem_cons_zero, List.getElem_cons_succ]
              refine hN (i := 11) rfl (by kernel_rfl) (fun _ _ _ h => h) (by rfl) hHeld ?_
              simp only [Act.put, List.setIfInBounds_toArray, List.set_cons_zero, List.set_cons_succ, List.getElem_toArray, List.getElem_cons_zero, List.getElem_cons_succ]
              refine hN (i := 12) rfl (by kernel_rfl) (fun _ _ _ h => h) (by rfl) hHeld ?_
              simp only [Act.put, List.setIfInBounds_toArray, List.set_cons_zero, List.set_cons_succ, List.getElem_toArray, List.getElem_cons_zero, List.getElem_cons_succ]
              refine hN (i := 13) rfl (by kernel_rfl) (fun _ _ _ h => h) (by rfl) hHeld ?_
              simp only [Act.put, List.setIfInBounds_toArray, List.set_cons_zero, List.set_cons_succ, List.getElem_toArray, List.getElem_cons_zero, List.getElem_cons_succ]
              refine hN (i := 14) rfl (by kernel_rfl) (fun _ _ _ h => h) (by rfl) hHeld ?_
              simp only [Act.put, List.setIfInBounds_toArray, List.set_cons_zero, List.set_cons_succ, List.getElem_toArray, List.getElem_cons_zero, List.getElem_cons_succ]
              refine hN (i := 15) rfl (by kernel_rfl) (fun _ _ _ h => h) (by rfl) hHeld ?_
              simp only [Act.put, List.setIfInBounds_toArray, List.set_cons_zero, List.set_cons_succ, List.getElem_toArray, List.getElem_cons_zero, List.getElem_cons_succ]
              refine hN (i := 16) rfl (by kernel_rfl) (fun _ _ _ h => h) (by rfl) hHeld ?_
              simp only [Act.put, List.setIfInBounds_toArray, List.set_cons_zero, List.set_cons_succ, List.getElem_toArray, List.getElem_cons_zero, List.getElem_cons_succ]
              refine hN (i := 17) rfl (by kernel_rfl) (fun _ _ _ h => h) (by rfl) hHeld ?_
              simp only [Act.put, List.setIfInBounds_toArray, List.set_cons_zero, List.set_cons_succ, List.getElem_toArray, List.getElem_cons_zero, List.getElem_cons_succ]
              refine hN (i := 18) rfl (by kernel_rfl) (fun _ _ _ h => h) (by rfl) hHeld ?_
              simp only [Act.put, List.setIfInBounds_toArray, List.set_cons_zero, List.set_cons_succ, List.getElem_toArray, List.getElem_cons_zero, List.getElem_cons_succ]
              refine hT (i := 19) (v := ?_) rfl (by kernel_rfl) (fun _ _ _ h => h) (by rfl) ?_ hHeld ?_
              rotate_left
              · (intro w_ hw_; (try dsimp only at hw_); go_simp; try with_reducible rfl)
              simp only [Act.put, List.setIfInBounds_toArray, List.set_cons_zero, List.set_cons_succ, List.getElem_toArray, List.getElem_cons_zero, List.getElem_cons_succ]
              refine wpAnyH_done (by kernel_rfl) ?_ _
              clear hHeld
              go_wp2_with fail
              exact ⟨⟨j + 1, by omega, by go_num, HJd, hide (by rw [← HA2.out, HPj.out]; rfl)⟩, by simp [intOf]; omega⟩
            · rw [p1] at HPj
              cases p2 : (yt == xt)
              · rw [p2] at HPj
                go_wp2_with fail
                refine wp_region_held_drew (S := fun w' => w'.cell? ⟨w.heap.size, 5, none⟩ = some (.slice (some ⟨b4, o4, none⟩) c.grants.length n4) ∧ w'.cell? ⟨b4, o4 + j * 3, none⟩ = some (.int .i64 yf) ∧ w'.cell? ⟨b4, o4 + j * 3 + 1, none⟩ = some (.int .i64 yt) ∧ w'.cell? ⟨B, 0, none⟩ = some (.int .i64 xf) ∧ w'.cell? ⟨B, 1, none⟩ = some (.int .i64 xt)) (by kernel_rfl) ?_ (fun hHeld => ?_)
                · exact ⟨m5, y0, y1, x0, x1⟩
                refine hT (i := 0) (v := ?_) rfl (by kernel_rfl) (fun _ _ _ h => h) (by rfl) ?_ hHeld ?_
                rotate_left
                · (intro w_ hw_; (try dsimp only at hw_); go_simp; try with_reducible rfl)
                simp only [Act.put, List.setIfInBounds_toArray, List.set_cons_zero, List.set_cons_succ, List.getElem_toArray, List.getElem_cons_zero]
                refine hT (i := 1) (v := ?_) rfl (by kernel_rfl) (fun _ _ _ h => h) (by rfl) ?_ hHeld ?_
                rotate_left
                · (intro w_ hw_; (try dsimp only at hw_); go_simp; try with_reducible rfl)
                simp only [Act.put, List.setIfInBounds_toArray, List.set_cons_zero, List.set_cons_succ, List.getElem_toArray, List.getElem_cons_zero, List.getElem_cons_succ]
                refine hT (i := 2) (v := ?_) rfl (by kernel_rfl) (fun _ _ _ h => h) (by rfl) ?_ hHeld ?_
                rotate_left
                · (intro w_ hw_; (try dsimp only at hw_); go_simp; try with_reducible rfl)
                simp only [Act.put, List.setIfInBounds_toArray, List.set_cons_zero, List.set_cons_succ, List.getElem_toArray, List.getElem_cons_zero, List.getElem_cons_succ]
                refine hT (i := 3) (v := ?_) rfl (by kernel_rfl) (fun _ _ _ h => h) (by rfl) ?_ hHeld ?_
                rotate_left
                · (intro w_ hw_; (try dsimp only at hw_); go_simp; try with_reducible rfl)
                simp only [Act.put, List.setIfInBounds_toArray, List.set_cons_zero, List.set_cons_succ, List.getElem_toArray, List.getElem_cons_zero, List.getElem_cons_succ]
                refine hT (i := 4) (v := ?_) rfl (by kernel_rfl) (fun _ _ _ h => h) (by rfl) ?_ hHeld ?_
                rotate_left
                · (intro w_ hw_; (try dsimp only at hw_); go_simp; try with_reducible rfl)
                simp only [Act.put, List.setIfInBounds_toArray, List.set_cons_zero, List.set_cons_succ, List.getElem_toArray, List.getElem_cons_zero, List.getElem_cons_succ]
                refine hT (i := 5) (v := ?_) rfl (by kernel_rfl) (fun _ _ _ h => h) (by rfl) ?_ hHeld ?_
                rotate_left
                · (intro w_ hw_; (try dsimp only at hw_); go_simp; try with_reducible rfl)
                simp only [Act.put, List.setIfInBounds_toArray, List.set_cons_zero, List.set_cons_succ, List.getElem_toArray, List.getElem_cons_zero, List.getElem_cons_succ]
                refine hT (i := 6) (v := ?_) rfl (by kernel_rfl) (fun _ _ _ h => h) (by rfl) ?_ hHeld ?_
                rotate_left
                · (intro w_ hw_; (try dsimp only at hw_); go_simp; try with_reducible rfl)
                simp only [Act.put, List.setIfInBounds_toArray, List.set_cons_zero, List.set_cons_succ, List.getElem_toArray, List.getElem_cons_zero, List.getElem_cons_succ]
                refine hT (i := 7) (v := ?_) rfl (by kernel_rfl) (fun _ _ _ h => h) (by rfl) ?_ hHeld ?_
                rotate_left
                · (intro w_ hw_; (try dsimp only at hw_); go_simp; try with_reducible rfl)
                simp only [Act.put, List.setIfInBounds_toArray, List.set_cons_zero, List.set_cons_succ, List.getElem_toArray, List.getElem_cons_zero, List.getElem_cons_succ]
                refine hT (i := 8) (v := ?_) rfl (by kernel_rfl) (fun _ _ _ h => h) (by rfl) ?_ hHeld ?_
                rotate_left
                · (intro w_ hw_; (try dsimp only at hw_); go_simp; try with_reducible rfl)
                simp only [Act.put, List.setIfInBounds_toArray, List.set_cons_zero, List.set_cons_succ, List.getElem_toArray, List.getElem_cons_zero, List.getElem_cons_succ]
                refine hT (i := 9) (v := ?_) rfl (by kernel_rfl) (fun _ _ _ h => h) (by rfl) ?_ hHeld ?_
                rotate_left
                · (intro w_ hw_; (try dsimp only at hw_); go_simp; try with_reducible rfl)
                simp only [Act.put, List.setIfInBounds_toArray, List.set_cons_zero, List.set_cons_succ, List.getElem_toArray, List.getElem_cons_zero, List.getElem_cons_succ]
                refine hT (i := 10) (v := ?_) rfl (by kernel_rfl) (fun _ _ _ h => h) (by rfl) ?_ hHeld ?_
                rotate_left
                · (intro w_ hw_; (try dsimp only at hw_); go_simp; try with_reducible rfl)
                simp only [Act.put, List.setIfInBounds_toArray, List.set_cons_zero, List.set_cons_succ, List.getElem_toArray, List.getElem_cons_zero, List.getElem_cons_succ]
                refine hT (i := 11) (v := ?_) rfl (by kernel_rfl) (fun _ _ _ h => h) (by rfl) ?_ hHeld ?_
                rotate_left
                · (intro w_ hw_; (try dsimp only at hw_); go_simp; try with_reducible rfl)
                simp only [Act.put, List.setIfInBounds_toArray, List.set_cons_zero, List.set_cons_succ, List.getElem_toArray, List.getElem_cons_zero, List.getElem_cons_succ]
                refine hT (i := 12) (v := ?_) rfl (by kernel_rfl) (fun _ _ _ h => h) (by rfl) ?_ hHeld ?_
                rotate_left
                · (intro w_ hw_; (try dsimp only at hw_); go_simp; try with_reducible rfl)
                simp only [Act.put, List.setIfInBounds_toArray, List.set_cons_zero, List.set_cons_succ, List.getElem_toArray, List.getElem_cons_zero, List.getElem_cons_succ]
                refine hT (i := 13) (v := ?_) rfl (by kernel_rfl) (fun _ _ _ h => h) (by rfl) ?_ hHeld ?_
                rotate_left
                · (intro w_ hw_; (try dsimp only at hw_); go_simp; try with_reducible rfl)
                simp only [Act.put, List.setIfInBounds_toArray, List.set_cons_zero, List.set_cons_succ, List.getElem_toArray, List.getElem_cons_zero, List.getElem_cons_succ]
                refine hT (i := 14) (v := ?_) rfl (by kernel_rfl) (fun _ _ _ h => h) (by rfl) ?_ hHeld ?_
                rotate_left
                · (intro w_ hw_; (try dsimp only at hw_); go_simp; try with_reducible rfl)
                simp only [Act.put, List.setIfInBounds_toArray, List.set_cons_zero, List.set_cons_succ, List.getElem_toArray, List.getElem_cons_zero, List.getElem_cons_succ]
                refine hT (i := 15) (v := ?_) rfl (by kernel_rfl) (fun _ _ _ h => h) (by rfl) ?_ hHeld ?_
                rotate_left
                · (intro w_ hw_; (try dsimp only at hw_); go_simp; try with_reducible rfl)
                simp only [Act.put, List.setIfInBounds_toArray, List.set_cons_zero, List.set_cons_succ, List.getElem_toArray, List.getElem_cons_zero, List.getElem_cons_succ]
                refine hT (i := 16) (v := ?_) rfl (by kernel_rfl) (fun _ _ _ h => h) (by rfl) ?_ hHeld ?_
                rotate_left
                · (intro w_ hw_; (try dsimp only at hw_); go_simp; try with_reducible rfl)
                simp only [Act.put, List.setIfInBounds_toArray, List.set_cons_zero, List.set_cons_succ, List.getElem_toArray, List.getElem_cons_zero, List.getElem_cons_succ]
                refine hT (i := 17) (v := ?_) rfl (by kernel_rfl) (fun _ _ _ h => h) (by rfl) ?_ hHeld ?_
                rotate_left
                · (intro w_ hw_; (try dsimp only at hw_); go_simp; try with_reducible rfl)
                simp only [Act.put, List.setIfInBounds_toArray, List.set_cons_zero, List.set_cons_succ, List.getElem_toArray, List.getElem_cons_zero, List.getElem_cons_succ]
                refine hT (i := 18) (v := ?_) rfl (by kernel_rfl) (fun _ _ _ h => h) (by rfl) ?_ hHeld ?_
                rotate_left
                · (intro w_ hw_; (try dsimp only at hw_); go_simp; try with_reducible rfl)
                simp only [Act.put, List.setIfInBounds_toArray, List.set_cons_zero, List.set_cons_succ, List.getElem_toArray, List.getElem_cons_zero, List.getElem_cons_succ]
                refine hT (i := 19) (v := ?_) rfl (by kernel_rfl) (fun _ _ _ h => h) (by rfl) ?_ hHeld ?_
                rotate_left
                · (intro w_ hw_; (try dsimp only at hw_); go_simp; try with_reducible rfl)
                simp only [Act.put, List.setIfInBounds_toArray, List.set_cons_zero, List.set_cons_succ, List.getElem_toArray, List.getElem_cons_zero, List.getElem_cons_succ]
                refine wpAnyH_done (by kernel_rfl) ?_ _
                clear hHeld
                go_wp2_with fail
                exact ⟨⟨j + 1, by omega, by go_num, HJd, hide (by rw [← HA2.out, HPj.out]; rfl)⟩, by simp [intOf]; omega⟩
              · rw [p2] at HPj
                go_wp2_with fail
                refine wp_region_held_drew (S := fun w' => w'.cell? ⟨w.heap.size, 5, none⟩ = some (.slice (some ⟨b4, o4, none⟩) c.grants.length n4) ∧ w'.cell? ⟨b4, o4 + j * 3, none⟩ = some (.int .i64 yf) ∧ w'.cell? ⟨b4, o4 + j * 3 + 1, none⟩ = some (.int .i64 yt) ∧ w'.cell? ⟨B, 0, none⟩ = some (.int .i64 xf) ∧ w'.cell? ⟨B, 1, none⟩ = some (.int .i64 xt)) (by kernel_rfl) ?_ (fun hHeld => ?_)
                · exact ⟨m5, y0, y1, x0, x1⟩
                refine hT (i := 0) (v := ?_) rfl (by kernel_rfl) (fun _ _ _ h => h) (by rfl) ?_ hHeld ?_
                rotate_left
                · (intro w_ hw_; (try dsimp only at hw_); go_simp; try with_reducible rfl)
                simp only [Act.put, List.setIfInBounds_toArray, List.set_cons_zero, List.set_cons_succ, List.getElem_toArray, List.getElem_cons_zero]
                refine hT (i := 1) (v := ?_) rfl (by kernel_rfl) (fun _ _ _ h => h) (by rfl) ?_ hHeld ?_
                rotate_left
                · (intro w_ hw_; (try dsimp only at hw_); go_simp; try with_reducible rfl)
                simp only [Act.put, List.setIfInBounds_toArray, List.set_cons_zero, List.set_cons_succ, List.getElem_toArray, List.getElem_cons_zero, List.getElem_cons_succ]
                refine hT (i := 2) (v := ?_) rfl (by kernel_rfl) (fun _ _ _ h => h) (by rfl) ?_ hHeld ?_
                rotate_left
                · (intro w_ hw_; (try dsimp only at hw_); go_simp; try with_reducible rfl)
                simp only [Act.put, List.setIfInBounds_toArray, List.set_cons_zero, List.set_cons_succ, List.getElem_toArray, List.getElem_cons_zero, List.getElem_cons_succ]
                refine hT (i := 3) (v := ?_) rfl (by kernel_rfl) (fun _ _ _ h => h) (by rfl) ?_ hHeld ?_
                rotate_left
                · (intro w_ hw_; (try dsimp only at hw_); go_simp; try with_reducible rfl)
                simp only [Act.put, List.setIfInBounds_toArray, List.set_cons_zero, List.set_cons_succ, List.getElem_toArray, List.getElem_cons_zero, List.getElem_cons_succ]
                refine hT (i := 4) (v := ?_) rfl (by kernel_rfl) (fun _ _ _ h => h) (by rfl) ?_ hHeld ?_
                rotate_left
                · (intro w_ hw_; (try dsimp only at hw_); go_simp; try with_reducible rfl)
                simp only [Act.put, List.setIfInBounds_toArray, List.set_cons_zero, List.set_cons_succ, List.getElem_toArray, List.getElem_cons_zero, List.getElem_cons_succ]
                refine hT (i := 5) (v := ?_) rfl (by kernel_rfl) (fun _ _ _ h => h) (by rfl) ?_ hHeld ?_
                rotate_left
                · (intro w_ hw_; (try dsimp only at hw_); go_simp; try with_reducible rfl)
                simp only [Act.put, List.setIfInBounds_toArray, List.set_cons_zero, List.set_cons_succ, List.getElem_toArray, List.getElem_cons_zero, List.getElem_cons_succ]
                refine hT (i := 6) (v := ?_) rfl (by kernel_rfl) (fun _ _ _ h => h) (by rfl) ?_ hHeld ?_
                rotate_left
                · (intro w_ hw_; (try dsimp only at hw_); go_simp; try with_reducible rfl)
                simp only [Act.put, List.setIfInBounds_toArray, List.set_cons_zero, List.set_cons_succ, List.getElem_toArray, List.getElem_cons_zero, List.getElem_cons_succ]
                refine hT (i := 7) (v := ?_) rfl (by kernel_rfl) (fun _ _ _ h => h) (by rfl) ?_ hHeld ?_
                rotate_left
                · (intro w_ hw_; (try dsimp only at hw_); go_simp; try with_reducible rfl)
                simp only [Act.put, List.setIfInBounds_toArray, List.set_cons_zero, List.set_cons_succ, List.getElem_toArray, List.getElem_cons_zero, List.getElem_cons_succ]
                refine hT (i := 8) (v := ?_) rfl (by kernel_rfl) (fun _ _ _ h => h) (by rfl) ?_ hHeld ?_
                rotate_left
                · (intro w_ hw_; (try dsimp only at hw_); go_simp; try with_reducible rfl)
                simp only [Act.put, List.setIfInBounds_toArray, List.set_cons_zero, List.set_cons_succ, List.getElem_toArray, List.getElem_cons_zero, List.getElem_cons_succ]
                refine hT (i := 9) (v := ?_) rfl (by kernel_rfl) (fun _ _ _ h => h) (by rfl) ?_ hHeld ?_
                rotate_left
                · (intro w_ hw_; (try dsimp only at hw_); go_simp; try with_reducible rfl)
                simp only [Act.put, List.setIfInBounds_toArray, List.set_cons_zero, List.set_cons_succ, List.getElem_toArray, List.getElem_cons_zero, List.getElem_cons_succ]
                refine hT (i := 10) (v := ?_) rfl (by kernel_rfl) (fun _ _ _ h => h) (by rfl) ?_ hHeld ?_
                rotate_left
                · (intro w_ hw_; (try dsimp only at hw_); go_simp; try with_reducible rfl)
                simp only [Act.put, List.setIfInBounds_toArray, List.set_cons_zero, List.set_cons_succ, List.getElem_toArray, List.getElem_cons_zero, List.getElem_cons_succ]
                refine hT (i := 11) (v := ?_) rfl (by kernel_rfl) (fun _ _ _ h => h) (by rfl) ?_ hHeld ?_
                rotate_left
                · (intro w_ hw_; (try dsimp only at hw_); go_simp; try with_reducible rfl)
                simp only [Act.put, List.setIfInBounds_toArray, List.set_cons_zero, List.set_cons_succ, List.getElem_toArray, List.getElem_cons_zero, List.getElem_cons_succ]
                refine hT (i := 12) (v := ?_) rfl (by kernel_rfl) (fun _ _ _ h => h) (by rfl) ?_ hHeld ?_
                rotate_left
                · (intro w_ hw_; (try dsimp only at hw_); go_simp; try with_reducible rfl)
                simp only [Act.put, List.setIfInBounds_toArray, List.set_cons_zero, List.set_cons_succ, List.getElem_toArray, List.getElem_cons_zero, List.getElem_cons_succ]
                refine hT (i := 13) (v := ?_) rfl (by kernel_rfl) (fun _ _ _ h => h) (by rfl) ?_ hHeld ?_
                rotate_left
                · (intro w_ hw_; (try dsimp only at hw_); go_simp; try with_reducible rfl)
                simp only [Act.put, List.setIfInBounds_toArray, List.set_cons_zero, List.set_cons_succ, List.getElem_toArray, List.getElem_cons_zero, List.getElem_cons_succ]
                refine hT (i := 14) (v := ?_) rfl (by kernel_rfl) (fun _ _ _ h => h) (by rfl) ?_ hHeld ?_
                rotate_left
                · (intro w_ hw_; (try dsimp only at hw_); go_simp; try with_reducible rfl)
                simp only [Act.put, List.setIfInBounds_toArray, List.set_cons_zero, List.set_cons_succ, List.getElem_toArray, List.getElem_cons_zero, List.getElem_cons_succ]
                refine hT (i := 15) (v := ?_) rfl (by kernel_rfl) (fun _ _ _ h => h) (by rfl) ?_ hHeld ?_
                rotate_left
                · (intro w_ hw_; (try dsimp only at hw_); go_simp; try with_reducible rfl)
                simp only [Act.put, List.setIfInBounds_toArray, List.set_cons_zero, List.set_cons_succ, List.getElem_toArray, List.getElem_cons_zero, List.getElem_cons_succ]
                refine hT (i := 16) (v := ?_) rfl (by kernel_rfl) (fun _ _ _ h => h) (by rfl) ?_ hHeld ?_
                rotate_left
                · (intro w_ hw_; (try dsimp only at hw_); go_simp; try with_reducible rfl)
                simp only [Act.put, List.setIfInBounds_toArray, List.set_cons_zero, List.set_cons_succ, List.getElem_toArray, List.getElem_cons_zero, List.getElem_cons_succ]
                refine hT (i := 17) (v := ?_) rfl (by kernel_rfl) (fun _ _ _ h => h) (by rfl) ?_ hHeld ?_
                rotate_left
                · (intro w_ hw_; (try dsimp only at hw_); go_simp; try with_reducible rfl)
                simp only [Act.put, List.setIfInBounds_toArray, List.set_cons_zero, List.set_cons_succ, List.getElem_toArray, List.getElem_cons_zero, List.getElem_cons_succ]
                refine hT (i := 18) (v := ?_) rfl (by kernel_rfl) (fun _ _ _ h => h) (by rfl) ?_ hHeld ?_
                rotate_left
                · (intro w_ hw_; (try dsimp only at hw_); go_simp; try with_reducible rfl)
                simp only [Act.put, List.setIfInBounds_toArray, List.set_cons_zero, List.set_cons_succ, List.getElem_toArray, List.getElem_cons_zero, List.getElem_cons_succ]
                refine hT (i := 19) (v := ?_) rfl (by kernel_rfl) (fun _ _ _ h => h) (by rfl) ?_ hHeld ?_
                rotate_left
                · (intro w_ hw_; (try dsimp only at hw_); go_simp; try with_reducible rfl)
                simp only [Act.put, List.setIfInBounds_toArray, List.set_cons_zero, List.set_cons_succ, List.getElem_toArray, List.getElem_cons_zero, List.getElem_cons_succ]
                refine wpAnyH_done (by kernel_rfl) ?_ _
                clear hHeld
                go_wp2_with fail
                go_ret
                rw [HE.out, ← HW.out, HP.out, HX1.out, ← HA2.out, HPj.out]
                exact ⟨rfl, Bel.trans HB1.out (Bel.trans HI.out (Bel.trans HW2.out HJd.out))⟩
          · obtain rfl : j = k := by omega
            have HA3 := hide (show (c.grants.take j).any (sameGr xf xt) = false by rw [← HA2.out, List.drop_of_length_le (by rw [List.length_take]; omega)]; rfl)
            go_wp2_with fail
            exact ⟨⟨j + 1, by omega, by go_num, hide (Bel.trans HI.out (Bel.trans HW2.out HJ.out)), hide (by rw [← HW.out, HP.out, HX1.out, HA3.out]; rfl)⟩, by simp [intOf]; omega⟩
      · rw [q3] at HP
        obtain rfl : xt = ow := by simpa using q3
        clear q3
        go_wp2_with fail
        go_ret
        rw [HE.out, ← HW.out, HP.out, HX1.out]
        exact ⟨rfl, Bel.trans HB1.out (Bel.trans HI.out HW2.out)⟩
    · obtain rfl : k = c.grants.length := by omega
      rw [List.drop_length] at HW
      go_wp2_with fail
      go_ret
      rw [HE.out, ← HW.out]
      exact ⟨rfl, Bel.trans HB1.out HI.out⟩
end Go.Proofs.Ythjhkbnajclcjaa
