/- The reference's ExtentsMay: it answers as extent.May. -/
import Derived.Test.YthjhkbnajclcjaaRWin
import Derived.Test.YthjhkbnajclcjaaDraw
set_option linter.unusedSimpArgs false
namespace Go.Proofs.Ythjhkbnajclcjaa
open Go.RowKit

set_option maxRecDepth 20000 in
set_option maxHeartbeats 16000000 in
theorem rExt_calls (w : World) (v : Value) (ps : List Part) (sectors : Int) (hs : kPart.Sl w v ps) :
    Calls Try.prog 64 #[v, .int .i64 sectors] w fun e w' => e = .returned (.bool (extMay ps sectors)) ∧ Bel w w' := by
  obtain ⟨A, b, o, c, rfl, hc1, hc2, hA, hrows⟩ := hs.form
  have HR := hide (hrows w hs); clear hrows
  by_cases g1 : (ps.length : Int) < 1
  · go_enter Try.func64, Try.ntmps64
    go_wp2
    go_ret
    exact ⟨by simp [extMay, show ¬ 1 ≤ ps.length by omega], bel_refl w⟩
  by_cases g2 : 4 < (ps.length : Int)
  · go_enter Try.func64, Try.ntmps64
    go_wp2
    go_ret
    exact ⟨by simp [extMay, show ¬ ps.length ≤ 4 by omega], bel_refl w⟩
  by_cases g3 : sectors < 0
  · go_enter Try.func64, Try.ntmps64
    go_wp2
    go_ret
    exact ⟨by simp [extMay, show ¬ 0 ≤ sectors by omega], bel_refl w⟩
  by_cases g4 : 64 < sectors
  · go_enter Try.func64, Try.ntmps64
    go_wp2
    go_ret
    exact ⟨by simp [extMay, show ¬ sectors ≤ 64 by omega], bel_refl w⟩
  have HE := hide (show extMay ps sectors = extGo sectors [] ps by rw [Bool.eq_iff_iff, extMay_iff]; constructor; (intro h; exact h.2.2.2.2); (intro h; exact ⟨by omega, by omega, by omega, by omega, h⟩))
  generalize extMay ps sectors = res at HE
  clear hs
  go_enter Try.func64, Try.ntmps64
  go_upto_region 4 with fail
  obtain ⟨W1, hW1⟩ : ∃ W1 : World, W1 = w.alloc (.cells false64 170) := ⟨_, rfl⟩
  rw [← hW1]
  have HM := hide (show Marks w w.heap.size 64 170 (covers []) W1 by rw [hW1]; exact marks_new w _)
  clear hW1
  go_wp2_with fail
  go_loopw [6] (fun t W => ∃ k : Nat, k ≤ ps.length ∧ t = .int .i64 k ∧ Hid (Marks w w.heap.size 64 170 (covers ((ps.take k).map extRun)) W) ∧ Hid (extGo sectors (ps.take k) (ps.drop k) = extGo sectors [] ps) ∧ Hid (∀ y ∈ ps.take k, ExtOk y)) (fun t _ => ps.length - (intOf t).toNat)
  case atStart => exact ⟨0, Nat.zero_le _, rfl, HM, hide rfl, hide (by simp)⟩
  case round =>
    obtain ⟨k, hk, rfl, HI, HW, HO⟩ := hrel
    by_cases hlt : k < ps.length
    · have HRw := hide (HR.out.bel HI.out.bel)
      obtain ⟨c0, c1, c2, c3, c4, hK, hc_0, hc_1, hc_2, hc_3, hc_4⟩ := HRw.out.get5 rfl hlt
      obtain ⟨rfl, rfl, -, rfl, rfl, hi1, hi2⟩ := kPart_vals hK
      clear hc_0 hc_1 hc_2 hK
      obtain rfl := hA (by omega)
      have HP := hide (show extGo sectors (ps.take k) (ps.drop k) = (addrMay ps[k].first ps[k].count sectors && ((ps.take k).all (fun q => extApart ps[k] q) && extGo sectors (ps.take (k + 1)) (ps.drop (k + 1)))) by rw [drop_cons hlt, extGo, List.take_succ_eq_append_getElem hlt])
      have HT := hide (show ps.take (k + 1) = ps.take k ++ [ps[k]] from List.take_succ_eq_append_getElem hlt)
      have HCX := hide (show ∀ W, Bel w W → W.cell? ⟨b, o + k * 5 + 3, none⟩ = some (.int .i64 ps[k].first) ∧ W.cell? ⟨b, o + k * 5 + 4, none⟩ = some (.int .i64 ps[k].count) from fun W hW => by
        obtain ⟨c0, c1, c2, c3, c4, hK, -, -, -, h3, h4⟩ := (HR.out.bel hW).get5 rfl hlt
        obtain ⟨-, -, -, rfl, rfl, -⟩ := kPart_vals hK
        exact ⟨h3, h4⟩)
      generalize ps[k] = x at hc_3 hc_4 hi1 hi2 HP HT HCX
      obtain ⟨lx, fx, sx, nx⟩ := x
      simp only at hc_3 hc_4 hi1 hi2 HP HCX
      have hadd := hide fun W => addrMay_r sx nx sectors W hi1 hi2 (by unfold I64; omega)
      have HAI := hide (addrMay_iff sx nx sectors)
      have hok := hide fun h : addrMay sx nx sectors = true => extOk_of_may (a := ⟨lx, fx, sx, nx⟩) (by omega : sectors ≤ 64) h
      have HBd := hide HI.out.bel.drew
      clear hi1 hi2
      generalize addrMay sx nx sectors = q at hadd HP hok HAI
      have i0 : (0 : Int) ≤ (k : Int) := by omega
      have i1 : (k : Int) < (ps.length : Int) := by omega
      cases q
      · clear hok HAI
        go_wp2_with fail
        refine wp_region_held_drew (S := fun w' => w'.cell? ⟨b, o + k * 5 + 3, none⟩ = some (.int .i64 sx) ∧ w'.cell? ⟨b, o + k * 5 + 4, none⟩ = some (.int .i64 nx)) (by kernel_rfl) ?_ (fun hHeld => ?_)
        · exact ⟨hc_3, hc_4⟩
        refine hT (i := 0) (v := ?_) rfl (by kernel_rfl) (fun _ _ _ h => h) (by rfl) ?_ hHeld ?_
        rotate_left
        · (intro w_ hw_; (try dsimp only at hw_); go_simp; try with_reducible rfl)
        simp only [Act.put, List.setIfInBounds_toArray, List.set_cons_zero, List.set_cons_succ, List.getElem_toArray, List.getElem_cons_zero]
        refine hT (i := 1) (v := ?_) rfl (by kernel_rfl) (fun _ _ _ h => h) (by rfl) ?_ hHeld ?_
        rotate_left
        · (intro w_ hw_; (try dsimp only at hw_); go_simp; try with_reducible rfl)
        simp only [Act.put, List.setIfInBounds_toArray, List.set_cons_zero, List.set_cons_succ, List.getElem_toArray, List.getElem_cons_zero, List.getElem_cons_succ]
        refine hT (i := 2) (v := ?_) rfl (by kernel_rfl) (fun _ _ _ h => h) (by rfl) ?_ hHeld ?_
        rotate_left
        · (intro w_ hw_; (try dsimp only at hw_); go_simp; try with_reducible rfl)
        simp only [Act.put, List.setIfInBounds_toArray, List.set_cons_zero, List.set_cons_succ, List.getElem_toArray, List.getElem_cons_zero, List.getElem_cons_succ]
        refine hT (i := 3) (v := ?_) rfl (by kernel_rfl) (fun _ _ _ h => h) (by rfl) ?_ hHeld ?_
        rotate_left
        · (intro w_ hw_; (try dsimp only at hw_); go_simp; try with_reducible rfl)
        simp only [Act.put, List.setIfInBounds_toArray, List.set_cons_zero, List.set_cons_succ, List.getElem_toArray, List.getElem_cons_zero, List.getElem_cons_succ]
        refine hT (i := 4) (v := ?_) rfl (by kernel_rfl) (fun _ _ _ h => h) (by rfl) ?_ hHeld ?_
        rotate_left
        · (intro w_ hw_; (try dsimp only at hw_); go_simp; try with_reducible rfl)
        simp only [Act.put, List.setIfInBounds_toArray, List.set_cons_zero, List.set_cons_succ, List.getElem_toArray, List.getElem_cons_zero, List.getElem_cons_succ]
        refine hT (i := 5) (v := ?_) rfl (by kernel_rfl) (fun _ _ _ h => h) (by rfl) ?_ hHeld ?_
        rotate_left
        · (intro w_ hw_; (try dsimp only at hw_); go_simp; try with_reducible rfl)
        simp only [Act.put, List.setIfInBounds_toArray, List.set_cons_zero, List.set_cons_succ, List.getElem_toArray, List.getElem_cons_zero, List.getElem_cons_succ]
        refine hT (i := 6) (v := ?_) rfl (by kernel_rfl) (fun _ _ _ h => h) (by rfl) ?_ hHeld ?_
        rotate_left
        · (intro w_ hw_; (try dsimp only at hw_); go_simp; try with_reducible rfl)
        simp only [Act.put, List.setIfInBounds_toArray, List.set_cons_zero, List.set_cons_succ, List.getElem_toArray, List.getElem_cons_zero, List.getElem_cons_succ]
        refine hT (i := 7) (v := ?_) rfl (by kernel_rfl) (fun _ _ _ h => h) (by rfl) ?_ hHeld ?_
        rotate_left
        · (intro w_ hw_; (try dsimp only at hw_); go_simp; try with_reducible rfl)
        simp only [Act.put, List.setIfInBounds_toArray, List.set_cons_zero, List.set_cons_succ, List.getElem_toArray, List.getElem_cons_zero, List.getElem_cons_succ]
        refine hT (i := 8) (v := ?_) rfl (by kernel_rfl) (fun _ _ _ h => h) (by rfl) ?_ hHeld ?_
        rotate_left
        · (intro w_ hw_; (try dsimp only at hw_); go_simp; try with_reducible rfl)
        simp only [Act.put, List.setIfInBounds_toArray, List.set_cons_zero, List.set_cons_succ, List.getElem_toArray, List.getElem_cons_zero, List.getElem_cons_succ]
        refine hT (i := 9) (v := ?_) rfl (by kernel_rfl) (fun _ _ _ h => h) (by rfl) ?_ hHeld ?_
        rotate_left
        · (intro w_ hw_; (try dsimp only at hw_); go_simp; try with_reducible rfl)
        simp only [Act.put, List.setIfInBounds_toArray, List.set_cons_zero, List.set_cons_succ, List.getElem_toArray, List.getElem_cons_zero, List.getElem_cons_succ]
        refine hT (i := 10) (v := ?_) rfl (by kernel_rfl) (fun _ _ _ h => h) (by rfl) ?_ hHeld ?_
        rotate_left
        · (intro w_ hw_; (try dsimp only at hw_); go_simp; try with_reducible rfl)
        simp only [Act.put, List.setIfInBounds_toArray, List.set_cons_zero, List.set_cons_succ, List.getElem_toArray, List.getElem_cons_zero, List.getElem_cons_succ]
        refine hE (i := 11) rfl (by kernel_rfl) (by rfl) (fun K hK => ?_)
        go_simp
        refine (hadd.out _).mono ?_
        rintro e w1 ⟨rfl, rfl⟩
        refine hK.out _ _ ?_ (fun hHeld => ?_)
        · exact ⟨hc_3, hc_4⟩
        clear hK K
        refine hT (i := 12) (v := ?_) rfl (by kernel_rfl) (fun _ _ _ h => h) (by rfl) ?_ hHeld ?_
        rotate_left
        · (intro w_ hw_; (try dsimp only at hw_); go_simp; try with_reducible rfl)
        simp only [Act.put, List.setIfInBounds_toArray, List.set_cons_zero, List.set_cons_succ, List.getElem_toArray, List.getElem_cons_zero, List.getElem_cons_succ]
        refine wpAnyH_done (by kernel_rfl) ?_ _
        go_wp2_with fail
        go_ret
        rw [HE.out, ← HW.out, HP.out]
        exact ⟨rfl, HBd.out⟩
      · have hokx := hide (hok.out rfl)
        obtain ⟨a1, a2, a3, a4, a5⟩ := HAI.out.1 rfl
        clear hok HAI
        go_wp2_with fail
        refine wp_region_held_drew (S := fun w' => w'.cell? ⟨b, o + k * 5 + 3, none⟩ = some (.int .i64 sx) ∧ w'.cell? ⟨b, o + k * 5 + 4, none⟩ = some (.int .i64 nx)) (by kernel_rfl) ?_ (fun hHeld => ?_)
        · exact ⟨hc_3, hc_4⟩
        refine hT (i := 0) (v := ?_) rfl (by kernel_rfl) (fun _ _ _ h => h) (by rfl) ?_ hHeld ?_
        rotate_left
        · (intro w_ hw_; (try dsimp only at hw_); go_simp; try with_reducible rfl)
        simp only [Act.put, List.setIfInBounds_toArray, List.set_cons_zero, List.set_cons_succ, List.getElem_toArray, List.getElem_cons_zero]
        refine hT (i := 1) (v := ?_) rfl (by kernel_rfl) (fun _ _ _ h => h) (by rfl) ?_ hHeld ?_
        rotate_left
        · (intro w_ hw_; (try dsimp only at hw_); go_simp; try with_reducible rfl)
        simp only [Act.put, List.setIfInBounds_toArray, List.set_cons_zero, List.set_cons_succ, List.getElem_toArray, List.getElem_cons_zero, List.getElem_cons_succ]
        refine hT (i := 2) (v := ?_) rfl (by kernel_rfl) (fun _ _ _ h => h) (by rfl) ?_ hHeld ?_
        rotate_left
        · (intro w_ hw_; (try dsimp only at hw_); go_simp; try with_reducible rfl)
        simp only [Act.put, List.setIfInBounds_toArray, List.set_cons_zero, List.set_cons_succ, List.getElem_toArray, List.getElem_cons_zero, List.getElem_cons_succ]
        refine hT (i := 3) (v := ?_) rfl (by kernel_rfl) (fun _ _ _ h => h) (by rfl) ?_ hHeld ?_
        rotate_left
        · (intro w_ hw_; (try dsimp only at hw_); go_simp; try with_reducible rfl)
        simp only [Act.put, List.setIfInBounds_toArray, List.set_cons_zero, List.set_cons_succ, List.getElem_toArray, List.getElem_cons_zero, List.getElem_cons_succ]
        refine hT (i := 4) (v := ?_) rfl (by kernel_rfl) (fun _ _ _ h => h) (by rfl) ?_ hHeld ?_
        rotate_left
        · (intro w_ hw_; (try dsimp only at hw_); go_simp; try with_reducible rfl)
        simp only [Act.put, List.setIfInBounds_toArray, List.set_cons_zero, List.set_cons_succ, List.getElem_toArray, List.getElem_cons_zero, List.getElem_cons_succ]
        refine hT (i := 5) (v := ?_) rfl (by kernel_rfl) (fun _ _ _ h => h) (by rfl) ?_ hHeld ?_
        rotate_left
        · (intro w_ hw_; (try dsimp only at hw_); go_simp; try with_reducible rfl)
        simp only [Act.put, List.setIfInBounds_toArray, List.set_cons_zero, List.set_cons_succ, List.getElem_toArray, List.getElem_cons_zero, List.getElem_cons_succ]
        refine hT (i := 6) (v := ?_) rfl (by kernel_rfl) (fun _ _ _ h => h) (by rfl) ?_ hHeld ?_
        rotate_left
        · (intro w_ hw_; (try dsimp only at hw_); go_simp; try with_reducible rfl)
        simp only [Act.put, List.setIfInBounds_toArray, List.set_cons_zero, List.set_cons_succ, List.getElem_toArray, List.getElem_cons_zero, List.getElem_cons_succ]
        refine hT (i := 7) (v := ?_) rfl (by kernel_rfl) (fun _ _ _ h => h) (by rfl) ?_ hHeld ?_
        rotate_left
        · (intro w_ hw_; (try dsimp only at hw_); go_simp; try with_reducible rfl)
        simp only [Act.put, List.setIfInBounds_toArray, List.set_cons_zero, List.set_cons_succ, List.getElem_toArray, List.getElem_cons_zero, List.getElem_cons_succ]
        refine hT (i := 8) (v := ?_) rfl (by kernel_rfl) (fun _ _ _ h => h) (by rfl) ?_ hHeld ?_
        rotate_left
        · (intro w_ hw_; (try dsimp only at hw_); go_simp; try with_reducible rfl)
        simp only [Act.put, List.setIfInBounds_toArray, List.set_cons_zero, List.set_cons_succ, List.getElem_toArray, List.getElem_cons_zero, List.getElem_cons_succ]
        refine hT (i := 9) (v := ?_) rfl (by kernel_rfl) (fun _ _ _ h => h) (by rfl) ?_ hHeld ?_
        rotate_left
        · (intro w_ hw_; (try dsimp only at hw_); go_simp; try with_reducible rfl)
        simp only [Act.put, List.setIfInBounds_toArray, List.set_cons_zero, List.set_cons_succ, List.getElem_toArray, List.getElem_cons_zero, List.getElem_cons_succ]
        refine hT (i := 10) (v := ?_) rfl (by kernel_rfl) (fun _ _ _ h => h) (by rfl) ?_ hHeld ?_
        rotate_left
        · (intro w_ hw_; (try dsimp only at hw_); go_simp; try with_reducible rfl)
        simp only [Act.put, List.setIfInBounds_toArray, List.set_cons_zero, List.set_cons_succ, List.getElem_toArray, List.getElem_cons_zero, List.getElem_cons_succ]
        refine hE (i := 11) rfl (by kernel_rfl) (by rfl) (fun K hK => ?_)
        go_simp
        refine (hadd.out _).mono ?_
        rintro e w1 ⟨rfl, rfl⟩
        refine hK.out _ _ ?_ (fun hHeld => ?_)
        · exact ⟨hc_3, hc_4⟩
        clear hK K
        refine hT (i := 12) (v := ?_) rfl (by kernel_rfl) (fun _ _ _ h => h) (by rfl) ?_ hHeld ?_
        rotate_left
        · (intro w_ hw_; (try dsimp only at hw_); go_simp; try with_reducible rfl)
        simp only [Act.put, List.setIfInBounds_toArray, List.set_cons_zero, List.set_cons_succ, List.getElem_toArray, List.getElem_cons_zero, List.getElem_cons_succ]
        refine wpAnyH_done (by kernel_rfl) ?_ _
        clear hHeld hadd
        obtain ⟨wo, hwo⟩ : ∃ wo : World, wo = wr.drew := ⟨_, rfl⟩
        have hc_3' : wo.cell? ⟨b, o + k * 5 + 3, none⟩ = some (.int .i64 sx) := by rw [hwo]; exact hc_3
        rw [← hwo] at HBd ⊢
        have HMo := hide (show Marks w w.heap.size 64 170 (covers ((ps.take k).map extRun)) wo by rw [hwo]; exact HI.out.drew)
        clear hc_3 hc_4 hwo HRw HI
        obtain ⟨js, rfl⟩ : ∃ js : Nat, sx = js := ⟨sx.toNat, by omega⟩
        have hw7 : IntKind.i64.wrap ((js : Int) + nx) = (js : Int) + nx := IntWalk.i64_in _ (by omega)
        have e10 : (js : Int) + nx ≤ 64 := by omega
        go_wp2_with fail
        clear hc_3'
        go_loopw [7] (fun t W => ∃ j : Nat, js ≤ j ∧ (j : Int) ≤ js + nx ∧ t = .int .i64 j ∧ Hid (Marks w w.heap.size 64 170 (fun i => covers ((ps.take k).map extRun) i || (decide ((js : Int) ≤ i) && decide (i < j))) W) ∧ Hid (∀ i : Int, js ≤ i → i < j → covers ((ps.take k).map extRun) i = false)) (fun t _ => (js + nx).toNat - (intOf t).toNat)
        case atStart =>
          refine ⟨js, Nat.le_refl _, by omega, rfl, hide ?_, hide fun i h1 h2 => by omega⟩
          exact HMo.out.congr fun i _ => by rw [show (decide ((js : Int) ≤ i) && decide ((i : Int) < js)) = false by simp, Bool.or_false]
        case round =>
          obtain ⟨j, hj1, hj2, rfl, HJ, HN⟩ := hrel
          obtain ⟨f1, f2⟩ := HCX.out wr HJ.out.bel
          have HJd := hide HJ.out.drew
          by_cases hjl : (j : Int) < js + nx
          · have f3 := HJ.out.cell (k := j) (by omega)
            have f4 := HJ.out.free j
            rw [show (decide ((js : Int) ≤ (j : Int)) && decide ((j : Int) < (j : Int))) = false by simp, Bool.or_false] at f3
            have hj64 : (j : Int) < 64 := by omega
            cases qc : covers ((ps.take k).map extRun) j
            · rw [qc] at f3
              have HS := hide ((HJd.out.set j).congr (f' := fun i => covers ((ps.take k).map extRun) i || (decide ((js : Int) ≤ i) && decide (i < ((j + 1 : Nat) : Int)))) (fun i _ => by
                by_cases hij : (i : Int) = (j : Int)
                · rw [hij]; simp; omega
                · have h1 : ((i : Int) == (j : Int)) = false := by simpa using hij
                  have h2 : decide ((i : Int) < ((j + 1 : Nat) : Int)) = decide ((i : Int) < (j : Int)) := by simp only [decide_eq_decide]; omega
                  rw [h1, h2, Bool.false_or]))
              have HN2 := hide (show ∀ i : Int, js ≤ i → i < ((j + 1 : Nat) : Int) → covers ((ps.take k).map extRun) i = false from fun i h1 h2 => by
                by_cases hij : i = (j : Int)
                · rw [hij]; exact qc
                · exact HN.out i h1 (by omega))
              clear HN qc
              go_wp2_with fail
              refine wp_region_held_drew (S := fun w' => w'.cell? ⟨b, o + k * 5 + 3, none⟩ = some (.int .i64 (js : Int)) ∧ w'.cell? ⟨b, o + k * 5 + 4, none⟩ = some (.int .i64 nx)) (by kernel_rfl) ?_ (fun hHeld => ?_)
              · exact ⟨f1, f2⟩
              refine hT (i := 0) (v := ?_) rfl (by kernel_rfl) (fun _ _ _ h => h) (by rfl) ?_ hHeld ?_
              rotate_left
              · (intro w_ hw_; (try dsimp only at hw_); go_simp; try with_reducible rfl)
              simp only [Act.put, List.setIfInBounds_toArray, List.set_cons_zero, List.set_cons_succ, List.getElem_toArray, List.getElem_cons_zero]
              refine hT (i := 1) (v := ?_) rfl (by kernel_rfl) (fun _ _ _ h => h) (by rfl) ?_ hHeld ?_
              rotate_left
              · (intro w_ hw_; (try dsimp only at hw_); go_simp; try with_reducible rfl)
              simp only [Act.put, List.setIfInBounds_toArray, List.set_cons_zero, List.set_cons_succ, List.getElem_toArray, List.getElem_cons_zero, List.getElem_cons_succ]
              refine hT (i := 2) (v := ?_) rfl (by kernel_rfl) (fun _ _ _ h => h) (by rfl) ?_ hHeld ?_
              rotate_left
              · (intro w_ hw_; (try dsimp only at hw_); go_simp; try with_reducible rfl)
              simp only [Act.put, List.setIfInBounds_toArray, List.set_cons_zero, List.set_cons_succ, List.getElem_toArray, List.getElem_cons_zero, List.getElem_cons_succ]
              refine hT (i := 3) (v := ?_) rfl (by kernel_rfl) (fun _ _ _ h => h) (by rfl) ?_ hHeld ?_
              rotate_left
              · (intro w_ hw_; (try dsimp only at hw_); go_simp; try with_reducible rfl)
              simp only [Act.put, List.setIfInBounds_toArray, List.set_cons_zero, List.set_cons_succ, List.getElem_toArray, List.getElem_cons_zero, List.getElem_cons_succ]
              refine hT (i := 4) (v := ?_) rfl (by kernel_rfl) (fun _ _ _ h => h) (by rfl) ?_ hHeld ?_
              rotate_left
              · (intro w_ hw_; (try dsimp only at hw_); go_simp; try with_reducible rfl)
              simp only [Act.put, List.setIfInBounds_toArray, List.set_cons_zero, List.set_cons_succ, List.getElem_toArray, List.getElem_cons_zero, List.getElem_cons_succ]
              refine hT (i := 5) (v := ?_) rfl (by kernel_rfl) (fun _ _ _ h => h) (by rfl) ?_ hHeld ?_
              rotate_left
              · (intro w_ hw_; (try dsimp only at hw_); go_simp; try with_reducible rfl)
              simp only [Act.put, List.setIfInBounds_toArray, List.set_cons_zero, List.set_cons_succ, List.getElem_toArray, List.getElem_cons_zero, List.getElem_cons_succ]
              refine hT (i := 6) (v := ?_) rfl (by kernel_rfl) (fun _ _ _ h => h) (by rfl) ?_ hHeld ?_
              rotate_left
              · (intro w_ hw_; (try dsimp only at hw_); go_simp; try with_reducible rfl)
              simp only [Act.put, List.setIfInBounds_toArray, List.set_cons_zero, List.set_cons_succ, List.getElem_toArray, List.getElem_cons_zero, List.getElem_cons_succ]
              refine hT (i := 7) (v := ?_) rfl (by kernel_rfl) (fun _ _ _ h => h) (by rfl) ?_ hHeld ?_
              rotate_left
              · (intro w_ hw_; (try dsimp only at hw_); go_simp; try with_reducible rfl)
              simp only [Act.put, List.setIfInBounds_toArray, List.set_cons_zero, List.set_cons_succ, List.getElem_toArray, List.getElem_cons_zero, List.getElem_cons_succ]
              refine hT (i := 8) (v := ?_) rfl (by kernel_rfl) (fun _ _ _ h => h) (by rfl) ?_ hHeld ?_
              rotate_left
              · (intro w_ hw_; (try dsimp only at hw_); go_simp; try with_reducible rfl)
              simp only [Act.put, List.setIfInBounds_toArray, List.set_cons_zero, List.set_cons_succ, List.getElem_toArray, List.getElem_cons_zero, List.getElem_cons_succ]
              refine hT (i := 9) (v := ?_) rfl (by kernel_rfl) (fun _ _ _ h => h) (by rfl) ?_ hHeld ?_
              rotate_left
              · (intro w_ hw_; (try dsimp only at hw_); go_simp; try with_reducible rfl)
              simp only [Act.put, List.setIfInBounds_toArray, List.set_cons_zero, List.set_cons_succ, List.getElem_toArray, List.getElem_cons_zero, List.getElem_cons_succ]
              refine hT (i := 10) (v := ?_) rfl (by kernel_rfl) (fun _ _ _ h => h) (by rfl) ?_ hHeld ?_
              rotate_left
              · (intro w_ hw_; (try dsimp only at hw_); go_simp; try with_reducible rfl)
              simp only [Act.put, List.setIfInBounds_toArray, List.set_cons_zero, List.set_cons_succ, List.getElem_toArray, List.getElem_cons_zero, List.getElem_cons_succ]
              refine hT (i := 11) (v := ?_) rfl (by kernel_rfl) (fun _ _ _ h => h) (by rfl) ?_ hHeld ?_
              rotate_left
              · (intro w_ hw_; (try dsimp only at hw_); go_simp; try with_reducible rfl)
              simp only [Act.put, List.setIfInBounds_toArray, List.set_cons_zero, List.set_cons_succ, List.getElem_toArray, List.getElem_cons_zero, List.getElem_cons_succ]
              refine hT (i := 12) (v := ?_) rfl (by kernel_rfl) (fun _ _ _ h => h) (by rfl) ?_ hHeld ?_
              rotate_left
              · (intro w_ hw_; (try dsimp only at hw_); go_simp; try with_reducible rfl)
              simp only [Act.put, List.setIfInBounds_toArray, List.set_cons_zero, List.set_cons_succ, List.getElem_toArray, List.getElem_cons_zero, List.getElem_cons_succ]
              refine wpAnyH_done (by kernel_rfl) ?_ _
              clear hHeld
              go_wp2_with fail
              exact ⟨⟨j + 1, by omega, by omega, by go_num, HS, HN2⟩, by simp [intOf]; omega⟩
            · rw [qc] at f3
              have HF := hide ((ext_apart_iff (ps.take k) ⟨lx, fx, js, nx⟩ a2 HO.out).2 ⟨j, by show (js : Int) ≤ j; omega, hjl, qc⟩)
              clear qc
              go_wp2_with fail
              refine wp_region_held_drew (S := fun w' => w'.cell? ⟨b, o + k * 5 + 3, none⟩ = some (.int .i64 (js : Int)) ∧ w'.cell? ⟨b, o + k * 5 + 4, none⟩ = some (.int .i64 nx)) (by kernel_rfl) ?_ (fun hHeld => ?_)
              · exact ⟨f1, f2⟩
              refine hT (i := 0) (v := ?_) rfl (by kernel_rfl) (fun _ _ _ h => h) (by rfl) ?_ hHeld ?_
              rotate_left
              · (intro w_ hw_; (try dsimp only at hw_); go_simp; try with_reducible rfl)
              simp only [Act.put, List.setIfInBounds_toArray, List.set_cons_zero, List.set_cons_succ, List.getElem_toArray, List.getElem_cons_zero]
              refine hT (i := 1) (v := ?_) rfl (by kernel_rfl) (fun _ _ _ h => h) (by rfl) ?_ hHeld ?_
              rotate_left
              · (intro w_ hw_; (try dsimp only at hw_); go_simp; try with_reducible rfl)
              simp only [Act.put, List.setIfInBounds_toArray, List.set_cons_zero, List.set_cons_succ, List.getElem_toArray, List.getElem_cons_zero, List.getElem_cons_succ]
              refine hT (i := 2) (v := ?_) rfl (by kernel_rfl) (fun _ _ _ h => h) (by rfl) ?_ hHeld ?_
              rotate_left
              · (intro w_ hw_; (try dsimp only at hw_); go_simp; try with_reducible rfl)
              simp only [Act.put, List.setIfInBounds_toArray, List.set_cons_zero, List.set_cons_succ, List.getElem_toArray, List.getElem_cons_zero, List.getElem_cons_succ]
              refine hT (i := 3) (v := ?_) rfl (by kernel_rfl) (fun _ _ _ h => h) (by rfl) ?_ hHeld ?_
              rotate_left
              · (intro w_ hw_; (try dsimp only at hw_); go_simp; try with_reducible rfl)
              simp only [Act.put, List.setIfInBounds_toArray, List.set_cons_zero, List.set_cons_succ, List.getElem_toArray, List.getElem_cons_zero, List.getElem_cons_succ]
              refine hT (i := 4) (v := ?_) rfl (by kernel_rfl) (fun _ _ _ h => h) (by rfl) ?_ hHeld ?_
              rotate_left
              · (intro w_ hw_; (try dsimp only at hw_); go_simp; try with_reducible rfl)
              simp only [Act.put, List.setIfInBounds_toArray, List.set_cons_zero, List.set_cons_succ, List.getElem_toArray, List.getElem_cons_zero, List.getElem_cons_succ]
              refine hT (i := 5) (v := ?_) rfl (by kernel_rfl) (fun _ _ _ h => h) (by rfl) ?_ hHeld ?_
              rotate_left
              · (intro w_ hw_; (try dsimp only at hw_); go_simp; try with_reducible rfl)
              simp only [Act.put, List.setIfInBounds_toArray, List.set_cons_zero, List.set_cons_succ, List.getElem_toArray, List.getElem_cons_zero, List.getElem_cons_succ]
              refine hT (i := 6) (v := ?_) rfl (by kernel_rfl) (fun _ _ _ h => h) (by rfl) ?_ hHeld ?_
              rotate_left
              · (intro w_ hw_; (try dsimp only at hw_); go_simp; try with_reducible rfl)
              simp only [Act.put, List.setIfInBounds_toArray, List.set_cons_zero, List.set_cons_succ, List.getElem_toArray, List.getElem_cons_zero, List.getElem_cons_succ]
              refine hT (i := 7) (v := ?_) rfl (by kernel_rfl) (fun _ _ _ h => h) (by rfl) ?_ hHeld ?_
              rotate_left
              · (intro w_ hw_; (try dsimp only at hw_); go_simp; try with_reducible rfl)
              simp only [Act.put, List.setIfInBounds_toArray, List.set_cons_zero, List.set_cons_succ, List.getElem_toArray, List.getElem_cons_zero, List.getElem_cons_succ]
              refine hT (i := 8) (v := ?_) rfl (by kernel_rfl) (fun _ _ _ h => h) (by rfl) ?_ hHeld ?_
              rotate_left
              · (intro w_ hw_; (try dsimp only at hw_); go_simp; try with_reducible rfl)
              simp only [Act.put, List.setIfInBounds_toArray, List.set_cons_zero, List.set_cons_succ, List.getElem_toArray, List.getElem_cons_zero, List.getElem_cons_succ]
              refine hT (i := 9) (v := ?_) rfl (by kernel_rfl) (fun _ _ _ h => h) (by rfl) ?_ hHeld ?_
              rotate_left
              · (intro w_ hw_; (try dsimp only at hw_); go_simp; try with_reducible rfl)
              simp only [Act.put, List.setIfInBounds_toArray, List.set_cons_zero, List.set_cons_succ, List.getElem_toArray, List.getElem_cons_zero, List.getElem_cons_succ]
              refine hT (i := 10) (v := ?_) rfl (by kernel_rfl) (fun _ _ _ h => h) (by rfl) ?_ hHeld ?_
              rotate_left
              · (intro w_ hw_; (try dsimp only at hw_); go_simp; try with_reducible rfl)
              simp only [Act.put, List.setIfInBounds_toArray, List.set_cons_zero, List.set_cons_succ, List.getElem_toArray, List.getElem_cons_zero, List.getElem_cons_succ]
              refine hT (i := 11) (v := ?_) rfl (by kernel_rfl) (fun _ _ _ h => h) (by rfl) ?_ hHeld ?_
              rotate_left
              · (intro w_ hw_; (try dsimp only at hw_); go_simp; try with_reducible rfl)
              simp only [Act.put, List.setIfInBounds_toArray, List.set_cons_zero, List.set_cons_succ, List.getElem_toArray, List.getElem_cons_zero, List.getElem_cons_succ]
              refine hT (i := 12) (v := ?_) rfl (by kernel_rfl) (fun _ _ _ h => h) (by rfl) ?_ hHeld ?_
              rotate_left
              · (intro w_ hw_; (try dsimp only at hw_); go_simp; try with_reducible rfl)
              simp only [Act.put, List.setIfInBounds_toArray, List.set_cons_zero, List.set_cons_succ, List.getElem_toArray, List.getElem_cons_zero, List.getElem_cons_succ]
              refine wpAnyH_done (by kernel_rfl) ?_ _
              clear hHeld
              go_wp2_with fail
              go_ret
              rw [HE.out, ← HW.out, HP.out, HF.out]
              exact ⟨rfl, HJd.out.bel⟩
          · have hje : (j : Int) = js + nx := by omega
            have HF := hide (show ((ps.take k).all fun q => extApart ⟨lx, fx, js, nx⟩ q) = true by
              rw [← Bool.not_eq_false, ext_apart_iff (ps.take k) ⟨lx, fx, js, nx⟩ a2 HO.out]
              rintro ⟨i, h1, h2, h3⟩
              have h1 : (js : Int) ≤ i := h1
              have h2 : i < (js : Int) + nx := h2
              rw [HN.out i h1 (by omega)] at h3
              simp at h3)
            have HM2 := hide (HJd.out.congr (f' := covers ((ps.take (k + 1)).map extRun)) fun i _ => by
              rw [HT.out, List.map_append, List.map_cons, List.map_nil, covers_append]
              show _ = (_ || (decide ((js : Int) ≤ i) && decide ((i : Int) < js + nx)))
              rw [hje])
            have HO2 := hide (show ∀ y ∈ ps.take (k + 1), ExtOk y from fun y hy => by
              rw [HT.out] at hy
              rcases List.mem_append.1 hy with hy | hy
              · exact HO.out y hy
              · rw [List.mem_singleton.1 hy]; exact hokx.out)
            have hdec : decide ((j : Int) < js + nx) = false := decide_eq_false (by omega)
            clear HN hje hjl hj2
            go_wp2_with fail
            refine wp_region_held_drew (S := fun w' => w'.cell? ⟨b, o + k * 5 + 3, none⟩ = some (.int .i64 (js : Int)) ∧ w'.cell? ⟨b, o + k * 5 + 4, none⟩ = some (.int .i64 nx)) (by kernel_rfl) ?_ (fun hHeld => ?_)
            · exact ⟨f1, f2⟩
            refine hT (i := 0) (v := ?_) rfl (by kernel_rfl) (fun _ _ _ h => h) (by rfl) ?_ hHeld ?_
            rotate_left
            · (intro w_ hw_; (try dsimp only at hw_); go_simp; try with_reducible rfl)
            simp only [Act.put, List.setIfInBounds_toArray, List.set_cons_zero, List.set_cons_succ, List.getElem_toArray, List.getElem_cons_zero]
            refine hT (i := 1) (v := ?_) rfl (by kernel_rfl) (fun _ _ _ h => h) (by rfl) ?_ hHeld ?_
            rotate_left
            · (intro w_ hw_; (try dsimp only at hw_); go_simp; try with_reducible rfl)
            simp only [Act.put, List.setIfInBounds_toArray, List.set_cons_zero, List.set_cons_succ, List.getElem_toArray, List.getElem_cons_zero, List.getElem_cons_succ]
            refine hT (i := 2) (v := ?_) rfl (by kernel_rfl) (fun _ _ _ h => h) (by rfl) ?_ hHeld ?_
            rotate_left
            · (intro w_ hw_; (try dsimp only at hw_); go_simp; try with_reducible rfl)
            simp only [Act.put, List.setIfInBounds_toArray, List.set_cons_zero, List.set_cons_succ, List.getElem_toArray, List.getElem_cons_zero, List.getElem_cons_succ]
            refine hT (i := 3) (v := ?_) rfl (by kernel_rfl) (fun _ _ _ h => h) (by rfl) ?_ hHeld ?_
            rotate_left
            · (intro w_ hw_; (try dsimp only at hw_); go_simp; try with_reducible rfl)
            simp only [Act.put, List.setIfInBounds_toArray, List.set_cons_zero, List.set_cons_succ, List.getElem_toArray, List.getElem_cons_zero, List.getElem_cons_succ]
            refine hT (i := 4) (v := ?_) rfl (by kernel_rfl) (fun _ _ _ h => h) (by rfl) ?_ hHeld ?_
            rotate_left
            · (intro w_ hw_; (try dsimp only at hw_); go_simp; try with_reducible rfl)
            simp only [Act.put, List.setIfInBounds_toArray, List.set_cons_zero, List.set_cons_succ, List.getElem_toArray, List.getElem_cons_zero, List.getElem_cons_succ]
            refine hT (i := 5) (v := ?_) rfl (by kernel_rfl) (fun _ _ _ h => h) (by rfl) ?_ hHeld ?_
            rotate_left
            · (intro w_ hw_; (try dsimp only at hw_); go_simp; try with_reducible rfl)
            simp only [Act.put, List.setIfInBounds_toArray, List.set_cons_zero, List.set_cons_succ, List.getElem_toArray, List.getElem_cons_zero, List.getElem_cons_succ]
            refine hT (i := 6) (v := ?_) rfl (by kernel_rfl) (fun _ _ _ h => h) (by rfl) ?_ hHeld ?_
            rotate_left
            · (intro w_ hw_; (try dsimp only at hw_); go_simp; try with_reducible rfl)
            simp only [Act.put, List.setIfInBounds_toArray, List.set_cons_zero, List.set_cons_succ, List.getElem_toArray, List.getElem_cons_zero, List.getElem_cons_succ]
            refine hT (i := 7) (v := ?_) rfl (by kernel_rfl) (fun _ _ _ h => h) (by rfl) ?_ hHeld ?_
            rotate_left
            · (intro w_ hw_; (try dsimp only at hw_); go_simp; try with_reducible rfl)
            simp only [Act.put, List.setIfInBounds_toArray, List.set_cons_zero, List.set_cons_succ, List.getElem_toArray, List.getElem_cons_zero, List.getElem_cons_succ]
            refine hT (i := 8) (v := ?_) rfl (by kernel_rfl) (fun _ _ _ h => h) (by rfl) ?_ hHeld ?_
            rotate_left
            · (intro w_ hw_; (try dsimp only at hw_); go_simp; try with_reducible rfl)
            simp only [Act.put, List.setIfInBounds_toArray, List.set_cons_zero, List.set_cons_succ, List.getElem_toArray, List.getElem_cons_zero, List.getElem_cons_succ]
            refine hT (i := 9) (v := ?_) rfl (by kernel_rfl) (fun _ _ _ h => h) (by rfl) ?_ hHeld ?_
            rotate_left
            · (intro w_ hw_; (try dsimp only at hw_); go_simp; try with_reducible rfl)
            simp only [Act.put, List.setIfInBounds_toArray, List.set_cons_zero, List.set_cons_succ, List.getElem_toArray, List.getElem_cons_zero, List.getElem_cons_succ]
            refine hT (i := 10) (v := ?_) rfl (by kernel_rfl) (fun _ _ _ h => h) (by rfl) ?_ hHeld ?_
            rotate_left
            · (intro w_ hw_; (try dsimp only at hw_); go_simp; try with_reducible rfl)
            simp only [Act.put, List.setIfInBounds_toArray, List.set_cons_zero, List.set_cons_succ, List.getElem_toArray, List.getElem_cons_zero, List.getElem_cons_succ]
            refine hT (i := 11) (v := ?_) rfl (by kernel_rfl) (fun _ _ _ h => h) (by rfl) ?_ hHeld ?_
            rotate_left
            · (intro w_ hw_; (try dsimp only at hw_); go_simp; try with_reducible rfl)
            simp only [Act.put, List.setIfInBounds_toArray, List.set_cons_zero, List.set_cons_succ, List.getElem_toArray, List.getElem_cons_zero, List.getElem_cons_succ]
            refine hT (i := 12) (v := ?_) rfl (by kernel_rfl) (fun _ _ _ h => h) (by rfl) ?_ hHeld ?_
            rotate_left
            · (intro w_ hw_; (try dsimp only at hw_); go_simp; try with_reducible rfl)
            simp only [Act.put, List.setIfInBounds_toArray, List.set_cons_zero, List.set_cons_succ, List.getElem_toArray, List.getElem_cons_zero, List.getElem_cons_succ]
            refine wpAnyH_done (by kernel_rfl) ?_ _
            clear hHeld
            go_wp2_with fail
            exact ⟨⟨k + 1, by omega, by go_num, HM2, hide (by rw [← HW.out, HP.out, HF.out]; rfl), HO2⟩, by simp [intOf]; omega⟩
    · obtain rfl : k = ps.length := by omega
      go_wp2_with fail
      go_ret
      rw [HE.out, ← HW.out, List.drop_length]
      exact ⟨rfl, HI.out.bel⟩
end Go.Proofs.Ythjhkbnajclcjaa
