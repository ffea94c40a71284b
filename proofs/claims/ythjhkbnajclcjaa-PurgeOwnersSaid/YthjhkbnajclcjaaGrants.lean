/- config.May's rule on grants. -/
import Derived.Test.YthjhkbnajclcjaaGSet
import Derived.Deep.DeepCutAuto
namespace Go.Proofs.Ythjhkbnajclcjaa
open Go.RowKit

def grantOk (c : Config) (s : List (Int × Int)) (g : Grant) : Bool := decide (0 ≤ ownerOf c g.frame) && (there c g.to && (!(g.to == ownerOf c g.frame) && !decide ((g.frame, g.to) ∈ s)))
def grantsGo (c : Config) : List (Int × Int) → List Grant → Bool
  | _, [] => true
  | s, g :: gs => grantOk c s g && grantsGo c ((g.frame, g.to) :: s) gs
def grantsRule (c : Config) : Bool := grantsGo c [] c.grants
theorem kGrant_vals {w : World} {x : Grant} {c0 c1 c2 : Value} (h : kGrant.K w x [c0, c1, c2]) : c0 = .int .i64 x.frame ∧ c1 = .int .i64 x.to ∧ c2 = .bool x.write ∧ I64 x.frame ∧ I64 x.to := by
  obtain ⟨hcs, h1, h2⟩ := h
  simp only [List.cons.injEq, and_true] at hcs
  exact ⟨hcs.1, hcs.2.1, hcs.2.2, h1, h2⟩

set_option maxHeartbeats 4000000 in
theorem grants_calls (w : World) (bc : Nat) (c : Config) (h : kConfig.At w bc 0 c) :
    Calls Try.prog 116 #[.pointer (some ⟨bc, 0, none⟩)] w fun e w' => e = .returned (.bool (grantsRule c)) ∧ Bel w w' := by
  obtain ⟨vp, vd, vw, vg, hbc, h0, h1, h2, h3, h4, h5, h6, h7, h8, -, -, -, hg, -⟩ := cfg_open h
  obtain ⟨A, b, o, cc, rfl, hl1, hl2, hA, hrows⟩ := hg.form
  have HR := hide (hrows w hg); clear hrows
  have HE : Hid (grantsRule c = grantsGo c [] c.grants) := rfl
  have Hth := hide fun (W : World) (p : Int) (hW : Bel w W) => there_c W bc c p (h.bel hW)
  have Hown := hide fun (W : World) (p : Int) (hW : Bel w W) => ownerOf_calls W bc c p (h.bel hW)
  generalize grantsRule c = res at HE
  have HB0 := hide fun o => (bel_refl w).alloc o
  have HM := hide (GSet.made w)
  have hmk := fun W : World => run_makeMap (P := Try.prog) 214 W
  have e5 := fun o => ((bel_refl w).alloc o).cell h5
  have H5 := hide h5
  clear h h0 h1 h2 h3 h4 h6 h7 h8 hg
  go_enter Try.func116, Try.ntmps116
  go_wp2
  clear e5 hmk
  go_loopw [14] (fun t W => ∃ (k : Nat) (s : List (Int × Int)), k ≤ c.grants.length ∧ t = .int .i64 k ∧ Hid (Bel w W) ∧ Hid (GSet W w.heap.size k s) ∧ Hid (grantsGo c s (c.grants.drop k) = grantsGo c [] c.grants)) (fun t _ => c.grants.length - (intOf t).toNat)
  case atStart => exact ⟨0, [], Nat.zero_le _, rfl, hide (HB0.out _), HM, hide rfl⟩
  case round =>
    obtain ⟨k, s, hk, rfl, HB, HG, HW⟩ := hrel
    by_cases hlt : k < c.grants.length
    · obtain ⟨c0, c1, c2, hK, hc_0, hc_1, hc_2⟩ := (HR.out.bel HB.out).get3 rfl hlt
      have HP := hide (show grantsGo c s (c.grants.drop k) = (grantOk c s c.grants[k] && grantsGo c ((c.grants[k].frame, c.grants[k].to) :: s) (c.grants.drop (k + 1))) by rw [drop_cons hlt]; rfl)
      generalize c.grants[k] = x at hK HP
      obtain ⟨xf, xt, xw⟩ := x
      obtain ⟨rfl, rfl, rfl, hi1, hi2⟩ := kGrant_vals hK
      clear hK
      simp only at hc_0 hc_1 hc_2 hi1 hi2 HP
      have Hi := hide (And.intro hi1 hi2)
      clear hi1 hi2
      rw [hA (by omega)]
      go_wp2_with fail
      obtain ⟨W0, hW0⟩ : ∃ W0 : World, W0 = wr.alloc (.cells #[.int .i64 xf, .int .i64 xt, .bool xw] 44) := ⟨_, rfl⟩
      rw [← hW0]
      have f0 : W0.cell? ⟨wr.heap.size, 0, none⟩ = some (.int .i64 xf) := by rw [hW0]; go_simp
      have f1 : W0.cell? ⟨wr.heap.size, 1, none⟩ = some (.int .i64 xt) := by rw [hW0]; go_simp
      have HBW := hide (show Bel w W0 by rw [hW0]; exact HB.out.alloc _)
      have HGW := hide (show GSet W0 w.heap.size k s by rw [hW0]; exact HG.out.bel ((bel_refl _).alloc _))
      have HP := hide (show grantsGo c s (c.grants.drop k) = ((decide (0 ≤ ownerOf c xf) && (there c xt && (!(xt == ownerOf c xf) && !decide ((xf, xt) ∈ s)))) && grantsGo c ((xf, xt) :: s) (c.grants.drop (k + 1))) from HP.out)
      have hown := hide fun W (hW : Bel W0 W) => Hown.out W xf (Bel.trans HBW.out hW)
      have hth := hide fun W (hW : Bel W0 W) => Hth.out W xt (Bel.trans HBW.out hW)
      generalize ownerOf c xf = ow at hown HP
      generalize there c xt = q at hth HP
      have hne : W0.heap.size ≠ wr.heap.size := Nat.ne_of_gt (World.block_lt_of_cell? W0 _ f0)
      clear hW0 hc_0 hc_1 hc_2 HB HG
      go_cut [6, 7] (fun t6 t7 W => ∃ g : Nat, t6 = .int .i64 ow ∧ t7 = .pointer (some ⟨g, 0, none⟩) ∧ Hid (Bel W0 W) ∧ W.cell? ⟨g, 0, none⟩ = some (.int .i64 xf) ∧ W.cell? ⟨g, 1, none⟩ = some (.int .i64 xt) ∧ W.cell? ⟨g, 2, none⟩ = some (.bool false))
      case first =>
        have hd := (bel_refl W0).drew
        refine wp_region_held_drew (S := fun w' => Bel W0 w' ∧ w'.cell? ⟨wr.heap.size, 0, none⟩ = some (.int .i64 xf) ∧ w'.cell? ⟨wr.heap.size, 1, none⟩ = some (.int .i64 xt)) (by kernel_rfl) ?_ (fun hHeld => ?_)
        · exact ⟨hd, f0, f1⟩
        refine hT (i := 0) (v := ?_) rfl (by kernel_rfl) (fun _ _ _ h => h) (by rfl) ?_ hHeld ?_
        rotate_left
        · (intro w_ hw_; (try dsimp only at hw_); go_simp; try with_reducible rfl)
        simp only [Act.put, List.setIfInBounds_toArray, List.set_cons_zero, List.set_cons_succ, List.getElem_toArray, List.getElem_cons_zero]
        refine hT (i := 1) (v := ?_) rfl (by kernel_rfl) (fun _ _ _ h => h) (by rfl) ?_ hHeld ?_
        rotate_left
        · (intro w_ hw_; (try dsimp only at hw_); go_simp; try with_reducible rfl)
        simp only [Act.put, List.setIfInBounds_toArray, List.set_cons_zero, List.set_cons_succ, List.getElem_toArray, List.getElem_cons_zero, List.getElem_cons_succ]
        refine hT (i := 2) (v := ?_) rfl (by kernel_rfl) (fun _ _ _ h => h) (by rfl) ?_ hHeld ?_
        rotate_left
        · (intro w_ hw_; (try dsimp only at hw_); go_simp; try with_reducible rfl)
        simp only [Act.put, List.setIfInBounds_toArray, List.set_cons_zero, List.set_cons_succ, List.getElem_toArray, List.getElem_cons_zero, List.getElem_cons_succ]
        refine hT (i := 4) (v := ?_) rfl (by kernel_rfl) (fun _ _ _ h => h) (by rfl) ?_ hHeld ?_
        rotate_left
        · (intro w_ hw_; (try dsimp only at hw_); go_simp; try with_reducible rfl)
        simp only [Act.put, List.setIfInBounds_toArray, List.set_cons_zero, List.set_cons_succ, List.getElem_toArray, List.getElem_cons_zero, List.getElem_cons_succ]
        refine hT (i := 5) (v := ?_) rfl (by kernel_rfl) (fun _ _ _ h => h) (by rfl) ?_ hHeld ?_
        rotate_left
        · (intro w_ hw_; (try dsimp only at hw_); go_simp; try with_reducible rfl)
        simp only [Act.put, List.setIfInBounds_toArray, List.set_cons_zero, List.set_cons_succ, List.getElem_toArray, List.getElem_cons_zero, List.getElem_cons_succ]
        refine hT (i := 6) (v := ?_) rfl (by kernel_rfl) (fun _ _ _ h => h) (by rfl) ?_ hHeld ?_
        rotate_left
        · (intro w_ hw_; (try dsimp only at hw_); go_simp; try with_reducible rfl)
        simp only [Act.put, List.setIfInBounds_toArray, List.set_cons_zero, List.set_cons_succ, List.getElem_toArray, List.getElem_cons_zero, List.getElem_cons_succ]
        refine hT (i := 7) (v := ?_) rfl (by kernel_rfl) (fun _ _ _ h => h) (by rfl) ?_ hHeld ?_
        rotate_left
        · (intro w_ hw_; (try dsimp only at hw_); go_simp; try with_reducible rfl)
        simp only [Act.put, List.setIfInBounds_toArray, List.set_cons_zero, List.set_cons_succ, List.getElem_toArray, List.getElem_cons_zero, List.getElem_cons_succ]
        refine hT (i := 8) (v := ?_) rfl (by kernel_rfl) (fun _ _ _ h => h) (by rfl) ?_ hHeld ?_
        rotate_left
        · (intro w_ hw_; (try dsimp only at hw_); go_simp; try with_reducible rfl)
        simp only [Act.put, List.setIfInBounds_toArray, List.set_cons_zero, List.set_cons_succ, List.getElem_toArray, List.getElem_cons_zero, List.getElem_cons_succ]
        refine hE2 (i := 3) (j := 9) rfl rfl (by kernel_rfl) (by rfl) (by rfl) (fun K hK => ?_) (fun K hK => ?_)
        · skip
          go_simp
          refine (hown.out _ hHeld.1).mono ?_
          rintro e w1 ⟨rfl, hi⟩
          have hk := hide (And.intro (Bel.trans hHeld.1 hi) (And.intro (hi.cell hHeld.2.1) (hi.cell hHeld.2.2)))
          refine hK.out _ _ ?_ (fun hHeld => ?_)
          · exact hk.out
          clear hK K
          refine hE (i := 9) rfl (by kernel_rfl) (by rfl) (fun K hK => ?_)
          go_simp
          refine hK.out _ _ ?_ (fun hHeld => ?_)
          · exact ⟨hHeld.1.alloc _, ((bel_refl _).alloc _).cell hHeld.2.1, ((bel_refl _).alloc _).cell hHeld.2.2⟩
          clear hK K
          refine hT (i := 10) (v := ?_) rfl (by kernel_rfl) (fun _ _ _ h => h) (by rfl) ?_ hHeld ?_
          rotate_left
          · (intro w_ hw_; (try dsimp only at hw_); go_simp; try with_reducible rfl)
          simp only [Act.put, List.setIfInBounds_toArray, List.set_cons_zero, List.set_cons_succ, List.getElem_toArray, List.getElem_cons_zero, List.getElem_cons_succ]
          refine hE (i := 11) rfl (by kernel_rfl) (by rfl) (fun K hK => ?_)
          go_simp
          refine hK.out _ _ ?_ (fun hHeld => ?_)
          · exact ⟨hk.out.1.alloc _, ((bel_refl _).alloc _).cell hk.out.2.1, ((bel_refl _).alloc _).cell hk.out.2.2⟩
          clear hK K
          refine wpAnyH_done (by kernel_rfl) ?_ _
          go_wp2_with fail
          go_meet
          case rel => exact ⟨_, rfl, rfl, hide (hk.out.1.alloc _), by go_simp, by go_simp, by go_simp⟩
        · skip
          go_simp
          refine hK.out _ _ ?_ (fun hHeld => ?_)
          · exact ⟨hHeld.1.alloc _, ((bel_refl _).alloc _).cell hHeld.2.1, ((bel_refl _).alloc _).cell hHeld.2.2⟩
          clear hK K
          refine hE (i := 3) rfl (by kernel_rfl) (by rfl) (fun K hK => ?_)
          go_simp
          refine (hown.out _ hHeld.1).mono ?_
          rintro e w1 ⟨rfl, hi⟩
          have hk := hide (And.intro (Bel.trans hHeld.1 hi) (And.intro (hi.cell hHeld.2.1) (hi.cell hHeld.2.2)))
          have z0 := hi.cell (show (W0.drew.alloc (.cells #[.int .i64 0, .int .i64 0, .bool false] 44)).cell? ⟨W0.heap.size, 0, none⟩ = some (.int .i64 0) by go_simp)
          have z1 := hi.cell (show (W0.drew.alloc (.cells #[.int .i64 0, .int .i64 0, .bool false] 44)).cell? ⟨W0.heap.size, 1, none⟩ = some (.int .i64 0) by go_simp)
          have z2 := hi.cell (show (W0.drew.alloc (.cells #[.int .i64 0, .int .i64 0, .bool false] 44)).cell? ⟨W0.heap.size, 2, none⟩ = some (.bool false) by go_simp)
          have zf : ∀ i, w1.frozen? ⟨W0.heap.size, i, none⟩ = false := fun i => ((bcell hi).2 _ _ (by simp)).trans (by go_simp)
          refine hK.out _ _ ?_ (fun hHeld => ?_)
          · exact hk.out
          clear hK K
          refine hT (i := 10) (v := ?_) rfl (by kernel_rfl) (fun _ _ _ h => h) (by rfl) ?_ hHeld ?_
          rotate_left
          · (intro w_ hw_; (try dsimp only at hw_); go_simp; try with_reducible rfl)
          simp only [Act.put, List.setIfInBounds_toArray, List.set_cons_zero, List.set_cons_succ, List.getElem_toArray, List.getElem_cons_zero, List.getElem_cons_succ]
          refine hE (i := 11) rfl (by kernel_rfl) (by rfl) (fun K hK => ?_)
          go_simp
          refine hK.out _ _ ?_ (fun hHeld => ?_)
          · exact ⟨((hk.out.1.setCell (by simp) _).setCell (by simp) _).setCell (by simp) _, by rw [World.cell?_setCell_far _ _ _ _ hne, World.cell?_setCell_far _ _ _ _ hne, World.cell?_setCell_far _ _ _ _ hne]; exact hk.out.2.1, by rw [World.cell?_setCell_far _ _ _ _ hne, World.cell?_setCell_far _ _ _ _ hne, World.cell?_setCell_far _ _ _ _ hne]; exact hk.out.2.2⟩
          clear hK K
          refine wpAnyH_done (by kernel_rfl) ?_ _
          go_wp2_with fail
          go_meet
          case rel => exact ⟨_, rfl, rfl, hide hHeld.1, by go_simp, by go_simp, by go_simp⟩
      case rest =>
        clear f0 hne hown
        obtain ⟨g, rfl, rfl, HC, e0, e1, e2⟩ := hcut
        have g1 := HC.out.cell f1
        have hthc := hide (hth.out wc HC.out)
        have HGc := hide (HGW.out.bel HC.out)
        have HBc := hide (Bel.trans HBW.out HC.out)
        have HLw := hide (Nat.lt_of_lt_of_le hbc HBc.out.size)
        clear f1 hth HGW HBW HC Hth Hown HB0 HM h5
        by_cases n1 : ow < 0
        · have HX := hide (show decide (0 ≤ ow) = false from decide_eq_false (by omega))
          go_wp2_with fail
          go_ret
          rw [HE.out, ← HW.out, HP.out, HX.out]
          exact ⟨rfl, HBc.out⟩
        have HX := hide (show decide (0 ≤ ow) = true from decide_eq_true (by omega))
        cases q
        · go_wp2_with ((with_reducible refine (Hid.out hthc).mono ?_); rintro e w1 ⟨rfl, rfl⟩)
          go_ret
          rw [HE.out, ← HW.out, HP.out, HX.out]
          exact ⟨rfl, HBc.out⟩
        cases n2 : (xt == ow)
        · have hl := HGc.out.look (xf, xt) Hi.out.1 Hi.out.2
          obtain ⟨w2, hput, HG2, hgr⟩ := HGc.out.put (by omega) (xf, xt) Hi.out.1 Hi.out.2
          have HG2 := hide HG2
          have hgr := hide hgr
          simp only [gval] at hl hput
          have HN2 := hide n2
          generalize decide ((xf, xt) ∈ s) = q2 at hl HP
          cases q2
          · go_wp2_with ((with_reducible refine (Hid.out hthc).mono ?_); rintro e w1 ⟨rfl, rfl⟩)
            exact ⟨⟨k + 1, (xf, xt) :: s, by omega, by go_num, hide (HBc.out.grown hgr.out HBc.out.size (by rintro _ ⟨rfl⟩; omega)), HG2, hide (by rw [← HW.out, HP.out, HX.out, HN2.out]; rfl)⟩, by simp [intOf]; omega⟩
          · clear hput
            go_wp2_with ((with_reducible refine (Hid.out hthc).mono ?_); rintro e w1 ⟨rfl, rfl⟩)
            go_ret
            rw [HE.out, ← HW.out, HP.out, HX.out, HN2.out]
            exact ⟨rfl, HBc.out⟩
        · obtain rfl : xt = ow := by simpa using n2
          have HN2 := hide n2
          clear n2
          go_wp2_with ((with_reducible refine (Hid.out hthc).mono ?_); rintro e w1 ⟨rfl, rfl⟩)
          go_ret
          rw [HE.out, ← HW.out, HP.out, HX.out, HN2.out]
          exact ⟨rfl, HBc.out⟩
    · obtain rfl : k = c.grants.length := by omega
      rw [List.drop_length] at HW
      clear HR
      go_wp2
      go_ret
      rw [HE.out, ← HW.out]
      exact ⟨rfl, HB.out⟩
end Go.Proofs.Ythjhkbnajclcjaa
