/- caissonlaw23.PurgeOwners: the walk. -/
import Derived.Test.YthjhkbnajclcjaaPOwn
import Derived.Test.YthjhkbnajclcjaaForms
set_option linter.unusedSimpArgs false
namespace Go.Proofs.Ythjhkbnajclcjaa
open Go.RowKit

theorem own_next {v v1 u : Value} {W : World} (hat : v1.ownBlock = v.ownBlock ∨ ∃ b, v1.ownBlock = some b ∧ W.heap.size ≤ b) (hu : ∀ k, u.ownBlock = some k → k < W.heap.size) (hne : ∀ q, v.ownBlock = some q → u.ownBlock ≠ some q) : ∀ q, v1.ownBlock = some q → u.ownBlock ≠ some q := fun q hq he => by
  rcases hat with h | ⟨b, h, hb⟩
  · exact hne q (h ▸ hq) he
  · rw [h] at hq
    injection hq with hq
    have := hu q he
    omega

set_option maxRecDepth 20000 in
set_option maxHeartbeats 16000000 in
theorem purgeOwners_law (vk : Value) (kinds : List Int) (w : World) (hs : kInt.Sl w vk kinds) :
    Calls Try.prog 12 #[vk] w fun e w' => e = .returned (.bool true) ∧ Bel w w' := by
  obtain ⟨A, b, o, cap, rfl, hl, hc, hA, hR⟩ := hs.open rfl
  have HR := hide (hR.out w hs)
  have ha := hide awake23_calls
  have hn := hide num_calls
  have hp := hide plain23_calls'
  clear hs hR
  go_enter Try.func12, Try.ntmps12
  go_upto_region 3 with ((with_reducible refine (Hid.out ha _).mono ?_); rintro e w1 ⟨rfl, hb0⟩; have m0 := hide hb0; clear hb0)
  go_upto_region 4 with ((with_reducible refine (Hid.out hp _).mono ?_); rintro e w2 ⟨rfl, hb1, hc1, hs1⟩)
  obtain ⟨W3, hW3⟩ : ∃ W3 : World, W3 = w2.alloc (.cells #[.int .i64 16, .slice (some ⟨w1.heap.size + 4, 0, none⟩) 3 3, .slice (some ⟨w1.heap.size + 7, 0, none⟩) 2 2, .int .i64 6, .slice (some ⟨w1.heap.size + 8, 0, none⟩) 3 3, .slice (some ⟨w1.heap.size + 9, 0, none⟩) 1 1, .int .i64 10, .int .i64 6, .int .i64 2] 27) := ⟨_, rfl⟩
  rw [← hW3]
  have HB3 := hide (show Bel w W3 by rw [hW3]; exact (Bel.trans m0.out hb1.out).alloc _)
  have HBx := hide (show BlkAt W3 w2.heap.size [.int .i64 16, .slice (some ⟨w1.heap.size + 4, 0, none⟩) 3 3, .slice (some ⟨w1.heap.size + 7, 0, none⟩) 2 2, .int .i64 6, .slice (some ⟨w1.heap.size + 8, 0, none⟩) 3 3, .slice (some ⟨w1.heap.size + 9, 0, none⟩) 1 1, .int .i64 10, .int .i64 6, .int .i64 2] 27 by rw [hW3]; exact blk_new w2 _ _)
  have CV := hide (show CfgV W3 (.agg #[.int .i64 16, .slice (some ⟨w1.heap.size + 4, 0, none⟩) 3 3, .slice (some ⟨w1.heap.size + 7, 0, none⟩) 2 2, .int .i64 6, .slice (some ⟨w1.heap.size + 8, 0, none⟩) 3 3, .slice (some ⟨w1.heap.size + 9, 0, none⟩) 1 1, .int .i64 10, .int .i64 6, .int .i64 2]) plainCfg from PlainAt.k (hc1.out.bel (show Bel w2 W3 by rw [hW3]; exact (bel_refl _).alloc _)))
  have HR := hide (HR.out.bel HB3.out)
  clear hW3 hb1 hc1 hp ha m0 hs1
  generalize w2.heap.size = B3 at *
  go_wp2_with fail
  go_loopw [4, 5, 6, 7, 8, 9] (fun t4 t5 t6 t7 t8 t9 W => ∃ (k : Nat) (ops : List OOp) (o : OSt), k ≤ kinds.length ∧ k ≤ 40 ∧ t9 = .int .i64 k ∧ ops.length = k ∧ t6 = .int .i64 o.owner ∧ t7 = .int .i64 o.dest ∧ t8 = .int .i64 o.left ∧ 0 ≤ o.left ∧ o.left ≤ 2 ∧ Hid (o = owInit.run ops) ∧ Hid (∀ x ∈ ops, x.Ok) ∧ Hid (Bel W3 W) ∧ Hid (kStep.Own 59 W3.heap.size W t4 (ops.map OOp.step)) ∧ Hid (kBool.Own 4 W3.heap.size W t5 (owInit.keeps ops)) ∧ Hid (∀ q, t4.ownBlock = some q → t5.ownBlock ≠ some q)) (fun _ _ _ _ _ t _ => kinds.length - (intOf t).toNat)
  case atStart => exact ⟨0, [], owInit, Nat.zero_le _, Nat.zero_le _, rfl, rfl, rfl, rfl, rfl, by decide, by decide, hide rfl, hide (by simp), hide (bel_refl _), hide (Kind.Own.nil _ _ _ _), hide (Kind.Own.nil _ _ _ _), hide (by simp [Value.ownBlock])⟩
  case round =>
    obtain ⟨k, ops, o, hk, hk40, rfl, hol, rfl, rfl, rfl, hl0, hl2, HO, HK, HB, HO4, HO5, HN⟩ := hrel
    by_cases hlt : k < kinds.length ∧ k < 40
    · obtain ⟨hlt, hlt40⟩ := hlt
      obtain ⟨c0, hK, y0⟩ := (HR.out.bel HB.out).get1 rfl hlt
      obtain ⟨hK, -⟩ := hK
      simp only [List.cons.injEq, and_true] at hK
      subst hK
      generalize kinds[k] = x at y0
      obtain rfl := hA.out (by omega)
      have hb3 := HB.out.size
      have hs4 := hide fun q (h : u4.ownBlock = some q) => (HO4.out.block q h).2
      have hs5 := hide fun q (h : u5.ownBlock = some q) => (HO5.out.block q h).2
      have HT := hide fun x => OSt.run_snoc owInit ops x
      have HKS := hide fun x => OSt.keeps_snoc ops x owInit
      rw [← HO.out] at HT HKS
      obtain ⟨ow, dest, left⟩ := o
      simp only at hl0 hl2
      have j1 : (k : Int) < (kinds.length : Int) := by omega
      have j2 : (k : Int) < 40 := by omega
      have hm := band_i64 x 3 (by decide)
      simp only [Int.cast_ofNat_Int] at hm
      go_upto_block 2 with fail
      generalize bits BinOp.and IntKind.i64 x 3 = m at hm ⊢
      have hK1 := hide fun (y : OOp) (h : y.Ok) => show ∀ z ∈ ops ++ [y], z.Ok from fun z hz => by
        rcases List.mem_append.1 hz with hz | hz
        · exact HK.out z hz
        · rw [List.mem_singleton.1 hz]; exact h
      by_cases h0 : m = 0
      · subst h0
        have HT := hide (HT.out .tick)
        have HKS := hide (HKS.out .tick)
        have HK1 := hide (hK1.out .tick trivial)
        simp only [OSt.next, OSt.keep] at HT HKS
        by_cases l0 : 0 < left
        · by_cases l1 : left = 1
          · subst l1
            go_wp2_with (at_builtin; first
        | (refine own_append kStep kStep_one W3.heap.size rfl _ _ 49 59 _ 64 rfl Try.underlying49 info_Step rfl (by decide) (by decide) u4 (ops.map OOp.step) (kd 1) [.int .i64 1, .int .i64 0, .int .i64 0, .int .i64 0, .int .i64 0, .int .i64 0, .string ⟨#[]⟩] (by rfl) (by rfl) HO4.out (kStep_pure.rob (w := wr) ⟨rfl, by decide, by decide, by decide, by decide, by decide, by decide, by decide⟩ _) hb3 (by rw [List.length_map]; omega) ?_
           intro v4 w6 HA4 HB6 hg6 hat6
           have HA5 := hide (HO5.out.far kBool_pure hg6 (fun q hq he => HN.out q he.symm hq))
           have HN6 := hide (own_next hat6 hs5.out HN.out)
           have HA4 := hide HA4
           have HB6 := hide HB6
           have hb6 := Nat.le_trans hb3 HB6.out.size
           clear hg6 hat6)
        | (refine own_append kBool kBool_one W3.heap.size rfl _ _ 64 4 _ 1 rfl Try.underlying64 info_bool rfl (by decide) (by decide) u5 (owInit.keeps ops) true [.bool true] (by rfl) (by rfl) HA5.out (kBool_pure.rob (w := w6) rfl _) hb6 (by rw [OSt.keeps_length]; omega) ?_
           intro v5 w7 HC5 HB7 hg7 hat7
           have hs4' := hide fun q (h : v4.ownBlock = some q) => (HA4.out.block q h).2
           have HC4 := hide (HA4.out.far kStep_pure hg7 (fun q hq he => HN6.out q hq he.symm))
           have HN7 := hide (show ∀ q, v4.ownBlock = some q → v5.ownBlock ≠ some q from fun q hq he => own_next hat7 hs4'.out (fun q h1 h2 => HN6.out q h2 h1) q he hq)
           have HC5 := hide HC5
           have HB7 := hide HB7
           clear hg7 hat7))
            exact ⟨⟨k + 1, ops ++ [OOp.tick], ⟨dest, dest, 0⟩, by omega, by omega, by go_num, by rw [List.length_append, hol]; rfl, by go_num, by go_num, by go_num, by dsimp only; omega, by dsimp only; omega, hide (by rw [HT.out]; first | done | simp [*]), HK1, hide (Below.trans (Below.trans HB.out HB6.out) HB7.out), hide (by rw [List.map_append]; exact HC4.out), hide (by rw [HKS.out]; first | exact HC5.out | (rw [o2b, o0b]; exact HC5.out)), HN7⟩, by simp [intOf]; omega⟩
          · have l1b : (left - 1 == 0) = false := by simp; omega
            have l1i : ¬ left - 1 = 0 := by omega
            have l1c : ¬ left = 1 := by omega
            go_wp2_with (at_builtin; first
        | (refine own_append kStep kStep_one W3.heap.size rfl _ _ 49 59 _ 64 rfl Try.underlying49 info_Step rfl (by decide) (by decide) u4 (ops.map OOp.step) (kd 1) [.int .i64 1, .int .i64 0, .int .i64 0, .int .i64 0, .int .i64 0, .int .i64 0, .string ⟨#[]⟩] (by rfl) (by rfl) HO4.out (kStep_pure.rob (w := wr) ⟨rfl, by decide, by decide, by decide, by decide, by decide, by decide, by decide⟩ _) hb3 (by rw [List.length_map]; omega) ?_
           intro v4 w6 HA4 HB6 hg6 hat6
           have HA5 := hide (HO5.out.far kBool_pure hg6 (fun q hq he => HN.out q he.symm hq))
           have HN6 := hide (own_next hat6 hs5.out HN.out)
           have HA4 := hide HA4
           have HB6 := hide HB6
           have hb6 := Nat.le_trans hb3 HB6.out.size
           clear hg6 hat6)
        | (refine own_append kBool kBool_one W3.heap.size rfl _ _ 64 4 _ 1 rfl Try.underlying64 info_bool rfl (by decide) (by decide) u5 (owInit.keeps ops) true [.bool true] (by rfl) (by rfl) HA5.out (kBool_pure.rob (w := w6) rfl _) hb6 (by rw [OSt.keeps_length]; omega) ?_
           intro v5 w7 HC5 HB7 hg7 hat7
           have hs4' := hide fun q (h : v4.ownBlock = some q) => (HA4.out.block q h).2
           have HC4 := hide (HA4.out.far kStep_pure hg7 (fun q hq he => HN6.out q hq he.symm))
           have HN7 := hide (show ∀ q, v4.ownBlock = some q → v5.ownBlock ≠ some q from fun q hq he => own_next hat7 hs4'.out (fun q h1 h2 => HN6.out q h2 h1) q he hq)
           have HC5 := hide HC5
           have HB7 := hide HB7
           clear hg7 hat7))
            exact ⟨⟨k + 1, ops ++ [OOp.tick], ⟨ow, dest, left - 1⟩, by omega, by omega, by go_num, by rw [List.length_append, hol]; rfl, by go_num, by go_num, by go_num, by dsimp only; omega, by dsimp only; omega, hide (by rw [HT.out]; first | done | simp [*]), HK1, hide (Below.trans (Below.trans HB.out HB6.out) HB7.out), hide (by rw [List.map_append]; exact HC4.out), hide (by rw [HKS.out]; first | exact HC5.out | (rw [o2b, o0b]; exact HC5.out)), HN7⟩, by simp [intOf]; omega⟩
        · have l0i : ¬ 0 < left := l0
          go_wp2_with (at_builtin; first
        | (refine own_append kStep kStep_one W3.heap.size rfl _ _ 49 59 _ 64 rfl Try.underlying49 info_Step rfl (by decide) (by decide) u4 (ops.map OOp.step) (kd 1) [.int .i64 1, .int .i64 0, .int .i64 0, .int .i64 0, .int .i64 0, .int .i64 0, .string ⟨#[]⟩] (by rfl) (by rfl) HO4.out (kStep_pure.rob (w := wr) ⟨rfl, by decide, by decide, by decide, by decide, by decide, by decide, by decide⟩ _) hb3 (by rw [List.length_map]; omega) ?_
           intro v4 w6 HA4 HB6 hg6 hat6
           have HA5 := hide (HO5.out.far kBool_pure hg6 (fun q hq he => HN.out q he.symm hq))
           have HN6 := hide (own_next hat6 hs5.out HN.out)
           have HA4 := hide HA4
           have HB6 := hide HB6
           have hb6 := Nat.le_trans hb3 HB6.out.size
           clear hg6 hat6)
        | (refine own_append kBool kBool_one W3.heap.size rfl _ _ 64 4 _ 1 rfl Try.underlying64 info_bool rfl (by decide) (by decide) u5 (owInit.keeps ops) true [.bool true] (by rfl) (by rfl) HA5.out (kBool_pure.rob (w := w6) rfl _) hb6 (by rw [OSt.keeps_length]; omega) ?_
           intro v5 w7 HC5 HB7 hg7 hat7
           have hs4' := hide fun q (h : v4.ownBlock = some q) => (HA4.out.block q h).2
           have HC4 := hide (HA4.out.far kStep_pure hg7 (fun q hq he => HN6.out q hq he.symm))
           have HN7 := hide (show ∀ q, v4.ownBlock = some q → v5.ownBlock ≠ some q from fun q hq he => own_next hat7 hs4'.out (fun q h1 h2 => HN6.out q h2 h1) q he hq)
           have HC5 := hide HC5
           have HB7 := hide HB7
           clear hg7 hat7))
          exact ⟨⟨k + 1, ops ++ [OOp.tick], ⟨ow, dest, left⟩, by omega, by omega, by go_num, by rw [List.length_append, hol]; rfl, by go_num, by go_num, by go_num, by dsimp only; omega, by dsimp only; omega, hide (by rw [HT.out]; first | done | simp [*]), HK1, hide (Below.trans (Below.trans HB.out HB6.out) HB7.out), hide (by rw [List.map_append]; exact HC4.out), hide (by rw [HKS.out]; first | exact HC5.out | (rw [o2b, o0b]; exact HC5.out)), HN7⟩, by simp [intOf]; omega⟩
      by_cases h1 : m = 1
      · subst h1
        go_upto_region 22 with fail
        have hp0 := band_i64 (x / 4) 1023 (by decide)
        simp only [Int.cast_ofNat_Int] at hp0
        have hp1 := Int.tmod_nonneg 3 hp0.1
        have hp2 := Int.tmod_lt_of_pos (bits BinOp.and IntKind.i64 (x / 4) 1023) (show (0 : Int) < 3 by decide)
        generalize (bits BinOp.and IntKind.i64 (x / 4) 1023).tmod 3 = p at hp1 hp2 ⊢
        have hpi := hide (show I64 p by unfold I64; omega)
        have HT := hide (HT.out (.move p))
        have HKS := hide (HKS.out (.move p))
        have HK1 := hide (hK1.out (.move p) ⟨hp1, hp2⟩)
        simp only [OSt.next, OSt.keep] at HT HKS
        clear hp0
        by_cases l0 : left = 0
        · subst l0
          go_wp2_with (at_builtin; first
        | (refine own_append kStep kStep_one W3.heap.size rfl _ _ 49 59 _ 64 rfl Try.underlying49 info_Step rfl (by decide) (by decide) u4 (ops.map OOp.step) ⟨2, 0, 1, p, 0, 0, ⟨#[]⟩⟩ [.int .i64 2, .int .i64 0, .int .i64 1, .int .i64 p, .int .i64 0, .int .i64 0, .string ⟨#[]⟩] (by rfl) (by rfl) HO4.out (kStep_pure.rob (w := wr) ⟨rfl, (by unfold I64; dsimp only; omega), (by unfold I64; dsimp only; omega), (by unfold I64; dsimp only; omega), hpi.out, (by unfold I64; dsimp only; omega), (by unfold I64; dsimp only; omega), (by show (⟨#[]⟩ : ByteArray).size ≤ Top; decide)⟩ _) hb3 (by rw [List.length_map]; omega) ?_
           intro v4 w6 HA4 HB6 hg6 hat6
           have HA5 := hide (HO5.out.far kBool_pure hg6 (fun q hq he => HN.out q he.symm hq))
           have HN6 := hide (own_next hat6 hs5.out HN.out)
           have HA4 := hide HA4
           have HB6 := hide HB6
           have hb6 := Nat.le_trans hb3 HB6.out.size
           clear hg6 hat6)
        | (refine own_append kBool kBool_one W3.heap.size rfl _ _ 64 4 _ 1 rfl Try.underlying64 info_bool rfl (by decide) (by decide) u5 (owInit.keeps ops) true [.bool true] (by rfl) (by rfl) HA5.out (kBool_pure.rob (w := w6) rfl _) hb6 (by rw [OSt.keeps_length]; omega) ?_
           intro v5 w7 HC5 HB7 hg7 hat7
           have hs4' := hide fun q (h : v4.ownBlock = some q) => (HA4.out.block q h).2
           have HC4 := hide (HA4.out.far kStep_pure hg7 (fun q hq he => HN6.out q hq he.symm))
           have HN7 := hide (show ∀ q, v4.ownBlock = some q → v5.ownBlock ≠ some q from fun q hq he => own_next hat7 hs4'.out (fun q h1 h2 => HN6.out q h2 h1) q he hq)
           have HC5 := hide HC5
           have HB7 := hide HB7
           clear hg7 hat7))
          exact ⟨⟨k + 1, ops ++ [OOp.move p], ⟨-1, p, 2⟩, by omega, by omega, by go_num, by rw [List.length_append, hol]; rfl, by go_num, by go_num, by go_num, by dsimp only; omega, by dsimp only; omega, hide (by rw [HT.out]; first | done | simp [*]), HK1, hide (Below.trans (Below.trans HB.out HB6.out) HB7.out), hide (by rw [List.map_append]; exact HC4.out), hide (by rw [HKS.out]; first | exact HC5.out | (rw [o2b, o0b]; exact HC5.out)), HN7⟩, by simp [intOf]; omega⟩
        · have l0b : (left == 0) = false := by simpa using l0
          go_wp2_with (at_builtin; first
        | (refine own_append kStep kStep_one W3.heap.size rfl _ _ 49 59 _ 64 rfl Try.underlying49 info_Step rfl (by decide) (by decide) u4 (ops.map OOp.step) ⟨2, 0, 1, p, 0, 0, ⟨#[]⟩⟩ [.int .i64 2, .int .i64 0, .int .i64 1, .int .i64 p, .int .i64 0, .int .i64 0, .string ⟨#[]⟩] (by rfl) (by rfl) HO4.out (kStep_pure.rob (w := wr) ⟨rfl, (by unfold I64; dsimp only; omega), (by unfold I64; dsimp only; omega), (by unfold I64; dsimp only; omega), hpi.out, (by unfold I64; dsimp only; omega), (by unfold I64; dsimp only; omega), (by show (⟨#[]⟩ : ByteArray).size ≤ Top; decide)⟩ _) hb3 (by rw [List.length_map]; omega) ?_
           intro v4 w6 HA4 HB6 hg6 hat6
           have HA5 := hide (HO5.out.far kBool_pure hg6 (fun q hq he => HN.out q he.symm hq))
           have HN6 := hide (own_next hat6 hs5.out HN.out)
           have HA4 := hide HA4
           have HB6 := hide HB6
           have hb6 := Nat.le_trans hb3 HB6.out.size
           clear hg6 hat6)
        | (refine own_append kBool kBool_one W3.heap.size rfl _ _ 64 4 _ 1 rfl Try.underlying64 info_bool rfl (by decide) (by decide) u5 (owInit.keeps ops) true [.bool true] (by rfl) (by rfl) HA5.out (kBool_pure.rob (w := w6) rfl _) hb6 (by rw [OSt.keeps_length]; omega) ?_
           intro v5 w7 HC5 HB7 hg7 hat7
           have hs4' := hide fun q (h : v4.ownBlock = some q) => (HA4.out.block q h).2
           have HC4 := hide (HA4.out.far kStep_pure hg7 (fun q hq he => HN6.out q hq he.symm))
           have HN7 := hide (show ∀ q, v4.ownBlock = some q → v5.ownBlock ≠ some q from fun q hq he => own_next hat7 hs4'.out (fun q h1 h2 => HN6.out q h2 h1) q he hq)
           have HC5 := hide HC5
           have HB7 := hide HB7
           clear hg7 hat7))
          exact ⟨⟨k + 1, ops ++ [OOp.move p], ⟨ow, dest, left⟩, by omega, by omega, by go_num, by rw [List.length_append, hol]; rfl, by go_num, by go_num, by go_num, by dsimp only; omega, by dsimp only; omega, hide (by rw [HT.out]; first | done | simp [*]), HK1, hide (Below.trans (Below.trans HB.out HB6.out) HB7.out), hide (by rw [List.map_append]; exact HC4.out), hide (by rw [HKS.out]; first | exact HC5.out | (rw [o2b, o0b]; exact HC5.out)), HN7⟩, by simp [intOf]; omega⟩
      · have e0 : (m == 0) = false := by simp; omega
        have e1 : (m == 1) = false := by simp; omega
        have hr0 := band_i64 (x / 4) 1 (by decide)
        simp only [Int.cast_ofNat_Int] at hr0
        have hri := hide (show I64 (3 + bits BinOp.and IntKind.i64 (x / 4) 1) by unfold I64; omega)
        have hrw : wrap64 (3 + bits BinOp.and IntKind.i64 (x / 4) 1) = 3 + bits BinOp.and IntKind.i64 (x / 4) 1 := by unfold wrap64; omega
        have HT := hide (HT.out (.req (3 + bits BinOp.and IntKind.i64 (x / 4) 1)))
        have HKS := hide (HKS.out (.req (3 + bits BinOp.and IntKind.i64 (x / 4) 1)))
        have HK1 := hide (hK1.out (.req (3 + bits BinOp.and IntKind.i64 (x / 4) 1)) (show _ ∨ _ by omega))
        simp only [OSt.next, OSt.keep] at HT HKS
        by_cases o2 : ow = 2
        · subst o2
          go_wp2_with (at_builtin; first
        | (refine own_append kStep kStep_one W3.heap.size rfl _ _ 49 59 _ 64 rfl Try.underlying49 info_Step rfl (by decide) (by decide) u4 (ops.map OOp.step) ⟨3 + bits BinOp.and IntKind.i64 (x / 4) 1, 0, 1, 5, 0, 0, ⟨#[]⟩⟩ [.int .i64 (3 + bits BinOp.and IntKind.i64 (x / 4) 1), .int .i64 0, .int .i64 1, .int .i64 5, .int .i64 0, .int .i64 0, .string ⟨#[]⟩] (by rfl) (by rfl) HO4.out (kStep_pure.rob (w := wr) ⟨rfl, hri.out, (by unfold I64; dsimp only; omega), (by unfold I64; dsimp only; omega), (by unfold I64; dsimp only; omega), (by unfold I64; dsimp only; omega), (by unfold I64; dsimp only; omega), (by show (⟨#[]⟩ : ByteArray).size ≤ Top; decide)⟩ _) hb3 (by rw [List.length_map]; omega) ?_
           intro v4 w6 HA4 HB6 hg6 hat6
           have HA5 := hide (HO5.out.far kBool_pure hg6 (fun q hq he => HN.out q he.symm hq))
           have HN6 := hide (own_next hat6 hs5.out HN.out)
           have HA4 := hide HA4
           have HB6 := hide HB6
           have hb6 := Nat.le_trans hb3 HB6.out.size
           clear hg6 hat6)
        | (refine own_append kBool kBool_one W3.heap.size rfl _ _ 64 4 _ 1 rfl Try.underlying64 info_bool rfl (by decide) (by decide) u5 (owInit.keeps ops) true [.bool true] (by rfl) (by rfl) HA5.out (kBool_pure.rob (w := w6) rfl _) hb6 (by rw [OSt.keeps_length]; omega) ?_
           intro v5 w7 HC5 HB7 hg7 hat7
           have hs4' := hide fun q (h : v4.ownBlock = some q) => (HA4.out.block q h).2
           have HC4 := hide (HA4.out.far kStep_pure hg7 (fun q hq he => HN6.out q hq he.symm))
           have HN7 := hide (show ∀ q, v4.ownBlock = some q → v5.ownBlock ≠ some q from fun q hq he => own_next hat7 hs4'.out (fun q h1 h2 => HN6.out q h2 h1) q he hq)
           have HC5 := hide HC5
           have HB7 := hide HB7
           clear hg7 hat7))
          exact ⟨⟨k + 1, ops ++ [OOp.req (3 + bits BinOp.and IntKind.i64 (x / 4) 1)], ⟨2, dest, left⟩, by omega, by omega, by go_num, by rw [List.length_append, hol]; rfl, by go_num, by go_num, by go_num, by dsimp only; omega, by dsimp only; omega, hide (by rw [HT.out]; first | done | simp [*]), HK1, hide (Below.trans (Below.trans HB.out HB6.out) HB7.out), hide (by rw [List.map_append]; exact HC4.out), hide (by rw [HKS.out]; first | exact HC5.out | (rw [o2b, o0b]; exact HC5.out)), HN7⟩, by simp [intOf]; omega⟩
        · have o2b : (ow == 2) = false := by simpa using o2
          by_cases o0 : ow = 0
          · subst o0
            go_wp2_with (at_builtin; first
        | (refine own_append kStep kStep_one W3.heap.size rfl _ _ 49 59 _ 64 rfl Try.underlying49 info_Step rfl (by decide) (by decide) u4 (ops.map OOp.step) ⟨3 + bits BinOp.and IntKind.i64 (x / 4) 1, 0, 1, 5, 0, 0, ⟨#[]⟩⟩ [.int .i64 (3 + bits BinOp.and IntKind.i64 (x / 4) 1), .int .i64 0, .int .i64 1, .int .i64 5, .int .i64 0, .int .i64 0, .string ⟨#[]⟩] (by rfl) (by rfl) HO4.out (kStep_pure.rob (w := wr) ⟨rfl, hri.out, (by unfold I64; dsimp only; omega), (by unfold I64; dsimp only; omega), (by unfold I64; dsimp only; omega), (by unfold I64; dsimp only; omega), (by unfold I64; dsimp only; omega), (by show (⟨#[]⟩ : ByteArray).size ≤ Top; decide)⟩ _) hb3 (by rw [List.length_map]; omega) ?_
           intro v4 w6 HA4 HB6 hg6 hat6
           have HA5 := hide (HO5.out.far kBool_pure hg6 (fun q hq he => HN.out q he.symm hq))
           have HN6 := hide (own_next hat6 hs5.out HN.out)
           have HA4 := hide HA4
           have HB6 := hide HB6
           have hb6 := Nat.le_trans hb3 HB6.out.size
           clear hg6 hat6)
        | (refine own_append kBool kBool_one W3.heap.size rfl _ _ 64 4 _ 1 rfl Try.underlying64 info_bool rfl (by decide) (by decide) u5 (owInit.keeps ops) true [.bool true] (by rfl) (by rfl) HA5.out (kBool_pure.rob (w := w6) rfl _) hb6 (by rw [OSt.keeps_length]; omega) ?_
           intro v5 w7 HC5 HB7 hg7 hat7
           have hs4' := hide fun q (h : v4.ownBlock = some q) => (HA4.out.block q h).2
           have HC4 := hide (HA4.out.far kStep_pure hg7 (fun q hq he => HN6.out q hq he.symm))
           have HN7 := hide (show ∀ q, v4.ownBlock = some q → v5.ownBlock ≠ some q from fun q hq he => own_next hat7 hs4'.out (fun q h1 h2 => HN6.out q h2 h1) q he hq)
           have HC5 := hide HC5
           have HB7 := hide HB7
           clear hg7 hat7))
            exact ⟨⟨k + 1, ops ++ [OOp.req (3 + bits BinOp.and IntKind.i64 (x / 4) 1)], ⟨0, dest, left⟩, by omega, by omega, by go_num, by rw [List.length_append, hol]; rfl, by go_num, by go_num, by go_num, by dsimp only; omega, by dsimp only; omega, hide (by rw [HT.out]; first | done | simp [*]), HK1, hide (Below.trans (Below.trans HB.out HB6.out) HB7.out), hide (by rw [List.map_append]; exact HC4.out), hide (by rw [HKS.out]; first | exact HC5.out | (rw [o2b, o0b]; exact HC5.out)), HN7⟩, by simp [intOf]; omega⟩
          · have o0b : (ow == 0) = false := by simpa using o0
            go_wp2_with (at_builtin; first
        | (refine own_append kStep kStep_one W3.heap.size rfl _ _ 49 59 _ 64 rfl Try.underlying49 info_Step rfl (by decide) (by decide) u4 (ops.map OOp.step) ⟨3 + bits BinOp.and IntKind.i64 (x / 4) 1, 0, 1, 5, 0, 0, ⟨#[]⟩⟩ [.int .i64 (3 + bits BinOp.and IntKind.i64 (x / 4) 1), .int .i64 0, .int .i64 1, .int .i64 5, .int .i64 0, .int .i64 0, .string ⟨#[]⟩] (by rfl) (by rfl) HO4.out (kStep_pure.rob (w := wr) ⟨rfl, hri.out, (by unfold I64; dsimp only; omega), (by unfold I64; dsimp only; omega), (by unfold I64; dsimp only; omega), (by unfold I64; dsimp only; omega), (by unfold I64; dsimp only; omega), (by show (⟨#[]⟩ : ByteArray).size ≤ Top; decide)⟩ _) hb3 (by rw [List.length_map]; omega) ?_
           intro v4 w6 HA4 HB6 hg6 hat6
           have HA5 := hide (HO5.out.far kBool_pure hg6 (fun q hq he => HN.out q he.symm hq))
           have HN6 := hide (own_next hat6 hs5.out HN.out)
           have HA4 := hide HA4
           have HB6 := hide HB6
           have hb6 := Nat.le_trans hb3 HB6.out.size
           clear hg6 hat6)
        | (refine own_append kBool kBool_one W3.heap.size rfl _ _ 64 4 _ 1 rfl Try.underlying64 info_bool rfl (by decide) (by decide) u5 (owInit.keeps ops) false [.bool false] (by rfl) (by rfl) HA5.out (kBool_pure.rob (w := w6) rfl _) hb6 (by rw [OSt.keeps_length]; omega) ?_
           intro v5 w7 HC5 HB7 hg7 hat7
           have hs4' := hide fun q (h : v4.ownBlock = some q) => (HA4.out.block q h).2
           have HC4 := hide (HA4.out.far kStep_pure hg7 (fun q hq he => HN6.out q hq he.symm))
           have HN7 := hide (show ∀ q, v4.ownBlock = some q → v5.ownBlock ≠ some q from fun q hq he => own_next hat7 hs4'.out (fun q h1 h2 => HN6.out q h2 h1) q he hq)
           have HC5 := hide HC5
           have HB7 := hide HB7
           clear hg7 hat7))
            exact ⟨⟨k + 1, ops ++ [OOp.req (3 + bits BinOp.and IntKind.i64 (x / 4) 1)], ⟨ow, dest, left⟩, by omega, by omega, by go_num, by rw [List.length_append, hol]; rfl, by go_num, by go_num, by go_num, by dsimp only; omega, by dsimp only; omega, hide (by rw [HT.out]; first | done | simp [*]), HK1, hide (Below.trans (Below.trans HB.out HB6.out) HB7.out), hide (by rw [List.map_append]; exact HC4.out), hide (by rw [HKS.out]; first | exact HC5.out | (rw [o2b, o0b]; exact HC5.out)), HN7⟩, by simp [intOf]; omega⟩
    · have hPO := hide (purge_owners ops HK.out (by omega))
      have HB := HB
      obtain ⟨E4, e4b, e4o, cap4, rfl, hl4, hc4, hE4, hR4⟩ := HO4.out.sl.open (n := k) (by rw [List.length_map]; exact hol)
      obtain ⟨E5, e5b, e5o, cap5, rfl, hl5, hc5, hE5, hR5⟩ := HO5.out.sl.open (n := k) (by rw [OSt.keeps_length]; exact hol)
      have HS4 := hide HO4.out.sl
      have HS5 := hide HO5.out.sl
      have HR4 := hide (hR4.out wr HS4.out)
      have HR5 := hide (hR5.out wr HS5.out)
      have hpu := hide (purge_p wr (.agg #[.int .i64 16, .slice (some ⟨w1.heap.size + 4, 0, none⟩) 3 3, .slice (some ⟨w1.heap.size + 7, 0, none⟩) 2 2, .int .i64 6, .slice (some ⟨w1.heap.size + 8, 0, none⟩) 3 3, .slice (some ⟨w1.heap.size + 9, 0, none⟩) 1 1, .int .i64 10, .int .i64 6, .int .i64 2]) _ plainCfg (ops.map OOp.step) 2 (CV.out.bel HB.out) HS4.out (by rw [List.length_map]; omega))
      rw [hPO.out, purgeErr_some plainCfg 2 (show purgeOk plainCfg 2 = true from plain_ok 2 (by omega))] at hpu
      have hlo : (owInit.outs ops).length = k := by rw [OSt.outs_length]; exact hol
      have HEl := hide (OSt.outs_get ops owInit)
      have hlk : (owInit.keeps ops).length = k := by rw [OSt.keeps_length]; exact hol
      have hls : (ops.map OOp.step).length = k := by rw [List.length_map]; exact hol
      have H3 := hide (Bel.trans HB3.out HB.out)
      have HBx := hide (HBx.out.bel HB.out)
      have x0 := HBx.out.cell (i := 0) rfl
      have x1 := HBx.out.cell (i := 1) rfl
      have x2 := HBx.out.cell (i := 2) rfl
      have x3 := HBx.out.cell (i := 3) rfl
      have x4 := HBx.out.cell (i := 4) rfl
      have x5 := HBx.out.cell (i := 5) rfl
      have x6 := HBx.out.cell (i := 6) rfl
      have x7 := HBx.out.cell (i := 7) rfl
      have x8 := HBx.out.cell (i := 8) rfl
      have hexit : ¬ ((k : Int) < (kinds.length : Int)) ∨ ((k : Int) < (kinds.length : Int) ∧ ¬ (k : Int) < 40) := by omega
      clear hR4 hR5 HO4 HO5 HN HK HO hA HR CV hPO HS4 HS5 hl0 hl2
      rcases hexit with hex | ⟨hex, hex2⟩
      · go_upto_region 29 with ((with_reducible refine (Hid.out hpu).mono ?_); rintro e w4 ⟨v4, base4, rfl, -, hO3, hB3⟩; obtain ⟨E1, e1b, e1o, cap1, rfl, hl3, hc3, hE1, hRo⟩ := hO3.seg.sl.open hlo; have HSo := hide hO3.seg.sl; have j3 := hide hB3; clear hO3 hB3 hpu)
        clear x0 x1 x2 x3 x4 x5 x6 x7 x8 HBx
        have HRo := hide (hRo.out w4 HSo.out)
        have HR4 := hide (HR4.out.bel j3.out)
        have HR5 := hide (HR5.out.bel j3.out)
        have H3 := hide (Bel.trans H3.out j3.out)
        clear hRo HSo hex
        go_wp2_with ((with_reducible refine (Hid.out hn _ _).mono ?_); rintro e w8 ⟨rfl, rfl⟩)
        clear hn j3
        go_loopw [13] (fun t W => ∃ j : Nat, j ≤ k ∧ t = .int .i64 j ∧ Hid (Bel w4 W)) (fun t _ => k - (intOf t).toNat)
        case atStart => exact ⟨0, Nat.zero_le _, rfl, hide (bel_refl w4)⟩
        case round =>
          obtain ⟨j, hj, rfl, HB⟩ := hrel
          by_cases hlt : j < k
          · obtain ⟨c0, c1, c2, c3, c4, c5, c6, hK, y0, y1, y2, y3, y4, y5, y6⟩ := (HRo.out.bel HB.out).get7 (j := j) rfl (by omega)
            obtain ⟨d0, d1, d2, d3, d4, d5, d6, hK', z0, z1, z2, z3, z4, z5, z6⟩ := (HR4.out.bel HB.out).get7 (j := j) rfl (by omega)
            obtain ⟨g0, hKb, q0⟩ := (HR5.out.bel HB.out).get1 (j := j) rfl (by omega)
            obtain ⟨rfl, rfl, rfl, rfl, rfl, rfl, rfl⟩ := kStep_vals hK
            obtain ⟨rfl, rfl, rfl, rfl, rfl, rfl, rfl⟩ := kStep_vals hK'
            have hKb : [g0] = [_] := hKb
            simp only [List.cons.injEq, and_true] at hKb
            subst hKb
            clear hK hK'
            have hel := HEl.out j (by omega) (by omega) (by omega)
            simp only [List.getElem_map] at z0 z1 z2 z3 z4 z5 z6
            generalize (owInit.outs ops)[j] = y at hel y0 y1 y2 y3 y4 y5 y6
            generalize (owInit.keeps ops)[j] = kp at hel q0
            generalize OOp.step ops[j] = x at hel z0 z1 z2 z3 z4 z5 z6
            obtain ⟨xk, xp, xd, xa, xb, xc, xs⟩ := x
            obtain rfl := hE1.out (by omega)
            obtain rfl := hE4.out (by omega)
            obtain rfl := hE5.out (by omega)
            have HBd := hide HB.out.drew
            have j0 : (0 : Int) ≤ (j : Int) := by omega
            have j1 : (j : Int) < (k : Int) := by omega
            simp only at z0 z1 z2 z3 z4 z5 z6
            cases kp
            · simp only [Bool.false_eq_true, if_false] at hel
              subst hel
              unfold zeroStep at y0 y1 y2 y3 y4 y5 y6
              simp only at y0 y1 y2 y3 y4 y5 y6
              go_wp2_with fail
              refine wp_region_held_drew (S := fun w' => (w'.cell? ⟨e1b, e1o + j * 7, none⟩ = some (.int .i64 0) ∧ w'.cell? ⟨e1b, e1o + j * 7 + 1, none⟩ = some (.int .i64 0) ∧ w'.cell? ⟨e1b, e1o + j * 7 + 2, none⟩ = some (.int .i64 0) ∧ w'.cell? ⟨e1b, e1o + j * 7 + 3, none⟩ = some (.int .i64 0) ∧ w'.cell? ⟨e1b, e1o + j * 7 + 4, none⟩ = some (.int .i64 0) ∧ w'.cell? ⟨e1b, e1o + j * 7 + 5, none⟩ = some (.int .i64 0) ∧ w'.cell? ⟨e1b, e1o + j * 7 + 6, none⟩ = some (.string ⟨#[]⟩)) ∧ (w'.cell? ⟨e4b, e4o + j * 7, none⟩ = some (.int .i64 xk) ∧ w'.cell? ⟨e4b, e4o + j * 7 + 1, none⟩ = some (.int .i64 xp) ∧ w'.cell? ⟨e4b, e4o + j * 7 + 2, none⟩ = some (.int .i64 xd) ∧ w'.cell? ⟨e4b, e4o + j * 7 + 3, none⟩ = some (.int .i64 xa) ∧ w'.cell? ⟨e4b, e4o + j * 7 + 4, none⟩ = some (.int .i64 xb) ∧ w'.cell? ⟨e4b, e4o + j * 7 + 5, none⟩ = some (.int .i64 xc) ∧ w'.cell? ⟨e4b, e4o + j * 7 + 6, none⟩ = some (.string xs)) ∧ w'.cell? ⟨e5b, e5o + j, none⟩ = some (.bool false)) (by kernel_rfl) ?_ (fun hHeld => ?_)
              · exact ⟨⟨y0, y1, y2, y3, y4, y5, y6⟩, ⟨z0, z1, z2, z3, z4, z5, z6⟩, q0⟩
              refine hT (i := 0) (v := ?_) rfl (by kernel_rfl) (fun _ _ _ h => h) (by rfl) ?_ hHeld ?_
              rotate_left
              · (intro w_ hw_; (try dsimp only at hw_); go_simp; try with_reducible rfl)
              simp only [Act.put, List.setIfInBounds_toArray, List.set_cons_zero, List.set_cons_succ, List.getElem_toArray, List.getElem_cons_zero]
              refine hT (i := 1) (v := ?_) rfl (by kernel_rfl) (fun _ _ _ h => h) (by rfl) ?_ hHeld ?_
              rotate_left
              · (intro w_ hw_; (try dsimp only at hw_); go_simp; try with_reducible rfl)
              simp only [Act.put, List.setIfInBounds_toArray, List.set_cons_zero, List.set_cons_succ, List.getElem_toArray, List.getElem_cons_zero, List.getElem_cons_succ]
              refine hT (i := 2) (v := ?_) rfl (by kernel_rfl) (fun _ _ _ h => h) (by rfl) ?_ hHeld ?_
              rotate_left
              · (intro w_ hw_; (try dsimp only at hw_); go_simp; try with_reducible rfl)
              simp only [Act.put, List.setIfInBounds_toArray, List.set_cons_zero, List.set_cons_succ, List.getElem_toArray, List.getElem_cons_zero, List.getElem_cons_succ]
              refine hT (i := 3) (v := ?_) rfl (by kernel_rfl) (fun _ _ _ h => h) (by rfl) ?_ hHeld ?_
              rotate_left
              · (intro w_ hw_; (try dsimp only at hw_); go_simp; try with_reducible rfl)
              simp only [Act.put, List.setIfInBounds_toArray, List.set_cons_zero, List.set_cons_succ, List.getElem_toArray, List.getElem_cons_zero, List.getElem_cons_succ]
              refine hT (i := 4) (v := ?_) rfl (by kernel_rfl) (fun _ _ _ h => h) (by rfl) ?_ hHeld ?_
              rotate_left
              · (intro w_ hw_; (try dsimp only at hw_); go_simp; try with_reducible rfl)
              simp only [Act.put, List.setIfInBounds_toArray, List.set_cons_zero, List.set_cons_succ, List.getElem_toArray, List.getElem_cons_zero, List.getElem_cons_succ]
              refine hN (i := 5) rfl (by kernel_rfl) (fun _ _ _ h => h) (by rfl) hHeld ?_
              simp only [Act.put, List.setIfInBounds_toArray, List.set_cons_zero, List.set_cons_succ, List.getElem_toArray, List.getElem_cons_zero, List.getElem_cons_succ]
              refine hN (i := 6) rfl (by kernel_rfl) (fun _ _ _ h => h) (by rfl) hHeld ?_
              simp only [Act.put, List.setIfInBounds_toArray, List.set_cons_zero, List.set_cons_succ, List.getElem_toArray, List.getElem_cons_zero, List.getElem_cons_succ]
              refine hN (i := 7) rfl (by kernel_rfl) (fun _ _ _ h => h) (by rfl) hHeld ?_
              simp only [Act.put, List.setIfInBounds_toArray, List.set_cons_zero, List.set_cons_succ, List.getElem_toArray, List.getElem_cons_zero, List.getElem_cons_succ]
              refine hN (i := 8) rfl (by kernel_rfl) (fun _ _ _ h => h) (by rfl) hHeld ?_
              simp only [Act.put, List.setIfInBounds_toArray, List.set_cons_zero, List.set_cons_succ, List.getElem_toArray, List.getElem_cons_zero, List.getElem_cons_succ]
              refine hN (i := 9) rfl (by kernel_rfl) (fun _ _ _ h => h) (by rfl) hHeld ?_
              simp only [Act.put, List.setIfInBounds_toArray, List.set_cons_zero, List.set_cons_succ, List.getElem_toArray, List.getElem_cons_zero, List.getElem_cons_succ]
              refine hN (i := 10) rfl (by kernel_rfl) (fun _ _ _ h => h) (by rfl) hHeld ?_
              simp only [Act.put, List.setIfInBounds_toArray, List.set_cons_zero, List.set_cons_succ, List.getElem_toArray, List.getElem_cons_zero, List.getElem_cons_succ]
              refine hN (i := 11) rfl (by kernel_rfl) (fun _ _ _ h => h) (by rfl) hHeld ?_
              simp only [Act.put, List.setIfInBounds_toArray, List.set_cons_zero, List.set_cons_succ, List.getElem_toArray, List.getElem_cons_zero, List.getElem_cons_succ]
              refine hN (i := 12) rfl (by kernel_rfl) (fun _ _ _ h => h) (by rfl) hHeld ?_
              simp only [Act.put, List.setIfInBounds_toArray, List.set_cons_zero, List.set_cons_succ, List.getElem_toArray, List.getElem_cons_zero, List.getElem_cons_succ]
              refine hN (i := 13) rfl (by kernel_rfl) (fun _ _ _ h => h) (by rfl) hHeld ?_
              simp only [Act.put, List.setIfInBounds_toArray, List.set_cons_zero, List.set_cons_succ, List.getElem_toArray, List.getElem_cons_zero, List.getElem_cons_succ]
              refine hT (i := 14) (v := ?_) rfl (by kernel_rfl) (fun _ _ _ h => h) (by rfl) ?_ hHeld ?_
              rotate_left
              · (intro w_ hw_; (try dsimp only at hw_); go_simp; try with_reducible rfl)
              simp only [Act.put, List.setIfInBounds_toArray, List.set_cons_zero, List.set_cons_succ, List.getElem_toArray, List.getElem_cons_zero, List.getElem_cons_succ]
              refine hT (i := 15) (v := ?_) rfl (by kernel_rfl) (fun _ _ _ h => h) (by rfl) ?_ hHeld ?_
              rotate_left
              · (intro w_ hw_; (try dsimp only at hw_); go_simp; try with_reducible rfl)
              simp only [Act.put, List.setIfInBounds_toArray, List.set_cons_zero, List.set_cons_succ, List.getElem_toArray, List.getElem_cons_zero, List.getElem_cons_succ]
              refine hT (i := 16) (v := ?_) rfl (by kernel_rfl) (fun _ _ _ h => h) (by rfl) ?_ hHeld ?_
              rotate_left
              · (intro w_ hw_; (try dsimp only at hw_); go_simp; try with_reducible rfl)
              simp only [Act.put, List.setIfInBounds_toArray, List.set_cons_zero, List.set_cons_succ, List.getElem_toArray, List.getElem_cons_zero, List.getElem_cons_succ]
              refine hT (i := 17) (v := ?_) rfl (by kernel_rfl) (fun _ _ _ h => h) (by rfl) ?_ hHeld ?_
              rotate_left
              · (intro w_ hw_; (try dsimp only at hw_); go_simp; try with_reducible rfl)
              simp only [Act.put, List.setIfInBounds_toArray, List.set_cons_zero, List.set_cons_succ, List.getElem_toArray, List.getElem_cons_zero, List.getElem_cons_succ]
              refine hT (i := 18) (v := ?_) rfl (by kernel_rfl) (fun _ _ _ h => h) (by rfl) ?_ hHeld ?_
              rotate_left
              · (intro w_ hw_; (try dsimp only at hw_); go_simp; try with_reducible rfl)
              simp only [Act.put, List.setIfInBounds_toArray, List.set_cons_zero, List.set_cons_succ, List.getElem_toArray, List.getElem_cons_zero, List.getElem_cons_succ]
              refine hT (i := 19) (v := ?_) rfl (by kernel_rfl) (fun _ _ _ h => h) (by rfl) ?_ hHeld ?_
              rotate_left
              · (intro w_ hw_; (try dsimp only at hw_); go_simp; try with_reducible rfl)
              simp only [Act.put, List.setIfInBounds_toArray, List.set_cons_zero, List.set_cons_succ, List.getElem_toArray, List.getElem_cons_zero, List.getElem_cons_succ]
              refine hT (i := 20) (v := ?_) rfl (by kernel_rfl) (fun _ _ _ h => h) (by rfl) ?_ hHeld ?_
              rotate_left
              · (intro w_ hw_; (try dsimp only at hw_); go_simp; try with_reducible rfl)
              simp only [Act.put, List.setIfInBounds_toArray, List.set_cons_zero, List.set_cons_succ, List.getElem_toArray, List.getElem_cons_zero, List.getElem_cons_succ]
              refine hT (i := 21) (v := ?_) rfl (by kernel_rfl) (fun _ _ _ h => h) (by rfl) ?_ hHeld ?_
              rotate_left
              · (intro w_ hw_; (try dsimp only at hw_); go_simp; try with_reducible rfl)
              simp only [Act.put, List.setIfInBounds_toArray, List.set_cons_zero, List.set_cons_succ, List.getElem_toArray, List.getElem_cons_zero, List.getElem_cons_succ]
              refine hT (i := 22) (v := ?_) rfl (by kernel_rfl) (fun _ _ _ h => h) (by rfl) ?_ hHeld ?_
              rotate_left
              · (intro w_ hw_; (try dsimp only at hw_); go_simp; try with_reducible rfl)
              simp only [Act.put, List.setIfInBounds_toArray, List.set_cons_zero, List.set_cons_succ, List.getElem_toArray, List.getElem_cons_zero, List.getElem_cons_succ]
              refine hT (i := 23) (v := ?_) rfl (by kernel_rfl) (fun _ _ _ h => h) (by rfl) ?_ hHeld ?_
              rotate_left
              · (intro w_ hw_; (try dsimp only at hw_); go_simp; try with_reducible rfl)
              simp only [Act.put, List.setIfInBounds_toArray, List.set_cons_zero, List.set_cons_succ, List.getElem_toArray, List.getElem_cons_zero, List.getElem_cons_succ]
              refine hT (i := 24) (v := ?_) rfl (by kernel_rfl) (fun _ _ _ h => h) (by rfl) ?_ hHeld ?_
              rotate_left
              · (intro w_ hw_; (try dsimp only at hw_); go_simp; try with_reducible rfl)
              simp only [Act.put, List.setIfInBounds_toArray, List.set_cons_zero, List.set_cons_succ, List.getElem_toArray, List.getElem_cons_zero, List.getElem_cons_succ]
              refine hT (i := 25) (v := ?_) rfl (by kernel_rfl) (fun _ _ _ h => h) (by rfl) ?_ hHeld ?_
              rotate_left
              · (intro w_ hw_; (try dsimp only at hw_); go_simp; try with_reducible rfl)
              simp only [Act.put, List.setIfInBounds_toArray, List.set_cons_zero, List.set_cons_succ, List.getElem_toArray, List.getElem_cons_zero, List.getElem_cons_succ]
              refine hT (i := 26) (v := ?_) rfl (by kernel_rfl) (fun _ _ _ h => h) (by rfl) ?_ hHeld ?_
              rotate_left
              · (intro w_ hw_; (try dsimp only at hw_); go_simp; try with_reducible rfl)
              simp only [Act.put, List.setIfInBounds_toArray, List.set_cons_zero, List.set_cons_succ, List.getElem_toArray, List.getElem_cons_zero, List.getElem_cons_succ]
              refine hT (i := 27) (v := ?_) rfl (by kernel_rfl) (fun _ _ _ h => h) (by rfl) ?_ hHeld ?_
              rotate_left
              · (intro w_ hw_; (try dsimp only at hw_); go_simp; try with_reducible rfl)
              simp only [Act.put, List.setIfInBounds_toArray, List.set_cons_zero, List.set_cons_succ, List.getElem_toArray, List.getElem_cons_zero, List.getElem_cons_succ]
              refine hT (i := 28) (v := ?_) rfl (by kernel_rfl) (fun _ _ _ h => h) (by rfl) ?_ hHeld ?_
              rotate_left
              · (intro w_ hw_; (try dsimp only at hw_); go_simp; try with_reducible rfl)
              simp only [Act.put, List.setIfInBounds_toArray, List.set_cons_zero, List.set_cons_succ, List.getElem_toArray, List.getElem_cons_zero, List.getElem_cons_succ]
              refine hT (i := 29) (v := ?_) rfl (by kernel_rfl) (fun _ _ _ h => h) (by rfl) ?_ hHeld ?_
              rotate_left
              · (intro w_ hw_; (try dsimp only at hw_); go_simp; try with_reducible rfl)
              simp only [Act.put, List.setIfInBounds_toArray, List.set_cons_zero, List.set_cons_succ, List.getElem_toArray, List.getElem_cons_zero, List.getElem_cons_succ]
              refine wpAnyH_done (by kernel_rfl) ?_ _
              clear hHeld
              go_wp2_with fail
              exact ⟨⟨j + 1, by omega, by go_num, HBd⟩, by simp [intOf]; omega⟩
            · simp only [if_true] at hel
              subst hel
              simp only at y0 y1 y2 y3 y4 y5 y6
              go_wp2_with fail
              refine wp_region_held_drew (S := fun w' => (w'.cell? ⟨e1b, e1o + j * 7, none⟩ = some (.int .i64 xk) ∧ w'.cell? ⟨e1b, e1o + j * 7 + 1, none⟩ = some (.int .i64 xp) ∧ w'.cell? ⟨e1b, e1o + j * 7 + 2, none⟩ = some (.int .i64 xd) ∧ w'.cell? ⟨e1b, e1o + j * 7 + 3, none⟩ = some (.int .i64 xa) ∧ w'.cell? ⟨e1b, e1o + j * 7 + 4, none⟩ = some (.int .i64 xb) ∧ w'.cell? ⟨e1b, e1o + j * 7 + 5, none⟩ = some (.int .i64 xc) ∧ w'.cell? ⟨e1b, e1o + j * 7 + 6, none⟩ = some (.string xs)) ∧ (w'.cell? ⟨e4b, e4o + j * 7, none⟩ = some (.int .i64 xk) ∧ w'.cell? ⟨e4b, e4o + j * 7 + 1, none⟩ = some (.int .i64 xp) ∧ w'.cell? ⟨e4b, e4o + j * 7 + 2, none⟩ = some (.int .i64 xd) ∧ w'.cell? ⟨e4b, e4o + j * 7 + 3, none⟩ = some (.int .i64 xa) ∧ w'.cell? ⟨e4b, e4o + j * 7 + 4, none⟩ = some (.int .i64 xb) ∧ w'.cell? ⟨e4b, e4o + j * 7 + 5, none⟩ = some (.int .i64 xc) ∧ w'.cell? ⟨e4b, e4o + j * 7 + 6, none⟩ = some (.string xs)) ∧ w'.cell? ⟨e5b, e5o + j, none⟩ = some (.bool true)) (by kernel_rfl) ?_ (fun hHeld => ?_)
              · exact ⟨⟨y0, y1, y2, y3, y4, y5, y6⟩, ⟨z0, z1, z2, z3, z4, z5, z6⟩, q0⟩
              refine hT (i := 0) (v := ?_) rfl (by kernel_rfl) (fun _ _ _ h => h) (by rfl) ?_ hHeld ?_
              rotate_left
              · (intro w_ hw_; (try dsimp only at hw_); go_simp; try with_reducible rfl)
              simp only [Act.put, List.setIfInBounds_toArray, List.set_cons_zero, List.set_cons_succ, List.getElem_toArray, List.getElem_cons_zero]
              refine hT (i := 1) (v := ?_) rfl (by kernel_rfl) (fun _ _ _ h => h) (by rfl) ?_ hHeld ?_
              rotate_left
              · (intro w_ hw_; (try dsimp only at hw_); go_simp; try with_reducible rfl)
              simp only [Act.put, List.setIfInBounds_toArray, List.set_cons_zero, List.set_cons_succ, List.getElem_toArray, List.getElem_cons_zero, List.getElem_cons_succ]
              refine hT (i := 2) (v := ?_) rfl (by kernel_rfl) (fun _ _ _ h => h) (by rfl) ?_ hHeld ?_
              rotate_left
              · (intro w_ hw_; (try dsimp only at hw_); go_simp; try with_reducible rfl)
              simp only [Act.put, List.setIfInBounds_toArray, List.set_cons_zero, List.set_cons_succ, List.getElem_toArray, List.getElem_cons_zero, List.getElem_cons_succ]
              refine hT (i := 3) (v := ?_) rfl (by kernel_rfl) (fun _ _ _ h => h) (by rfl) ?_ hHeld ?_
              rotate_left
              · (intro w_ hw_; (try dsimp only at hw_); go_simp; try with_reducible rfl)
              simp only [Act.put, List.setIfInBounds_toArray, List.set_cons_zero, List.set_cons_succ, List.getElem_toArray, List.getElem_cons_zero, List.getElem_cons_succ]
              refine hT (i := 4) (v := ?_) rfl (by kernel_rfl) (fun _ _ _ h => h) (by rfl) ?_ hHeld ?_
              rotate_left
              · (intro w_ hw_; (try dsimp only at hw_); go_simp; try with_reducible rfl)
              simp only [Act.put, List.setIfInBounds_toArray, List.set_cons_zero, List.set_cons_succ, List.getElem_toArray, List.getElem_cons_zero, List.getElem_cons_succ]
              refine hT (i := 5) (v := ?_) rfl (by kernel_rfl) (fun _ _ _ h => h) (by rfl) ?_ hHeld ?_
              rotate_left
              · (intro w_ hw_; (try dsimp only at hw_); go_simp; try with_reducible rfl)
              simp only [Act.put, List.setIfInBounds_toArray, List.set_cons_zero, List.set_cons_succ, List.getElem_toArray, List.getElem_cons_zero, List.getElem_cons_succ]
              refine hT (i := 6) (v := ?_) rfl (by kernel_rfl) (fun _ _ _ h => h) (by rfl) ?_ hHeld ?_
              rotate_left
              · (intro w_ hw_; (try dsimp only at hw_); go_simp; try with_reducible rfl)
              simp only [Act.put, List.setIfInBounds_toArray, List.set_cons_zero, List.set_cons_succ, List.getElem_toArray, List.getElem_cons_zero, List.getElem_cons_succ]
              refine hT (i := 7) (v := ?_) rfl (by kernel_rfl) (fun _ _ _ h => h) (by rfl) ?_ hHeld ?_
              rotate_left
              · (intro w_ hw_; (try dsimp only at hw_); go_simp; try with_reducible rfl)
              simp only [Act.put, List.setIfInBounds_toArray, List.set_cons_zero, List.set_cons_succ, List.getElem_toArray, List.getElem_cons_zero, List.getElem_cons_succ]
              refine hT (i := 8) (v := ?_) rfl (by kernel_rfl) (fun _ _ _ h => h) (by rfl) ?_ hHeld ?_
              rotate_left
              · (intro w_ hw_; (try dsimp only at hw_); go_simp; try with_reducible rfl)
              simp only [Act.put, List.setIfInBounds_toArray, List.set_cons_zero, List.set_cons_succ, List.getElem_toArray, List.getElem_cons_zero, List.getElem_cons_succ]
              refine hT (i := 9) (v := ?_) rfl (by kernel_rfl) (fun _ _ _ h => h) (by rfl) ?_ hHeld ?_
              rotate_left
              · (intro w_ hw_; (try dsimp only at hw_); go_simp; try with_reducible rfl)
              simp only [Act.put, List.setIfInBounds_toArray, List.set_cons_zero, List.set_cons_succ, List.getElem_toArray, List.getElem_cons_zero, List.getElem_cons_succ]
              refine hT (i := 10) (v := ?_) rfl (by kernel_rfl) (fun _ _ _ h => h) (by rfl) ?_ hHeld ?_
              rotate_left
              · (intro w_ hw_; (try dsimp only at hw_); go_simp; try with_reducible rfl)
              simp only [Act.put, List.setIfInBounds_toArray, List.set_cons_zero, List.set_cons_succ, List.getElem_toArray, List.getElem_cons_zero, List.getElem_cons_succ]
              refine hT (i := 11) (v := ?_) rfl (by kernel_rfl) (fun _ _ _ h => h) (by rfl) ?_ hHeld ?_
              rotate_left
              · (intro w_ hw_; (try dsimp only at hw_); go_simp; try with_reducible rfl)
              simp only [Act.put, List.setIfInBounds_toArray, List.set_cons_zero, List.set_cons_succ, List.getElem_toArray, List.getElem_cons_zero, List.getElem_cons_succ]
              refine hT (i := 12) (v := ?_) rfl (by kernel_rfl) (fun _ _ _ h => h) (by rfl) ?_ hHeld ?_
              rotate_left
              · (intro w_ hw_; (try dsimp only at hw_); go_simp; try with_reducible rfl)
              simp only [Act.put, List.setIfInBounds_toArray, List.set_cons_zero, List.set_cons_succ, List.getElem_toArray, List.getElem_cons_zero, List.getElem_cons_succ]
              refine hT (i := 13) (v := ?_) rfl (by kernel_rfl) (fun _ _ _ h => h) (by rfl) ?_ hHeld ?_
              rotate_left
              · (intro w_ hw_; (try dsimp only at hw_); go_simp; try with_reducible rfl)
              simp only [Act.put, List.setIfInBounds_toArray, List.set_cons_zero, List.set_cons_succ, List.getElem_toArray, List.getElem_cons_zero, List.getElem_cons_succ]
              refine hT (i := 14) (v := ?_) rfl (by kernel_rfl) (fun _ _ _ h => h) (by rfl) ?_ hHeld ?_
              rotate_left
              · (intro w_ hw_; (try dsimp only at hw_); go_simp; try with_reducible rfl)
              simp only [Act.put, List.setIfInBounds_toArray, List.set_cons_zero, List.set_cons_succ, List.getElem_toArray, List.getElem_cons_zero, List.getElem_cons_succ]
              refine hT (i := 15) (v := ?_) rfl (by kernel_rfl) (fun _ _ _ h => h) (by rfl) ?_ hHeld ?_
              rotate_left
              · (intro w_ hw_; (try dsimp only at hw_); go_simp; try with_reducible rfl)
              simp only [Act.put, List.setIfInBounds_toArray, List.set_cons_zero, List.set_cons_succ, List.getElem_toArray, List.getElem_cons_zero, List.getElem_cons_succ]
              refine hT (i := 16) (v := ?_) rfl (by kernel_rfl) (fun _ _ _ h => h) (by rfl) ?_ hHeld ?_
              rotate_left
              · (intro w_ hw_; (try dsimp only at hw_); go_simp; try with_reducible rfl)
              simp only [Act.put, List.setIfInBounds_toArray, List.set_cons_zero, List.set_cons_succ, List.getElem_toArray, List.getElem_cons_zero, List.getElem_cons_succ]
              refine hT (i := 17) (v := ?_) rfl (by kernel_rfl) (fun _ _ _ h => h) (by rfl) ?_ hHeld ?_
              rotate_left
              · (intro w_ hw_; (try dsimp only at hw_); go_simp; try with_reducible rfl)
              simp only [Act.put, List.setIfInBounds_toArray, List.set_cons_zero, List.set_cons_succ, List.getElem_toArray, List.getElem_cons_zero, List.getElem_cons_succ]
              refine hT (i := 18) (v := ?_) rfl (by kernel_rfl) (fun _ _ _ h => h) (by rfl) ?_ hHeld ?_
              rotate_left
              · (intro w_ hw_; (try dsimp only at hw_); go_simp; try with_reducible rfl)
              simp only [Act.put, List.setIfInBounds_toArray, List.set_cons_zero, List.set_cons_succ, List.getElem_toArray, List.getElem_cons_zero, List.getElem_cons_succ]
              refine hT (i := 19) (v := ?_) rfl (by kernel_rfl) (fun _ _ _ h => h) (by rfl) ?_ hHeld ?_
              rotate_left
              · (intro w_ hw_; (try dsimp only at hw_); go_simp; try with_reducible rfl)
              simp only [Act.put, List.setIfInBounds_toArray, List.set_cons_zero, List.set_cons_succ, List.getElem_toArray, List.getElem_cons_zero, List.getElem_cons_succ]
              refine hT (i := 20) (v := ?_) rfl (by kernel_rfl) (fun _ _ _ h => h) (by rfl) ?_ hHeld ?_
              rotate_left
              · (intro w_ hw_; (try dsimp only at hw_); go_simp; try with_reducible rfl)
              simp only [Act.put, List.setIfInBounds_toArray, List.set_cons_zero, List.set_cons_succ, List.getElem_toArray, List.getElem_cons_zero, List.getElem_cons_succ]
              refine hT (i := 21) (v := ?_) rfl (by kernel_rfl) (fun _ _ _ h => h) (by rfl) ?_ hHeld ?_
              rotate_left
              · (intro w_ hw_; (try dsimp only at hw_); go_simp; try with_reducible rfl)
              simp only [Act.put, List.setIfInBounds_toArray, List.set_cons_zero, List.set_cons_succ, List.getElem_toArray, List.getElem_cons_zero, List.getElem_cons_succ]
              refine hN (i := 22) rfl (by kernel_rfl) (fun _ _ _ h => h) (by rfl) hHeld ?_
              simp only [Act.put, List.setIfInBounds_toArray, List.set_cons_zero, List.set_cons_succ, List.getElem_toArray, List.getElem_cons_zero, List.getElem_cons_succ]
              refine hN (i := 23) rfl (by kernel_rfl) (fun _ _ _ h => h) (by rfl) hHeld ?_
              simp only [Act.put, List.setIfInBounds_toArray, List.set_cons_zero, List.set_cons_succ, List.getElem_toArray, List.getElem_cons_zero, List.getElem_cons_succ]
              refine hN (i := 24) rfl (by kernel_rfl) (fun _ _ _ h => h) (by rfl) hHeld ?_
              simp only [Act.put, List.setIfInBounds_toArray, List.set_cons_zero, List.set_cons_succ, List.getElem_toArray, List.getElem_cons_zero, List.getElem_cons_succ]
              refine hN (i := 25) rfl (by kernel_rfl) (fun _ _ _ h => h) (by rfl) hHeld ?_
              simp only [Act.put, List.setIfInBounds_toArray, List.set_cons_zero, List.set_cons_succ, List.getElem_toArray, List.getElem_cons_zero, List.getElem_cons_succ]
              refine hN (i := 26) rfl (by kernel_rfl) (fun _ _ _ h => h) (by rfl) hHeld ?_
              simp only [Act.put, List.setIfInBounds_toArray, List.set_cons_zero, List.set_cons_succ, List.getElem_toArray, List.getElem_cons_zero, List.getElem_cons_succ]
              refine hN (i := 27) rfl (by kernel_rfl) (fun _ _ _ h => h) (by rfl) hHeld ?_
              simp only [Act.put, List.setIfInBounds_toArray, List.set_cons_zero, List.set_cons_succ, List.getElem_toArray, List.getElem_cons_zero, List.getElem_cons_succ]
              refine hT (i := 28) (v := ?_) rfl (by kernel_rfl) (fun _ _ _ h => h) (by rfl) ?_ hHeld ?_
              rotate_left
              · (intro w_ hw_; (try dsimp only at hw_); go_simp; try with_reducible rfl)
              simp only [Act.put, List.setIfInBounds_toArray, List.set_cons_zero, List.set_cons_succ, List.getElem_toArray, List.getElem_cons_zero, List.getElem_cons_succ]
              refine hT (i := 29) (v := ?_) rfl (by kernel_rfl) (fun _ _ _ h => h) (by rfl) ?_ hHeld ?_
              rotate_left
              · (intro w_ hw_; (try dsimp only at hw_); go_simp; try with_reducible rfl)
              simp only [Act.put, List.setIfInBounds_toArray, List.set_cons_zero, List.set_cons_succ, List.getElem_toArray, List.getElem_cons_zero, List.getElem_cons_succ]
              refine wpAnyH_done (by kernel_rfl) ?_ _
              clear hHeld
              go_wp2_with fail
              exact ⟨⟨j + 1, by omega, by go_num, HBd⟩, by simp [intOf]; omega⟩
          · obtain rfl : j = k := by omega
            go_wp2_with fail
            go_ret
            exact ⟨rfl, Bel.trans H3.out HB.out⟩
      · go_upto_region 29 with ((with_reducible refine (Hid.out hpu).mono ?_); rintro e w4 ⟨v4, base4, rfl, -, hO3, hB3⟩; obtain ⟨E1, e1b, e1o, cap1, rfl, hl3, hc3, hE1, hRo⟩ := hO3.seg.sl.open hlo; have HSo := hide hO3.seg.sl; have j3 := hide hB3; clear hO3 hB3 hpu)
        clear x0 x1 x2 x3 x4 x5 x6 x7 x8 HBx
        have HRo := hide (hRo.out w4 HSo.out)
        have HR4 := hide (HR4.out.bel j3.out)
        have HR5 := hide (HR5.out.bel j3.out)
        have H3 := hide (Bel.trans H3.out j3.out)
        clear hRo HSo hex
        go_wp2_with ((with_reducible refine (Hid.out hn _ _).mono ?_); rintro e w8 ⟨rfl, rfl⟩)
        clear hn j3
        go_loopw [13] (fun t W => ∃ j : Nat, j ≤ k ∧ t = .int .i64 j ∧ Hid (Bel w4 W)) (fun t _ => k - (intOf t).toNat)
        case atStart => exact ⟨0, Nat.zero_le _, rfl, hide (bel_refl w4)⟩
        case round =>
          obtain ⟨j, hj, rfl, HB⟩ := hrel
          by_cases hlt : j < k
          · obtain ⟨c0, c1, c2, c3, c4, c5, c6, hK, y0, y1, y2, y3, y4, y5, y6⟩ := (HRo.out.bel HB.out).get7 (j := j) rfl (by omega)
            obtain ⟨d0, d1, d2, d3, d4, d5, d6, hK', z0, z1, z2, z3, z4, z5, z6⟩ := (HR4.out.bel HB.out).get7 (j := j) rfl (by omega)
            obtain ⟨g0, hKb, q0⟩ := (HR5.out.bel HB.out).get1 (j := j) rfl (by omega)
            obtain ⟨rfl, rfl, rfl, rfl, rfl, rfl, rfl⟩ := kStep_vals hK
            obtain ⟨rfl, rfl, rfl, rfl, rfl, rfl, rfl⟩ := kStep_vals hK'
            have hKb : [g0] = [_] := hKb
            simp only [List.cons.injEq, and_true] at hKb
            subst hKb
            clear hK hK'
            have hel := HEl.out j (by omega) (by omega) (by omega)
            simp only [List.getElem_map] at z0 z1 z2 z3 z4 z5 z6
            generalize (owInit.outs ops)[j] = y at hel y0 y1 y2 y3 y4 y5 y6
            generalize (owInit.keeps ops)[j] = kp at hel q0
            generalize OOp.step ops[j] = x at hel z0 z1 z2 z3 z4 z5 z6
            obtain ⟨xk, xp, xd, xa, xb, xc, xs⟩ := x
            obtain rfl := hE1.out (by omega)
            obtain rfl := hE4.out (by omega)
            obtain rfl := hE5.out (by omega)
            have HBd := hide HB.out.drew
            have j0 : (0 : Int) ≤ (j : Int) := by omega
            have j1 : (j : Int) < (k : Int) := by omega
            simp only at z0 z1 z2 z3 z4 z5 z6
            cases kp
            · simp only [Bool.false_eq_true, if_false] at hel
              subst hel
              unfold zeroStep at y0 y1 y2 y3 y4 y5 y6
              simp only at y0 y1 y2 y3 y4 y5 y6
              go_wp2_with fail
              refine wp_region_held_drew (S := fun w' => (w'.cell? ⟨e1b, e1o + j * 7, none⟩ = some (.int .i64 0) ∧ w'.cell? ⟨e1b, e1o + j * 7 + 1, none⟩ = some (.int .i64 0) ∧ w'.cell? ⟨e1b, e1o + j * 7 + 2, none⟩ = some (.int .i64 0) ∧ w'.cell? ⟨e1b, e1o + j * 7 + 3, none⟩ = some (.int .i64 0) ∧ w'.cell? ⟨e1b, e1o + j * 7 + 4, none⟩ = some (.int .i64 0) ∧ w'.cell? ⟨e1b, e1o + j * 7 + 5, none⟩ = some (.int .i64 0) ∧ w'.cell? ⟨e1b, e1o + j * 7 + 6, none⟩ = some (.string ⟨#[]⟩)) ∧ (w'.cell? ⟨e4b, e4o + j * 7, none⟩ = some (.int .i64 xk) ∧ w'.cell? ⟨e4b, e4o + j * 7 + 1, none⟩ = some (.int .i64 xp) ∧ w'.cell? ⟨e4b, e4o + j * 7 + 2, none⟩ = some (.int .i64 xd) ∧ w'.cell? ⟨e4b, e4o + j * 7 + 3, none⟩ = some (.int .i64 xa) ∧ w'.cell? ⟨e4b, e4o + j * 7 + 4, none⟩ = some (.int .i64 xb) ∧ w'.cell? ⟨e4b, e4o + j * 7 + 5, none⟩ = some (.int .i64 xc) ∧ w'.cell? ⟨e4b, e4o + j * 7 + 6, none⟩ = some (.string xs)) ∧ w'.cell? ⟨e5b, e5o + j, none⟩ = some (.bool false)) (by kernel_rfl) ?_ (fun hHeld => ?_)
              · exact ⟨⟨y0, y1, y2, y3, y4, y5, y6⟩, ⟨z0, z1, z2, z3, z4, z5, z6⟩, q0⟩
              refine hT (i := 0) (v := ?_) rfl (by kernel_rfl) (fun _ _ _ h => h) (by rfl) ?_ hHeld ?_
              rotate_left
              · (intro w_ hw_; (try dsimp only at hw_); go_simp; try with_reducible rfl)
              simp only [Act.put, List.setIfInBounds_toArray, List.set_cons_zero, List.set_cons_succ, List.getElem_toArray, List.getElem_cons_zero]
              refine hT (i := 1) (v := ?_) rfl (by kernel_rfl) (fun _ _ _ h => h) (by rfl) ?_ hHeld ?_
              rotate_left
              · (intro w_ hw_; (try dsimp only at hw_); go_simp; try with_reducible rfl)
              simp only [Act.put, List.setIfInBounds_toArray, List.set_cons_zero, List.set_cons_succ, List.getElem_toArray, List.getElem_cons_zero, List.getElem_cons_succ]
              refine hT (i := 2) (v := ?_) rfl (by kernel_rfl) (fun _ _ _ h => h) (by rfl) ?_ hHeld ?_
              rotate_left
              · (intro w_ hw_; (try dsimp only at hw_); go_simp; try with_reducible rfl)
              simp only [Act.put, List.setIfInBounds_toArray, List.set_cons_zero, List.set_cons_succ, List.getElem_toArray, List.getElem_cons_zero, List.getElem_cons_succ]
              refine hT (i := 3) (v := ?_) rfl (by kernel_rfl) (fun _ _ _ h => h) (by rfl) ?_ hHeld ?_
              rotate_left
              · (intro w_ hw_; (try dsimp only at hw_); go_simp; try with_reducible rfl)
              simp only [Act.put, List.setIfInBounds_toArray, List.set_cons_zero, List.set_cons_succ, List.getElem_toArray, List.getElem_cons_zero, List.getElem_cons_succ]
              refine hT (i := 4) (v := ?_) rfl (by kernel_rfl) (fun _ _ _ h => h) (by rfl) ?_ hHeld ?_
              rotate_left
              · (intro w_ hw_; (try dsimp only at hw_); go_simp; try with_reducible rfl)
              simp only [Act.put, List.setIfInBounds_toArray, List.set_cons_zero, List.set_cons_succ, List.getElem_toArray, List.getElem_cons_zero, List.getElem_cons_succ]
              refine hN (i := 5) rfl (by kernel_rfl) (fun _ _ _ h => h) (by rfl) hHeld ?_
              simp only [Act.put, List.setIfInBounds_toArray, List.set_cons_zero, List.set_cons_succ, List.getElem_toArray, List.getElem_cons_zero, List.getElem_cons_succ]
              refine hN (i := 6) rfl (by kernel_rfl) (fun _ _ _ h => h) (by rfl) hHeld ?_
              simp only [Act.put, List.setIfInBounds_toArray, List.set_cons_zero, List.set_cons_succ, List.getElem_toArray, List.getElem_cons_zero, List.getElem_cons_succ]
              refine hN (i := 7) rfl (by kernel_rfl) (fun _ _ _ h => h) (by rfl) hHeld ?_
              simp only [Act.put, List.setIfInBounds_toArray, List.set_cons_zero, List.set_cons_succ, List.getElem_toArray, List.getElem_cons_zero, List.getElem_cons_succ]
              refine hN (i := 8) rfl (by kernel_rfl) (fun _ _ _ h => h) (by rfl) hHeld ?_
              simp only [Act.put, List.setIfInBounds_toArray, List.set_cons_zero, List.set_cons_succ, List.getElem_toArray, List.getElem_cons_zero, List.getElem_cons_succ]
              refine hN (i := 9) rfl (by kernel_rfl) (fun _ _ _ h => h) (by rfl) hHeld ?_
              simp only [Act.put, List.setIfInBounds_toArray, List.set_cons_zero, List.set_cons_succ, List.getElem_toArray, List.getElem_cons_zero, List.getElem_cons_succ]
              refine hN (i := 10) rfl (by kernel_rfl) (fun _ _ _ h => h) (by rfl) hHeld ?_
              simp only [Act.put, List.setIfInBounds_toArray, List.set_cons_zero, List.set_cons_succ, List.getElem_toArray, List.getElem_cons_zero, List.getElem_cons_succ]
              refine hN (i := 11) rfl (by kernel_rfl) (fun _ _ _ h => h) (by rfl) hHeld ?_
              simp only [Act.put, List.setIfInBounds_toArray, List.set_cons_zero, List.set_cons_succ, List.getElem_toArray, List.getElem_cons_zero, List.getElem_cons_succ]
              refine hN (i := 12) rfl (by kernel_rfl) (fun _ _ _ h => h) (by rfl) hHeld ?_
              simp only [Act.put, List.setIfInBounds_toArray, List.set_cons_zero, List.set_cons_succ, List.getElem_toArray, List.getElem_cons_zero, List.getElem_cons_succ]
              refine hN (i := 13) rfl (by kernel_rfl) (fun _ _ _ h => h) (by rfl) hHeld ?_
              simp only [Act.put, List.setIfInBounds_toArray, List.set_cons_zero, List.set_cons_succ, List.getElem_toArray, List.getElem_cons_zero, List.getElem_cons_succ]
              refine hT (i := 14) (v := ?_) rfl (by kernel_rfl) (fun _ _ _ h => h) (by rfl) ?_ hHeld ?_
              rotate_left
              · (intro w_ hw_; (try dsimp only at hw_); go_simp; try with_reducible rfl)
              simp only [Act.put, List.setIfInBounds_toArray, List.set_cons_zero, List.set_cons_succ, List.getElem_toArray, List.getElem_cons_zero, List.getElem_cons_succ]
              refine hT (i := 15) (v := ?_) rfl (by kernel_rfl) (fun _ _ _ h => h) (by rfl) ?_ hHeld ?_
              rotate_left
              · (intro w_ hw_; (try dsimp only at hw_); go_simp; try with_reducible rfl)
              simp only [Act.put, List.setIfInBounds_toArray, List.set_cons_zero, List.set_cons_succ, List.getElem_toArray, List.getElem_cons_zero, List.getElem_cons_succ]
              refine hT (i := 16) (v := ?_) rfl (by kernel_rfl) (fun _ _ _ h => h) (by rfl) ?_ hHeld ?_
              rotate_left
              · (intro w_ hw_; (try dsimp only at hw_); go_simp; try with_reducible rfl)
              simp only [Act.put, List.setIfInBounds_toArray, List.set_cons_zero, List.set_cons_succ, List.getElem_toArray, List.getElem_cons_zero, List.getElem_cons_succ]
              refine hT (i := 17) (v := ?_) rfl (by kernel_rfl) (fun _ _ _ h => h) (by rfl) ?_ hHeld ?_
              rotate_left
              · (intro w_ hw_; (try dsimp only at hw_); go_simp; try with_reducible rfl)
              simp only [Act.put, List.setIfInBounds_toArray, List.set_cons_zero, List.set_cons_succ, List.getElem_toArray, List.getElem_cons_zero, List.getElem_cons_succ]
              refine hT (i := 18) (v := ?_) rfl (by kernel_rfl) (fun _ _ _ h => h) (by rfl) ?_ hHeld ?_
              rotate_left
              · (intro w_ hw_; (try dsimp only at hw_); go_simp; try with_reducible rfl)
              simp only [Act.put, List.setIfInBounds_toArray, List.set_cons_zero, List.set_cons_succ, List.getElem_toArray, List.getElem_cons_zero, List.getElem_cons_succ]
              refine hT (i := 19) (v := ?_) rfl (by kernel_rfl) (fun _ _ _ h => h) (by rfl) ?_ hHeld ?_
              rotate_left
              · (intro w_ hw_; (try dsimp only at hw_); go_simp; try with_reducible rfl)
              simp only [Act.put, List.setIfInBounds_toArray, List.set_cons_zero, List.set_cons_succ, List.getElem_toArray, List.getElem_cons_zero, List.getElem_cons_succ]
              refine hT (i := 20) (v := ?_) rfl (by kernel_rfl) (fun _ _ _ h => h) (by rfl) ?_ hHeld ?_
              rotate_left
              · (intro w_ hw_; (try dsimp only at hw_); go_simp; try with_reducible rfl)
              simp only [Act.put, List.setIfInBounds_toArray, List.set_cons_zero, List.set_cons_succ, List.getElem_toArray, List.getElem_cons_zero, List.getElem_cons_succ]
              refine hT (i := 21) (v := ?_) rfl (by kernel_rfl) (fun _ _ _ h => h) (by rfl) ?_ hHeld ?_
              rotate_left
              · (intro w_ hw_; (try dsimp only at hw_); go_simp; try with_reducible rfl)
              simp only [Act.put, List.setIfInBounds_toArray, List.set_cons_zero, List.set_cons_succ, List.getElem_toArray, List.getElem_cons_zero, List.getElem_cons_succ]
              refine hT (i := 22) (v := ?_) rfl (by kernel_rfl) (fun _ _ _ h => h) (by rfl) ?_ hHeld ?_
              rotate_left
              · (intro w_ hw_; (try dsimp only at hw_); go_simp; try with_reducible rfl)
              simp only [Act.put, List.setIfInBounds_toArray, List.set_cons_zero, List.set_cons_succ, List.getElem_toArray, List.getElem_cons_zero, List.getElem_cons_succ]
              refine hT (i := 23) (v := ?_) rfl (by kernel_rfl) (fun _ _ _ h => h) (by rfl) ?_ hHeld ?_
              rotate_left
              · (intro w_ hw_; (try dsimp only at hw_); go_simp; try with_reducible rfl)
              simp only [Act.put, List.setIfInBounds_toArray, List.set_cons_zero, List.set_cons_succ, List.getElem_toArray, List.getElem_cons_zero, List.getElem_cons_succ]
              refine hT (i := 24) (v := ?_) rfl (by kernel_rfl) (fun _ _ _ h => h) (by rfl) ?_ hHeld ?_
              rotate_left
              · (intro w_ hw_; (try dsimp only at hw_); go_simp; try with_reducible rfl)
              simp only [Act.put, List.setIfInBounds_toArray, List.set_cons_zero, List.set_cons_succ, List.getElem_toArray, List.getElem_cons_zero, List.getElem_cons_succ]
              refine hT (i := 25) (v := ?_) rfl (by kernel_rfl) (fun _ _ _ h => h) (by rfl) ?_ hHeld ?_
              rotate_left
              · (intro w_ hw_; (try dsimp only at hw_); go_simp; try with_reducible rfl)
              simp only [Act.put, List.setIfInBounds_toArray, List.set_cons_zero, List.set_cons_succ, List.getElem_toArray, List.getElem_cons_zero, List.getElem_cons_succ]
              refine hT (i := 26) (v := ?_) rfl (by kernel_rfl) (fun _ _ _ h => h) (by rfl) ?_ hHeld ?_
              rotate_left
              · (intro w_ hw_; (try dsimp only at hw_); go_simp; try with_reducible rfl)
              simp only [Act.put, List.setIfInBounds_toArray, List.set_cons_zero, List.set_cons_succ, List.getElem_toArray, List.getElem_cons_zero, List.getElem_cons_succ]
              refine hT (i := 27) (v := ?_) rfl (by kernel_rfl) (fun _ _ _ h => h) (by rfl) ?_ hHeld ?_
              rotate_left
              · (intro w_ hw_; (try dsimp only at hw_); go_simp; try with_reducible rfl)
              simp only [Act.put, List.setIfInBounds_toArray, List.set_cons_zero, List.set_cons_succ, List.getElem_toArray, List.getElem_cons_zero, List.getElem_cons_succ]
              refine hT (i := 28) (v := ?_) rfl (by kernel_rfl) (fun _ _ _ h => h) (by rfl) ?_ hHeld ?_
              rotate_left
              · (intro w_ hw_; (try dsimp only at hw_); go_simp; try with_reducible rfl)
              simp only [Act.put, List.setIfInBounds_toArray, List.set_cons_zero, List.set_cons_succ, List.getElem_toArray, List.getElem_cons_zero, List.getElem_cons_succ]
              refine hT (i := 29) (v := ?_) rfl (by kernel_rfl) (fun _ _ _ h => h) (by rfl) ?_ hHeld ?_
              rotate_left
              · (intro w_ hw_; (try dsimp only at hw_); go_simp; try with_reducible rfl)
              simp only [Act.put, List.setIfInBounds_toArray, List.set_cons_zero, List.set_cons_succ, List.getElem_toArray, List.getElem_cons_zero, List.getElem_cons_succ]
              refine wpAnyH_done (by kernel_rfl) ?_ _
              clear hHeld
              go_wp2_with fail
              exact ⟨⟨j + 1, by omega, by go_num, HBd⟩, by simp [intOf]; omega⟩
            · simp only [if_true] at hel
              subst hel
              simp only at y0 y1 y2 y3 y4 y5 y6
              go_wp2_with fail
              refine wp_region_held_drew (S := fun w' => (w'.cell? ⟨e1b, e1o + j * 7, none⟩ = some (.int .i64 xk) ∧ w'.cell? ⟨e1b, e1o + j * 7 + 1, none⟩ = some (.int .i64 xp) ∧ w'.cell? ⟨e1b, e1o + j * 7 + 2, none⟩ = some (.int .i64 xd) ∧ w'.cell? ⟨e1b, e1o + j * 7 + 3, none⟩ = some (.int .i64 xa) ∧ w'.cell? ⟨e1b, e1o + j * 7 + 4, none⟩ = some (.int .i64 xb) ∧ w'.cell? ⟨e1b, e1o + j * 7 + 5, none⟩ = some (.int .i64 xc) ∧ w'.cell? ⟨e1b, e1o + j * 7 + 6, none⟩ = some (.string xs)) ∧ (w'.cell? ⟨e4b, e4o + j * 7, none⟩ = some (.int .i64 xk) ∧ w'.cell? ⟨e4b, e4o + j * 7 + 1, none⟩ = some (.int .i64 xp) ∧ w'.cell? ⟨e4b, e4o + j * 7 + 2, none⟩ = some (.int .i64 xd) ∧ w'.cell? ⟨e4b, e4o + j * 7 + 3, none⟩ = some (.int .i64 xa) ∧ w'.cell? ⟨e4b, e4o + j * 7 + 4, none⟩ = some (.int .i64 xb) ∧ w'.cell? ⟨e4b, e4o + j * 7 + 5, none⟩ = some (.int .i64 xc) ∧ w'.cell? ⟨e4b, e4o + j * 7 + 6, none⟩ = some (.string xs)) ∧ w'.cell? ⟨e5b, e5o + j, none⟩ = some (.bool true)) (by kernel_rfl) ?_ (fun hHeld => ?_)
              · exact ⟨⟨y0, y1, y2, y3, y4, y5, y6⟩, ⟨z0, z1, z2, z3, z4, z5, z6⟩, q0⟩
              refine hT (i := 0) (v := ?_) rfl (by kernel_rfl) (fun _ _ _ h => h) (by rfl) ?_ hHeld ?_
              rotate_left
              · (intro w_ hw_; (try dsimp only at hw_); go_simp; try with_reducible rfl)
              simp only [Act.put, List.setIfInBounds_toArray, List.set_cons_zero, List.set_cons_succ, List.getElem_toArray, List.getElem_cons_zero]
              refine hT (i := 1) (v := ?_) rfl (by kernel_rfl) (fun _ _ _ h => h) (by rfl) ?_ hHeld ?_
              rotate_left
              · (intro w_ hw_; (try dsimp only at hw_); go_simp; try with_reducible rfl)
              simp only [Act.put, List.setIfInBounds_toArray, List.set_cons_zero, List.set_cons_succ, List.getElem_toArray, List.getElem_cons_zero, List.getElem_cons_succ]
              refine hT (i := 2) (v := ?_) rfl (by kernel_rfl) (fun _ _ _ h => h) (by rfl) ?_ hHeld ?_
              rotate_left
              · (intro w_ hw_; (try dsimp only at hw_); go_simp; try with_reducible rfl)
              simp only [Act.put, List.setIfInBounds_toArray, List.set_cons_zero, List.set_cons_succ, List.getElem_toArray, List.getElem_cons_zero, List.getElem_cons_succ]
              refine hT (i := 3) (v := ?_) rfl (by kernel_rfl) (fun _ _ _ h => h) (by rfl) ?_ hHeld ?_
              rotate_left
              · (intro w_ hw_; (try dsimp only at hw_); go_simp; try with_reducible rfl)
              simp only [Act.put, List.setIfInBounds_toArray, List.set_cons_zero, List.set_cons_succ, List.getElem_toArray, List.getElem_cons_zero, List.getElem_cons_succ]
              refine hT (i := 4) (v := ?_) rfl (by kernel_rfl) (fun _ _ _ h => h) (by rfl) ?_ hHeld ?_
              rotate_left
              · (intro w_ hw_; (try dsimp only at hw_); go_simp; try with_reducible rfl)
              simp only [Act.put, List.setIfInBounds_toArray, List.set_cons_zero, List.set_cons_succ, List.getElem_toArray, List.getElem_cons_zero, List.getElem_cons_succ]
              refine hT (i := 5) (v := ?_) rfl (by kernel_rfl) (fun _ _ _ h => h) (by rfl) ?_ hHeld ?_
              rotate_left
              · (intro w_ hw_; (try dsimp only at hw_); go_simp; try with_reducible rfl)
              simp only [Act.put, List.setIfInBounds_toArray, List.set_cons_zero, List.set_cons_succ, List.getElem_toArray, List.getElem_cons_zero, List.getElem_cons_succ]
              refine hT (i := 6) (v := ?_) rfl (by kernel_rfl) (fun _ _ _ h => h) (by rfl) ?_ hHeld ?_
              rotate_left
              · (intro w_ hw_; (try dsimp only at hw_); go_simp; try with_reducible rfl)
              simp only [Act.put, List.setIfInBounds_toArray, List.set_cons_zero, List.set_cons_succ, List.getElem_toArray, List.getElem_cons_zero, List.getElem_cons_succ]
              refine hT (i := 7) (v := ?_) rfl (by kernel_rfl) (fun _ _ _ h => h) (by rfl) ?_ hHeld ?_
              rotate_left
              · (intro w_ hw_; (try dsimp only at hw_); go_simp; try with_reducible rfl)
              simp only [Act.put, List.setIfInBounds_toArray, List.set_cons_zero, List.set_cons_succ, List.getElem_toArray, List.getElem_cons_zero, List.getElem_cons_succ]
              refine hT (i := 8) (v := ?_) rfl (by kernel_rfl) (fun _ _ _ h => h) (by rfl) ?_ hHeld ?_
              rotate_left
              · (intro w_ hw_; (try dsimp only at hw_); go_simp; try with_reducible rfl)
              simp only [Act.put, List.setIfInBounds_toArray, List.set_cons_zero, List.set_cons_succ, List.getElem_toArray, List.getElem_cons_zero, List.getElem_cons_succ]
              refine hT (i := 9) (v := ?_) rfl (by kernel_rfl) (fun _ _ _ h => h) (by rfl) ?_ hHeld ?_
              rotate_left
              · (intro w_ hw_; (try dsimp only at hw_); go_simp; try with_reducible rfl)
              simp only [Act.put, List.setIfInBounds_toArray, List.set_cons_zero, List.set_cons_succ, List.getElem_toArray, List.getElem_cons_zero, List.getElem_cons_succ]
              refine hT (i := 10) (v := ?_) rfl (by kernel_rfl) (fun _ _ _ h => h) (by rfl) ?_ hHeld ?_
              rotate_left
              · (intro w_ hw_; (try dsimp only at hw_); go_simp; try with_reducible rfl)
              simp only [Act.put, List.setIfInBounds_toArray, List.set_cons_zero, List.set_cons_succ, List.getElem_toArray, List.getElem_cons_zero, List.getElem_cons_succ]
              refine hT (i := 11) (v := ?_) rfl (by kernel_rfl) (fun _ _ _ h => h) (by rfl) ?_ hHeld ?_
              rotate_left
              · (intro w_ hw_; (try dsimp only at hw_); go_simp; try with_reducible rfl)
              simp only [Act.put, List.setIfInBounds_toArray, List.set_cons_zero, List.set_cons_succ, List.getElem_toArray, List.getElem_cons_zero, List.getElem_cons_succ]
              refine hT (i := 12) (v := ?_) rfl (by kernel_rfl) (fun _ _ _ h => h) (by rfl) ?_ hHeld ?_
              rotate_left
              · (intro w_ hw_; (try dsimp only at hw_); go_simp; try with_reducible rfl)
              simp only [Act.put, List.setIfInBounds_toArray, List.set_cons_zero, List.set_cons_succ, List.getElem_toArray, List.getElem_cons_zero, List.getElem_cons_succ]
              refine hT (i := 13) (v := ?_) rfl (by kernel_rfl) (fun _ _ _ h => h) (by rfl) ?_ hHeld ?_
              rotate_left
              · (intro w_ hw_; (try dsimp only at hw_); go_simp; try with_reducible rfl)
              simp only [Act.put, List.setIfInBounds_toArray, List.set_cons_zero, List.set_cons_succ, List.getElem_toArray, List.getElem_cons_zero, List.getElem_cons_succ]
              refine hT (i := 14) (v := ?_) rfl (by kernel_rfl) (fun _ _ _ h => h) (by rfl) ?_ hHeld ?_
              rotate_left
              · (intro w_ hw_; (try dsimp only at hw_); go_simp; try with_reducible rfl)
              simp only [Act.put, List.setIfInBounds_toArray, List.set_cons_zero, List.set_cons_succ, List.getElem_toArray, List.getElem_cons_zero, List.getElem_cons_succ]
              refine hT (i := 15) (v := ?_) rfl (by kernel_rfl) (fun _ _ _ h => h) (by rfl) ?_ hHeld ?_
              rotate_left
              · (intro w_ hw_; (try dsimp only at hw_); go_simp; try with_reducible rfl)
              simp only [Act.put, List.setIfInBounds_toArray, List.set_cons_zero, List.set_cons_succ, List.getElem_toArray, List.getElem_cons_zero, List.getElem_cons_succ]
              refine hT (i := 16) (v := ?_) rfl (by kernel_rfl) (fun _ _ _ h => h) (by rfl) ?_ hHeld ?_
              rotate_left
              · (intro w_ hw_; (try dsimp only at hw_); go_simp; try with_reducible rfl)
              simp only [Act.put, List.setIfInBounds_toArray, List.set_cons_zero, List.set_cons_succ, List.getElem_toArray, List.getElem_cons_zero, List.getElem_cons_succ]
              refine hT (i := 17) (v := ?_) rfl (by kernel_rfl) (fun _ _ _ h => h) (by rfl) ?_ hHeld ?_
              rotate_left
              · (intro w_ hw_; (try dsimp only at hw_); go_simp; try with_reducible rfl)
              simp only [Act.put, List.setIfInBounds_toArray, List.set_cons_zero, List.set_cons_succ, List.getElem_toArray, List.getElem_cons_zero, List.getElem_cons_succ]
              refine hT (i := 18) (v := ?_) rfl (by kernel_rfl) (fun _ _ _ h => h) (by rfl) ?_ hHeld ?_
              rotate_left
              · (intro w_ hw_; (try dsimp only at hw_); go_simp; try with_reducible rfl)
              simp only [Act.put, List.setIfInBounds_toArray, List.set_cons_zero, List.set_cons_succ, List.getElem_toArray, List.getElem_cons_zero, List.getElem_cons_succ]
              refine hT (i := 19) (v := ?_) rfl (by kernel_rfl) (fun _ _ _ h => h) (by rfl) ?_ hHeld ?_
              rotate_left
              · (intro w_ hw_; (try dsimp only at hw_); go_simp; try with_reducible rfl)
              simp only [Act.put, List.setIfInBounds_toArray, List.set_cons_zero, List.set_cons_succ, List.getElem_toArray, List.getElem_cons_zero, List.getElem_cons_succ]
              refine hT (i := 20) (v := ?_) rfl (by kernel_rfl) (fun _ _ _ h => h) (by rfl) ?_ hHeld ?_
              rotate_left
              · (intro w_ hw_; (try dsimp only at hw_); go_simp; try with_reducible rfl)
              simp only [Act.put, List.setIfInBounds_toArray, List.set_cons_zero, List.set_cons_succ, List.getElem_toArray, List.getElem_cons_zero, List.getElem_cons_succ]
              refine hT (i := 21) (v := ?_) rfl (by kernel_rfl) (fun _ _ _ h => h) (by rfl) ?_ hHeld ?_
              rotate_left
              · (intro w_ hw_; (try dsimp only at hw_); go_simp; try with_reducible rfl)
              simp only [Act.put, List.setIfInBounds_toArray, List.set_cons_zero, List.set_cons_succ, List.getElem_toArray, List.getElem_cons_zero, List.getElem_cons_succ]
              refine hN (i := 22) rfl (by kernel_rfl) (fun _ _ _ h => h) (by rfl) hHeld ?_
              simp only [Act.put, List.setIfInBounds_toArray, List.set_cons_zero, List.set_cons_succ, List.getElem_toArray, List.getElem_cons_zero, List.getElem_cons_succ]
              refine hN (i := 23) rfl (by kernel_rfl) (fun _ _ _ h => h) (by rfl) hHeld ?_
              simp only [Act.put, List.setIfInBounds_toArray, List.set_cons_zero, List.set_cons_succ, List.getElem_toArray, List.getElem_cons_zero, List.getElem_cons_succ]
              refine hN (i := 24) rfl (by kernel_rfl) (fun _ _ _ h => h) (by rfl) hHeld ?_
              simp only [Act.put, List.setIfInBounds_toArray, List.set_cons_zero, List.set_cons_succ, List.getElem_toArray, List.getElem_cons_zero, List.getElem_cons_succ]
              refine hN (i := 25) rfl (by kernel_rfl) (fun _ _ _ h => h) (by rfl) hHeld ?_
              simp only [Act.put, List.setIfInBounds_toArray, List.set_cons_zero, List.set_cons_succ, List.getElem_toArray, List.getElem_cons_zero, List.getElem_cons_succ]
              refine hN (i := 26) rfl (by kernel_rfl) (fun _ _ _ h => h) (by rfl) hHeld ?_
              simp only [Act.put, List.setIfInBounds_toArray, List.set_cons_zero, List.set_cons_succ, List.getElem_toArray, List.getElem_cons_zero, List.getElem_cons_succ]
              refine hN (i := 27) rfl (by kernel_rfl) (fun _ _ _ h => h) (by rfl) hHeld ?_
              simp only [Act.put, List.setIfInBounds_toArray, List.set_cons_zero, List.set_cons_succ, List.getElem_toArray, List.getElem_cons_zero, List.getElem_cons_succ]
              refine hT (i := 28) (v := ?_) rfl (by kernel_rfl) (fun _ _ _ h => h) (by rfl) ?_ hHeld ?_
              rotate_left
              · (intro w_ hw_; (try dsimp only at hw_); go_simp; try with_reducible rfl)
              simp only [Act.put, List.setIfInBounds_toArray, List.set_cons_zero, List.set_cons_succ, List.getElem_toArray, List.getElem_cons_zero, List.getElem_cons_succ]
              refine hT (i := 29) (v := ?_) rfl (by kernel_rfl) (fun _ _ _ h => h) (by rfl) ?_ hHeld ?_
              rotate_left
              · (intro w_ hw_; (try dsimp only at hw_); go_simp; try with_reducible rfl)
              simp only [Act.put, List.setIfInBounds_toArray, List.set_cons_zero, List.set_cons_succ, List.getElem_toArray, List.getElem_cons_zero, List.getElem_cons_succ]
              refine wpAnyH_done (by kernel_rfl) ?_ _
              clear hHeld
              go_wp2_with fail
              exact ⟨⟨j + 1, by omega, by go_num, HBd⟩, by simp [intOf]; omega⟩
          · obtain rfl : j = k := by omega
            go_wp2_with fail
            go_ret
            exact ⟨rfl, Bel.trans H3.out HB.out⟩
end Go.Proofs.Ythjhkbnajclcjaa
