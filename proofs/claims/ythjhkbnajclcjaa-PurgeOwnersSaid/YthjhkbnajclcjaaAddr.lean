/- Runs of bytes: May and Split, of the program (package addr) and of the reference: what they answer. -/
import Derived.Test.YthjhkbnajclcjaaRow
import Derived.Test.YthjhkbnajclcjaaCfg
namespace Go.Proofs.Ythjhkbnajclcjaa
open Go.RowKit

def addrMay (a n s : Int) : Bool := decide (0 ≤ a) && (decide (0 ≤ n) && (decide (0 ≤ s) && (decide (a ≤ s) && decide (n ≤ s - a))))
theorem addrMay_iff (a n s : Int) : addrMay a n s = true ↔ 0 ≤ a ∧ 0 ≤ n ∧ 0 ≤ s ∧ a ≤ s ∧ n ≤ s - a := by simp [addrMay]
theorem addrMay_false (a n s : Int) : addrMay a n s = false ↔ ¬ (0 ≤ a ∧ 0 ≤ n ∧ 0 ≤ s ∧ a ≤ s ∧ n ≤ s - a) := by rw [← addrMay_iff]; simp

/-- The pieces of n bytes from a on, frame by frame. -/
def splitGo : Nat → Int → Int → List Piece
  | 0, _, _ => []
  | d + 1, a, n => if 0 < n then ⟨a / 64, a % 64, min n (64 - a % 64)⟩ :: splitGo d (a + min n (64 - a % 64)) (n - min n (64 - a % 64)) else []
def split (a n : Int) : List Piece := splitGo n.toNat a n
theorem splitGo_fuel : ∀ (d d' : Nat) (a n : Int), n.toNat ≤ d → n.toNat ≤ d' → splitGo d a n = splitGo d' a n := by
  intro d
  induction d with
  | zero =>
    intro d' a n h h'
    have hn : ¬ 0 < n := by omega
    cases d' with
    | zero => rfl
    | succ d' => simp [splitGo, hn]
  | succ d ih =>
    intro d' a n h h'
    cases d' with
    | zero =>
      have hn : ¬ 0 < n := by omega
      simp [splitGo, hn]
    | succ d' =>
      unfold splitGo
      by_cases hn : 0 < n
      · rw [if_pos hn, if_pos hn, ih d' _ _ (by omega) (by omega)]
      · rw [if_neg hn, if_neg hn]
theorem split_step (a n : Int) (hn : 0 < n) : split a n = ⟨a / 64, a % 64, min n (64 - a % 64)⟩ :: split (a + min n (64 - a % 64)) (n - min n (64 - a % 64)) := by
  unfold split
  obtain ⟨d, hd⟩ : ∃ d, n.toNat = d + 1 := ⟨n.toNat - 1, by omega⟩
  rw [hd, splitGo, if_pos hn, splitGo_fuel d _ _ _ (by omega) (Nat.le_refl _)]
theorem split_none (a n : Int) (hn : n ≤ 0) : split a n = [] := by
  unfold split
  rw [show n.toNat = 0 by omega, splitGo]

theorem kPiece_mk (w : World) (f o l : Int) (hf : I64 f) (ho : I64 o) (hl : I64 l) : kPiece.K w ⟨f, o, l⟩ [.int .i64 f, .int .i64 o, .int .i64 l] := ⟨rfl, hf, ho, hl⟩
theorem min_part (x y : Int) (hy : 0 < y) : ∃ k : Int, (if 64 - x % 64 < y then 64 - x % 64 else y) = k ∧ 1 ≤ k ∧ k ≤ 64 ∧ k ≤ y ∧ Hid (min y (64 - x % 64) = k) := by
  have h1 := Int.emod_nonneg x (show (64 : Int) ≠ 0 by decide)
  have h2 := Int.emod_lt_of_pos x (show (0 : Int) < 64 by decide)
  by_cases h : 64 - x % 64 < y
  · exact ⟨64 - x % 64, by rw [if_pos h], by omega, by omega, by omega, show min y (64 - x % 64) = _ by omega⟩
  · exact ⟨y, by rw [if_neg h], by omega, by omega, by omega, show min y (64 - x % 64) = _ by omega⟩
theorem kPiece_pure : kPiece.Pure := fun _ _ _ _ h => h
theorem kPiece_one : kPiece.One := fun _ _ _ h u hu => by
  rw [h.1] at hu
  simp at hu
  rcases hu with rfl | rfl | rfl <;> rfl
theorem info_Piece : (Try.prog.info? 81).map (fun i => (i.zero, i.size, i.bytes)) = some (some (.agg #[.int .i64 0, .int .i64 0, .int .i64 0]), 3, 24) := by kernel_rfl

/-- A slice of pieces and no error. -/
def Pieces (ps : List Piece) (w : World) (e : Ending) (w' : World) : Prop := ∃ v, e = .returned (.tuple #[v, .int .i64 0]) ∧ kPiece.Sl w' v ps ∧ Bel w w'

set_option maxHeartbeats 1000000 in
theorem addrMay_p (a n s : Int) (w : World) (ha : I64 a) (hn : I64 n) (hs : I64 s) :
    Calls Try.prog 95 #[.int .i64 a, .int .i64 n, .int .i64 s] w fun e w' => e = .returned (.bool (addrMay a n s)) ∧ w = w' := by
  unfold I64 at ha hn hs
  go_enter Try.func95, Try.ntmps95
  go_wp2
  all_goals
    go_ret
    refine ⟨congrArg (fun b => Ending.returned (Value.bool b)) ?_, rfl⟩
    rw [Bool.eq_iff_iff, addrMay_iff]
    simp
    try omega

theorem split_p_no (a n : Int) (w : World) (ha : I64 a) (hn : I64 n) (hm : addrMay a n 4096 = false) :
    Calls Try.prog 120 #[.int .i64 a, .int .i64 n] w fun e w' => e = .returned (.tuple #[.slice none 0 0, .int .i64 100]) ∧ w = w' := by
  have hcon := hide (addrMay_p a n 4096 w ha hn (by unfold I64; omega))
  rw [hm] at hcon
  clear hm
  go_enter Try.func120, Try.ntmps120
  go_wp2_with ((with_reducible refine (Hid.out hcon).mono ?_); rintro e w' ⟨rfl, rfl⟩)
  go_ret2
  exact ⟨rfl, rfl⟩

set_option maxHeartbeats 2000000 in
theorem split_p (a n : Int) (w : World) (hm : addrMay a n 4096 = true) :
    Calls Try.prog 120 #[.int .i64 a, .int .i64 n] w (Pieces (split a n) w) := by
  obtain ⟨h1, h2, -, h4, h5⟩ := (addrMay_iff _ _ _).1 hm
  have hcon := hide (addrMay_p a n 4096 w (by unfold I64; omega) (by unfold I64; omega) (by unfold I64; omega))
  rw [hm] at hcon
  clear hm
  go_enter Try.func120, Try.ntmps120
  go_wp2_with ((with_reducible refine (Hid.out hcon).mono ?_); rintro e w' ⟨rfl, rfl⟩)
  go_loopw [0, 1, 6] (fun t0 t1 t6 W => ∃ (x y : Int) (ps : List Piece), t0 = .int .i64 x ∧ t1 = .int .i64 y ∧ 0 ≤ x ∧ 0 ≤ y ∧ x + y ≤ 4096 ∧ ps.length + y.toNat ≤ 4096 ∧ Hid (kPiece.Own 81 w.heap.size W t6 ps) ∧ Hid (Bel w W) ∧ Hid (ps ++ split x y = split a n)) (fun _ t1 _ _ => (intOf t1).toNat)
  case atStart => exact ⟨a, n, [], rfl, rfl, by omega, by omega, by omega, by simp; omega, hide (Kind.Own.nil _ _ _ _), hide (bel_refl w), hide rfl⟩
  case round =>
    obtain ⟨x, y, ps, rfl, rfl, hx, hy, hxy, hps, HO, HB, HE⟩ := hrel
    by_cases hlt : 0 < y
    · have hsz := HB.out.size
      obtain ⟨k, hmin, hk1, hk2, hk3, HK⟩ := min_part x y hlt
      have HS := hide (split_step x y hlt)
      rw [HK.out] at HS
      have hpk : Hid (kPiece.K wr ⟨x / 64, x % 64, k⟩ [.int .i64 (x / 64), .int .i64 (x % 64), .int .i64 k]) := kPiece_mk _ _ _ _ (by unfold I64; omega) (by unfold I64; omega) (by unfold I64; omega)
      go_wp2_with (at_builtin; refine own_append kPiece kPiece_one w.heap.size rfl _ _ 76 81 _ 24 rfl Try.underlying76 info_Piece rfl (by decide) (by decide) u6 ps ⟨x / 64, x % 64, k⟩ [.int .i64 (x / 64), .int .i64 (x % 64), .int .i64 k] rfl rfl HO.out (kPiece_pure.rob hpk.out _) hsz (by omega) ?_; intro v1 w1 HO1 HB1 hg1 hat1; clear hg1 hat1)
      exact ⟨⟨x + k, y - k, ps ++ [⟨x / 64, x % 64, k⟩], rfl, rfl, by omega, by omega, by omega, by rw [List.length_append]; simp only [List.length_singleton]; omega, hide HO1, hide (Below.trans HB.out HB1), hide (by rw [List.append_assoc, List.singleton_append]; rw [← HE.out, HS.out])⟩, by simp [intOf]; omega⟩
    · have HS := hide (split_none x y (by omega))
      go_wp2
      go_ret2
      refine ⟨u6, rfl, ?_, HB.out⟩
      rw [← HE.out, HS.out, List.append_nil]
      exact HO.out.sl

set_option maxHeartbeats 1000000 in
theorem addrMay_r (a n s : Int) (w : World) (ha : I64 a) (hn : I64 n) (hs : I64 s) :
    Calls Try.prog 102 #[.int .i64 a, .int .i64 n, .int .i64 s] w fun e w' => e = .returned (.bool (addrMay a n s)) ∧ w = w' := by
  unfold I64 at ha hn hs
  go_enter Try.func102, Try.ntmps102
  go_wp2
  all_goals
    go_ret
    refine ⟨congrArg (fun b => Ending.returned (Value.bool b)) ?_, rfl⟩
    rw [Bool.eq_iff_iff, addrMay_iff]
    simp
    try omega

theorem split_r_no (a n : Int) (w : World) (ha : I64 a) (hn : I64 n) (hm : addrMay a n 4096 = false) :
    Calls Try.prog 124 #[.int .i64 a, .int .i64 n] w fun e w' => e = .returned (.tuple #[.slice none 0 0, .int .i64 100]) ∧ w = w' := by
  have hcon := hide (addrMay_r a n 4096 w ha hn (by unfold I64; omega))
  rw [hm] at hcon
  clear hm
  go_enter Try.func124, Try.ntmps124
  go_wp2_with ((with_reducible refine (Hid.out hcon).mono ?_); rintro e w' ⟨rfl, rfl⟩)
  go_ret2
  exact ⟨rfl, rfl⟩

set_option maxHeartbeats 2000000 in
theorem split_r (a n : Int) (w : World) (hm : addrMay a n 4096 = true) :
    Calls Try.prog 124 #[.int .i64 a, .int .i64 n] w (Pieces (split a n) w) := by
  obtain ⟨h1, h2, -, h4, h5⟩ := (addrMay_iff _ _ _).1 hm
  have hcon := hide (addrMay_r a n 4096 w (by unfold I64; omega) (by unfold I64; omega) (by unfold I64; omega))
  rw [hm] at hcon
  clear hm
  go_enter Try.func124, Try.ntmps124
  go_wp2_with ((with_reducible refine (Hid.out hcon).mono ?_); rintro e w' ⟨rfl, rfl⟩)
  go_loopw [0, 1, 6] (fun t0 t1 t6 W => ∃ (x y : Int) (ps : List Piece), t0 = .int .i64 x ∧ t1 = .int .i64 y ∧ 0 ≤ x ∧ 0 ≤ y ∧ x + y ≤ 4096 ∧ ps.length + y.toNat ≤ 4096 ∧ Hid (kPiece.Own 81 w.heap.size W t6 ps) ∧ Hid (Bel w W) ∧ Hid (ps ++ split x y = split a n)) (fun _ t1 _ _ => (intOf t1).toNat)
  case atStart => exact ⟨a, n, [], rfl, rfl, by omega, by omega, by omega, by simp; omega, hide (Kind.Own.nil _ _ _ _), hide (bel_refl w), hide rfl⟩
  case round =>
    obtain ⟨x, y, ps, rfl, rfl, hx, hy, hxy, hps, HO, HB, HE⟩ := hrel
    by_cases hlt : 0 < y
    · have hsz := HB.out.size
      obtain ⟨k, hmin, hk1, hk2, hk3, HK⟩ := min_part x y hlt
      have HS := hide (split_step x y hlt)
      rw [HK.out] at HS
      have hpk : Hid (kPiece.K wr ⟨x / 64, x % 64, k⟩ [.int .i64 (x / 64), .int .i64 (x % 64), .int .i64 k]) := kPiece_mk _ _ _ _ (by unfold I64; omega) (by unfold I64; omega) (by unfold I64; omega)
      go_wp2_with (at_builtin; refine own_append kPiece kPiece_one w.heap.size rfl _ _ 76 81 _ 24 rfl Try.underlying76 info_Piece rfl (by decide) (by decide) u6 ps ⟨x / 64, x % 64, k⟩ [.int .i64 (x / 64), .int .i64 (x % 64), .int .i64 k] rfl rfl HO.out (kPiece_pure.rob hpk.out _) hsz (by omega) ?_; intro v1 w1 HO1 HB1 hg1 hat1; clear hg1 hat1)
      exact ⟨⟨x + k, y - k, ps ++ [⟨x / 64, x % 64, k⟩], rfl, rfl, by omega, by omega, by omega, by rw [List.length_append]; simp only [List.length_singleton]; omega, hide HO1, hide (Below.trans HB.out HB1), hide (by rw [List.append_assoc, List.singleton_append]; rw [← HE.out, HS.out])⟩, by simp [intOf]; omega⟩
    · have HS := hide (split_none x y (by omega))
      go_wp2
      go_ret2
      refine ⟨u6, rfl, ?_, HB.out⟩
      rw [← HE.out, HS.out, List.append_nil]
      exact HO.out.sl
end Go.Proofs.Ythjhkbnajclcjaa
