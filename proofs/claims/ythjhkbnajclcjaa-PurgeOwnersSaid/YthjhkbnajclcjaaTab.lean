/- Package assign: whose devices are: there, Owner, Move, Tick. -/
import Derived.Test.YthjhkbnajclcjaaPurgeP
import Derived.Test.YthjhkbnajclcjaaBlk
import Derived.Test.YthjhkbnajclcjaaApp
import Derived.Test.YthjhkbnajclcjaaDraw
import Derived.Test.YthjhkbnajclcjaaRFrames
set_option linter.unusedSimpArgs false
namespace Go.Proofs.Ythjhkbnajclcjaa
open Go.RowKit

/-- All blocks but two are as they were. -/
structure Turn (P g : Nat) (w w' : World) : Prop where
  os : w'.os = w.os
  tape : w'.tape = w.tape
  output : w'.output = w.output
  size : w.heap.size ≤ w'.heap.size
  block : ∀ k, k < w.heap.size → k ≠ P → k ≠ g → w'.heap[k]? = w.heap[k]?
section
variable {P g : Nat} {a b c w w' : World}
theorem Turn.refl (P g : Nat) (w : World) : Turn P g w w := ⟨rfl, rfl, rfl, Nat.le_refl _, fun _ _ _ _ => rfl⟩
theorem Turn.trans (h : Turn P g a b) (k : Turn P g b c) : Turn P g a c := ⟨k.os.trans h.os, k.tape.trans h.tape, k.output.trans h.output, Nat.le_trans h.size k.size, fun i h1 h2 h3 => (k.block i (Nat.lt_of_lt_of_le h1 h.size) h2 h3).trans (h.block i h1 h2 h3)⟩
theorem Bel.turn (h : Bel a b) : Turn P g a b := ⟨h.os, h.tape, h.output, h.size, fun k hk _ _ => h.block k hk⟩
theorem Turn.bel (h : Bel w a) (k : Turn P g a b) (hP : w.heap.size ≤ P) (hg : w.heap.size ≤ g) : Bel w b := ⟨k.os.trans h.os, k.tape.trans h.tape, k.output.trans h.output, Nat.le_trans h.size k.size, fun i hi => (k.block i (Nat.lt_of_lt_of_le hi h.size) (by omega) (by omega)).trans (h.block i hi)⟩
theorem Turn.setg (h : Turn P g a b) (i : Nat) (v : Value) : Turn P g a (b.setCell ⟨g, i, none⟩ v) := ⟨h.os, h.tape, h.output, by simpa using h.size, fun k h1 h2 h3 => (Below.heap_setCell b _ v k (by dsimp only; omega)).trans (h.block k h1 h2 h3)⟩
theorem Turn.setP (h : Turn P g a b) (i : Nat) (v : Value) : Turn P g a (b.setCell ⟨P, i, none⟩ v) := ⟨h.os, h.tape, h.output, by simpa using h.size, fun k h1 h2 h3 => (Below.heap_setCell b _ v k (by dsimp only; omega)).trans (h.block k h1 h2 h3)⟩
theorem Turn.alloc (h : Turn P g a b) (o : Obj) : Turn P g a (b.alloc o) := h.trans ((bel_refl b).alloc o).turn
theorem Turn.blk (h : Turn P g a b) {k : Nat} {l : List Value} {t : TypeId} (hb : BlkAt a k l t) (h1 : k ≠ P) (h2 : k ≠ g) : BlkAt b k l t := (h.block k hb.lt h1 h2).trans hb
theorem Turn.cell (h : Turn P g a b) {k i : Nat} {v : Value} (hb : a.cell? ⟨k, i, none⟩ = some v) (h1 : k ≠ P) (h2 : k ≠ g) : b.cell? ⟨k, i, none⟩ = some v := (World.cell?_of_block (w := a) (h.block k (World.block_lt_of_cell? a _ hb) h1 h2)).trans hb
theorem Turn.any (h : Turn P g a b) (hP : P = g) (Q : Nat) : Turn Q g a b := ⟨h.os, h.tape, h.output, h.size, fun k h1 _ h3 => h.block k h1 (by omega) h3⟩
end

theorem bel_set_new' {w W : World} (h : Bel w W) (i : Nat) (v : Value) : Bel w (W.setCell ⟨w.heap.size, i, none⟩ v) := h.setCell (Nat.le_refl _) v
def flat (all : List St) : List Value := all.flatMap fun s => [Value.int .i64 s.part, Value.int .i64 s.left]
theorem flat_length (all : List St) : (flat all).length = all.length * 2 := by
  induction all with
  | nil => rfl
  | cons s all ih => unfold flat at *; rw [List.flatMap_cons, List.length_append, ih]; simp; omega
theorem flat_get : ∀ (all : List St) (j : Nat) (h : j < all.length), (flat all)[j * 2]? = some (.int .i64 all[j].part) ∧ (flat all)[j * 2 + 1]? = some (.int .i64 all[j].left)
  | s :: all, 0, _ => by simp [flat]
  | s :: all, j + 1, h => by
    have ih := flat_get all j (by simpa using h)
    have e : flat (s :: all) = .int .i64 s.part :: .int .i64 s.left :: flat all := rfl
    rw [e, show (j + 1) * 2 = j * 2 + 1 + 1 by omega]
    simpa using ih
theorem flat_set : ∀ (all : List St) (j : Nat) (s : St), flat (all.set j s) = ((flat all).set (j * 2) (.int .i64 s.part)).set (j * 2 + 1) (.int .i64 s.left)
  | [], j, s => by simp [flat]
  | x :: all, 0, s => by simp [flat]
  | x :: all, j + 1, s => by
    have ih := flat_set all j s
    have e : ∀ (y : St) (l : List St), flat (y :: l) = .int .i64 y.part :: .int .i64 y.left :: flat l := fun _ _ => rfl
    rw [List.set_cons_succ, e, e, ih, show (j + 1) * 2 = j * 2 + 1 + 1 by omega]
    rfl

/-- A table in memory: block T its fields, block g its states. -/
structure TabAt (W : World) (T g cap : Nat) (q p : Int) (all : List St) : Prop where
  hd : BlkAt W T [.int .i64 q, .int .i64 p, .slice (some ⟨g, 0, none⟩) all.length cap] 180
  row : ∃ cur : List Value, BlkAt W g cur 182 ∧ cur.take (all.length * 2) = flat all
  ne : T ≠ g
section
variable {W W' : World} {T g cap : Nat} {q p : Int} {all : List St}
theorem TabAt.bel (h : TabAt W T g cap q p all) (hb : Bel W W') : TabAt W' T g cap q p all := ⟨h.hd.bel hb, let ⟨cur, h1, h2⟩ := h.row; ⟨cur, h1.bel hb, h2⟩, h.ne⟩
theorem TabAt.glt (h : TabAt W T g cap q p all) : g < W.heap.size := let ⟨_, h1, _⟩ := h.row; h1.lt
/-- Another block has been written. -/
theorem TabAt.keep (h : TabAt W T g cap q p all) (h1 : W'.heap[T]? = W.heap[T]?) (h2 : W'.heap[g]? = W.heap[g]?) : TabAt W' T g cap q p all := ⟨h1.trans h.hd, let ⟨cur, a, b⟩ := h.row; ⟨cur, h2.trans a, b⟩, h.ne⟩
theorem TabAt.cells (h : TabAt W T g cap q p all) {j : Nat} (hj : j < all.length) : W.cell? ⟨g, j * 2, none⟩ = some (.int .i64 all[j].part) ∧ W.cell? ⟨g, j * 2 + 1, none⟩ = some (.int .i64 all[j].left) := by
  obtain ⟨cur, h1, h2⟩ := h.row
  have h3 := flat_get all j hj
  rw [← h2, List.getElem?_take, if_pos (by omega), List.getElem?_take, if_pos (by omega)] at h3
  exact ⟨h1.cell h3.1, h1.cell h3.2⟩
theorem TabAt.free (h : TabAt W T g cap q p all) (i : Nat) : W.frozen? ⟨g, i, none⟩ = false := let ⟨_, h1, _⟩ := h.row; h1.free i
theorem TabAt.set (h : TabAt W T g cap q p all) (j : Nat) (s : St) : TabAt ((W.setCell ⟨g, j * 2, none⟩ (.int .i64 s.part)).setCell ⟨g, j * 2 + 1, none⟩ (.int .i64 s.left)) T g cap q p (all.set j s) := by
  obtain ⟨cur, h1, h2⟩ := h.row
  refine ⟨by rw [List.length_set]; exact (h.hd.other h.ne _).other h.ne _, ⟨_, (h1.set _ _).set _ _, ?_⟩, h.ne⟩
  rw [List.take_set, List.take_set, List.length_set, h2, flat_set]
theorem TabAt.setLeft (h : TabAt W T g cap q p all) {j : Nat} (hj : j < all.length) (l : Int) : TabAt (W.setCell ⟨g, j * 2 + 1, none⟩ (.int .i64 l)) T g cap q p (all.set j ⟨all[j].part, l⟩) := by
  obtain ⟨cur, h1, h2⟩ := h.row
  refine ⟨by rw [List.length_set]; exact h.hd.other h.ne _, ⟨_, h1.set _ _, ?_⟩, h.ne⟩
  rw [List.take_set, List.length_set, h2, flat_set]
  congr 1
  refine (List.ext_getElem? fun i => ?_)
  rw [List.getElem?_set]
  split
  · rename_i hi
    subst hi
    rw [(flat_get all j hj).1]
    simp [flat_length]; omega
  · rfl
end
theorem cell_far (W : World) {b b' : Nat} (h : b ≠ b') (o o' : Nat) (v : Value) : (W.setCell ⟨b, o, none⟩ v).cell? ⟨b', o', none⟩ = W.cell? ⟨b', o', none⟩ := World.cell?_setCell_far _ _ _ _ h
theorem stAt_eq {all : List St} {j : Nat} (hj : j < all.length) : stAt all (j : Int) = all[j] := by simp [stAt, hj]

theorem tabThere (w : World) (T g cap : Nat) (q p : Int) (all : List St) (d : Int) (h : TabAt w T g cap q p all) :
    Calls Try.prog 167 #[.pointer (some ⟨T, 0, none⟩), .int .i64 d] w fun e w' => e = .returned (.bool (inB all.length d)) ∧ w = w' := by
  have HL := hide (inB_iff all.length d)
  generalize inB all.length d = r at HL
  have e2 := h.hd.cell (i := 2) rfl
  clear h
  go_enter Try.func167, Try.ntmps167
  go_wp2
  all_goals
    go_ret
    refine ⟨congrArg (fun b => Ending.returned (Value.bool b)) ?_, rfl⟩
    rw [Bool.eq_iff_iff, HL.out]
    simp
    try omega

set_option maxHeartbeats 4000000 in
theorem tabOwner (w : World) (T g cap : Nat) (q p : Int) (all : List St) (d : Int) (h : TabAt w T g cap q p all) :
    Calls Try.prog 130 #[.pointer (some ⟨T, 0, none⟩), .int .i64 d] w fun e w' => e = .returned (.int .i64 (ownerT all d)) ∧ w = w' := by
  have ht := hide (tabThere w T g cap q p all d h)
  have HE : Hid (ownerT all d = if inB all.length d && !decide (0 < (stAt all d).left) then (stAt all d).part else -1) := rfl
  have HI := hide (inB_iff all.length d)
  generalize ownerT all d = res at HE
  have e2 := h.hd.cell (i := 2) rfl
  cases qi : inB all.length d
  · rw [qi] at ht HE
    clear h HI qi
    go_enter Try.func130, Try.ntmps130
    go_wp2_with ((with_reducible refine (Hid.out ht).mono ?_); rintro e w' ⟨rfl, rfl⟩)
    go_ret
    rw [HE.out]
    exact ⟨rfl, rfl⟩
  obtain ⟨hd0, hd1⟩ := HI.out.1 qi
  rw [qi] at ht HE
  obtain ⟨j, rfl⟩ : ∃ j : Nat, d = j := ⟨d.toNat, by omega⟩
  have hj : j < all.length := by omega
  obtain ⟨c0, c1⟩ := h.cells hj
  rw [stAt_eq hj] at HE
  generalize all[j] = s at c0 c1 HE
  obtain ⟨sp, sl⟩ := s
  simp only at c0 c1 HE
  clear h HI qi
  by_cases hs : 0 < sl
  · have HZ := hide (show res = -1 by rw [HE.out, decide_eq_true hs]; rfl)
    go_enter Try.func130, Try.ntmps130
    go_wp2_with ((with_reducible refine (Hid.out ht).mono ?_); rintro e w' ⟨rfl, rfl⟩)
    go_ret
    rw [HZ.out]
    exact ⟨rfl, rfl⟩
  · have HZ := hide (show res = sp by rw [HE.out, decide_eq_false hs]; rfl)
    go_enter Try.func130, Try.ntmps130
    go_wp2_with ((with_reducible refine (Hid.out ht).mono ?_); rintro e w' ⟨rfl, rfl⟩)
    go_ret
    rw [HZ.out]
    exact ⟨rfl, rfl⟩

set_option maxRecDepth 20000 in
set_option maxHeartbeats 8000000 in
theorem tabMove (w : World) (T g cap : Nat) (q p : Int) (all : List St) (d t : Int) (h : TabAt w T g cap q p all) :
    Calls Try.prog 131 #[.pointer (some ⟨T, 0, none⟩), .int .i64 d, .int .i64 t] w fun e w' => (∃ x : Int, e = .returned (.int .i64 x)) ∧ TabAt w' T g cap q p (moveT q p all d t) ∧ Turn g g w w' := by
  have ht := hide (tabThere w T g cap q p all d h)
  have HE : Hid (mayMove p all d t = (inB all.length d && (decide (0 ≤ t) && (decide (t < p) && !decide (0 < (stAt all d).left))))) := rfl
  have HM : Hid (moveT q p all d t = if mayMove p all d t then all.set d.toNat ⟨t, q⟩ else all) := rfl
  have HI := hide (inB_iff all.length d)
  generalize mayMove p all d t = mm at HE HM
  have e0 := h.hd.cell (i := 0) rfl
  have e1 := h.hd.cell (i := 1) rfl
  have e2 := h.hd.cell (i := 2) rfl
  have HN := hide fun (hz : mm = false) => show TabAt w T g cap q p (moveT q p all d t) ∧ Turn g g w w from by rw [HM.out, hz]; exact ⟨h, Turn.refl _ _ _⟩
  cases qi : inB all.length d
  · have HZ := hide (HN.out (by rw [HE.out, qi]; rfl))
    rw [qi] at ht
    clear h HI qi
    go_enter Try.func131, Try.ntmps131
    go_wp2_with ((with_reducible refine (Hid.out ht).mono ?_); rintro e w' ⟨rfl, rfl⟩)
    go_ret
    exact ⟨⟨_, rfl⟩, HZ.out⟩
  obtain ⟨hd0, hd1⟩ := HI.out.1 qi
  rw [qi] at ht HE
  clear HI qi
  by_cases ht0 : t < 0
  · have HZ := hide (HN.out (by rw [HE.out, show decide (0 ≤ t) = false from decide_eq_false (by omega)]; rfl))
    clear h
    go_enter Try.func131, Try.ntmps131
    go_wp2_with ((with_reducible refine (Hid.out ht).mono ?_); rintro e w' ⟨rfl, rfl⟩)
    all_goals try (exfalso; omega)
    go_ret
    exact ⟨⟨_, rfl⟩, HZ.out⟩
  by_cases ht1 : p ≤ t
  · have HZ := hide (HN.out (by rw [HE.out, show decide (t < p) = false from decide_eq_false (by omega)]; simp))
    clear h
    go_enter Try.func131, Try.ntmps131
    go_wp2_with ((with_reducible refine (Hid.out ht).mono ?_); rintro e w' ⟨rfl, rfl⟩)
    all_goals try (exfalso; omega)
    go_ret
    exact ⟨⟨_, rfl⟩, HZ.out⟩
  obtain ⟨j, rfl⟩ : ∃ j : Nat, d = j := ⟨d.toNat, by omega⟩
  have hj : j < all.length := by omega
  obtain ⟨c0, c1⟩ := h.cells hj
  rw [stAt_eq hj, decide_eq_true (show 0 ≤ t by omega), decide_eq_true (show t < p by omega)] at HE
  have HS := hide fun W (hW : Bel w W) => (h.bel hW).set j ⟨t, q⟩
  have f0 := h.free (j * 2)
  have f1 := h.free (j * 2 + 1)
  have hne : g ≠ T := Ne.symm h.ne
  generalize all[j] = s at c0 c1 HE
  obtain ⟨sp, sl⟩ := s
  simp only at c0 c1 HE
  simp only [Int.toNat_natCast] at HM
  clear h
  by_cases hs : 0 < sl
  · have HZ := hide (HN.out (by rw [HE.out, decide_eq_true hs]; rfl))
    clear HM HN HS
    go_enter Try.func131, Try.ntmps131
    go_wp2_with ((with_reducible refine (Hid.out ht).mono ?_); rintro e w' ⟨rfl, rfl⟩)
    all_goals try (exfalso; omega)
    go_ret
    exact ⟨⟨_, rfl⟩, HZ.out⟩
  · have HZ := hide (show moveT q p all j t = all.set j ⟨t, q⟩ by rw [HM.out, HE.out, decide_eq_false hs]; rfl)
    clear HM HN HE
    go_enter Try.func131, Try.ntmps131
    go_wp2_with ((with_reducible refine (Hid.out ht).mono ?_); rintro e w' ⟨rfl, rfl⟩)
    all_goals try (exfalso; omega)
    refine wp_region_held_drew (S := fun w' => w'.cell? ⟨T, 0, none⟩ = some (.int .i64 q) ∧ w'.cell? ⟨T, 2, none⟩ = some (.slice (some ⟨g, 0, none⟩) all.length cap)) (by kernel_rfl) ?_ (fun hHeld => ?_)
    · exact ⟨e0, e2⟩
    refine hT (i := 0) (v := ?_) rfl (by kernel_rfl) (fun _ _ _ h => h) (by rfl) ?_ hHeld ?_
    rotate_left
    · (intro w_ hw_; (try dsimp only at hw_); go_simp; try with_reducible rfl)
    simp only [Act.put, List.setIfInBounds_toArray, List.set_cons_zero, List.set_cons_succ, List.getElem_toArray, List.getElem_cons_zero]
    refine hT (i := 1) (v := ?_) rfl (by kernel_rfl) (fun _ _ _ h => h) (by rfl) ?_ hHeld ?_
    rotate_left
    · (intro w_ hw_; (try dsimp only at hw_); go_simp; try with_reducible rfl)
    simp only [Act.put, List.setIfInBounds_toArray, List.set_cons_zero, List.set_cons_succ, List.getElem_toArray, List.getElem_cons_zero, List.getElem_cons_succ]
    refine hT (i := 2) (v := ?_) rfl (by kernel_rfl) (fun _ _ _ h => h) (by rfl) ?_ hHeld ?_
    rotate_left
    · (intro w_ hw_; (try dsimp only at hw_); go_simp; try with_reducible rfl)
    simp only [Act.put, List.setIfInBounds_toArray, List.set_cons_zero, List.set_cons_succ, List.getElem_toArray, List.getElem_cons_zero, List.getElem_cons_succ]
    refine hT (i := 3) (v := ?_) rfl (by kernel_rfl) (fun _ _ _ h => h) (by rfl) ?_ hHeld ?_
    rotate_left
    · (intro w_ hw_; (try dsimp only at hw_); go_simp; try with_reducible rfl)
    simp only [Act.put, List.setIfInBounds_toArray, List.set_cons_zero, List.set_cons_succ, List.getElem_toArray, List.getElem_cons_zero, List.getElem_cons_succ]
    refine hT (i := 4) (v := ?_) rfl (by kernel_rfl) (fun _ _ _ h => h) (by rfl) ?_ hHeld ?_
    rotate_left
    · (intro w_ hw_; (try dsimp only at hw_); go_simp; try with_reducible rfl)
    simp only [Act.put, List.setIfInBounds_toArray, List.set_cons_zero, List.set_cons_succ, List.getElem_toArray, List.getElem_cons_zero, List.getElem_cons_succ]
    refine hT (i := 5) (v := ?_) rfl (by kernel_rfl) (fun _ _ _ h => h) (by rfl) ?_ hHeld ?_
    rotate_left
    · (intro w_ hw_; (try dsimp only at hw_); go_simp; try with_reducible rfl)
    simp only [Act.put, List.setIfInBounds_toArray, List.set_cons_zero, List.set_cons_succ, List.getElem_toArray, List.getElem_cons_zero, List.getElem_cons_succ]
    refine hT (i := 6) (v := ?_) rfl (by kernel_rfl) (fun _ _ _ h => h) (by rfl) ?_ hHeld ?_
    rotate_left
    · (intro w_ hw_; (try dsimp only at hw_); go_simp; try with_reducible rfl)
    simp only [Act.put, List.setIfInBounds_toArray, List.set_cons_zero, List.set_cons_succ, List.getElem_toArray, List.getElem_cons_zero, List.getElem_cons_succ]
    refine hT (i := 7) (v := ?_) rfl (by kernel_rfl) (fun _ _ _ h => h) (by rfl) ?_ hHeld ?_
    rotate_left
    · (intro w_ hw_; (try dsimp only at hw_); go_simp; try with_reducible rfl)
    simp only [Act.put, List.setIfInBounds_toArray, List.set_cons_zero, List.set_cons_succ, List.getElem_toArray, List.getElem_cons_zero, List.getElem_cons_succ]
    refine hT (i := 8) (v := ?_) rfl (by kernel_rfl) (fun _ _ _ h => h) (by rfl) ?_ hHeld ?_
    rotate_left
    · (intro w_ hw_; (try dsimp only at hw_); go_simp; try with_reducible rfl)
    simp only [Act.put, List.setIfInBounds_toArray, List.set_cons_zero, List.set_cons_succ, List.getElem_toArray, List.getElem_cons_zero, List.getElem_cons_succ]
    refine hT (i := 9) (v := ?_) rfl (by kernel_rfl) (fun _ _ _ h => h) (by rfl) ?_ hHeld ?_
    rotate_left
    · (intro w_ hw_; (try dsimp only at hw_); go_simp; try with_reducible rfl)
    simp only [Act.put, List.setIfInBounds_toArray, List.set_cons_zero, List.set_cons_succ, List.getElem_toArray, List.getElem_cons_zero, List.getElem_cons_succ]
    refine hT (i := 10) (v := ?_) rfl (by kernel_rfl) (fun _ _ _ h => h) (by rfl) ?_ hHeld ?_
    rotate_left
    · (intro w_ hw_; (try dsimp only at hw_); go_simp; try with_reducible rfl)
    simp only [Act.put, List.setIfInBounds_toArray, List.set_cons_zero, List.set_cons_succ, List.getElem_toArray, List.getElem_cons_zero, List.getElem_cons_succ]
    refine hT (i := 11) (v := ?_) rfl (by kernel_rfl) (fun _ _ _ h => h) (by rfl) ?_ hHeld ?_
    rotate_left
    · (intro w_ hw_; (try dsimp only at hw_); go_simp; try with_reducible rfl)
    simp only [Act.put, List.setIfInBounds_toArray, List.set_cons_zero, List.set_cons_succ, List.getElem_toArray, List.getElem_cons_zero, List.getElem_cons_succ]
    refine hE (i := 12) rfl (by kernel_rfl) (by rfl) (fun K hK => ?_)
    go_simp
    refine hK.out _ _ ?_ (fun hHeld => ?_)
    · exact ⟨(cell_far _ hne _ _ _).trans ((cell_far _ hne _ _ _).trans e0), (cell_far _ hne _ _ _).trans ((cell_far _ hne _ _ _).trans e2)⟩
    clear hK K
    refine wpAnyH_done (by kernel_rfl) ?_ _
    clear hHeld
    go_wp2_with fail
    go_ret
    rw [HZ.out]
    exact ⟨⟨_, rfl⟩, (HS.out _ (bel_refl w)).bel (bel_refl _).drew, (((Turn.refl g g w).setg _ _).setg _ _).trans (Bel.turn (bel_refl _).drew)⟩

/-! ### Tick -/
def tickK (all : List St) (k : Nat) : List St := (all.take k).map tick1 ++ all.drop k
theorem tickK_zero (all : List St) : tickK all 0 = all := rfl
theorem tickK_end (all : List St) : tickK all all.length = tickT all := by simp [tickK, tickT]
theorem tickK_length (all : List St) (k : Nat) : (tickK all k).length = all.length := by simp [tickK]; omega
theorem tickK_get {all : List St} {k : Nat} (h : k < all.length) (h' : k < (tickK all k).length) : (tickK all k)[k] = all[k] := by
  have h1 : ((all.take k).map tick1).length = k := by simp; omega
  have h2 : (tickK all k)[k]? = all[k]? := by
    unfold tickK
    rw [List.getElem?_append_right (by omega), h1, Nat.sub_self, List.getElem?_drop, Nat.add_zero]
  rw [List.getElem?_eq_getElem h', List.getElem?_eq_getElem h] at h2
  exact Option.some.inj h2
theorem tickK_succ {all : List St} {k : Nat} (h : k < all.length) : tickK all (k + 1) = (tickK all k).set k (tick1 all[k]) := by
  have h1 : ((all.take k).map tick1).length = k := by simp; omega
  unfold tickK
  rw [List.set_append_right _ _ (by omega), h1, Nat.sub_self, drop_cons h, List.set_cons_zero, List.take_succ_eq_append_getElem h, List.map_append, List.append_assoc]
  rfl

set_option maxRecDepth 20000 in
set_option maxHeartbeats 8000000 in
theorem tabTick (w : World) (T g cap : Nat) (q p : Int) (all : List St) (h : TabAt w T g cap q p all) (hok : ∀ s ∈ all, 0 ≤ s.left ∧ s.left ≤ 8) (hlen : all.length ≤ 4) :
    Calls Try.prog 132 #[.pointer (some ⟨T, 0, none⟩)] w fun e w' => (∃ x : Value, e = .returned x) ∧ TabAt w' T g cap q p (tickT all) ∧ Turn g g w w' := by
  have e2 := h.hd.cell (i := 2) rfl
  have hgl := h.glt
  have hTl := h.hd.lt
  have H0 := hide h
  have Hok := hide hok
  clear h hok
  go_enter Try.func132, Try.ntmps132
  go_wp2_with fail
  clear e2
  go_loopw [3, 12] (fun t3 t12 W => ∃ (k : Nat) (os : List Int), k ≤ all.length ∧ t12 = .int .i64 k ∧ os.length ≤ k ∧ w.heap.size ≤ W.heap.size ∧ Hid (kInt.Own 3 w.heap.size W t3 os) ∧ Hid (TabAt W T g cap q p (tickK all k)) ∧ Hid (Turn g g w W)) (fun _ t _ => all.length - (intOf t).toNat)
  case atStart => exact ⟨0, [], Nat.zero_le _, rfl, Nat.zero_le _, Nat.le_refl _, hide (Kind.Own.nil _ _ _ _), H0, hide (Turn.refl _ _ _)⟩
  case round =>
    obtain ⟨k, os, hk, rfl, hos, hsz, HO, HT, HU⟩ := hrel
    by_cases hlt : k < all.length
    · have hk2 : k < (tickK all k).length := by rw [tickK_length]; exact hlt
      have e2 := HT.out.hd.cell (i := 2) rfl
      rw [tickK_length] at e2
      obtain ⟨c0, c1⟩ := HT.out.cells hk2
      rw [tickK_get hlt hk2] at c0 c1
      have f1 := HT.out.free (k * 2 + 1)
      have hr := Hok.out _ (List.getElem_mem hlt)
      have HS := hide (tickK_succ hlt)
      have HL := hide fun l => (HT.out.setLeft hk2 l)
      rw [tickK_get hlt hk2] at HL
      have hne : g ≠ T := Ne.symm HT.out.ne
      generalize hse : all[k] = s at c0 c1 hr HS HL
      have hse := hide hse
      obtain ⟨sp, sl⟩ := s
      simp only at c0 c1 hr HL
      have hkl : (k : Int) < (all.length : Int) := by omega
      have hex : wr.cell? ⟨T, 2, none⟩ = some (.slice (some ⟨g, 0, none⟩) all.length cap) := e2
      by_cases hs : sl = 0
      · subst hs
        have HZ := hide (show tickK all (k + 1) = tickK all k by
          rw [HS.out]
          have h1 := tickK_get hlt hk2
          refine List.ext_getElem? fun i => ?_
          rw [List.getElem?_set]
          split
          · rename_i hi
            subst hi
            rw [List.getElem?_eq_getElem hk2, h1, hse.out]
            try (first | rfl | (rw [if_pos hk2]; rfl))
          · rfl)
        clear HL hr f1 HS
        go_wp2_with fail
        exact ⟨⟨k + 1, os, by omega, by go_num, by omega, hsz, HO, hide (by rw [HZ.out]; exact HT.out), HU⟩, by simp [intOf]; omega⟩
      · have hw1 : IntKind.i64.wrap (sl - 1) = sl - 1 := IntWalk.i64_in _ (by omega)
        have HT2 := hide (show TabAt (wr.setCell ⟨g, k * 2 + 1, none⟩ (.int .i64 (sl - 1))) T g cap q p (tickK all (k + 1)) by
          rw [HS.out]
          have hb : (sl == 0) = false := by simpa using hs
          simp only [tick1, hb, Bool.false_eq_true, if_false]
          exact HL.out (sl - 1))
        have HU2 := hide (HU.out.setg (k * 2 + 1) (.int .i64 (sl - 1)))
        have e3 : (wr.setCell ⟨g, k * 2 + 1, none⟩ (.int .i64 (sl - 1))).cell? ⟨T, 2, none⟩ = some (.slice (some ⟨g, 0, none⟩) all.length cap) := (cell_far _ hne _ _ _).trans e2
        have HO2 := hide (HO.out.far kInt_pure (grown_set wr ⟨g, k * 2 + 1, none⟩ (.int .i64 (sl - 1))) (fun b hb => by have := (HO.out.block b hb).1; simp; omega))
        by_cases hs1 : sl = 1
        · subst hs1
          clear HL hr HS
          have h10 : (1 : Int) - 1 = 0 := rfl
          rw [h10] at HT2 HU2 e3 HO2
          clear h10
          go_wp2_with (at_builtin; first
            | (refine own_append kInt kInt_one w.heap.size rfl _ _ 38 3 _ 8 rfl Try.underlying38 info_int rfl (by decide) (by decide) u3 os (k : Int) [.int .i64 (k : Int)] (by rfl) (by rw [show (wr.setCell ⟨g, k * 2 + 1, none⟩ (.int .i64 0)).heap.size = wr.heap.size by simp]; rfl) HO2.out (kInt_pure.rob (w := wr) ⟨rfl, by unfold I64; omega⟩ _) (by simpa using hsz) (by omega) ?_
               intro v1 w1 HO3 HB3 hg3 hat3
               clear hg3 hat3))
          exact ⟨⟨k + 1, _, by omega, by go_num, by rw [List.length_append]; simp; omega, by have h1 := HB3.size; simp at h1; omega, hide HO3, hide (HT2.out.keep (HB3.block _ hTl) (HB3.block _ hgl)), hide ⟨HB3.os.trans HU2.out.os, HB3.tape.trans HU2.out.tape, HB3.output.trans HU2.out.output, Nat.le_trans HU2.out.size HB3.size, fun b h1 h2 h3 => (HB3.block b h1).trans (HU2.out.block b h1 h2 h3)⟩⟩, by simp [intOf]; omega⟩
        · have hb1 : ((sl - 1) == 0) = false := by simp; omega
          have hb2 : decide (sl - 1 = 0) = false := decide_eq_false (by omega)
          have hb3 : (sl == 0) = false := by simpa using hs
          have hs2 : ¬ (sl - 1 = 0) := by omega
          clear HL hr HS
          go_wp2_with fail
          exact ⟨⟨k + 1, os, by omega, by go_num, by omega, by simpa using hsz, HO2, HT2, HU2⟩, by simp [intOf]; omega⟩
    · obtain rfl : k = all.length := by omega
      go_wp2_with fail
      go_ret
      exact ⟨⟨_, rfl⟩, by rw [← tickK_end]; exact HT.out, HU.out⟩
end Go.Proofs.Ythjhkbnajclcjaa
