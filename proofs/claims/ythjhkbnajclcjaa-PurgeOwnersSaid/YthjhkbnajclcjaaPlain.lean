/- caissonlaw21.Plain: the config that the statements start from. -/
import Derived.Test.YthjhkbnajclcjaaBlk
set_option linter.unusedSimpArgs false
namespace Go.Proofs.Ythjhkbnajclcjaa
open Go.RowKit

abbrev vi (x : Int) : Value := .int .i64 x
abbrev vs (b n : Nat) : Value := .slice (some ⟨b, 0, none⟩) n n
def plainVal (N : Nat) : Value := .agg #[vi 16, vs (N + 4) 3, vs (N + 7) 2, vi 6, vs (N + 8) 3, vs (N + 9) 1, vi 10, vi 6, vi 2]
/-- The blocks of a config that Plain has made, block N on. -/
structure CfgAt (W : World) (N : Nat) (f0 f1 f2 ps d0 d1 ds ws gs : List Value) : Prop where
  b_f0 : BlkAt W (N + 1) f0 3
  b_f1 : BlkAt W (N + 2) f1 3
  b_f2 : BlkAt W (N + 3) f2 3
  b_ps : BlkAt W (N + 4) ps 40
  b_d0 : BlkAt W (N + 5) d0 3
  b_d1 : BlkAt W (N + 6) d1 3
  b_ds : BlkAt W (N + 7) ds 42
  b_ws : BlkAt W (N + 8) ws 119
  b_gs : BlkAt W (N + 9) gs 44
section
variable {W W' : World} {N : Nat} {f0 f1 f2 ps d0 d1 ds ws gs : List Value}
theorem CfgAt.bel (h : CfgAt W N f0 f1 f2 ps d0 d1 ds ws gs) (hb : Bel W W') : CfgAt W' N f0 f1 f2 ps d0 d1 ds ws gs := ⟨h.b_f0.bel hb, h.b_f1.bel hb, h.b_f2.bel hb, h.b_ps.bel hb, h.b_d0.bel hb, h.b_d1.bel hb, h.b_ds.bel hb, h.b_ws.bel hb, h.b_gs.bel hb⟩
theorem CfgAt.other (h : CfgAt W N f0 f1 f2 ps d0 d1 ds ws gs) (b i : Nat) (v : Value) (hb : b ≤ N ∨ N + 10 ≤ b) : CfgAt (W.setCell ⟨b, i, none⟩ v) N f0 f1 f2 ps d0 d1 ds ws gs := ⟨h.b_f0.other (by dsimp only; omega) v, h.b_f1.other (by dsimp only; omega) v, h.b_f2.other (by dsimp only; omega) v, h.b_ps.other (by dsimp only; omega) v, h.b_d0.other (by dsimp only; omega) v, h.b_d1.other (by dsimp only; omega) v, h.b_ds.other (by dsimp only; omega) v, h.b_ws.other (by dsimp only; omega) v, h.b_gs.other (by dsimp only; omega) v⟩
theorem CfgAt.set_f0 (h : CfgAt W N f0 f1 f2 ps d0 d1 ds ws gs) (i : Nat) (v : Value) : CfgAt (W.setCell ⟨N + 1, i, none⟩ v) N (f0.set i v) f1 f2 ps d0 d1 ds ws gs := ⟨h.b_f0.set i v, h.b_f1.other (by dsimp only; omega) v, h.b_f2.other (by dsimp only; omega) v, h.b_ps.other (by dsimp only; omega) v, h.b_d0.other (by dsimp only; omega) v, h.b_d1.other (by dsimp only; omega) v, h.b_ds.other (by dsimp only; omega) v, h.b_ws.other (by dsimp only; omega) v, h.b_gs.other (by dsimp only; omega) v⟩
theorem CfgAt.set_f1 (h : CfgAt W N f0 f1 f2 ps d0 d1 ds ws gs) (i : Nat) (v : Value) : CfgAt (W.setCell ⟨N + 2, i, none⟩ v) N f0 (f1.set i v) f2 ps d0 d1 ds ws gs := ⟨h.b_f0.other (by dsimp only; omega) v, h.b_f1.set i v, h.b_f2.other (by dsimp only; omega) v, h.b_ps.other (by dsimp only; omega) v, h.b_d0.other (by dsimp only; omega) v, h.b_d1.other (by dsimp only; omega) v, h.b_ds.other (by dsimp only; omega) v, h.b_ws.other (by dsimp only; omega) v, h.b_gs.other (by dsimp only; omega) v⟩
theorem CfgAt.set_f2 (h : CfgAt W N f0 f1 f2 ps d0 d1 ds ws gs) (i : Nat) (v : Value) : CfgAt (W.setCell ⟨N + 3, i, none⟩ v) N f0 f1 (f2.set i v) ps d0 d1 ds ws gs := ⟨h.b_f0.other (by dsimp only; omega) v, h.b_f1.other (by dsimp only; omega) v, h.b_f2.set i v, h.b_ps.other (by dsimp only; omega) v, h.b_d0.other (by dsimp only; omega) v, h.b_d1.other (by dsimp only; omega) v, h.b_ds.other (by dsimp only; omega) v, h.b_ws.other (by dsimp only; omega) v, h.b_gs.other (by dsimp only; omega) v⟩
theorem CfgAt.set_ps (h : CfgAt W N f0 f1 f2 ps d0 d1 ds ws gs) (i : Nat) (v : Value) : CfgAt (W.setCell ⟨N + 4, i, none⟩ v) N f0 f1 f2 (ps.set i v) d0 d1 ds ws gs := ⟨h.b_f0.other (by dsimp only; omega) v, h.b_f1.other (by dsimp only; omega) v, h.b_f2.other (by dsimp only; omega) v, h.b_ps.set i v, h.b_d0.other (by dsimp only; omega) v, h.b_d1.other (by dsimp only; omega) v, h.b_ds.other (by dsimp only; omega) v, h.b_ws.other (by dsimp only; omega) v, h.b_gs.other (by dsimp only; omega) v⟩
theorem CfgAt.set_d0 (h : CfgAt W N f0 f1 f2 ps d0 d1 ds ws gs) (i : Nat) (v : Value) : CfgAt (W.setCell ⟨N + 5, i, none⟩ v) N f0 f1 f2 ps (d0.set i v) d1 ds ws gs := ⟨h.b_f0.other (by dsimp only; omega) v, h.b_f1.other (by dsimp only; omega) v, h.b_f2.other (by dsimp only; omega) v, h.b_ps.other (by dsimp only; omega) v, h.b_d0.set i v, h.b_d1.other (by dsimp only; omega) v, h.b_ds.other (by dsimp only; omega) v, h.b_ws.other (by dsimp only; omega) v, h.b_gs.other (by dsimp only; omega) v⟩
theorem CfgAt.set_d1 (h : CfgAt W N f0 f1 f2 ps d0 d1 ds ws gs) (i : Nat) (v : Value) : CfgAt (W.setCell ⟨N + 6, i, none⟩ v) N f0 f1 f2 ps d0 (d1.set i v) ds ws gs := ⟨h.b_f0.other (by dsimp only; omega) v, h.b_f1.other (by dsimp only; omega) v, h.b_f2.other (by dsimp only; omega) v, h.b_ps.other (by dsimp only; omega) v, h.b_d0.other (by dsimp only; omega) v, h.b_d1.set i v, h.b_ds.other (by dsimp only; omega) v, h.b_ws.other (by dsimp only; omega) v, h.b_gs.other (by dsimp only; omega) v⟩
theorem CfgAt.set_ds (h : CfgAt W N f0 f1 f2 ps d0 d1 ds ws gs) (i : Nat) (v : Value) : CfgAt (W.setCell ⟨N + 7, i, none⟩ v) N f0 f1 f2 ps d0 d1 (ds.set i v) ws gs := ⟨h.b_f0.other (by dsimp only; omega) v, h.b_f1.other (by dsimp only; omega) v, h.b_f2.other (by dsimp only; omega) v, h.b_ps.other (by dsimp only; omega) v, h.b_d0.other (by dsimp only; omega) v, h.b_d1.other (by dsimp only; omega) v, h.b_ds.set i v, h.b_ws.other (by dsimp only; omega) v, h.b_gs.other (by dsimp only; omega) v⟩
theorem CfgAt.set_ws (h : CfgAt W N f0 f1 f2 ps d0 d1 ds ws gs) (i : Nat) (v : Value) : CfgAt (W.setCell ⟨N + 8, i, none⟩ v) N f0 f1 f2 ps d0 d1 ds (ws.set i v) gs := ⟨h.b_f0.other (by dsimp only; omega) v, h.b_f1.other (by dsimp only; omega) v, h.b_f2.other (by dsimp only; omega) v, h.b_ps.other (by dsimp only; omega) v, h.b_d0.other (by dsimp only; omega) v, h.b_d1.other (by dsimp only; omega) v, h.b_ds.other (by dsimp only; omega) v, h.b_ws.set i v, h.b_gs.other (by dsimp only; omega) v⟩
theorem CfgAt.set_gs (h : CfgAt W N f0 f1 f2 ps d0 d1 ds ws gs) (i : Nat) (v : Value) : CfgAt (W.setCell ⟨N + 9, i, none⟩ v) N f0 f1 f2 ps d0 d1 ds ws (gs.set i v) := ⟨h.b_f0.other (by dsimp only; omega) v, h.b_f1.other (by dsimp only; omega) v, h.b_f2.other (by dsimp only; omega) v, h.b_ps.other (by dsimp only; omega) v, h.b_d0.other (by dsimp only; omega) v, h.b_d1.other (by dsimp only; omega) v, h.b_ds.other (by dsimp only; omega) v, h.b_ws.other (by dsimp only; omega) v, h.b_gs.set i v⟩
end
abbrev PlainAt (W : World) (N : Nat) : Prop := CfgAt W N [vi 0, vi 1, vi 2] [vi 3, vi 4] [vi 5, vi 6] [vi 0, vi 0, vs (N + 1) 3, vi 0, vi 4, vi 2, vi 0, vs (N + 2) 2, vi 4, vi 4, vi 1, vi 2, vs (N + 3) 2, vi 8, vi 2] [vi 8, vi 9, vi 10] [vi 11, vi 12] [vi 0, vs (N + 5) 3, vi 2, vs (N + 6) 2] [vi 0, vi 0, vi 2, vi 1, vi 1, vi 2, vi 2, vi 2, vi 2, vi 4, vi 2, vi 5] [vi 2, vi 2, .bool false]

theorem heap_alloc_get (w : World) (o : Obj) (k : Nat) : (w.alloc o).heap[k]? = if k = w.heap.size then some o else w.heap[k]? := by
  show (w.heap.push o)[k]? = _
  rw [Array.getElem?_push]
theorem size_alloc (w : World) (o : Obj) : (w.alloc o).heap.size = w.heap.size + 1 := by show (w.heap.push o).size = _; simp
theorem ne_add (n a b : Nat) (h : a ≠ b) : (n + a = n + b) = False := by simp [h]
theorem ne_add0 (n b : Nat) (h : 0 ≠ b) : (n = n + b) = False := by simp; omega
theorem info_Config : (Try.prog.info? 27).map (·.size) = some 9 := by kernel_rfl
set_option maxHeartbeats 4000000 in
theorem plain_calls (w : World) : Calls Try.prog 30 #[] w fun e w' => e = .returned (plainVal w.heap.size) ∧ Bel w w' ∧ PlainAt w' w.heap.size := by
  go_enter Try.func30, Try.ntmps30
  go_wp2
  refine bodyPost_ret (v := plainVal w.heap.size) ?_ rfl ?_
  · exact results_cell_row rfl _ _ w.heap.size 27 #[vi 16, vs (w.heap.size + 4) 3, vs (w.heap.size + 7) 2, vi 6, vs (w.heap.size + 8) 3, vs (w.heap.size + 9) 1, vi 10, vi 6, vi 2] (0, 0) _ rfl (by simp only [heap_alloc_get, size_alloc, Nat.add_assoc, Nat.reduceAdd, Nat.add_left_cancel_iff, Nat.reduceEqDiff, Nat.left_eq_add, Nat.add_eq_left, Nat.add_right_cancel_iff, Nat.one_ne_zero, if_true, if_false, reduceIte]) Try.underlying27 rfl info_Config
  refine ⟨rfl, by repeat (first | exact bel_refl _ | refine Bel.alloc ?_ _), ?_, ?_, ?_, ?_, ?_, ?_, ?_, ?_, ?_⟩
  all_goals (unfold BlkAt; simp only [heap_alloc_get, size_alloc, Nat.add_assoc, Nat.reduceAdd, Nat.add_left_cancel_iff, Nat.reduceEqDiff, Nat.left_eq_add, Nat.add_eq_left, Nat.add_right_cancel_iff, Nat.one_ne_zero, if_true, if_false, reduceIte])

/-- .. in the walk's own spelling. -/
theorem plain_calls' (w : World) : Calls Try.prog 30 #[] w fun e w' => e = .returned (.agg #[.int .i64 16, .slice (some ⟨w.heap.size + 4, 0, none⟩) 3 3, .slice (some ⟨w.heap.size + 7, 0, none⟩) 2 2, .int .i64 6, .slice (some ⟨w.heap.size + 8, 0, none⟩) 3 3, .slice (some ⟨w.heap.size + 9, 0, none⟩) 1 1, .int .i64 10, .int .i64 6, .int .i64 2]) ∧ Hid (Bel w w') ∧ Hid (PlainAt w' w.heap.size) ∧ w.heap.size + 10 ≤ w'.heap.size :=
  (plain_calls w).mono fun _ _ ⟨h1, h2, h3⟩ => ⟨h1, hide h2, hide h3, Nat.succ_le_of_lt h3.b_gs.lt⟩

/-! ### reading it -/
section
variable {W : World} {b : Nat} {t : TypeId}
def PartOk (p : Part) : Prop := I64 p.label.level ∧ I64 p.label.cats ∧ I64 p.first ∧ I64 p.count
abbrev partV (p : Part) (v : Value) : List Value := [vi p.label.level, vi p.label.cats, v, vi p.first, vi p.count]
theorem parts3 (p0 p1 p2 : Part) (v0 v1 v2 : Value) (h : BlkAt W b (partV p0 v0 ++ (partV p1 v1 ++ partV p2 v2)) t) (s0 : kInt.Sl W v0 p0.frames) (s1 : kInt.Sl W v1 p1.frames) (s2 : kInt.Sl W v2 p2.frames) (o0 : PartOk p0) (o1 : PartOk p1) (o2 : PartOk p2) : kPart.Sl W (vs b 3) [p0, p1, p2] :=
  Kind.Sl.of_blk kPart [partV p0 v0, partV p1 v1, partV p2 v2] (.cons ⟨_, rfl, s0, o0⟩ (.cons ⟨_, rfl, s1, o1⟩ (.cons ⟨_, rfl, s2, o2⟩ .nil))) h 3 3 rfl (by omega) (by omega)
theorem devices2 (d0 d1 : Device) (v0 v1 : Value) (h : BlkAt W b [vi d0.part, v0, vi d1.part, v1] t) (s0 : kInt.Sl W v0 d0.pool) (s1 : kInt.Sl W v1 d1.pool) (o0 : I64 d0.part) (o1 : I64 d1.part) : kDevice.Sl W (vs b 2) [d0, d1] :=
  Kind.Sl.of_blk kDevice [[vi d0.part, v0], [vi d1.part, v1]] (.cons ⟨_, rfl, s0, o0⟩ (.cons ⟨_, rfl, s1, o1⟩ .nil)) h 2 2 rfl (by omega) (by omega)
abbrev winV (x : Window) : List Value := [vi x.part, vi x.start, vi x.len, vi x.deliver]
theorem windows3 (w0 w1 w2 : Window) (h : BlkAt W b (winV w0 ++ (winV w1 ++ winV w2)) t) (o0 : I64 w0.part ∧ I64 w0.start ∧ I64 w0.len ∧ I64 w0.deliver) (o1 : I64 w1.part ∧ I64 w1.start ∧ I64 w1.len ∧ I64 w1.deliver) (o2 : I64 w2.part ∧ I64 w2.start ∧ I64 w2.len ∧ I64 w2.deliver) : kWindow.Sl W (vs b 3) [w0, w1, w2] :=
  Kind.Sl.of_blk kWindow [winV w0, winV w1, winV w2] (.cons ⟨rfl, o0⟩ (.cons ⟨rfl, o1⟩ (.cons ⟨rfl, o2⟩ .nil))) h 3 3 rfl (by omega) (by omega)
theorem grants1 (g : Grant) (h : BlkAt W b [vi g.frame, vi g.to, .bool g.write] t) (o1 : I64 g.frame) (o2 : I64 g.to) : kGrant.Sl W (vs b 1) [g] :=
  Kind.Sl.of_blk kGrant [[vi g.frame, vi g.to, .bool g.write]] (.cons ⟨rfl, o1, o2⟩ .nil) h 1 1 rfl (by omega) (by omega)
end

def P0 : Part := ⟨⟨0, 0⟩, [0, 1, 2], 0, 4⟩
def P1 : Part := ⟨⟨2, 0⟩, [3, 4], 4, 4⟩
def P2 : Part := ⟨⟨1, 2⟩, [5, 6], 8, 2⟩
def W3 : List Window := [⟨0, 0, 2, 1⟩, ⟨1, 2, 2, 2⟩, ⟨2, 4, 2, 5⟩]
def plainCfg : Config := ⟨16, [P0, P1, P2], [⟨0, [8, 9, 10]⟩, ⟨2, [11, 12]⟩], 6, W3, [⟨2, 2, false⟩], 10, 6, 2⟩
section
variable {W : World} {N : Nat} {f0 f1 f2 ps d0 d1 ds ws gs : List Value}
theorem CfgAt.parts (h : CfgAt W N [vi 0, vi 1, vi 2] [vi 3, vi 4] [vi 5, vi 6] [vi 0, vi 0, vs (N + 1) 3, vi 0, vi 4, vi 2, vi 0, vs (N + 2) 2, vi 4, vi 4, vi 1, vi 2, vs (N + 3) 2, vi 8, vi 2] d0 d1 ds ws gs) : kPart.Sl W (vs (N + 4) 3) [P0, P1, P2] :=
  parts3 P0 P1 P2 _ _ _ h.b_ps (ints_of_blk [0, 1, 2] (by decide) h.b_f0 3 3 rfl (by omega) (by omega)) (ints_of_blk [3, 4] (by decide) h.b_f1 2 2 rfl (by omega) (by omega)) (ints_of_blk [5, 6] (by decide) h.b_f2 2 2 rfl (by omega) (by omega)) (by unfold PartOk; decide) (by unfold PartOk; decide) (by unfold PartOk; decide)
theorem CfgAt.devices (h : CfgAt W N f0 f1 f2 ps [vi 8, vi 9, vi 10] [vi 11, vi 12] [vi 0, vs (N + 5) 3, vi 2, vs (N + 6) 2] ws gs) : kDevice.Sl W (vs (N + 7) 2) [⟨0, [8, 9, 10]⟩, ⟨2, [11, 12]⟩] :=
  devices2 ⟨0, [8, 9, 10]⟩ ⟨2, [11, 12]⟩ _ _ h.b_ds (ints_of_blk [8, 9, 10] (by decide) h.b_d0 3 3 rfl (by omega) (by omega)) (ints_of_blk [11, 12] (by decide) h.b_d1 2 2 rfl (by omega) (by omega)) (by decide) (by decide)
theorem CfgAt.windows (h : CfgAt W N f0 f1 f2 ps d0 d1 ds [vi 0, vi 0, vi 2, vi 1, vi 1, vi 2, vi 2, vi 2, vi 2, vi 4, vi 2, vi 5] gs) : kWindow.Sl W (vs (N + 8) 3) W3 :=
  windows3 ⟨0, 0, 2, 1⟩ ⟨1, 2, 2, 2⟩ ⟨2, 4, 2, 5⟩ h.b_ws (by decide) (by decide) (by decide)
theorem CfgAt.grants (g : Grant) (h : CfgAt W N f0 f1 f2 ps d0 d1 ds ws [vi g.frame, vi g.to, .bool g.write]) (o1 : I64 g.frame) (o2 : I64 g.to) : kGrant.Sl W (vs (N + 9) 1) [g] := grants1 g h.b_gs o1 o2
end
theorem PlainAt.k {W : World} {N : Nat} (h : PlainAt W N) : CfgV W (plainVal N) plainCfg :=
  ⟨_, rfl, _, _, _, _, rfl, h.parts, h.devices, h.windows, h.grants ⟨2, 2, false⟩ (by decide) (by decide), by decide, by decide, by decide, by decide, by decide⟩
end Go.Proofs.Ythjhkbnajclcjaa
