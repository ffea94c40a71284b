/- Rows whose reading hangs on the blocks from a place on alone: what a copy makes. -/
import Derived.Test.YthjhkbnajclcjaaApp
import Derived.Test.YthjhkbnajclcjaaCfg
import Derived.Test.YthjhkbnajclcjaaAddr
namespace Go.Proofs.Ythjhkbnajclcjaa
open Go.RowKit

namespace Kind
variable {α : Type} (d : Kind α)
/-- An element reads so in every world that has the blocks from base on, whatever becomes of block g. -/
def RobS (base : Nat) (w : World) (g : Option Nat) (x : α) (cs : List Value) : Prop := ∀ W : World, (∀ k, base ≤ k → k < w.heap.size → some k ≠ g → W.heap[k]? = w.heap[k]?) → d.K W x cs
def OwnS (e : TypeId) (base : Nat) (w : World) (v : Value) (xs : List α) : Prop :=
  ∃ inner : List Value, w.ownsRow base e d.sz v xs.length inner ∧ ∀ (j : Nat) (x : α), xs[j]? = some x → d.RobS base w v.ownBlock x ((inner.drop (j * d.sz)).take d.sz)
/-- A slice reads so in every world that has the blocks from base on. -/
def Seg (base : Nat) (w : World) (v : Value) (xs : List α) : Prop := ∀ W : World, (∀ k, base ≤ k → k < w.heap.size → W.heap[k]? = w.heap[k]?) → d.Sl W v xs
end Kind
section
variable {α : Type} {d : Kind α} {e : TypeId} {base base' : Nat} {w w' W : World} {v : Value} {xs : List α} {g : Option Nat} {x : α} {cs : List Value}
theorem Kind.Pure.robS (hp : d.Pure) (h : d.K w x cs) (g : Option Nat) : d.RobS base W g x cs := fun _ _ => hp _ _ _ _ h
theorem Kind.RobS.k (h : d.RobS base w g x cs) : d.K w x cs := h w fun _ _ _ _ => rfl
theorem Kind.OwnS.nil (d : Kind α) (e : TypeId) (base : Nat) (w : World) : d.OwnS e base w (.slice none 0 0) [] := ⟨[], World.ownsRow_nil w base e d.sz, fun j x h => by simp at h⟩
theorem Kind.Own.s (hp : d.Pure) (h : d.Own e base w v xs) : d.OwnS e base w v xs := let ⟨inner, h1, h2⟩ := h; ⟨inner, h1, fun j x hj => hp.robS (h2 j x hj).k _⟩
theorem own_block_lt {cur : Array Value} {q : Nat} {fr : Nat × Nat} (h : w.heap[q]? = some (.cells cur e fr)) : q < w.heap.size := (Array.getElem?_eq_some_iff.1 h).1
theorem Kind.OwnS.seg (h : d.OwnS e base w v xs) : d.Seg base w v xs := fun W hW => by
  obtain ⟨inner, ho, hr⟩ := h
  rcases ho.2 with ⟨rfl, h0⟩ | ⟨g, cap, cur, rfl, hb, hh, hn, hm, hs, ht⟩
  · refine ⟨none, 0, 0, 0, by rw [h0], by omega, by omega, fun h => by omega, fun j x hj => ?_⟩
    rw [List.eq_nil_of_length_eq_zero h0] at hj
    simp at hj
  · refine ⟨_, g, 0, cap, rfl, hn, by unfold maxLen at hm; omega, fun _ => rfl, fun j x hj => ⟨_, hr j x hj W (fun k h1 h2 _ => hW k h1 h2), fun i u hi => ?_⟩⟩
    have hc := ho.cells (g := g) rfl (j * d.sz + i) u (by
      rw [List.getElem?_take] at hi
      split at hi
      · rwa [List.getElem?_drop] at hi
      · simp at hi)
    rw [add_lit] at hc
    rw [Nat.zero_add]
    exact (World.cell?_of_block (w := w) (hW g hb (own_block_lt hh))).trans hc
theorem Kind.OwnS.block (h : d.OwnS e base w v xs) : ∀ k, v.ownBlock = some k → base ≤ k ∧ k < w.heap.size := h.elim fun _ h => h.1.lt
/-- The blocks from base on are as they were. -/
theorem Kind.OwnS.keep (h : d.OwnS e base w v xs) (hs : w.heap.size ≤ w'.heap.size) (hk : ∀ k, base ≤ k → k < w.heap.size → w'.heap[k]? = w.heap[k]?) : d.OwnS e base w' v xs := by
  obtain ⟨inner, ho, hr⟩ := h
  refine ⟨inner, ⟨ho.1, ?_⟩, fun j x hj W hW => hr j x hj W fun k h1 h2 h3 => (hW k h1 (Nat.lt_of_lt_of_le h2 hs) h3).trans (hk k h1 h2)⟩
  rcases ho.2 with h | ⟨g, cap, cur, h1, h2, h3, h4⟩
  · exact .inl h
  · exact .inr ⟨g, cap, cur, h1, h2, (hk g h2 (own_block_lt h3)).trans h3, h4⟩
theorem Kind.OwnS.bel (h : d.OwnS e base w v xs) (hb : Bel w w') : d.OwnS e base w' v xs := h.keep hb.size fun k _ hk => hb.block k hk
theorem Kind.Seg.sl (h : d.Seg base w v xs) : d.Sl w v xs := h w fun _ _ _ => rfl
theorem Kind.Seg.mono (h : d.Seg base w v xs) (hs : w.heap.size ≤ w'.heap.size) (hk : ∀ k, base ≤ k → k < w.heap.size → w'.heap[k]? = w.heap[k]?) : d.Seg base w' v xs := fun W hW =>
  h W fun k h1 h2 => (hW k h1 (Nat.lt_of_lt_of_le h2 hs)).trans (hk k h1 h2)
theorem Kind.Seg.bel (h : d.Seg base w v xs) (hb : Bel w w') : d.Seg base w' v xs := h.mono hb.size fun k _ hk => hb.block k hk
theorem Kind.Seg.lower (h : d.Seg base w v xs) (hb : base' ≤ base) : d.Seg base' w v xs := fun W hW => h W fun k h1 h2 => hW k (Nat.le_trans hb h1) h2
/-- []T{} -/
theorem own_empty (d : Kind α) (e : TypeId) (base : Nat) (W : World) (hb : base ≤ W.heap.size) : d.Own e base (W.alloc (.cells #[] e)) (.slice (some ⟨W.heap.size, 0, none⟩) 0 0) [] :=
  ⟨[], ⟨by simp, .inr ⟨W.heap.size, 0, #[], rfl, hb, heap_alloc_new W _, Nat.le_refl _, by simp [maxLen], by simp, by simp⟩⟩, fun j x h => by simp at h⟩
end
section
variable {P : Program} {ops : Array Oper} {rest : List Oper} {o : Oper} {a : Act} {Q : Exit → Act → World → Prop} {α : Type}
theorem robS_moved {d : Kind α} {base : Nat} {W w1 : World} {v v1 : Value} {x : α} {cs : List Value} (h : d.RobS base W v.ownBlock x cs) (hg : W.grownBy w1 v.ownBlock) (hat : v1.ownBlock = v.ownBlock ∨ ∃ b, v1.ownBlock = some b ∧ W.heap.size ≤ b) : d.RobS base w1 v1.ownBlock x cs := fun W' hW =>
  h W' fun k hb hk hne => by
    refine (hW k hb (Nat.lt_of_lt_of_le hk hg.size) ?_).trans (hg.block k hk hne)
    rcases hat with hat | ⟨b, hb, hle⟩
    · rw [hat]; exact hne
    · rw [hb]
      intro he
      injection he with he
      omega
theorem ownS_appended {d : Kind α} {e : TypeId} {base : Nat} {W w1 : World} {v v1 : Value} {xs ys : List α} {inner news : List Value} (hr : ∀ (j : Nat) (x : α), xs[j]? = some x → d.RobS base W v.ownBlock x ((inner.drop (j * d.sz)).take d.sz)) (hil : inner.length = xs.length * d.sz)
    (hn : ∀ (j : Nat) (x : α), ys[j]? = some x → d.RobS base W v.ownBlock x ((news.drop (j * d.sz)).take d.sz))
    (hown : w1.ownsRow base e d.sz v1 (xs.length + ys.length) (inner ++ news)) (hg : W.grownBy w1 v.ownBlock) (hat : v1.ownBlock = v.ownBlock ∨ ∃ b, v1.ownBlock = some b ∧ W.heap.size ≤ b) : d.OwnS e base w1 v1 (xs ++ ys) := by
  refine ⟨inner ++ news, by rw [List.length_append]; exact hown, fun j x hj => ?_⟩
  rcases Nat.lt_or_ge j xs.length with hlt | hge
  · rw [List.getElem?_append_left hlt] at hj
    have h1 := robS_moved (hr j x hj) hg hat
    rw [List.drop_append_of_le_length (by rw [hil]; exact Nat.mul_le_mul_right _ (by omega)), List.take_append_of_le_length]
    · exact h1
    · rw [List.length_drop, hil]
      have : j * d.sz + d.sz ≤ xs.length * d.sz := by rw [← Nat.succ_mul]; exact Nat.mul_le_mul_right _ hlt
      omega
  · rw [List.getElem?_append_right hge] at hj
    have h1 := robS_moved (hn _ x hj) hg hat
    have hd : (inner ++ news).drop (j * d.sz) = news.drop ((j - xs.length) * d.sz) := by
      have he : j * d.sz = inner.length + (j - xs.length) * d.sz := by rw [hil, ← Nat.add_mul]; congr 1; omega
      rw [he, List.drop_append]
      simp
    rw [hd]
    exact h1
/-- append(v, x): as own_append, for elements that hang on blocks from base on. -/
theorem own_appendS (d : Kind α) (hone : d.One) {W : World} (base : Nat) (hgd : o.guard = none) (s x : Operand) (t e : TypeId) (z : Value) (bytes : Nat)
    (ho : o.op = .call { callee := .builtin .append, args := #[s, x], argTypes := #[t, t] })
    (ht : P.underlying t = some (.slice e)) (hinfo : (P.info? e).map (fun i => (i.zero, i.size, i.bytes)) = some (some z, d.sz, bytes)) (hz : z.cells.size = d.sz) (hs0 : 0 < d.sz) (hb0 : 0 < bytes)
    (v : Value) (xs : List α) (y : α) (cs : List Value) (hs : a.eval s = v) (hx : a.eval x = .slice (some ⟨W.heap.size, 0, none⟩) 1 1)
    (HO : d.OwnS e base W v xs) (hy : d.RobS base W v.ownBlock y cs) (hbase : base ≤ W.heap.size) (hl : (xs.length + 1) * bytes ≤ 140737488355328)
    (h : ∀ v1 w1, d.OwnS e base w1 v1 (xs ++ [y]) → Below base W w1 → W.grownBy w1 v.ownBlock → (v1.ownBlock = v.ownBlock ∨ ∃ b, v1.ownBlock = some b ∧ W.heap.size ≤ b) → wpList P ops Q rest (a.put o.dst v1) w1) :
    wpList P ops Q (o :: rest) a (W.alloc (.cells cs.toArray e)) := by
  obtain ⟨i0, hi, hzz⟩ := Option.map_eq_some_iff.1 hinfo
  simp only [Prod.mk.injEq] at hzz
  obtain ⟨hz0, hz1, hz2⟩ := hzz
  obtain ⟨inner, hown, hr⟩ := HO
  have hlen : xs.length + 1 ≤ 140737488355328 := Nat.le_trans (Nat.le_mul_of_pos_right _ hb0) hl
  have hcl := d.len hy.k
  refine wpList_append_own_at (W.alloc (.cells cs.toArray e)) hgd s x t ho base e i0 z d.sz bytes ht hi hz0 hz1 hz2 hz hs0 v xs.length inner hs (hown.alloc _) ⟨W.heap.size, 0, none⟩ 1 1 cs hx (by omega)
    (by simpa using World.news_of_block (cs := cs.toArray) (t := e) (fr := (0, 0)) (heap_alloc_new W _)) (hone _ _ _ hy.k) (by simp only [maxLen]; omega) hl (by simp; omega) ?_
  intro v1 w1 hown1 hg1 _ hat1
  have hg : W.grownBy w1 v.ownBlock := ⟨hg1.os, hg1.tape, hg1.output, Nat.le_trans (by simp) hg1.size, fun k hk hne => (hg1.block k (by simp; omega) hne).trans (Below.heap_alloc W _ k hk)⟩
  have hat : v1.ownBlock = v.ownBlock ∨ ∃ b, v1.ownBlock = some b ∧ W.heap.size ≤ b := by
    rcases hat1 with h | h
    · exact .inl h
    · exact .inr ⟨_, h, by simp⟩
  refine h v1 w1 (ownS_appended (ys := [y]) (news := cs) hr (by simpa using hown.1) (fun j x hj => ?_) hown1 hg hat) ((Below.refl base W).grown hg hbase fun k hk => (hown.lt k hk).1) hg hat
  cases j with
  | zero =>
    simp only [List.getElem?_cons_zero, Option.some.injEq] at hj
    subst hj
    rw [Nat.zero_mul, List.drop_zero, ← hcl, List.take_length]
    exact hy
  | succ j => simp at hj
end

/-! ### the kinds -/
theorem kPart_one : kPart.One := fun _ _ _ h u hu => by
  obtain ⟨v, rfl, hs, -⟩ := h
  obtain ⟨A, b, o, c, rfl, -⟩ := hs
  simp at hu
  rcases hu with rfl | rfl | rfl | rfl | rfl <;> rfl
theorem kDevice_one : kDevice.One := fun _ _ _ h u hu => by
  obtain ⟨v, rfl, hs, -⟩ := h
  obtain ⟨A, b, o, c, rfl, -⟩ := hs
  simp at hu
  rcases hu with rfl | rfl <;> rfl
theorem kWindow_pure : kWindow.Pure := fun _ _ _ _ h => h
theorem kWindow_one : kWindow.One := fun _ _ _ h u hu => by
  rw [h.1] at hu
  simp at hu
  rcases hu with rfl | rfl | rfl | rfl <;> rfl
theorem kGrant_pure : kGrant.Pure := fun _ _ _ _ h => h
theorem kGrant_one : kGrant.One := fun _ _ _ h u hu => by
  rw [h.1] at hu
  simp at hu
  rcases hu with rfl | rfl | rfl <;> rfl
theorem info_Part : (Try.prog.info? 40).map (fun i => (i.zero, i.size, i.bytes)) = some (some (.agg #[.int .i64 0, .int .i64 0, .slice none 0 0, .int .i64 0, .int .i64 0]), 5, 56) := by kernel_rfl
theorem info_Device : (Try.prog.info? 42).map (fun i => (i.zero, i.size, i.bytes)) = some (some (.agg #[.int .i64 0, .slice none 0 0]), 2, 32) := by kernel_rfl
theorem info_Window : (Try.prog.info? 119).map (fun i => (i.zero, i.size, i.bytes)) = some (some (.agg #[.int .i64 0, .int .i64 0, .int .i64 0, .int .i64 0]), 4, 32) := by kernel_rfl
theorem info_Grant : (Try.prog.info? 44).map (fun i => (i.zero, i.size, i.bytes)) = some (some (.agg #[.int .i64 0, .int .i64 0, .bool false]), 3, 24) := by kernel_rfl
theorem part_robS {base lo : Nat} {W : World} {g : Option Nat} {vf : Value} (p : Part) (hf : kInt.Seg lo W vf p.frames) (hb : base ≤ lo) (hg : ∀ q, g = some q → q < lo ∨ W.heap.size ≤ q) (h1 : I64 p.label.level) (h2 : I64 p.label.cats) (h3 : I64 p.first) (h4 : I64 p.count) :
    kPart.RobS base W g p [.int .i64 p.label.level, .int .i64 p.label.cats, vf, .int .i64 p.first, .int .i64 p.count] := fun W' hW =>
  ⟨vf, rfl, hf W' fun k hk1 hk2 => hW k (Nat.le_trans hb hk1) hk2 fun e => by rcases hg k e.symm with h | h <;> omega, h1, h2, h3, h4⟩
theorem device_robS {base lo : Nat} {W : World} {g : Option Nat} {vf : Value} (p : Device) (hf : kInt.Seg lo W vf p.pool) (hb : base ≤ lo) (hg : ∀ q, g = some q → q < lo ∨ W.heap.size ≤ q) (h1 : I64 p.part) :
    kDevice.RobS base W g p [.int .i64 p.part, vf] := fun W' hW =>
  ⟨vf, rfl, hf W' fun k hk1 hk2 => hW k (Nat.le_trans hb hk1) hk2 fun e => by rcases hg k e.symm with h | h <;> omega, h1⟩
end Go.Proofs.Ythjhkbnajclcjaa
