/- Rows that a call makes for itself: what has been appended so far reads as a list; append of one element, of a slice; a row out of make or a literal. -/
import Derived.Test.YthjhkbnajclcjaaBase
import Derived.Maps.AppendAt
import Derived.Deep.AppendLies
import Derived.Laws.OwnMore
namespace Go.Proofs.Ythjhkbnajclcjaa
open Go.RowKit

namespace Kind
variable {α : Type} (d : Kind α)
/-- An element reads so in every later world, whatever becomes of block g. -/
def Rob (w : World) (g : Option Nat) (x : α) (cs : List Value) : Prop := ∀ W : World, w.heap.size ≤ W.heap.size → (∀ k, k < w.heap.size → some k ≠ g → W.heap[k]? = w.heap[k]?) → d.K W x cs
/-- A kind that looks at no memory. -/
def Pure : Prop := ∀ (w w' : World) (x : α) (cs : List Value), d.K w x cs → d.K w' x cs
/-- A row of the call's own that reads as a list. -/
def Own (e : TypeId) (base : Nat) (w : World) (v : Value) (xs : List α) : Prop :=
  ∃ inner : List Value, w.ownsRow base e d.sz v xs.length inner ∧ ∀ (j : Nat) (x : α), xs[j]? = some x → d.Rob w v.ownBlock x ((inner.drop (j * d.sz)).take d.sz)
end Kind

section
variable {α : Type} {d : Kind α} {e : TypeId} {base : Nat} {w w' W : World} {v : Value} {xs : List α} {g : Option Nat} {x : α} {cs : List Value}
theorem Kind.Pure.rob (hp : d.Pure) (h : d.K w x cs) (g : Option Nat) : d.Rob W g x cs := fun _ _ _ => hp _ _ _ _ h
theorem Kind.Rob.k (h : d.Rob w g x cs) : d.K w x cs := h w (Nat.le_refl _) fun _ _ _ => rfl
theorem Kind.Rob.ext (h : d.Rob w g x cs) (hb : Ext w w') : d.Rob w' g x cs := fun W hs hW => h W (Nat.le_trans hb.1 hs) fun k hk hg => (hW k (Nat.lt_of_lt_of_le hk hb.1) hg).trans (hb.2 k hk)
/-- What read so before block g was there. -/
theorem Kind.rob_new (h : d.K w x cs) (hg : ∀ k, g = some k → w.heap.size ≤ k) (hb : Ext w w') : d.Rob w' g x cs := fun W hs hW =>
  d.mono ⟨Nat.le_trans hb.1 hs, fun k hk => (hW k (Nat.lt_of_lt_of_le hk hb.1) (fun e => by have := hg k e.symm; omega)).trans (hb.2 k hk)⟩ h

theorem add_lit (g j : Nat) : (⟨g, 0, none⟩ : Addr).add j = ⟨g, j, none⟩ := by unfold Addr.add; split <;> simp_all
theorem Kind.Own.nil (d : Kind α) (e : TypeId) (base : Nat) (w : World) : d.Own e base w (.slice none 0 0) [] := ⟨[], World.ownsRow_nil w base e d.sz, fun j x h => by simp at h⟩
theorem Kind.Own.sl (h : d.Own e base w v xs) : d.Sl w v xs := by
  obtain ⟨inner, ho, hr⟩ := h
  rcases ho.2 with ⟨rfl, h0⟩ | ⟨g, cap, cur, rfl, hb, hh, hn, hm, hs, ht⟩
  · refine ⟨none, 0, 0, 0, by rw [h0], by omega, by omega, fun h => by omega, fun j x hj => ?_⟩
    rw [List.eq_nil_of_length_eq_zero h0] at hj
    simp at hj
  · refine ⟨_, g, 0, cap, rfl, hn, by unfold maxLen at hm; omega, fun _ => rfl, fun j x hj => ⟨_, (hr j x hj).k, fun i u hi => ?_⟩⟩
    have hc := ho.cells (g := g) rfl (j * d.sz + i) u (by
      rw [List.getElem?_take] at hi
      split at hi
      · rwa [List.getElem?_drop] at hi
      · simp at hi)
    rw [add_lit] at hc
    rw [Nat.zero_add]
    exact hc
theorem Kind.Own.block (h : d.Own e base w v xs) : ∀ k, v.ownBlock = some k → base ≤ k ∧ k < w.heap.size := h.elim fun _ h => h.1.lt
theorem Kind.Own.bel (h : d.Own e base w v xs) (hb : Bel w w') : d.Own e base w' v xs := by
  obtain ⟨inner, ho, hr⟩ := h
  refine ⟨inner, ho.kept (row := none) ⟨hb.os, hb.tape, hb.output, hb.size, fun k hk _ => hb.block k hk⟩ ?_, fun j x hj => (hr j x hj).ext hb.ext⟩
  cases v.ownBlock <;> simp
/-- Another block has been written: the kind looks at no memory. -/
theorem Kind.Own.far (hp : d.Pure) (h : d.Own e base w v xs) {row : Option Nat} (hg : w.grownBy w' row) (hne : ∀ k, v.ownBlock = some k → some k ≠ row) : d.Own e base w' v xs := by
  obtain ⟨inner, ho, hr⟩ := h
  refine ⟨inner, ho.kept hg ?_, fun j x hj => hp.rob (hr j x hj).k _⟩
  cases hv : v.ownBlock with
  | none => exact .inl rfl
  | some k => exact .inr (hne k hv)
theorem Kind.Own.lower {base' : Nat} (h : d.Own e base w v xs) (hb : base' ≤ base) : d.Own e base' w v xs := by
  obtain ⟨inner, ho, hr⟩ := h
  refine ⟨inner, ⟨ho.1, ?_⟩, hr⟩
  rcases ho.2 with h | ⟨g, cap, cur, h1, h2, h3⟩
  · exact .inl h
  · exact .inr ⟨g, cap, cur, h1, by omega, h3⟩
end

/-- The cells of a value that K knows, each of one cell (what a store may lay down). -/
def Kind.One {α : Type} (d : Kind α) : Prop := ∀ (w : World) (x : α) (cs : List Value), d.K w x cs → ∀ u ∈ cs, u.oneCell' = true

section
variable {P : Program} {ops : Array Oper} {rest : List Oper} {o : Oper} {a : Act} {Q : Exit → Act → World → Prop} {α : Type}
theorem rob_moved {d : Kind α} {W w1 : World} {v v1 : Value} {x : α} {cs : List Value} (h : d.Rob W v.ownBlock x cs) (hg : W.grownBy w1 v.ownBlock) (hat : v1.ownBlock = v.ownBlock ∨ ∃ b, v1.ownBlock = some b ∧ W.heap.size ≤ b) : d.Rob w1 v1.ownBlock x cs := fun W' hs hW =>
  h W' (Nat.le_trans hg.size hs) fun k hk hne => by
    refine (hW k (Nat.lt_of_lt_of_le hk hg.size) ?_).trans (hg.block k hk hne)
    rcases hat with hat | ⟨b, hb, hle⟩
    · rw [hat]; exact hne
    · rw [hb]
      intro he
      injection he with he
      omega
theorem own_appended {d : Kind α} {e : TypeId} {base : Nat} {W w1 : World} {v v1 : Value} {xs ys : List α} {inner news : List Value} (hr : ∀ (j : Nat) (x : α), xs[j]? = some x → d.Rob W v.ownBlock x ((inner.drop (j * d.sz)).take d.sz)) (hil : inner.length = xs.length * d.sz)
    (hn : ∀ (j : Nat) (x : α), ys[j]? = some x → d.Rob W v.ownBlock x ((news.drop (j * d.sz)).take d.sz))
    (hown : w1.ownsRow base e d.sz v1 (xs.length + ys.length) (inner ++ news)) (hg : W.grownBy w1 v.ownBlock) (hat : v1.ownBlock = v.ownBlock ∨ ∃ b, v1.ownBlock = some b ∧ W.heap.size ≤ b) : d.Own e base w1 v1 (xs ++ ys) := by
  refine ⟨inner ++ news, by rw [List.length_append]; exact hown, fun j x hj => ?_⟩
  rcases Nat.lt_or_ge j xs.length with hlt | hge
  · rw [List.getElem?_append_left hlt] at hj
    have h1 := rob_moved (hr j x hj) hg hat
    rw [List.drop_append_of_le_length (by rw [hil]; exact Nat.mul_le_mul_right _ (by omega)), List.take_append_of_le_length]
    · exact h1
    · rw [List.length_drop, hil]
      have : j * d.sz + d.sz ≤ xs.length * d.sz := by rw [← Nat.succ_mul]; exact Nat.mul_le_mul_right _ hlt
      omega
  · rw [List.getElem?_append_right hge] at hj
    have h1 := rob_moved (hn _ x hj) hg hat
    have hd : (inner ++ news).drop (j * d.sz) = news.drop ((j - xs.length) * d.sz) := by
      have he : j * d.sz = inner.length + (j - xs.length) * d.sz := by rw [hil, ← Nat.add_mul]; congr 1; omega
      rw [he, List.drop_append]
      simp
    rw [hd]
    exact h1

/-- append(v, x): the goal's world is 'W.alloc' of the box that the translation lays for x; x's cells are cs. -/
theorem own_append (d : Kind α) (hone : d.One) {W : World} (base : Nat) (hgd : o.guard = none) (s x : Operand) (t e : TypeId) (z : Value) (bytes : Nat)
    (ho : o.op = .call { callee := .builtin .append, args := #[s, x], argTypes := #[t, t] })
    (ht : P.underlying t = some (.slice e)) (hinfo : (P.info? e).map (fun i => (i.zero, i.size, i.bytes)) = some (some z, d.sz, bytes)) (hz : z.cells.size = d.sz) (hs0 : 0 < d.sz) (hb0 : 0 < bytes)
    (v : Value) (xs : List α) (y : α) (cs : List Value) (hs : a.eval s = v) (hx : a.eval x = .slice (some ⟨W.heap.size, 0, none⟩) 1 1)
    (HO : d.Own e base W v xs) (hy : d.Rob W v.ownBlock y cs) (hbase : base ≤ W.heap.size) (hl : (xs.length + 1) * bytes ≤ 140737488355328)
    (h : ∀ v1 w1, d.Own e base w1 v1 (xs ++ [y]) → Below base W w1 → W.grownBy w1 v.ownBlock → (v1.ownBlock = v.ownBlock ∨ ∃ b, v1.ownBlock = some b ∧ W.heap.size ≤ b) → wpList P ops Q rest (a.put o.dst v1) w1) :
    wpList P ops Q (o :: rest) a (W.alloc (.cells cs.toArray e)) := by
  obtain ⟨i0, hi, hzz⟩ := Option.map_eq_some_iff.1 hinfo
  simp only [Prod.mk.injEq] at hzz
  obtain ⟨hz0, hz1, hz2⟩ := hzz
  obtain ⟨inner, hown, hr⟩ := HO
  have hlen : xs.length + 1 ≤ 140737488355328 := Nat.le_trans (Nat.le_mul_of_pos_right _ hb0) hl
  have hcl := d.len hy.k
  refine wpList_append_own_at (W.alloc (.cells cs.toArray e)) hgd s x t ho base e i0 z d.sz bytes ht hi hz0 hz1 hz2 hz hs0 v xs.length inner hs (hown.alloc _) ⟨W.heap.size, 0, none⟩ 1 1 cs hx (by omega)
    (by simpa using World.news_of_block (cs := cs.toArray) (t := e) (fr := (0, 0)) (heap_alloc_new W _)) (hone _ _ _ hy.k) (by simp only [maxLen]; omega) hl (by simp; omega) ?_
  intro v1 w1 hown1 hg1 _ hat1
  have hg : W.grownBy w1 v.ownBlock := ⟨hg1.os, hg1.tape, hg1.output, Nat.le_trans (by simp) hg1.size, fun k hk hne => (hg1.block k (by simp; omega) hne).trans (Below.heap_alloc W _ k hk)⟩
  have hat : v1.ownBlock = v.ownBlock ∨ ∃ b, v1.ownBlock = some b ∧ W.heap.size ≤ b := by
    rcases hat1 with h | h
    · exact .inl h
    · exact .inr ⟨_, h, by simp⟩
  refine h v1 w1 (own_appended (ys := [y]) (news := cs) hr (by simpa using hown.1) (fun j x hj => ?_) hown1 hg hat) ((Below.refl base W).grown hg hbase fun k hk => (hown.lt k hk).1) hg hat
  cases j with
  | zero =>
    simp only [List.getElem?_cons_zero, Option.some.injEq] at hj
    subst hj
    rw [Nat.zero_mul, List.drop_zero, ← hcl, List.take_length]
    exact hy
  | succ j => simp at hj
end
end Go.Proofs.Ythjhkbnajclcjaa
