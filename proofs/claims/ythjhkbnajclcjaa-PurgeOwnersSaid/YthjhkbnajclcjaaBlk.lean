/- Whole blocks: what a block holds, cell by cell, written and read; a slice over a whole block reads as a list. caissonlaw21.Plain. -/
import Derived.Test.YthjhkbnajclcjaaWithin
namespace Go.Proofs.Ythjhkbnajclcjaa
open Go.RowKit

/-- Block b holds these cells, of element type t. -/
def BlkAt (W : World) (b : Nat) (l : List Value) (t : TypeId) : Prop := W.heap[b]? = some (.cells l.toArray t (0, 0))
theorem BlkAt.rowIs {W : World} {b : Nat} {l : List Value} {t : TypeId} (h : BlkAt W b l t) : W.rowIs b t l.length fun i => l[i]?.getD default := by
  refine ⟨l.toArray, h, by simp, fun i hi => ?_⟩
  simp [List.getElem?_eq_getElem hi]
theorem BlkAt.cell {W : World} {b : Nat} {l : List Value} {t : TypeId} (h : BlkAt W b l t) {i : Nat} {u : Value} (hu : l[i]? = some u) : W.cell? ⟨b, i, none⟩ = some u := by
  have hi : i < l.length := (List.getElem?_eq_some_iff.1 hu).1
  rw [h.rowIs.cell hi, hu]
  rfl
theorem BlkAt.free {W : World} {b : Nat} {l : List Value} {t : TypeId} (h : BlkAt W b l t) (i : Nat) : W.frozen? ⟨b, i, none⟩ = false := h.rowIs.frozen i
theorem BlkAt.lt {W : World} {b : Nat} {l : List Value} {t : TypeId} (h : BlkAt W b l t) : b < W.heap.size := h.rowIs.lt
theorem BlkAt.bel {W W' : World} {b : Nat} {l : List Value} {t : TypeId} (h : BlkAt W b l t) (hb : Bel W W') : BlkAt W' b l t := (hb.block b h.lt).trans h
theorem BlkAt.other {W : World} {b : Nat} {l : List Value} {t : TypeId} (h : BlkAt W b l t) {p : Addr} (hp : b ≠ p.block) (v : Value) : BlkAt (W.setCell p v) b l t := (Below.heap_setCell W p v b hp).trans h
theorem BlkAt.set {W : World} {b : Nat} {l : List Value} {t : TypeId} (h : BlkAt W b l t) (i : Nat) (v : Value) : BlkAt (W.setCell ⟨b, i, none⟩ v) b (l.set i v) t := by
  have hlt := h.lt
  unfold BlkAt at *
  obtain ⟨hlt', he⟩ := Array.getElem?_eq_some_iff.1 h
  simp [World.setCell, hlt, Array.getElem_modify, he]
theorem blk_new (W : World) (l : List Value) (t : TypeId) : BlkAt (W.alloc (.cells l.toArray t)) W.heap.size l t := heap_alloc_new W _

inductive All2 {α β : Type} (R : α → β → Prop) : List α → List β → Prop
  | nil : All2 R [] []
  | cons {a : α} {b : β} {l₁ : List α} {l₂ : List β} : R a b → All2 R l₁ l₂ → All2 R (a :: l₁) (b :: l₂)
theorem flatten_get {α β : Type} {R : α → List β → Prop} {k : Nat} (hk : ∀ x cs, R x cs → cs.length = k) : ∀ {xs : List α} {css : List (List β)}, All2 R xs css → ∀ (j : Nat) (x : α), xs[j]? = some x → ∃ cs, R x cs ∧ ∀ i u, cs[i]? = some u → css.flatten[j * k + i]? = some u
  | _, _, .nil, j, x, h => by simp at h
  | _, _, .cons (a := a) (b := cs) (l₁ := xs) (l₂ := css) h hs, 0, x, hx => by
    simp only [List.getElem?_cons_zero, Option.some.injEq] at hx
    subst hx
    refine ⟨cs, h, fun i u hu => ?_⟩
    have hi : i < cs.length := (List.getElem?_eq_some_iff.1 hu).1
    rw [List.flatten_cons, List.getElem?_append_left (by omega), Nat.zero_mul, Nat.zero_add]
    exact hu
  | _, _, .cons (a := a) (b := cs) (l₁ := xs) (l₂ := css) h hs, j + 1, x, hx => by
    rw [List.getElem?_cons_succ] at hx
    obtain ⟨cs', h1, h2⟩ := flatten_get hk hs j x hx
    refine ⟨cs', h1, fun i u hu => ?_⟩
    rw [List.flatten_cons, List.getElem?_append_right (by rw [hk _ _ h, Nat.succ_mul]; omega), hk _ _ h]
    rw [show (j + 1) * k + i - k = j * k + i by rw [Nat.succ_mul]; omega]
    exact h2 i u hu

/-- A slice over a whole block. -/
theorem Kind.Sl.of_blk {α : Type} (d : Kind α) {W : World} {b : Nat} {t : TypeId} {xs : List α} (css : List (List Value)) (h : All2 (d.K W) xs css) (hb : BlkAt W b css.flatten t) (n c : Nat) (hn : n = xs.length) (hc : n ≤ c) (hc2 : c ≤ 9223372036854775807) :
    d.Sl W (.slice (some ⟨b, 0, none⟩) n c) xs := by
  subst hn
  refine ⟨_, b, 0, c, rfl, hc, hc2, fun _ => rfl, fun j x hj => ?_⟩
  obtain ⟨cs, h1, h2⟩ := flatten_get (fun x cs h => d.len h) h j x hj
  exact ⟨cs, h1, fun i u hu => hb.cell (by rw [Nat.zero_add]; exact h2 i u hu)⟩
theorem ints_of_blk {W : World} {b : Nat} {t : TypeId} (xs : List Int) (hx : ∀ x ∈ xs, I64 x) (hb : BlkAt W b (xs.map fun x => Value.int .i64 x) t) (n c : Nat) (hn : n = xs.length) (hc : n ≤ c) (hc2 : c ≤ 9223372036854775807) : kInt.Sl W (.slice (some ⟨b, 0, none⟩) n c) xs := by
  refine Kind.Sl.of_blk kInt (xs.map fun x => [Value.int .i64 x]) ?_ ?_ n c hn hc hc2 (t := t)
  · clear hb hn
    induction xs with
    | nil => exact .nil
    | cons x xs ih => exact .cons ⟨rfl, hx x (by simp)⟩ (ih fun y hy => hx y (by simp [hy]))
  · rw [show (xs.map fun x => [Value.int .i64 x]).flatten = xs.map fun x => Value.int .i64 x by
      clear hb hn hx
      induction xs with
      | nil => rfl
      | cons x xs ih => simpa using ih]
    exact hb
theorem nil_sl {α : Type} (d : Kind α) (W : World) : d.Sl W (.slice none 0 0) [] := ⟨none, 0, 0, 0, rfl, by simp, by simp, fun h => by simp at h, fun j x hj => by simp at hj⟩
end Go.Proofs.Ythjhkbnajclcjaa
