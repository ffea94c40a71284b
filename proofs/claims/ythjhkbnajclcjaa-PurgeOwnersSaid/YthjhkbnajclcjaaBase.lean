/- Words that all of this seat's proofs use: how Go's data read in memory (ints, bools, strings, structs, slices of them), and that these readings stay while memory below them stays. -/
import Derived.Test.YthjhkbnajclcjaaProg
import Derived.WalkKit
import Derived.Handy
import Derived.BigGuardPart
import Derived.WalkLawsBesides
import Derived.WalkSpells
import Derived.KernelRfl
namespace Go.Proofs.Ythjhkbnajclcjaa
open Go.RowKit

theorem hide {p : Prop} (h : p) : Hid p := h

/-- A number that an int may hold. -/
def I64 (x : Int) : Prop := -9223372036854775808 ≤ x ∧ x ≤ 9223372036854775807

instance (x : Int) : Decidable (I64 x) := by unfold I64; infer_instance

/-- All that lay in w lies unturned in w'. -/
abbrev Bel (w w' : World) : Prop := Below w.heap.size w w'
theorem Bel.trans {a b c : World} (h : Bel a b) (k : Bel b c) : Bel a c := Below.trans h (k.mono h.size)
theorem Bel.cell {w w' : World} (h : Bel w w') {p : Addr} {v : Value} (hc : w.cell? p = some v) : w'.cell? p = some v :=
  (Below.cell h (World.block_lt_of_cell? w p hc)).trans hc
theorem Bel.drewN {a w : World} (h : Bel a w) (n : Nat) : Bel a (w.drewN n) := ⟨h.os, h.tape, h.output, h.size, h.block⟩
theorem Bel.alloc {a w : World} (h : Bel a w) (o : Obj) : Bel a (w.alloc o) := Below.alloc h h.size o
theorem bel_refl (w : World) : Bel w w := Below.refl _ _
/-- Behind a call: old cells and marks read as before (two rules for the walk). -/
theorem bcell {W w1 : World} (hb : Bel W w1) : (∀ b o, b < W.heap.size → w1.cell? ⟨b, o, none⟩ = W.cell? ⟨b, o, none⟩) ∧ (∀ b o, b < W.heap.size → w1.frozen? ⟨b, o, none⟩ = W.frozen? ⟨b, o, none⟩) :=
  ⟨fun b o h => Below.cell hb (p := ⟨b, o, none⟩) h, fun b o h => Below.frozen hb (p := ⟨b, o, none⟩) h⟩

/-- A call of a function that has a body enters it. -/
theorem enters {P : Program} {f : FuncId} {fn : Func} {c : Code} (hf : P.funcs[f]? = some fn) (hname : (fn.name == "runtime.NumGoroutine") = false) (hb : fn.body = some c) (args : Array Value) (w : World) :
    (callFunc f args).run P w = .ok (.enter f args) w := by
  have h1 : fn.name ≠ "runtime.NumGoroutine" := by simpa using hname
  simp [callFunc, hf, h1, hb, mark]

/-- The heap has only grown. -/
def Ext (w w' : World) : Prop := w.heap.size ≤ w'.heap.size ∧ ∀ k, k < w.heap.size → w'.heap[k]? = w.heap[k]?
theorem Bel.ext {w w' : World} (h : Bel w w') : Ext w w' := ⟨h.size, h.block⟩
theorem Ext.trans {a b c : World} (h : Ext a b) (k : Ext b c) : Ext a c := ⟨Nat.le_trans h.1 k.1, fun i hi => (k.2 i (Nat.lt_of_lt_of_le hi h.1)).trans (h.2 i hi)⟩
theorem Ext.cell {w w' : World} (h : Ext w w') {p : Addr} {v : Value} (hc : w.cell? p = some v) : w'.cell? p = some v :=
  (World.cell?_of_block (w := w) (h.2 p.block (World.block_lt_of_cell? w p hc))).trans hc

/-- How a Go value reads: its cells, by what they hold in memory. -/
structure Kind (α : Type) where
  sz : Nat
  K : World → α → List Value → Prop
  len : ∀ {w x cs}, K w x cs → cs.length = sz
  mono : ∀ {w w' : World} {x cs}, Ext w w' → K w x cs → K w' x cs

namespace Kind
variable {α : Type} (d : Kind α)
/-- A row of elements from a place on. -/
def Row (w : World) (b o : Nat) (xs : List α) : Prop := ∀ (j : Nat) (x : α), xs[j]? = some x → ∃ cs, d.K w x cs ∧ ∀ (i : Nat) (u : Value), cs[i]? = some u → w.cell? ⟨b, o + j * d.sz + i, none⟩ = some u
/-- A slice that reads as a list. -/
def Sl (w : World) (v : Value) (xs : List α) : Prop :=
  ∃ (A : Option Addr) (b o c : Nat), v = .slice A xs.length c ∧ xs.length ≤ c ∧ c ≤ 9223372036854775807 ∧ (0 < xs.length → A = some ⟨b, o, none⟩) ∧ d.Row w b o xs
/-- A block's cells from a place on read as one value. -/
def At (w : World) (b o : Nat) (x : α) : Prop := ∃ cs, d.K w x cs ∧ ∀ (i : Nat) (u : Value), cs[i]? = some u → w.cell? ⟨b, o + i, none⟩ = some u
end Kind
theorem Kind.Row.ext {α : Type} {d : Kind α} {w w' : World} {b o : Nat} {xs : List α} (h : d.Row w b o xs) (hb : Ext w w') : d.Row w' b o xs := fun j x hj =>
  let ⟨cs, hk, hc⟩ := h j x hj; ⟨cs, d.mono hb hk, fun i u hu => hb.cell (hc i u hu)⟩
theorem Kind.Sl.ext {α : Type} {d : Kind α} {w w' : World} {v : Value} {xs : List α} (h : d.Sl w v xs) (hb : Ext w w') : d.Sl w' v xs :=
  let ⟨A, b, o, c, h1, h2, h3, h4, h5⟩ := h; ⟨A, b, o, c, h1, h2, h3, h4, h5.ext hb⟩
theorem Kind.At.ext {α : Type} {d : Kind α} {w w' : World} {b o : Nat} {x : α} (h : d.At w b o x) (hb : Ext w w') : d.At w' b o x :=
  let ⟨cs, hk, hc⟩ := h; ⟨cs, d.mono hb hk, fun i u hu => hb.cell (hc i u hu)⟩
theorem Kind.bel {α : Type} (d : Kind α) {w w' : World} {x : α} {cs : List Value} (hb : Bel w w') (h : d.K w x cs) : d.K w' x cs := d.mono hb.ext h
theorem Kind.Row.bel {α : Type} {d : Kind α} {w w' : World} {b o : Nat} {xs : List α} (h : d.Row w b o xs) (hb : Bel w w') : d.Row w' b o xs := h.ext hb.ext
theorem Kind.Sl.bel {α : Type} {d : Kind α} {w w' : World} {v : Value} {xs : List α} (h : d.Sl w v xs) (hb : Bel w w') : d.Sl w' v xs := h.ext hb.ext
theorem Kind.At.bel {α : Type} {d : Kind α} {w w' : World} {b o : Nat} {x : α} (h : d.At w b o x) (hb : Bel w w') : d.At w' b o x := h.ext hb.ext

/-- A slice laid open, once for all worlds in which it reads so. -/
theorem Kind.Sl.form {α : Type} {d : Kind α} {w : World} {v : Value} {xs : List α} (h : d.Sl w v xs) :
    ∃ (A : Option Addr) (b o c : Nat), v = .slice A xs.length c ∧ xs.length ≤ c ∧ c ≤ 9223372036854775807 ∧ (0 < xs.length → A = some ⟨b, o, none⟩) ∧ ∀ W, d.Sl W v xs → d.Row W b o xs := by
  obtain ⟨A, b, o, c, h1, h2, h3, h4, h5⟩ := h
  refine ⟨A, b, o, c, h1, h2, h3, h4, fun W hW => ?_⟩
  obtain ⟨A', b', o', c', k1, k2, k3, k4, k5⟩ := hW
  rcases Nat.eq_zero_or_pos xs.length with h0 | h0
  · intro j x hj
    rw [List.eq_nil_of_length_eq_zero h0] at hj
    simp at hj
  · have e1 := h4 h0
    have e2 := k4 h0
    rw [h1] at k1
    injection k1 with k1
    rw [e1, e2] at k1
    injection k1 with k1
    injection k1 with k1 k1'
    subst k1 k1'
    exact k5

/-- xs[:k] -/
theorem Kind.Sl.take {α : Type} {d : Kind α} {w : World} {A : Option Addr} {n c : Nat} {xs : List α} (h : d.Sl w (.slice A n c) xs) (k : Nat) (hk : k ≤ xs.length) : d.Sl w (.slice A k c) (xs.take k) := by
  obtain ⟨A', b, o, c', h1, h2, h3, h4, h5⟩ := h
  injection h1 with h1 h1' h1''
  subst h1 h1''
  refine ⟨A, b, o, c, by rw [List.length_take, Nat.min_eq_left hk], by rw [List.length_take]; omega, h3, fun h => h4 (by rw [List.length_take] at h; omega), fun j x hj => ?_⟩
  rw [List.getElem?_take] at hj
  split at hj
  · exact h5 j x hj
  · simp at hj
theorem Kind.Sl.len_eq {α : Type} {d : Kind α} {w : World} {A : Option Addr} {n c : Nat} {xs : List α} (h : d.Sl w (.slice A n c) xs) : n = xs.length ∧ n ≤ c ∧ c ≤ 9223372036854775807 := by
  obtain ⟨A', b, o, c', h1, h2, h3, h4, h5⟩ := h
  injection h1 with h1 h1' h1''
  subst h1' h1''
  exact ⟨rfl, h2, h3⟩

/-! ### kinds of one cell -/
def kInt : Kind Int where
  sz := 1
  K := fun _ x cs => cs = [.int .i64 x] ∧ I64 x
  len := fun h => by rw [h.1]; rfl
  mono := fun _ h => h
def kBool : Kind Bool where
  sz := 1
  K := fun _ x cs => cs = [.bool x]
  len := fun h => by rw [h]; rfl
  mono := fun _ h => h
def kStr : Kind ByteArray where
  sz := 1
  K := fun _ x cs => cs = [.string x] ∧ x.size ≤ 140737488351232
  len := fun h => by rw [h.1]; rfl
  mono := fun _ h => h
def kSl {α : Type} (d : Kind α) : Kind (List α) where
  sz := 1
  K := fun w xs cs => ∃ v, cs = [v] ∧ d.Sl w v xs
  len := by rintro w x cs ⟨v, rfl, _⟩; rfl
  mono := by rintro w w' x cs hb ⟨v, rfl, h⟩; exact ⟨v, rfl, h.ext hb⟩

/-! ### an element's cells in the walk's spelling -/
section
variable {α : Type} {d : Kind α} {w : World} {b o : Nat} {xs : List α} {j : Nat}
theorem Kind.Row.get1 (h : d.Row w b o xs) (hs : d.sz = 1) (hj : j < xs.length) : ∃ c0, d.K w (xs[j]'hj) [c0] ∧ w.cell? ⟨b, o + j, none⟩ = some c0 := by
  obtain ⟨cs, hk, hc⟩ := h j _ (List.getElem?_eq_getElem hj)
  have hl := d.len hk
  rw [hs] at hl hc
  match cs, hl with
  | [c0], _ => exact ⟨c0, hk, by simpa using hc 0 _ rfl⟩
theorem Kind.At.get1 {x : α} (h : d.At w b o x) (hs : d.sz = 1) : ∃ c0, d.K w x [c0] ∧ w.cell? ⟨b, o, none⟩ = some c0 := by
  obtain ⟨cs, hk, hc⟩ := h
  have hl := d.len hk
  rw [hs] at hl
  match cs, hl with
  | [c0], _ => exact ⟨c0, hk, hc 0 _ rfl⟩
theorem Kind.At.zero1 {x : α} (h : d.At w b 0 x) (hs : d.sz = 1) : ∃ c0, d.K w x [c0] ∧ w.cell? ⟨b, 0, none⟩ = some c0 := by
  obtain ⟨cs, hk, hc⟩ := h
  have hl := d.len hk
  rw [hs] at hl
  match cs, hl with
  | [c0], _ => exact ⟨c0, hk, by simpa using hc 0 _ rfl⟩
theorem Kind.Row.get2 (h : d.Row w b o xs) (hs : d.sz = 2) (hj : j < xs.length) : ∃ c0 c1, d.K w (xs[j]'hj) [c0, c1] ∧ w.cell? ⟨b, o + j * 2, none⟩ = some c0 ∧ w.cell? ⟨b, o + j * 2 + 1, none⟩ = some c1 := by
  obtain ⟨cs, hk, hc⟩ := h j _ (List.getElem?_eq_getElem hj)
  have hl := d.len hk
  rw [hs] at hl hc
  match cs, hl with
  | [c0, c1], _ => exact ⟨c0, c1, hk, hc 0 _ rfl, hc 1 _ rfl⟩
theorem Kind.At.get2 {x : α} (h : d.At w b o x) (hs : d.sz = 2) : ∃ c0 c1, d.K w x [c0, c1] ∧ w.cell? ⟨b, o, none⟩ = some c0 ∧ w.cell? ⟨b, o + 1, none⟩ = some c1 := by
  obtain ⟨cs, hk, hc⟩ := h
  have hl := d.len hk
  rw [hs] at hl
  match cs, hl with
  | [c0, c1], _ => exact ⟨c0, c1, hk, hc 0 _ rfl, hc 1 _ rfl⟩
theorem Kind.At.zero2 {x : α} (h : d.At w b 0 x) (hs : d.sz = 2) : ∃ c0 c1, d.K w x [c0, c1] ∧ w.cell? ⟨b, 0, none⟩ = some c0 ∧ w.cell? ⟨b, 1, none⟩ = some c1 := by
  obtain ⟨cs, hk, hc⟩ := h
  have hl := d.len hk
  rw [hs] at hl
  match cs, hl with
  | [c0, c1], _ => exact ⟨c0, c1, hk, by simpa using hc 0 _ rfl, by simpa using hc 1 _ rfl⟩
theorem Kind.Row.get3 (h : d.Row w b o xs) (hs : d.sz = 3) (hj : j < xs.length) : ∃ c0 c1 c2, d.K w (xs[j]'hj) [c0, c1, c2] ∧ w.cell? ⟨b, o + j * 3, none⟩ = some c0 ∧ w.cell? ⟨b, o + j * 3 + 1, none⟩ = some c1 ∧ w.cell? ⟨b, o + j * 3 + 2, none⟩ = some c2 := by
  obtain ⟨cs, hk, hc⟩ := h j _ (List.getElem?_eq_getElem hj)
  have hl := d.len hk
  rw [hs] at hl hc
  match cs, hl with
  | [c0, c1, c2], _ => exact ⟨c0, c1, c2, hk, hc 0 _ rfl, hc 1 _ rfl, hc 2 _ rfl⟩
theorem Kind.At.get3 {x : α} (h : d.At w b o x) (hs : d.sz = 3) : ∃ c0 c1 c2, d.K w x [c0, c1, c2] ∧ w.cell? ⟨b, o, none⟩ = some c0 ∧ w.cell? ⟨b, o + 1, none⟩ = some c1 ∧ w.cell? ⟨b, o + 2, none⟩ = some c2 := by
  obtain ⟨cs, hk, hc⟩ := h
  have hl := d.len hk
  rw [hs] at hl
  match cs, hl with
  | [c0, c1, c2], _ => exact ⟨c0, c1, c2, hk, hc 0 _ rfl, hc 1 _ rfl, hc 2 _ rfl⟩
theorem Kind.At.zero3 {x : α} (h : d.At w b 0 x) (hs : d.sz = 3) : ∃ c0 c1 c2, d.K w x [c0, c1, c2] ∧ w.cell? ⟨b, 0, none⟩ = some c0 ∧ w.cell? ⟨b, 1, none⟩ = some c1 ∧ w.cell? ⟨b, 2, none⟩ = some c2 := by
  obtain ⟨cs, hk, hc⟩ := h
  have hl := d.len hk
  rw [hs] at hl
  match cs, hl with
  | [c0, c1, c2], _ => exact ⟨c0, c1, c2, hk, by simpa using hc 0 _ rfl, by simpa using hc 1 _ rfl, by simpa using hc 2 _ rfl⟩
theorem Kind.Row.get4 (h : d.Row w b o xs) (hs : d.sz = 4) (hj : j < xs.length) : ∃ c0 c1 c2 c3, d.K w (xs[j]'hj) [c0, c1, c2, c3] ∧ w.cell? ⟨b, o + j * 4, none⟩ = some c0 ∧ w.cell? ⟨b, o + j * 4 + 1, none⟩ = some c1 ∧ w.cell? ⟨b, o + j * 4 + 2, none⟩ = some c2 ∧ w.cell? ⟨b, o + j * 4 + 3, none⟩ = some c3 := by
  obtain ⟨cs, hk, hc⟩ := h j _ (List.getElem?_eq_getElem hj)
  have hl := d.len hk
  rw [hs] at hl hc
  match cs, hl with
  | [c0, c1, c2, c3], _ => exact ⟨c0, c1, c2, c3, hk, hc 0 _ rfl, hc 1 _ rfl, hc 2 _ rfl, hc 3 _ rfl⟩
theorem Kind.At.get4 {x : α} (h : d.At w b o x) (hs : d.sz = 4) : ∃ c0 c1 c2 c3, d.K w x [c0, c1, c2, c3] ∧ w.cell? ⟨b, o, none⟩ = some c0 ∧ w.cell? ⟨b, o + 1, none⟩ = some c1 ∧ w.cell? ⟨b, o + 2, none⟩ = some c2 ∧ w.cell? ⟨b, o + 3, none⟩ = some c3 := by
  obtain ⟨cs, hk, hc⟩ := h
  have hl := d.len hk
  rw [hs] at hl
  match cs, hl with
  | [c0, c1, c2, c3], _ => exact ⟨c0, c1, c2, c3, hk, hc 0 _ rfl, hc 1 _ rfl, hc 2 _ rfl, hc 3 _ rfl⟩
theorem Kind.At.zero4 {x : α} (h : d.At w b 0 x) (hs : d.sz = 4) : ∃ c0 c1 c2 c3, d.K w x [c0, c1, c2, c3] ∧ w.cell? ⟨b, 0, none⟩ = some c0 ∧ w.cell? ⟨b, 1, none⟩ = some c1 ∧ w.cell? ⟨b, 2, none⟩ = some c2 ∧ w.cell? ⟨b, 3, none⟩ = some c3 := by
  obtain ⟨cs, hk, hc⟩ := h
  have hl := d.len hk
  rw [hs] at hl
  match cs, hl with
  | [c0, c1, c2, c3], _ => exact ⟨c0, c1, c2, c3, hk, by simpa using hc 0 _ rfl, by simpa using hc 1 _ rfl, by simpa using hc 2 _ rfl, by simpa using hc 3 _ rfl⟩
theorem Kind.Row.get5 (h : d.Row w b o xs) (hs : d.sz = 5) (hj : j < xs.length) : ∃ c0 c1 c2 c3 c4, d.K w (xs[j]'hj) [c0, c1, c2, c3, c4] ∧ w.cell? ⟨b, o + j * 5, none⟩ = some c0 ∧ w.cell? ⟨b, o + j * 5 + 1, none⟩ = some c1 ∧ w.cell? ⟨b, o + j * 5 + 2, none⟩ = some c2 ∧ w.cell? ⟨b, o + j * 5 + 3, none⟩ = some c3 ∧ w.cell? ⟨b, o + j * 5 + 4, none⟩ = some c4 := by
  obtain ⟨cs, hk, hc⟩ := h j _ (List.getElem?_eq_getElem hj)
  have hl := d.len hk
  rw [hs] at hl hc
  match cs, hl with
  | [c0, c1, c2, c3, c4], _ => exact ⟨c0, c1, c2, c3, c4, hk, hc 0 _ rfl, hc 1 _ rfl, hc 2 _ rfl, hc 3 _ rfl, hc 4 _ rfl⟩
theorem Kind.At.get5 {x : α} (h : d.At w b o x) (hs : d.sz = 5) : ∃ c0 c1 c2 c3 c4, d.K w x [c0, c1, c2, c3, c4] ∧ w.cell? ⟨b, o, none⟩ = some c0 ∧ w.cell? ⟨b, o + 1, none⟩ = some c1 ∧ w.cell? ⟨b, o + 2, none⟩ = some c2 ∧ w.cell? ⟨b, o + 3, none⟩ = some c3 ∧ w.cell? ⟨b, o + 4, none⟩ = some c4 := by
  obtain ⟨cs, hk, hc⟩ := h
  have hl := d.len hk
  rw [hs] at hl
  match cs, hl with
  | [c0, c1, c2, c3, c4], _ => exact ⟨c0, c1, c2, c3, c4, hk, hc 0 _ rfl, hc 1 _ rfl, hc 2 _ rfl, hc 3 _ rfl, hc 4 _ rfl⟩
theorem Kind.At.zero5 {x : α} (h : d.At w b 0 x) (hs : d.sz = 5) : ∃ c0 c1 c2 c3 c4, d.K w x [c0, c1, c2, c3, c4] ∧ w.cell? ⟨b, 0, none⟩ = some c0 ∧ w.cell? ⟨b, 1, none⟩ = some c1 ∧ w.cell? ⟨b, 2, none⟩ = some c2 ∧ w.cell? ⟨b, 3, none⟩ = some c3 ∧ w.cell? ⟨b, 4, none⟩ = some c4 := by
  obtain ⟨cs, hk, hc⟩ := h
  have hl := d.len hk
  rw [hs] at hl
  match cs, hl with
  | [c0, c1, c2, c3, c4], _ => exact ⟨c0, c1, c2, c3, c4, hk, by simpa using hc 0 _ rfl, by simpa using hc 1 _ rfl, by simpa using hc 2 _ rfl, by simpa using hc 3 _ rfl, by simpa using hc 4 _ rfl⟩
theorem Kind.Row.get6 (h : d.Row w b o xs) (hs : d.sz = 6) (hj : j < xs.length) : ∃ c0 c1 c2 c3 c4 c5, d.K w (xs[j]'hj) [c0, c1, c2, c3, c4, c5] ∧ w.cell? ⟨b, o + j * 6, none⟩ = some c0 ∧ w.cell? ⟨b, o + j * 6 + 1, none⟩ = some c1 ∧ w.cell? ⟨b, o + j * 6 + 2, none⟩ = some c2 ∧ w.cell? ⟨b, o + j * 6 + 3, none⟩ = some c3 ∧ w.cell? ⟨b, o + j * 6 + 4, none⟩ = some c4 ∧ w.cell? ⟨b, o + j * 6 + 5, none⟩ = some c5 := by
  obtain ⟨cs, hk, hc⟩ := h j _ (List.getElem?_eq_getElem hj)
  have hl := d.len hk
  rw [hs] at hl hc
  match cs, hl with
  | [c0, c1, c2, c3, c4, c5], _ => exact ⟨c0, c1, c2, c3, c4, c5, hk, hc 0 _ rfl, hc 1 _ rfl, hc 2 _ rfl, hc 3 _ rfl, hc 4 _ rfl, hc 5 _ rfl⟩
theorem Kind.At.get6 {x : α} (h : d.At w b o x) (hs : d.sz = 6) : ∃ c0 c1 c2 c3 c4 c5, d.K w x [c0, c1, c2, c3, c4, c5] ∧ w.cell? ⟨b, o, none⟩ = some c0 ∧ w.cell? ⟨b, o + 1, none⟩ = some c1 ∧ w.cell? ⟨b, o + 2, none⟩ = some c2 ∧ w.cell? ⟨b, o + 3, none⟩ = some c3 ∧ w.cell? ⟨b, o + 4, none⟩ = some c4 ∧ w.cell? ⟨b, o + 5, none⟩ = some c5 := by
  obtain ⟨cs, hk, hc⟩ := h
  have hl := d.len hk
  rw [hs] at hl
  match cs, hl with
  | [c0, c1, c2, c3, c4, c5], _ => exact ⟨c0, c1, c2, c3, c4, c5, hk, hc 0 _ rfl, hc 1 _ rfl, hc 2 _ rfl, hc 3 _ rfl, hc 4 _ rfl, hc 5 _ rfl⟩
theorem Kind.At.zero6 {x : α} (h : d.At w b 0 x) (hs : d.sz = 6) : ∃ c0 c1 c2 c3 c4 c5, d.K w x [c0, c1, c2, c3, c4, c5] ∧ w.cell? ⟨b, 0, none⟩ = some c0 ∧ w.cell? ⟨b, 1, none⟩ = some c1 ∧ w.cell? ⟨b, 2, none⟩ = some c2 ∧ w.cell? ⟨b, 3, none⟩ = some c3 ∧ w.cell? ⟨b, 4, none⟩ = some c4 ∧ w.cell? ⟨b, 5, none⟩ = some c5 := by
  obtain ⟨cs, hk, hc⟩ := h
  have hl := d.len hk
  rw [hs] at hl
  match cs, hl with
  | [c0, c1, c2, c3, c4, c5], _ => exact ⟨c0, c1, c2, c3, c4, c5, hk, by simpa using hc 0 _ rfl, by simpa using hc 1 _ rfl, by simpa using hc 2 _ rfl, by simpa using hc 3 _ rfl, by simpa using hc 4 _ rfl, by simpa using hc 5 _ rfl⟩
theorem Kind.Row.get7 (h : d.Row w b o xs) (hs : d.sz = 7) (hj : j < xs.length) : ∃ c0 c1 c2 c3 c4 c5 c6, d.K w (xs[j]'hj) [c0, c1, c2, c3, c4, c5, c6] ∧ w.cell? ⟨b, o + j * 7, none⟩ = some c0 ∧ w.cell? ⟨b, o + j * 7 + 1, none⟩ = some c1 ∧ w.cell? ⟨b, o + j * 7 + 2, none⟩ = some c2 ∧ w.cell? ⟨b, o + j * 7 + 3, none⟩ = some c3 ∧ w.cell? ⟨b, o + j * 7 + 4, none⟩ = some c4 ∧ w.cell? ⟨b, o + j * 7 + 5, none⟩ = some c5 ∧ w.cell? ⟨b, o + j * 7 + 6, none⟩ = some c6 := by
  obtain ⟨cs, hk, hc⟩ := h j _ (List.getElem?_eq_getElem hj)
  have hl := d.len hk
  rw [hs] at hl hc
  match cs, hl with
  | [c0, c1, c2, c3, c4, c5, c6], _ => exact ⟨c0, c1, c2, c3, c4, c5, c6, hk, hc 0 _ rfl, hc 1 _ rfl, hc 2 _ rfl, hc 3 _ rfl, hc 4 _ rfl, hc 5 _ rfl, hc 6 _ rfl⟩
theorem Kind.At.get7 {x : α} (h : d.At w b o x) (hs : d.sz = 7) : ∃ c0 c1 c2 c3 c4 c5 c6, d.K w x [c0, c1, c2, c3, c4, c5, c6] ∧ w.cell? ⟨b, o, none⟩ = some c0 ∧ w.cell? ⟨b, o + 1, none⟩ = some c1 ∧ w.cell? ⟨b, o + 2, none⟩ = some c2 ∧ w.cell? ⟨b, o + 3, none⟩ = some c3 ∧ w.cell? ⟨b, o + 4, none⟩ = some c4 ∧ w.cell? ⟨b, o + 5, none⟩ = some c5 ∧ w.cell? ⟨b, o + 6, none⟩ = some c6 := by
  obtain ⟨cs, hk, hc⟩ := h
  have hl := d.len hk
  rw [hs] at hl
  match cs, hl with
  | [c0, c1, c2, c3, c4, c5, c6], _ => exact ⟨c0, c1, c2, c3, c4, c5, c6, hk, hc 0 _ rfl, hc 1 _ rfl, hc 2 _ rfl, hc 3 _ rfl, hc 4 _ rfl, hc 5 _ rfl, hc 6 _ rfl⟩
theorem Kind.At.zero7 {x : α} (h : d.At w b 0 x) (hs : d.sz = 7) : ∃ c0 c1 c2 c3 c4 c5 c6, d.K w x [c0, c1, c2, c3, c4, c5, c6] ∧ w.cell? ⟨b, 0, none⟩ = some c0 ∧ w.cell? ⟨b, 1, none⟩ = some c1 ∧ w.cell? ⟨b, 2, none⟩ = some c2 ∧ w.cell? ⟨b, 3, none⟩ = some c3 ∧ w.cell? ⟨b, 4, none⟩ = some c4 ∧ w.cell? ⟨b, 5, none⟩ = some c5 ∧ w.cell? ⟨b, 6, none⟩ = some c6 := by
  obtain ⟨cs, hk, hc⟩ := h
  have hl := d.len hk
  rw [hs] at hl
  match cs, hl with
  | [c0, c1, c2, c3, c4, c5, c6], _ => exact ⟨c0, c1, c2, c3, c4, c5, c6, hk, by simpa using hc 0 _ rfl, by simpa using hc 1 _ rfl, by simpa using hc 2 _ rfl, by simpa using hc 3 _ rfl, by simpa using hc 4 _ rfl, by simpa using hc 5 _ rfl, by simpa using hc 6 _ rfl⟩
theorem Kind.Row.get8 (h : d.Row w b o xs) (hs : d.sz = 8) (hj : j < xs.length) : ∃ c0 c1 c2 c3 c4 c5 c6 c7, d.K w (xs[j]'hj) [c0, c1, c2, c3, c4, c5, c6, c7] ∧ w.cell? ⟨b, o + j * 8, none⟩ = some c0 ∧ w.cell? ⟨b, o + j * 8 + 1, none⟩ = some c1 ∧ w.cell? ⟨b, o + j * 8 + 2, none⟩ = some c2 ∧ w.cell? ⟨b, o + j * 8 + 3, none⟩ = some c3 ∧ w.cell? ⟨b, o + j * 8 + 4, none⟩ = some c4 ∧ w.cell? ⟨b, o + j * 8 + 5, none⟩ = some c5 ∧ w.cell? ⟨b, o + j * 8 + 6, none⟩ = some c6 ∧ w.cell? ⟨b, o + j * 8 + 7, none⟩ = some c7 := by
  obtain ⟨cs, hk, hc⟩ := h j _ (List.getElem?_eq_getElem hj)
  have hl := d.len hk
  rw [hs] at hl hc
  match cs, hl with
  | [c0, c1, c2, c3, c4, c5, c6, c7], _ => exact ⟨c0, c1, c2, c3, c4, c5, c6, c7, hk, hc 0 _ rfl, hc 1 _ rfl, hc 2 _ rfl, hc 3 _ rfl, hc 4 _ rfl, hc 5 _ rfl, hc 6 _ rfl, hc 7 _ rfl⟩
theorem Kind.At.get8 {x : α} (h : d.At w b o x) (hs : d.sz = 8) : ∃ c0 c1 c2 c3 c4 c5 c6 c7, d.K w x [c0, c1, c2, c3, c4, c5, c6, c7] ∧ w.cell? ⟨b, o, none⟩ = some c0 ∧ w.cell? ⟨b, o + 1, none⟩ = some c1 ∧ w.cell? ⟨b, o + 2, none⟩ = some c2 ∧ w.cell? ⟨b, o + 3, none⟩ = some c3 ∧ w.cell? ⟨b, o + 4, none⟩ = some c4 ∧ w.cell? ⟨b, o + 5, none⟩ = some c5 ∧ w.cell? ⟨b, o + 6, none⟩ = some c6 ∧ w.cell? ⟨b, o + 7, none⟩ = some c7 := by
  obtain ⟨cs, hk, hc⟩ := h
  have hl := d.len hk
  rw [hs] at hl
  match cs, hl with
  | [c0, c1, c2, c3, c4, c5, c6, c7], _ => exact ⟨c0, c1, c2, c3, c4, c5, c6, c7, hk, hc 0 _ rfl, hc 1 _ rfl, hc 2 _ rfl, hc 3 _ rfl, hc 4 _ rfl, hc 5 _ rfl, hc 6 _ rfl, hc 7 _ rfl⟩
theorem Kind.At.zero8 {x : α} (h : d.At w b 0 x) (hs : d.sz = 8) : ∃ c0 c1 c2 c3 c4 c5 c6 c7, d.K w x [c0, c1, c2, c3, c4, c5, c6, c7] ∧ w.cell? ⟨b, 0, none⟩ = some c0 ∧ w.cell? ⟨b, 1, none⟩ = some c1 ∧ w.cell? ⟨b, 2, none⟩ = some c2 ∧ w.cell? ⟨b, 3, none⟩ = some c3 ∧ w.cell? ⟨b, 4, none⟩ = some c4 ∧ w.cell? ⟨b, 5, none⟩ = some c5 ∧ w.cell? ⟨b, 6, none⟩ = some c6 ∧ w.cell? ⟨b, 7, none⟩ = some c7 := by
  obtain ⟨cs, hk, hc⟩ := h
  have hl := d.len hk
  rw [hs] at hl
  match cs, hl with
  | [c0, c1, c2, c3, c4, c5, c6, c7], _ => exact ⟨c0, c1, c2, c3, c4, c5, c6, c7, hk, by simpa using hc 0 _ rfl, by simpa using hc 1 _ rfl, by simpa using hc 2 _ rfl, by simpa using hc 3 _ rfl, by simpa using hc 4 _ rfl, by simpa using hc 5 _ rfl, by simpa using hc 6 _ rfl, by simpa using hc 7 _ rfl⟩
theorem Kind.Row.get9 (h : d.Row w b o xs) (hs : d.sz = 9) (hj : j < xs.length) : ∃ c0 c1 c2 c3 c4 c5 c6 c7 c8, d.K w (xs[j]'hj) [c0, c1, c2, c3, c4, c5, c6, c7, c8] ∧ w.cell? ⟨b, o + j * 9, none⟩ = some c0 ∧ w.cell? ⟨b, o + j * 9 + 1, none⟩ = some c1 ∧ w.cell? ⟨b, o + j * 9 + 2, none⟩ = some c2 ∧ w.cell? ⟨b, o + j * 9 + 3, none⟩ = some c3 ∧ w.cell? ⟨b, o + j * 9 + 4, none⟩ = some c4 ∧ w.cell? ⟨b, o + j * 9 + 5, none⟩ = some c5 ∧ w.cell? ⟨b, o + j * 9 + 6, none⟩ = some c6 ∧ w.cell? ⟨b, o + j * 9 + 7, none⟩ = some c7 ∧ w.cell? ⟨b, o + j * 9 + 8, none⟩ = some c8 := by
  obtain ⟨cs, hk, hc⟩ := h j _ (List.getElem?_eq_getElem hj)
  have hl := d.len hk
  rw [hs] at hl hc
  match cs, hl with
  | [c0, c1, c2, c3, c4, c5, c6, c7, c8], _ => exact ⟨c0, c1, c2, c3, c4, c5, c6, c7, c8, hk, hc 0 _ rfl, hc 1 _ rfl, hc 2 _ rfl, hc 3 _ rfl, hc 4 _ rfl, hc 5 _ rfl, hc 6 _ rfl, hc 7 _ rfl, hc 8 _ rfl⟩
theorem Kind.At.get9 {x : α} (h : d.At w b o x) (hs : d.sz = 9) : ∃ c0 c1 c2 c3 c4 c5 c6 c7 c8, d.K w x [c0, c1, c2, c3, c4, c5, c6, c7, c8] ∧ w.cell? ⟨b, o, none⟩ = some c0 ∧ w.cell? ⟨b, o + 1, none⟩ = some c1 ∧ w.cell? ⟨b, o + 2, none⟩ = some c2 ∧ w.cell? ⟨b, o + 3, none⟩ = some c3 ∧ w.cell? ⟨b, o + 4, none⟩ = some c4 ∧ w.cell? ⟨b, o + 5, none⟩ = some c5 ∧ w.cell? ⟨b, o + 6, none⟩ = some c6 ∧ w.cell? ⟨b, o + 7, none⟩ = some c7 ∧ w.cell? ⟨b, o + 8, none⟩ = some c8 := by
  obtain ⟨cs, hk, hc⟩ := h
  have hl := d.len hk
  rw [hs] at hl
  match cs, hl with
  | [c0, c1, c2, c3, c4, c5, c6, c7, c8], _ => exact ⟨c0, c1, c2, c3, c4, c5, c6, c7, c8, hk, hc 0 _ rfl, hc 1 _ rfl, hc 2 _ rfl, hc 3 _ rfl, hc 4 _ rfl, hc 5 _ rfl, hc 6 _ rfl, hc 7 _ rfl, hc 8 _ rfl⟩
theorem Kind.At.zero9 {x : α} (h : d.At w b 0 x) (hs : d.sz = 9) : ∃ c0 c1 c2 c3 c4 c5 c6 c7 c8, d.K w x [c0, c1, c2, c3, c4, c5, c6, c7, c8] ∧ w.cell? ⟨b, 0, none⟩ = some c0 ∧ w.cell? ⟨b, 1, none⟩ = some c1 ∧ w.cell? ⟨b, 2, none⟩ = some c2 ∧ w.cell? ⟨b, 3, none⟩ = some c3 ∧ w.cell? ⟨b, 4, none⟩ = some c4 ∧ w.cell? ⟨b, 5, none⟩ = some c5 ∧ w.cell? ⟨b, 6, none⟩ = some c6 ∧ w.cell? ⟨b, 7, none⟩ = some c7 ∧ w.cell? ⟨b, 8, none⟩ = some c8 := by
  obtain ⟨cs, hk, hc⟩ := h
  have hl := d.len hk
  rw [hs] at hl
  match cs, hl with
  | [c0, c1, c2, c3, c4, c5, c6, c7, c8], _ => exact ⟨c0, c1, c2, c3, c4, c5, c6, c7, c8, hk, by simpa using hc 0 _ rfl, by simpa using hc 1 _ rfl, by simpa using hc 2 _ rfl, by simpa using hc 3 _ rfl, by simpa using hc 4 _ rfl, by simpa using hc 5 _ rfl, by simpa using hc 6 _ rfl, by simpa using hc 7 _ rfl, by simpa using hc 8 _ rfl⟩
end

/-! ### the first yes of a step over a list -/
def idxL {σ α : Type} (step : σ → α → Bool × σ) : List α → Nat → σ → Int × σ
  | [], _, s => (-1, s)
  | x :: xs, j, s => if (step s x).1 then ((j : Int), (step s x).2) else idxL step xs (j + 1) (step s x).2
def anyL {σ α : Type} (step : σ → α → Bool × σ) : List α → σ → Bool × σ
  | [], s => (false, s)
  | x :: xs, s => if (step s x).1 then (true, (step s x).2) else anyL step xs (step s x).2
theorem idxL_any {σ α : Type} (step : σ → α → Bool × σ) (xs : List α) : ∀ (j : Nat) (s : σ), ((decide (0 ≤ (idxL step xs j s).1)), (idxL step xs j s).2) = anyL step xs s := by
  induction xs with
  | nil => intro j s; rfl
  | cons x xs ih =>
    intro j s
    unfold idxL anyL
    split
    · simp
    · exact ih _ _
theorem idxL_lt {σ α : Type} (step : σ → α → Bool × σ) (xs : List α) : ∀ (j : Nat) (s : σ), (idxL step xs j s).1 = -1 ∨ ((j : Int) ≤ (idxL step xs j s).1 ∧ (idxL step xs j s).1 < j + xs.length) := by
  induction xs with
  | nil => intro j s; exact .inl rfl
  | cons x xs ih =>
    intro j s
    unfold idxL
    split
    · exact .inr ⟨by simp, by simp only [List.length_cons]; omega⟩
    · rcases ih (j + 1) (step s x).2 with h | ⟨h1, h2⟩
      · exact .inl h
      · exact .inr ⟨by omega, by simp only [List.length_cons]; omega⟩
/-- A plain predicate as a step. -/
def plainStep {α : Type} (p : α → Bool) : Unit → α → Bool × Unit := fun s x => (p x, s)
theorem anyL_plain {α : Type} (p : α → Bool) (xs : List α) : (anyL (plainStep p) xs ()).1 = xs.any p := by
  induction xs with
  | nil => rfl
  | cons x xs ih =>
    unfold anyL
    cases h : p x <;> simp [plainStep, h, ih]
theorem drop_cons {α : Type} {xs : List α} {k : Nat} (h : k < xs.length) : xs.drop k = xs[k] :: xs.drop (k + 1) := List.drop_eq_getElem_cons h
end Go.Proofs.Ythjhkbnajclcjaa
