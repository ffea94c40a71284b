/- What may flow, in plain Lean: labels that dominate, direct flows, rows of them. -/
import Derived.Test.YthjhkbnajclcjaaWithin
namespace Go.Proofs.Ythjhkbnajclcjaa
open Go.RowKit

/-! ### closed sets of a relation on the numbers below n -/
section
variable (n : Nat) (R : Nat → Nat → Bool)
inductive Rch (p : Nat) : Nat → Prop
  | here : Rch p p
  | step {i j : Nat} : Rch p i → i < n → j < n → R i j = true → Rch p j
/-- What a set holds, its direct flows end in it, too. -/
def ClosedS (f : Nat → Bool) : Prop := ∀ i j, i < n → j < n → f i = true → R i j = true → f j = true
def cnt (f : Nat → Bool) : Nat := ((List.range n).filter f).length
variable {n R}
theorem Rch.lt {p q : Nat} (hp : p < n) (h : Rch n R p q) : q < n := by cases h with | here => exact hp | step _ _ h _ => exact h
theorem Rch.trans {p q r : Nat} (h : Rch n R p q) (k : Rch n R q r) : Rch n R p r := by
  induction k with
  | here => exact h
  | step _ h1 h2 h3 ih => exact .step ih h1 h2 h3
theorem closed_all {f : Nat → Bool} {p : Nat} (hc : ClosedS n R f) (hp : f p = true) : ∀ q, Rch n R p q → f q = true := by
  intro q h
  induction h with
  | here => exact hp
  | step _ h1 h2 h3 ih => exact hc _ _ h1 h2 ih h3
theorem filter_le {α : Type} (f g : α → Bool) (l : List α) (h : ∀ x ∈ l, f x = true → g x = true) : (l.filter f).length ≤ (l.filter g).length := by
  induction l with
  | nil => simp
  | cons x l ih =>
    have ih := ih fun y hy => h y (by simp [hy])
    cases hf : f x
    · cases hg : g x <;> simp [hf, hg] <;> omega
    · simp [hf, h x (by simp) hf]; omega
theorem filter_lt {α : Type} (f g : α → Bool) (l : List α) (h : ∀ x ∈ l, f x = true → g x = true) {x : α} (hx : x ∈ l) (hf : f x = false) (hg : g x = true) : (l.filter f).length < (l.filter g).length := by
  induction l with
  | nil => simp at hx
  | cons y l ih =>
    have hle := filter_le f g l fun z hz => h z (by simp [hz])
    rcases List.mem_cons.1 hx with rfl | hx
    · simp [hf, hg]; omega
    · have ih := ih (fun z hz => h z (by simp [hz])) hx
      cases hfy : f y
      · cases hgy : g y <;> simp [hfy, hgy] <;> omega
      · simp [hfy, h y (by simp) hfy]; omega
theorem cnt_le (f g : Nat → Bool) (h : ∀ i, i < n → f i = true → g i = true) : cnt n f ≤ cnt n g := filter_le _ _ _ fun x hx => h x (List.mem_range.1 hx)
theorem cnt_lt (f g : Nat → Bool) (h : ∀ i, i < n → f i = true → g i = true) {i : Nat} (hi : i < n) (hf : f i = false) (hg : g i = true) : cnt n f < cnt n g := filter_lt _ _ _ (fun x hx => h x (List.mem_range.1 hx)) (List.mem_range.2 hi) hf hg
theorem cnt_max (f : Nat → Bool) : cnt n f ≤ n := by
  have h := List.length_filter_le f (List.range n)
  rw [List.length_range] at h
  exact h

/-- k rounds. -/
def rounds (n : Nat) (R : Nat → Nat → Bool) (p : Nat) : Nat → Nat → Bool
  | 0, q => q == p
  | k + 1, q => rounds n R p k q || (List.range n).any fun i => rounds n R p k i && R i q
theorem rounds_sound {p : Nat} (hp : p < n) : ∀ k q, q < n → rounds n R p k q = true → Rch n R p q := by
  intro k
  induction k with
  | zero =>
    intro q hq h
    have : q = p := by simpa [rounds] using h
    subst this
    exact .here
  | succ k ih =>
    intro q hq h
    simp only [rounds, Bool.or_eq_true, List.any_eq_true, List.mem_range, Bool.and_eq_true] at h
    rcases h with h | ⟨i, hi, h1, h2⟩
    · exact ih q hq h
    · exact .step (ih i hi h1) hi hq h2
theorem rounds_mono {p : Nat} (k q : Nat) (h : rounds n R p k q = true) : rounds n R p (k + 1) q = true := by simp [rounds, h]
theorem rounds_here (p : Nat) : ∀ k, rounds n R p k p = true := by
  intro k
  induction k with
  | zero => simp [rounds]
  | succ k ih => exact rounds_mono _ _ ih
theorem rounds_grow {p : Nat} (hp : p < n) : ∀ k, ClosedS n R (rounds n R p k) ∨ k + 1 ≤ cnt n (rounds n R p k) := by
  intro k
  induction k with
  | zero =>
    right
    have h : cnt n (fun _ => false) < cnt n (rounds n R p 0) := cnt_lt _ _ (fun i _ h => by simp at h) hp rfl (rounds_here p 0)
    omega
  | succ k ih =>
    rcases ih with h | h
    · left
      intro i j hi hj hf hR
      have hs : ∀ q, q < n → rounds n R p (k + 1) q = true → rounds n R p k q = true := fun q hq hq2 => by
        simp only [rounds, Bool.or_eq_true, List.any_eq_true, List.mem_range, Bool.and_eq_true] at hq2
        rcases hq2 with h2 | ⟨i, hi, h1, h2⟩
        · exact h2
        · exact h _ _ hi hq h1 h2
      exact rounds_mono _ _ (h _ _ hi hj (hs i hi hf) hR)
    · by_cases hc : ClosedS n R (rounds n R p k)
      · left
        intro i j hi hj hf hR
        have hs : ∀ q, q < n → rounds n R p (k + 1) q = true → rounds n R p k q = true := fun q hq hq2 => by
          simp only [rounds, Bool.or_eq_true, List.any_eq_true, List.mem_range, Bool.and_eq_true] at hq2
          rcases hq2 with h2 | ⟨i, hi, h1, h2⟩
          · exact h2
          · exact hc _ _ hi hq h1 h2
        exact rounds_mono _ _ (hc _ _ hi hj (hs i hi hf) hR)
      · right
        have : ∃ i j, i < n ∧ j < n ∧ rounds n R p k i = true ∧ R i j = true ∧ rounds n R p k j = false := by
          apply Classical.byContradiction
          intro hn
          refine hc fun i j hi hj hf hR => ?_
          cases hfj : rounds n R p k j
          · exact absurd ⟨i, j, hi, hj, hf, hR, hfj⟩ hn
          · rfl
        obtain ⟨i, j, hi, hj, hf, hR, hfj⟩ := this
        have h2 := cnt_lt (n := n) _ (rounds n R p (k + 1)) (fun i _ h => rounds_mono _ _ h) hj hfj (by
          simp only [rounds, Bool.or_eq_true, List.any_eq_true, List.mem_range, Bool.and_eq_true]
          exact .inr ⟨i, hi, hf, hR⟩)
        omega
/-- Is there a row from p to q? -/
def rowB (n : Nat) (R : Nat → Nat → Bool) (p q : Nat) : Bool := rounds n R p n q
theorem rowB_iff {p q : Nat} (hp : p < n) (hq : q < n) : rowB n R p q = true ↔ Rch n R p q := by
  constructor
  · exact rounds_sound hp n q hq
  · rcases rounds_grow (R := R) hp n with h | h
    · exact closed_all h (rounds_here p n) q
    · have := cnt_max (n := n) (rounds n R p n)
      omega
/-- A set that holds p, what p flows to alone, and is closed: it is the row's. -/
theorem rowB_uniq {f : Nat → Bool} {p : Nat} (hp : p < n) (h1 : f p = true) (h2 : ∀ q, q < n → f q = true → Rch n R p q) (h3 : ClosedS n R f) : ∀ q, q < n → f q = rowB n R p q := fun q hq => by
  rw [Bool.eq_iff_iff, rowB_iff hp hq]
  exact ⟨h2 q hq, closed_all h3 h1 q⟩
end

/-! ### labels -/
def catsP (a b : Int) : Bool := bits BinOp.andNot IntKind.i64 b a == 0
def catsR (a b : Int) : Bool := bits BinOp.and IntKind.i64 a b == b
theorem cats_all : ((List.range 16).all fun a => (List.range 16).all fun b => catsP (a : Int) (b : Int) == catsR (a : Int) (b : Int)) = true := by kernel_rfl
theorem cats_eq (a b : Int) (ha : 0 ≤ a ∧ a ≤ 15) (hb : 0 ≤ b ∧ b ≤ 15) : catsP a b = catsR a b := by
  have h := cats_all
  simp only [List.all_eq_true, List.mem_range, beq_iff_eq] at h
  have h2 := h a.toNat (by omega) b.toNat (by omega)
  rwa [Int.toNat_of_nonneg ha.1, Int.toNat_of_nonneg hb.1] at h2
/-- Does a label have all of another one? -/
def dominates (a b : Label) : Bool := labelMay a && (labelMay b && (decide (b.level ≤ a.level) && catsP a.cats b.cats))
/-- A grant that lets one flow to another one. -/
def flowGrant (c : Config) (p q : Int) (g : Grant) : Bool := (ownerOf c g.frame == p && g.to == q) || (ownerOf c g.frame == q && (g.to == p && g.write))
def labelOf (c : Config) (p : Nat) : Label := (c.parts[p]?.map (·.label)).getD ⟨0, 0⟩
theorem labelOf_eq {c : Config} {p : Nat} (h : p < c.parts.length) : labelOf c p = c.parts[p].label := by simp [labelOf, h]
/-- Does one flow directly to another one? -/
def directB (c : Config) (p q : Nat) : Bool := p == q || (dominates (labelOf c q) (labelOf c p) || c.grants.any (flowGrant c p q))
/-- May one flow to another one, by a row? -/
def flowsRow (c : Config) (p q : Nat) : Bool := rowB c.parts.length (directB c) p q
def flowsB (c : Config) (p q : Int) : Bool := mayCfg c && (there c p && (there c q && flowsRow c p.toNat q.toNat))
end Go.Proofs.Ythjhkbnajclcjaa
