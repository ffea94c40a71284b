/- The plain law of ConfigApart. -/
import Derived.Test.YthjhkbnajclcjaaWithin
namespace Go.Proofs.Ythjhkbnajclcjaa
open Go.RowKit

def noGr (c : Config) : Config := { c with grants := [] }
theorem parts_noGr (c : Config) : ∀ (ps : List Part) (i : Nat), partsMay (noGr c) i ps = partsMay c i ps := by
  intro ps
  induction ps with
  | nil => intro i; rfl
  | cons p ps ih =>
    intro i
    unfold partsMay
    rw [ih]
    rfl
theorem may_noGr {c : Config} (h : mayCfg c = true) : mayCfg (noGr c) = true := by
  simp only [mayCfg, mayRules, List.all_cons, List.all_nil, id, Bool.and_true, Bool.and_eq_true] at h ⊢
  refine ⟨?_, h.2.1, h.2.2.1, h.2.2.2.1, rfl, h.2.2.2.2.2⟩
  have h1 := h.1
  unfold partsRule at h1 ⊢
  rw [parts_noGr]
  exact h1
theorem split_one (a : Int) : split a 1 = [⟨a / 64, a % 64, 1⟩] := by
  rw [split_step _ _ (by decide)]
  have h1 : min 1 (64 - a % 64) = 1 := by omega
  rw [h1, split_none _ _ (by omega)]
theorem within_one (c : Config) (p a : Int) (w : Bool) (hp0 : 0 ≤ p) (hp : p < c.parts.length) (ha0 : 0 ≤ a) (ha : a < c.frames * 64) : within c p a 1 w = reach c p (a / 64) w := by
  have h1 : there c p = true := by rw [there_iff]; exact ⟨hp0, hp⟩
  have h2 : addrMay a 1 (c.frames * 64) = true := by rw [addrMay_iff]; omega
  unfold within
  rw [h1, h2, split_one]
  simp
theorem reach_noGr (c : Config) (p g : Int) (w : Bool) : reach (noGr c) p g w = (ownerOf c g == p) := by
  show ((ownerOf c g == p) || false) = _
  simp
theorem reach_own {c : Config} {p g : Int} (w : Bool) (h : (ownerOf c g == p) = true) : reach c p g w = true := by unfold reach; rw [h]; rfl
theorem reach_mono {c : Config} {p g : Int} (h : reach c p g true = true) : reach c p g false = true := by
  unfold reach at h ⊢
  rw [Bool.or_eq_true] at h ⊢
  rcases h with h | h
  · exact .inl h
  · rw [List.any_eq_true] at h ⊢
    obtain ⟨x, hx, hg⟩ := h
    refine .inr ⟨x, hx, ?_⟩
    simp only [granted, Bool.and_eq_true, Bool.or_eq_true] at hg ⊢
    exact ⟨hg.1, hg.2.1, .inr rfl⟩
theorem allowed_one {c : Config} (hm : mayCfg c = true) (p a : Int) (w : Bool) (hp0 : 0 ≤ p) (hp : p < c.parts.length) (ha0 : 0 ≤ a) (ha : a < c.frames * 64) : allowed c p a 1 w = reach c p (a / 64) w := by
  unfold allowed
  rw [hm, within_one c p a w hp0 hp ha0 ha]
  rfl
theorem allowed_no {c : Config} (hm : mayCfg c = false) (p a n : Int) (w : Bool) : allowed c p a n w = false := by unfold allowed; rw [hm]; rfl
theorem allowed_out {c : Config} (p a n : Int) (w : Bool) (h : there c p = false) : allowed c p a n w = false := by unfold allowed within; rw [h]; simp
/-- How many of the first k partitions own the frame. -/
def manyK (o : Int) (k : Nat) : Int := if 0 ≤ o ∧ o < k then 1 else 0
theorem manyK_zero (o : Int) : manyK o 0 = 0 := by unfold manyK; rw [if_neg]; omega
theorem manyK_yes (o : Int) (k : Nat) (h : (o == (k : Int)) = true) : manyK o k = 0 ∧ manyK o (k + 1) = 1 := by
  have h : o = k := by simpa using h
  unfold manyK
  constructor
  · rw [if_neg]; omega
  · rw [if_pos]; omega
theorem manyK_no (o : Int) (k : Nat) (h : (o == (k : Int)) = false) : manyK o (k + 1) = manyK o k := by
  have h : o ≠ k := by simpa using h
  unfold manyK
  by_cases h0 : 0 ≤ o ∧ o < (k : Int)
  · rw [if_pos h0, if_pos]; omega
  · rw [if_neg h0, if_neg]; omega
theorem manyK_le (o : Int) (k : Nat) : 0 ≤ manyK o k ∧ manyK o k ≤ 1 := by unfold manyK; split <;> omega
end Go.Proofs.Ythjhkbnajclcjaa
