/- The plain law of Configs: the reference's rules on a config are the program's. -/
import Derived.Test.YthjhkbnajclcjaaWithin
namespace Go.Proofs.Ythjhkbnajclcjaa
open Go.RowKit

/-! ### frames: all there, all unlike: then they are no more than there are -/
theorem pigeon : ∀ (n : Nat) (xs : List Int), xs.Nodup → (∀ x ∈ xs, 0 ≤ x ∧ x < n) → xs.length ≤ n := by
  intro n
  induction n with
  | zero =>
    intro xs _ h
    cases xs with
    | nil => simp
    | cons x xs => have := h x (by simp); omega
  | succ n ih =>
    intro xs hn h
    have h1 := ih (xs.filter fun x => x != (n : Int)) (hn.sublist List.filter_sublist) (fun x hx => by
      have h2 := List.mem_filter.1 hx
      have h3 := h x h2.1
      have h4 : x ≠ (n : Int) := by simpa using h2.2
      omega)
    have h2 : xs.length ≤ (xs.filter fun x => x != (n : Int)).length + 1 := by
      clear ih h h1
      induction xs with
      | nil => simp
      | cons x xs ih2 =>
        have hx := List.nodup_cons.1 hn
        by_cases hxn : x = (n : Int)
        · have : xs.filter (fun y => y != (n : Int)) = xs := List.filter_eq_self.2 fun y hy => by
            have : y ≠ (n : Int) := fun e => hx.1 (by rw [hxn, ← e]; exact hy)
            simpa using this
          simp [hxn, this]
        · have := ih2 hx.2
          have hb : (x != (n : Int)) = true := by simpa using hxn
          simp only [List.filter_cons, hb, if_true, List.length_cons]
          omega
    omega
theorem once_ok : ∀ (n : Int) (xs s : List Int), (anyL (onceStep n) xs s).1 = false → xs.Nodup ∧ (∀ x ∈ xs, 0 ≤ x ∧ x < n ∧ x ∉ s) := by
  intro n xs
  induction xs with
  | nil => intro s _; exact ⟨List.nodup_nil, by simp⟩
  | cons x xs ih =>
    intro s h
    unfold anyL at h
    by_cases hx : 0 ≤ x ∧ x < n ∧ has s x = false
    · have hs : onceStep n s x = (false, x :: s) := by simp [onceStep, hx.1, hx.2.1, hx.2.2]
      rw [hs] at h
      simp only [Bool.false_eq_true, if_false] at h
      obtain ⟨h1, h2⟩ := ih _ h
      have h3 : x ∉ s := fun e => by have := (has_iff s x).2 e; rw [hx.2.2] at this; simp at this
      refine ⟨List.nodup_cons.2 ⟨fun e => (h2 x e).2.2 (by simp), h1⟩, fun y hy => ?_⟩
      rcases List.mem_cons.1 hy with rfl | hy
      · exact ⟨hx.1, hx.2.1, h3⟩
      · have := h2 y hy
        exact ⟨this.1, this.2.1, fun e => this.2.2 (by simp [e])⟩
    · have hs : onceStep n s x = (true, s) := by
        unfold onceStep
        rw [if_neg]
        simp only [Bool.and_eq_true, decide_eq_true_eq, Bool.not_eq_true']
        exact hx
      rw [hs] at h
      simp at h
theorem frames_short {c : Config} (h : framesRule c = true) : ∀ p ∈ c.parts, p.frames.length ≤ 64 := by
  simp only [framesRule, Bool.and_eq_true, decide_eq_true_eq, Bool.not_eq_true'] at h
  obtain ⟨h1, h2, h3⟩ := h
  obtain ⟨h4, h5⟩ := once_ok _ _ _ h3
  have h6 := pigeon c.frames.toNat (allFrames c) h4 (fun x hx => by have := h5 x hx; omega)
  intro p hp
  have h7 : p.frames.length ≤ (c.parts.flatMap fun p => p.frames).length := by
    clear h4 h5 h6 h3
    revert hp
    generalize c.parts = ps
    induction ps with
    | nil => intro hp; simp at hp
    | cons q ps ih =>
      intro hp
      rw [List.flatMap_cons, List.length_append]
      rcases List.mem_cons.1 hp with rfl | hp
      · omega
      · have := ih hp; omega
  unfold allFrames at h6
  rw [List.length_append] at h6
  omega

/-- The reference's rule on frames. -/
def partLen (p : Part) : Bool := decide (1 ≤ p.frames.length) && decide (p.frames.length ≤ 64)
def refFrames (c : Config) : Bool := c.parts.all partLen && (c.devices.all (devMay c) && !(anyL (onceStep c.frames) (allFrames c) []).1)
/-- The reference's last loop. -/
def refOwn (c : Config) : Nat → List Part → Bool
  | _, [] => true
  | i, p :: ps => hasWindow c i && (labelMay p.label && refOwn c (i + 1) ps)
def refNums (c : Config) : Bool := decide (0 ≤ c.quota) && (decide (c.quota ≤ 64) && (decide (1 ≤ c.quiet) && decide (c.quiet ≤ 8)))
def refHead (c : Config) : Bool := decide (1 ≤ c.frames) && (decide (c.frames ≤ 64) && (decide (1 ≤ c.parts.length) && (decide (c.parts.length ≤ 4) && (decide (1 ≤ c.devices.length) && decide (c.devices.length ≤ 4)))))
def refMay (c : Config) : Bool := refHead c && (refFrames c && (grantsRule c && (windowsRule c && (extMay c.parts c.sectors && (refOwn c 0 c.parts && refNums c)))))
theorem partsMay_iff (c : Config) : ∀ (ps : List Part) (i : Nat), partsMay c i ps = true ↔ refOwn c i ps = true ∧ ∀ p ∈ ps, 1 ≤ p.frames.length := by
  intro ps
  induction ps with
  | nil => intro i; simp [partsMay, refOwn]
  | cons p ps ih =>
    intro i
    simp only [partsMay, refOwn, Bool.and_eq_true, ih, decide_eq_true_eq, List.mem_cons, forall_eq_or_imp]
    constructor
    · rintro ⟨a, b, c, d, e⟩; exact ⟨⟨c, a, d⟩, b, e⟩
    · rintro ⟨⟨c, a, d⟩, b, e⟩; exact ⟨a, b, c, d, e⟩
theorem refMay_eq (c : Config) : refMay c = mayCfg c := by
  rw [Bool.eq_iff_iff]
  simp only [refMay, refHead, refFrames, refNums, mayCfg, mayRules, List.all_cons, List.all_nil, id, Bool.and_true, Bool.and_eq_true, partsRule, devicesRule, numbersRule, partsMay_iff, List.all_eq_true, partLen, decide_eq_true_eq, Bool.not_eq_true']
  constructor
  · rintro ⟨⟨a1, a2, a3, a4, a5, a6⟩, ⟨b1, b2, b3⟩, g, w, e, o, n1, n2, n3, n4⟩
    exact ⟨⟨⟨o, fun p hp => (b1 p hp).1⟩, a3, a4⟩, ⟨b2, a5, a6⟩, by simp [framesRule, a1, a2, b3], w, g, e, n1, n2, n3, n4⟩
  · rintro ⟨⟨⟨o, b1⟩, a3, a4⟩, ⟨b2, a5, a6⟩, f, w, g, e, n1, n2, n3, n4⟩
    have hs := frames_short f
    simp only [framesRule, Bool.and_eq_true, decide_eq_true_eq, Bool.not_eq_true'] at f
    exact ⟨⟨f.1, f.2.1, a3, a4, a5, a6⟩, ⟨fun p hp => ⟨b1 p hp, hs p hp⟩, b2, f.2.2⟩, g, w, e, o, n1, n2, n3, n4⟩

/-! ### marks: what runs cover -/
/-- Does one of some runs (start, length) cover a place? -/
def covers (pre : List (Int × Int)) (j : Int) : Bool := pre.any fun v => decide (v.1 ≤ j) && decide (j < v.1 + v.2)
theorem covers_iff (pre : List (Int × Int)) (j : Int) : covers pre j = true ↔ ∃ v ∈ pre, v.1 ≤ j ∧ j < v.1 + v.2 := by simp [covers]
def winRun (w : Window) : Int × Int := (w.start, w.len)
def extRun (p : Part) : Int × Int := (p.first, p.count)
/-- No place of a run is covered: the run is apart from each. -/
theorem win_apart_iff (pre : List Window) (x : Window) (hx : 1 ≤ x.len) (hp : ∀ y ∈ pre, WinOk y) : (pre.any fun v => !winApart v x) = true ↔ ∃ j, x.start ≤ j ∧ j < x.start + x.len ∧ covers (pre.map winRun) j = true := by
  simp only [List.any_eq_true, Bool.not_eq_true', covers_iff, winApart, Bool.or_eq_false_iff, decide_eq_false_iff_not]
  constructor
  · rintro ⟨v, hv, h1, h2⟩
    have hv' := hp v hv
    unfold WinOk at hv'
    refine ⟨max v.start x.start, by omega, by omega, winRun v, List.mem_map.2 ⟨v, hv, rfl⟩, ?_, ?_⟩
    · show v.start ≤ _; omega
    · show _ < v.start + v.len; omega
  · rintro ⟨j, h1, h2, r, hr, h3, h4⟩
    obtain ⟨v, hv, rfl⟩ := List.mem_map.1 hr
    have h3 : v.start ≤ j := h3
    have h4 : j < v.start + v.len := h4
    exact ⟨v, hv, by omega, by omega⟩
theorem ext_apart_iff (pre : List Part) (x : Part) (hx : 0 ≤ x.count) (hp : ∀ y ∈ pre, ExtOk y) : (pre.all fun q => extApart x q) = false ↔ ∃ j, x.first ≤ j ∧ j < x.first + x.count ∧ covers (pre.map extRun) j = true := by
  simp only [List.all_eq_false, covers_iff]
  constructor
  · rintro ⟨v, hv, h⟩
    simp only [extApart, Bool.or_eq_true, beq_iff_eq, decide_eq_true_eq] at h
    have h1 : x.count ≠ 0 := fun e => h (.inl e)
    have h2 : v.count ≠ 0 := fun e => h (.inr (.inl e))
    have h3 : ¬ x.first + x.count ≤ v.first := fun e => h (.inr (.inr (.inl e)))
    have h4 : ¬ v.first + v.count ≤ x.first := fun e => h (.inr (.inr (.inr e)))
    have hv' := hp v hv
    unfold ExtOk at hv'
    refine ⟨max v.first x.first, by omega, by omega, extRun v, List.mem_map.2 ⟨v, hv, rfl⟩, ?_, ?_⟩
    · show v.first ≤ _; omega
    · show _ < v.first + v.count; omega
  · rintro ⟨j, h1, h2, r, hr, h3, h4⟩
    obtain ⟨v, hv, rfl⟩ := List.mem_map.1 hr
    have h3 : v.first ≤ j := h3
    have h4 : j < v.first + v.count := h4
    refine ⟨v, hv, ?_⟩
    simp only [extApart, Bool.or_eq_true, beq_iff_eq, decide_eq_true_eq]
    omega
end Go.Proofs.Ythjhkbnajclcjaa
