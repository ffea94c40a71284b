/- What a purge leaves, in plain Lean: whose devices are, step by step. -/
import Derived.Test.YthjhkbnajclcjaaViewP
import Derived.Test.YthjhkbnajclcjaaOpenF
namespace Go.Proofs.Ythjhkbnajclcjaa
open Go.RowKit

/-- Whose a device is, or will be when no ticks are left. -/
structure St where
  part : Int
  left : Int
  deriving DecidableEq
def inB (n : Nat) (d : Int) : Bool := decide (0 ≤ d) && decide (d < (n : Int))
theorem inB_iff (n : Nat) (d : Int) : inB n d = true ↔ 0 ≤ d ∧ d < (n : Int) := by simp [inB]
def stAt (all : List St) (d : Int) : St := (all[d.toNat]?).getD ⟨0, 0⟩
def ownerT (all : List St) (d : Int) : Int := if inB all.length d && !decide (0 < (stAt all d).left) then (stAt all d).part else -1
def mayMove (parts : Int) (all : List St) (d t : Int) : Bool := inB all.length d && (decide (0 ≤ t) && (decide (t < parts) && !decide (0 < (stAt all d).left)))
def moveT (quiet parts : Int) (all : List St) (d t : Int) : List St := if mayMove parts all d t then all.set d.toNat ⟨t, quiet⟩ else all
def tick1 (s : St) : St := if s.left == 0 then s else ⟨s.part, s.left - 1⟩
def tickT (all : List St) : List St := all.map tick1
/-- What a table always holds. -/
def TabOk (parts : Int) (all : List St) : Prop := 1 ≤ all.length ∧ all.length ≤ 4 ∧ ∀ s ∈ all, 0 ≤ s.part ∧ s.part < parts ∧ 0 ≤ s.left ∧ s.left ≤ 8
theorem TabOk.move {quiet parts : Int} {all : List St} (h : TabOk parts all) (hq : 1 ≤ quiet ∧ quiet ≤ 8) (d t : Int) : TabOk parts (moveT quiet parts all d t) := by
  unfold moveT
  split
  · rename_i hm
    simp only [mayMove, Bool.and_eq_true, decide_eq_true_eq] at hm
    refine ⟨by simpa using h.1, by simpa using h.2.1, fun s hs => ?_⟩
    rcases List.mem_or_eq_of_mem_set hs with hs | rfl
    · exact h.2.2 s hs
    · exact ⟨hm.2.1, hm.2.2.1, by show 0 ≤ quiet; omega, by show quiet ≤ 8; omega⟩
  · exact h
theorem TabOk.tick {parts : Int} {all : List St} (h : TabOk parts all) : TabOk parts (tickT all) := by
  refine ⟨by simpa [tickT] using h.1, by simpa [tickT] using h.2.1, fun s hs => ?_⟩
  obtain ⟨x, hx, rfl⟩ := List.mem_map.1 hs
  have := h.2.2 x hx
  unfold tick1
  split
  · exact this
  · rename_i hl
    have hl : x.left ≠ 0 := by simpa using hl
    exact ⟨this.1, this.2.1, by show 0 ≤ x.left - 1; omega, by show x.left - 1 ≤ 8; omega⟩
theorem moveT_length (quiet parts : Int) (all : List St) (d t : Int) : (moveT quiet parts all d t).length = all.length := by unfold moveT; split <;> simp
theorem tickT_length (all : List St) : (tickT all).length = all.length := by simp [tickT]

/-- A purge's state. -/
structure PSt where
  tab : List St
  tick : Int
def isCall (k : Int) : Bool := decide (5 ≤ k) && decide (k ≤ 16)
def flowsTo (c : Config) (t : Nat) (p : Int) : Bool := inB c.parts.length p && flowsRow c p.toNat t
def stays (c : Config) (t : Nat) (s : PSt) (x : Step) : Bool × PSt :=
  if isCall x.kind then (flowsTo c t x.part, s)
  else if x.kind == 3 || x.kind == 4 then (flowsTo c t (ownerT s.tab x.device), s)
  else if x.kind == 2 then (true, { s with tab := moveT c.quiet c.parts.length s.tab x.device x.a })
  else if x.kind == 1 && decide (s.tick < 1048575) then (true, ⟨tickT s.tab, s.tick + 1⟩)
  else (true, s)
def zeroStep : Step := ⟨0, 0, 0, 0, 0, 0, ⟨#[]⟩⟩
def purgeGo (c : Config) (t : Nat) : PSt → List Step → List Step
  | _, [] => []
  | s, x :: xs => (if (stays c t s x).1 then x else zeroStep) :: purgeGo c t (stays c t s x).2 xs
def initP (c : Config) : PSt := ⟨c.devices.map fun d => ⟨d.part, 0⟩, 0⟩
def purgeOk (c : Config) (p : Int) : Bool := mayCfg c && there c p
def purge (c : Config) (steps : List Step) (p : Int) : List Step := if purgeOk c p then purgeGo c p.toNat (initP c) steps else []
def purgeErr (c : Config) (p : Int) : Int := if purgeOk c p then 0 else 2300
theorem purgeGo_length (c : Config) (t : Nat) : ∀ (xs : List Step) (s : PSt), (purgeGo c t s xs).length = xs.length := by
  intro xs
  induction xs with
  | nil => intro s; rfl
  | cons x xs ih => intro s; simp [purgeGo, ih]
theorem mayCfg_devs {c : Config} (h : mayCfg c = true) : 1 ≤ c.devices.length ∧ c.devices.length ≤ 4 ∧ (∀ d ∈ c.devices, 0 ≤ d.part ∧ d.part < (c.parts.length : Int)) ∧ 1 ≤ c.quiet ∧ c.quiet ≤ 8 := by
  simp only [mayCfg, mayRules, List.all_cons, List.all_nil, Bool.and_true, Bool.and_eq_true, id, devicesRule, numbersRule, decide_eq_true_eq, List.all_eq_true, devMay, there_iff] at h
  obtain ⟨-, ⟨h1, h2, h3⟩, -, -, -, -, -, -, h4, h5⟩ := h
  exact ⟨h2, h3, fun d hd => (h1 d hd).1, h4, h5⟩
theorem initP_ok {c : Config} (h : mayCfg c = true) : TabOk c.parts.length (initP c).tab := by
  obtain ⟨h1, h2, h3, -⟩ := mayCfg_devs h
  refine ⟨by simpa [initP] using h1, by simpa [initP] using h2, fun s hs => ?_⟩
  obtain ⟨d, hd, rfl⟩ := List.mem_map.1 hs
  have := h3 d hd
  exact ⟨this.1, this.2, by simp, by simp⟩
/-- What stays in a state. -/
structure POk (c : Config) (s : PSt) : Prop where
  tab : TabOk c.parts.length s.tab
  len : s.tab.length = c.devices.length
  tick : 0 ≤ s.tick ∧ s.tick ≤ 1048575
theorem POk.stays {c : Config} {s : PSt} (h : POk c s) (hq : 1 ≤ c.quiet ∧ c.quiet ≤ 8) (t : Nat) (x : Step) : POk c (Go.Proofs.Ythjhkbnajclcjaa.stays c t s x).2 := by
  unfold Go.Proofs.Ythjhkbnajclcjaa.stays
  repeat' split
  · exact h
  · exact h
  · exact ⟨h.tab.move hq _ _, by rw [← h.len]; exact moveT_length _ _ _ _ _, h.tick⟩
  · rename_i hk
    simp only [Bool.and_eq_true, decide_eq_true_eq] at hk
    exact ⟨h.tab.tick, by rw [← h.len]; exact tickT_length _, by have := h.tick; show 0 ≤ s.tick + 1; omega, by show s.tick + 1 ≤ _; omega⟩
  · exact h
end Go.Proofs.Ythjhkbnajclcjaa
