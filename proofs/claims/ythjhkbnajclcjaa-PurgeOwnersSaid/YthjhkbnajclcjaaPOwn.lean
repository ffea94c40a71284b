/- caissonlaw23.PurgeOwners: what a purge of one device's steps leaves, in plain Lean. -/
import Derived.Test.YthjhkbnajclcjaaPCalls
namespace Go.Proofs.Ythjhkbnajclcjaa
open Go.RowKit

inductive OOp where
  | tick
  | move (p : Int)
  | req (k : Int)
structure OSt where
  owner : Int
  dest : Int
  left : Int
def OOp.step : OOp → Step
  | .tick => kd 1
  | .move p => ⟨2, 0, 1, p, 0, 0, ⟨#[]⟩⟩
  | .req k => ⟨k, 0, 1, 5, 0, 0, ⟨#[]⟩⟩
def OOp.Ok : OOp → Prop
  | .tick => True
  | .move p => 0 ≤ p ∧ p < 3
  | .req k => k = 3 ∨ k = 4
def OSt.keep (o : OSt) : OOp → Bool
  | .tick => true
  | .move _ => true
  | .req _ => o.owner == 2 || o.owner == 0
def OSt.next (o : OSt) : OOp → OSt
  | .tick => if 0 < o.left then (if o.left - 1 = 0 then ⟨o.dest, o.dest, o.left - 1⟩ else ⟨o.owner, o.dest, o.left - 1⟩) else o
  | .move p => if o.left = 0 then ⟨-1, p, 2⟩ else o
  | .req _ => o
def OSt.run (o : OSt) (xs : List OOp) : OSt := xs.foldl OSt.next o
def OSt.keeps : OSt → List OOp → List Bool
  | _, [] => []
  | o, x :: xs => o.keep x :: (o.next x).keeps xs
def OSt.outs : OSt → List OOp → List Step
  | _, [] => []
  | o, x :: xs => (if o.keep x then x.step else zeroStep) :: (o.next x).outs xs
theorem OSt.run_snoc (o : OSt) (xs : List OOp) (x : OOp) : o.run (xs ++ [x]) = (o.run xs).next x := by simp [OSt.run]
theorem OSt.keeps_snoc (xs : List OOp) (x : OOp) : ∀ o : OSt, o.keeps (xs ++ [x]) = o.keeps xs ++ [(o.run xs).keep x] := by
  induction xs with
  | nil => intro o; rfl
  | cons y xs ih =>
    intro o
    simp only [List.cons_append, OSt.keeps, ih]
    rfl
theorem OSt.keeps_length (xs : List OOp) : ∀ o : OSt, (o.keeps xs).length = xs.length := by
  induction xs with
  | nil => intro o; rfl
  | cons y xs ih => intro o; simp [OSt.keeps, ih]
theorem OSt.outs_length (xs : List OOp) : ∀ o : OSt, (o.outs xs).length = xs.length := by
  induction xs with
  | nil => intro o; rfl
  | cons y xs ih => intro o; simp [OSt.outs, ih]
theorem OSt.outs_get (xs : List OOp) : ∀ (o : OSt) (k : Nat) (h : k < xs.length) (h1 : k < (o.outs xs).length) (h2 : k < (o.keeps xs).length), (o.outs xs)[k] = if (o.keeps xs)[k] then xs[k].step else zeroStep := by
  induction xs with
  | nil => intro o k h; simp at h
  | cons y xs ih =>
    intro o k h h1 h2
    cases k with
    | zero => rfl
    | succ k => exact ih (o.next y) k _ _ _
/-- The purge's table and the law's own variables. -/
structure ORel (s : PSt) (o : OSt) : Prop where
  tab : ∃ p l : Int, s.tab = [⟨0, 0⟩, ⟨p, l⟩] ∧ o.left = l ∧ 0 ≤ p ∧ p < 3 ∧ 0 ≤ l ∧ l ≤ 2 ∧ (0 < l → o.owner = -1 ∧ o.dest = p) ∧ (l = 0 → o.owner = p)
theorem owner_flows (x : Int) : flowsTo plainCfg 2 x = (x == 2 || x == 0) := by
  rw [Bool.eq_iff_iff, plain_flowsTo x 2 (by omega)]
  simp only [Bool.or_eq_true, beq_iff_eq]
  omega
theorem ORel.step {s : PSt} {o : OSt} (h : ORel s o) (x : OOp) (hx : x.Ok) (ht : s.tick < 1048575) : (stays plainCfg 2 s x.step).1 = o.keep x ∧ ORel (stays plainCfg 2 s x.step).2 (o.next x) ∧ (stays plainCfg 2 s x.step).2.tick ≤ s.tick + 1 := by
  obtain ⟨p, l, htab, hl, hp0, hp3, hl0, hl2, hpos, hzero⟩ := h.tab
  obtain ⟨tab, tick⟩ := s
  obtain ⟨ow, dest, left⟩ := o
  simp only at htab hl hpos hzero ht
  subst htab hl
  cases x with
  | tick =>
    have e : stays plainCfg 2 ⟨[⟨0, 0⟩, ⟨p, left⟩], tick⟩ (OOp.step .tick) = (true, ⟨tickT [⟨0, 0⟩, ⟨p, left⟩], tick + 1⟩) := by
      unfold stays OOp.step kd
      simp [isCall, ht]
    rw [e]
    refine ⟨rfl, ⟨?_⟩, by simp⟩
    simp only [tickT, List.map_cons, List.map_nil, tick1]
    by_cases h0 : left = 0
    · subst h0
      refine ⟨p, 0, by simp, ?_⟩
      simp only [OSt.next]
      rw [if_neg (by omega)]
      exact ⟨rfl, hp0, hp3, by omega, by omega, hpos, fun _ => hzero rfl⟩
    · have hb : (left == 0) = false := by simpa using h0
      refine ⟨p, left - 1, by simp [hb], ?_⟩
      obtain ⟨g1, g2⟩ := hpos (by omega)
      simp only [OSt.next]
      rw [if_pos (by omega)]
      split
      · refine ⟨rfl, hp0, hp3, by omega, by omega, fun h => by omega, fun _ => g2⟩
      · refine ⟨rfl, hp0, hp3, by omega, by omega, fun h => ⟨g1, g2⟩, fun h => by omega⟩
  | move q =>
    obtain ⟨hq0, hq3⟩ := hx
    have e : stays plainCfg 2 ⟨[⟨0, 0⟩, ⟨p, left⟩], tick⟩ (OOp.step (.move q)) = (true, ⟨moveT 2 3 [⟨0, 0⟩, ⟨p, left⟩] 1 q, tick⟩) := by
      unfold stays OOp.step
      simp [isCall]
      rfl
    rw [e]
    refine ⟨rfl, ⟨?_⟩, by simp; omega⟩
    unfold moveT mayMove
    by_cases h0 : left = 0
    · subst h0
      refine ⟨q, 2, by simp [inB, stAt, hq0, hq3], ?_⟩
      simp only [OSt.next]
      rw [if_pos trivial]
      exact ⟨rfl, hq0, hq3, by omega, by omega, fun _ => ⟨rfl, rfl⟩, fun h => by omega⟩
    · have hlt : 0 < left := by omega
      refine ⟨p, left, by simp [inB, stAt, hlt], ?_⟩
      simp only [OSt.next]
      rw [if_neg h0]
      exact ⟨rfl, hp0, hp3, hl0, hl2, hpos, hzero⟩
  | req k =>
    have e : stays plainCfg 2 ⟨[⟨0, 0⟩, ⟨p, left⟩], tick⟩ (OOp.step (.req k)) = (flowsTo plainCfg 2 (ownerT [⟨0, 0⟩, ⟨p, left⟩] 1), ⟨[⟨0, 0⟩, ⟨p, left⟩], tick⟩) := by
      unfold stays OOp.step
      rcases hx with rfl | rfl <;> simp [isCall]
    rw [e]
    refine ⟨?_, ⟨p, left, rfl, rfl, hp0, hp3, hl0, hl2, hpos, hzero⟩, by simp; omega⟩
    rw [owner_flows]
    have ho : ownerT [⟨0, 0⟩, ⟨p, left⟩] 1 = if 0 < left then -1 else p := by
      unfold ownerT
      by_cases h0 : 0 < left <;> simp [inB, stAt, h0]
    rw [ho]
    simp only [OSt.keep]
    split
    · rw [(hpos ‹_›).1]
    · rw [hzero (by omega)]
theorem owners_go : ∀ (xs : List OOp) (s : PSt) (o : OSt), ORel s o → (∀ x ∈ xs, x.Ok) → s.tick + xs.length ≤ 1048575 → purgeGo plainCfg 2 s (xs.map OOp.step) = o.outs xs := by
  intro xs
  induction xs with
  | nil => intro s o _ _ _; rfl
  | cons x xs ih =>
    intro s o hr hx ht
    simp only [List.length_cons] at ht
    obtain ⟨g1, g2, g3⟩ := hr.step x (hx x (by simp)) (by omega)
    simp only [List.map_cons, purgeGo, OSt.outs, g1]
    rw [ih _ _ g2 (fun y hy => hx y (by simp [hy])) (by omega)]
def owInit : OSt := ⟨2, 0, 0⟩
theorem purge_owners (xs : List OOp) (hx : ∀ x ∈ xs, x.Ok) (hl : xs.length ≤ 40) : purge plainCfg (xs.map OOp.step) 2 = owInit.outs xs := by
  have e : purge plainCfg (xs.map OOp.step) 2 = purgeGo plainCfg 2 (initP plainCfg) (xs.map OOp.step) := by unfold purge; rw [if_pos (show purgeOk plainCfg 2 = true from plain_ok 2 (by omega))]; rfl
  rw [e]
  refine owners_go xs _ _ ⟨2, 0, rfl, rfl, by omega, by omega, by omega, by omega, fun h => by omega, fun _ => rfl⟩ hx ?_
  show (0 : Int) + xs.length ≤ _
  omega
end Go.Proofs.Ythjhkbnajclcjaa
