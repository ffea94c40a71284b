/- What the laws of caissonlaw23 share: own slices laid open, beginnings of a purge. -/
import Derived.Test.YthjhkbnajclcjaaAwake23
namespace Go.Proofs.Ythjhkbnajclcjaa
open Go.RowKit

theorem Kind.Sl.open {α : Type} {d : Kind α} {w : World} {v : Value} {xs : List α} (h : d.Sl w v xs) {n : Nat} (hn : xs.length = n) :
    ∃ (A : Option Addr) (b o c : Nat), v = .slice A n c ∧ n ≤ c ∧ c ≤ 9223372036854775807 ∧ Hid (0 < n → A = some ⟨b, o, none⟩) ∧ Hid (∀ W, d.Sl W v xs → d.Row W b o xs) := by
  subst hn
  exact h.form
theorem purgeGo_take (c : Config) (t : Nat) : ∀ (xs : List Step) (s : PSt) (k : Nat), purgeGo c t s (xs.take k) = (purgeGo c t s xs).take k := by
  intro xs
  induction xs with
  | nil => intro s k; simp [purgeGo]
  | cons x xs ih =>
    intro s k
    cases k with
    | zero => simp [purgeGo]
    | succ k => simp only [List.take_succ_cons, purgeGo, ih]
theorem purge_take (c : Config) (p : Int) (xs : List Step) (k : Nat) : purge c (xs.take k) p = (purge c xs p).take k := by
  unfold purge
  split
  · exact purgeGo_take _ _ _ _ _
  · simp
theorem purge_length (c : Config) (p : Int) (xs : List Step) (h : purgeOk c p = true) : (purge c xs p).length = xs.length := by
  unfold purge
  rw [if_pos h, purgeGo_length]
theorem purge_none (c : Config) (p : Int) (xs : List Step) (h : purgeOk c p = false) : purge c xs p = [] := by
  unfold purge
  rw [if_neg (by simp [h])]
theorem purgeErr_some (c : Config) (p : Int) (h : purgeOk c p = true) : purgeErr c p = 0 := by unfold purgeErr; rw [if_pos h]
theorem purgeErr_none (c : Config) (p : Int) (h : purgeOk c p = false) : purgeErr c p = 2300 := by unfold purgeErr; rw [if_neg (by simp [h])]
theorem umodI' (x k : Int) (hk : 0 < k) (hk2 : k ≤ 4611686018427387904) : ∃ f : Nat, IntKind.i64.wrap ((IntKind.u64.wrap x).tmod k) = (f : Int) ∧ (f : Int) < k := by
  have h1 := Int.tmod_nonneg k (wrap_u64_nonneg x)
  have h2 := Int.tmod_lt_of_pos (IntKind.u64.wrap x) hk
  exact ⟨((IntKind.u64.wrap x).tmod k).toNat, by rw [IntWalk.i64_in _ (by omega)]; omega, by omega⟩
end Go.Proofs.Ythjhkbnajclcjaa
