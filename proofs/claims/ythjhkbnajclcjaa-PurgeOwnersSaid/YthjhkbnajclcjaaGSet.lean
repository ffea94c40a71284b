/- config.grants: the set of grants that have been seen: a map keyed by a struct. -/
import Derived.Test.YthjhkbnajclcjaaFrames
import Derived.Maps.Views
import Derived.DeepKeys4
namespace Go.Proofs.Ythjhkbnajclcjaa
open Go.RowKit
open Go.Maps (Keyed)

set_option maxRecDepth 100000
theorem Try.laidOut : laidOutB Try.prog = true := by kernel_rfl
theorem Try.rowGrant : (44 : TypeId) < Try.prog.types.size := of_decide_eq_true (by kernel_rfl)
theorem Try.wideGrant : (match Try.prog.underlying 44 with | some (.array _ _) | some (.struct _) => true | _ => false) = true := by rw [Try.underlying44]
theorem lawGrant : Keyed Try.prog 44 := Keyed.of_law (deep_law_laid Try.laidOut (m := 2) (by omega) Try.rowGrant (by kernel_rfl) Try.wideGrant)

/-- The key that config.grants asks for. -/
def gval (p : Int × Int) : Value := .agg #[.int .i64 p.1, .int .i64 p.2, .bool false]
theorem keyType_Grant : Try.prog.keyType 44 = true := by kernel_rfl
theorem cellsOf_Grant : Try.prog.cellsOf 44 = 3 := by kernel_rfl
theorem cellsOf_int : Try.prog.cellsOf 3 = 1 := by kernel_rfl
theorem cellsOf_bool : Try.prog.cellsOf 4 = 1 := by kernel_rfl
theorem key_some (p : Int × Int) (h1 : I64 p.1) (h2 : I64 p.2) : ∃ l, keyOf Try.prog 44 (gval p) = some l := by
  unfold I64 at h1 h2
  have e1 : IntKind.i64.min = -9223372036854775808 := rfl
  have e2 : IntKind.i64.max = 9223372036854775807 := rfl
  have w1 : (Lit.int .i64 p.1).wf = true := by simp [Lit.wf, e1, e2]; omega
  have w2 : (Lit.int .i64 p.2).wf = true := by simp [Lit.wf, e1, e2]; omega
  have hk : ∀ d, Try.prog.keyLits (d + 2) 44 [.int .i64 p.1, .int .i64 p.2, .bool false] = some [.int .i64 p.1, .int .i64 p.2, .bool false] := fun d => by
    simp [Program.keyLits, Try.underlying44, Try.underlying3, Try.underlying4, cellsOf_Grant, cellsOf_int, cellsOf_bool, w1, w2]
  generalize hn : Try.prog.types.size + 1 = n at *
  have hs : ∃ d, n = d + 2 := ⟨n - 2, by have h : (44 : Nat) < Try.prog.types.size := Try.rowGrant; omega⟩
  obtain ⟨d, hd⟩ := hs
  refine ⟨.string (keyBytes [.int .i64 p.1, .int .i64 p.2, .bool false]), ?_⟩
  unfold keyOf
  rw [Try.underlying44, hn, hd]
  simp only [keyType_Grant, gval, Value.formed, Try.underlying44, cellsOf_Grant, Value.cells]
  simp [hk]

/-- Block b is a map that holds just these keys, each with true. -/
def GSet (w : World) (b n : Nat) (s : List (Int × Int)) : Prop :=
  ∃ D : DataW Unit, w.ownsMap Try.prog 44 (plainElem Try.prog 4) b n D ∧ Go.Maps.IsMap D ∧ ∀ p l, keyOf Try.prog 44 (gval p) = some l → D.atKey l (.lit (.bool false)) = .lit (.bool (decide (p ∈ s)))
theorem zero_bool (w : World) : (zeroValue 4).run Try.prog w = .ok (.bool false) w := by kernel_rfl
theorem GSet.made (w : World) : GSet (w.alloc (.map #[] 0)) w.heap.size 0 [] :=
  ⟨.map [], World.ownsMap_made w _ _ _, Go.Maps.isMap_empty, fun p l _ => by simp [DataW.atKey]⟩
theorem GSet.lt {w : World} {b n : Nat} {s : List (Int × Int)} (h : GSet w b n s) : b < w.heap.size := h.elim fun _ h => h.1.lt
theorem GSet.bel {w w' : World} {b n : Nat} {s : List (Int × Int)} (h : GSet w b n s) (hb : Bel w w') : GSet w' b n s := by
  obtain ⟨D, h1, h2⟩ := h
  exact ⟨D, h1.kept (row := none) ⟨hb.os, hb.tape, hb.output, hb.size, fun k hk _ => hb.block k hk⟩ (by simp), h2⟩
theorem GSet.look {w : World} {b n : Nat} {s : List (Int × Int)} (h : GSet w b n s) (p : Int × Int) (h1 : I64 p.1) (h2 : I64 p.2) :
    (Instr.lookup 214 (.map (some b)) (gval p) false).run Try.prog w = .ok (.bool (decide (p ∈ s))) w := by
  obtain ⟨D, ho, hm, hat⟩ := h
  obtain ⟨l, hl⟩ := key_some p h1 h2
  obtain ⟨v, ps, hrun, hv⟩ := ho.lookup lawGrant Try.underlying214 (zero_bool w) (plainElem_bool Try.underlying4 false) hl
  rw [hat p l hl] at hv
  rw [hrun]
  unfold plainElem at hv
  rw [Try.underlying4] at hv
  cases v <;> simp at hv
  rw [hv.1]
theorem GSet.put {w : World} {b n : Nat} {s : List (Int × Int)} (h : GSet w b n s) (hn : n < 9223372036854775807) (p : Int × Int) (h1 : I64 p.1) (h2 : I64 p.2) :
    ∃ w', (Instr.mapUpdate 214 (.map (some b)) (gval p) (.bool true)).run Try.prog w = .ok () w' ∧ GSet w' b (n + 1) (p :: s) ∧ w.grownBy w' (some b) := by
  obtain ⟨D, ho, hm, hat⟩ := h
  obtain ⟨l, hl⟩ := key_some p h1 h2
  obtain ⟨w', hrun, ho', hg⟩ := ho.update lawGrant Try.underlying214 (by unfold maxLen; omega) hl (plainElem_bool Try.underlying4 true)
  refine ⟨w', hrun, ⟨_, ho', hm.put _ _, fun q lq hq => ?_⟩, hg⟩
  by_cases hqp : q = p
  · subst hqp
    rw [hl] at hq
    injection hq with hq
    subst hq
    rw [Go.Maps.atKey_put_same hm (lawGrant.key hl)]
    simp
  · have hne : lq ≠ l := fun e => by
      subst e
      have := lawGrant.inj hq hl
      unfold gval at this
      injection this with this
      simp at this
      exact hqp (Prod.ext this.1 this.2)
    rw [Go.Maps.atKey_put_other hne, hat q lq hq]
    simp [hqp]
end Go.Proofs.Ythjhkbnajclcjaa
