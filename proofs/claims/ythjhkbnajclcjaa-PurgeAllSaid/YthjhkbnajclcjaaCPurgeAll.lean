/- The law caisson/caissonlaw23.PurgeAll: the given statement 'Rows.PurgeAllSaid', without conditions. -/
import Derived.Test.YthjhkbnajclcjaaRows
import Derived.Test.YthjhkbnajclcjaaPAllW
import Derived.Test.YthjhkbnajclcjaaOpenF
import Derived.Test.YthjhkbnajclcjaaPost
import Derived.Test.YthjhkbnajclcjaaFacts1
import Derived.Test.YthjhkbnajclcjaaFacts2
import Derived.WalkKit
import Derived.ProofKit
import Derived.OpenShut
import Derived.SizedLaws
namespace Go.Proofs.Ythjhkbnajclcjaa
open Go.ChangeShapes Go.WideShapes Go.ChangeAt Go.RowKit
set_option linter.unusedVariables false

theorem purgeAll_own : ownKnob Try.prog.godebug = none := by kernel_rfl
theorem purgeAll_rec_steps : Try.prog.readableRec 49 = true := by kernel_rfl
theorem purgeAll_row_steps : (49 : TypeId) < Try.prog.types.size := of_decide_eq_true (by kernel_rfl)

set_option maxRecDepth 100000 in
theorem purgeAll_lifted (os : Os) (started : os.Started) (H : Type) (enc : TypeId × Value → H) :
    ReturnsInHanded {} Try.checked os 14 .any (Rows.purgeAllSpec.pre6 enc Try.prog Try.f14 Rows.purgeAllRow.domain false) (Rows.purgeAllSpec.post enc Try.prog Try.f14 false true false false) := by
  refine returnsInHanded_of_change_sized (C := Try.checked) purgeAll_own started (by kernel_rfl) Try.func14
    (ChangeSpec.witness6 (enc := enc) (C := Try.checked) false ⟨#[], #[.slice none 0 0], []⟩ 8 (by kernel_rfl) (by kernel_rfl) (by kernel_rfl) (by kernel_rfl)) ?_
  intro W base args ds gs before hval0 hW hcnd hsz0 _
  have hval : ∀ (j : Nat) t v, Try.f14.params[j]? = some t → args[j]? = some v → Value.okWide Try.prog W .any base t v := hval0
  have hsz : (DataW.weightsEach Try.prog (Try.f14.params.toList ++ Rows.purgeAllSpec.plain.varTypes Try.prog) (ds ++ gs)).all (· ≤ reachBytes) = true := hsz0
  have hW' := hW
  obtain ⟨p, q, hA0, hV, rfl, hfz, hnd⟩ := hW
  have hA : DataW.TrodAll enc Try.prog W 0 (fun _ => true) true Try.f14.params.toList args.toList ds p := hA0
  rw [Try.params14] at hA hval hsz
  obtain ⟨v0, vs0, d0, ds0, p0, q0, hargs, rfl, rfl, h0, r0⟩ := trodAll_cons hA
  obtain ⟨rfl, rfl, rfl⟩ := trodAll_nil r0
  obtain rfl : args = #[v0] := by cases args; simp_all
  obtain ⟨rfl, rfl⟩ := trodVars_none hV
  obtain ⟨c0, k0, f0⟩ := open_slF opensF_Steps Try.underlying49 (hval 0 49 v0 rfl rfl) h0 (all_each hsz (j := 0) rfl rfl)
  clear hA0 hval0 hsz0
  simp only [List.append_nil] at hW'
  refine (purgeAll_law v0 c0 W k0 f0.1).mono fun e W' ⟨he, hg⟩ => ?_
  subst he
  exact ⟨_, rfl, post_of_below (pa := (p0 ++ [])) (pv := []) hW' (fun _ _ _ => (trodAll_cons_mk (shut_bool Try.underlying4 _) trodAll_mk0))
    (fun sp hsp => (trodAll_cons_mk (WideElems.Trod_stays fact_laid purgeAll_rec_steps purgeAll_row_steps h0 (fun x hx => hg.same (hW'.lt x (by simp [hx]))) (fun x hx => hsp x (by simp [hx]))) trodAll_mk0))
    (fun _ _ => rfl) (by simp) hg (ok_one (by kernel_rfl) rfl (okWide_bool_mk Try.underlying4 _))⟩

theorem purgeAll_joined : joinedFacts Try.prog 14 Try.f14 Rows.purgeAllSpec Rows.purgeAllRow = true := by
  unfold joinedFacts
  rw [fact_laid, fact_maps, fact_heard, fact_enter, fact_lift]
  kernel_rfl

theorem purgeAll_over : Rows.purgeAllRow.holds Try.pinned (OpenSpec.ofChange Rows.purgeAllSpec) :=
  OpenClaim.holds_of_wide 14 Try.f14 rfl rfl rfl rfl rfl rfl rfl ⟨rfl, rfl, rfl, rfl, rfl⟩ rfl rfl rfl rfl rfl (by kernel_rfl) Try.func14 purgeAll_joined
    (of_decide_eq_true (by kernel_rfl)) (by unfold Func.isWrapper; first | (rw [if_pos (by decide +kernel)]; kernel_rfl) | (rw [if_neg (by decide +kernel)]; exact ⟨rfl, rfl⟩))
    (fun os started H enc _ => purgeAll_lifted os started H enc)

theorem purgeAll_proved : Rows.PurgeAllSaid :=
  purgeAll_over
#print axioms purgeAll_proved
end Go.Proofs.Ythjhkbnajclcjaa
