/- The law caisson/caissonlaw23.PurgeOwners: the given statement 'Rows.PurgeOwnersSaid', without conditions. -/
import Derived.Test.YthjhkbnajclcjaaRows
import Derived.Test.YthjhkbnajclcjaaPOwnW
import Derived.Test.YthjhkbnajclcjaaOpenF
import Derived.Test.YthjhkbnajclcjaaPost
import Derived.Test.YthjhkbnajclcjaaFacts1
import Derived.Test.YthjhkbnajclcjaaFacts2
import Derived.WalkKit
import Derived.ProofKit
import Derived.OpenShut
import Derived.SizedLaws
namespace Go.Proofs.Ythjhkbnajclcjaa
open Go.ChangeShapes Go.WideShapes Go.ChangeAt Go.RowKit
set_option linter.unusedVariables false

theorem purgeOwners_own : ownKnob Try.prog.godebug = none := by kernel_rfl
theorem purgeOwners_rec_ints : Try.prog.readableRec 38 = true := by kernel_rfl
theorem purgeOwners_row_ints : (38 : TypeId) < Try.prog.types.size := of_decide_eq_true (by kernel_rfl)

set_option maxRecDepth 100000 in
theorem purgeOwners_lifted (os : Os) (started : os.Started) (H : Type) (enc : TypeId × Value → H) :
    ReturnsInHanded {} Try.checked os 12 .any (Rows.purgeOwnersSpec.pre6 enc Try.prog Try.f12 Rows.purgeOwnersRow.domain false) (Rows.purgeOwnersSpec.post enc Try.prog Try.f12 false true false false) := by
  refine returnsInHanded_of_change_sized (C := Try.checked) purgeOwners_own started (by kernel_rfl) Try.func12
    (ChangeSpec.witness6 (enc := enc) (C := Try.checked) false ⟨#[], #[.slice none 0 0], []⟩ 8 (by kernel_rfl) (by kernel_rfl) (by kernel_rfl) (by kernel_rfl)) ?_
  intro W base args ds gs before hval0 hW hcnd hsz0 _
  have hval : ∀ (j : Nat) t v, Try.f12.params[j]? = some t → args[j]? = some v → Value.okWide Try.prog W .any base t v := hval0
  have hsz : (DataW.weightsEach Try.prog (Try.f12.params.toList ++ Rows.purgeOwnersSpec.plain.varTypes Try.prog) (ds ++ gs)).all (· ≤ reachBytes) = true := hsz0
  have hW' := hW
  obtain ⟨p, q, hA0, hV, rfl, hfz, hnd⟩ := hW
  have hA : DataW.TrodAll enc Try.prog W 0 (fun _ => true) true Try.f12.params.toList args.toList ds p := hA0
  rw [Try.params12] at hA hval hsz
  obtain ⟨v0, vs0, d0, ds0, p0, q0, hargs, rfl, rfl, h0, r0⟩ := trodAll_cons hA
  obtain ⟨rfl, rfl, rfl⟩ := trodAll_nil r0
  obtain rfl : args = #[v0] := by cases args; simp_all
  obtain ⟨rfl, rfl⟩ := trodVars_none hV
  obtain ⟨c0, k0, f0⟩ := open_slF opensF_ints Try.underlying38 (hval 0 38 v0 rfl rfl) h0 (all_each hsz (j := 0) rfl rfl)
  clear hA0 hval0 hsz0
  simp only [List.append_nil] at hW'
  refine (purgeOwners_law v0 c0 W k0).mono fun e W' ⟨he, hg⟩ => ?_
  subst he
  exact ⟨_, rfl, post_of_below (pa := (p0 ++ [])) (pv := []) hW' (fun _ _ _ => (trodAll_cons_mk (shut_bool Try.underlying4 _) trodAll_mk0))
    (fun sp hsp => (trodAll_cons_mk (WideElems.Trod_stays fact_laid purgeOwners_rec_ints purgeOwners_row_ints h0 (fun x hx => hg.same (hW'.lt x (by simp [hx]))) (fun x hx => hsp x (by simp [hx]))) trodAll_mk0))
    (fun _ _ => rfl) (by simp) hg (ok_one (by kernel_rfl) rfl (okWide_bool_mk Try.underlying4 _))⟩

theorem purgeOwners_joined : joinedFacts Try.prog 12 Try.f12 Rows.purgeOwnersSpec Rows.purgeOwnersRow = true := by
  unfold joinedFacts
  rw [fact_laid, fact_maps, fact_heard, fact_enter, fact_lift]
  kernel_rfl

theorem purgeOwners_over : Rows.purgeOwnersRow.holds Try.pinned (OpenSpec.ofChange Rows.purgeOwnersSpec) :=
  OpenClaim.holds_of_wide 12 Try.f12 rfl rfl rfl rfl rfl rfl rfl ⟨rfl, rfl, rfl, rfl, rfl⟩ rfl rfl rfl rfl rfl (by kernel_rfl) Try.func12 purgeOwners_joined
    (of_decide_eq_true (by kernel_rfl)) (by unfold Func.isWrapper; first | (rw [if_pos (by decide +kernel)]; kernel_rfl) | (rw [if_neg (by decide +kernel)]; exact ⟨rfl, rfl⟩))
    (fun os started H enc _ => purgeOwners_lifted os started H enc)

theorem purgeOwners_proved : Rows.PurgeOwnersSaid :=
  purgeOwners_over
#print axioms purgeOwners_proved
end Go.Proofs.Ythjhkbnajclcjaa
