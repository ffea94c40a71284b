/- A region that draws its order: what is held may grow on the way. -/
import Derived.Test.YthjhkbnajclcjaaDraw
namespace Go.Proofs.Ythjhkbnajclcjaa
theorem wpAnyH_mono {P : Program} {md : Region.Mode} {ops : Array Oper} {Q : Exit → Act → World → Prop} {S S' : World → Prop} (hs : ∀ w, S' w → S w) : ∀ (fuel : Nat) (listed : Array Bool) (a : Act) (w : World), wpAnyH P md ops Q S' fuel listed a w → wpAnyH P md ops Q S fuel listed a w
  | 0, _, _, _, h => h
  | fuel + 1, _, _, _, h => ⟨h.1, fun i hi => wpOp_mono (fun _ _ h' => ⟨hs _ h'.1, wpAnyH_mono hs fuel _ _ _ h'.2⟩) (h.2 i hi)⟩
end Go.Proofs.Ythjhkbnajclcjaa
