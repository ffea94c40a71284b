/- A closed fact of the program that every row asks for. -/
import Derived.Test.YthjhkbnajclcjaaProg
import Derived.JoinedOf
import Derived.KernelRfl
namespace Go.Proofs.Ythjhkbnajclcjaa
theorem fact_lift : Try.prog.liftsFinal = false := by kernel_rfl
end Go.Proofs.Ythjhkbnajclcjaa
