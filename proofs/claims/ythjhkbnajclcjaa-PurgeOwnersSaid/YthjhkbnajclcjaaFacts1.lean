/- Closed facts of the program that every row asks for, each by itself (together they are too great for one declaration). -/
import Derived.Test.YthjhkbnajclcjaaProg
import Derived.JoinedOf
import Derived.KernelRfl
namespace Go.Proofs.Ythjhkbnajclcjaa
theorem fact_laid : laidOutB Try.prog = true := by kernel_rfl
theorem fact_maps : mapsRowed Try.prog = true := by kernel_rfl
theorem fact_heard : Try.prog.stopsHeard = true := by kernel_rfl
theorem fact_enter : Try.prog.mayEnter = true := by kernel_rfl
end Go.Proofs.Ythjhkbnajclcjaa
