/- Two facts of the program that every frame wants. -/
import Derived.Test.YthjojkkapboonaaProg
import Derived.KernelRfl
import Derived.ChangeOld
import Derived.ProofKit
namespace Go.Proofs.Ythjojkkapboonaa
set_option linter.unusedSimpArgs false
set_option linter.unusedVariables false
theorem Try.own : ownKnob Try.prog.godebug = none := by kernel_rfl
theorem Try.laidOut : laidOutB Try.prog = true := by kernel_rfl
end Go.Proofs.Ythjojkkapboonaa
