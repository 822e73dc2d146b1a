/- Two facts of the program that every frame wants. -/
import Derived.Test.YtmdaajlcikmnaaaProg
import Derived.KernelRfl
import Derived.ChangeOld
import Derived.ProofKit
namespace Go.Proofs.Ytmdaajlcikmnaaa
theorem Try.own : ownKnob Try.prog.godebug = none := by kernel_rfl
theorem Try.laidOut : laidOutB Try.prog = true := by kernel_rfl
end Go.Proofs.Ytmdaajlcikmnaaa
