/- FlowOf: which flow any packet is of, or why of none: for every input the law returns true and leaves its arguments as they were; no condition. -/
import Derived.Test.YtmdaajlcikmnaaaRows
import Derived.Test.YtmdaajlcikmnaaaG
import Derived.Test.YtmdaajlcikmnaaaY
import Derived.Test.YtmdaajlcikmnaaaW
import Derived.Test.YtmdaajlcikmnaaaU
namespace Go.Proofs.Ytmdaajlcikmnaaa
open Go.ChangeShapes Go.WideShapes Go.ChangeAt Go.RowKit

theorem flowOf_lifted (os : Os) (started : os.Started) (H : Type) (enc : TypeId × Value → H) :
    ReturnsInHanded {} Try.checked os 6 .any (Rows.flowOfSpec.pre6 enc Try.prog Try.f6 Rows.flowOfRow.domain false) (Rows.flowOfSpec.post enc Try.prog Try.f6 false true false false) := by
  refine law_lifted (C := Try.checked) (tb := 4) os started H enc Try.own Try.laidOut (by kernel_rfl) Try.func6 Try.underlying4 rfl (by kernel_rfl) rfl ?_
    (ChangeSpec.witness6 (enc := enc) (C := Try.checked) false ⟨#[], #[.agg #[.int .u8 0, .int .u16 0, .bool false, .bool false, .int .u16 0, .int .u8 0, .int .u8 0, .int .u32 0, .int .u32 0, .slice none 0 0, .slice none 0 0]], []⟩ 8 (by kernel_rfl) (by kernel_rfl) (by kernel_rfl) (by kernel_rfl)) ?_
  · intro ds h
    rw [Try.params6] at h
    simp at h
    match ds, h with
    | [_], _ => rfl
  · intro W vs h
    rw [Try.params6] at h
    obtain ⟨v0, vs, rfl, h0, h⟩ := Args.cons h
    obtain rfl := Args.nil h
    obtain ⟨p0, lo0, ld0, rfl, o0, bo0, bd0⟩ := h0.pkt
    exact flowOf_walk p0 lo0 ld0 W o0 bo0 bd0

theorem flowOf_holds : Rows.FlowOfSaid :=
  OpenClaim.holds_of_wide 6 Try.f6 rfl rfl rfl rfl rfl rfl rfl ⟨rfl, rfl, rfl, rfl, rfl⟩ rfl rfl rfl rfl rfl (by kernel_rfl) Try.func6 (by kernel_rfl)
    (of_decide_eq_true (by kernel_rfl)) (by unfold Func.isWrapper; first | (rw [if_pos (by decide +kernel)]; kernel_rfl) | (rw [if_neg (by decide +kernel)]; exact ⟨rfl, rfl⟩))
    (fun os started H enc _ => flowOf_lifted os started H enc)

end Go.Proofs.Ytmdaajlcikmnaaa
