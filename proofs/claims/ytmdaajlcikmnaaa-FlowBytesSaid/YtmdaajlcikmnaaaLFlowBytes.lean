/- FlowBytes: which bytes any flow is, how any two stand; unlike ones are unlike: for every input the law returns true and leaves its arguments as they were; no condition. -/
import Derived.Test.YtmdaajlcikmnaaaRows
import Derived.Test.YtmdaajlcikmnaaaG
import Derived.Test.YtmdaajlcikmnaaaAB
import Derived.Test.YtmdaajlcikmnaaaW
import Derived.Test.YtmdaajlcikmnaaaU
namespace Go.Proofs.Ytmdaajlcikmnaaa
open Go.ChangeShapes Go.WideShapes Go.ChangeAt Go.RowKit

theorem flowBytes_lifted (os : Os) (started : os.Started) (H : Type) (enc : TypeId × Value → H) :
    ReturnsInHanded {} Try.checked os 15 .any (Rows.flowBytesSpec.pre6 enc Try.prog Try.f15 Rows.flowBytesRow.domain false) (Rows.flowBytesSpec.post enc Try.prog Try.f15 false true false false) := by
  refine law_lifted (C := Try.checked) (tb := 4) os started H enc Try.own Try.laidOut (by kernel_rfl) Try.func15 Try.underlying4 rfl (by kernel_rfl) rfl ?_
    (ChangeSpec.witness6 (enc := enc) (C := Try.checked) false ⟨#[], #[.agg #[.int .u32 0, .int .u32 0, .int .u16 0, .int .u16 0, .int .u8 0], .agg #[.int .u32 0, .int .u32 0, .int .u16 0, .int .u16 0, .int .u8 0]], []⟩ 8 (by kernel_rfl) (by kernel_rfl) (by kernel_rfl) (by kernel_rfl)) ?_
  · intro ds h
    rw [Try.params15] at h
    simp at h
    match ds, h with
    | [_, _], _ => rfl
  · intro W vs h
    rw [Try.params15] at h
    obtain ⟨v0, vs, rfl, h0, h⟩ := Args.cons h
    obtain ⟨v1, vs, rfl, h1, h⟩ := Args.cons h
    obtain rfl := Args.nil h
    obtain ⟨f0, rfl, o0⟩ := h0.flw
    obtain ⟨f1, rfl, o1⟩ := h1.flw
    exact flowBytes_walk f0 f1 W o0 o1

theorem flowBytes_holds : Rows.FlowBytesSaid :=
  OpenClaim.holds_of_wide 15 Try.f15 rfl rfl rfl rfl rfl rfl rfl ⟨rfl, rfl, rfl, rfl, rfl⟩ rfl rfl rfl rfl rfl (by kernel_rfl) Try.func15 (by kernel_rfl)
    (of_decide_eq_true (by kernel_rfl)) (by unfold Func.isWrapper; first | (rw [if_pos (by decide +kernel)]; kernel_rfl) | (rw [if_neg (by decide +kernel)]; exact ⟨rfl, rfl⟩))
    (fun os started H enc _ => flowBytes_lifted os started H enc)

end Go.Proofs.Ytmdaajlcikmnaaa
