/- SumKeeps: a sum that is turned with what it sums up is that of what there is then: for every input the law returns true and leaves its arguments as they were; no condition. -/
import Derived.Test.YtmdaajlcikmnaaaRows
import Derived.Test.YtmdaajlcikmnaaaG
import Derived.Test.YtmdaajlcikmnaaaK
import Derived.Test.YtmdaajlcikmnaaaU
namespace Go.Proofs.Ytmdaajlcikmnaaa
open Go.ChangeShapes Go.WideShapes Go.ChangeAt Go.RowKit

theorem sumKeeps_lifted (os : Os) (started : os.Started) (H : Type) (enc : TypeId × Value → H) :
    ReturnsInHanded {} Try.checked os 8 .any (Rows.sumKeepsSpec.pre6 enc Try.prog Try.f8 Rows.sumKeepsRow.domain false) (Rows.sumKeepsSpec.post enc Try.prog Try.f8 false true false false) := by
  refine law_lifted (C := Try.checked) (tb := 4) os started H enc Try.own Try.laidOut (by kernel_rfl) Try.func8 Try.underlying4 rfl (by kernel_rfl) rfl ?_
    (ChangeSpec.witness6 (enc := enc) (C := Try.checked) false ⟨#[], #[.slice none 0 0, .int .i64 0, .int .u16 0], []⟩ 8 (by kernel_rfl) (by kernel_rfl) (by kernel_rfl) (by kernel_rfl)) ?_
  · intro ds h
    rw [Try.params8] at h
    simp at h
    match ds, h with
    | [_, _, _], _ => rfl
  · intro W vs h
    rw [Try.params8] at h
    obtain ⟨v0, vs, rfl, h0, h⟩ := Args.cons h
    obtain ⟨v1, vs, rfl, h1, h⟩ := Args.cons h
    obtain ⟨v2, vs, rfl, h2, h⟩ := Args.cons h
    obtain rfl := Args.nil h
    obtain ⟨l0, b0⟩ := h0.bytes Try.underlying38 Try.underlying5 (by kernel_rfl)
    obtain ⟨a1, rfl, w1⟩ := h1.int Try.underlying3
    have b1 := Go.bounds_i64 w1
    obtain ⟨a2, rfl, w2⟩ := h2.int Try.underlying23
    have b2 := Go.bounds_u16 w2
    exact sumKeeps_walk v0 l0 a1 a2 W b0 (by omega)

theorem sumKeeps_holds : Rows.SumKeepsSaid :=
  OpenClaim.holds_of_wide 8 Try.f8 rfl rfl rfl rfl rfl rfl rfl ⟨rfl, rfl, rfl, rfl, rfl⟩ rfl rfl rfl rfl rfl (by kernel_rfl) Try.func8 (by kernel_rfl)
    (of_decide_eq_true (by kernel_rfl)) (by unfold Func.isWrapper; first | (rw [if_pos (by decide +kernel)]; kernel_rfl) | (rw [if_neg (by decide +kernel)]; exact ⟨rfl, rfl⟩))
    (fun os started H enc _ => sumKeeps_lifted os started H enc)

end Go.Proofs.Ytmdaajlcikmnaaa
