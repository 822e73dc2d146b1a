/- OctetGets: which number stands anywhere in any bytes: for every input the law returns true and leaves its arguments as they were; no condition. -/
import Derived.Test.YtmdaajlcikmnaaaRows
import Derived.Test.YtmdaajlcikmnaaaG
import Derived.Test.YtmdaajlcikmnaaaN
import Derived.Test.YtmdaajlcikmnaaaU
namespace Go.Proofs.Ytmdaajlcikmnaaa
open Go.ChangeShapes Go.WideShapes Go.ChangeAt Go.RowKit

theorem octetGets_lifted (os : Os) (started : os.Started) (H : Type) (enc : TypeId × Value → H) :
    ReturnsInHanded {} Try.checked os 10 .any (Rows.octetGetsSpec.pre6 enc Try.prog Try.f10 Rows.octetGetsRow.domain false) (Rows.octetGetsSpec.post enc Try.prog Try.f10 false true false false) := by
  refine law_lifted (C := Try.checked) (tb := 4) os started H enc Try.own Try.laidOut (by kernel_rfl) Try.func10 Try.underlying4 rfl (by kernel_rfl) rfl ?_
    (ChangeSpec.witness6 (enc := enc) (C := Try.checked) false ⟨#[], #[.slice none 0 0, .int .i64 0], []⟩ 8 (by kernel_rfl) (by kernel_rfl) (by kernel_rfl) (by kernel_rfl)) ?_
  · intro ds h
    rw [Try.params10] at h
    simp at h
    match ds, h with
    | [_, _], _ => rfl
  · intro W vs h
    rw [Try.params10] at h
    obtain ⟨v0, vs, rfl, h0, h⟩ := Args.cons h
    obtain ⟨v1, vs, rfl, h1, h⟩ := Args.cons h
    obtain rfl := Args.nil h
    obtain ⟨l0, b0⟩ := h0.bytes Try.underlying38 Try.underlying5 (by kernel_rfl)
    obtain ⟨a1, rfl, w1⟩ := h1.int Try.underlying3
    have b1 := Go.bounds_i64 w1
    exact octetGets_walk v0 l0 a1 W b0 (by omega)

theorem octetGets_holds : Rows.OctetGetsSaid :=
  OpenClaim.holds_of_wide 10 Try.f10 rfl rfl rfl rfl rfl rfl rfl ⟨rfl, rfl, rfl, rfl, rfl⟩ rfl rfl rfl rfl rfl (by kernel_rfl) Try.func10 (by kernel_rfl)
    (of_decide_eq_true (by kernel_rfl)) (by unfold Func.isWrapper; first | (rw [if_pos (by decide +kernel)]; kernel_rfl) | (rw [if_neg (by decide +kernel)]; exact ⟨rfl, rfl⟩))
    (fun os started H enc _ => octetGets_lifted os started H enc)

end Go.Proofs.Ytmdaajlcikmnaaa
