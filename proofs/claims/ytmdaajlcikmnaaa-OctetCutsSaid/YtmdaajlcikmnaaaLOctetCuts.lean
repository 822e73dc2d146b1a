/- OctetCuts: which bytes stand from any place on; rows as one: for every input the law returns true and leaves its arguments as they were; no condition. -/
import Derived.Test.YtmdaajlcikmnaaaRows
import Derived.Test.YtmdaajlcikmnaaaG
import Derived.Test.YtmdaajlcikmnaaaN
import Derived.Test.YtmdaajlcikmnaaaU
namespace Go.Proofs.Ytmdaajlcikmnaaa
open Go.ChangeShapes Go.WideShapes Go.ChangeAt Go.RowKit

theorem octetCuts_lifted (os : Os) (started : os.Started) (H : Type) (enc : TypeId × Value → H) :
    ReturnsInHanded {} Try.checked os 12 .any (Rows.octetCutsSpec.pre6 enc Try.prog Try.f12 Rows.octetCutsRow.domain false) (Rows.octetCutsSpec.post enc Try.prog Try.f12 false true false false) := by
  refine law_lifted (C := Try.checked) (tb := 4) os started H enc Try.own Try.laidOut (by kernel_rfl) Try.func12 Try.underlying4 rfl (by kernel_rfl) rfl ?_
    (ChangeSpec.witness6 (enc := enc) (C := Try.checked) false ⟨#[], #[.slice none 0 0, .slice none 0 0, .int .i64 0, .int .i64 0], []⟩ 8 (by kernel_rfl) (by kernel_rfl) (by kernel_rfl) (by kernel_rfl)) ?_
  · intro ds h
    rw [Try.params12] at h
    simp at h
    match ds, h with
    | [_, _, _, _], _ => rfl
  · intro W vs h
    rw [Try.params12] at h
    obtain ⟨v0, vs, rfl, h0, h⟩ := Args.cons h
    obtain ⟨v1, vs, rfl, h1, h⟩ := Args.cons h
    obtain ⟨v2, vs, rfl, h2, h⟩ := Args.cons h
    obtain ⟨v3, vs, rfl, h3, h⟩ := Args.cons h
    obtain rfl := Args.nil h
    obtain ⟨l0, b0⟩ := h0.bytes Try.underlying38 Try.underlying5 (by kernel_rfl)
    obtain ⟨l1, b1⟩ := h1.bytes Try.underlying38 Try.underlying5 (by kernel_rfl)
    obtain ⟨a2, rfl, w2⟩ := h2.int Try.underlying3
    have b2 := Go.bounds_i64 w2
    obtain ⟨a3, rfl, w3⟩ := h3.int Try.underlying3
    have b3 := Go.bounds_i64 w3
    exact octetCuts_walk v0 v1 l0 l1 a2 a3 W b0 b1 (by omega)

theorem octetCuts_holds : Rows.OctetCutsSaid :=
  OpenClaim.holds_of_wide 12 Try.f12 rfl rfl rfl rfl rfl rfl rfl ⟨rfl, rfl, rfl, rfl, rfl⟩ rfl rfl rfl rfl rfl (by kernel_rfl) Try.func12 (by kernel_rfl)
    (of_decide_eq_true (by kernel_rfl)) (by unfold Func.isWrapper; first | (rw [if_pos (by decide +kernel)]; kernel_rfl) | (rw [if_neg (by decide +kernel)]; exact ⟨rfl, rfl⟩))
    (fun os started H enc _ => octetCuts_lifted os started H enc)

end Go.Proofs.Ytmdaajlcikmnaaa
