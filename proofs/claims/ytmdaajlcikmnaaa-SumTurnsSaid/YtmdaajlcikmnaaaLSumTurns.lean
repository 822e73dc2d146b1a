/- SumTurns: what any number is folded, and what becomes of any sum: for every input the law returns true and leaves its arguments as they were; no condition. -/
import Derived.Test.YtmdaajlcikmnaaaRows
import Derived.Test.YtmdaajlcikmnaaaG
import Derived.Test.YtmdaajlcikmnaaaF
import Derived.Test.YtmdaajlcikmnaaaU
namespace Go.Proofs.Ytmdaajlcikmnaaa
open Go.ChangeShapes Go.WideShapes Go.ChangeAt Go.RowKit

theorem sumTurns_lifted (os : Os) (started : os.Started) (H : Type) (enc : TypeId × Value → H) :
    ReturnsInHanded {} Try.checked os 9 .any (Rows.sumTurnsSpec.pre6 enc Try.prog Try.f9 Rows.sumTurnsRow.domain false) (Rows.sumTurnsSpec.post enc Try.prog Try.f9 false true false false) := by
  refine law_lifted (C := Try.checked) (tb := 4) os started H enc Try.own Try.laidOut (by kernel_rfl) Try.func9 Try.underlying4 rfl (by kernel_rfl) rfl ?_
    (ChangeSpec.witness6 (enc := enc) (C := Try.checked) false ⟨#[], #[.int .u64 0, .int .u16 0, .int .u16 0, .int .u16 0, .int .u32 0, .int .u32 0], []⟩ 8 (by kernel_rfl) (by kernel_rfl) (by kernel_rfl) (by kernel_rfl)) ?_
  · intro ds h
    rw [Try.params9] at h
    simp at h
    match ds, h with
    | [_, _, _, _, _, _], _ => rfl
  · intro W vs h
    rw [Try.params9] at h
    obtain ⟨v0, vs, rfl, h0, h⟩ := Args.cons h
    obtain ⟨v1, vs, rfl, h1, h⟩ := Args.cons h
    obtain ⟨v2, vs, rfl, h2, h⟩ := Args.cons h
    obtain ⟨v3, vs, rfl, h3, h⟩ := Args.cons h
    obtain ⟨v4, vs, rfl, h4, h⟩ := Args.cons h
    obtain ⟨v5, vs, rfl, h5, h⟩ := Args.cons h
    obtain rfl := Args.nil h
    obtain ⟨a0, rfl, w0⟩ := h0.int Try.underlying33
    have b0 := Go.bounds_u64 w0
    obtain ⟨a1, rfl, w1⟩ := h1.int Try.underlying23
    have b1 := Go.bounds_u16 w1
    obtain ⟨a2, rfl, w2⟩ := h2.int Try.underlying23
    have b2 := Go.bounds_u16 w2
    obtain ⟨a3, rfl, w3⟩ := h3.int Try.underlying23
    have b3 := Go.bounds_u16 w3
    obtain ⟨a4, rfl, w4⟩ := h4.int Try.underlying22
    have b4 := Go.bounds_u32 w4
    obtain ⟨a5, rfl, w5⟩ := h5.int Try.underlying22
    have b5 := Go.bounds_u32 w5
    exact sumTurns_walk a0 a1 a2 a3 a4 a5 W (by omega) (by omega) (by omega) (by omega) (by omega) (by omega)

theorem sumTurns_holds : Rows.SumTurnsSaid :=
  OpenClaim.holds_of_wide 9 Try.f9 rfl rfl rfl rfl rfl rfl rfl ⟨rfl, rfl, rfl, rfl, rfl⟩ rfl rfl rfl rfl rfl (by kernel_rfl) Try.func9 (by kernel_rfl)
    (of_decide_eq_true (by kernel_rfl)) (by unfold Func.isWrapper; first | (rw [if_pos (by decide +kernel)]; kernel_rfl) | (rw [if_neg (by decide +kernel)]; exact ⟨rfl, rfl⟩))
    (fun os started H enc _ => sumTurns_lifted os started H enc)

end Go.Proofs.Ytmdaajlcikmnaaa
