/- SpliceBack: that what is shifted, and shifted back, is what it was; data stay: for every input the law returns true and leaves its arguments as they were; no condition. -/
import Derived.Test.YthjojkkapboonaaRows
import Derived.Test.YthjojkkapboonaaG
import Derived.Test.YthjojkkapboonaaGA
import Derived.Test.YthjojkkapboonaaU
import Derived.Test.YthjojkkapboonaaHF
import Derived.Test.YthjojkkapboonaaWB
namespace Go.Proofs.Ythjojkkapboonaa
open Go.ChangeShapes Go.WideShapes Go.ChangeAt Go.RowKit

theorem spliceBack_lifted (os : Os) (started : os.Started) (H : Type) (enc : TypeId × Value → H) :
    ReturnsInHanded {} Try.checked os 4 .any (Rows.spliceBackSpec.pre6 enc Try.prog Try.f4 Rows.spliceBackRow.domain false) (Rows.spliceBackSpec.post enc Try.prog Try.f4 false true false false) := by
  refine law_lifted (C := Try.checked) (tb := 4) os started H enc Try.own Try.laidOut (by kernel_rfl) Try.func4 Try.underlying4 rfl (by kernel_rfl) rfl ?_
    (ChangeSpec.witness6 (enc := enc) (C := Try.checked) false ⟨#[], #[.agg #[.int .u32 0, .int .u32 0, .int .u16 0, .int .u16 0, .int .u32 0, .int .u32 0], .agg #[.int .u16 0, .int .u16 0, .int .u32 0, .int .u32 0, .int .u8 0, .int .u8 0, .int .u16 0, .int .u16 0, .slice none 0 0, .slice none 0 0]], []⟩ 8 (by kernel_rfl) (by kernel_rfl) (by kernel_rfl) (by kernel_rfl)) ?_
  · intro ds h
    rw [Try.params4] at h
    simp at h
    match ds, h with
    | [_, _], _ => rfl
  · intro W vs h
    rw [Try.params4] at h
    obtain ⟨v0, vs, rfl, h0, h⟩ := Args.cons h
    obtain ⟨v1, vs, rfl, h1, h⟩ := Args.cons h
    obtain rfl := Args.nil h
    obtain ⟨t0, ht0, r0⟩ := h0.turnA
    obtain ⟨g1, hg1, r1⟩ := h1.segA
    exact ASpec.walk (spliceBack_a t0 g1 ht0 hg1) (RepL.cons r0 (RepL.cons r1 RepL.nil))

theorem spliceBack_a1 : (Rows.spliceBackRow.inPlace == Try.prog.inPlace 4) = true := by kernel_rfl
theorem spliceBack_a2 : (Rows.spliceBackRow.unfollowed == Try.prog.unfollowed 4) = true := by kernel_rfl
theorem spliceBack_a3 : (Rows.spliceBackRow.recurses == Try.prog.recurses 4) = true := by kernel_rfl
theorem spliceBack_a4 : (Rows.spliceBackRow.named == Try.prog.varsNamed 4) = true := by kernel_rfl
theorem spliceBack_a5 : Try.prog.funcNamed Rows.spliceBackRow.func = some 4 := by kernel_rfl
theorem spliceBack_closed : joinedFacts Try.prog 4 Try.f4 Rows.spliceBackSpec Rows.spliceBackRow = true :=
  joined_mk (by kernel_rfl) Try.laidOut Try.mapsRowed (by kernel_rfl) (by kernel_rfl) (by kernel_rfl) Try.stopsNone (by kernel_rfl) Try.knobsNone spliceBack_a1 spliceBack_a2 spliceBack_a3 spliceBack_a4
    (by kernel_rfl) (by kernel_rfl) (by kernel_rfl) (by kernel_rfl) (by kernel_rfl) (by kernel_rfl) (by kernel_rfl) (by kernel_rfl) (by kernel_rfl) (by rw [Try.plainKeysIs]; kernel_rfl) (by kernel_rfl) Try.stopsHeard Try.mayEnter (by rw [Try.lifts]; kernel_rfl) (by rw [Try.makeIs]; kernel_rfl) (by kernel_rfl) (by kernel_rfl) (by kernel_rfl) (by kernel_rfl)
theorem spliceBack_holds : Rows.SpliceBackSaid :=
  OpenClaim.holds_of_wide (p := Try.pinned) 4 Try.f4 rfl rfl rfl rfl rfl rfl rfl ⟨rfl, rfl, rfl, rfl, rfl⟩ rfl rfl rfl rfl rfl spliceBack_a5 Try.func4 spliceBack_closed
    (of_decide_eq_true (by kernel_rfl)) (by unfold Func.isWrapper; first | (rw [if_pos (by decide +kernel)]; kernel_rfl) | (rw [if_neg (by decide +kernel)]; exact ⟨rfl, rfl⟩))
    (fun os started H enc _ => spliceBack_lifted os started H enc)

end Go.Proofs.Ythjojkkapboonaa
