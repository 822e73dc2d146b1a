/- SpliceRefuses: that bytes that are no segment are refused: for every input the law returns true and leaves its arguments as they were; no condition. -/
import Derived.Test.YthjojkkapboonaaRows
import Derived.Test.YthjojkkapboonaaG
import Derived.Test.YthjojkkapboonaaGA
import Derived.Test.YthjojkkapboonaaU
import Derived.Test.YthjojkkapboonaaHF
import Derived.Test.YthjojkkapboonaaWF
namespace Go.Proofs.Ythjojkkapboonaa
open Go.ChangeShapes Go.WideShapes Go.ChangeAt Go.RowKit

theorem spliceRefuses_lifted (os : Os) (started : os.Started) (H : Type) (enc : TypeId × Value → H) :
    ReturnsInHanded {} Try.checked os 12 .any (Rows.spliceRefusesSpec.pre6 enc Try.prog Try.f12 Rows.spliceRefusesRow.domain false) (Rows.spliceRefusesSpec.post enc Try.prog Try.f12 false true false false) := by
  refine law_lifted (C := Try.checked) (tb := 4) os started H enc Try.own Try.laidOut (by kernel_rfl) Try.func12 Try.underlying4 rfl (by kernel_rfl) rfl ?_
    (ChangeSpec.witness6 (enc := enc) (C := Try.checked) false ⟨#[], #[.int .u32 0, .int .u32 0, .slice none 0 0, .agg #[.int .u32 0, .int .u32 0, .int .u16 0, .int .u16 0, .int .u32 0, .int .u32 0]], []⟩ 8 (by kernel_rfl) (by kernel_rfl) (by kernel_rfl) (by kernel_rfl)) ?_
  · intro ds h
    rw [Try.params12] at h
    simp at h
    match ds, h with
    | [_, _, _, _], _ => rfl
  · intro W vs h
    rw [Try.params12] at h
    obtain ⟨v0, vs, rfl, h0, h⟩ := Args.cons h
    obtain ⟨v1, vs, rfl, h1, h⟩ := Args.cons h
    obtain ⟨v2, vs, rfl, h2, h⟩ := Args.cons h
    obtain ⟨v3, vs, rfl, h3, h⟩ := Args.cons h
    obtain rfl := Args.nil h
    obtain ⟨a0, b0, r0⟩ := h0.u32A
    obtain ⟨a1, b1, r1⟩ := h1.u32A
    obtain ⟨l2, r2⟩ := h2.bytesA
    obtain ⟨t3, ht3, r3⟩ := h3.turnA
    exact ASpec.walk (spliceRefuses_a a0 a1 l2 t3 b0 b1 ht3) (RepL.cons r0 (RepL.cons r1 (RepL.cons r2 (RepL.cons r3 RepL.nil))))

theorem spliceRefuses_a1 : (Rows.spliceRefusesRow.inPlace == Try.prog.inPlace 12) = true := by kernel_rfl
theorem spliceRefuses_a2 : (Rows.spliceRefusesRow.unfollowed == Try.prog.unfollowed 12) = true := by kernel_rfl
theorem spliceRefuses_a3 : (Rows.spliceRefusesRow.recurses == Try.prog.recurses 12) = true := by kernel_rfl
theorem spliceRefuses_a4 : (Rows.spliceRefusesRow.named == Try.prog.varsNamed 12) = true := by kernel_rfl
theorem spliceRefuses_a5 : Try.prog.funcNamed Rows.spliceRefusesRow.func = some 12 := by kernel_rfl
theorem spliceRefuses_closed : joinedFacts Try.prog 12 Try.f12 Rows.spliceRefusesSpec Rows.spliceRefusesRow = true :=
  joined_mk (by kernel_rfl) Try.laidOut Try.mapsRowed (by kernel_rfl) (by kernel_rfl) (by kernel_rfl) Try.stopsNone (by kernel_rfl) Try.knobsNone spliceRefuses_a1 spliceRefuses_a2 spliceRefuses_a3 spliceRefuses_a4
    (by kernel_rfl) (by kernel_rfl) (by kernel_rfl) (by kernel_rfl) (by kernel_rfl) (by kernel_rfl) (by kernel_rfl) (by kernel_rfl) (by kernel_rfl) (by rw [Try.plainKeysIs]; kernel_rfl) (by kernel_rfl) Try.stopsHeard Try.mayEnter (by rw [Try.lifts]; kernel_rfl) (by rw [Try.makeIs]; kernel_rfl) (by kernel_rfl) (by kernel_rfl) (by kernel_rfl) (by kernel_rfl)
theorem spliceRefuses_holds : Rows.SpliceRefusesSaid :=
  OpenClaim.holds_of_wide (p := Try.pinned) 12 Try.f12 rfl rfl rfl rfl rfl rfl rfl ⟨rfl, rfl, rfl, rfl, rfl⟩ rfl rfl rfl rfl rfl spliceRefuses_a5 Try.func12 spliceRefuses_closed
    (of_decide_eq_true (by kernel_rfl)) (by unfold Func.isWrapper; first | (rw [if_pos (by decide +kernel)]; kernel_rfl) | (rw [if_neg (by decide +kernel)]; exact ⟨rfl, rfl⟩))
    (fun os started H enc _ => spliceRefuses_lifted os started H enc)

end Go.Proofs.Ythjojkkapboonaa
