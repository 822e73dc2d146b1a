/- SpliceBytes: that the bytes of any segment, turned word by word, are those of the segment that was turned: for every input the law returns true and leaves its arguments as they were; no condition. -/
import Derived.Test.YthjojkkapboonaaRows
import Derived.Test.YthjojkkapboonaaG
import Derived.Test.YthjojkkapboonaaGA
import Derived.Test.YthjojkkapboonaaU
import Derived.Test.YthjojkkapboonaaHF
import Derived.Test.YthjojkkapboonaaWF
namespace Go.Proofs.Ythjojkkapboonaa
open Go.ChangeShapes Go.WideShapes Go.ChangeAt Go.RowKit

theorem spliceBytes_lifted (os : Os) (started : os.Started) (H : Type) (enc : TypeId × Value → H) :
    ReturnsInHanded {} Try.checked os 11 .any (Rows.spliceBytesSpec.pre6 enc Try.prog Try.f11 Rows.spliceBytesRow.domain false) (Rows.spliceBytesSpec.post enc Try.prog Try.f11 false true false false) := by
  refine law_lifted (C := Try.checked) (tb := 4) os started H enc Try.own Try.laidOut (by kernel_rfl) Try.func11 Try.underlying4 rfl (by kernel_rfl) rfl ?_
    (ChangeSpec.witness6 (enc := enc) (C := Try.checked) false ⟨#[], #[.int .u32 0, .int .u32 0, .agg #[.int .u16 0, .int .u16 0, .int .u32 0, .int .u32 0, .int .u8 0, .int .u8 0, .int .u16 0, .int .u16 0, .slice none 0 0, .slice none 0 0], .agg #[.int .u32 0, .int .u32 0, .int .u16 0, .int .u16 0, .int .u32 0, .int .u32 0]], []⟩ 8 (by kernel_rfl) (by kernel_rfl) (by kernel_rfl) (by kernel_rfl)) ?_
  · intro ds h
    rw [Try.params11] at h
    simp at h
    match ds, h with
    | [_, _, _, _], _ => rfl
  · intro W vs h
    rw [Try.params11] at h
    obtain ⟨v0, vs, rfl, h0, h⟩ := Args.cons h
    obtain ⟨v1, vs, rfl, h1, h⟩ := Args.cons h
    obtain ⟨v2, vs, rfl, h2, h⟩ := Args.cons h
    obtain ⟨v3, vs, rfl, h3, h⟩ := Args.cons h
    obtain rfl := Args.nil h
    obtain ⟨a0, b0, r0⟩ := h0.u32A
    obtain ⟨a1, b1, r1⟩ := h1.u32A
    obtain ⟨g2, hg2, r2⟩ := h2.segA
    obtain ⟨t3, ht3, r3⟩ := h3.turnA
    exact ASpec.walk (spliceBytes_a a0 a1 g2 t3 b0 b1 hg2 ht3) (RepL.cons r0 (RepL.cons r1 (RepL.cons r2 (RepL.cons r3 RepL.nil))))

theorem spliceBytes_a1 : (Rows.spliceBytesRow.inPlace == Try.prog.inPlace 11) = true := by kernel_rfl
theorem spliceBytes_a2 : (Rows.spliceBytesRow.unfollowed == Try.prog.unfollowed 11) = true := by kernel_rfl
theorem spliceBytes_a3 : (Rows.spliceBytesRow.recurses == Try.prog.recurses 11) = true := by kernel_rfl
theorem spliceBytes_a4 : (Rows.spliceBytesRow.named == Try.prog.varsNamed 11) = true := by kernel_rfl
theorem spliceBytes_a5 : Try.prog.funcNamed Rows.spliceBytesRow.func = some 11 := by kernel_rfl
theorem spliceBytes_closed : joinedFacts Try.prog 11 Try.f11 Rows.spliceBytesSpec Rows.spliceBytesRow = true :=
  joined_mk (by kernel_rfl) Try.laidOut Try.mapsRowed (by kernel_rfl) (by kernel_rfl) (by kernel_rfl) Try.stopsNone (by kernel_rfl) Try.knobsNone spliceBytes_a1 spliceBytes_a2 spliceBytes_a3 spliceBytes_a4
    (by kernel_rfl) (by kernel_rfl) (by kernel_rfl) (by kernel_rfl) (by kernel_rfl) (by kernel_rfl) (by kernel_rfl) (by kernel_rfl) (by kernel_rfl) (by rw [Try.plainKeysIs]; kernel_rfl) (by kernel_rfl) Try.stopsHeard Try.mayEnter (by rw [Try.lifts]; kernel_rfl) (by rw [Try.makeIs]; kernel_rfl) (by kernel_rfl) (by kernel_rfl) (by kernel_rfl) (by kernel_rfl)
theorem spliceBytes_holds : Rows.SpliceBytesSaid :=
  OpenClaim.holds_of_wide (p := Try.pinned) 11 Try.f11 rfl rfl rfl rfl rfl rfl rfl ⟨rfl, rfl, rfl, rfl, rfl⟩ rfl rfl rfl rfl rfl spliceBytes_a5 Try.func11 spliceBytes_closed
    (of_decide_eq_true (by kernel_rfl)) (by unfold Func.isWrapper; first | (rw [if_pos (by decide +kernel)]; kernel_rfl) | (rw [if_neg (by decide +kernel)]; exact ⟨rfl, rfl⟩))
    (fun os started H enc _ => spliceBytes_lifted os started H enc)

end Go.Proofs.Ythjojkkapboonaa
