/- FragBack: that pieces that were split are joined, in any order, some twice, also split once more: for every input the law returns true and leaves its arguments as they were; no condition. -/
import Derived.Test.YthjojkkapboonaaRows
import Derived.Test.YthjojkkapboonaaG
import Derived.Test.YthjojkkapboonaaGA
import Derived.Test.YthjojkkapboonaaU
import Derived.Test.YthjojkkapboonaaHF
import Derived.Test.YthjojkkapboonaaFP
import Derived.Test.YthjojkkapboonaaGE
namespace Go.Proofs.Ythjojkkapboonaa
open Go.ChangeShapes Go.WideShapes Go.ChangeAt Go.RowKit

theorem fragBack_lifted (os : Os) (started : os.Started) (H : Type) (enc : TypeId × Value → H) :
    ReturnsInHanded {} Try.checked os 10 .any (Rows.fragBackSpec.pre6 enc Try.prog Try.f10 Rows.fragBackRow.domain false) (Rows.fragBackSpec.post enc Try.prog Try.f10 false true false false) := by
  refine law_lifted (C := Try.checked) (tb := 4) os started H enc Try.own Try.laidOut (by kernel_rfl) Try.func10 Try.underlying4 rfl (by kernel_rfl) rfl ?_
    (ChangeSpec.witness6 (enc := enc) (C := Try.checked) false ⟨#[], #[.agg #[.int .u8 0, .int .u16 0, .bool false, .bool false, .int .u16 0, .int .u8 0, .int .u8 0, .int .u32 0, .int .u32 0, .slice none 0 0, .slice none 0 0], .int .i64 0, .int .i64 0, .slice none 0 0, .int .i64 0], []⟩ 8 (by kernel_rfl) (by kernel_rfl) (by kernel_rfl) (by kernel_rfl)) ?_
  · intro ds h
    rw [Try.params10] at h
    simp at h
    match ds, h with
    | [_, _, _, _, _], _ => rfl
  · intro W vs h
    rw [Try.params10] at h
    obtain ⟨v0, vs, rfl, h0, h⟩ := Args.cons h
    obtain ⟨v1, vs, rfl, h1, h⟩ := Args.cons h
    obtain ⟨v2, vs, rfl, h2, h⟩ := Args.cons h
    obtain ⟨v3, vs, rfl, h3, h⟩ := Args.cons h
    obtain ⟨v4, vs, rfl, h4, h⟩ := Args.cons h
    obtain rfl := Args.nil h
    obtain ⟨p0, hp0, r0⟩ := h0.pktA
    obtain ⟨a1, b1, r1⟩ := h1.i64A
    obtain ⟨a2, b2, r2⟩ := h2.i64A
    obtain ⟨l3, hl3, hn3, r3⟩ := h3.intsA
    obtain ⟨a4, b4, r4⟩ := h4.i64A
    exact ASpec.walk (fragBack_a p0 a1 a2 l3 a4 hp0 b1 b2 b4) (RepL.cons r0 (RepL.cons r1 (RepL.cons r2 (RepL.cons r3 (RepL.cons r4 RepL.nil)))))

theorem fragBack_a1 : (Rows.fragBackRow.inPlace == Try.prog.inPlace 10) = true := by kernel_rfl
theorem fragBack_a2 : (Rows.fragBackRow.unfollowed == Try.prog.unfollowed 10) = true := by kernel_rfl
theorem fragBack_a3 : (Rows.fragBackRow.recurses == Try.prog.recurses 10) = true := by kernel_rfl
theorem fragBack_a4 : (Rows.fragBackRow.named == Try.prog.varsNamed 10) = true := by kernel_rfl
theorem fragBack_a5 : Try.prog.funcNamed Rows.fragBackRow.func = some 10 := by kernel_rfl
theorem fragBack_closed : joinedFacts Try.prog 10 Try.f10 Rows.fragBackSpec Rows.fragBackRow = true :=
  joined_mk (by kernel_rfl) Try.laidOut Try.mapsRowed (by kernel_rfl) (by kernel_rfl) (by kernel_rfl) Try.stopsNone (by kernel_rfl) Try.knobsNone fragBack_a1 fragBack_a2 fragBack_a3 fragBack_a4
    (by kernel_rfl) (by kernel_rfl) (by kernel_rfl) (by kernel_rfl) (by kernel_rfl) (by kernel_rfl) (by kernel_rfl) (by kernel_rfl) (by kernel_rfl) (by rw [Try.plainKeysIs]; kernel_rfl) (by kernel_rfl) Try.stopsHeard Try.mayEnter (by rw [Try.lifts]; kernel_rfl) (by rw [Try.makeIs]; kernel_rfl) (by kernel_rfl) (by kernel_rfl) (by kernel_rfl) (by kernel_rfl)
theorem fragBack_holds : Rows.FragBackSaid :=
  OpenClaim.holds_of_wide (p := Try.pinned) 10 Try.f10 rfl rfl rfl rfl rfl rfl rfl ⟨rfl, rfl, rfl, rfl, rfl⟩ rfl rfl rfl rfl rfl fragBack_a5 Try.func10 fragBack_closed
    (of_decide_eq_true (by kernel_rfl)) (by unfold Func.isWrapper; first | (rw [if_pos (by decide +kernel)]; kernel_rfl) | (rw [if_neg (by decide +kernel)]; exact ⟨rfl, rfl⟩))
    (fun os started H enc _ => fragBack_lifted os started H enc)

end Go.Proofs.Ythjojkkapboonaa
