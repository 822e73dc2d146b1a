/- OctetHex: which text any bytes are, which bytes any text is, and that it is the same there and back: for every input the law returns true and leaves its arguments as they were; no condition. -/
import Derived.Test.YthjojkkapboonaaRows
import Derived.Test.YthjojkkapboonaaG
import Derived.Test.YthjojkkapboonaaGA
import Derived.Test.YthjojkkapboonaaU
import Derived.Test.YthjojkkapboonaaHF
import Derived.Test.YthjojkkapboonaaHW
namespace Go.Proofs.Ythjojkkapboonaa
open Go.ChangeShapes Go.WideShapes Go.ChangeAt Go.RowKit

theorem octetHex_lifted (os : Os) (started : os.Started) (H : Type) (enc : TypeId × Value → H) :
    ReturnsInHanded {} Try.checked os 5 .any (Rows.octetHexSpec.pre6 enc Try.prog Try.f5 Rows.octetHexRow.domain false) (Rows.octetHexSpec.post enc Try.prog Try.f5 false true false false) := by
  refine law_lifted (C := Try.checked) (tb := 4) os started H enc Try.own Try.laidOut (by kernel_rfl) Try.func5 Try.underlying4 rfl (by kernel_rfl) rfl ?_
    (ChangeSpec.witness6 (enc := enc) (C := Try.checked) false ⟨#[], #[.slice none 0 0, .string ByteArray.empty], []⟩ 8 (by kernel_rfl) (by kernel_rfl) (by kernel_rfl) (by kernel_rfl)) ?_
  · intro ds h
    rw [Try.params5] at h
    simp at h
    match ds, h with
    | [_, _], _ => rfl
  · intro W vs h
    rw [Try.params5] at h
    obtain ⟨v0, vs, rfl, h0, h⟩ := Args.cons h
    obtain ⟨v1, vs, rfl, h1, h⟩ := Args.cons h
    obtain rfl := Args.nil h
    obtain ⟨l0, r0⟩ := h0.bytesA
    obtain ⟨s1, b1, r1⟩ := h1.strA
    exact ASpec.walk (octetHex_a l0 s1) (RepL.cons r0 (RepL.cons r1 RepL.nil))

theorem octetHex_a1 : (Rows.octetHexRow.inPlace == Try.prog.inPlace 5) = true := by kernel_rfl
theorem octetHex_a2 : (Rows.octetHexRow.unfollowed == Try.prog.unfollowed 5) = true := by kernel_rfl
theorem octetHex_a3 : (Rows.octetHexRow.recurses == Try.prog.recurses 5) = true := by kernel_rfl
theorem octetHex_a4 : (Rows.octetHexRow.named == Try.prog.varsNamed 5) = true := by kernel_rfl
theorem octetHex_a5 : Try.prog.funcNamed Rows.octetHexRow.func = some 5 := by kernel_rfl
theorem octetHex_closed : joinedFacts Try.prog 5 Try.f5 Rows.octetHexSpec Rows.octetHexRow = true :=
  joined_mk (by kernel_rfl) Try.laidOut Try.mapsRowed (by kernel_rfl) (by kernel_rfl) (by kernel_rfl) Try.stopsNone (by kernel_rfl) Try.knobsNone octetHex_a1 octetHex_a2 octetHex_a3 octetHex_a4
    (by kernel_rfl) (by kernel_rfl) (by kernel_rfl) (by kernel_rfl) (by kernel_rfl) (by kernel_rfl) (by kernel_rfl) (by kernel_rfl) (by kernel_rfl) (by rw [Try.plainKeysIs]; kernel_rfl) (by kernel_rfl) Try.stopsHeard Try.mayEnter (by rw [Try.lifts]; kernel_rfl) (by rw [Try.makeIs]; kernel_rfl) (by kernel_rfl) (by kernel_rfl) (by kernel_rfl) (by kernel_rfl)
theorem octetHex_holds : Rows.OctetHexSaid :=
  OpenClaim.holds_of_wide (p := Try.pinned) 5 Try.f5 rfl rfl rfl rfl rfl rfl rfl ⟨rfl, rfl, rfl, rfl, rfl⟩ rfl rfl rfl rfl rfl octetHex_a5 Try.func5 octetHex_closed
    (of_decide_eq_true (by kernel_rfl)) (by unfold Func.isWrapper; first | (rw [if_pos (by decide +kernel)]; kernel_rfl) | (rw [if_neg (by decide +kernel)]; exact ⟨rfl, rfl⟩))
    (fun os started H enc _ => octetHex_lifted os started H enc)

end Go.Proofs.Ythjojkkapboonaa
