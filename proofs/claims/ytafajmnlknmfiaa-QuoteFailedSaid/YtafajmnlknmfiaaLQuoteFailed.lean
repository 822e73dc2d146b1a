/- QuoteFailed: that a message about a packet tells of the packet's flow: for every input the law returns true and leaves its arguments as they were; no condition. -/
import Derived.Test.YtafajmnlknmfiaaRows
import Derived.Test.YtafajmnlknmfiaaG
import Derived.Test.YtafajmnlknmfiaaGA
import Derived.Test.YtafajmnlknmfiaaU
import Derived.Test.YtafajmnlknmfiaaHF
import Derived.Test.YtafajmnlknmfiaaQC
namespace Go.Proofs.Ytafajmnlknmfiaa
open Go.ChangeShapes Go.WideShapes Go.ChangeAt Go.RowKit

theorem quoteFailed_lifted (os : Os) (started : os.Started) (H : Type) (enc : TypeId × Value → H) :
    ReturnsInHanded {} Try.checked os 22 .any (Rows.quoteFailedSpec.pre6 enc Try.prog Try.f22 Rows.quoteFailedRow.domain false) (Rows.quoteFailedSpec.post enc Try.prog Try.f22 false true false false) := by
  refine law_lifted (C := Try.checked) (tb := 4) os started H enc Try.own Try.laidOut (by kernel_rfl) Try.func22 Try.underlying4 rfl (by kernel_rfl) rfl ?_
    (ChangeSpec.witness6 (enc := enc) (C := Try.checked) false ⟨#[], #[.agg #[.int .u8 0, .int .u16 0, .bool false, .bool false, .int .u16 0, .int .u8 0, .int .u8 0, .int .u32 0, .int .u32 0, .slice none 0 0, .slice none 0 0], .int .u8 0], []⟩ 8 (by kernel_rfl) (by kernel_rfl) (by kernel_rfl) (by kernel_rfl)) ?_
  · intro ds h
    rw [Try.params22] at h
    simp at h
    match ds, h with
    | [_, _], _ => rfl
  · intro W vs h
    rw [Try.params22] at h
    obtain ⟨v0, vs, rfl, h0, h⟩ := Args.cons h
    obtain ⟨v1, vs, rfl, h1, h⟩ := Args.cons h
    obtain rfl := Args.nil h
    obtain ⟨p0, hp0, r0⟩ := h0.pktA
    obtain ⟨a1, b1, r1⟩ := h1.u8A
    exact ASpec.walk (quoteFailed_a p0 a1 hp0) (RepL.cons r0 (RepL.cons r1 RepL.nil))

theorem quoteFailed_a1 : (Rows.quoteFailedRow.inPlace == Try.prog.inPlace 22) = true := by kernel_rfl
theorem quoteFailed_a2 : (Rows.quoteFailedRow.unfollowed == Try.prog.unfollowed 22) = true := by kernel_rfl
theorem quoteFailed_a3 : (Rows.quoteFailedRow.recurses == Try.prog.recurses 22) = true := by kernel_rfl
theorem quoteFailed_a4 : (Rows.quoteFailedRow.named == Try.prog.varsNamed 22) = true := by kernel_rfl
theorem quoteFailed_a5 : Try.prog.funcNamed Rows.quoteFailedRow.func = some 22 := by kernel_rfl
theorem quoteFailed_closed : joinedFacts Try.prog 22 Try.f22 Rows.quoteFailedSpec Rows.quoteFailedRow = true :=
  joined_mk (by kernel_rfl) Try.laidOut Try.mapsRowed (by kernel_rfl) (by kernel_rfl) (by kernel_rfl) Try.stopsNone (by kernel_rfl) Try.knobsNone quoteFailed_a1 quoteFailed_a2 quoteFailed_a3 quoteFailed_a4
    (by kernel_rfl) (by kernel_rfl) (by kernel_rfl) (by kernel_rfl) (by kernel_rfl) (by kernel_rfl) (by kernel_rfl) (by kernel_rfl) (by kernel_rfl) (by rw [Try.plainKeysIs]; kernel_rfl) (by kernel_rfl) Try.stopsHeard Try.mayEnter (by rw [Try.lifts]; kernel_rfl) (by rw [Try.makeIs]; kernel_rfl) (by kernel_rfl) (by kernel_rfl) (by kernel_rfl) (by kernel_rfl)
theorem quoteFailed_holds : Rows.QuoteFailedSaid :=
  OpenClaim.holds_of_wide (p := Try.pinned) 22 Try.f22 rfl rfl rfl rfl rfl rfl rfl ⟨rfl, rfl, rfl, rfl, rfl⟩ rfl rfl rfl rfl rfl quoteFailed_a5 Try.func22 quoteFailed_closed
    (of_decide_eq_true (by kernel_rfl)) (by unfold Func.isWrapper; first | (rw [if_pos (by decide +kernel)]; kernel_rfl) | (rw [if_neg (by decide +kernel)]; exact ⟨rfl, rfl⟩))
    (fun os started H enc _ => quoteFailed_lifted os started H enc)

end Go.Proofs.Ytafajmnlknmfiaa
