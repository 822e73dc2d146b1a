/- QuoteOf: which flow any message tells of, or why of none: for every input the law returns true and leaves its arguments as they were; no condition. -/
import Derived.Test.YtafajmnlknmfiaaRows
import Derived.Test.YtafajmnlknmfiaaG
import Derived.Test.YtafajmnlknmfiaaGA
import Derived.Test.YtafajmnlknmfiaaU
import Derived.Test.YtafajmnlknmfiaaHF
import Derived.Test.YtafajmnlknmfiaaQC
namespace Go.Proofs.Ytafajmnlknmfiaa
open Go.ChangeShapes Go.WideShapes Go.ChangeAt Go.RowKit

theorem quoteOf_lifted (os : Os) (started : os.Started) (H : Type) (enc : TypeId × Value → H) :
    ReturnsInHanded {} Try.checked os 21 .any (Rows.quoteOfSpec.pre6 enc Try.prog Try.f21 Rows.quoteOfRow.domain false) (Rows.quoteOfSpec.post enc Try.prog Try.f21 false true false false) := by
  refine law_lifted (C := Try.checked) (tb := 4) os started H enc Try.own Try.laidOut (by kernel_rfl) Try.func21 Try.underlying4 rfl (by kernel_rfl) rfl ?_
    (ChangeSpec.witness6 (enc := enc) (C := Try.checked) false ⟨#[], #[.agg #[.int .u8 0, .int .u8 0, .int .u32 0, .slice none 0 0]], []⟩ 8 (by kernel_rfl) (by kernel_rfl) (by kernel_rfl) (by kernel_rfl)) ?_
  · intro ds h
    rw [Try.params21] at h
    simp at h
    match ds, h with
    | [_], _ => rfl
  · intro W vs h
    rw [Try.params21] at h
    obtain ⟨v0, vs, rfl, h0, h⟩ := Args.cons h
    obtain rfl := Args.nil h
    obtain ⟨t0, c0, n0, l0, ht0, hc0, hn0, r0⟩ := h0.icmpA
    exact ASpec.walk (quoteOfLaw_a t0 c0 n0 l0) (RepL.cons r0 RepL.nil)

theorem quoteOf_a1 : (Rows.quoteOfRow.inPlace == Try.prog.inPlace 21) = true := by kernel_rfl
theorem quoteOf_a2 : (Rows.quoteOfRow.unfollowed == Try.prog.unfollowed 21) = true := by kernel_rfl
theorem quoteOf_a3 : (Rows.quoteOfRow.recurses == Try.prog.recurses 21) = true := by kernel_rfl
theorem quoteOf_a4 : (Rows.quoteOfRow.named == Try.prog.varsNamed 21) = true := by kernel_rfl
theorem quoteOf_a5 : Try.prog.funcNamed Rows.quoteOfRow.func = some 21 := by kernel_rfl
theorem quoteOf_closed : joinedFacts Try.prog 21 Try.f21 Rows.quoteOfSpec Rows.quoteOfRow = true :=
  joined_mk (by kernel_rfl) Try.laidOut Try.mapsRowed (by kernel_rfl) (by kernel_rfl) (by kernel_rfl) Try.stopsNone (by kernel_rfl) Try.knobsNone quoteOf_a1 quoteOf_a2 quoteOf_a3 quoteOf_a4
    (by kernel_rfl) (by kernel_rfl) (by kernel_rfl) (by kernel_rfl) (by kernel_rfl) (by kernel_rfl) (by kernel_rfl) (by kernel_rfl) (by kernel_rfl) (by rw [Try.plainKeysIs]; kernel_rfl) (by kernel_rfl) Try.stopsHeard Try.mayEnter (by rw [Try.lifts]; kernel_rfl) (by rw [Try.makeIs]; kernel_rfl) (by kernel_rfl) (by kernel_rfl) (by kernel_rfl) (by kernel_rfl)
theorem quoteOf_holds : Rows.QuoteOfSaid :=
  OpenClaim.holds_of_wide (p := Try.pinned) 21 Try.f21 rfl rfl rfl rfl rfl rfl rfl ⟨rfl, rfl, rfl, rfl, rfl⟩ rfl rfl rfl rfl rfl quoteOf_a5 Try.func21 quoteOf_closed
    (of_decide_eq_true (by kernel_rfl)) (by unfold Func.isWrapper; first | (rw [if_pos (by decide +kernel)]; kernel_rfl) | (rw [if_neg (by decide +kernel)]; exact ⟨rfl, rfl⟩))
    (fun os started H enc _ => quoteOf_lifted os started H enc)

end Go.Proofs.Ytafajmnlknmfiaa
