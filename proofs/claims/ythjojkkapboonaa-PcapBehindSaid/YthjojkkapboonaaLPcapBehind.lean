/- PcapBehind: that a file with a record more is its bytes, and the record's: for every input the law returns true and leaves its arguments as they were; no condition. -/
import Derived.Test.YthjojkkapboonaaRows
import Derived.Test.YthjojkkapboonaaG
import Derived.Test.YthjojkkapboonaaGA
import Derived.Test.YthjojkkapboonaaU
import Derived.Test.YthjojkkapboonaaHF
import Derived.Test.YthjojkkapboonaaPI
import Derived.Test.YthjojkkapboonaaGC
namespace Go.Proofs.Ythjojkkapboonaa
open Go.ChangeShapes Go.WideShapes Go.ChangeAt Go.RowKit

theorem pcapBehind_lifted (os : Os) (started : os.Started) (H : Type) (enc : TypeId × Value → H) :
    ReturnsInHanded {} Try.checked os 6 .any (Rows.pcapBehindSpec.pre6 enc Try.prog Try.f6 Rows.pcapBehindRow.domain false) (Rows.pcapBehindSpec.post enc Try.prog Try.f6 false true false false) := by
  refine law_lifted (C := Try.checked) (tb := 4) os started H enc Try.own Try.laidOut (by kernel_rfl) Try.func6 Try.underlying4 rfl (by kernel_rfl) rfl ?_
    (ChangeSpec.witness6 (enc := enc) (C := Try.checked) false ⟨#[], #[.slice none 0 0, .agg #[.int .u32 0, .int .u32 0, .slice none 0 0]], []⟩ 8 (by kernel_rfl) (by kernel_rfl) (by kernel_rfl) (by kernel_rfl)) ?_
  · intro ds h
    rw [Try.params6] at h
    simp at h
    match ds, h with
    | [_, _], _ => rfl
  · intro W vs h
    rw [Try.params6] at h
    obtain ⟨v0, vs, rfl, h0, h⟩ := Args.cons h
    obtain ⟨v1, vs, rfl, h1, h⟩ := Args.cons h
    obtain rfl := Args.nil h
    obtain ⟨l0, hl0, hn0, r0⟩ := h0.recsA
    obtain ⟨g1, hg1, r1⟩ := h1.recA
    exact ASpec.walk (pcapBehind_a l0 g1 hl0 hg1 (Nat.le_trans hn0 (by simp [maxLen]))) (RepL.cons r0 (RepL.cons r1 RepL.nil))

theorem pcapBehind_a1 : (Rows.pcapBehindRow.inPlace == Try.prog.inPlace 6) = true := by kernel_rfl
theorem pcapBehind_a2 : (Rows.pcapBehindRow.unfollowed == Try.prog.unfollowed 6) = true := by kernel_rfl
theorem pcapBehind_a3 : (Rows.pcapBehindRow.recurses == Try.prog.recurses 6) = true := by kernel_rfl
theorem pcapBehind_a4 : (Rows.pcapBehindRow.named == Try.prog.varsNamed 6) = true := by kernel_rfl
theorem pcapBehind_a5 : Try.prog.funcNamed Rows.pcapBehindRow.func = some 6 := by kernel_rfl
theorem pcapBehind_closed : joinedFacts Try.prog 6 Try.f6 Rows.pcapBehindSpec Rows.pcapBehindRow = true :=
  joined_mk (by kernel_rfl) Try.laidOut Try.mapsRowed (by kernel_rfl) (by kernel_rfl) (by kernel_rfl) Try.stopsNone (by kernel_rfl) Try.knobsNone pcapBehind_a1 pcapBehind_a2 pcapBehind_a3 pcapBehind_a4
    (by kernel_rfl) (by kernel_rfl) (by kernel_rfl) (by kernel_rfl) (by kernel_rfl) (by kernel_rfl) (by kernel_rfl) (by kernel_rfl) (by kernel_rfl) (by rw [Try.plainKeysIs]; kernel_rfl) (by kernel_rfl) Try.stopsHeard Try.mayEnter (by rw [Try.lifts]; kernel_rfl) (by rw [Try.makeIs]; kernel_rfl) (by kernel_rfl) (by kernel_rfl) (by kernel_rfl) (by kernel_rfl)
theorem pcapBehind_holds : Rows.PcapBehindSaid :=
  OpenClaim.holds_of_wide (p := Try.pinned) 6 Try.f6 rfl rfl rfl rfl rfl rfl rfl ⟨rfl, rfl, rfl, rfl, rfl⟩ rfl rfl rfl rfl rfl pcapBehind_a5 Try.func6 pcapBehind_closed
    (of_decide_eq_true (by kernel_rfl)) (by unfold Func.isWrapper; first | (rw [if_pos (by decide +kernel)]; kernel_rfl) | (rw [if_neg (by decide +kernel)]; exact ⟨rfl, rfl⟩))
    (fun os started H enc _ => pcapBehind_lifted os started H enc)

end Go.Proofs.Ythjojkkapboonaa
