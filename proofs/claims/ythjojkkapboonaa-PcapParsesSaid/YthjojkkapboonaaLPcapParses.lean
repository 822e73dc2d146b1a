/- PcapParses: which records any bytes are a file of, or why of none; and which bytes its first ones are: for every input the law returns true and leaves its arguments as they were; no condition. -/
import Derived.Test.YthjojkkapboonaaRows
import Derived.Test.YthjojkkapboonaaG
import Derived.Test.YthjojkkapboonaaGA
import Derived.Test.YthjojkkapboonaaU
import Derived.Test.YthjojkkapboonaaHF
import Derived.Test.YthjojkkapboonaaPH
import Derived.Test.YthjojkkapboonaaGC
namespace Go.Proofs.Ythjojkkapboonaa
open Go.ChangeShapes Go.WideShapes Go.ChangeAt Go.RowKit

theorem pcapParses_lifted (os : Os) (started : os.Started) (H : Type) (enc : TypeId × Value → H) :
    ReturnsInHanded {} Try.checked os 8 .any (Rows.pcapParsesSpec.pre6 enc Try.prog Try.f8 Rows.pcapParsesRow.domain false) (Rows.pcapParsesSpec.post enc Try.prog Try.f8 false true false false) := by
  refine law_lifted (C := Try.checked) (tb := 4) os started H enc Try.own Try.laidOut (by kernel_rfl) Try.func8 Try.underlying4 rfl (by kernel_rfl) rfl ?_
    (ChangeSpec.witness6 (enc := enc) (C := Try.checked) false ⟨#[], #[.slice none 0 0, .int .i64 0], []⟩ 8 (by kernel_rfl) (by kernel_rfl) (by kernel_rfl) (by kernel_rfl)) ?_
  · intro ds h
    rw [Try.params8] at h
    simp at h
    match ds, h with
    | [_, _], _ => rfl
  · intro W vs h
    rw [Try.params8] at h
    obtain ⟨v0, vs, rfl, h0, h⟩ := Args.cons h
    obtain ⟨v1, vs, rfl, h1, h⟩ := Args.cons h
    obtain rfl := Args.nil h
    obtain ⟨l0, r0⟩ := h0.bytesA
    obtain ⟨a1, b1, r1⟩ := h1.i64A
    exact ASpec.walk (pcapParses_a l0 a1) (RepL.cons r0 (RepL.cons r1 RepL.nil))

theorem pcapParses_a1 : (Rows.pcapParsesRow.inPlace == Try.prog.inPlace 8) = true := by kernel_rfl
theorem pcapParses_a2 : (Rows.pcapParsesRow.unfollowed == Try.prog.unfollowed 8) = true := by kernel_rfl
theorem pcapParses_a3 : (Rows.pcapParsesRow.recurses == Try.prog.recurses 8) = true := by kernel_rfl
theorem pcapParses_a4 : (Rows.pcapParsesRow.named == Try.prog.varsNamed 8) = true := by kernel_rfl
theorem pcapParses_a5 : Try.prog.funcNamed Rows.pcapParsesRow.func = some 8 := by kernel_rfl
theorem pcapParses_closed : joinedFacts Try.prog 8 Try.f8 Rows.pcapParsesSpec Rows.pcapParsesRow = true :=
  joined_mk (by kernel_rfl) Try.laidOut Try.mapsRowed (by kernel_rfl) (by kernel_rfl) (by kernel_rfl) Try.stopsNone (by kernel_rfl) Try.knobsNone pcapParses_a1 pcapParses_a2 pcapParses_a3 pcapParses_a4
    (by kernel_rfl) (by kernel_rfl) (by kernel_rfl) (by kernel_rfl) (by kernel_rfl) (by kernel_rfl) (by kernel_rfl) (by kernel_rfl) (by kernel_rfl) (by rw [Try.plainKeysIs]; kernel_rfl) (by kernel_rfl) Try.stopsHeard Try.mayEnter (by rw [Try.lifts]; kernel_rfl) (by rw [Try.makeIs]; kernel_rfl) (by kernel_rfl) (by kernel_rfl) (by kernel_rfl) (by kernel_rfl)
theorem pcapParses_holds : Rows.PcapParsesSaid :=
  OpenClaim.holds_of_wide (p := Try.pinned) 8 Try.f8 rfl rfl rfl rfl rfl rfl rfl ⟨rfl, rfl, rfl, rfl, rfl⟩ rfl rfl rfl rfl rfl pcapParses_a5 Try.func8 pcapParses_closed
    (of_decide_eq_true (by kernel_rfl)) (by unfold Func.isWrapper; first | (rw [if_pos (by decide +kernel)]; kernel_rfl) | (rw [if_neg (by decide +kernel)]; exact ⟨rfl, rfl⟩))
    (fun os started H enc _ => pcapParses_lifted os started H enc)

end Go.Proofs.Ythjojkkapboonaa
