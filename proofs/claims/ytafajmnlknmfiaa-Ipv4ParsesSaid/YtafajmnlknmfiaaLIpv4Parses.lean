/- Ipv4Parses: which packet any bytes begin with, or why it is none: for every input the law returns true and leaves its arguments as they were; no condition. -/
import Derived.Test.YtafajmnlknmfiaaRows
import Derived.Test.YtafajmnlknmfiaaG
import Derived.Test.YtafajmnlknmfiaaGA
import Derived.Test.YtafajmnlknmfiaaU
import Derived.Test.YtafajmnlknmfiaaHF
import Derived.Test.YtafajmnlknmfiaaVF
namespace Go.Proofs.Ytafajmnlknmfiaa
open Go.ChangeShapes Go.WideShapes Go.ChangeAt Go.RowKit

theorem ipv4Parses_lifted (os : Os) (started : os.Started) (H : Type) (enc : TypeId × Value → H) :
    ReturnsInHanded {} Try.checked os 18 .any (Rows.ipv4ParsesSpec.pre6 enc Try.prog Try.f18 Rows.ipv4ParsesRow.domain false) (Rows.ipv4ParsesSpec.post enc Try.prog Try.f18 false true false false) := by
  refine law_lifted (C := Try.checked) (tb := 4) os started H enc Try.own Try.laidOut (by kernel_rfl) Try.func18 Try.underlying4 rfl (by kernel_rfl) rfl ?_
    (ChangeSpec.witness6 (enc := enc) (C := Try.checked) false ⟨#[], #[.slice none 0 0], []⟩ 8 (by kernel_rfl) (by kernel_rfl) (by kernel_rfl) (by kernel_rfl)) ?_
  · intro ds h
    rw [Try.params18] at h
    simp at h
    match ds, h with
    | [_], _ => rfl
  · intro W vs h
    rw [Try.params18] at h
    obtain ⟨v0, vs, rfl, h0, h⟩ := Args.cons h
    obtain rfl := Args.nil h
    obtain ⟨l0, r0⟩ := h0.bytesA
    exact ASpec.walk (ipv4Parses_a l0) (RepL.cons r0 RepL.nil)

theorem ipv4Parses_a1 : (Rows.ipv4ParsesRow.inPlace == Try.prog.inPlace 18) = true := by kernel_rfl
theorem ipv4Parses_a2 : (Rows.ipv4ParsesRow.unfollowed == Try.prog.unfollowed 18) = true := by kernel_rfl
theorem ipv4Parses_a3 : (Rows.ipv4ParsesRow.recurses == Try.prog.recurses 18) = true := by kernel_rfl
theorem ipv4Parses_a4 : (Rows.ipv4ParsesRow.named == Try.prog.varsNamed 18) = true := by kernel_rfl
theorem ipv4Parses_a5 : Try.prog.funcNamed Rows.ipv4ParsesRow.func = some 18 := by kernel_rfl
theorem ipv4Parses_closed : joinedFacts Try.prog 18 Try.f18 Rows.ipv4ParsesSpec Rows.ipv4ParsesRow = true :=
  joined_mk (by kernel_rfl) Try.laidOut Try.mapsRowed (by kernel_rfl) (by kernel_rfl) (by kernel_rfl) Try.stopsNone (by kernel_rfl) Try.knobsNone ipv4Parses_a1 ipv4Parses_a2 ipv4Parses_a3 ipv4Parses_a4
    (by kernel_rfl) (by kernel_rfl) (by kernel_rfl) (by kernel_rfl) (by kernel_rfl) (by kernel_rfl) (by kernel_rfl) (by kernel_rfl) (by kernel_rfl) (by rw [Try.plainKeysIs]; kernel_rfl) (by kernel_rfl) Try.stopsHeard Try.mayEnter (by rw [Try.lifts]; kernel_rfl) (by rw [Try.makeIs]; kernel_rfl) (by kernel_rfl) (by kernel_rfl) (by kernel_rfl) (by kernel_rfl)
theorem ipv4Parses_holds : Rows.Ipv4ParsesSaid :=
  OpenClaim.holds_of_wide (p := Try.pinned) 18 Try.f18 rfl rfl rfl rfl rfl rfl rfl ⟨rfl, rfl, rfl, rfl, rfl⟩ rfl rfl rfl rfl rfl ipv4Parses_a5 Try.func18 ipv4Parses_closed
    (of_decide_eq_true (by kernel_rfl)) (by unfold Func.isWrapper; first | (rw [if_pos (by decide +kernel)]; kernel_rfl) | (rw [if_neg (by decide +kernel)]; exact ⟨rfl, rfl⟩))
    (fun os started H enc _ => ipv4Parses_lifted os started H enc)

end Go.Proofs.Ytafajmnlknmfiaa
