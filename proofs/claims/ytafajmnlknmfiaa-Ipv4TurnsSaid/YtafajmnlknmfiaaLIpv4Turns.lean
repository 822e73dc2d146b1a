/- Ipv4Turns: that a packet with another time to live, its sum turned, is that packet with that time to live: for every input the law returns true and leaves its arguments as they were; no condition. -/
import Derived.Test.YtafajmnlknmfiaaRows
import Derived.Test.YtafajmnlknmfiaaG
import Derived.Test.YtafajmnlknmfiaaGA
import Derived.Test.YtafajmnlknmfiaaU
import Derived.Test.YtafajmnlknmfiaaHF
import Derived.Test.YtafajmnlknmfiaaVF
namespace Go.Proofs.Ytafajmnlknmfiaa
open Go.ChangeShapes Go.WideShapes Go.ChangeAt Go.RowKit

theorem ipv4Turns_lifted (os : Os) (started : os.Started) (H : Type) (enc : TypeId × Value → H) :
    ReturnsInHanded {} Try.checked os 23 .any (Rows.ipv4TurnsSpec.pre6 enc Try.prog Try.f23 Rows.ipv4TurnsRow.domain false) (Rows.ipv4TurnsSpec.post enc Try.prog Try.f23 false true false false) := by
  refine law_lifted (C := Try.checked) (tb := 4) os started H enc Try.own Try.laidOut (by kernel_rfl) Try.func23 Try.underlying4 rfl (by kernel_rfl) rfl ?_
    (ChangeSpec.witness6 (enc := enc) (C := Try.checked) false ⟨#[], #[.slice none 0 0, .int .u8 0], []⟩ 8 (by kernel_rfl) (by kernel_rfl) (by kernel_rfl) (by kernel_rfl)) ?_
  · intro ds h
    rw [Try.params23] at h
    simp at h
    match ds, h with
    | [_, _], _ => rfl
  · intro W vs h
    rw [Try.params23] at h
    obtain ⟨v0, vs, rfl, h0, h⟩ := Args.cons h
    obtain ⟨v1, vs, rfl, h1, h⟩ := Args.cons h
    obtain rfl := Args.nil h
    obtain ⟨l0, r0⟩ := h0.bytesA
    obtain ⟨a1, b1, r1⟩ := h1.u8A
    exact ASpec.walk (ipv4Turns_a l0 a1 b1) (RepL.cons r0 (RepL.cons r1 RepL.nil))

theorem ipv4Turns_a1 : (Rows.ipv4TurnsRow.inPlace == Try.prog.inPlace 23) = true := by kernel_rfl
theorem ipv4Turns_a2 : (Rows.ipv4TurnsRow.unfollowed == Try.prog.unfollowed 23) = true := by kernel_rfl
theorem ipv4Turns_a3 : (Rows.ipv4TurnsRow.recurses == Try.prog.recurses 23) = true := by kernel_rfl
theorem ipv4Turns_a4 : (Rows.ipv4TurnsRow.named == Try.prog.varsNamed 23) = true := by kernel_rfl
theorem ipv4Turns_a5 : Try.prog.funcNamed Rows.ipv4TurnsRow.func = some 23 := by kernel_rfl
theorem ipv4Turns_closed : joinedFacts Try.prog 23 Try.f23 Rows.ipv4TurnsSpec Rows.ipv4TurnsRow = true :=
  joined_mk (by kernel_rfl) Try.laidOut Try.mapsRowed (by kernel_rfl) (by kernel_rfl) (by kernel_rfl) Try.stopsNone (by kernel_rfl) Try.knobsNone ipv4Turns_a1 ipv4Turns_a2 ipv4Turns_a3 ipv4Turns_a4
    (by kernel_rfl) (by kernel_rfl) (by kernel_rfl) (by kernel_rfl) (by kernel_rfl) (by kernel_rfl) (by kernel_rfl) (by kernel_rfl) (by kernel_rfl) (by rw [Try.plainKeysIs]; kernel_rfl) (by kernel_rfl) Try.stopsHeard Try.mayEnter (by rw [Try.lifts]; kernel_rfl) (by rw [Try.makeIs]; kernel_rfl) (by kernel_rfl) (by kernel_rfl) (by kernel_rfl) (by kernel_rfl)
theorem ipv4Turns_holds : Rows.Ipv4TurnsSaid :=
  OpenClaim.holds_of_wide (p := Try.pinned) 23 Try.f23 rfl rfl rfl rfl rfl rfl rfl ⟨rfl, rfl, rfl, rfl, rfl⟩ rfl rfl rfl rfl rfl ipv4Turns_a5 Try.func23 ipv4Turns_closed
    (of_decide_eq_true (by kernel_rfl)) (by unfold Func.isWrapper; first | (rw [if_pos (by decide +kernel)]; kernel_rfl) | (rw [if_neg (by decide +kernel)]; exact ⟨rfl, rfl⟩))
    (fun os started H enc _ => ipv4Turns_lifted os started H enc)

end Go.Proofs.Ytafajmnlknmfiaa
