/- Ipv4Back: that bytes that are a packet, with nothing behind, are its bytes, if their sum is no 65535: for every input the law returns true and leaves its arguments as they were; no condition. -/
import Derived.Test.YtafajmnlknmfiaaRows
import Derived.Test.YtafajmnlknmfiaaG
import Derived.Test.YtafajmnlknmfiaaGA
import Derived.Test.YtafajmnlknmfiaaU
import Derived.Test.YtafajmnlknmfiaaHF
import Derived.Test.YtafajmnlknmfiaaVF
namespace Go.Proofs.Ytafajmnlknmfiaa
open Go.ChangeShapes Go.WideShapes Go.ChangeAt Go.RowKit

theorem ipv4Back_lifted (os : Os) (started : os.Started) (H : Type) (enc : TypeId × Value → H) :
    ReturnsInHanded {} Try.checked os 19 .any (Rows.ipv4BackSpec.pre6 enc Try.prog Try.f19 Rows.ipv4BackRow.domain false) (Rows.ipv4BackSpec.post enc Try.prog Try.f19 false true false false) := by
  refine law_lifted (C := Try.checked) (tb := 4) os started H enc Try.own Try.laidOut (by kernel_rfl) Try.func19 Try.underlying4 rfl (by kernel_rfl) rfl ?_
    (ChangeSpec.witness6 (enc := enc) (C := Try.checked) false ⟨#[], #[.slice none 0 0], []⟩ 8 (by kernel_rfl) (by kernel_rfl) (by kernel_rfl) (by kernel_rfl)) ?_
  · intro ds h
    rw [Try.params19] at h
    simp at h
    match ds, h with
    | [_], _ => rfl
  · intro W vs h
    rw [Try.params19] at h
    obtain ⟨v0, vs, rfl, h0, h⟩ := Args.cons h
    obtain rfl := Args.nil h
    obtain ⟨l0, r0⟩ := h0.bytesA
    exact ASpec.walk (ipv4Back_a l0) (RepL.cons r0 RepL.nil)

theorem ipv4Back_a1 : (Rows.ipv4BackRow.inPlace == Try.prog.inPlace 19) = true := by kernel_rfl
theorem ipv4Back_a2 : (Rows.ipv4BackRow.unfollowed == Try.prog.unfollowed 19) = true := by kernel_rfl
theorem ipv4Back_a3 : (Rows.ipv4BackRow.recurses == Try.prog.recurses 19) = true := by kernel_rfl
theorem ipv4Back_a4 : (Rows.ipv4BackRow.named == Try.prog.varsNamed 19) = true := by kernel_rfl
theorem ipv4Back_a5 : Try.prog.funcNamed Rows.ipv4BackRow.func = some 19 := by kernel_rfl
theorem ipv4Back_closed : joinedFacts Try.prog 19 Try.f19 Rows.ipv4BackSpec Rows.ipv4BackRow = true :=
  joined_mk (by kernel_rfl) Try.laidOut Try.mapsRowed (by kernel_rfl) (by kernel_rfl) (by kernel_rfl) Try.stopsNone (by kernel_rfl) Try.knobsNone ipv4Back_a1 ipv4Back_a2 ipv4Back_a3 ipv4Back_a4
    (by kernel_rfl) (by kernel_rfl) (by kernel_rfl) (by kernel_rfl) (by kernel_rfl) (by kernel_rfl) (by kernel_rfl) (by kernel_rfl) (by kernel_rfl) (by rw [Try.plainKeysIs]; kernel_rfl) (by kernel_rfl) Try.stopsHeard Try.mayEnter (by rw [Try.lifts]; kernel_rfl) (by rw [Try.makeIs]; kernel_rfl) (by kernel_rfl) (by kernel_rfl) (by kernel_rfl) (by kernel_rfl)
theorem ipv4Back_holds : Rows.Ipv4BackSaid :=
  OpenClaim.holds_of_wide (p := Try.pinned) 19 Try.f19 rfl rfl rfl rfl rfl rfl rfl ⟨rfl, rfl, rfl, rfl, rfl⟩ rfl rfl rfl rfl rfl ipv4Back_a5 Try.func19 ipv4Back_closed
    (of_decide_eq_true (by kernel_rfl)) (by unfold Func.isWrapper; first | (rw [if_pos (by decide +kernel)]; kernel_rfl) | (rw [if_neg (by decide +kernel)]; exact ⟨rfl, rfl⟩))
    (fun os started H enc _ => ipv4Back_lifted os started H enc)

end Go.Proofs.Ytafajmnlknmfiaa
