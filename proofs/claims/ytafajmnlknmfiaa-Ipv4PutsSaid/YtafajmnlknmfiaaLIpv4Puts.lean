/- Ipv4Puts: which packets may be, which bytes they are, and that they are read again, whatever stands behind: for every input the law returns true and leaves its arguments as they were; no condition. -/
import Derived.Test.YtafajmnlknmfiaaRows
import Derived.Test.YtafajmnlknmfiaaG
import Derived.Test.YtafajmnlknmfiaaGA
import Derived.Test.YtafajmnlknmfiaaU
import Derived.Test.YtafajmnlknmfiaaHF
import Derived.Test.YtafajmnlknmfiaaVF
namespace Go.Proofs.Ytafajmnlknmfiaa
open Go.ChangeShapes Go.WideShapes Go.ChangeAt Go.RowKit

theorem ipv4Puts_lifted (os : Os) (started : os.Started) (H : Type) (enc : TypeId × Value → H) :
    ReturnsInHanded {} Try.checked os 20 .any (Rows.ipv4PutsSpec.pre6 enc Try.prog Try.f20 Rows.ipv4PutsRow.domain false) (Rows.ipv4PutsSpec.post enc Try.prog Try.f20 false true false false) := by
  refine law_lifted (C := Try.checked) (tb := 4) os started H enc Try.own Try.laidOut (by kernel_rfl) Try.func20 Try.underlying4 rfl (by kernel_rfl) rfl ?_
    (ChangeSpec.witness6 (enc := enc) (C := Try.checked) false ⟨#[], #[.agg #[.int .u8 0, .int .u16 0, .bool false, .bool false, .int .u16 0, .int .u8 0, .int .u8 0, .int .u32 0, .int .u32 0, .slice none 0 0, .slice none 0 0], .slice none 0 0], []⟩ 8 (by kernel_rfl) (by kernel_rfl) (by kernel_rfl) (by kernel_rfl)) ?_
  · intro ds h
    rw [Try.params20] at h
    simp at h
    match ds, h with
    | [_, _], _ => rfl
  · intro W vs h
    rw [Try.params20] at h
    obtain ⟨v0, vs, rfl, h0, h⟩ := Args.cons h
    obtain ⟨v1, vs, rfl, h1, h⟩ := Args.cons h
    obtain rfl := Args.nil h
    obtain ⟨p0, hp0, r0⟩ := h0.pktA
    obtain ⟨l1, r1⟩ := h1.bytesA
    exact ASpec.walk (ipv4Puts_a p0 l1 hp0) (RepL.cons r0 (RepL.cons r1 RepL.nil))

theorem ipv4Puts_a1 : (Rows.ipv4PutsRow.inPlace == Try.prog.inPlace 20) = true := by kernel_rfl
theorem ipv4Puts_a2 : (Rows.ipv4PutsRow.unfollowed == Try.prog.unfollowed 20) = true := by kernel_rfl
theorem ipv4Puts_a3 : (Rows.ipv4PutsRow.recurses == Try.prog.recurses 20) = true := by kernel_rfl
theorem ipv4Puts_a4 : (Rows.ipv4PutsRow.named == Try.prog.varsNamed 20) = true := by kernel_rfl
theorem ipv4Puts_a5 : Try.prog.funcNamed Rows.ipv4PutsRow.func = some 20 := by kernel_rfl
theorem ipv4Puts_closed : joinedFacts Try.prog 20 Try.f20 Rows.ipv4PutsSpec Rows.ipv4PutsRow = true :=
  joined_mk (by kernel_rfl) Try.laidOut Try.mapsRowed (by kernel_rfl) (by kernel_rfl) (by kernel_rfl) Try.stopsNone (by kernel_rfl) Try.knobsNone ipv4Puts_a1 ipv4Puts_a2 ipv4Puts_a3 ipv4Puts_a4
    (by kernel_rfl) (by kernel_rfl) (by kernel_rfl) (by kernel_rfl) (by kernel_rfl) (by kernel_rfl) (by kernel_rfl) (by kernel_rfl) (by kernel_rfl) (by rw [Try.plainKeysIs]; kernel_rfl) (by kernel_rfl) Try.stopsHeard Try.mayEnter (by rw [Try.lifts]; kernel_rfl) (by rw [Try.makeIs]; kernel_rfl) (by kernel_rfl) (by kernel_rfl) (by kernel_rfl) (by kernel_rfl)
theorem ipv4Puts_holds : Rows.Ipv4PutsSaid :=
  OpenClaim.holds_of_wide (p := Try.pinned) 20 Try.f20 rfl rfl rfl rfl rfl rfl rfl ⟨rfl, rfl, rfl, rfl, rfl⟩ rfl rfl rfl rfl rfl ipv4Puts_a5 Try.func20 ipv4Puts_closed
    (of_decide_eq_true (by kernel_rfl)) (by unfold Func.isWrapper; first | (rw [if_pos (by decide +kernel)]; kernel_rfl) | (rw [if_neg (by decide +kernel)]; exact ⟨rfl, rfl⟩))
    (fun os started H enc _ => ipv4Puts_lifted os started H enc)

end Go.Proofs.Ytafajmnlknmfiaa
