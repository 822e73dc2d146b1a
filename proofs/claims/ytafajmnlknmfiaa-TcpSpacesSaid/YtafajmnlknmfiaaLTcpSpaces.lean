/- TcpSpaces: which flags any segment has, which numbers it takes, and which one comes behind it: for every input the law returns true and leaves its arguments as they were; no condition. -/
import Derived.Test.YtafajmnlknmfiaaRows
import Derived.Test.YtafajmnlknmfiaaG
import Derived.Test.YtafajmnlknmfiaaGA
import Derived.Test.YtafajmnlknmfiaaU
import Derived.Test.YtafajmnlknmfiaaHF
import Derived.Test.YtafajmnlknmfiaaTE
namespace Go.Proofs.Ytafajmnlknmfiaa
open Go.ChangeShapes Go.WideShapes Go.ChangeAt Go.RowKit

theorem tcpSpaces_lifted (os : Os) (started : os.Started) (H : Type) (enc : TypeId × Value → H) :
    ReturnsInHanded {} Try.checked os 14 .any (Rows.tcpSpacesSpec.pre6 enc Try.prog Try.f14 Rows.tcpSpacesRow.domain false) (Rows.tcpSpacesSpec.post enc Try.prog Try.f14 false true false false) := by
  refine law_lifted (C := Try.checked) (tb := 4) os started H enc Try.own Try.laidOut (by kernel_rfl) Try.func14 Try.underlying4 rfl (by kernel_rfl) rfl ?_
    (ChangeSpec.witness6 (enc := enc) (C := Try.checked) false ⟨#[], #[.agg #[.int .u16 0, .int .u16 0, .int .u32 0, .int .u32 0, .int .u8 0, .int .u8 0, .int .u16 0, .int .u16 0, .slice none 0 0, .slice none 0 0], .int .u8 0], []⟩ 8 (by kernel_rfl) (by kernel_rfl) (by kernel_rfl) (by kernel_rfl)) ?_
  · intro ds h
    rw [Try.params14] at h
    simp at h
    match ds, h with
    | [_, _], _ => rfl
  · intro W vs h
    rw [Try.params14] at h
    obtain ⟨v0, vs, rfl, h0, h⟩ := Args.cons h
    obtain ⟨v1, vs, rfl, h1, h⟩ := Args.cons h
    obtain rfl := Args.nil h
    obtain ⟨g0, hg0, r0⟩ := h0.segA
    obtain ⟨a1, b1, r1⟩ := h1.u8A
    exact ASpec.walk (tcpSpaces_a g0 a1 hg0 b1) (RepL.cons r0 (RepL.cons r1 RepL.nil))

theorem tcpSpaces_a1 : (Rows.tcpSpacesRow.inPlace == Try.prog.inPlace 14) = true := by kernel_rfl
theorem tcpSpaces_a2 : (Rows.tcpSpacesRow.unfollowed == Try.prog.unfollowed 14) = true := by kernel_rfl
theorem tcpSpaces_a3 : (Rows.tcpSpacesRow.recurses == Try.prog.recurses 14) = true := by kernel_rfl
theorem tcpSpaces_a4 : (Rows.tcpSpacesRow.named == Try.prog.varsNamed 14) = true := by kernel_rfl
theorem tcpSpaces_a5 : Try.prog.funcNamed Rows.tcpSpacesRow.func = some 14 := by kernel_rfl
theorem tcpSpaces_closed : joinedFacts Try.prog 14 Try.f14 Rows.tcpSpacesSpec Rows.tcpSpacesRow = true :=
  joined_mk (by kernel_rfl) Try.laidOut Try.mapsRowed (by kernel_rfl) (by kernel_rfl) (by kernel_rfl) Try.stopsNone (by kernel_rfl) Try.knobsNone tcpSpaces_a1 tcpSpaces_a2 tcpSpaces_a3 tcpSpaces_a4
    (by kernel_rfl) (by kernel_rfl) (by kernel_rfl) (by kernel_rfl) (by kernel_rfl) (by kernel_rfl) (by kernel_rfl) (by kernel_rfl) (by kernel_rfl) (by rw [Try.plainKeysIs]; kernel_rfl) (by kernel_rfl) Try.stopsHeard Try.mayEnter (by rw [Try.lifts]; kernel_rfl) (by rw [Try.makeIs]; kernel_rfl) (by kernel_rfl) (by kernel_rfl) (by kernel_rfl) (by kernel_rfl)
theorem tcpSpaces_holds : Rows.TcpSpacesSaid :=
  OpenClaim.holds_of_wide (p := Try.pinned) 14 Try.f14 rfl rfl rfl rfl rfl rfl rfl ⟨rfl, rfl, rfl, rfl, rfl⟩ rfl rfl rfl rfl rfl tcpSpaces_a5 Try.func14 tcpSpaces_closed
    (of_decide_eq_true (by kernel_rfl)) (by unfold Func.isWrapper; first | (rw [if_pos (by decide +kernel)]; kernel_rfl) | (rw [if_neg (by decide +kernel)]; exact ⟨rfl, rfl⟩))
    (fun os started H enc _ => tcpSpaces_lifted os started H enc)

end Go.Proofs.Ytafajmnlknmfiaa
