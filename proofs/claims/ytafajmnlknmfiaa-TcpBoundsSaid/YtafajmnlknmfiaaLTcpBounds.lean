/- TcpBounds: that of as many bytes as may be there is a segment, and of more there is none: for every input the law returns true and leaves its arguments as they were; no condition. -/
import Derived.Test.YtafajmnlknmfiaaRows
import Derived.Test.YtafajmnlknmfiaaG
import Derived.Test.YtafajmnlknmfiaaGA
import Derived.Test.YtafajmnlknmfiaaU
import Derived.Test.YtafajmnlknmfiaaHF
import Derived.Test.YtafajmnlknmfiaaTD
namespace Go.Proofs.Ytafajmnlknmfiaa
open Go.ChangeShapes Go.WideShapes Go.ChangeAt Go.RowKit

theorem tcpBounds_lifted (os : Os) (started : os.Started) (H : Type) (enc : TypeId × Value → H) :
    ReturnsInHanded {} Try.checked os 15 .any (Rows.tcpBoundsSpec.pre6 enc Try.prog Try.f15 Rows.tcpBoundsRow.domain false) (Rows.tcpBoundsSpec.post enc Try.prog Try.f15 false true false false) := by
  refine law_lifted (C := Try.checked) (tb := 4) os started H enc Try.own Try.laidOut (by kernel_rfl) Try.func15 Try.underlying4 rfl (by kernel_rfl) rfl ?_
    (ChangeSpec.witness6 (enc := enc) (C := Try.checked) false ⟨#[], #[.int .i64 0], []⟩ 8 (by kernel_rfl) (by kernel_rfl) (by kernel_rfl) (by kernel_rfl)) ?_
  · intro ds h
    rw [Try.params15] at h
    simp at h
    match ds, h with
    | [_], _ => rfl
  · intro W vs h
    rw [Try.params15] at h
    obtain ⟨v0, vs, rfl, h0, h⟩ := Args.cons h
    obtain rfl := Args.nil h
    obtain ⟨a0, b0, r0⟩ := h0.i64A
    exact ASpec.walk (tcpBounds_a a0) (RepL.cons r0 RepL.nil)

theorem tcpBounds_a1 : (Rows.tcpBoundsRow.inPlace == Try.prog.inPlace 15) = true := by kernel_rfl
theorem tcpBounds_a2 : (Rows.tcpBoundsRow.unfollowed == Try.prog.unfollowed 15) = true := by kernel_rfl
theorem tcpBounds_a3 : (Rows.tcpBoundsRow.recurses == Try.prog.recurses 15) = true := by kernel_rfl
theorem tcpBounds_a4 : (Rows.tcpBoundsRow.named == Try.prog.varsNamed 15) = true := by kernel_rfl
theorem tcpBounds_a5 : Try.prog.funcNamed Rows.tcpBoundsRow.func = some 15 := by kernel_rfl
theorem tcpBounds_closed : joinedFacts Try.prog 15 Try.f15 Rows.tcpBoundsSpec Rows.tcpBoundsRow = true :=
  joined_mk (by kernel_rfl) Try.laidOut Try.mapsRowed (by kernel_rfl) (by kernel_rfl) (by kernel_rfl) Try.stopsNone (by kernel_rfl) Try.knobsNone tcpBounds_a1 tcpBounds_a2 tcpBounds_a3 tcpBounds_a4
    (by kernel_rfl) (by kernel_rfl) (by kernel_rfl) (by kernel_rfl) (by kernel_rfl) (by kernel_rfl) (by kernel_rfl) (by kernel_rfl) (by kernel_rfl) (by rw [Try.plainKeysIs]; kernel_rfl) (by kernel_rfl) Try.stopsHeard Try.mayEnter (by rw [Try.lifts]; kernel_rfl) (by rw [Try.makeIs]; kernel_rfl) (by kernel_rfl) (by kernel_rfl) (by kernel_rfl) (by kernel_rfl)
theorem tcpBounds_holds : Rows.TcpBoundsSaid :=
  OpenClaim.holds_of_wide (p := Try.pinned) 15 Try.f15 rfl rfl rfl rfl rfl rfl rfl ⟨rfl, rfl, rfl, rfl, rfl⟩ rfl rfl rfl rfl rfl tcpBounds_a5 Try.func15 tcpBounds_closed
    (of_decide_eq_true (by kernel_rfl)) (by unfold Func.isWrapper; first | (rw [if_pos (by decide +kernel)]; kernel_rfl) | (rw [if_neg (by decide +kernel)]; exact ⟨rfl, rfl⟩))
    (fun os started H enc _ => tcpBounds_lifted os started H enc)

end Go.Proofs.Ytafajmnlknmfiaa
