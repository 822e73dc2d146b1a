/- UdpBounds: that of as many bytes as may be there is a datagram, and of more none: for every input the law returns true and leaves its arguments as they were; no condition. -/
import Derived.Test.YtdbaehpfjpghfaaRows
import Derived.Test.YtdbaehpfjpghfaaG
import Derived.Test.YtdbaehpfjpghfaaGA
import Derived.Test.YtdbaehpfjpghfaaU
import Derived.Test.YtdbaehpfjpghfaaHF
import Derived.Test.YtdbaehpfjpghfaaCO
namespace Go.Proofs.Ytdbaehpfjpghfaa
open Go.ChangeShapes Go.WideShapes Go.ChangeAt Go.RowKit

theorem udpBounds_lifted (os : Os) (started : os.Started) (H : Type) (enc : TypeId × Value → H) :
    ReturnsInHanded {} Try.checked os 12 .any (Rows.udpBoundsSpec.pre6 enc Try.prog Try.f12 Rows.udpBoundsRow.domain false) (Rows.udpBoundsSpec.post enc Try.prog Try.f12 false true false false) := by
  refine law_lifted (C := Try.checked) (tb := 4) os started H enc Try.own Try.laidOut (by kernel_rfl) Try.func12 Try.underlying4 rfl (by kernel_rfl) rfl ?_
    (ChangeSpec.witness6 (enc := enc) (C := Try.checked) false ⟨#[], #[.int .i64 0], []⟩ 8 (by kernel_rfl) (by kernel_rfl) (by kernel_rfl) (by kernel_rfl)) ?_
  · intro ds h
    rw [Try.params12] at h
    simp at h
    match ds, h with
    | [_], _ => rfl
  · intro W vs h
    rw [Try.params12] at h
    obtain ⟨v0, vs, rfl, h0, h⟩ := Args.cons h
    obtain rfl := Args.nil h
    obtain ⟨a0, b0, r0⟩ := h0.i64A
    exact ASpec.walk (udpBounds_a a0) (RepL.cons r0 RepL.nil)

theorem udpBounds_a1 : (Rows.udpBoundsRow.inPlace == Try.prog.inPlace 12) = true := by kernel_rfl
theorem udpBounds_a2 : (Rows.udpBoundsRow.unfollowed == Try.prog.unfollowed 12) = true := by kernel_rfl
theorem udpBounds_a3 : (Rows.udpBoundsRow.recurses == Try.prog.recurses 12) = true := by kernel_rfl
theorem udpBounds_a4 : (Rows.udpBoundsRow.named == Try.prog.varsNamed 12) = true := by kernel_rfl
theorem udpBounds_a5 : Try.prog.funcNamed Rows.udpBoundsRow.func = some 12 := by kernel_rfl
theorem udpBounds_closed : joinedFacts Try.prog 12 Try.f12 Rows.udpBoundsSpec Rows.udpBoundsRow = true :=
  joined_mk (by kernel_rfl) Try.laidOut Try.mapsRowed (by kernel_rfl) (by kernel_rfl) (by kernel_rfl) Try.stopsNone (by kernel_rfl) Try.knobsNone udpBounds_a1 udpBounds_a2 udpBounds_a3 udpBounds_a4
    (by kernel_rfl) (by kernel_rfl) (by kernel_rfl) (by kernel_rfl) (by kernel_rfl) (by kernel_rfl) (by kernel_rfl) (by kernel_rfl) (by kernel_rfl) (by rw [Try.plainKeysIs]; kernel_rfl) (by kernel_rfl) Try.stopsHeard Try.mayEnter (by rw [Try.lifts]; kernel_rfl) (by rw [Try.makeIs]; kernel_rfl) (by kernel_rfl) (by kernel_rfl) (by kernel_rfl) (by kernel_rfl)
theorem udpBounds_holds : Rows.UdpBoundsSaid :=
  OpenClaim.holds_of_wide (p := Try.pinned) 12 Try.f12 rfl rfl rfl rfl rfl rfl rfl ⟨rfl, rfl, rfl, rfl, rfl⟩ rfl rfl rfl rfl rfl udpBounds_a5 Try.func12 udpBounds_closed
    (of_decide_eq_true (by kernel_rfl)) (by unfold Func.isWrapper; first | (rw [if_pos (by decide +kernel)]; kernel_rfl) | (rw [if_neg (by decide +kernel)]; exact ⟨rfl, rfl⟩))
    (fun os started H enc _ => udpBounds_lifted os started H enc)

end Go.Proofs.Ytdbaehpfjpghfaa
