/- UdpParses: which datagram any bytes begin with, or why it is none: for every input the law returns true and leaves its arguments as they were; no condition. -/
import Derived.Test.YtdbaehpfjpghfaaRows
import Derived.Test.YtdbaehpfjpghfaaG
import Derived.Test.YtdbaehpfjpghfaaGA
import Derived.Test.YtdbaehpfjpghfaaU
import Derived.Test.YtdbaehpfjpghfaaHF
import Derived.Test.YtdbaehpfjpghfaaCK
namespace Go.Proofs.Ytdbaehpfjpghfaa
open Go.ChangeShapes Go.WideShapes Go.ChangeAt Go.RowKit

theorem udpParses_lifted (os : Os) (started : os.Started) (H : Type) (enc : TypeId × Value → H) :
    ReturnsInHanded {} Try.checked os 21 .any (Rows.udpParsesSpec.pre6 enc Try.prog Try.f21 Rows.udpParsesRow.domain false) (Rows.udpParsesSpec.post enc Try.prog Try.f21 false true false false) := by
  refine law_lifted (C := Try.checked) (tb := 4) os started H enc Try.own Try.laidOut (by kernel_rfl) Try.func21 Try.underlying4 rfl (by kernel_rfl) rfl ?_
    (ChangeSpec.witness6 (enc := enc) (C := Try.checked) false ⟨#[], #[.int .u32 0, .int .u32 0, .slice none 0 0], []⟩ 8 (by kernel_rfl) (by kernel_rfl) (by kernel_rfl) (by kernel_rfl)) ?_
  · intro ds h
    rw [Try.params21] at h
    simp at h
    match ds, h with
    | [_, _, _], _ => rfl
  · intro W vs h
    rw [Try.params21] at h
    obtain ⟨v0, vs, rfl, h0, h⟩ := Args.cons h
    obtain ⟨v1, vs, rfl, h1, h⟩ := Args.cons h
    obtain ⟨v2, vs, rfl, h2, h⟩ := Args.cons h
    obtain rfl := Args.nil h
    obtain ⟨a0, b0, r0⟩ := h0.u32A
    obtain ⟨a1, b1, r1⟩ := h1.u32A
    obtain ⟨l2, r2⟩ := h2.bytesA
    exact ASpec.walk (udpParses_a a0 a1 l2 b0 b1) (RepL.cons r0 (RepL.cons r1 (RepL.cons r2 RepL.nil)))

theorem udpParses_a1 : (Rows.udpParsesRow.inPlace == Try.prog.inPlace 21) = true := by kernel_rfl
theorem udpParses_a2 : (Rows.udpParsesRow.unfollowed == Try.prog.unfollowed 21) = true := by kernel_rfl
theorem udpParses_a3 : (Rows.udpParsesRow.recurses == Try.prog.recurses 21) = true := by kernel_rfl
theorem udpParses_a4 : (Rows.udpParsesRow.named == Try.prog.varsNamed 21) = true := by kernel_rfl
theorem udpParses_a5 : Try.prog.funcNamed Rows.udpParsesRow.func = some 21 := by kernel_rfl
theorem udpParses_closed : joinedFacts Try.prog 21 Try.f21 Rows.udpParsesSpec Rows.udpParsesRow = true :=
  joined_mk (by kernel_rfl) Try.laidOut Try.mapsRowed (by kernel_rfl) (by kernel_rfl) (by kernel_rfl) Try.stopsNone (by kernel_rfl) Try.knobsNone udpParses_a1 udpParses_a2 udpParses_a3 udpParses_a4
    (by kernel_rfl) (by kernel_rfl) (by kernel_rfl) (by kernel_rfl) (by kernel_rfl) (by kernel_rfl) (by kernel_rfl) (by kernel_rfl) (by kernel_rfl) (by rw [Try.plainKeysIs]; kernel_rfl) (by kernel_rfl) Try.stopsHeard Try.mayEnter (by rw [Try.lifts]; kernel_rfl) (by rw [Try.makeIs]; kernel_rfl) (by kernel_rfl) (by kernel_rfl) (by kernel_rfl) (by kernel_rfl)
theorem udpParses_holds : Rows.UdpParsesSaid :=
  OpenClaim.holds_of_wide (p := Try.pinned) 21 Try.f21 rfl rfl rfl rfl rfl rfl rfl ⟨rfl, rfl, rfl, rfl, rfl⟩ rfl rfl rfl rfl rfl udpParses_a5 Try.func21 udpParses_closed
    (of_decide_eq_true (by kernel_rfl)) (by unfold Func.isWrapper; first | (rw [if_pos (by decide +kernel)]; kernel_rfl) | (rw [if_neg (by decide +kernel)]; exact ⟨rfl, rfl⟩))
    (fun os started H enc _ => udpParses_lifted os started H enc)

end Go.Proofs.Ytdbaehpfjpghfaa
