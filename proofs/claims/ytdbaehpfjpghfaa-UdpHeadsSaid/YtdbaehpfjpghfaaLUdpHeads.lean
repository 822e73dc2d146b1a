/- UdpHeads: what any false head is: for every input the law returns true and leaves its arguments as they were; no condition. -/
import Derived.Test.YtdbaehpfjpghfaaRows
import Derived.Test.YtdbaehpfjpghfaaG
import Derived.Test.YtdbaehpfjpghfaaGA
import Derived.Test.YtdbaehpfjpghfaaU
import Derived.Test.YtdbaehpfjpghfaaHF
import Derived.Test.YtdbaehpfjpghfaaCK
namespace Go.Proofs.Ytdbaehpfjpghfaa
open Go.ChangeShapes Go.WideShapes Go.ChangeAt Go.RowKit

theorem udpHeads_lifted (os : Os) (started : os.Started) (H : Type) (enc : TypeId × Value → H) :
    ReturnsInHanded {} Try.checked os 11 .any (Rows.udpHeadsSpec.pre6 enc Try.prog Try.f11 Rows.udpHeadsRow.domain false) (Rows.udpHeadsSpec.post enc Try.prog Try.f11 false true false false) := by
  refine law_lifted (C := Try.checked) (tb := 4) os started H enc Try.own Try.laidOut (by kernel_rfl) Try.func11 Try.underlying4 rfl (by kernel_rfl) rfl ?_
    (ChangeSpec.witness6 (enc := enc) (C := Try.checked) false ⟨#[], #[.int .u32 0, .int .u32 0, .int .u8 0, .int .i64 0], []⟩ 8 (by kernel_rfl) (by kernel_rfl) (by kernel_rfl) (by kernel_rfl)) ?_
  · intro ds h
    rw [Try.params11] at h
    simp at h
    match ds, h with
    | [_, _, _, _], _ => rfl
  · intro W vs h
    rw [Try.params11] at h
    obtain ⟨v0, vs, rfl, h0, h⟩ := Args.cons h
    obtain ⟨v1, vs, rfl, h1, h⟩ := Args.cons h
    obtain ⟨v2, vs, rfl, h2, h⟩ := Args.cons h
    obtain ⟨v3, vs, rfl, h3, h⟩ := Args.cons h
    obtain rfl := Args.nil h
    obtain ⟨a0, b0, r0⟩ := h0.u32A
    obtain ⟨a1, b1, r1⟩ := h1.u32A
    obtain ⟨a2, b2, r2⟩ := h2.u8A
    obtain ⟨a3, b3, r3⟩ := h3.i64A
    exact ASpec.walk (udpHeads_a a0 a1 a2 a3 b0 b1 b2) (RepL.cons r0 (RepL.cons r1 (RepL.cons r2 (RepL.cons r3 RepL.nil))))

theorem udpHeads_a1 : (Rows.udpHeadsRow.inPlace == Try.prog.inPlace 11) = true := by kernel_rfl
theorem udpHeads_a2 : (Rows.udpHeadsRow.unfollowed == Try.prog.unfollowed 11) = true := by kernel_rfl
theorem udpHeads_a3 : (Rows.udpHeadsRow.recurses == Try.prog.recurses 11) = true := by kernel_rfl
theorem udpHeads_a4 : (Rows.udpHeadsRow.named == Try.prog.varsNamed 11) = true := by kernel_rfl
theorem udpHeads_a5 : Try.prog.funcNamed Rows.udpHeadsRow.func = some 11 := by kernel_rfl
theorem udpHeads_closed : joinedFacts Try.prog 11 Try.f11 Rows.udpHeadsSpec Rows.udpHeadsRow = true :=
  joined_mk (by kernel_rfl) Try.laidOut Try.mapsRowed (by kernel_rfl) (by kernel_rfl) (by kernel_rfl) Try.stopsNone (by kernel_rfl) Try.knobsNone udpHeads_a1 udpHeads_a2 udpHeads_a3 udpHeads_a4
    (by kernel_rfl) (by kernel_rfl) (by kernel_rfl) (by kernel_rfl) (by kernel_rfl) (by kernel_rfl) (by kernel_rfl) (by kernel_rfl) (by kernel_rfl) (by rw [Try.plainKeysIs]; kernel_rfl) (by kernel_rfl) Try.stopsHeard Try.mayEnter (by rw [Try.lifts]; kernel_rfl) (by rw [Try.makeIs]; kernel_rfl) (by kernel_rfl) (by kernel_rfl) (by kernel_rfl) (by kernel_rfl)
theorem udpHeads_holds : Rows.UdpHeadsSaid :=
  OpenClaim.holds_of_wide (p := Try.pinned) 11 Try.f11 rfl rfl rfl rfl rfl rfl rfl ⟨rfl, rfl, rfl, rfl, rfl⟩ rfl rfl rfl rfl rfl udpHeads_a5 Try.func11 udpHeads_closed
    (of_decide_eq_true (by kernel_rfl)) (by unfold Func.isWrapper; first | (rw [if_pos (by decide +kernel)]; kernel_rfl) | (rw [if_neg (by decide +kernel)]; exact ⟨rfl, rfl⟩))
    (fun os started H enc _ => udpHeads_lifted os started H enc)

end Go.Proofs.Ytdbaehpfjpghfaa
