/- IcmpFails: what is told about any packet, and which messages are about one: for every input the law returns true and leaves its arguments as they were; no condition. -/
import Derived.Test.YtdbaehpfjpghfaaRows
import Derived.Test.YtdbaehpfjpghfaaG
import Derived.Test.YtdbaehpfjpghfaaGA
import Derived.Test.YtdbaehpfjpghfaaU
import Derived.Test.YtdbaehpfjpghfaaHF
import Derived.Test.YtdbaehpfjpghfaaCF
namespace Go.Proofs.Ytdbaehpfjpghfaa
set_option linter.unusedSimpArgs false
set_option linter.unusedVariables false
open Go.ChangeShapes Go.WideShapes Go.ChangeAt Go.RowKit

theorem icmpFails_lifted (os : Os) (started : os.Started) (H : Type) (enc : TypeId × Value → H) :
    ReturnsInHanded {} Try.checked os 10 .any (Rows.icmpFailsSpec.pre6 enc Try.prog Try.f10 Rows.icmpFailsRow.domain false) (Rows.icmpFailsSpec.post enc Try.prog Try.f10 false true false false) := by
  refine law_lifted (C := Try.checked) (tb := 4) os started H enc Try.own Try.laidOut (by kernel_rfl) Try.func10 Try.underlying4 rfl (by kernel_rfl) rfl ?_
    (ChangeSpec.witness6 (enc := enc) (C := Try.checked) false ⟨#[], #[.int .u8 0, .int .u8 0, .int .u32 0, .slice none 0 0, .agg #[.int .u8 0, .int .u8 0, .int .u32 0, .slice none 0 0]], []⟩ 8 (by kernel_rfl) (by kernel_rfl) (by kernel_rfl) (by kernel_rfl)) ?_
  · intro ds h
    rw [Try.params10] at h
    simp at h
    match ds, h with
    | [_, _, _, _, _], _ => rfl
  · intro W vs h
    rw [Try.params10] at h
    obtain ⟨v0, vs, rfl, h0, h⟩ := Args.cons h
    obtain ⟨v1, vs, rfl, h1, h⟩ := Args.cons h
    obtain ⟨v2, vs, rfl, h2, h⟩ := Args.cons h
    obtain ⟨v3, vs, rfl, h3, h⟩ := Args.cons h
    obtain ⟨v4, vs, rfl, h4, h⟩ := Args.cons h
    obtain rfl := Args.nil h
    obtain ⟨a0, b0, r0⟩ := h0.u8A
    obtain ⟨a1, b1, r1⟩ := h1.u8A
    obtain ⟨a2, b2, r2⟩ := h2.u32A
    obtain ⟨l3, r3⟩ := h3.bytesA
    obtain ⟨t4, c4, n4, l4, ht4, hc4, hn4, r4⟩ := h4.icmpA
    exact ASpec.walk (icmpFails_a a0 a1 a2 l3 t4 c4 n4 l4) (RepL.cons r0 (RepL.cons r1 (RepL.cons r2 (RepL.cons r3 (RepL.cons r4 RepL.nil)))))

theorem icmpFails_a1 : (Rows.icmpFailsRow.inPlace == Try.prog.inPlace 10) = true := by kernel_rfl
theorem icmpFails_a2 : (Rows.icmpFailsRow.unfollowed == Try.prog.unfollowed 10) = true := by kernel_rfl
theorem icmpFails_a3 : (Rows.icmpFailsRow.recurses == Try.prog.recurses 10) = true := by kernel_rfl
theorem icmpFails_a4 : (Rows.icmpFailsRow.named == Try.prog.varsNamed 10) = true := by kernel_rfl
theorem icmpFails_a5 : Try.prog.funcNamed Rows.icmpFailsRow.func = some 10 := by kernel_rfl
theorem icmpFails_closed : joinedFacts Try.prog 10 Try.f10 Rows.icmpFailsSpec Rows.icmpFailsRow = true :=
  joined_mk (by kernel_rfl) Try.laidOut Try.mapsRowed (by kernel_rfl) (by kernel_rfl) (by kernel_rfl) Try.stopsNone (by kernel_rfl) Try.knobsNone icmpFails_a1 icmpFails_a2 icmpFails_a3 icmpFails_a4
    (by kernel_rfl) (by kernel_rfl) (by kernel_rfl) (by kernel_rfl) (by kernel_rfl) (by kernel_rfl) (by kernel_rfl) (by kernel_rfl) (by kernel_rfl) (by rw [Try.plainKeysIs]; kernel_rfl) (by kernel_rfl) Try.stopsHeard Try.mayEnter (by rw [Try.lifts]; kernel_rfl) (by rw [Try.makeIs]; kernel_rfl) (by kernel_rfl) (by kernel_rfl) (by kernel_rfl) (by kernel_rfl)
theorem icmpFails_holds : Rows.IcmpFailsSaid :=
  OpenClaim.holds_of_wide (p := Try.pinned) 10 Try.f10 rfl rfl rfl rfl rfl rfl rfl ⟨rfl, rfl, rfl, rfl, rfl⟩ rfl rfl rfl rfl rfl icmpFails_a5 Try.func10 icmpFails_closed
    (of_decide_eq_true (by kernel_rfl)) (by unfold Func.isWrapper; first | (rw [if_pos (by decide +kernel)]; kernel_rfl) | (rw [if_neg (by decide +kernel)]; exact ⟨rfl, rfl⟩))
    (fun os started H enc _ => icmpFails_lifted os started H enc)

end Go.Proofs.Ytdbaehpfjpghfaa
