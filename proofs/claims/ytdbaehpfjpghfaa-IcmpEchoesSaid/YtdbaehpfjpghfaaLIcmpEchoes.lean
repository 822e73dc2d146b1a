/- IcmpEchoes: what one asks, and is answered: for every input the law returns true and leaves its arguments as they were; no condition. -/
import Derived.Test.YtdbaehpfjpghfaaRows
import Derived.Test.YtdbaehpfjpghfaaG
import Derived.Test.YtdbaehpfjpghfaaGA
import Derived.Test.YtdbaehpfjpghfaaU
import Derived.Test.YtdbaehpfjpghfaaHF
import Derived.Test.YtdbaehpfjpghfaaCF
namespace Go.Proofs.Ytdbaehpfjpghfaa
set_option linter.unusedSimpArgs false
set_option linter.unusedVariables false
open Go.ChangeShapes Go.WideShapes Go.ChangeAt Go.RowKit

theorem icmpEchoes_lifted (os : Os) (started : os.Started) (H : Type) (enc : TypeId × Value → H) :
    ReturnsInHanded {} Try.checked os 9 .any (Rows.icmpEchoesSpec.pre6 enc Try.prog Try.f9 Rows.icmpEchoesRow.domain false) (Rows.icmpEchoesSpec.post enc Try.prog Try.f9 false true false false) := by
  refine law_lifted (C := Try.checked) (tb := 4) os started H enc Try.own Try.laidOut (by kernel_rfl) Try.func9 Try.underlying4 rfl (by kernel_rfl) rfl ?_
    (ChangeSpec.witness6 (enc := enc) (C := Try.checked) false ⟨#[], #[.int .u16 0, .int .u16 0, .slice none 0 0, .agg #[.int .u8 0, .int .u8 0, .int .u32 0, .slice none 0 0]], []⟩ 8 (by kernel_rfl) (by kernel_rfl) (by kernel_rfl) (by kernel_rfl)) ?_
  · intro ds h
    rw [Try.params9] at h
    simp at h
    match ds, h with
    | [_, _, _, _], _ => rfl
  · intro W vs h
    rw [Try.params9] at h
    obtain ⟨v0, vs, rfl, h0, h⟩ := Args.cons h
    obtain ⟨v1, vs, rfl, h1, h⟩ := Args.cons h
    obtain ⟨v2, vs, rfl, h2, h⟩ := Args.cons h
    obtain ⟨v3, vs, rfl, h3, h⟩ := Args.cons h
    obtain rfl := Args.nil h
    obtain ⟨a0, b0, r0⟩ := h0.u16A
    obtain ⟨a1, b1, r1⟩ := h1.u16A
    obtain ⟨l2, r2⟩ := h2.bytesA
    obtain ⟨t3, c3, n3, l3, ht3, hc3, hn3, r3⟩ := h3.icmpA
    exact ASpec.walk (icmpEchoes_a a0 a1 l2 t3 c3 n3 l3 b0 b1 hn3) (RepL.cons r0 (RepL.cons r1 (RepL.cons r2 (RepL.cons r3 RepL.nil))))

theorem icmpEchoes_a1 : (Rows.icmpEchoesRow.inPlace == Try.prog.inPlace 9) = true := by kernel_rfl
theorem icmpEchoes_a2 : (Rows.icmpEchoesRow.unfollowed == Try.prog.unfollowed 9) = true := by kernel_rfl
theorem icmpEchoes_a3 : (Rows.icmpEchoesRow.recurses == Try.prog.recurses 9) = true := by kernel_rfl
theorem icmpEchoes_a4 : (Rows.icmpEchoesRow.named == Try.prog.varsNamed 9) = true := by kernel_rfl
theorem icmpEchoes_a5 : Try.prog.funcNamed Rows.icmpEchoesRow.func = some 9 := by kernel_rfl
theorem icmpEchoes_closed : joinedFacts Try.prog 9 Try.f9 Rows.icmpEchoesSpec Rows.icmpEchoesRow = true :=
  joined_mk (by kernel_rfl) Try.laidOut Try.mapsRowed (by kernel_rfl) (by kernel_rfl) (by kernel_rfl) Try.stopsNone (by kernel_rfl) Try.knobsNone icmpEchoes_a1 icmpEchoes_a2 icmpEchoes_a3 icmpEchoes_a4
    (by kernel_rfl) (by kernel_rfl) (by kernel_rfl) (by kernel_rfl) (by kernel_rfl) (by kernel_rfl) (by kernel_rfl) (by kernel_rfl) (by kernel_rfl) (by rw [Try.plainKeysIs]; kernel_rfl) (by kernel_rfl) Try.stopsHeard Try.mayEnter (by rw [Try.lifts]; kernel_rfl) (by rw [Try.makeIs]; kernel_rfl) (by kernel_rfl) (by kernel_rfl) (by kernel_rfl) (by kernel_rfl)
theorem icmpEchoes_holds : Rows.IcmpEchoesSaid :=
  OpenClaim.holds_of_wide (p := Try.pinned) 9 Try.f9 rfl rfl rfl rfl rfl rfl rfl ⟨rfl, rfl, rfl, rfl, rfl⟩ rfl rfl rfl rfl rfl icmpEchoes_a5 Try.func9 icmpEchoes_closed
    (of_decide_eq_true (by kernel_rfl)) (by unfold Func.isWrapper; first | (rw [if_pos (by decide +kernel)]; kernel_rfl) | (rw [if_neg (by decide +kernel)]; exact ⟨rfl, rfl⟩))
    (fun os started H enc _ => icmpEchoes_lifted os started H enc)

end Go.Proofs.Ytdbaehpfjpghfaa
