/- IcmpParses: which message any bytes are, or why they are none: for every input the law returns true and leaves its arguments as they were; no condition. -/
import Derived.Test.YtdbaehpfjpghfaaRows
import Derived.Test.YtdbaehpfjpghfaaG
import Derived.Test.YtdbaehpfjpghfaaGA
import Derived.Test.YtdbaehpfjpghfaaU
import Derived.Test.YtdbaehpfjpghfaaHF
import Derived.Test.YtdbaehpfjpghfaaCF
namespace Go.Proofs.Ytdbaehpfjpghfaa
set_option linter.unusedSimpArgs false
set_option linter.unusedVariables false
open Go.ChangeShapes Go.WideShapes Go.ChangeAt Go.RowKit

theorem icmpParses_lifted (os : Os) (started : os.Started) (H : Type) (enc : TypeId × Value → H) :
    ReturnsInHanded {} Try.checked os 17 .any (Rows.icmpParsesSpec.pre6 enc Try.prog Try.f17 Rows.icmpParsesRow.domain false) (Rows.icmpParsesSpec.post enc Try.prog Try.f17 false true false false) := by
  refine law_lifted (C := Try.checked) (tb := 4) os started H enc Try.own Try.laidOut (by kernel_rfl) Try.func17 Try.underlying4 rfl (by kernel_rfl) rfl ?_
    (ChangeSpec.witness6 (enc := enc) (C := Try.checked) false ⟨#[], #[.slice none 0 0], []⟩ 8 (by kernel_rfl) (by kernel_rfl) (by kernel_rfl) (by kernel_rfl)) ?_
  · intro ds h
    rw [Try.params17] at h
    simp at h
    match ds, h with
    | [_], _ => rfl
  · intro W vs h
    rw [Try.params17] at h
    obtain ⟨v0, vs, rfl, h0, h⟩ := Args.cons h
    obtain rfl := Args.nil h
    obtain ⟨l0, r0⟩ := h0.bytesA
    exact ASpec.walk (icmpParses_a l0) (RepL.cons r0 RepL.nil)

theorem icmpParses_a1 : (Rows.icmpParsesRow.inPlace == Try.prog.inPlace 17) = true := by kernel_rfl
theorem icmpParses_a2 : (Rows.icmpParsesRow.unfollowed == Try.prog.unfollowed 17) = true := by kernel_rfl
theorem icmpParses_a3 : (Rows.icmpParsesRow.recurses == Try.prog.recurses 17) = true := by kernel_rfl
theorem icmpParses_a4 : (Rows.icmpParsesRow.named == Try.prog.varsNamed 17) = true := by kernel_rfl
theorem icmpParses_a5 : Try.prog.funcNamed Rows.icmpParsesRow.func = some 17 := by kernel_rfl
theorem icmpParses_closed : joinedFacts Try.prog 17 Try.f17 Rows.icmpParsesSpec Rows.icmpParsesRow = true :=
  joined_mk (by kernel_rfl) Try.laidOut Try.mapsRowed (by kernel_rfl) (by kernel_rfl) (by kernel_rfl) Try.stopsNone (by kernel_rfl) Try.knobsNone icmpParses_a1 icmpParses_a2 icmpParses_a3 icmpParses_a4
    (by kernel_rfl) (by kernel_rfl) (by kernel_rfl) (by kernel_rfl) (by kernel_rfl) (by kernel_rfl) (by kernel_rfl) (by kernel_rfl) (by kernel_rfl) (by rw [Try.plainKeysIs]; kernel_rfl) (by kernel_rfl) Try.stopsHeard Try.mayEnter (by rw [Try.lifts]; kernel_rfl) (by rw [Try.makeIs]; kernel_rfl) (by kernel_rfl) (by kernel_rfl) (by kernel_rfl) (by kernel_rfl)
theorem icmpParses_holds : Rows.IcmpParsesSaid :=
  OpenClaim.holds_of_wide (p := Try.pinned) 17 Try.f17 rfl rfl rfl rfl rfl rfl rfl ⟨rfl, rfl, rfl, rfl, rfl⟩ rfl rfl rfl rfl rfl icmpParses_a5 Try.func17 icmpParses_closed
    (of_decide_eq_true (by kernel_rfl)) (by unfold Func.isWrapper; first | (rw [if_pos (by decide +kernel)]; kernel_rfl) | (rw [if_neg (by decide +kernel)]; exact ⟨rfl, rfl⟩))
    (fun os started H enc _ => icmpParses_lifted os started H enc)

end Go.Proofs.Ytdbaehpfjpghfaa
