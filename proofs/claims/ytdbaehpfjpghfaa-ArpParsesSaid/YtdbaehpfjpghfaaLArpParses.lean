/- ArpParses: which packet any bytes begin with, or that it is none: for every input the law returns true and leaves its arguments as they were; no condition. -/
import Derived.Test.YtdbaehpfjpghfaaRows
import Derived.Test.YtdbaehpfjpghfaaG
import Derived.Test.YtdbaehpfjpghfaaGA
import Derived.Test.YtdbaehpfjpghfaaU
import Derived.Test.YtdbaehpfjpghfaaHF
import Derived.Test.YtdbaehpfjpghfaaCN
namespace Go.Proofs.Ytdbaehpfjpghfaa
open Go.ChangeShapes Go.WideShapes Go.ChangeAt Go.RowKit

theorem arpParses_lifted (os : Os) (started : os.Started) (H : Type) (enc : TypeId × Value → H) :
    ReturnsInHanded {} Try.checked os 15 .any (Rows.arpParsesSpec.pre6 enc Try.prog Try.f15 Rows.arpParsesRow.domain false) (Rows.arpParsesSpec.post enc Try.prog Try.f15 false true false false) := by
  refine law_lifted (C := Try.checked) (tb := 4) os started H enc Try.own Try.laidOut (by kernel_rfl) Try.func15 Try.underlying4 rfl (by kernel_rfl) rfl ?_
    (ChangeSpec.witness6 (enc := enc) (C := Try.checked) false ⟨#[], #[.slice none 0 0], []⟩ 8 (by kernel_rfl) (by kernel_rfl) (by kernel_rfl) (by kernel_rfl)) ?_
  · intro ds h
    rw [Try.params15] at h
    simp at h
    match ds, h with
    | [_], _ => rfl
  · intro W vs h
    rw [Try.params15] at h
    obtain ⟨v0, vs, rfl, h0, h⟩ := Args.cons h
    obtain rfl := Args.nil h
    obtain ⟨l0, r0⟩ := h0.bytesA
    exact ASpec.walk (arpParses_a l0) (RepL.cons r0 RepL.nil)

theorem arpParses_a1 : (Rows.arpParsesRow.inPlace == Try.prog.inPlace 15) = true := by kernel_rfl
theorem arpParses_a2 : (Rows.arpParsesRow.unfollowed == Try.prog.unfollowed 15) = true := by kernel_rfl
theorem arpParses_a3 : (Rows.arpParsesRow.recurses == Try.prog.recurses 15) = true := by kernel_rfl
theorem arpParses_a4 : (Rows.arpParsesRow.named == Try.prog.varsNamed 15) = true := by kernel_rfl
theorem arpParses_a5 : Try.prog.funcNamed Rows.arpParsesRow.func = some 15 := by kernel_rfl
theorem arpParses_closed : joinedFacts Try.prog 15 Try.f15 Rows.arpParsesSpec Rows.arpParsesRow = true :=
  joined_mk (by kernel_rfl) Try.laidOut Try.mapsRowed (by kernel_rfl) (by kernel_rfl) (by kernel_rfl) Try.stopsNone (by kernel_rfl) Try.knobsNone arpParses_a1 arpParses_a2 arpParses_a3 arpParses_a4
    (by kernel_rfl) (by kernel_rfl) (by kernel_rfl) (by kernel_rfl) (by kernel_rfl) (by kernel_rfl) (by kernel_rfl) (by kernel_rfl) (by kernel_rfl) (by rw [Try.plainKeysIs]; kernel_rfl) (by kernel_rfl) Try.stopsHeard Try.mayEnter (by rw [Try.lifts]; kernel_rfl) (by rw [Try.makeIs]; kernel_rfl) (by kernel_rfl) (by kernel_rfl) (by kernel_rfl) (by kernel_rfl)
theorem arpParses_holds : Rows.ArpParsesSaid :=
  OpenClaim.holds_of_wide (p := Try.pinned) 15 Try.f15 rfl rfl rfl rfl rfl rfl rfl ⟨rfl, rfl, rfl, rfl, rfl⟩ rfl rfl rfl rfl rfl arpParses_a5 Try.func15 arpParses_closed
    (of_decide_eq_true (by kernel_rfl)) (by unfold Func.isWrapper; first | (rw [if_pos (by decide +kernel)]; kernel_rfl) | (rw [if_neg (by decide +kernel)]; exact ⟨rfl, rfl⟩))
    (fun os started H enc _ => arpParses_lifted os started H enc)

end Go.Proofs.Ytdbaehpfjpghfaa
