/- EtherParses: which frame any bytes are, or that they are none: for every input the law returns true and leaves its arguments as they were; no condition. -/
import Derived.Test.YtdbaehpfjpghfaaRows
import Derived.Test.YtdbaehpfjpghfaaG
import Derived.Test.YtdbaehpfjpghfaaGA
import Derived.Test.YtdbaehpfjpghfaaU
import Derived.Test.YtdbaehpfjpghfaaHF
import Derived.Test.YtdbaehpfjpghfaaCL
namespace Go.Proofs.Ytdbaehpfjpghfaa
open Go.ChangeShapes Go.WideShapes Go.ChangeAt Go.RowKit

theorem etherParses_lifted (os : Os) (started : os.Started) (H : Type) (enc : TypeId × Value → H) :
    ReturnsInHanded {} Try.checked os 7 .any (Rows.etherParsesSpec.pre6 enc Try.prog Try.f7 Rows.etherParsesRow.domain false) (Rows.etherParsesSpec.post enc Try.prog Try.f7 false true false false) := by
  refine law_lifted (C := Try.checked) (tb := 4) os started H enc Try.own Try.laidOut (by kernel_rfl) Try.func7 Try.underlying4 rfl (by kernel_rfl) rfl ?_
    (ChangeSpec.witness6 (enc := enc) (C := Try.checked) false ⟨#[], #[.slice none 0 0], []⟩ 8 (by kernel_rfl) (by kernel_rfl) (by kernel_rfl) (by kernel_rfl)) ?_
  · intro ds h
    rw [Try.params7] at h
    simp at h
    match ds, h with
    | [_], _ => rfl
  · intro W vs h
    rw [Try.params7] at h
    obtain ⟨v0, vs, rfl, h0, h⟩ := Args.cons h
    obtain rfl := Args.nil h
    obtain ⟨l0, r0⟩ := h0.bytesA
    exact ASpec.walk (etherParses_a l0) (RepL.cons r0 RepL.nil)

theorem etherParses_a1 : (Rows.etherParsesRow.inPlace == Try.prog.inPlace 7) = true := by kernel_rfl
theorem etherParses_a2 : (Rows.etherParsesRow.unfollowed == Try.prog.unfollowed 7) = true := by kernel_rfl
theorem etherParses_a3 : (Rows.etherParsesRow.recurses == Try.prog.recurses 7) = true := by kernel_rfl
theorem etherParses_a4 : (Rows.etherParsesRow.named == Try.prog.varsNamed 7) = true := by kernel_rfl
theorem etherParses_a5 : Try.prog.funcNamed Rows.etherParsesRow.func = some 7 := by kernel_rfl
theorem etherParses_closed : joinedFacts Try.prog 7 Try.f7 Rows.etherParsesSpec Rows.etherParsesRow = true :=
  joined_mk (by kernel_rfl) Try.laidOut Try.mapsRowed (by kernel_rfl) (by kernel_rfl) (by kernel_rfl) Try.stopsNone (by kernel_rfl) Try.knobsNone etherParses_a1 etherParses_a2 etherParses_a3 etherParses_a4
    (by kernel_rfl) (by kernel_rfl) (by kernel_rfl) (by kernel_rfl) (by kernel_rfl) (by kernel_rfl) (by kernel_rfl) (by kernel_rfl) (by kernel_rfl) (by rw [Try.plainKeysIs]; kernel_rfl) (by kernel_rfl) Try.stopsHeard Try.mayEnter (by rw [Try.lifts]; kernel_rfl) (by rw [Try.makeIs]; kernel_rfl) (by kernel_rfl) (by kernel_rfl) (by kernel_rfl) (by kernel_rfl)
theorem etherParses_holds : Rows.EtherParsesSaid :=
  OpenClaim.holds_of_wide (p := Try.pinned) 7 Try.f7 rfl rfl rfl rfl rfl rfl rfl ⟨rfl, rfl, rfl, rfl, rfl⟩ rfl rfl rfl rfl rfl etherParses_a5 Try.func7 etherParses_closed
    (of_decide_eq_true (by kernel_rfl)) (by unfold Func.isWrapper; first | (rw [if_pos (by decide +kernel)]; kernel_rfl) | (rw [if_neg (by decide +kernel)]; exact ⟨rfl, rfl⟩))
    (fun os started H enc _ => etherParses_lifted os started H enc)

end Go.Proofs.Ytdbaehpfjpghfaa
