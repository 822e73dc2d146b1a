/- EtherPuts: which bytes any frame is, and that it is that of its bytes: for every input the law returns true and leaves its arguments as they were; no condition. -/
import Derived.Test.YtdbaehpfjpghfaaRows
import Derived.Test.YtdbaehpfjpghfaaG
import Derived.Test.YtdbaehpfjpghfaaGA
import Derived.Test.YtdbaehpfjpghfaaU
import Derived.Test.YtdbaehpfjpghfaaHF
import Derived.Test.YtdbaehpfjpghfaaCL
namespace Go.Proofs.Ytdbaehpfjpghfaa
open Go.ChangeShapes Go.WideShapes Go.ChangeAt Go.RowKit

theorem etherPuts_lifted (os : Os) (started : os.Started) (H : Type) (enc : TypeId × Value → H) :
    ReturnsInHanded {} Try.checked os 8 .any (Rows.etherPutsSpec.pre6 enc Try.prog Try.f8 Rows.etherPutsRow.domain false) (Rows.etherPutsSpec.post enc Try.prog Try.f8 false true false false) := by
  refine law_lifted (C := Try.checked) (tb := 4) os started H enc Try.own Try.laidOut (by kernel_rfl) Try.func8 Try.underlying4 rfl (by kernel_rfl) rfl ?_
    (ChangeSpec.witness6 (enc := enc) (C := Try.checked) false ⟨#[], #[.agg #[.int .u8 0, .int .u8 0, .int .u8 0, .int .u8 0, .int .u8 0, .int .u8 0, .int .u8 0, .int .u8 0, .int .u8 0, .int .u8 0, .int .u8 0, .int .u8 0, .int .u16 0, .slice none 0 0]], []⟩ 8 (by kernel_rfl) (by kernel_rfl) (by kernel_rfl) (by kernel_rfl)) ?_
  · intro ds h
    rw [Try.params8] at h
    simp at h
    match ds, h with
    | [_], _ => rfl
  · intro W vs h
    rw [Try.params8] at h
    obtain ⟨v0, vs, rfl, h0, h⟩ := Args.cons h
    obtain rfl := Args.nil h
    obtain ⟨d0, s0, t0, l0, hd0, hs0, ht0, r0⟩ := h0.frameA
    exact ASpec.walk (etherPuts_a d0 s0 t0 l0 hd0 hs0 ht0) (RepL.cons r0 RepL.nil)

theorem etherPuts_a1 : (Rows.etherPutsRow.inPlace == Try.prog.inPlace 8) = true := by kernel_rfl
theorem etherPuts_a2 : (Rows.etherPutsRow.unfollowed == Try.prog.unfollowed 8) = true := by kernel_rfl
theorem etherPuts_a3 : (Rows.etherPutsRow.recurses == Try.prog.recurses 8) = true := by kernel_rfl
theorem etherPuts_a4 : (Rows.etherPutsRow.named == Try.prog.varsNamed 8) = true := by kernel_rfl
theorem etherPuts_a5 : Try.prog.funcNamed Rows.etherPutsRow.func = some 8 := by kernel_rfl
theorem etherPuts_closed : joinedFacts Try.prog 8 Try.f8 Rows.etherPutsSpec Rows.etherPutsRow = true :=
  joined_mk (by kernel_rfl) Try.laidOut Try.mapsRowed (by kernel_rfl) (by kernel_rfl) (by kernel_rfl) Try.stopsNone (by kernel_rfl) Try.knobsNone etherPuts_a1 etherPuts_a2 etherPuts_a3 etherPuts_a4
    (by kernel_rfl) (by kernel_rfl) (by kernel_rfl) (by kernel_rfl) (by kernel_rfl) (by kernel_rfl) (by kernel_rfl) (by kernel_rfl) (by kernel_rfl) (by rw [Try.plainKeysIs]; kernel_rfl) (by kernel_rfl) Try.stopsHeard Try.mayEnter (by rw [Try.lifts]; kernel_rfl) (by rw [Try.makeIs]; kernel_rfl) (by kernel_rfl) (by kernel_rfl) (by kernel_rfl) (by kernel_rfl)
theorem etherPuts_holds : Rows.EtherPutsSaid :=
  OpenClaim.holds_of_wide (p := Try.pinned) 8 Try.f8 rfl rfl rfl rfl rfl rfl rfl ⟨rfl, rfl, rfl, rfl, rfl⟩ rfl rfl rfl rfl rfl etherPuts_a5 Try.func8 etherPuts_closed
    (of_decide_eq_true (by kernel_rfl)) (by unfold Func.isWrapper; first | (rw [if_pos (by decide +kernel)]; kernel_rfl) | (rw [if_neg (by decide +kernel)]; exact ⟨rfl, rfl⟩))
    (fun os started H enc _ => etherPuts_lifted os started H enc)

end Go.Proofs.Ytdbaehpfjpghfaa
