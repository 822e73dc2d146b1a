/- IcmpPuts: which bytes any message is; it is that of its bytes: for every input the law returns true and leaves its arguments as they were; no condition. -/
import Derived.Test.YtdbaehpfjpghfaaRows
import Derived.Test.YtdbaehpfjpghfaaG
import Derived.Test.YtdbaehpfjpghfaaGA
import Derived.Test.YtdbaehpfjpghfaaU
import Derived.Test.YtdbaehpfjpghfaaHF
import Derived.Test.YtdbaehpfjpghfaaCF
namespace Go.Proofs.Ytdbaehpfjpghfaa
set_option linter.unusedSimpArgs false
set_option linter.unusedVariables false
open Go.ChangeShapes Go.WideShapes Go.ChangeAt Go.RowKit

theorem icmpPuts_lifted (os : Os) (started : os.Started) (H : Type) (enc : TypeId × Value → H) :
    ReturnsInHanded {} Try.checked os 18 .any (Rows.icmpPutsSpec.pre6 enc Try.prog Try.f18 Rows.icmpPutsRow.domain false) (Rows.icmpPutsSpec.post enc Try.prog Try.f18 false true false false) := by
  refine law_lifted (C := Try.checked) (tb := 4) os started H enc Try.own Try.laidOut (by kernel_rfl) Try.func18 Try.underlying4 rfl (by kernel_rfl) rfl ?_
    (ChangeSpec.witness6 (enc := enc) (C := Try.checked) false ⟨#[], #[.agg #[.int .u8 0, .int .u8 0, .int .u32 0, .slice none 0 0]], []⟩ 8 (by kernel_rfl) (by kernel_rfl) (by kernel_rfl) (by kernel_rfl)) ?_
  · intro ds h
    rw [Try.params18] at h
    simp at h
    match ds, h with
    | [_], _ => rfl
  · intro W vs h
    rw [Try.params18] at h
    obtain ⟨v0, vs, rfl, h0, h⟩ := Args.cons h
    obtain rfl := Args.nil h
    obtain ⟨t0, c0, n0, l0, ht0, hc0, hn0, r0⟩ := h0.icmpA
    exact ASpec.walk (icmpPuts_a t0 c0 n0 l0 ht0 hc0 hn0) (RepL.cons r0 RepL.nil)

theorem icmpPuts_a1 : (Rows.icmpPutsRow.inPlace == Try.prog.inPlace 18) = true := by kernel_rfl
theorem icmpPuts_a2 : (Rows.icmpPutsRow.unfollowed == Try.prog.unfollowed 18) = true := by kernel_rfl
theorem icmpPuts_a3 : (Rows.icmpPutsRow.recurses == Try.prog.recurses 18) = true := by kernel_rfl
theorem icmpPuts_a4 : (Rows.icmpPutsRow.named == Try.prog.varsNamed 18) = true := by kernel_rfl
theorem icmpPuts_a5 : Try.prog.funcNamed Rows.icmpPutsRow.func = some 18 := by kernel_rfl
theorem icmpPuts_closed : joinedFacts Try.prog 18 Try.f18 Rows.icmpPutsSpec Rows.icmpPutsRow = true :=
  joined_mk (by kernel_rfl) Try.laidOut Try.mapsRowed (by kernel_rfl) (by kernel_rfl) (by kernel_rfl) Try.stopsNone (by kernel_rfl) Try.knobsNone icmpPuts_a1 icmpPuts_a2 icmpPuts_a3 icmpPuts_a4
    (by kernel_rfl) (by kernel_rfl) (by kernel_rfl) (by kernel_rfl) (by kernel_rfl) (by kernel_rfl) (by kernel_rfl) (by kernel_rfl) (by kernel_rfl) (by rw [Try.plainKeysIs]; kernel_rfl) (by kernel_rfl) Try.stopsHeard Try.mayEnter (by rw [Try.lifts]; kernel_rfl) (by rw [Try.makeIs]; kernel_rfl) (by kernel_rfl) (by kernel_rfl) (by kernel_rfl) (by kernel_rfl)
theorem icmpPuts_holds : Rows.IcmpPutsSaid :=
  OpenClaim.holds_of_wide (p := Try.pinned) 18 Try.f18 rfl rfl rfl rfl rfl rfl rfl ⟨rfl, rfl, rfl, rfl, rfl⟩ rfl rfl rfl rfl rfl icmpPuts_a5 Try.func18 icmpPuts_closed
    (of_decide_eq_true (by kernel_rfl)) (by unfold Func.isWrapper; first | (rw [if_pos (by decide +kernel)]; kernel_rfl) | (rw [if_neg (by decide +kernel)]; exact ⟨rfl, rfl⟩))
    (fun os started H enc _ => icmpPuts_lifted os started H enc)

end Go.Proofs.Ytdbaehpfjpghfaa
