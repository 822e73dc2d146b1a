/- ArpPuts: which bytes any packet is, and that it is read again: for every input the law returns true and leaves its arguments as they were; no condition. -/
import Derived.Test.YtdbaehpfjpghfaaRows
import Derived.Test.YtdbaehpfjpghfaaG
import Derived.Test.YtdbaehpfjpghfaaGA
import Derived.Test.YtdbaehpfjpghfaaU
import Derived.Test.YtdbaehpfjpghfaaHF
import Derived.Test.YtdbaehpfjpghfaaCN
namespace Go.Proofs.Ytdbaehpfjpghfaa
open Go.ChangeShapes Go.WideShapes Go.ChangeAt Go.RowKit

theorem arpPuts_lifted (os : Os) (started : os.Started) (H : Type) (enc : TypeId × Value → H) :
    ReturnsInHanded {} Try.checked os 16 .any (Rows.arpPutsSpec.pre6 enc Try.prog Try.f16 Rows.arpPutsRow.domain false) (Rows.arpPutsSpec.post enc Try.prog Try.f16 false true false false) := by
  refine law_lifted (C := Try.checked) (tb := 4) os started H enc Try.own Try.laidOut (by kernel_rfl) Try.func16 Try.underlying4 rfl (by kernel_rfl) rfl ?_
    (ChangeSpec.witness6 (enc := enc) (C := Try.checked) false ⟨#[], #[.agg #[.int .u16 0, .int .u8 0, .int .u8 0, .int .u8 0, .int .u8 0, .int .u8 0, .int .u8 0, .int .u32 0, .int .u8 0, .int .u8 0, .int .u8 0, .int .u8 0, .int .u8 0, .int .u8 0, .int .u32 0], .slice none 0 0], []⟩ 8 (by kernel_rfl) (by kernel_rfl) (by kernel_rfl) (by kernel_rfl)) ?_
  · intro ds h
    rw [Try.params16] at h
    simp at h
    match ds, h with
    | [_, _], _ => rfl
  · intro W vs h
    rw [Try.params16] at h
    obtain ⟨v0, vs, rfl, h0, h⟩ := Args.cons h
    obtain ⟨v1, vs, rfl, h1, h⟩ := Args.cons h
    obtain rfl := Args.nil h
    obtain ⟨o0, s0, x0, d0, y0, ho0, hs0, hx0, hd0, hy0, r0⟩ := h0.arpA
    obtain ⟨l1, r1⟩ := h1.bytesA
    exact ASpec.walk (arpPuts_a o0 s0 x0 d0 y0 l1 ho0 hs0 hx0 hd0 hy0) (RepL.cons r0 (RepL.cons r1 RepL.nil))

theorem arpPuts_a1 : (Rows.arpPutsRow.inPlace == Try.prog.inPlace 16) = true := by kernel_rfl
theorem arpPuts_a2 : (Rows.arpPutsRow.unfollowed == Try.prog.unfollowed 16) = true := by kernel_rfl
theorem arpPuts_a3 : (Rows.arpPutsRow.recurses == Try.prog.recurses 16) = true := by kernel_rfl
theorem arpPuts_a4 : (Rows.arpPutsRow.named == Try.prog.varsNamed 16) = true := by kernel_rfl
theorem arpPuts_a5 : Try.prog.funcNamed Rows.arpPutsRow.func = some 16 := by kernel_rfl
theorem arpPuts_closed : joinedFacts Try.prog 16 Try.f16 Rows.arpPutsSpec Rows.arpPutsRow = true :=
  joined_mk (by kernel_rfl) Try.laidOut Try.mapsRowed (by kernel_rfl) (by kernel_rfl) (by kernel_rfl) Try.stopsNone (by kernel_rfl) Try.knobsNone arpPuts_a1 arpPuts_a2 arpPuts_a3 arpPuts_a4
    (by kernel_rfl) (by kernel_rfl) (by kernel_rfl) (by kernel_rfl) (by kernel_rfl) (by kernel_rfl) (by kernel_rfl) (by kernel_rfl) (by kernel_rfl) (by rw [Try.plainKeysIs]; kernel_rfl) (by kernel_rfl) Try.stopsHeard Try.mayEnter (by rw [Try.lifts]; kernel_rfl) (by rw [Try.makeIs]; kernel_rfl) (by kernel_rfl) (by kernel_rfl) (by kernel_rfl) (by kernel_rfl)
theorem arpPuts_holds : Rows.ArpPutsSaid :=
  OpenClaim.holds_of_wide (p := Try.pinned) 16 Try.f16 rfl rfl rfl rfl rfl rfl rfl ⟨rfl, rfl, rfl, rfl, rfl⟩ rfl rfl rfl rfl rfl arpPuts_a5 Try.func16 arpPuts_closed
    (of_decide_eq_true (by kernel_rfl)) (by unfold Func.isWrapper; first | (rw [if_pos (by decide +kernel)]; kernel_rfl) | (rw [if_neg (by decide +kernel)]; exact ⟨rfl, rfl⟩))
    (fun os started H enc _ => arpPuts_lifted os started H enc)

end Go.Proofs.Ytdbaehpfjpghfaa
