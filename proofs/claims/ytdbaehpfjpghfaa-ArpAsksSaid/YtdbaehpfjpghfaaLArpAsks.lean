/- ArpAsks: what one asks, and is answered, by which frames: for every input the law returns true and leaves its arguments as they were; no condition. -/
import Derived.Test.YtdbaehpfjpghfaaRows
import Derived.Test.YtdbaehpfjpghfaaG
import Derived.Test.YtdbaehpfjpghfaaGA
import Derived.Test.YtdbaehpfjpghfaaU
import Derived.Test.YtdbaehpfjpghfaaHF
import Derived.Test.YtdbaehpfjpghfaaCN
namespace Go.Proofs.Ytdbaehpfjpghfaa
open Go.ChangeShapes Go.WideShapes Go.ChangeAt Go.RowKit

theorem arpAsks_lifted (os : Os) (started : os.Started) (H : Type) (enc : TypeId × Value → H) :
    ReturnsInHanded {} Try.checked os 20 .any (Rows.arpAsksSpec.pre6 enc Try.prog Try.f20 Rows.arpAsksRow.domain false) (Rows.arpAsksSpec.post enc Try.prog Try.f20 false true false false) := by
  refine law_lifted (C := Try.checked) (tb := 4) os started H enc Try.own Try.laidOut (by kernel_rfl) Try.func20 Try.underlying4 rfl (by kernel_rfl) rfl ?_
    (ChangeSpec.witness6 (enc := enc) (C := Try.checked) false ⟨#[], #[.agg #[.int .u8 0, .int .u8 0, .int .u8 0, .int .u8 0, .int .u8 0, .int .u8 0], .agg #[.int .u8 0, .int .u8 0, .int .u8 0, .int .u8 0, .int .u8 0, .int .u8 0], .int .u32 0, .int .u32 0, .agg #[.int .u8 0, .int .u8 0, .int .u8 0, .int .u8 0, .int .u8 0, .int .u8 0]], []⟩ 8 (by kernel_rfl) (by kernel_rfl) (by kernel_rfl) (by kernel_rfl)) ?_
  · intro ds h
    rw [Try.params20] at h
    simp at h
    match ds, h with
    | [_, _, _, _, _], _ => rfl
  · intro W vs h
    rw [Try.params20] at h
    obtain ⟨v0, vs, rfl, h0, h⟩ := Args.cons h
    obtain ⟨v1, vs, rfl, h1, h⟩ := Args.cons h
    obtain ⟨v2, vs, rfl, h2, h⟩ := Args.cons h
    obtain ⟨v3, vs, rfl, h3, h⟩ := Args.cons h
    obtain ⟨v4, vs, rfl, h4, h⟩ := Args.cons h
    obtain rfl := Args.nil h
    obtain ⟨m0, hm0, r0⟩ := h0.macA
    obtain ⟨m1, hm1, r1⟩ := h1.macA
    obtain ⟨a2, b2, r2⟩ := h2.u32A
    obtain ⟨a3, b3, r3⟩ := h3.u32A
    obtain ⟨m4, hm4, r4⟩ := h4.macA
    exact ASpec.walk (arpAsks_a m0 m1 a2 a3 m4 hm0 hm1 b2 b3) (RepL.cons r0 (RepL.cons r1 (RepL.cons r2 (RepL.cons r3 (RepL.cons r4 RepL.nil)))))

theorem arpAsks_a1 : (Rows.arpAsksRow.inPlace == Try.prog.inPlace 20) = true := by kernel_rfl
theorem arpAsks_a2 : (Rows.arpAsksRow.unfollowed == Try.prog.unfollowed 20) = true := by kernel_rfl
theorem arpAsks_a3 : (Rows.arpAsksRow.recurses == Try.prog.recurses 20) = true := by kernel_rfl
theorem arpAsks_a4 : (Rows.arpAsksRow.named == Try.prog.varsNamed 20) = true := by kernel_rfl
theorem arpAsks_a5 : Try.prog.funcNamed Rows.arpAsksRow.func = some 20 := by kernel_rfl
theorem arpAsks_closed : joinedFacts Try.prog 20 Try.f20 Rows.arpAsksSpec Rows.arpAsksRow = true :=
  joined_mk (by kernel_rfl) Try.laidOut Try.mapsRowed (by kernel_rfl) (by kernel_rfl) (by kernel_rfl) Try.stopsNone (by kernel_rfl) Try.knobsNone arpAsks_a1 arpAsks_a2 arpAsks_a3 arpAsks_a4
    (by kernel_rfl) (by kernel_rfl) (by kernel_rfl) (by kernel_rfl) (by kernel_rfl) (by kernel_rfl) (by kernel_rfl) (by kernel_rfl) (by kernel_rfl) (by rw [Try.plainKeysIs]; kernel_rfl) (by kernel_rfl) Try.stopsHeard Try.mayEnter (by rw [Try.lifts]; kernel_rfl) (by rw [Try.makeIs]; kernel_rfl) (by kernel_rfl) (by kernel_rfl) (by kernel_rfl) (by kernel_rfl)
theorem arpAsks_holds : Rows.ArpAsksSaid :=
  OpenClaim.holds_of_wide (p := Try.pinned) 20 Try.f20 rfl rfl rfl rfl rfl rfl rfl ⟨rfl, rfl, rfl, rfl, rfl⟩ rfl rfl rfl rfl rfl arpAsks_a5 Try.func20 arpAsks_closed
    (of_decide_eq_true (by kernel_rfl)) (by unfold Func.isWrapper; first | (rw [if_pos (by decide +kernel)]; kernel_rfl) | (rw [if_neg (by decide +kernel)]; exact ⟨rfl, rfl⟩))
    (fun os started H enc _ => arpAsks_lifted os started H enc)

end Go.Proofs.Ytdbaehpfjpghfaa
