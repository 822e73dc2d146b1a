/- SpliceApplies: what becomes of any segment, either way of any entry: for every input the law returns true and leaves its arguments as they were; no condition. -/
import Derived.Test.YthjojkkapboonaaRows
import Derived.Test.YthjojkkapboonaaG
import Derived.Test.YthjojkkapboonaaGA
import Derived.Test.YthjojkkapboonaaU
import Derived.Test.YthjojkkapboonaaHF
import Derived.Test.YthjojkkapboonaaWC
import Derived.Test.YthjojkkapboonaaGB
namespace Go.Proofs.Ythjojkkapboonaa
open Go.ChangeShapes Go.WideShapes Go.ChangeAt Go.RowKit

theorem spliceApplies_lifted (os : Os) (started : os.Started) (H : Type) (enc : TypeId × Value → H) :
    ReturnsInHanded {} Try.checked os 3 .any (Rows.spliceAppliesSpec.pre6 enc Try.prog Try.f3 Rows.spliceAppliesRow.domain false) (Rows.spliceAppliesSpec.post enc Try.prog Try.f3 false true false false) := by
  refine law_lifted (C := Try.checked) (tb := 4) os started H enc Try.own Try.laidOut (by kernel_rfl) Try.func3 Try.underlying4 rfl (by kernel_rfl) rfl ?_
    (ChangeSpec.witness6 (enc := enc) (C := Try.checked) false ⟨#[], #[.agg #[.int .u32 0, .int .u32 0, .int .u16 0, .int .u16 0, .int .u8 0, .int .i64 0, .int .i64 0, .int .i64 0, .bool false, .bool false, .int .u16 0, .int .u32 0, .int .u32 0], .agg #[.int .u8 0, .int .u8 0, .int .u8 0, .int .u8 0, .int .u8 0, .int .u8 0, .int .u8 0, .int .u8 0, .int .u8 0, .int .u8 0, .int .u8 0, .int .u8 0, .int .u32 0, .int .u32 0, .int .i64 0, .int .i64 0, .int .u32 0, .int .i64 0, .int .u64 0, .int .u64 0, .int .u64 0, .int .u64 0, .int .u16 0, .int .i64 0, .int .i64 0, .int .i64 0, .int .i64 0, .int .i64 0, .int .i64 0, .int .i64 0, .int .i64 0, .int .i64 0, .int .i64 0, .int .i64 0, .int .i64 0, .int .i64 0, .int .i64 0, .int .i64 0, .int .i64 0, .int .i64 0], .int .u32 0, .int .u16 0, .agg #[.int .u16 0, .int .u16 0, .int .u32 0, .int .u32 0, .int .u8 0, .int .u8 0, .int .u16 0, .int .u16 0, .slice none 0 0, .slice none 0 0]], []⟩ 8 (by kernel_rfl) (by kernel_rfl) (by kernel_rfl) (by kernel_rfl)) ?_
  · intro ds h
    rw [Try.params3] at h
    simp at h
    match ds, h with
    | [_, _, _, _, _], _ => rfl
  · intro W vs h
    rw [Try.params3] at h
    obtain ⟨v0, vs, rfl, h0, h⟩ := Args.cons h
    obtain ⟨v1, vs, rfl, h1, h⟩ := Args.cons h
    obtain ⟨v2, vs, rfl, h2, h⟩ := Args.cons h
    obtain ⟨v3, vs, rfl, h3, h⟩ := Args.cons h
    obtain ⟨v4, vs, rfl, h4, h⟩ := Args.cons h
    obtain rfl := Args.nil h
    obtain ⟨e0, he0, r0⟩ := h0.entA
    obtain ⟨c1, hc1, r1⟩ := h1.cfgA
    obtain ⟨a2, b2, r2⟩ := h2.u32A
    obtain ⟨a3, b3, r3⟩ := h3.u16A
    obtain ⟨g4, hg4, r4⟩ := h4.segA
    exact ASpec.walk (spliceApplies_a e0 c1 a2 a3 g4 he0 hg4) (RepL.cons r0 (RepL.cons r1 (RepL.cons r2 (RepL.cons r3 (RepL.cons r4 RepL.nil)))))

theorem spliceApplies_a1 : (Rows.spliceAppliesRow.inPlace == Try.prog.inPlace 3) = true := by kernel_rfl
theorem spliceApplies_a2 : (Rows.spliceAppliesRow.unfollowed == Try.prog.unfollowed 3) = true := by kernel_rfl
theorem spliceApplies_a3 : (Rows.spliceAppliesRow.recurses == Try.prog.recurses 3) = true := by kernel_rfl
theorem spliceApplies_a4 : (Rows.spliceAppliesRow.named == Try.prog.varsNamed 3) = true := by kernel_rfl
theorem spliceApplies_a5 : Try.prog.funcNamed Rows.spliceAppliesRow.func = some 3 := by kernel_rfl
theorem spliceApplies_closed : joinedFacts Try.prog 3 Try.f3 Rows.spliceAppliesSpec Rows.spliceAppliesRow = true :=
  joined_mk (by kernel_rfl) Try.laidOut Try.mapsRowed (by kernel_rfl) (by kernel_rfl) (by kernel_rfl) Try.stopsNone (by kernel_rfl) Try.knobsNone spliceApplies_a1 spliceApplies_a2 spliceApplies_a3 spliceApplies_a4
    (by kernel_rfl) (by kernel_rfl) (by kernel_rfl) (by kernel_rfl) (by kernel_rfl) (by kernel_rfl) (by kernel_rfl) (by kernel_rfl) (by kernel_rfl) (by rw [Try.plainKeysIs]; kernel_rfl) (by kernel_rfl) Try.stopsHeard Try.mayEnter (by rw [Try.lifts]; kernel_rfl) (by rw [Try.makeIs]; kernel_rfl) (by kernel_rfl) (by kernel_rfl) (by kernel_rfl) (by kernel_rfl)
theorem spliceApplies_holds : Rows.SpliceAppliesSaid :=
  OpenClaim.holds_of_wide (p := Try.pinned) 3 Try.f3 rfl rfl rfl rfl rfl rfl rfl ⟨rfl, rfl, rfl, rfl, rfl⟩ rfl rfl rfl rfl rfl spliceApplies_a5 Try.func3 spliceApplies_closed
    (of_decide_eq_true (by kernel_rfl)) (by unfold Func.isWrapper; first | (rw [if_pos (by decide +kernel)]; kernel_rfl) | (rw [if_neg (by decide +kernel)]; exact ⟨rfl, rfl⟩))
    (fun os started H enc _ => spliceApplies_lifted os started H enc)

end Go.Proofs.Ythjojkkapboonaa
