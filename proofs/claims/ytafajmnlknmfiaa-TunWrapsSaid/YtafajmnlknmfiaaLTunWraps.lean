/- TunWraps: which packet bears any other one, or why none does, and what any one bears: for every input the law returns true and leaves its arguments as they were; no condition. -/
import Derived.Test.YtafajmnlknmfiaaRows
import Derived.Test.YtafajmnlknmfiaaG
import Derived.Test.YtafajmnlknmfiaaGA
import Derived.Test.YtafajmnlknmfiaaU
import Derived.Test.YtafajmnlknmfiaaHF
import Derived.Test.YtafajmnlknmfiaaUB
import Derived.Test.YtafajmnlknmfiaaGB
namespace Go.Proofs.Ytafajmnlknmfiaa
open Go.ChangeShapes Go.WideShapes Go.ChangeAt Go.RowKit

theorem tunWraps_lifted (os : Os) (started : os.Started) (H : Type) (enc : TypeId × Value → H) :
    ReturnsInHanded {} Try.checked os 25 .any (Rows.tunWrapsSpec.pre6 enc Try.prog Try.f25 Rows.tunWrapsRow.domain false) (Rows.tunWrapsSpec.post enc Try.prog Try.f25 false true false false) := by
  refine law_lifted (C := Try.checked) (tb := 4) os started H enc Try.own Try.laidOut (by kernel_rfl) Try.func25 Try.underlying4 rfl (by kernel_rfl) rfl ?_
    (ChangeSpec.witness6 (enc := enc) (C := Try.checked) false ⟨#[], #[.agg #[.int .u8 0, .int .u8 0, .int .u8 0, .int .u8 0, .int .u8 0, .int .u8 0, .int .u8 0, .int .u8 0, .int .u8 0, .int .u8 0, .int .u8 0, .int .u8 0, .int .u32 0, .int .u32 0, .int .i64 0, .int .i64 0, .int .u32 0, .int .i64 0, .int .u64 0, .int .u64 0, .int .u64 0, .int .u64 0, .int .u16 0, .int .i64 0, .int .i64 0, .int .i64 0, .int .i64 0, .int .i64 0, .int .i64 0, .int .i64 0, .int .i64 0, .int .i64 0, .int .i64 0, .int .i64 0, .int .i64 0, .int .i64 0, .int .i64 0, .int .i64 0, .int .i64 0, .int .i64 0], .slice none 0 0, .int .u32 0, .int .u16 0, .agg #[.int .u8 0, .int .u16 0, .bool false, .bool false, .int .u16 0, .int .u8 0, .int .u8 0, .int .u32 0, .int .u32 0, .slice none 0 0, .slice none 0 0]], []⟩ 8 (by kernel_rfl) (by kernel_rfl) (by kernel_rfl) (by kernel_rfl)) ?_
  · intro ds h
    rw [Try.params25] at h
    simp at h
    match ds, h with
    | [_, _, _, _, _], _ => rfl
  · intro W vs h
    rw [Try.params25] at h
    obtain ⟨v0, vs, rfl, h0, h⟩ := Args.cons h
    obtain ⟨v1, vs, rfl, h1, h⟩ := Args.cons h
    obtain ⟨v2, vs, rfl, h2, h⟩ := Args.cons h
    obtain ⟨v3, vs, rfl, h3, h⟩ := Args.cons h
    obtain ⟨v4, vs, rfl, h4, h⟩ := Args.cons h
    obtain rfl := Args.nil h
    obtain ⟨c0, hc0, r0⟩ := h0.cfgA
    obtain ⟨l1, r1⟩ := h1.bytesA
    obtain ⟨a2, b2, r2⟩ := h2.u32A
    obtain ⟨a3, b3, r3⟩ := h3.u16A
    obtain ⟨p4, hp4, r4⟩ := h4.pktA
    exact ASpec.walk (tunWraps_a c0 l1 a2 a3 p4) (RepL.cons r0 (RepL.cons r1 (RepL.cons r2 (RepL.cons r3 (RepL.cons r4 RepL.nil)))))

theorem tunWraps_a1 : (Rows.tunWrapsRow.inPlace == Try.prog.inPlace 25) = true := by kernel_rfl
theorem tunWraps_a2 : (Rows.tunWrapsRow.unfollowed == Try.prog.unfollowed 25) = true := by kernel_rfl
theorem tunWraps_a3 : (Rows.tunWrapsRow.recurses == Try.prog.recurses 25) = true := by kernel_rfl
theorem tunWraps_a4 : (Rows.tunWrapsRow.named == Try.prog.varsNamed 25) = true := by kernel_rfl
theorem tunWraps_a5 : Try.prog.funcNamed Rows.tunWrapsRow.func = some 25 := by kernel_rfl
theorem tunWraps_closed : joinedFacts Try.prog 25 Try.f25 Rows.tunWrapsSpec Rows.tunWrapsRow = true :=
  joined_mk (by kernel_rfl) Try.laidOut Try.mapsRowed (by kernel_rfl) (by kernel_rfl) (by kernel_rfl) Try.stopsNone (by kernel_rfl) Try.knobsNone tunWraps_a1 tunWraps_a2 tunWraps_a3 tunWraps_a4
    (by kernel_rfl) (by kernel_rfl) (by kernel_rfl) (by kernel_rfl) (by kernel_rfl) (by kernel_rfl) (by kernel_rfl) (by kernel_rfl) (by kernel_rfl) (by rw [Try.plainKeysIs]; kernel_rfl) (by kernel_rfl) Try.stopsHeard Try.mayEnter (by rw [Try.lifts]; kernel_rfl) (by rw [Try.makeIs]; kernel_rfl) (by kernel_rfl) (by kernel_rfl) (by kernel_rfl) (by kernel_rfl)
theorem tunWraps_holds : Rows.TunWrapsSaid :=
  OpenClaim.holds_of_wide (p := Try.pinned) 25 Try.f25 rfl rfl rfl rfl rfl rfl rfl ⟨rfl, rfl, rfl, rfl, rfl⟩ rfl rfl rfl rfl rfl tunWraps_a5 Try.func25 tunWraps_closed
    (of_decide_eq_true (by kernel_rfl)) (by unfold Func.isWrapper; first | (rw [if_pos (by decide +kernel)]; kernel_rfl) | (rw [if_neg (by decide +kernel)]; exact ⟨rfl, rfl⟩))
    (fun os started H enc _ => tunWraps_lifted os started H enc)

end Go.Proofs.Ytafajmnlknmfiaa
