/- TunBounds: how great what is wrapped may be: for every input the law returns true and leaves its arguments as they were; no condition. -/
import Derived.Test.YtafajmnlknmfiaaRows
import Derived.Test.YtafajmnlknmfiaaG
import Derived.Test.YtafajmnlknmfiaaGA
import Derived.Test.YtafajmnlknmfiaaU
import Derived.Test.YtafajmnlknmfiaaHF
import Derived.Test.YtafajmnlknmfiaaUB
import Derived.Test.YtafajmnlknmfiaaGB
namespace Go.Proofs.Ytafajmnlknmfiaa
open Go.ChangeShapes Go.WideShapes Go.ChangeAt Go.RowKit

theorem tunBounds_lifted (os : Os) (started : os.Started) (H : Type) (enc : TypeId × Value → H) :
    ReturnsInHanded {} Try.checked os 24 .any (Rows.tunBoundsSpec.pre6 enc Try.prog Try.f24 Rows.tunBoundsRow.domain false) (Rows.tunBoundsSpec.post enc Try.prog Try.f24 false true false false) := by
  refine law_lifted (C := Try.checked) (tb := 4) os started H enc Try.own Try.laidOut (by kernel_rfl) Try.func24 Try.underlying4 rfl (by kernel_rfl) rfl ?_
    (ChangeSpec.witness6 (enc := enc) (C := Try.checked) false ⟨#[], #[.agg #[.int .u8 0, .int .u8 0, .int .u8 0, .int .u8 0, .int .u8 0, .int .u8 0, .int .u8 0, .int .u8 0, .int .u8 0, .int .u8 0, .int .u8 0, .int .u8 0, .int .u32 0, .int .u32 0, .int .i64 0, .int .i64 0, .int .u32 0, .int .i64 0, .int .u64 0, .int .u64 0, .int .u64 0, .int .u64 0, .int .u16 0, .int .i64 0, .int .i64 0, .int .i64 0, .int .i64 0, .int .i64 0, .int .i64 0, .int .i64 0, .int .i64 0, .int .i64 0, .int .i64 0, .int .i64 0, .int .i64 0, .int .i64 0, .int .i64 0, .int .i64 0, .int .i64 0, .int .i64 0], .int .i64 0], []⟩ 8 (by kernel_rfl) (by kernel_rfl) (by kernel_rfl) (by kernel_rfl)) ?_
  · intro ds h
    rw [Try.params24] at h
    simp at h
    match ds, h with
    | [_, _], _ => rfl
  · intro W vs h
    rw [Try.params24] at h
    obtain ⟨v0, vs, rfl, h0, h⟩ := Args.cons h
    obtain ⟨v1, vs, rfl, h1, h⟩ := Args.cons h
    obtain rfl := Args.nil h
    obtain ⟨c0, hc0, r0⟩ := h0.cfgA
    obtain ⟨a1, b1, r1⟩ := h1.i64A
    exact ASpec.walk (tunBounds_a c0 a1) (RepL.cons r0 (RepL.cons r1 RepL.nil))

theorem tunBounds_a1 : (Rows.tunBoundsRow.inPlace == Try.prog.inPlace 24) = true := by kernel_rfl
theorem tunBounds_a2 : (Rows.tunBoundsRow.unfollowed == Try.prog.unfollowed 24) = true := by kernel_rfl
theorem tunBounds_a3 : (Rows.tunBoundsRow.recurses == Try.prog.recurses 24) = true := by kernel_rfl
theorem tunBounds_a4 : (Rows.tunBoundsRow.named == Try.prog.varsNamed 24) = true := by kernel_rfl
theorem tunBounds_a5 : Try.prog.funcNamed Rows.tunBoundsRow.func = some 24 := by kernel_rfl
theorem tunBounds_closed : joinedFacts Try.prog 24 Try.f24 Rows.tunBoundsSpec Rows.tunBoundsRow = true :=
  joined_mk (by kernel_rfl) Try.laidOut Try.mapsRowed (by kernel_rfl) (by kernel_rfl) (by kernel_rfl) Try.stopsNone (by kernel_rfl) Try.knobsNone tunBounds_a1 tunBounds_a2 tunBounds_a3 tunBounds_a4
    (by kernel_rfl) (by kernel_rfl) (by kernel_rfl) (by kernel_rfl) (by kernel_rfl) (by kernel_rfl) (by kernel_rfl) (by kernel_rfl) (by kernel_rfl) (by rw [Try.plainKeysIs]; kernel_rfl) (by kernel_rfl) Try.stopsHeard Try.mayEnter (by rw [Try.lifts]; kernel_rfl) (by rw [Try.makeIs]; kernel_rfl) (by kernel_rfl) (by kernel_rfl) (by kernel_rfl) (by kernel_rfl)
theorem tunBounds_holds : Rows.TunBoundsSaid :=
  OpenClaim.holds_of_wide (p := Try.pinned) 24 Try.f24 rfl rfl rfl rfl rfl rfl rfl ⟨rfl, rfl, rfl, rfl, rfl⟩ rfl rfl rfl rfl rfl tunBounds_a5 Try.func24 tunBounds_closed
    (of_decide_eq_true (by kernel_rfl)) (by unfold Func.isWrapper; first | (rw [if_pos (by decide +kernel)]; kernel_rfl) | (rw [if_neg (by decide +kernel)]; exact ⟨rfl, rfl⟩))
    (fun os started H enc _ => tunBounds_lifted os started H enc)

end Go.Proofs.Ytafajmnlknmfiaa
