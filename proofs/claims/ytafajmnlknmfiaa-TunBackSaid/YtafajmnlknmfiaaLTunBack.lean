/- TunBack: that what is borne is, byte by byte, what was wrapped, also over the wire: for every input the law returns true and leaves its arguments as they were; no condition. -/
import Derived.Test.YtafajmnlknmfiaaRows
import Derived.Test.YtafajmnlknmfiaaG
import Derived.Test.YtafajmnlknmfiaaGA
import Derived.Test.YtafajmnlknmfiaaU
import Derived.Test.YtafajmnlknmfiaaHF
import Derived.Test.YtafajmnlknmfiaaUC
import Derived.Test.YtafajmnlknmfiaaGB
namespace Go.Proofs.Ytafajmnlknmfiaa
open Go.ChangeShapes Go.WideShapes Go.ChangeAt Go.RowKit

theorem tunBack_lifted (os : Os) (started : os.Started) (H : Type) (enc : TypeId × Value → H) :
    ReturnsInHanded {} Try.checked os 26 .any (Rows.tunBackSpec.pre6 enc Try.prog Try.f26 Rows.tunBackRow.domain false) (Rows.tunBackSpec.post enc Try.prog Try.f26 false true false false) := by
  refine law_lifted (C := Try.checked) (tb := 4) os started H enc Try.own Try.laidOut (by kernel_rfl) Try.func26 Try.underlying4 rfl (by kernel_rfl) rfl ?_
    (ChangeSpec.witness6 (enc := enc) (C := Try.checked) false ⟨#[], #[.agg #[.int .u8 0, .int .u8 0, .int .u8 0, .int .u8 0, .int .u8 0, .int .u8 0, .int .u8 0, .int .u8 0, .int .u8 0, .int .u8 0, .int .u8 0, .int .u8 0, .int .u32 0, .int .u32 0, .int .i64 0, .int .i64 0, .int .u32 0, .int .i64 0, .int .u64 0, .int .u64 0, .int .u64 0, .int .u64 0, .int .u16 0, .int .i64 0, .int .i64 0, .int .i64 0, .int .i64 0, .int .i64 0, .int .i64 0, .int .i64 0, .int .i64 0, .int .i64 0, .int .i64 0, .int .i64 0, .int .i64 0, .int .i64 0, .int .i64 0, .int .i64 0, .int .i64 0, .int .i64 0], .agg #[.int .u8 0, .int .u16 0, .bool false, .bool false, .int .u16 0, .int .u8 0, .int .u8 0, .int .u32 0, .int .u32 0, .slice none 0 0, .slice none 0 0], .slice none 0 0, .int .u32 0, .int .u16 0], []⟩ 8 (by kernel_rfl) (by kernel_rfl) (by kernel_rfl) (by kernel_rfl)) ?_
  · intro ds h
    rw [Try.params26] at h
    simp at h
    match ds, h with
    | [_, _, _, _, _], _ => rfl
  · intro W vs h
    rw [Try.params26] at h
    obtain ⟨v0, vs, rfl, h0, h⟩ := Args.cons h
    obtain ⟨v1, vs, rfl, h1, h⟩ := Args.cons h
    obtain ⟨v2, vs, rfl, h2, h⟩ := Args.cons h
    obtain ⟨v3, vs, rfl, h3, h⟩ := Args.cons h
    obtain ⟨v4, vs, rfl, h4, h⟩ := Args.cons h
    obtain rfl := Args.nil h
    obtain ⟨c0, hc0, r0⟩ := h0.cfgA
    obtain ⟨p1, hp1, r1⟩ := h1.pktA
    obtain ⟨l2, r2⟩ := h2.bytesA
    obtain ⟨a3, b3, r3⟩ := h3.u32A
    obtain ⟨a4, b4, r4⟩ := h4.u16A
    exact ASpec.walk (tunBack_a c0 p1 l2 a3 a4 hc0 hp1 b3 b4) (RepL.cons r0 (RepL.cons r1 (RepL.cons r2 (RepL.cons r3 (RepL.cons r4 RepL.nil)))))

theorem tunBack_a1 : (Rows.tunBackRow.inPlace == Try.prog.inPlace 26) = true := by kernel_rfl
theorem tunBack_a2 : (Rows.tunBackRow.unfollowed == Try.prog.unfollowed 26) = true := by kernel_rfl
theorem tunBack_a3 : (Rows.tunBackRow.recurses == Try.prog.recurses 26) = true := by kernel_rfl
theorem tunBack_a4 : (Rows.tunBackRow.named == Try.prog.varsNamed 26) = true := by kernel_rfl
theorem tunBack_a5 : Try.prog.funcNamed Rows.tunBackRow.func = some 26 := by kernel_rfl
theorem tunBack_closed : joinedFacts Try.prog 26 Try.f26 Rows.tunBackSpec Rows.tunBackRow = true :=
  joined_mk (by kernel_rfl) Try.laidOut Try.mapsRowed (by kernel_rfl) (by kernel_rfl) (by kernel_rfl) Try.stopsNone (by kernel_rfl) Try.knobsNone tunBack_a1 tunBack_a2 tunBack_a3 tunBack_a4
    (by kernel_rfl) (by kernel_rfl) (by kernel_rfl) (by kernel_rfl) (by kernel_rfl) (by kernel_rfl) (by kernel_rfl) (by kernel_rfl) (by kernel_rfl) (by rw [Try.plainKeysIs]; kernel_rfl) (by kernel_rfl) Try.stopsHeard Try.mayEnter (by rw [Try.lifts]; kernel_rfl) (by rw [Try.makeIs]; kernel_rfl) (by kernel_rfl) (by kernel_rfl) (by kernel_rfl) (by kernel_rfl)
theorem tunBack_holds : Rows.TunBackSaid :=
  OpenClaim.holds_of_wide (p := Try.pinned) 26 Try.f26 rfl rfl rfl rfl rfl rfl rfl ⟨rfl, rfl, rfl, rfl, rfl⟩ rfl rfl rfl rfl rfl tunBack_a5 Try.func26 tunBack_closed
    (of_decide_eq_true (by kernel_rfl)) (by unfold Func.isWrapper; first | (rw [if_pos (by decide +kernel)]; kernel_rfl) | (rw [if_neg (by decide +kernel)]; exact ⟨rfl, rfl⟩))
    (fun os started H enc _ => tunBack_lifted os started H enc)

end Go.Proofs.Ytafajmnlknmfiaa
