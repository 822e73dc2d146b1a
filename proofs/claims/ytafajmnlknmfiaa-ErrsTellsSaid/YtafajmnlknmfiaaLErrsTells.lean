/- ErrsTells: that who is told that a packet is too great is told of its flow, and of the bound: for every input the law returns true and leaves its arguments as they were; no condition. -/
import Derived.Test.YtafajmnlknmfiaaRows
import Derived.Test.YtafajmnlknmfiaaG
import Derived.Test.YtafajmnlknmfiaaGA
import Derived.Test.YtafajmnlknmfiaaU
import Derived.Test.YtafajmnlknmfiaaHF
import Derived.Test.YtafajmnlknmfiaaRA
import Derived.Test.YtafajmnlknmfiaaGB
namespace Go.Proofs.Ytafajmnlknmfiaa
open Go.ChangeShapes Go.WideShapes Go.ChangeAt Go.RowKit

theorem errsTells_lifted (os : Os) (started : os.Started) (H : Type) (enc : TypeId × Value → H) :
    ReturnsInHanded {} Try.checked os 29 .any (Rows.errsTellsSpec.pre6 enc Try.prog Try.f29 Rows.errsTellsRow.domain false) (Rows.errsTellsSpec.post enc Try.prog Try.f29 false true false false) := by
  refine law_lifted (C := Try.checked) (tb := 4) os started H enc Try.own Try.laidOut (by kernel_rfl) Try.func29 Try.underlying4 rfl (by kernel_rfl) rfl ?_
    (ChangeSpec.witness6 (enc := enc) (C := Try.checked) false ⟨#[], #[.agg #[.int .u8 0, .int .u8 0, .int .u8 0, .int .u8 0, .int .u8 0, .int .u8 0, .int .u8 0, .int .u8 0, .int .u8 0, .int .u8 0, .int .u8 0, .int .u8 0, .int .u32 0, .int .u32 0, .int .i64 0, .int .i64 0, .int .u32 0, .int .i64 0, .int .u64 0, .int .u64 0, .int .u64 0, .int .u64 0, .int .u16 0, .int .i64 0, .int .i64 0, .int .i64 0, .int .i64 0, .int .i64 0, .int .i64 0, .int .i64 0, .int .i64 0, .int .i64 0, .int .i64 0, .int .i64 0, .int .i64 0, .int .i64 0, .int .i64 0, .int .i64 0, .int .i64 0, .int .i64 0], .agg #[.int .u8 0, .int .u16 0, .bool false, .bool false, .int .u16 0, .int .u8 0, .int .u8 0, .int .u32 0, .int .u32 0, .slice none 0 0, .slice none 0 0], .int .u16 0], []⟩ 8 (by kernel_rfl) (by kernel_rfl) (by kernel_rfl) (by kernel_rfl)) ?_
  · intro ds h
    rw [Try.params29] at h
    simp at h
    match ds, h with
    | [_, _, _], _ => rfl
  · intro W vs h
    rw [Try.params29] at h
    obtain ⟨v0, vs, rfl, h0, h⟩ := Args.cons h
    obtain ⟨v1, vs, rfl, h1, h⟩ := Args.cons h
    obtain ⟨v2, vs, rfl, h2, h⟩ := Args.cons h
    obtain rfl := Args.nil h
    obtain ⟨c0, hc0, r0⟩ := h0.cfgA
    obtain ⟨p1, hp1, r1⟩ := h1.pktA
    obtain ⟨a2, b2, r2⟩ := h2.u16A
    exact ASpec.walk (errsTells_a c0 p1 a2 hc0 hp1 b2) (RepL.cons r0 (RepL.cons r1 (RepL.cons r2 RepL.nil)))

theorem errsTells_a1 : (Rows.errsTellsRow.inPlace == Try.prog.inPlace 29) = true := by kernel_rfl
theorem errsTells_a2 : (Rows.errsTellsRow.unfollowed == Try.prog.unfollowed 29) = true := by kernel_rfl
theorem errsTells_a3 : (Rows.errsTellsRow.recurses == Try.prog.recurses 29) = true := by kernel_rfl
theorem errsTells_a4 : (Rows.errsTellsRow.named == Try.prog.varsNamed 29) = true := by kernel_rfl
theorem errsTells_a5 : Try.prog.funcNamed Rows.errsTellsRow.func = some 29 := by kernel_rfl
theorem errsTells_closed : joinedFacts Try.prog 29 Try.f29 Rows.errsTellsSpec Rows.errsTellsRow = true :=
  joined_mk (by kernel_rfl) Try.laidOut Try.mapsRowed (by kernel_rfl) (by kernel_rfl) (by kernel_rfl) Try.stopsNone (by kernel_rfl) Try.knobsNone errsTells_a1 errsTells_a2 errsTells_a3 errsTells_a4
    (by kernel_rfl) (by kernel_rfl) (by kernel_rfl) (by kernel_rfl) (by kernel_rfl) (by kernel_rfl) (by kernel_rfl) (by kernel_rfl) (by kernel_rfl) (by rw [Try.plainKeysIs]; kernel_rfl) (by kernel_rfl) Try.stopsHeard Try.mayEnter (by rw [Try.lifts]; kernel_rfl) (by rw [Try.makeIs]; kernel_rfl) (by kernel_rfl) (by kernel_rfl) (by kernel_rfl) (by kernel_rfl)
theorem errsTells_holds : Rows.ErrsTellsSaid :=
  OpenClaim.holds_of_wide (p := Try.pinned) 29 Try.f29 rfl rfl rfl rfl rfl rfl rfl ⟨rfl, rfl, rfl, rfl, rfl⟩ rfl rfl rfl rfl rfl errsTells_a5 Try.func29 errsTells_closed
    (of_decide_eq_true (by kernel_rfl)) (by unfold Func.isWrapper; first | (rw [if_pos (by decide +kernel)]; kernel_rfl) | (rw [if_neg (by decide +kernel)]; exact ⟨rfl, rfl⟩))
    (fun os started H enc _ => errsTells_lifted os started H enc)

end Go.Proofs.Ytafajmnlknmfiaa
