/- RecvOf: what any bytes that came in are, on any card, or why they count for nothing: for every input the law returns true and leaves its arguments as they were; no condition. -/
import Derived.Test.YtafajmnlknmfiaaRows
import Derived.Test.YtafajmnlknmfiaaG
import Derived.Test.YtafajmnlknmfiaaGA
import Derived.Test.YtafajmnlknmfiaaU
import Derived.Test.YtafajmnlknmfiaaHF
import Derived.Test.YtafajmnlknmfiaaSE
import Derived.Test.YtafajmnlknmfiaaGB
namespace Go.Proofs.Ytafajmnlknmfiaa
open Go.ChangeShapes Go.WideShapes Go.ChangeAt Go.RowKit

theorem recvOf_lifted (os : Os) (started : os.Started) (H : Type) (enc : TypeId × Value → H) :
    ReturnsInHanded {} Try.checked os 27 .any (Rows.recvOfSpec.pre6 enc Try.prog Try.f27 Rows.recvOfRow.domain false) (Rows.recvOfSpec.post enc Try.prog Try.f27 false true false false) := by
  refine law_lifted (C := Try.checked) (tb := 4) os started H enc Try.own Try.laidOut (by kernel_rfl) Try.func27 Try.underlying4 rfl (by kernel_rfl) rfl ?_
    (ChangeSpec.witness6 (enc := enc) (C := Try.checked) false ⟨#[], #[.agg #[.int .u8 0, .int .u8 0, .int .u8 0, .int .u8 0, .int .u8 0, .int .u8 0, .int .u8 0, .int .u8 0, .int .u8 0, .int .u8 0, .int .u8 0, .int .u8 0, .int .u32 0, .int .u32 0, .int .i64 0, .int .i64 0, .int .u32 0, .int .i64 0, .int .u64 0, .int .u64 0, .int .u64 0, .int .u64 0, .int .u16 0, .int .i64 0, .int .i64 0, .int .i64 0, .int .i64 0, .int .i64 0, .int .i64 0, .int .i64 0, .int .i64 0, .int .i64 0, .int .i64 0, .int .i64 0, .int .i64 0, .int .i64 0, .int .i64 0, .int .i64 0, .int .i64 0, .int .i64 0], .int .i64 0, .slice none 0 0], []⟩ 8 (by kernel_rfl) (by kernel_rfl) (by kernel_rfl) (by kernel_rfl)) ?_
  · intro ds h
    rw [Try.params27] at h
    simp at h
    match ds, h with
    | [_, _, _], _ => rfl
  · intro W vs h
    rw [Try.params27] at h
    obtain ⟨v0, vs, rfl, h0, h⟩ := Args.cons h
    obtain ⟨v1, vs, rfl, h1, h⟩ := Args.cons h
    obtain ⟨v2, vs, rfl, h2, h⟩ := Args.cons h
    obtain rfl := Args.nil h
    obtain ⟨c0, hc0, r0⟩ := h0.cfgA
    obtain ⟨a1, b1, r1⟩ := h1.i64A
    obtain ⟨l2, r2⟩ := h2.bytesA
    exact ASpec.walk (recvOfLaw_a c0 a1 l2) (RepL.cons r0 (RepL.cons r1 (RepL.cons r2 RepL.nil)))

theorem recvOf_a1 : (Rows.recvOfRow.inPlace == Try.prog.inPlace 27) = true := by kernel_rfl
theorem recvOf_a2 : (Rows.recvOfRow.unfollowed == Try.prog.unfollowed 27) = true := by kernel_rfl
theorem recvOf_a3 : (Rows.recvOfRow.recurses == Try.prog.recurses 27) = true := by kernel_rfl
theorem recvOf_a4 : (Rows.recvOfRow.named == Try.prog.varsNamed 27) = true := by kernel_rfl
theorem recvOf_a5 : Try.prog.funcNamed Rows.recvOfRow.func = some 27 := by kernel_rfl
theorem recvOf_closed : joinedFacts Try.prog 27 Try.f27 Rows.recvOfSpec Rows.recvOfRow = true :=
  joined_mk (by kernel_rfl) Try.laidOut Try.mapsRowed (by kernel_rfl) (by kernel_rfl) (by kernel_rfl) Try.stopsNone (by kernel_rfl) Try.knobsNone recvOf_a1 recvOf_a2 recvOf_a3 recvOf_a4
    (by kernel_rfl) (by kernel_rfl) (by kernel_rfl) (by kernel_rfl) (by kernel_rfl) (by kernel_rfl) (by kernel_rfl) (by kernel_rfl) (by kernel_rfl) (by rw [Try.plainKeysIs]; kernel_rfl) (by kernel_rfl) Try.stopsHeard Try.mayEnter (by rw [Try.lifts]; kernel_rfl) (by rw [Try.makeIs]; kernel_rfl) (by kernel_rfl) (by kernel_rfl) (by kernel_rfl) (by kernel_rfl)
theorem recvOf_holds : Rows.RecvOfSaid :=
  OpenClaim.holds_of_wide (p := Try.pinned) 27 Try.f27 rfl rfl rfl rfl rfl rfl rfl ⟨rfl, rfl, rfl, rfl, rfl⟩ rfl rfl rfl rfl rfl recvOf_a5 Try.func27 recvOf_closed
    (of_decide_eq_true (by kernel_rfl)) (by unfold Func.isWrapper; first | (rw [if_pos (by decide +kernel)]; kernel_rfl) | (rw [if_neg (by decide +kernel)]; exact ⟨rfl, rfl⟩))
    (fun os started H enc _ => recvOf_lifted os started H enc)

end Go.Proofs.Ytafajmnlknmfiaa
