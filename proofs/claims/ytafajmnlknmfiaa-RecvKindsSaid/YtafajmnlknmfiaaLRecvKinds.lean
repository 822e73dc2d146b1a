/- RecvKinds: what any thing is, and that it is itself: for every input the law returns true and leaves its arguments as they were; no condition. -/
import Derived.Test.YtafajmnlknmfiaaRows
import Derived.Test.YtafajmnlknmfiaaG
import Derived.Test.YtafajmnlknmfiaaGA
import Derived.Test.YtafajmnlknmfiaaU
import Derived.Test.YtafajmnlknmfiaaHF
import Derived.Test.YtafajmnlknmfiaaSF
import Derived.Test.YtafajmnlknmfiaaGB
namespace Go.Proofs.Ytafajmnlknmfiaa
open Go.ChangeShapes Go.WideShapes Go.ChangeAt Go.RowKit

theorem recvKinds_lifted (os : Os) (started : os.Started) (H : Type) (enc : TypeId × Value → H) :
    ReturnsInHanded {} Try.checked os 28 .any (Rows.recvKindsSpec.pre6 enc Try.prog Try.f28 Rows.recvKindsRow.domain false) (Rows.recvKindsSpec.post enc Try.prog Try.f28 false true false false) := by
  refine law_lifted (C := Try.checked) (tb := 4) os started H enc Try.own Try.laidOut (by kernel_rfl) Try.func28 Try.underlying4 rfl (by kernel_rfl) rfl ?_
    (ChangeSpec.witness6 (enc := enc) (C := Try.checked) false ⟨#[], #[.agg #[.int .u8 0, .int .u8 0, .int .u32 0, .slice none 0 0], .agg #[.int .u16 0, .int .u16 0, .bool false, .slice none 0 0], .agg #[.int .u16 0, .int .u16 0, .int .u32 0, .int .u32 0, .int .u8 0, .int .u8 0, .int .u16 0, .int .u16 0, .slice none 0 0, .slice none 0 0], .agg #[.int .u16 0, .int .u8 0, .int .u8 0, .int .u8 0, .int .u8 0, .int .u8 0, .int .u8 0, .int .u32 0, .int .u8 0, .int .u8 0, .int .u8 0, .int .u8 0, .int .u8 0, .int .u8 0, .int .u32 0], .agg #[.int .u8 0, .int .u16 0, .bool false, .bool false, .int .u16 0, .int .u8 0, .int .u8 0, .int .u32 0, .int .u32 0, .slice none 0 0, .slice none 0 0], .int .i64 0], []⟩ 8 (by kernel_rfl) (by kernel_rfl) (by kernel_rfl) (by kernel_rfl)) ?_
  · intro ds h
    rw [Try.params28] at h
    simp at h
    match ds, h with
    | [_, _, _, _, _, _], _ => rfl
  · intro W vs h
    rw [Try.params28] at h
    obtain ⟨v0, vs, rfl, h0, h⟩ := Args.cons h
    obtain ⟨v1, vs, rfl, h1, h⟩ := Args.cons h
    obtain ⟨v2, vs, rfl, h2, h⟩ := Args.cons h
    obtain ⟨v3, vs, rfl, h3, h⟩ := Args.cons h
    obtain ⟨v4, vs, rfl, h4, h⟩ := Args.cons h
    obtain ⟨v5, vs, rfl, h5, h⟩ := Args.cons h
    obtain rfl := Args.nil h
    obtain ⟨t0, c0, n0, l0, ht0, hc0, hn0, r0⟩ := h0.icmpA
    obtain ⟨s1, d1, e1, l1, hs1, hd1, r1⟩ := h1.datA
    obtain ⟨g2, hg2, r2⟩ := h2.segA
    obtain ⟨o3, s3, x3, d3, y3, ho3, hs3, hx3, hd3, hy3, r3⟩ := h3.arpA
    obtain ⟨p4, hp4, r4⟩ := h4.pktA
    obtain ⟨a5, b5, r5⟩ := h5.i64A
    exact ASpec.walk (recvKinds_a t0 c0 n0 l0 s1 d1 e1 l1 g2 o3 s3 x3 d3 y3 p4 a5) (RepL.cons r0 (RepL.cons r1 (RepL.cons r2 (RepL.cons r3 (RepL.cons r4 (RepL.cons r5 RepL.nil))))))

theorem recvKinds_a1 : (Rows.recvKindsRow.inPlace == Try.prog.inPlace 28) = true := by kernel_rfl
theorem recvKinds_a2 : (Rows.recvKindsRow.unfollowed == Try.prog.unfollowed 28) = true := by kernel_rfl
theorem recvKinds_a3 : (Rows.recvKindsRow.recurses == Try.prog.recurses 28) = true := by kernel_rfl
theorem recvKinds_a4 : (Rows.recvKindsRow.named == Try.prog.varsNamed 28) = true := by kernel_rfl
theorem recvKinds_a5 : Try.prog.funcNamed Rows.recvKindsRow.func = some 28 := by kernel_rfl
theorem recvKinds_closed : joinedFacts Try.prog 28 Try.f28 Rows.recvKindsSpec Rows.recvKindsRow = true :=
  joined_mk (by kernel_rfl) Try.laidOut Try.mapsRowed (by kernel_rfl) (by kernel_rfl) (by kernel_rfl) Try.stopsNone (by kernel_rfl) Try.knobsNone recvKinds_a1 recvKinds_a2 recvKinds_a3 recvKinds_a4
    (by kernel_rfl) (by kernel_rfl) (by kernel_rfl) (by kernel_rfl) (by kernel_rfl) (by kernel_rfl) (by kernel_rfl) (by kernel_rfl) (by kernel_rfl) (by rw [Try.plainKeysIs]; kernel_rfl) (by kernel_rfl) Try.stopsHeard Try.mayEnter (by rw [Try.lifts]; kernel_rfl) (by rw [Try.makeIs]; kernel_rfl) (by kernel_rfl) (by kernel_rfl) (by kernel_rfl) (by kernel_rfl)
theorem recvKinds_holds : Rows.RecvKindsSaid :=
  OpenClaim.holds_of_wide (p := Try.pinned) 28 Try.f28 rfl rfl rfl rfl rfl rfl rfl ⟨rfl, rfl, rfl, rfl, rfl⟩ rfl rfl rfl rfl rfl recvKinds_a5 Try.func28 recvKinds_closed
    (of_decide_eq_true (by kernel_rfl)) (by unfold Func.isWrapper; first | (rw [if_pos (by decide +kernel)]; kernel_rfl) | (rw [if_neg (by decide +kernel)]; exact ⟨rfl, rfl⟩))
    (fun os started H enc _ => recvKinds_lifted os started H enc)

end Go.Proofs.Ytafajmnlknmfiaa
