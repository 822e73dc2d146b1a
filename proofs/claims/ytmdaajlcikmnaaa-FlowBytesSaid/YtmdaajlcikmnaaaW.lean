/- Structs as they are handed over. -/
import Derived.Test.YtmdaajlcikmnaaaT
import Derived.Test.YtmdaajlcikmnaaaG
namespace Go.Proofs.Ytmdaajlcikmnaaa
open Go.ChangeShapes Go.WideShapes Go.ChangeAt Go.RowKit

set_option maxRecDepth 100000 in
theorem Arg.flw {W : World} {v : Value} (h : Arg Try.prog W 25 v) : ∃ f : Flw, v = f.v ∧ f.ok := by
  obtain ⟨cs, rfl, hr⟩ := h.struct Try.underlying25
  obtain ⟨hl, hf⟩ := hr.struct Try.underlying25
  have hl5 : cs.length = 5 := hl.trans (by kernel_rfl)
  match cs, hl5 with
  | [c0, c1, c2, c3, c4], _ =>
    obtain ⟨n0, e0, w0⟩ := (show RdC Try.prog W 22 [c0] from hf 0 _ rfl).int Try.underlying22
    obtain ⟨n1, e1, w1⟩ := (show RdC Try.prog W 22 [c1] from hf 1 _ rfl).int Try.underlying22
    obtain ⟨n2, e2, w2⟩ := (show RdC Try.prog W 23 [c2] from hf 2 _ rfl).int Try.underlying23
    obtain ⟨n3, e3, w3⟩ := (show RdC Try.prog W 23 [c3] from hf 3 _ rfl).int Try.underlying23
    obtain ⟨n4, e4, w4⟩ := (show RdC Try.prog W 5 [c4] from hf 4 _ rfl).int Try.underlying5
    have b0 := Go.bounds_u32 w0
    have b1 := Go.bounds_u32 w1
    have b2 := Go.bounds_u16 w2
    have b3 := Go.bounds_u16 w3
    have b4 := Go.bounds_u8 w4
    simp only [List.cons.injEq, and_true] at e0 e1 e2 e3 e4
    subst e0 e1 e2 e3 e4
    exact ⟨⟨n0, n1, n2, n3, n4⟩, rfl, by simp only [Flw.ok]; omega⟩

set_option maxRecDepth 100000 in
theorem Arg.pkt {W : World} {v : Value} (h : Arg Try.prog W 61 v) : ∃ (p : Pkt) (lo ld : List UInt8), v = p.v ∧ p.ok ∧ IsB W p.opts lo ∧ IsB W p.data ld := by
  obtain ⟨cs, rfl, hr⟩ := h.struct Try.underlying61
  obtain ⟨hl, hf⟩ := hr.struct Try.underlying61
  have hl5 : cs.length = 11 := hl.trans (by kernel_rfl)
  match cs, hl5 with
  | [c0, c1, c2, c3, c4, c5, c6, c7, c8, c9, c10], _ =>
    obtain ⟨n0, e0, w0⟩ := (show RdC Try.prog W 5 [c0] from hf 0 _ rfl).int Try.underlying5
    obtain ⟨n1, e1, w1⟩ := (show RdC Try.prog W 23 [c1] from hf 1 _ rfl).int Try.underlying23
    obtain ⟨n2, e2⟩ := (show RdC Try.prog W 4 [c2] from hf 2 _ rfl).bool Try.underlying4
    obtain ⟨n3, e3⟩ := (show RdC Try.prog W 4 [c3] from hf 3 _ rfl).bool Try.underlying4
    obtain ⟨n4, e4, w4⟩ := (show RdC Try.prog W 23 [c4] from hf 4 _ rfl).int Try.underlying23
    obtain ⟨n5, e5, w5⟩ := (show RdC Try.prog W 5 [c5] from hf 5 _ rfl).int Try.underlying5
    obtain ⟨n6, e6, w6⟩ := (show RdC Try.prog W 5 [c6] from hf 6 _ rfl).int Try.underlying5
    obtain ⟨n7, e7, w7⟩ := (show RdC Try.prog W 22 [c7] from hf 7 _ rfl).int Try.underlying22
    obtain ⟨n8, e8, w8⟩ := (show RdC Try.prog W 22 [c8] from hf 8 _ rfl).int Try.underlying22
    obtain ⟨v9, l9, e9, w9⟩ := (show RdC Try.prog W 38 [c9] from hf 9 _ rfl).bytes Try.underlying38 Try.underlying5 (by kernel_rfl)
    obtain ⟨v10, l10, e10, w10⟩ := (show RdC Try.prog W 38 [c10] from hf 10 _ rfl).bytes Try.underlying38 Try.underlying5 (by kernel_rfl)
    have b0 := Go.bounds_u8 w0
    have b1 := Go.bounds_u16 w1
    have b4 := Go.bounds_u16 w4
    have b5 := Go.bounds_u8 w5
    have b6 := Go.bounds_u8 w6
    have b7 := Go.bounds_u32 w7
    have b8 := Go.bounds_u32 w8
    simp only [List.cons.injEq, and_true] at e0 e1 e2 e3 e4 e5 e6 e7 e8 e9 e10
    subst e0 e1 e2 e3 e4 e5 e6 e7 e8 e9 e10
    exact ⟨⟨n0, n1, n2, n3, n4, n5, n6, n7, n8, c9, c10⟩, l9, l10, rfl, by simp only [Pkt.ok]; omega, w9, w10⟩

end Go.Proofs.Ytmdaajlcikmnaaa
