/- A configuration and an entry as they are handed over, in the words of what is known of a value. -/
import Derived.Test.YthjojkkapboonaaGA
import Derived.Test.YthjojkkapboonaaCY
namespace Go.Proofs.Ythjojkkapboonaa
set_option linter.unusedSimpArgs false
set_option linter.unusedVariables false
open Go.ChangeShapes Go.WideShapes Go.ChangeAt Go.RowKit
theorem repX {W : World} {v : Value} : RepV M0 W .any v := by simp only [RepV]
theorem uncons {l : List Value} {n : Nat} (h : l.length = n + 1) : ∃ c r, l = c :: r ∧ r.length = n := by
  match l, h with
  | c :: r, h => exact ⟨c, r, rfl, by simpa using h⟩
set_option maxRecDepth 100000 in
theorem Arg.cfgA {W : World} {v : Value} (h : Arg Try.prog W 37 v) : ∃ c : CfgN, c.ok ∧ RepV M0 W (cfgA c) v := by
  obtain ⟨cs, rfl, hr⟩ := h.struct Try.underlying37
  obtain ⟨hl, hf⟩ := hr.struct Try.underlying37
  have hl5 : cs.length = 40 := hl.trans (by kernel_rfl)
  obtain ⟨c0, d0, rfl, k0⟩ := uncons hl5
  obtain ⟨c1, d1, rfl, k1⟩ := uncons k0
  obtain ⟨c2, d2, rfl, k2⟩ := uncons k1
  obtain ⟨c3, d3, rfl, k3⟩ := uncons k2
  obtain ⟨c4, d4, rfl, k4⟩ := uncons k3
  obtain ⟨c5, d5, rfl, k5⟩ := uncons k4
  obtain ⟨c6, d6, rfl, k6⟩ := uncons k5
  obtain ⟨c7, d7, rfl, k7⟩ := uncons k6
  obtain ⟨c8, d8, rfl, k8⟩ := uncons k7
  obtain ⟨c9, d9, rfl, k9⟩ := uncons k8
  obtain ⟨c10, d10, rfl, k10⟩ := uncons k9
  obtain ⟨c11, d11, rfl, k11⟩ := uncons k10
  obtain ⟨c12, d12, rfl, k12⟩ := uncons k11
  obtain ⟨c13, d13, rfl, k13⟩ := uncons k12
  obtain ⟨c14, d14, rfl, k14⟩ := uncons k13
  obtain ⟨c15, d15, rfl, k15⟩ := uncons k14
  obtain ⟨c16, d16, rfl, k16⟩ := uncons k15
  obtain ⟨c17, d17, rfl, k17⟩ := uncons k16
  obtain ⟨c18, d18, rfl, k18⟩ := uncons k17
  obtain ⟨c19, d19, rfl, k19⟩ := uncons k18
  obtain ⟨c20, d20, rfl, k20⟩ := uncons k19
  obtain ⟨c21, d21, rfl, k21⟩ := uncons k20
  obtain ⟨c22, d22, rfl, k22⟩ := uncons k21
  obtain ⟨c23, d23, rfl, k23⟩ := uncons k22
  obtain ⟨c24, d24, rfl, k24⟩ := uncons k23
  obtain ⟨c25, d25, rfl, k25⟩ := uncons k24
  obtain ⟨c26, d26, rfl, k26⟩ := uncons k25
  obtain ⟨c27, d27, rfl, k27⟩ := uncons k26
  obtain ⟨c28, d28, rfl, k28⟩ := uncons k27
  obtain ⟨c29, d29, rfl, k29⟩ := uncons k28
  obtain ⟨c30, d30, rfl, k30⟩ := uncons k29
  obtain ⟨c31, d31, rfl, k31⟩ := uncons k30
  obtain ⟨c32, d32, rfl, k32⟩ := uncons k31
  obtain ⟨c33, d33, rfl, k33⟩ := uncons k32
  obtain ⟨c34, d34, rfl, k34⟩ := uncons k33
  obtain ⟨c35, d35, rfl, k35⟩ := uncons k34
  obtain ⟨c36, d36, rfl, k36⟩ := uncons k35
  obtain ⟨c37, d37, rfl, k37⟩ := uncons k36
  obtain ⟨c38, d38, rfl, k38⟩ := uncons k37
  obtain ⟨c39, d39, rfl, k39⟩ := uncons k38
  obtain rfl : d39 = [] := List.eq_nil_of_length_eq_zero k39
  obtain ⟨_, hm⟩ := (show RdC Try.prog W 30 [c0, c1, c2, c3, c4, c5, c6, c7, c8, c9, c10, c11] from hf 0 _ rfl).array Try.underlying30
  obtain ⟨x0, b0, rfl, rfl, rfl, rfl, rfl, rfl⟩ := macR (show RdC Try.prog W 29 [c0, c1, c2, c3, c4, c5] from hm 0 (by omega))
  obtain ⟨x1, b1, rfl, rfl, rfl, rfl, rfl, rfl⟩ := macR (show RdC Try.prog W 29 [c6, c7, c8, c9, c10, c11] from hm 1 (by omega))
  obtain ⟨_, ha⟩ := (show RdC Try.prog W 31 [c12, c13] from hf 1 _ rfl).array Try.underlying31
  obtain ⟨x2, e2, w2⟩ := (show RdC Try.prog W 22 [c12] from ha 0 (by omega)).int Try.underlying22
  have b2 := Go.bounds_u32 w2
  obtain rfl : c12 = .int .u32 x2 := by simpa using e2
  obtain ⟨x3, e3, w3⟩ := (show RdC Try.prog W 22 [c13] from ha 1 (by omega)).int Try.underlying22
  have b3 := Go.bounds_u32 w3
  obtain rfl : c13 = .int .u32 x3 := by simpa using e3
  obtain ⟨x4, e4, w4⟩ := (show RdC Try.prog W 3 [c17] from hf 4 _ rfl).int Try.underlying3
  have b4 := Go.bounds_i64 w4
  obtain rfl : c17 = .int .i64 x4 := by simpa using e4
  exact ⟨⟨x0, x1, x2, x3, x4⟩, ⟨b0, b1, by omega, by omega, by omega⟩, by simp only [RepV]; exact ⟨_, rfl, RepL.cons repO (RepL.cons repO (RepL.cons repO (RepL.cons repO (RepL.cons repO (RepL.cons repO (RepL.cons repO (RepL.cons repO (RepL.cons repO (RepL.cons repO (RepL.cons repO (RepL.cons repO (RepL.cons repO (RepL.cons repO (RepL.cons repX (RepL.cons repX (RepL.cons repX (RepL.cons repO (RepL.cons repX (RepL.cons repX (RepL.cons repX (RepL.cons repX (RepL.cons repX (RepL.cons repX (RepL.cons repX (RepL.cons repX (RepL.cons repX (RepL.cons repX (RepL.cons repX (RepL.cons repX (RepL.cons repX (RepL.cons repX (RepL.cons repX (RepL.cons repX (RepL.cons repX (RepL.cons repX (RepL.cons repX (RepL.cons repX (RepL.cons repX (RepL.cons repX RepL.nil)))))))))))))))))))))))))))))))))))))))⟩⟩
set_option maxRecDepth 100000 in
theorem Arg.entA {W : World} {v : Value} (h : Arg Try.prog W 27 v) : ∃ e : EntN, e.ok ∧ RepV M0 W (entA e) v := by
  obtain ⟨cs, rfl, hr⟩ := h.struct Try.underlying27
  obtain ⟨hl, hf⟩ := hr.struct Try.underlying27
  have hl5 : cs.length = 13 := hl.trans (by kernel_rfl)
  match cs, hl5 with
  | [c0, c1, c2, c3, c4, c5, c6, c7, c8, c9, c10, c11, c12], _ =>
    obtain ⟨_, hm⟩ := (show RdC Try.prog W 25 [c0, c1, c2, c3, c4] from hf 0 _ rfl).struct Try.underlying25
    obtain ⟨x0, e0, w0⟩ := (show RdC Try.prog W 22 [c0] from hm 0 _ rfl).int Try.underlying22
    have b0 := Go.bounds_u32 w0
    obtain rfl : c0 = .int .u32 x0 := by simpa using e0
    obtain ⟨x1, e1, w1⟩ := (show RdC Try.prog W 22 [c1] from hm 1 _ rfl).int Try.underlying22
    have b1 := Go.bounds_u32 w1
    obtain rfl : c1 = .int .u32 x1 := by simpa using e1
    obtain ⟨x2, e2, w2⟩ := (show RdC Try.prog W 23 [c2] from hm 2 _ rfl).int Try.underlying23
    have b2 := Go.bounds_u16 w2
    obtain rfl : c2 = .int .u16 x2 := by simpa using e2
    obtain ⟨x3, e3, w3⟩ := (show RdC Try.prog W 23 [c3] from hm 3 _ rfl).int Try.underlying23
    have b3 := Go.bounds_u16 w3
    obtain rfl : c3 = .int .u16 x3 := by simpa using e3
    obtain ⟨x4, e4, w4⟩ := (show RdC Try.prog W 5 [c4] from hm 4 _ rfl).int Try.underlying5
    have b4 := Go.bounds_u8 w4
    obtain rfl : c4 = .int .u8 x4 := by simpa using e4
    obtain ⟨x10, e10, w10⟩ := (show RdC Try.prog W 23 [c10] from hf 6 _ rfl).int Try.underlying23
    have b10 := Go.bounds_u16 w10
    obtain rfl : c10 = .int .u16 x10 := by simpa using e10
    obtain ⟨x11, e11, w11⟩ := (show RdC Try.prog W 22 [c11] from hf 7 _ rfl).int Try.underlying22
    have b11 := Go.bounds_u32 w11
    obtain rfl : c11 = .int .u32 x11 := by simpa using e11
    exact ⟨⟨⟨x0, x1, x2, x3, x4⟩, x10, x11⟩, ⟨⟨by omega, by omega, by omega, by omega, by omega⟩, by omega, by omega⟩, by simp only [RepV]; exact ⟨_, rfl, RepL.cons repO (RepL.cons repO (RepL.cons repO (RepL.cons repO (RepL.cons repO (RepL.cons repX (RepL.cons repX (RepL.cons repX (RepL.cons repX (RepL.cons repX (RepL.cons repO (RepL.cons repO (RepL.cons repX RepL.nil))))))))))))⟩⟩
end Go.Proofs.Ythjojkkapboonaa
