/- Arguments as they are handed over, in the words of what is known of a value. -/
import Derived.Test.YthjojkkapboonaaCC
import Derived.Test.YthjojkkapboonaaG
namespace Go.Proofs.Ythjojkkapboonaa
set_option linter.unusedSimpArgs false
set_option linter.unusedVariables false
open Go.ChangeShapes Go.WideShapes Go.ChangeAt Go.RowKit

/-- No block is kept from anyone. -/
def M0 : Nat → Prop := fun _ => False
theorem ASpec.walk {P : Program} {f : FuncId} {ys : List AV} {W : World} {vs : List Value} (h : ASpec P f ys (boA true)) (hr : RepL M0 W ys vs) : Calls P f vs.toArray W fun e W' => e = .returned (.bool true) ∧ Grow W W' :=
  (h.2 M0 W vs (fun _ hb => hb.elim) hr).mono fun e w' ⟨v, he, hv, g⟩ => by
    rw [RepV.one_iff] at hv
    subst hv
    exact ⟨he, g⟩
theorem Arg.arrayV {P : Program} {W : World} {t e : TypeId} {n : Nat} {v : Value} (ht : P.underlying t = some (.array n e)) (h : Arg P W t v) : ∃ cs : List Value, v = .agg cs.toArray ∧ RdC P W t cs := by
  obtain ⟨⟨base, h1⟩, h2⟩ := h
  simp only [Value.okWide, ht] at h1
  obtain ⟨cs, rfl, _⟩ := h1
  exact ⟨cs.toList, by simp, h2⟩
theorem repB {W : World} {v : Value} {l : List UInt8} (h : IsB W v l) : RepV M0 W (.bs l) v := RepV.ofB h (fun _ _ _ hm => hm)
theorem repO {W : World} {v : Value} : RepV M0 W (.one v) v := RepV.one_iff.2 rfl

theorem Arg.u8A {W : World} {v : Value} (h : Arg Try.prog W 5 v) : ∃ n, (0 ≤ n ∧ n ≤ 255) ∧ RepV M0 W (.one (.int .u8 n)) v := by
  obtain ⟨n, rfl, w⟩ := h.int Try.underlying5
  have b := Go.bounds_u8 w
  exact ⟨n, by omega, repO⟩
theorem Arg.u16A {W : World} {v : Value} (h : Arg Try.prog W 23 v) : ∃ n, (0 ≤ n ∧ n ≤ 65535) ∧ RepV M0 W (.one (.int .u16 n)) v := by
  obtain ⟨n, rfl, w⟩ := h.int Try.underlying23
  have b := Go.bounds_u16 w
  exact ⟨n, by omega, repO⟩
theorem Arg.u32A {W : World} {v : Value} (h : Arg Try.prog W 22 v) : ∃ n, (0 ≤ n ∧ n ≤ 4294967295) ∧ RepV M0 W (.one (.int .u32 n)) v := by
  obtain ⟨n, rfl, w⟩ := h.int Try.underlying22
  have b := Go.bounds_u32 w
  exact ⟨n, by omega, repO⟩
theorem Arg.u64A {W : World} {v : Value} (h : Arg Try.prog W 33 v) : ∃ n, (0 ≤ n ∧ n ≤ 18446744073709551615) ∧ RepV M0 W (.one (.int .u64 n)) v := by
  obtain ⟨n, rfl, w⟩ := h.int Try.underlying33
  have b := Go.bounds_u64 w
  exact ⟨n, by omega, repO⟩
theorem Arg.i64A {W : World} {v : Value} (h : Arg Try.prog W 3 v) : ∃ n, (-9223372036854775808 ≤ n ∧ n ≤ 9223372036854775807) ∧ RepV M0 W (.one (.int .i64 n)) v := by
  obtain ⟨n, rfl, w⟩ := h.int Try.underlying3
  have b := Go.bounds_i64 w
  exact ⟨n, by omega, repO⟩
theorem Arg.boolA {W : World} {v : Value} (h : Arg Try.prog W 4 v) : ∃ b, RepV M0 W (boA b) v := by
  obtain ⟨b, rfl⟩ := h.bool Try.underlying4
  exact ⟨b, repO⟩
theorem Arg.strA {W : World} {v : Value} (h : Arg Try.prog W 9 v) : ∃ s : ByteArray, s.size ≤ maxLen ∧ RepV M0 W (.one (.string s)) v := by
  obtain ⟨s, rfl, hs⟩ := h.string Try.underlying9
  exact ⟨s, hs, repO⟩
theorem Arg.bytesA {W : World} {v : Value} (h : Arg Try.prog W 38 v) : ∃ l, RepV M0 W (.bs l) v := by
  obtain ⟨l, hl⟩ := h.bytes Try.underlying38 Try.underlying5 (by kernel_rfl)
  exact ⟨l, repB hl⟩
set_option maxRecDepth 100000 in
theorem macR {W : World} {c0 c1 c2 c3 c4 c5 : Value} (h : RdC Try.prog W 29 [c0, c1, c2, c3, c4, c5]) : ∃ m : Nat → Int, macOk m ∧ c0 = .int .u8 (m 0) ∧ c1 = .int .u8 (m 1) ∧ c2 = .int .u8 (m 2) ∧ c3 = .int .u8 (m 3) ∧ c4 = .int .u8 (m 4) ∧ c5 = .int .u8 (m 5) := by
  obtain ⟨_, hf⟩ := h.array Try.underlying29
  obtain ⟨n0, e0, w0⟩ := (show RdC Try.prog W 5 [c0] from hf 0 (by omega)).int Try.underlying5
  have b0 := Go.bounds_u8 w0
  obtain ⟨n1, e1, w1⟩ := (show RdC Try.prog W 5 [c1] from hf 1 (by omega)).int Try.underlying5
  have b1 := Go.bounds_u8 w1
  obtain ⟨n2, e2, w2⟩ := (show RdC Try.prog W 5 [c2] from hf 2 (by omega)).int Try.underlying5
  have b2 := Go.bounds_u8 w2
  obtain ⟨n3, e3, w3⟩ := (show RdC Try.prog W 5 [c3] from hf 3 (by omega)).int Try.underlying5
  have b3 := Go.bounds_u8 w3
  obtain ⟨n4, e4, w4⟩ := (show RdC Try.prog W 5 [c4] from hf 4 (by omega)).int Try.underlying5
  have b4 := Go.bounds_u8 w4
  obtain ⟨n5, e5, w5⟩ := (show RdC Try.prog W 5 [c5] from hf 5 (by omega)).int Try.underlying5
  have b5 := Go.bounds_u8 w5
  simp only [List.cons.injEq, and_true] at e0 e1 e2 e3 e4 e5
  refine ⟨fun i => [n0, n1, n2, n3, n4, n5].getD i 0, fun i hi => ?_, e0, e1, e2, e3, e4, e5⟩
  match i, hi with
  | 0, _ => exact b0
  | 1, _ => exact b1
  | 2, _ => exact b2
  | 3, _ => exact b3
  | 4, _ => exact b4
  | 5, _ => exact b5











































































set_option maxRecDepth 100000 in
theorem Arg.pktA {W : World} {v : Value} (h : Arg Try.prog W 87 v) : ∃ p : PktN, p.ok ∧ RepV M0 W (pktA p) v := by
  obtain ⟨cs, rfl, hr⟩ := h.struct Try.underlying87
  obtain ⟨hl, hf⟩ := hr.struct Try.underlying87
  have hl5 : cs.length = 11 := hl.trans (by kernel_rfl)
  match cs, hl5 with
  | [c0, c1, c2, c3, c4, c5, c6, c7, c8, c9, c10], _ =>
    obtain ⟨x0, e0, w0⟩ := (show RdC Try.prog W 5 [c0] from hf 0 _ rfl).int Try.underlying5
    have b0 := Go.bounds_u8 w0
    obtain rfl : c0 = .int .u8 x0 := by simpa using e0
    obtain ⟨x1, e1, w1⟩ := (show RdC Try.prog W 23 [c1] from hf 1 _ rfl).int Try.underlying23
    have b1 := Go.bounds_u16 w1
    obtain rfl : c1 = .int .u16 x1 := by simpa using e1
    obtain ⟨x2, e2⟩ := (show RdC Try.prog W 4 [c2] from hf 2 _ rfl).bool Try.underlying4
    obtain rfl : c2 = .bool x2 := by simpa using e2
    obtain ⟨x3, e3⟩ := (show RdC Try.prog W 4 [c3] from hf 3 _ rfl).bool Try.underlying4
    obtain rfl : c3 = .bool x3 := by simpa using e3
    obtain ⟨x4, e4, w4⟩ := (show RdC Try.prog W 23 [c4] from hf 4 _ rfl).int Try.underlying23
    have b4 := Go.bounds_u16 w4
    obtain rfl : c4 = .int .u16 x4 := by simpa using e4
    obtain ⟨x5, e5, w5⟩ := (show RdC Try.prog W 5 [c5] from hf 5 _ rfl).int Try.underlying5
    have b5 := Go.bounds_u8 w5
    obtain rfl : c5 = .int .u8 x5 := by simpa using e5
    obtain ⟨x6, e6, w6⟩ := (show RdC Try.prog W 5 [c6] from hf 6 _ rfl).int Try.underlying5
    have b6 := Go.bounds_u8 w6
    obtain rfl : c6 = .int .u8 x6 := by simpa using e6
    obtain ⟨x7, e7, w7⟩ := (show RdC Try.prog W 22 [c7] from hf 7 _ rfl).int Try.underlying22
    have b7 := Go.bounds_u32 w7
    obtain rfl : c7 = .int .u32 x7 := by simpa using e7
    obtain ⟨x8, e8, w8⟩ := (show RdC Try.prog W 22 [c8] from hf 8 _ rfl).int Try.underlying22
    have b8 := Go.bounds_u32 w8
    obtain rfl : c8 = .int .u32 x8 := by simpa using e8
    obtain ⟨v9, x9, e9, w9⟩ := (show RdC Try.prog W 38 [c9] from hf 9 _ rfl).bytes Try.underlying38 Try.underlying5 (by kernel_rfl)
    obtain rfl : c9 = v9 := by simpa using e9
    obtain ⟨v10, x10, e10, w10⟩ := (show RdC Try.prog W 38 [c10] from hf 10 _ rfl).bytes Try.underlying38 Try.underlying5 (by kernel_rfl)
    obtain rfl : c10 = v10 := by simpa using e10
    exact ⟨⟨x0, x1, x2, x3, x4, x5, x6, x7, x8, x9, x10⟩, ⟨by omega, by omega, by omega, by omega, by omega, by omega, by omega⟩, by simp only [RepV]; exact ⟨_, rfl, RepL.cons repO (RepL.cons repO (RepL.cons repO (RepL.cons repO (RepL.cons repO (RepL.cons repO (RepL.cons repO (RepL.cons repO (RepL.cons repO (RepL.cons (repB w9) (RepL.cons (repB w10) RepL.nil))))))))))⟩⟩

set_option maxRecDepth 100000 in
theorem Arg.segA {W : World} {v : Value} (h : Arg Try.prog W 40 v) : ∃ s : SegN, s.ok ∧ RepV M0 W (segA s) v := by
  obtain ⟨cs, rfl, hr⟩ := h.struct Try.underlying40
  obtain ⟨hl, hf⟩ := hr.struct Try.underlying40
  have hl5 : cs.length = 10 := hl.trans (by kernel_rfl)
  match cs, hl5 with
  | [c0, c1, c2, c3, c4, c5, c6, c7, c8, c9], _ =>
    obtain ⟨x0, e0, w0⟩ := (show RdC Try.prog W 23 [c0] from hf 0 _ rfl).int Try.underlying23
    have b0 := Go.bounds_u16 w0
    obtain rfl : c0 = .int .u16 x0 := by simpa using e0
    obtain ⟨x1, e1, w1⟩ := (show RdC Try.prog W 23 [c1] from hf 1 _ rfl).int Try.underlying23
    have b1 := Go.bounds_u16 w1
    obtain rfl : c1 = .int .u16 x1 := by simpa using e1
    obtain ⟨x2, e2, w2⟩ := (show RdC Try.prog W 22 [c2] from hf 2 _ rfl).int Try.underlying22
    have b2 := Go.bounds_u32 w2
    obtain rfl : c2 = .int .u32 x2 := by simpa using e2
    obtain ⟨x3, e3, w3⟩ := (show RdC Try.prog W 22 [c3] from hf 3 _ rfl).int Try.underlying22
    have b3 := Go.bounds_u32 w3
    obtain rfl : c3 = .int .u32 x3 := by simpa using e3
    obtain ⟨x4, e4, w4⟩ := (show RdC Try.prog W 5 [c4] from hf 4 _ rfl).int Try.underlying5
    have b4 := Go.bounds_u8 w4
    obtain rfl : c4 = .int .u8 x4 := by simpa using e4
    obtain ⟨x5, e5, w5⟩ := (show RdC Try.prog W 5 [c5] from hf 5 _ rfl).int Try.underlying5
    have b5 := Go.bounds_u8 w5
    obtain rfl : c5 = .int .u8 x5 := by simpa using e5
    obtain ⟨x6, e6, w6⟩ := (show RdC Try.prog W 23 [c6] from hf 6 _ rfl).int Try.underlying23
    have b6 := Go.bounds_u16 w6
    obtain rfl : c6 = .int .u16 x6 := by simpa using e6
    obtain ⟨x7, e7, w7⟩ := (show RdC Try.prog W 23 [c7] from hf 7 _ rfl).int Try.underlying23
    have b7 := Go.bounds_u16 w7
    obtain rfl : c7 = .int .u16 x7 := by simpa using e7
    obtain ⟨v8, x8, e8, w8⟩ := (show RdC Try.prog W 38 [c8] from hf 8 _ rfl).bytes Try.underlying38 Try.underlying5 (by kernel_rfl)
    obtain rfl : c8 = v8 := by simpa using e8
    obtain ⟨v9, x9, e9, w9⟩ := (show RdC Try.prog W 38 [c9] from hf 9 _ rfl).bytes Try.underlying38 Try.underlying5 (by kernel_rfl)
    obtain rfl : c9 = v9 := by simpa using e9
    exact ⟨⟨x0, x1, x2, x3, x4, x5, x6, x7, x8, x9⟩, ⟨by omega, by omega, by omega, by omega, by omega, by omega, by omega, by omega⟩, by simp only [RepV]; exact ⟨_, rfl, RepL.cons repO (RepL.cons repO (RepL.cons repO (RepL.cons repO (RepL.cons repO (RepL.cons repO (RepL.cons repO (RepL.cons repO (RepL.cons (repB w8) (RepL.cons (repB w9) RepL.nil)))))))))⟩⟩

set_option maxRecDepth 100000 in
theorem Arg.turnA {W : World} {v : Value} (h : Arg Try.prog W 43 v) : ∃ t : TurnN, t.ok ∧ RepV M0 W (turnA t) v := by
  obtain ⟨cs, rfl, hr⟩ := h.struct Try.underlying43
  obtain ⟨hl, hf⟩ := hr.struct Try.underlying43
  have hl5 : cs.length = 6 := hl.trans (by kernel_rfl)
  match cs, hl5 with
  | [c0, c1, c2, c3, c4, c5], _ =>
    obtain ⟨x0, e0, w0⟩ := (show RdC Try.prog W 22 [c0] from hf 0 _ rfl).int Try.underlying22
    have b0 := Go.bounds_u32 w0
    obtain rfl : c0 = .int .u32 x0 := by simpa using e0
    obtain ⟨x1, e1, w1⟩ := (show RdC Try.prog W 22 [c1] from hf 1 _ rfl).int Try.underlying22
    have b1 := Go.bounds_u32 w1
    obtain rfl : c1 = .int .u32 x1 := by simpa using e1
    obtain ⟨x2, e2, w2⟩ := (show RdC Try.prog W 23 [c2] from hf 2 _ rfl).int Try.underlying23
    have b2 := Go.bounds_u16 w2
    obtain rfl : c2 = .int .u16 x2 := by simpa using e2
    obtain ⟨x3, e3, w3⟩ := (show RdC Try.prog W 23 [c3] from hf 3 _ rfl).int Try.underlying23
    have b3 := Go.bounds_u16 w3
    obtain rfl : c3 = .int .u16 x3 := by simpa using e3
    obtain ⟨x4, e4, w4⟩ := (show RdC Try.prog W 22 [c4] from hf 4 _ rfl).int Try.underlying22
    have b4 := Go.bounds_u32 w4
    obtain rfl : c4 = .int .u32 x4 := by simpa using e4
    obtain ⟨x5, e5, w5⟩ := (show RdC Try.prog W 22 [c5] from hf 5 _ rfl).int Try.underlying22
    have b5 := Go.bounds_u32 w5
    obtain rfl : c5 = .int .u32 x5 := by simpa using e5
    exact ⟨⟨x0, x1, x2, x3, x4, x5⟩, ⟨by omega, by omega, by omega, by omega, by omega, by omega⟩, by simp only [RepV]; exact ⟨_, rfl, RepL.cons repO (RepL.cons repO (RepL.cons repO (RepL.cons repO (RepL.cons repO (RepL.cons repO RepL.nil)))))⟩⟩

set_option maxRecDepth 100000 in
theorem Arg.macA {W : World} {v : Value} (h : Arg Try.prog W 29 v) : ∃ m, macOk m ∧ RepV M0 W (macA m) v := by
  obtain ⟨cs, rfl, hr⟩ := h.arrayV Try.underlying29
  have hl : cs.length = 6 := (hr.array Try.underlying29).1.trans (by kernel_rfl)
  match cs, hl with
  | [c0, c1, c2, c3, c4, c5], _ =>
    obtain ⟨m, hm, rfl, rfl, rfl, rfl, rfl, rfl⟩ := macR hr
    exact ⟨m, hm, by simp only [RepV]; exact ⟨_, rfl, RepL.cons repO (RepL.cons repO (RepL.cons repO (RepL.cons repO (RepL.cons repO (RepL.cons repO RepL.nil)))))⟩⟩

end Go.Proofs.Ythjojkkapboonaa
