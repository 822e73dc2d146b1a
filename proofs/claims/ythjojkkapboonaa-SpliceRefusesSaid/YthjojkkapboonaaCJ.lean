/- The reference of udp. -/
import Derived.Test.YthjojkkapboonaaCH
import Derived.Test.YthjojkkapboonaaCF
namespace Go.Proofs.Ythjojkkapboonaa
set_option linter.unusedSimpArgs false
set_option linter.unusedVariables false
open Go.RowKit

set_option maxRecDepth 100000 in
theorem refHead08_a (src dst proto n : Int) (h1 : 0 ≤ src ∧ src ≤ 4294967295) (h2 : 0 ≤ dst ∧ dst ≤ 4294967295) (h3 : 0 ≤ proto ∧ proto ≤ 255) (hn : 0 ≤ n ∧ n ≤ 65535) : ASpec Try.prog 81 [u32A src, u32A dst, u8A proto, i64 n] (.bs (psB src dst proto n)) := by
  have e1 : psB src dst proto n = put32 [src] ++ put32 [dst] ++ [u8 0, u8 proto, u8 (n / 256), u8 n] := by
    rw [psB, show n % 65536 = n by omega]
    simp [put32, put16]
  rw [e1]
  refine ASpec.of_body TT_ok Try.mixed _ [.tmp 8] ([], []) Try.func81 (by kernel_rfl) rfl rfl (by simp only [Try.ntmps81, List.length_cons, List.length_nil]; omega) rfl (by kernel_rfl) ?_
  simp only [argE_cons, argE_nil, ac_seq, ac_region, at_normal, ao_nil, ao_cons, as_call, as_move, as_assign, u8A, u32A, i64, fr_false, List.contains_nil, beq_self_eq_true, rd, aopsD, frzW, frzR, constT, evT, lk, putT, argsF, constA, cellA, Option.map_some, Nat.reduceAdd, Nat.reduceSub, Nat.reduceLeDiff, Nat.succ_ne_zero, eq_self, Bool.false_eq_true, ↓reduceIte, Nat.zero_add]
  refine ACall.intro (refPut_a src 4 h1 (by omega)) ?_
  simp only [lowB_four, ao_cons, as_call, as_move, beq_self_eq_true, rd, frzW, frzR, constT, evT, lk, putT, argsF, constA, cellA, Option.map_some, Nat.reduceSub, Nat.reduceEqDiff, eq_self, reduceCtorEq, ↓reduceIte]
  refine ACall.intro (refPut_a dst 4 h2 (by omega)) ?_
  simp only [lowB_four, ao_cons, as_call, beq_self_eq_true, rd, frzW, frzR, evT, lk, putT, argsF, Option.map_some, Nat.reduceSub, Nat.reduceEqDiff, eq_self, ↓reduceIte]
  refine ACall.intro (add_a (put32 [src]) (put32 [dst]) (by simp [length_put32])) ?_
  simp only [u8bd, u8w, u8m, tdivN (a := n) (b := 256) (by omega), tmodN (a := n) (b := 256) (by omega), tmodN (a := n / 256) (b := 256) (by omega), i64_in (n := n / 256) (by omega) (by omega), ao_cons, as_call, as_move, as_binOp, as_convert, as_buildSlice, beq_self_eq_true, Int.reduceEq, hk_some, hopG, rd, frzW, frzR, constT, evT, lk, putT, binF, convF, cellsF, ovw, fillF, bytesOf, makeSF, partsF, argsF, constA, cellA, Value.oneCell', List.length_cons, List.length_nil, List.set_cons_zero, List.set_cons_succ, List.nil_append, List.cons_append, List.replicate_succ, List.replicate_zero, List.flatten_cons, List.flatten_nil, List.append_nil, Option.map_some, Nat.reduceAdd, Nat.reduceSub, Nat.reduceEqDiff, Nat.reduceLeDiff, ne_eq, not_false_eq_true, true_and, and_true, and_self, eq_self, reduceCtorEq, ↓reduceIte, Int.reduceLE, Nat.mul_one, Nat.zero_add, Nat.le_refl, TT3, TT5, TT38]
  refine ⟨h3, ACall.intro (add_a (put32 [src] ++ put32 [dst]) [u8 0, u8 proto, u8 (n / 256), u8 n] (by simp [length_put32])) ?_⟩
  simp only [ac_ret, at_normal, ae_ret, ao_nil, ao_cons, as_assign, beq_self_eq_true, rd, evT, lk, putT, resF, resL, Option.map_some, Option.bind_some, Nat.reduceSub, and_true, and_self, eq_self, ↓reduceIte]





















theorem udpB_len (src dst sp dp : Int) (bare : Bool) (l : List UInt8) : (udpB src dst sp dp bare l).length = 8 + l.length := by simp [udpB, length_put16]
theorem get16_getD (b : List UInt8) (k : Nat) (h : k + 2 ≤ b.length) : get16 b k = ((b.getD k 0).toNat : Int) * 256 + ((b.getD (k + 1) 0).toNat : Int) := by
  have hb : thereB b.length k 2 = true := thereB_iff.2 (by omega)
  rw [get16, if_pos hb, Int.toNat_natCast]
  obtain ⟨x, y, r, e⟩ : ∃ x y r, b.drop k = x :: y :: r := by
    match hd : b.drop k with
    | [] => have := congrArg List.length hd; simp at this; omega
    | [x] => have := congrArg List.length hd; simp at this; omega
    | x :: y :: r => exact ⟨x, y, r, rfl⟩
  have g0 : b.getD k 0 = x := by
    have := congrArg (fun l => l.getD 0 0) e
    simpa using this
  have g1 : b.getD (k + 1) 0 = y := by
    have := congrArg (fun l => l.getD 1 0) e
    simpa using this
  rw [e, g0, g1]
  have := x.toNat_lt
  have := y.toNat_lt
  simp [num_two]
  omega















































































































end Go.Proofs.Ythjojkkapboonaa
