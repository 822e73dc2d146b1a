/- octet.Unhex and the reference's; Hex and the reference's. -/
import Derived.Test.YthjojkkapboonaaCD
import Derived.Test.YthjojkkapboonaaMA
import Derived.Lib.Bytealg
import Derived.Laws.RangeAny
namespace Go.Proofs.Ythjojkkapboonaa
set_option linter.unusedSimpArgs false
set_option linter.unusedVariables false
open Go.RowKit

/-- What number a figure is; below 0: it is none. -/
def val (x : UInt8) : Int := if 48 ≤ x.toNat ∧ x.toNat ≤ 57 then (x.toNat : Int) - 48 else if 97 ≤ x.toNat ∧ x.toNat ≤ 102 then (x.toNat : Int) - 87 else -1
theorem val_bd (x : UInt8) : -1 ≤ val x ∧ val x ≤ 15 := by
  unfold val
  split
  · omega
  · split <;> omega
def figs : ByteArray := ⟨#[48, 49, 50, 51, 52, 53, 54, 55, 56, 57, 97, 98, 99, 100, 101, 102]⟩
theorem index_val : ∀ n : _root_.Fin 256, Lib.indexByte figs.data.toList (((n.val : Nat) : Int).toNat.toUInt8) = val (u8 ((n.val : Nat) : Int)) := by decide +kernel
set_option maxHeartbeats 1000000 in
set_option maxRecDepth 100000 in
theorem liteIndex_any (s : ByteArray) (c : Int) (w : World) :
    Calls Try.prog 88 #[.string s, .int .u8 c] w fun e w' => e = .returned (.int .i64 (Lib.indexByte s.data.toList c.toNat.toUInt8)) ∧ w' = w := by
  go_enter Try.func88, Try.ntmps88
  go_wp2
  rw [run_callFunc_extern Try.func101 (by kernel_rfl) (by kernel_rfl) (by kernel_rfl) (e := Extern.BytealgIndexByte.indexByte) (by kernel_rfl), Lib.run_indexByteString]
  simp only [Result.andThen]
  rw [Oper.upon_value]
  go_wp2
  go_ret
  exact ⟨rfl, rfl⟩
theorem liteIndex_a (s : ByteArray) (c : Int) : ASpec Try.prog 88 [.one (.string s), u8A c] (i64 (Lib.indexByte s.data.toList c.toNat.toUInt8)) := by
  refine .mk (okF _ Try.func88 (by kernel_rfl) rfl) fun M w vs hM h => ?_
  obtain ⟨_, vs, rfl, h1, h⟩ := h.cons_iff
  obtain ⟨_, vs, rfl, h2, h⟩ := h.cons_iff
  obtain rfl := h.nil_iff
  rw [RepV.one_iff] at h1 h2
  subst h1 h2
  refine (liteIndex_any s c w).mono ?_
  rintro e w' ⟨rfl, rfl⟩
  exact ⟨_, rfl, RepV.one_iff.2 rfl, Grow.refl _⟩
set_option maxRecDepth 100000 in
theorem index_a (c : Int) (h : 0 ≤ c ∧ c ≤ 255) : ASpec Try.prog 55 [.one (.string figs), u8A c] (i64 (val (u8 c))) := by
  have e : Lib.indexByte figs.data.toList c.toNat.toUInt8 = val (u8 c) := by
    obtain ⟨n, rfl⟩ := Int.eq_ofNat_of_zero_le h.1
    exact index_val ⟨n, by omega⟩
  refine ASpec.of_body TT_ok Try.mixed _ [.tmp 4] ([], []) Try.func55 (by kernel_rfl) rfl rfl (by simp only [Try.ntmps55, List.length_cons, List.length_nil]; omega) rfl (by kernel_rfl) ?_
  simp only [argE_cons, argE_nil, ac_seq, ac_region, at_normal, ao_nil, ao_cons, as_call, as_move, as_assign, u8A, i64, fr_false, List.contains_nil, beq_self_eq_true, rd, aopsD, frzW, frzR, constT, evT, lk, putT, argsF, constA, cellA, Option.map_some, Nat.reduceAdd, Nat.reduceSub, Nat.reduceEqDiff, Nat.reduceLeDiff, Nat.succ_ne_zero, eq_self, reduceCtorEq, Bool.false_eq_true, ↓reduceIte, Nat.zero_add]
  refine ACall.intro (liteIndex_a figs c) ?_
  rw [e]
  simp only [ac_ret, at_normal, ae_ret, ao_nil, ao_cons, as_assign, i64, beq_self_eq_true, rd, evT, lk, putT, resF, resL, Option.map_some, Option.bind_some, Nat.reduceSub, and_true, and_self, eq_self, ↓reduceIte]
theorem hex_a (l : List UInt8) (hl : l.length ≤ 1000000) : ASpec Try.prog 27 [.bs l] (.one (.string (bstr (hexL l)))) := by
  refine .mk (okF _ Try.func27 (by kernel_rfl) rfl) fun M w vs hM h => ?_
  obtain ⟨v, vs, rfl, h1, h⟩ := h.cons_iff
  obtain rfl := h.nil_iff
  refine (hex_any v l w h1.isB (by omega)).mono ?_
  rintro e w' ⟨rfl, g⟩
  exact ⟨_, rfl, RepV.one_iff.2 rfl, g⟩
end Go.Proofs.Ythjojkkapboonaa
