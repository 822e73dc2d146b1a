/- Package icmp and its reference, through their own texts. -/
import Derived.Test.YthjojkkapboonaaCD
import Derived.Test.YthjojkkapboonaaCI
namespace Go.Proofs.Ythjojkkapboonaa
set_option linter.unusedSimpArgs false
set_option linter.unusedVariables false
open Go.RowKit

theorem or_16 {a b : Int} (ha : 0 ≤ a ∧ a ≤ 65535) (hb : 0 ≤ b ∧ b ≤ 65535) : bits .or .u32 (a * 65536) b = a * 65536 + b :=
  bits_join .u32 32 (by decide) (fun n h1 h2 => by rw [IntKind.wrap_u32]; omega) 16 (a * 65536) b (by omega) (by omega) (by omega) (by omega) (by omega) (by omega)
theorem thereB_all (l : List UInt8) {n : Int} (h0 : 0 ≤ n) (h : n ≤ l.length) : thereB l.length n ((l.length : Int) - n) = true := thereB_iff.2 (by omega)
theorem cutB_all (l : List UInt8) {n : Nat} (h : n ≤ l.length) : cutB l n ((l.length : Int) - n) = l.drop n := by
  rw [cutB, if_pos (thereB_all l (by omega) (by omega)), List.take_of_length_le (by simp)]
  simp
theorem cutB_take (l : List UInt8) {n : Nat} (h : n ≤ l.length) : cutB l 0 n = l.take n := by
  rw [cutB, if_pos (thereB_iff.2 (by omega))]
  simp


























































/-- A message's bytes. -/
def icmpB (t c r : Int) (l : List UInt8) : List UInt8 := set16 ([u8 t, u8 c, u8 0, u8 0] ++ put32 [r] ++ l) 2 (65535 - onesF ([u8 t, u8 c, u8 0, u8 0] ++ put32 [r] ++ l))
















/-- What bytes are: a message, or why none. -/
def icmpP (l : List UInt8) : (Int × Int × Int × List UInt8) × Int :=
  if l.length < 8 then ((0, 0, 0, []), 4) else if onesF l ≠ 65535 then ((0, 0, 0, []), 5) else (((l.getD 0 0).toNat, (l.getD 1 0).toNat, get32 l 4, l.drop 8), 0)



























end Go.Proofs.Ythjojkkapboonaa
