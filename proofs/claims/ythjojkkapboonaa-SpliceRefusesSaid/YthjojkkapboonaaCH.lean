/- Package udp, through its own text. -/
import Derived.Test.YthjojkkapboonaaCE
import Derived.Test.YthjojkkapboonaaCG
namespace Go.Proofs.Ythjojkkapboonaa
set_option linter.unusedSimpArgs false
set_option linter.unusedVariables false
open Go.RowKit

def udpS (src dst sp dp : Int) (l : List UInt8) : Int :=
  if 65535 - onesF (psB src dst 17 (8 + l.length) ++ (put16 [sp, dp, 8 + l.length, 0] ++ l)) = 0 then 65535 else 65535 - onesF (psB src dst 17 (8 + l.length) ++ (put16 [sp, dp, 8 + l.length, 0] ++ l))
/-- A datagram's bytes. -/
def udpB (src dst sp dp : Int) (bare : Bool) (l : List UInt8) : List UInt8 := put16 [sp, dp, 8 + l.length, if bare then 0 else udpS src dst sp dp l] ++ l
theorem udpS_bd (src dst sp dp : Int) (l : List UInt8) : 0 < udpS src dst sp dp l ∧ udpS src dst sp dp l ≤ 65535 := by
  have := onesF_bd (psB src dst 17 (8 + l.length) ++ (put16 [sp, dp, 8 + l.length, 0] ++ l))
  unfold udpS
  split <;> omega
theorem set16_6 (a b c s : Int) (l : List UInt8) : set16 (put16 [a, b, c, 0] ++ l) 6 s = put16 [a, b, c, s] ++ l := by
  have hb : thereB (put16 [a, b, c, 0] ++ l).length 6 2 = true := thereB_iff.2 (by simp [length_put16]; omega)
  rw [set16, if_pos hb]
  simp [put16]

/-- What bytes begin with: a datagram, or why none. -/
def udpP (src dst : Int) (b : List UInt8) : (Int × Int × Bool × List UInt8) × Int :=
  if b.length < 8 then ((0, 0, false, []), 4) else if get16 b 4 < 8 then ((0, 0, false, []), 3) else if (b.length : Int) < get16 b 4 then ((0, 0, false, []), 4)
  else if ¬ get16 b 6 = 0 ∧ ¬ onesF (psB src dst 17 (get16 b 4) ++ b.take (get16 b 4).toNat) = 65535 then ((0, 0, false, []), 5)
  else ((get16 b 0, get16 b 2, decide (get16 b 6 = 0), (b.take (get16 b 4).toNat).drop 8), 0)
theorem get16_bd (l : List UInt8) (at_ : Int) : 0 ≤ get16 l at_ ∧ get16 l at_ ≤ 65535 := by
  unfold get16
  split <;> omega
theorem get16_take (b : List UInt8) (n k : Nat) (h : k + 2 ≤ n) (h2 : n ≤ b.length) : get16 (b.take n) k = get16 b k := by
  have hb : thereB (b.take n).length k 2 = true := thereB_iff.2 (by simp; omega)
  have hb2 : thereB b.length k 2 = true := thereB_iff.2 (by omega)
  rw [get16, get16, if_pos hb, if_pos hb2, Int.toNat_natCast, List.drop_take, List.take_take]
  congr 5
  omega
























































































end Go.Proofs.Ythjojkkapboonaa
