/- The reference of icmp, and the statements' own texts. -/
import Derived.Test.YthjojkkapboonaaCE
import Derived.Test.YthjojkkapboonaaPA
namespace Go.Proofs.Ythjojkkapboonaa
set_option linter.unusedSimpArgs false
set_option linter.unusedVariables false
open Go.RowKit

theorem icmpB_eq (t c r : Int) (l : List UInt8) : icmpB t c r l = [u8 t, u8 c, u8 ((65535 - onesF ([u8 t, u8 c, u8 0, u8 0] ++ put32 [r] ++ l)) / 256), u8 (65535 - onesF ([u8 t, u8 c, u8 0, u8 0] ++ put32 [r] ++ l))] ++ (put32 [r] ++ l) := by
  have hb : thereB ([u8 t, u8 c, u8 0, u8 0] ++ put32 [r] ++ l).length 2 2 = true := thereB_iff.2 (by simp; omega)
  rw [icmpB, set16, if_pos hb]
  rfl





























theorem icmpP_e (l : List UInt8) : IntKind.i64.wrap (icmpP l).2 = (icmpP l).2 := by
  unfold icmpP
  split
  · rfl
  · split <;> rfl
theorem icmpB_len (t c r : Int) (l : List UInt8) : (icmpB t c r l).length = 8 + l.length := by rw [icmpB_eq]; simp [length_put32]; omega
theorem get32_put (a b : List UInt8) (r : Int) (hr : 0 ≤ r ∧ r ≤ 4294967295) : get32 (a ++ (put32 [r] ++ b)) a.length = r := by
  have hb : thereB (a ++ (put32 [r] ++ b)).length a.length 4 = true := thereB_iff.2 (by simp [length_put32]; omega)
  rw [get32, if_pos hb]
  have e : ((a ++ (put32 [r] ++ b)).drop ((a.length : Int)).toNat).take 4 = put32 [r] := by
    rw [Int.toNat_natCast, List.drop_left, List.take_left' (by simp [length_put32])]
  rw [e]
  have h1 := u8_toNat (r / 16777216)
  have h2 := u8_toNat (r / 65536)
  have h3 := u8_toNat (r / 256)
  have h4 := u8_toNat r
  simp only [num, put32, List.foldl_cons, List.foldl_nil]
  omega
theorem icmpP_B (t c r : Int) (l : List UInt8) (ht : 0 ≤ t ∧ t ≤ 255) (hc : 0 ≤ c ∧ c ≤ 255) (hr : 0 ≤ r ∧ r ≤ 4294967295) (hl : l.length ≤ 1000) : icmpP (icmpB t c r l) = ((t, c, r, l), (0 : Int)) := by
  have hlen := icmpB_len t c r l
  have h1 : onesF (icmpB t c r l) = 65535 := by
    have := fills_law [u8 t, u8 c] (put32 [r] ++ l) (by simp)
    have e : [u8 t, u8 c] ++ ([0, 0] ++ (put32 [r] ++ l)) = [u8 t, u8 c, u8 0, u8 0] ++ put32 [r] ++ l := by simp; rfl
    rw [e] at this
    rw [icmpB_eq]
    exact this
  rw [icmpP, if_neg (by omega), if_neg (by simp [h1])]
  have e : icmpB t c r l = [u8 t, u8 c, u8 ((65535 - onesF ([u8 t, u8 c, u8 0, u8 0] ++ put32 [r] ++ l)) / 256), u8 (65535 - onesF ([u8 t, u8 c, u8 0, u8 0] ++ put32 [r] ++ l))] ++ (put32 [r] ++ l) := icmpB_eq t c r l
  rw [e]
  have g := get32_put [u8 t, u8 c, u8 ((65535 - onesF ([u8 t, u8 c, u8 0, u8 0] ++ put32 [r] ++ l)) / 256), u8 (65535 - onesF ([u8 t, u8 c, u8 0, u8 0] ++ put32 [r] ++ l))] l r hr
  have h2 := u8_toNat t
  have h3 := u8_toNat c
  simp only [List.length_cons, List.length_nil] at g
  have g' : get32 ([u8 t, u8 c, u8 ((65535 - onesF ([u8 t, u8 c, u8 0, u8 0] ++ put32 [r] ++ l)) / 256), u8 (65535 - onesF ([u8 t, u8 c, u8 0, u8 0] ++ put32 [r] ++ l))] ++ (put32 [r] ++ l)) 4 = r := g
  rw [g']
  simp only [List.cons_append, List.nil_append, List.getD_cons_zero, List.getD_cons_succ, List.drop_succ_cons, List.drop_zero, put32, h2, h3]
  rw [show t % 256 = t by omega, show c % 256 = c by omega]
end Go.Proofs.Ythjojkkapboonaa
