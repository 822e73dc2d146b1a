/- The statements of tcp: their own texts. -/
import Derived.Test.YthjojkkapboonaaTC
namespace Go.Proofs.Ythjojkkapboonaa
set_option linter.unusedSimpArgs false
set_option linter.unusedVariables false
open Go.RowKit

theorem tcpParse_B (src dst : Int) (s : SegN) (hs : s.ok) (hm : segMay s = true) (h1 : 0 ≤ src ∧ src ≤ 4294967295) (h2 : 0 ≤ dst ∧ dst ≤ 4294967295) :
    ASpec Try.prog 82 [u32A src, u32A dst, .bs (tcpB src dst s)] (.tup [segA s, i64 0]) := by
  have hm' := hm
  simp only [segMay, Bool.and_eq_true, decide_eq_true_eq] at hm'
  have hl : (tcpB src dst s).length = 20 + s.opts.length + s.data.length := segB_len _ _
  have := tcpParse_a src dst (tcpB src dst s) h1 h2 (by omega)
  rw [tcpP_B src dst s hs hm] at this
  exact this
theorem tcpP_e (src dst : Int) (b : List UInt8) : IntKind.i64.wrap (tcpP src dst b).2 = (tcpP src dst b).2 := by
  unfold tcpP
  split
  · rfl
  · split
    · rfl
    · split
      · rfl
      · split <;> rfl
def segL9 : SegN := ⟨3, 4, 5, 6, 0, 2, 65535, 0, [], []⟩
theorem segL9_ok : segL9.ok := by constructor <;> simp [segL9]





































































def segZ (n : Nat) : SegN := ⟨0, 0, 0, 0, 0, 0, 0, 0, [], List.replicate n 0⟩
theorem segZ_ok (n : Nat) : (segZ n).ok := by constructor <;> simp [segZ]
def head80 : List UInt8 := [u8 0, u8 0, u8 0, u8 0, u8 0, u8 0, u8 0, u8 0, u8 0, u8 0, u8 0, u8 0, u8 80, u8 0, u8 0, u8 0, u8 0, u8 0, u8 0, u8 0]




































end Go.Proofs.Ythjojkkapboonaa
