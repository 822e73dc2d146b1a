/- ref01.Put in the words of what is known of a value. -/
import Derived.Test.YthjojkkapboonaaI
import Derived.Test.YthjojkkapboonaaCC
namespace Go.Proofs.Ythjojkkapboonaa
set_option linter.unusedSimpArgs false
set_option linter.unusedVariables false
open Go.RowKit
theorem refPut_a (n : Int) (size : Nat) (hn : 0 ≤ n ∧ n ≤ 4294967295) (hs : size ≤ 1000) : ASpec Try.prog 92 [u32A n, i64 size] (.bs (lowB size n)) := by
  refine .mk (okF _ Try.func92 (by kernel_rfl) rfl) fun M w vs hM h => ?_
  obtain ⟨_, vs, rfl, h1, h⟩ := h.cons_iff
  obtain ⟨_, vs, rfl, h2, h⟩ := h.cons_iff
  obtain rfl := h.nil_iff
  rw [RepV.one_iff] at h1 h2
  subst h1 h2
  refine (refPut_any n size w hn hs).mono ?_
  rintro e w' ⟨v', rfl, ho, g⟩
  exact ⟨_, rfl, RepV.ofOwn ho hM, g⟩
end Go.Proofs.Ythjojkkapboonaa
