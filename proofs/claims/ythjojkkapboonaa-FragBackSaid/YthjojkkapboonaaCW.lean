/- octet's rows as new rows. -/
import Derived.Test.YthjojkkapboonaaCC
namespace Go.Proofs.Ythjojkkapboonaa
set_option linter.unusedSimpArgs false
set_option linter.unusedVariables false
open Go.RowKit

theorem ownW {M : Nat → Prop} {E : TypeId} {w w' : World} {v : Value} {l : List UInt8} (h : Own E w.heap.size w' v l) (g : Grow w w') : ∃ v' us len, Ending.returned v = .returned v' ∧ Grow w w' ∧ w'.ownsRow w.heap.size E 1 v' len us ∧ ∀ M' : Nat → Prop, (∀ x, M' x → M x ∨ v'.ownBlock = some x) → contA M' w' 1 us (.bs l) :=
  ⟨v, bytesV l, l.length, rfl, g, h, fun _ _ => ⟨rfl, rfl⟩⟩
theorem put16_w (l : List UInt8) (ns : List Int) (hb : l.length + 2 * ns.length ≤ 140737488355328) (hr : ∀ n ∈ ns, 0 ≤ n ∧ n ≤ 65535) : ASpecW Try.prog 58 [.bs l, .sl 1 (intsA .u16 ns)] 5 1 (.bs (l ++ put16 ns)) := by
  refine ⟨okF _ Try.func58 (by kernel_rfl) rfl, fun M w vs hM h => ?_⟩
  obtain ⟨v, vs, rfl, h1, h⟩ := h.cons_iff
  obtain ⟨v2, vs, rfl, h2, h⟩ := h.cons_iff
  obtain rfl := h.nil_iff
  refine (put16_any v l v2 ns w h1.isB h2.isI hb hr).mono ?_
  rintro e w' ⟨v', rfl, ho, g⟩
  exact ownW ho g
theorem put32_w (l : List UInt8) (ns : List Int) (hb : l.length + 4 * ns.length ≤ 140737488355328) (hr : ∀ n ∈ ns, 0 ≤ n ∧ n ≤ 4294967295) : ASpecW Try.prog 103 [.bs l, .sl 1 (intsA .u32 ns)] 5 1 (.bs (l ++ put32 ns)) := by
  refine ⟨okF _ Try.func103 (by kernel_rfl) rfl, fun M w vs hM h => ?_⟩
  obtain ⟨v, vs, rfl, h1, h⟩ := h.cons_iff
  obtain ⟨v2, vs, rfl, h2, h⟩ := h.cons_iff
  obtain rfl := h.nil_iff
  refine (put32_any v l v2 ns w h1.isB h2.isI hb hr).mono ?_
  rintro e w' ⟨v', rfl, ho, g⟩
  exact ownW ho g
theorem join_w (ls : List (List UInt8)) (hb : small ls.flatten) : ASpecW Try.prog 53 [.sl 1 (ls.map .bs)] 5 1 (.bs ls.flatten) := by
  refine ⟨okF _ Try.func53 (by kernel_rfl) rfl, fun M w vs hM h => ?_⟩
  obtain ⟨v, vs, rfl, h1, h⟩ := h.cons_iff
  obtain rfl := h.nil_iff
  refine (join_any v ls _ w h1.isBB rfl hb).mono ?_
  rintro e w' ⟨v', rfl, ho, g⟩
  exact ownW ho g
end Go.Proofs.Ythjojkkapboonaa
