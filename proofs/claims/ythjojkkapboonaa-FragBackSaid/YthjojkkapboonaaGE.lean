/- Rows of packets, and of numbers, as they are handed over. -/
import Derived.Test.YthjojkkapboonaaGA
import Derived.Test.YthjojkkapboonaaFB
namespace Go.Proofs.Ythjojkkapboonaa
set_option linter.unusedSimpArgs false
set_option linter.unusedVariables false
open Go.ChangeShapes Go.WideShapes Go.ChangeAt Go.RowKit

theorem rowsE_rep {α : Type} {W : World} {k : Nat} (L : α → List AV) (good : α → Prop) {b o : Nat} : ∀ (len : Nat), (∀ i, i < len → ∃ ds x, ds.length = k ∧ (∀ j, j < k → W.cell? ⟨b, o + (i * k + j), none⟩ = some (ds.getD j undef)) ∧ good x ∧ RepL M0 W (L x) ds) →
    ∃ (l : List α) (us : List Value), l.length = len ∧ us.length = len * k ∧ (∀ x ∈ l, good x) ∧ (∀ i, i < us.length → W.cell? ⟨b, o + i, none⟩ = some (us.getD i undef)) ∧ RepL M0 W (l.flatMap L) us
  | 0, _ => ⟨[], [], rfl, by simp, fun x hx => by simp at hx, fun i hi => by simp at hi, RepL.nil⟩
  | len + 1, h => by
    obtain ⟨l, us, h1, h2, h3, h4, h5⟩ := rowsE_rep L good len (fun i hi => h i (by omega))
    obtain ⟨ds, x, g1, g2, g3, g4⟩ := h len (by omega)
    refine ⟨l ++ [x], us ++ ds, by simp [h1], by simp [h2, g1, Nat.add_mul], fun y hy => ?_, fun i hi => ?_, ?_⟩
    · rcases List.mem_append.1 hy with hy | hy
      · exact h3 y hy
      · rw [List.mem_singleton.1 hy]; exact g3
    · rw [List.length_append] at hi
      by_cases hlt : i < us.length
      · rw [h4 i hlt]
        simp [List.getD, List.getElem?_append_left hlt]
      · have hj : i - us.length < k := by omega
        have := g2 (i - us.length) hj
        rw [show o + (len * k + (i - us.length)) = o + i by omega] at this
        rw [this]
        simp [List.getD, List.getElem?_append_right (Nat.le_of_not_lt hlt)]
    · rw [List.flatMap_append]
      exact RepL.append h5 (by simpa using g4)
theorem Arg.rowsE {P : Program} {W : World} {t e : TypeId} {k : Nat} {v : Value} {α : Type} (L : α → List AV) (good : α → Prop) (ht : P.underlying t = some (.slice e)) (hk : P.cellsOf e = k) (h0 : 0 < k)
    (ho : ∀ ds, RdC P W e ds → ds.length = k → ∃ x, good x ∧ RepL M0 W (L x) ds) (h : Arg P W t v) : ∃ l : List α, (∀ x ∈ l, good x) ∧ l.length ≤ maxLen ∧ RepV M0 W (.sl k (l.flatMap L)) v := by
  obtain ⟨⟨base, h1⟩, H, enc, fuel, x, hx⟩ := h
  obtain ⟨p, len, cap, rfl⟩ := okWide_slice ht h1
  rcases DataW.trod_slice ht hx with ⟨h2, _⟩ | ⟨a, len', cap', elems, rest, n, _, h2, rfl, _, hl, hm, hlen, hel, _, _⟩
  · simp [Value.cells] at h2
    obtain ⟨rfl, rfl, rfl⟩ := h2
    exact ⟨[], by simp, by simp, RepV.nilS k⟩
  · simp [Value.cells] at h2
    obtain ⟨rfl, rfl, rfl⟩ := h2
    have each : ∀ i, i < len → ∃ ds, W.cells? 0 (a.add (i * P.cellsOf e)) (P.cellsOf e) = some ds ∧ RdC P W e ds := by
      intro i hi
      have := hel i hi
      rw [List.getElem?_eq_getElem (by omega)] at this
      obtain ⟨ds, h3, h4⟩ := Option.bind_eq_some_iff.1 this
      exact ⟨ds, h3, H, enc, n, _, h4⟩
    rw [hk] at each
    by_cases hz : len = 0
    · subst hz
      refine ⟨[], by simp, by simp, ?_⟩
      simp only [RepV]
      exact ⟨[], ⟨_, 0, cap, rfl, by simp, hl, hm, fun h => by simp at h, fun h => absurd h (by simp)⟩, RepL.nil⟩
    · obtain ⟨b, o, s⟩ := a
      have hs : s = none := by
        obtain ⟨ds, h3, _⟩ := each 0 (by omega)
        have := (World.cells?_some h3).2.2 0 h0
        simp only [Nat.zero_mul] at this
        have hd : ∃ z, ds[0]? = some z := ⟨ds[0]'(by have := (World.cells?_some h3).2.1; omega), List.getElem?_eq_getElem _⟩
        obtain ⟨z, hz⟩ := hd
        rw [hz] at this
        simpa [Addr.add] using World.cell?_spot this
      subst hs
      obtain ⟨l, us, g1, g2, g3, g4, g5⟩ := rowsE_rep (W := W) (k := k) (b := b) (o := o) L good len (fun i hi => by
        obtain ⟨ds, h3, h4⟩ := each i hi
        obtain ⟨q1, q2, q3⟩ := World.cells?_some h3
        obtain ⟨x, h5, h6⟩ := ho ds h4 q2
        refine ⟨ds, x, q2, fun j hj => ?_, h5, h6⟩
        have := q3 j hj
        rw [Go.WideShapes.add_plain, Go.WideShapes.add_plain] at this
        rw [show o + (i * k + j) = o + i * k + j by omega, this]
        simp [List.getD, List.getElem?_eq_getElem (show j < ds.length by omega)])
      refine ⟨l, g3, by omega, ?_⟩
      simp only [RepV]
      exact ⟨us, ⟨_, len, cap, rfl, g2, hl, hm, fun h => by simp at h, fun _ => ⟨b, o, rfl, fun h => h.elim, g4⟩⟩, g5⟩
set_option maxRecDepth 100000 in
theorem pktR {W : World} {cs : List Value} (hr : RdC Try.prog W 87 cs) (hl11 : cs.length = 11) : ∃ p : PktN, p.ok ∧ RepL M0 W (pktL p) cs := by
  obtain ⟨hl, hf⟩ := hr.struct Try.underlying87
  match cs, hl11 with
  | [c0, c1, c2, c3, c4, c5, c6, c7, c8, c9, c10], _ =>
    obtain ⟨x0, e0, w0⟩ := (show RdC Try.prog W 5 [c0] from hf 0 _ rfl).int Try.underlying5
    have b0 := Go.bounds_u8 w0
    obtain rfl : c0 = .int .u8 x0 := by simpa using e0
    obtain ⟨x1, e1, w1⟩ := (show RdC Try.prog W 23 [c1] from hf 1 _ rfl).int Try.underlying23
    have b1 := Go.bounds_u16 w1
    obtain rfl : c1 = .int .u16 x1 := by simpa using e1
    obtain ⟨x2, e2⟩ := (show RdC Try.prog W 4 [c2] from hf 2 _ rfl).bool Try.underlying4
    obtain rfl : c2 = .bool x2 := by simpa using e2
    obtain ⟨x3, e3⟩ := (show RdC Try.prog W 4 [c3] from hf 3 _ rfl).bool Try.underlying4
    obtain rfl : c3 = .bool x3 := by simpa using e3
    obtain ⟨x4, e4, w4⟩ := (show RdC Try.prog W 23 [c4] from hf 4 _ rfl).int Try.underlying23
    have b4 := Go.bounds_u16 w4
    obtain rfl : c4 = .int .u16 x4 := by simpa using e4
    obtain ⟨x5, e5, w5⟩ := (show RdC Try.prog W 5 [c5] from hf 5 _ rfl).int Try.underlying5
    have b5 := Go.bounds_u8 w5
    obtain rfl : c5 = .int .u8 x5 := by simpa using e5
    obtain ⟨x6, e6, w6⟩ := (show RdC Try.prog W 5 [c6] from hf 6 _ rfl).int Try.underlying5
    have b6 := Go.bounds_u8 w6
    obtain rfl : c6 = .int .u8 x6 := by simpa using e6
    obtain ⟨x7, e7, w7⟩ := (show RdC Try.prog W 22 [c7] from hf 7 _ rfl).int Try.underlying22
    have b7 := Go.bounds_u32 w7
    obtain rfl : c7 = .int .u32 x7 := by simpa using e7
    obtain ⟨x8, e8, w8⟩ := (show RdC Try.prog W 22 [c8] from hf 8 _ rfl).int Try.underlying22
    have b8 := Go.bounds_u32 w8
    obtain rfl : c8 = .int .u32 x8 := by simpa using e8
    obtain ⟨v9, x9, e9, w9⟩ := (show RdC Try.prog W 38 [c9] from hf 9 _ rfl).bytes Try.underlying38 Try.underlying5 (by kernel_rfl)
    obtain rfl : c9 = v9 := by simpa using e9
    obtain ⟨v10, x10, e10, w10⟩ := (show RdC Try.prog W 38 [c10] from hf 10 _ rfl).bytes Try.underlying38 Try.underlying5 (by kernel_rfl)
    obtain rfl : c10 = v10 := by simpa using e10
    exact ⟨⟨x0, x1, x2, x3, x4, x5, x6, x7, x8, x9, x10⟩, ⟨by omega, by omega, by omega, by omega, by omega, by omega, by omega⟩, RepL.cons repO (RepL.cons repO (RepL.cons repO (RepL.cons repO (RepL.cons repO (RepL.cons repO (RepL.cons repO (RepL.cons repO (RepL.cons repO (RepL.cons (repB w9) (RepL.cons (repB w10) RepL.nil))))))))))⟩
theorem Arg.pktsA {W : World} {v : Value} (h : Arg Try.prog W 84 v) : ∃ l : List PktN, (∀ p ∈ l, p.ok) ∧ l.length ≤ maxLen ∧ RepV M0 W (.sl 11 (pktsL l)) v :=
  Arg.rowsE pktL PktN.ok Try.underlying84 (by kernel_rfl) (by omega) (fun ds h1 h2 => pktR h1 h2) h
theorem intR {W : World} {cs : List Value} (hr : RdC Try.prog W 3 cs) (hl1 : cs.length = 1) : ∃ n : Int, I64ok n ∧ RepL M0 W [i64 n] cs := by
  match cs, hl1 with
  | [c0], _ =>
    obtain ⟨x0, e0, w0⟩ := hr.int Try.underlying3
    have b0 := Go.bounds_i64 w0
    obtain rfl : c0 = .int .i64 x0 := by simpa using e0
    exact ⟨x0, by omega, RepL.cons repO RepL.nil⟩
theorem Arg.intsA {W : World} {v : Value} (h : Arg Try.prog W 94 v) : ∃ l : List Int, (∀ n ∈ l, I64ok n) ∧ l.length ≤ maxLen ∧ RepV M0 W (.sl 1 (l.flatMap fun n => [i64 n])) v :=
  Arg.rowsE (fun n => [i64 n]) I64ok Try.underlying94 (by kernel_rfl) (by omega) (fun ds h1 h2 => intR h1 h2) h
end Go.Proofs.Ythjojkkapboonaa
