/- The plain law of frag: the pieces of a packet's pieces, in any order, some twice, are that packet. -/
import Derived.Test.YthjojkkapboonaaFC
import Derived.Test.YthjojkkapboonaaFH
namespace Go.Proofs.Ythjojkkapboonaa
set_option linter.unusedSimpArgs false
set_option linter.unusedVariables false
open Go.RowKit

/-- y is the piece of x from byte c to byte d. -/
structure SubP (x y : PktN) (c d : Nat) : Prop where
  eq : y = { x with off := x.off + ((c / 8 : Nat) : Int), mf := x.mf || decide (d < x.data.length), data := (x.data.drop c).take (d - c) }
  c8 : c % 8 = 0
  cd : c ≤ d
  dl : d ≤ x.data.length
  d8 : d < x.data.length → d % 8 = 0
  ne : x.data.length = 0 ∨ c < d
theorem SubP.len {x y : PktN} {c d : Nat} (h : SubP x y c d) : y.data.length = d - c := by
  have := h.cd
  have := h.dl
  rw [h.eq]
  simp
  omega
theorem SubP.trans {p x y : PktN} {a b c d : Nat} (h : SubP p x a b) (g : SubP x y c d) : SubP p y (a + c) (a + d) := by
  have hl := h.len
  have g1 := g.dl
  have g2 := g.d8
  have g3 := g.ne
  rw [hl] at g1 g2 g3
  have h1 := h.cd
  have h2 := h.dl
  have h3 := h.d8
  have h4 := h.ne
  have h5 := h.c8
  have g5 := g.c8
  have g6 := g.cd
  refine ⟨?_, by omega, by omega, by omega, fun e => ?_, ?_⟩
  · rw [g.eq, hl, h.eq]
    simp only [PktN.mk.injEq, true_and, and_true]
    refine ⟨?_, ?_, ?_⟩
    · rw [Bool.or_assoc]
      congr 1
      rw [Bool.eq_iff_iff, Bool.or_eq_true, decide_eq_true_eq, decide_eq_true_eq, decide_eq_true_eq]
      omega
    · omega
    · rw [List.drop_take, List.drop_drop, List.take_take]
      congr 1
      omega
  · by_cases e2 : d < b - a
    · have := g2 e2; omega
    · have := h3 (by omega); omega
  · omega
/-- The pieces l are those of x: each is one, and each byte is in one. -/
structure Subs (x : PktN) (l : List PktN) : Prop where
  all : ∀ y ∈ l, ∃ c d, SubP x y c d
  cov : ∀ j, j < x.data.length → ∃ y ∈ l, ∃ c d, SubP x y c d ∧ c ≤ j ∧ j < d
  some : ∃ y, y ∈ l
theorem pieceAt_sub (x : PktN) (M k : Nat) (hM : M % 8 = 0) (h0 : 0 < M) (hk : k % 8 = 0) (h : k < x.data.length) : SubP x (pieceAt x M k) k (k + min M (x.data.length - k)) := by
  refine ⟨?_, hk, by omega, by omega, fun e => by omega, .inr (by omega)⟩
  rw [pieceAt]
  simp only [PktN.mk.injEq, true_and]
  refine ⟨?_, ?_⟩
  · congr 2
    apply propext
    omega
  · rw [show k + min M (x.data.length - k) - k = min M (x.data.length - k) by omega, ← List.length_drop, ← List.take_eq_take_min]
theorem splL_ok (x : PktN) (M : Nat) (hM : M % 8 = 0) (h0 : 0 < M) : ∀ (f k : Nat) (acc : List PktN), k % 8 = 0 → x.data.length ≤ k + f → (∀ y ∈ acc, ∃ c d, SubP x y c d) → (∀ j, j < k → j < x.data.length → ∃ y ∈ acc, ∃ c d, SubP x y c d ∧ c ≤ j ∧ j < d) →
    (splL x M f k acc).2 = 0 → (∀ y ∈ (splL x M f k acc).1, ∃ c d, SubP x y c d) ∧ ∀ j, j < x.data.length → ∃ y ∈ (splL x M f k acc).1, ∃ c d, SubP x y c d ∧ c ≤ j ∧ j < d
  | 0, k, acc, hk, hf, h1, h2, he => ⟨h1, fun j hj => h2 j (by omega) hj⟩
  | f + 1, k, acc, hk, hf, h1, h2, he => by
    rw [splL] at he ⊢
    by_cases hd : x.data.length ≤ k
    · rw [if_pos hd]
      exact ⟨h1, fun j hj => h2 j (by omega) hj⟩
    · rw [if_neg hd] at he ⊢
      by_cases hb : 8192 ≤ x.off + ((k / 8 : Nat) : Int)
      · rw [if_pos hb] at he
        simp at he
      · rw [if_neg hb] at he ⊢
        have hs := pieceAt_sub x M k hM h0 hk (by omega)
        refine splL_ok x M hM h0 f (k + M) (acc ++ [pieceAt x M k]) (by omega) (by omega) ?_ ?_ he
        · intro y hy
          rcases List.mem_append.1 hy with hy | hy
          · exact h1 y hy
          · rw [List.mem_singleton.1 hy]; exact ⟨_, _, hs⟩
        · intro j hj hjl
          by_cases hjk : j < k
          · obtain ⟨y, hy, r⟩ := h2 j hjk hjl
            exact ⟨y, List.mem_append_left _ hy, r⟩
          · exact ⟨_, List.mem_append_right _ (List.mem_singleton.2 rfl), _, _, hs, by omega, by omega⟩
theorem SubP.self (x : PktN) : SubP x x 0 x.data.length := by
  refine ⟨?_, by omega, by omega, by omega, fun e => by omega, by omega⟩
  obtain ⟨a, b, c, d, e, f, g, h, i, j, k⟩ := x
  simp
theorem Subs.self (x : PktN) : Subs x [x] where
  all := fun y hy => by rw [List.mem_singleton.1 hy]; exact ⟨_, _, SubP.self x⟩
  cov := fun j hj => ⟨x, List.mem_singleton.2 rfl, _, _, SubP.self x, by omega, hj⟩
  some := ⟨x, List.mem_singleton.2 rfl⟩
theorem splitP_subs (x : PktN) (m : Int) (he : (splitP x m).2 = 0) : Subs x (splitP x m).1 ∧ pktMay x = true := by
  rw [splitP] at he ⊢
  cases hm : pktMay x
  · rw [hm, if_pos rfl] at he
    simp at he
  · rw [hm, if_neg (by simp)] at he
    rw [if_neg (by simp)]
    by_cases h1 : 20 + (x.opts.length : Int) + x.data.length ≤ m
    · rw [if_pos h1]
      exact ⟨Subs.self x, rfl⟩
    · rw [if_neg h1] at he ⊢
      by_cases h2 : m < 28 + (x.opts.length : Int)
      · rw [if_pos h2] at he
        simp at he
      · rw [if_neg h2] at he ⊢
        by_cases h3 : x.df = true
        · rw [if_pos h3] at he
          simp at he
        · rw [if_neg h3] at he ⊢
          have hM : mostOf x m % 8 = 0 := by unfold mostOf; omega
          have hM0 : 0 < mostOf x m := by unfold mostOf; omega
          obtain ⟨g1, g2⟩ := splL_ok x (mostOf x m) hM hM0 x.data.length 0 [] (by omega) (by omega) (fun y hy => by simp at hy) (fun j hj => by omega) he
          refine ⟨⟨g1, g2, ?_⟩, rfl⟩
          obtain ⟨y, hy, _⟩ := g2 0 (by omega)
          exact ⟨y, hy⟩
/-- What becomes of each piece by one bound more. -/
def again (m : Int) (x : PktN) : List PktN := if (splitP x m).2 = 0 then (splitP x m).1 else [x]
theorem again_subs (m : Int) (x : PktN) : Subs x (again m x) := by
  unfold again
  split
  · rename_i h
    exact (splitP_subs x m h).1
  · exact Subs.self x
theorem Subs.flat {p : PktN} {l : List PktN} (h : Subs p l) (f : PktN → List PktN) (hf : ∀ x, Subs x (f x)) : Subs p (l.flatMap f) where
  all := fun y hy => by
    obtain ⟨x, hx, hy⟩ := List.mem_flatMap.1 hy
    obtain ⟨a, b, h1⟩ := h.all x hx
    obtain ⟨c, d, h2⟩ := (hf x).all y hy
    exact ⟨_, _, h1.trans h2⟩
  cov := fun j hj => by
    obtain ⟨x, hx, a, b, h1, h2, h3⟩ := h.cov j hj
    obtain ⟨y, hy, c, d, g1, g2, g3⟩ := (hf x).cov (j - a) (by rw [h1.len]; omega)
    exact ⟨y, List.mem_flatMap.2 ⟨x, hx, hy⟩, _, _, h1.trans g1, by omega, by omega⟩
  some := by
    obtain ⟨x, hx⟩ := h.some
    obtain ⟨y, hy⟩ := (hf x).some
    exact ⟨y, List.mem_flatMap.2 ⟨x, hx, hy⟩⟩
theorem Subs.congr {p : PktN} {l m : List PktN} (h : Subs p l) (hlm : ∀ x, x ∈ m ↔ x ∈ l) : Subs p m where
  all := fun y hy => h.all y ((hlm y).1 hy)
  cov := fun j hj => by
    obtain ⟨y, hy, r⟩ := h.cov j hj
    exact ⟨y, (hlm y).2 hy, r⟩
  some := by
    obtain ⟨y, hy⟩ := h.some
    exact ⟨y, (hlm y).2 hy⟩
theorem SubP.toP {p x : PktN} {a b : Nat} (h : SubP p x a b) (h0 : p.off = 0) : toP x = b := by
  have h1 := h.len
  have h2 := h.c8
  have h3 := h.cd
  have h4 : x.off = ((a / 8 : Nat) : Int) := by rw [h.eq]; simp [h0]
  unfold Proofs.Ythjojkkapboonaa.toP
  rw [h1, h4]
  omega
theorem lastF_same (n : Int) (hn : 0 ≤ n) : ∀ (l : List PktN) (out : Int), (out = -1 ∨ out = n) → (∀ x ∈ l, x.mf = false → toP x = n) → (out = n ∨ ∃ x ∈ l, x.mf = false) → lastF l out = some n
  | [], out, _, _, h => by
    rcases h with h | ⟨x, hx, _⟩
    · rw [lastF, h]
    · simp at hx
  | x :: l, out, ho, hx, h => by
    rw [lastF]
    cases hm : x.mf
    · rw [if_neg (by simp)]
      have ht := hx x (by simp) hm
      rw [if_neg (by rw [ht]; omega), ht]
      exact lastF_same n hn l n (.inr rfl) (fun y hy => hx y (List.mem_cons_of_mem _ hy)) (.inl rfl)
    · rw [if_pos rfl]
      refine lastF_same n hn l out ho (fun y hy => hx y (List.mem_cons_of_mem _ hy)) ?_
      rcases h with h | ⟨y, hy, h⟩
      · exact .inl h
      · rcases List.mem_cons.1 hy with rfl | hy
        · rw [hm] at h; simp at h
        · exact .inr ⟨y, hy, h⟩
theorem byteAt_sub {p x : PktN} {a b : Nat} (h : SubP p x a b) (h0 : p.off = 0) (j : Nat) : byteAt x j = if a ≤ j ∧ j < b then p.data[j]? else none := by
  have h1 := h.c8
  have h4 : x.off.toNat * 8 = a := by
    have : x.off = ((a / 8 : Nat) : Int) := by rw [h.eq]; simp [h0]
    rw [this]; omega
  have h5 : x.data = (p.data.drop a).take (b - a) := by rw [h.eq]
  rw [byteAt, h4, h5]
  by_cases h2 : a ≤ j
  · rw [if_pos h2, List.getElem?_take]
    by_cases h3 : j < b
    · rw [if_pos (by omega), if_pos ⟨h2, h3⟩, List.getElem?_drop, show a + (j - a) = j by omega]
    · rw [if_neg (by omega), if_neg (by omega)]
  · rw [if_neg h2, if_neg (by omega)]
theorem joinP_back (p : PktN) (L : List PktN) (hs : Subs p L) (h0 : p.off = 0) (h1 : p.mf = false) (hm : pktMay p = true) : joinP L = (p, 0) := by
  obtain ⟨z, hz⟩ := hs.some
  have hL : ¬ L.length = 0 := fun e => by rw [List.length_eq_zero_iff.1 e] at hz; simp at hz
  have hlike : ∀ x ∈ L, ∀ y ∈ L, likeB x y = true := by
    intro x hx y hy
    obtain ⟨_, _, e1⟩ := hs.all x hx
    obtain ⟨_, _, e2⟩ := hs.all y hy
    rw [e1.eq, e2.eq]
    simp [likeB]
  have hany : L.any (fun x => !likeB x (L.getD 0 pktZ)) = false := by
    rw [List.any_eq_false]
    intro x hx
    have hq : L.getD 0 pktZ ∈ L := by
      have : 0 < L.length := by omega
      simp [List.getD, this]
    rw [hlike x hx _ hq]
    simp
  have hmf : ∀ {x a b}, SubP p x a b → x.mf = decide (b < p.data.length) := fun h => by rw [h.eq]; simp [h1]
  have hbad : L.any badM = false := by
    rw [List.any_eq_false]
    intro x hx
    obtain ⟨a, b, e⟩ := hs.all x hx
    have e1 := e.len
    have e2 := e.d8
    have e3 := e.ne
    have e4 := e.c8
    rw [badM, hmf e]
    simp only [Bool.and_eq_true, Bool.or_eq_true, decide_eq_true_eq, not_and, not_or]
    intro e5
    have := e2 e5
    omega
  have hend : ∃ x ∈ L, x.mf = false := by
    by_cases hn : p.data.length = 0
    · obtain ⟨a, b, e⟩ := hs.all z hz
      exact ⟨z, hz, by rw [hmf e]; exact decide_eq_false (by omega)⟩
    · obtain ⟨x, hx, a, b, e, e1, e2⟩ := hs.cov (p.data.length - 1) (by omega)
      exact ⟨x, hx, by rw [hmf e]; exact decide_eq_false (by omega)⟩
  have hlast : lastF L (-1) = some (p.data.length : Int) := by
    refine lastF_same _ (by omega) L (-1) (.inl rfl) ?_ (.inr hend)
    intro x hx h
    obtain ⟨a, b, e⟩ := hs.all x hx
    rw [hmf e, decide_eq_false_iff_not] at h
    have := e.dl
    rw [e.toP h0]
    omega
  have hover : L.any (fun x => decide (0 ≤ (p.data.length : Int) ∧ (p.data.length : Int) < toP x)) = false := by
    rw [List.any_eq_false]
    intro x hx
    obtain ⟨a, b, e⟩ := hs.all x hx
    have := e.dl
    rw [e.toP h0]
    simp only [decide_eq_true_eq]
    omega
  have hE : endP L = ((p.data.length : Int), 0) := by rw [endP, hbad, if_neg (by simp), hlast]; simp only [hover]; rw [if_neg (by simp), if_neg (by omega)]
  have hcov : ∀ j, j < p.data.length → cov L j = p.data[j]? := by
    intro j hj
    have hsome : (cov L j).isSome = true := by
      obtain ⟨x, hx, a, b, e, e1, e2⟩ := hs.cov j hj
      rw [cov, List.findSome?_isSome_iff]
      exact ⟨x, hx, by rw [byteAt_sub e h0, if_pos ⟨e1, e2⟩]; simp [hj]⟩
    obtain ⟨v, hv⟩ := Option.isSome_iff_exists.1 hsome
    rw [hv]
    obtain ⟨x, hx, hb⟩ := List.exists_of_findSome?_eq_some hv
    obtain ⟨a, b, e⟩ := hs.all x hx
    rw [byteAt_sub e h0] at hb
    split at hb
    · exact hb.symm
    · simp at hb
  have hcnt : cnt p.data.length (cov L) = 0 := (cnt_zero _ _).2 fun j hj => by rw [hcov j hj]; simp [hj]
  have hlst : lst p.data.length (cov L) = p.data := by
    apply List.ext_getElem
    · rw [lst_len]
    · intro j h2 h3
      simp only [lst, List.getElem_map, List.getElem_range]
      rw [hcov j h3, List.getElem?_eq_getElem h3]
      rfl
  have hfirst : ∃ x ∈ L, x.off = 0 := by
    by_cases hn : p.data.length = 0
    · obtain ⟨a, b, e⟩ := hs.all z hz
      have := e.cd
      have := e.dl
      refine ⟨z, hz, ?_⟩
      rw [e.eq]
      simp only [h0]
      omega
    · obtain ⟨x, hx, a, b, e, e1, e2⟩ := hs.cov 0 (by omega)
      refine ⟨x, hx, ?_⟩
      rw [e.eq]
      simp only [h0]
      omega
  rw [joinP, if_neg hL, hany, if_neg (by simp), hE]
  simp only [if_true, Int.toNat_natCast]
  rw [joinN, if_pos hcnt, hlst]
  cases hf : L.find? off0 with
  | none =>
    obtain ⟨x, hx, h⟩ := hfirst
    have := List.find?_eq_none.1 hf x hx
    simp [off0, h] at this
  | some x =>
    have hx := List.mem_of_find?_eq_some hf
    obtain ⟨a, b, e⟩ := hs.all x hx
    have hj : joinR x p.data = p := by
      rw [e.eq]
      obtain ⟨q0, q1, q2, q3, q4, q5, q6, q7, q8, q9, q10⟩ := p
      simp only at h0 h1
      rw [joinR, h0, h1]
    simp only [hj, hm, if_true]
end Go.Proofs.Ythjojkkapboonaa
