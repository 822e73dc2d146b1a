/- pcap: plain laws of files; few, same, lives. -/
import Derived.Test.YthjojkkapboonaaPE
namespace Go.Proofs.Ythjojkkapboonaa
set_option linter.unusedSimpArgs false
set_option linter.unusedVariables false
open Go.RowKit

theorem recsP_back : ∀ (f : Nat) (b : List UInt8), b.length ≤ f → (recsP f b).2 = 0 → b = bodyB (recsP f b).1 ∧ ∀ r ∈ (recsP f b).1, r.ok ∧ okR r = true
  | 0, b, hf, _ => by
    have : b = [] := List.length_eq_zero_iff.1 (by omega)
    subst this
    exact ⟨rfl, fun r hr => by simp [recsP] at hr⟩
  | f + 1, b, hf, h => by
    simp only [recsP] at h ⊢
    split
    · rename_i h0
      rw [List.length_eq_zero_iff.1 h0]
      exact ⟨rfl, fun r hr => by simp at hr⟩
    · rename_i h0
      rw [if_neg h0] at h
      split
      · rename_i h1
        rw [if_pos h1] at h
        exact absurd h h1
      · rename_i h1
        rw [if_neg h1] at h
        have he : (oneP b).2.2 = 0 := Classical.byContradiction h1
        obtain ⟨g1, g2, g3, g4⟩ := oneP_rest b he
        split
        · rename_i h2
          rw [if_pos h2] at h
          exact absurd h h2
        · rename_i h2
          have he2 : (recsP f (oneP b).2.1).2 = 0 := Classical.byContradiction h2
          obtain ⟨k1, k2⟩ := recsP_back f (oneP b).2.1 (by omega) he2
          refine ⟨?_, fun r hr => ?_⟩
          · simp only [bodyB, List.flatMap_cons]
            rw [bodyB] at k1
            rw [← k1]
            exact g4
          · rcases List.mem_cons.1 hr with hr | hr
            · rw [hr]; exact ⟨g2, g3⟩
            · exact k2 r hr
theorem parseP_back (b : List UInt8) (h : (parseP b).2 = 0) : b = topP ++ bodyB (parseP b).1 ∧ ∀ r ∈ (parseP b).1, r.ok ∧ okR r = true := by
  unfold parseP at h ⊢
  split at h
  · cases h
  split at h
  · cases h
  rename_i h1 h2
  rw [if_neg h1, if_neg h2]
  obtain ⟨k1, k2⟩ := recsP_back b.length (b.drop 24) (by simp) h
  refine ⟨?_, k2⟩
  rw [← k1]
  have h2 : b.take 24 = topP := Classical.byContradiction h2
  rw [← h2, List.take_append_drop]
theorem le4N_low4 (a t : List UInt8) (n : Int) (k : Nat) (hk : k = a.length) (hn : 0 ≤ n ∧ n ≤ 4294967295) : le4N (a ++ (low4 n ++ t)) k = n := by
  subst hk
  have g : ∀ j, (a ++ (low4 n ++ t)).getD (a.length + j) 0 = (low4 n ++ t).getD j 0 := fun j => by simp [List.getD, List.getElem?_append_right]
  unfold le4N bN
  rw [show a.length = a.length + 0 from rfl, g 0, show a.length + 0 + 1 = a.length + 1 from rfl, show a.length + 0 + 2 = a.length + 2 from rfl, show a.length + 0 + 3 = a.length + 3 from rfl, g 1, g 2, g 3]
  simp only [low4, List.cons_append, List.getD_cons_zero, List.getD_cons_succ]
  rw [u8_toNat, u8_toNat, u8_toNat, u8_toNat]
  omega
theorem oneP_one (r : RecN) (t : List UInt8) (hr : r.ok) (hk : okR r = true) : oneP (oneB r ++ t) = (r, t, 0) := by
  simp only [okR, Bool.and_eq_true, decide_eq_true_eq] at hk
  obtain ⟨k1, k2⟩ := hk
  have hl : (oneB r ++ t).length = 16 + r.data.length + t.length := by rw [List.length_append, oneB_len]
  have e : oneB r ++ t = low4 r.sec ++ (low4 r.usec ++ (low4 r.data.length ++ (low4 r.data.length ++ (r.data ++ t)))) := by simp [oneB]
  have e0 : le4N (oneB r ++ t) 0 = r.sec := by rw [e]; exact le4N_low4 [] _ _ 0 rfl hr.sec
  have e4 : le4N (oneB r ++ t) 4 = r.usec := by rw [e]; exact le4N_low4 (low4 r.sec) _ _ 4 rfl hr.usec
  have e8 : le4N (oneB r ++ t) 8 = (r.data.length : Int) := by
    have := le4N_low4 (low4 r.sec ++ low4 r.usec) (low4 r.data.length ++ (r.data ++ t)) r.data.length 8 rfl (by omega)
    rw [List.append_assoc] at this
    rw [e]; exact this
  have e12 : le4N (oneB r ++ t) 12 = (r.data.length : Int) := by
    have := le4N_low4 (low4 r.sec ++ (low4 r.usec ++ low4 r.data.length)) (r.data ++ t) r.data.length 12 rfl (by omega)
    rw [List.append_assoc, List.append_assoc] at this
    rw [e]; exact this
  have d16 : (oneB r ++ t).drop 16 = r.data ++ t := by
    have : oneB r ++ t = (low4 r.sec ++ (low4 r.usec ++ (low4 r.data.length ++ low4 r.data.length))) ++ (r.data ++ t) := by rw [e]; simp only [List.append_assoc]
    rw [this, List.drop_left' (by simp [low4_len])]
  have dn : (oneB r ++ t).drop (16 + r.data.length) = t := by
    rw [← List.drop_drop, d16, List.drop_left]
  rw [oneP, if_neg (by omega), e0, e4, e8, e12, if_neg (by omega), if_neg (by omega), Int.toNat_natCast, d16, List.take_left, dn]
theorem recsP_body : ∀ (l : List RecN) (f : Nat), (bodyB l).length ≤ f → (∀ r ∈ l, r.ok ∧ okR r = true) → recsP f (bodyB l) = (l, 0)
  | [], f, _, _ => by cases f <;> simp [recsP, bodyB]
  | r :: l, f, hf, h => by
    have e : bodyB (r :: l) = oneB r ++ bodyB l := by simp [bodyB]
    have hl := oneB_len r
    rw [e, List.length_append] at hf
    obtain ⟨f, rfl⟩ : ∃ g, f = g + 1 := ⟨f - 1, by omega⟩
    have h1 := h r (by simp)
    have ih := recsP_body l f (by omega) (fun z hz => h z (by simp [hz]))
    rw [e, recsP, oneP_one r _ h1.1 h1.2, if_neg (by rw [List.length_append]; omega)]
    simp [ih]
theorem parseP_put (l : List RecN) (h : ∀ r ∈ l, r.ok ∧ okR r = true) : parseP (topP ++ bodyB l) = (l, 0) := by
  have htl : topP.length = 24 := by decide
  rw [parseP, if_neg (by rw [List.length_append]; omega), List.take_left' htl, if_neg (by simp), List.drop_left' htl]
  exact recsP_body l _ (by simp) h
theorem parseP_len (b : List UInt8) : (parseP b).1.length * 16 ≤ b.length := by
  have key : ∀ (f : Nat) (b : List UInt8), (recsP f b).1.length * 16 ≤ b.length := by
    intro f
    induction f with
    | zero => intro b; simp [recsP]
    | succ f ih =>
      intro b
      simp only [recsP]
      split
      · simp
      · split
        · simp
        · split
          · simp
          · rename_i h1 h2 h3
            have := oneP_rest b (Classical.byContradiction h2)
            have := ih (oneP b).2.1
            simp
            omega
  unfold parseP
  split
  · simp
  split
  · simp
  have := key b.length (b.drop 24)
  simp at this
  omega
/-- A record of few bytes. -/
def cutR (r : RecN) : RecN := { r with data := r.data.take 100 }
def fewR (l : List RecN) : List RecN := (l.take 20).map cutR
theorem fewR_ok (l : List RecN) (h : ∀ r ∈ l, r.ok) : ∀ r ∈ fewR l, r.ok := by
  intro r hr
  obtain ⟨z, hz, rfl⟩ := List.mem_map.1 hr
  exact ⟨(h z (List.mem_of_mem_take hz)).sec, (h z (List.mem_of_mem_take hz)).usec⟩
theorem cut_body (l : List RecN) : (bodyB (l.map cutR)).length ≤ l.length * 116 := by
  induction l with
  | nil => simp [bodyB]
  | cons r l ih =>
    have := oneB_len (cutR r)
    have hd : (cutR r).data.length ≤ 100 := by simp [cutR]; omega
    simp only [bodyB, List.map_cons, List.flatMap_cons, List.length_append, List.length_cons] at ih ⊢
    omega
theorem fewR_body (l : List RecN) : (bodyB (fewR l)).length ≤ 2320 := by
  have := cut_body (l.take 20)
  have : (l.take 20).length ≤ 20 := by simp; omega
  unfold fewR
  omega
theorem fewR_len (l : List RecN) : (fewR l).length ≤ 20 := by simp [fewR]; omega
end Go.Proofs.Ythjojkkapboonaa
