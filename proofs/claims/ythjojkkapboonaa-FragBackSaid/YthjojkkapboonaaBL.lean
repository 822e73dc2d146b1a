/- A region that draws its order, whose head also makes blocks, anywhere in it: what is known in one order is known in every order. No program in sight. -/
import Derived.Test.YthjojkkapboonaaBH
namespace Go.Proofs.Ythjojkkapboonaa
set_option linter.unusedSimpArgs false
set_option linter.unusedVariables false
open Go.RowKit

section
variable {P : Program} {ops : Array Oper} {m : Nat} {a0 : Act} {w0 : World} {pre : List (List (Tmp × Option Nat))}

/-- Extracts that no operation behind the head need wait for. -/
def isExt : Option Oper → Bool
  | some ⟨_, .extract _ _, _, _, _, none⟩ => true
  | _ => false
def floatsOf (ops : Array Oper) (m : Nat) : List Nat := (List.range m).filter fun i => isExt ops[i]? && (List.range ops.size).any fun k => decide (m ≤ k) && !reachB ops ops.size k i
def waitsD (oj : Oper) (i : Nat) : Bool := oj.after.any fun e => Region.binds .any e && e.on == i
def gammaF (ops : Array Oper) (m : Nat) (pre : List (List (Tmp × Option Nat))) (n : Nat) : Bool :=
  preAllB ops 0 pre && (pre.length == m) && decide (m ≤ ops.size) &&
  ((List.range ops.size).all fun i => ((ops[i]?).map fun (o : Oper) => (decide (m ≤ i) || (match o.dst with | some d => decide (d < n) | none => false)) && o.after.toList.all fun e => !Region.binds .any e || decide (e.on < i)).getD false) &&
  ((List.range m).all fun i => (List.range m).all fun j => i == j || ((ops[i]?).map (·.dst) != (ops[j]?).map (·.dst))) &&
  ((List.range ops.size).all fun k => decide (k < m) || (((List.range m).all fun i => (floatsOf ops m).contains i || reachB ops ops.size k i) && (k == m || waitsB ops k (k - 1)))) &&
  Region.noSelect ops &&
  ((floatsOf ops m).all fun i => (List.range ops.size).all fun j => (!waitsB ops i j || !(floatsOf ops m).contains j) && (j == i || !((floatsOf ops m).contains j || decide (m ≤ j)) || match ops[i]?, ops[j]? with | some oi, some oj => waitsD oj i || oi.apart ops oj | _, _ => true))
theorem gammaF_parts {n : Nat} (hB : gammaF ops m pre n = true) :
    preAllB ops 0 pre = true ∧ pre.length = m ∧ m ≤ ops.size ∧
    (∀ (i : Nat) (o : Oper), ops[i]? = some o → (i < m → ∃ d, o.dst = some d ∧ d < n) ∧ ∀ e ∈ o.after, Region.binds .any e = true → e.on < i) ∧
    (∀ (i j : Nat) (oi oj : Oper) (d : Tmp), i < m → j < m → ops[i]? = some oi → ops[j]? = some oj → oi.dst = some d → oj.dst = some d → i = j) ∧
    (∀ k, m ≤ k → k < ops.size → (∀ i, i < m → (floatsOf ops m).contains i = false → reachB ops ops.size k i = true) ∧ (k = m ∨ waitsB ops k (k - 1) = true)) ∧
    Region.noSelect ops = true ∧
    (∀ (i j : Nat) (oi oj : Oper), (floatsOf ops m).contains i = true → ops[i]? = some oi → ops[j]? = some oj → (waitsB ops i j = true → (floatsOf ops m).contains j = false) ∧ (j ≠ i → ((floatsOf ops m).contains j = true ∨ m ≤ j) → waitsD oj i = true ∨ oi.apart ops oj = true)) := by
  simp only [gammaF, Bool.and_eq_true, beq_iff_eq, decide_eq_true_eq] at hB
  obtain ⟨⟨⟨⟨⟨⟨⟨h1, h2⟩, h3⟩, h4⟩, h5⟩, h6⟩, h7⟩, h8⟩ := hB
  refine ⟨h1, h2, h3, fun i o ho => ?_, fun i j oi oj d him hjm hi hj di dj => ?_, fun k hk hks => ?_, h7, fun i j oi oj hf hi hj => ?_⟩
  · have h := List.all_eq_true.1 h4 i (List.mem_range.2 (Array.getElem?_eq_some_iff.1 ho).1)
    rw [ho] at h
    simp only [Option.map_some, Option.getD_some, Bool.and_eq_true, Bool.or_eq_true, decide_eq_true_eq] at h
    obtain ⟨h7, h8⟩ := h
    refine ⟨fun him => ?_, fun e he hb => ?_⟩
    · rcases h7 with h7 | h7
      · omega
      · cases hd : o.dst with
        | none => rw [hd] at h7; cases h7
        | some d => rw [hd] at h7; exact ⟨d, rfl, by simpa using h7⟩
    · have := List.all_eq_true.1 h8 e (by simpa using he)
      simpa [hb] using this
  · have h := List.all_eq_true.1 (List.all_eq_true.1 h5 i (List.mem_range.2 him)) j (List.mem_range.2 hjm)
    rw [hi, hj] at h
    simpa [di, dj] using h
  · have h := List.all_eq_true.1 h6 k (List.mem_range.2 hks)
    simp only [Bool.or_eq_true, Bool.and_eq_true, decide_eq_true_eq, beq_iff_eq] at h
    rcases h with h | h
    · omega
    · refine ⟨fun i hi hno => ?_, h.2⟩
      have := List.all_eq_true.1 h.1 i (List.mem_range.2 hi)
      rw [hno] at this
      simpa using this
  · have hil := (Array.getElem?_eq_some_iff.1 hj).1
    have h := List.all_eq_true.1 (List.all_eq_true.1 h8 i (List.contains_iff_mem.1 hf)) j (List.mem_range.2 hil)
    rw [hi, hj] at h
    simp only [Bool.and_eq_true, Bool.or_eq_true, beq_iff_eq, Bool.not_eq_true', decide_eq_true_eq, Bool.or_eq_false_iff] at h
    obtain ⟨g1, g2⟩ := h
    refine ⟨fun hw => ?_, fun hne hor => ?_⟩
    · rcases g1 with g1 | g1
      · rw [hw] at g1; cases g1
      · exact g1
    · rcases g2 with (g2 | g2) | g2
      · exact absurd g2 hne
      · rcases hor with ho | ho
        · rw [ho] at g2; exact absurd g2.1 (by simp)
        · exact absurd g2.2 (by simpa using ho)
      · exact g2
theorem tail_anyF {n : Nat} {Q : Exit → Act → World → Prop} (hB : gammaF ops m pre n = true) : ∀ (f k : Nat) (listed : Array Bool) (a : Act) (w : World), ops.size = k + f → m ≤ k → listed.size = ops.size →
    (∀ j, j < k → listed[j]? = some true) → (∀ j, k ≤ j → listed[j]? ≠ some true) → wpList P ops Q (ops.toList.drop k) a w → wpAny P .any ops Q f listed a w := by
  obtain ⟨_, _, _, hback, _, htail, _⟩ := gammaF_parts hB
  intro f
  induction f with
  | zero =>
    intro k listed a w hs hk hls h1 h2 h
    have he : ops.toList.drop k = [] := by rw [List.drop_eq_nil_iff]; simp; omega
    rw [he] at h
    refine ⟨?_, h⟩
    apply List.eq_nil_iff_forall_not_mem.2
    intro i hi
    obtain ⟨h3, o, ho, _⟩ := mem_ready.1 hi
    rw [Array.getD_eq_getD_getElem?, h1 i (by have := (Array.getElem?_eq_some_iff.1 ho).1; omega)] at h3
    simp at h3
  | succ f ih =>
    intro k listed a w hs hk hls h1 h2 h
    have hks : k < ops.size := by omega
    have hlk : listed[k]? = some false := by
      cases hh : listed[k]? with
      | none => rw [Array.getElem?_eq_none_iff] at hh; omega
      | some b => cases b with
        | false => rfl
        | true => exact absurd hh (h2 k (Nat.le_refl _))
    have hmem : k ∈ Region.ready .any ops listed := by
      refine mem_ready.2 ⟨by rw [Array.getD_eq_getD_getElem?, hlk]; rfl, ops[k], by simp [hks], fun e he hb => ?_⟩
      have := (hback k ops[k] (by simp [hks])).2 e he hb
      rw [Array.getD_eq_getD_getElem?, h1 e.on this]
      rfl
    refine ⟨fun hr => (by rw [hr] at hmem; cases hmem), fun i hi => ?_⟩
    have hik : i = k := by
      obtain ⟨h3, o, ho, _⟩ := mem_ready.1 hi
      have hi' := (Array.getElem?_eq_some_iff.1 ho).1
      rcases Nat.lt_trichotomy i k with h4 | h4 | h4
      · rw [Array.getD_eq_getD_getElem?, h1 i h4] at h3
        simp at h3
      · exact h4
      · rcases (htail i (by omega) hi').2 with h5 | h5
        · omega
        · exact absurd (waitsB_listed hi h5) (h2 (i - 1) (by omega))
    subst hik
    have hd : ops.toList.drop i = ops[i] :: ops.toList.drop (i + 1) := by
      rw [List.drop_eq_getElem_cons (by simpa using hks)]
      simp
    rw [hd] at h
    have hop : wpOp P ops Q i (wpList P ops Q (ops.toList.drop (i + 1))) a w := by
      unfold wpOp
      rw [show ops[i]? = some ops[i] by simp [hks]]
      simpa only [wpList] using h
    refine wpOp_mono' (fun a' w' h' => ih (i + 1) _ a' w' (by omega) (by omega) (by simpa using hls) (fun j hj => ?_) (fun j hj => ?_) h') hop
    · by_cases hji : j = i
      · subst hji; simp [hls, hks]
      · rw [Array.getElem?_setIfInBounds_ne (Ne.symm hji)]; exact h1 j (by omega)
    · rw [Array.getElem?_setIfInBounds_ne (by omega)]; exact h2 j (by omega)
/-- An extract yields the same in every world. -/
theorem ext_yields {o : Oper} {a : Act} {w : World} {K : Act → World → Prop} (h : isExt (some o) = true) (hw : o.wp P a w K NoQ) : ∃ v, Yields P ops o v a ∧ K (a.put o.dst v) w := by
  unfold isExt at h
  split at h
  · rename_i d x i ty pos af heq
    cases heq
    unfold Oper.wp at hw
    have key : ∀ v, (∀ w, (execOp a.eval ⟨d, .extract x i, ty, pos, af, none⟩).run P w = .ok (.value v) w) → ∃ v, Yields P ops ⟨d, .extract x i, ty, pos, af, none⟩ v a ∧ K (a.put d v) w := fun v hv => by
      rw [hv w] at hw
      exact ⟨v, .inl ⟨by simp [Region.wanted], hv⟩, hw⟩
    cases hx : a.eval x with
    | tuple us =>
      cases hu : us[i]? with
      | some v => exact key v (fun w => by simp [execOp, hx, Instr.extract, hu])
      | none => simp [execOp, hx, Instr.extract, hu, Oper.upon] at hw
    | _ => simp [execOp, hx, Instr.extract, Oper.upon] at hw
  · cases h

/-- THE RULE with an invariant over the operations that are done. -/
theorem wp_delta {id n : Nat} {Q : Exit → Act → World → Prop} {a : Act} {w : World} {l : List Oper} (hm : P.follows .mixedOrders = true) (J : Array Bool → Act → World → Prop) (hB : gammaF l.toArray m pre n = true) (hQ : ∀ c a w, ¬ Q (.panic c) a w)
    (h0 : J (Array.replicate l.length false) a w.drew)
    (hstep : ∀ (L : Array Bool) (a : Act) (w : World) (i : Nat) (o : Oper), i < m → l[i]? = some o → i ∈ Region.ready .any l.toArray L → L.size = l.length → (∀ (k j : Nat), L[k]? = some true → waitsB l.toArray k j = true → L[j]? = some true) → J L a w →
      ∀ K : Act → World → Prop, (∀ a' w', J (L.setIfInBounds i true) a' w' → K a' w') → if Region.wanted o (yielded l.toArray a.tmps) then o.wp P a w K NoQ else K (a.put o.dst undef) w)
    (hfin : ∀ (L : Array Bool) (a : Act) (w : World), (∀ i, i < m → L[i]? = some true) → J L a w → wpList P l.toArray Q (l.drop m) a w) : (Code.region id l.toArray true).wp P Q a w := by
  refine wp_region_any hm ?_
  obtain ⟨hpreB, hprel, hms, hback, hinj, htail, hsel, hfl⟩ := gammaF_parts hB
  simp only [List.size_toArray] at hms
  have main : ∀ (fuel : Nat) (L : Array Bool) (a : Act) (w : World), unl m L + (l.length - m) = fuel → L.size = l.length → (∀ k, m ≤ k → L[k]? ≠ some true) → (∀ (k j : Nat), L[k]? = some true → waitsB l.toArray k j = true → L[j]? = some true) → J L a w → wpAny P .any l.toArray Q fuel L a w := by
    have done : ∀ (fuel : Nat) (L : Array Bool) (a : Act) (w : World), unl m L + (l.length - m) = fuel → L.size = l.length → (∀ k, m ≤ k → L[k]? ≠ some true) → J L a w → unl m L = 0 → wpAny P .any l.toArray Q fuel L a w := by
      intro fuel L a w hf hls hhd hJ hz
      have hall := unl_zero _ _ hz
      exact tail_anyF hB fuel m L a w (by simp; omega) (Nat.le_refl _) (by simpa using hls) (fun j hj => hall j hj) hhd (by simpa using hfin L a w hall hJ)
    have hflm : ∀ i, (floatsOf l.toArray m).contains i = true → i < m ∧ isExt l.toArray[i]? = true := fun i hi => by
      have := List.contains_iff_mem.1 hi
      unfold floatsOf at this
      rw [List.mem_filter, List.mem_range, Bool.and_eq_true] at this
      exact ⟨this.1, this.2.1⟩
    -- only extracts are left of the head: they are taken first
    have last : ∀ (u fuel : Nat) (L : Array Bool) (a : Act) (w : World), unl m L = u → unl m L + (l.length - m) = fuel → L.size = l.length → (∀ k, m ≤ k → L[k]? ≠ some true) → (∀ (k j : Nat), L[k]? = some true → waitsB l.toArray k j = true → L[j]? = some true) → J L a w →
        (∀ i, i < m → (floatsOf l.toArray m).contains i = false → L[i]? = some true) → wpAny P .any l.toArray Q fuel L a w := by
      intro u
      induction u with
      | zero => intro fuel L a w hu hf hls hhd hcl hJ _; exact done fuel L a w hf hls hhd hJ hu
      | succ u ihu =>
        intro fuel L a w hu hf hls hhd hcl hJ hnf
        have hsome : ∃ i, i < m ∧ L[i]? ≠ some true := by
          apply Classical.byContradiction
          intro hno
          have := unl_all m L (fun i hi => Classical.byContradiction (fun hh => hno ⟨i, hi, hh⟩))
          omega
        obtain ⟨i, him, hil⟩ := hsome
        have hfi : (floatsOf l.toArray m).contains i = true := by
          cases hc : (floatsOf l.toArray m).contains i with
          | true => rfl
          | false => exact absurd (hnf i him hc) hil
        have hilt : i < l.length := by omega
        have hio : l.toArray[i]? = some l[i] := by simp [hilt]
        have hli : L[i]? = some false := by
          cases h : L[i]? with
          | none => rw [Array.getElem?_eq_none_iff] at h; omega
          | some b => cases b with
            | true => exact absurd h hil
            | false => rfl
        have hr : i ∈ Region.ready .any l.toArray L := by
          refine mem_ready.2 ⟨by rw [Array.getD_eq_getD_getElem?, hli]; rfl, l[i], hio, fun e he hb => ?_⟩
          have h1 := (hback i _ hio).2 e he hb
          have hwt : waitsB l.toArray i e.on = true := waitsB_iff.2 ⟨_, hio, e, he, hb, rfl⟩
          have hno := (hfl i e.on _ (l[e.on]'(by omega)) hfi hio (by simp [show e.on < l.length by omega])).1 hwt
          rw [Array.getD_eq_getD_getElem?, hnf e.on (by omega) hno]
          rfl
        have hst := hstep L a w i l[i] him (by simp [hilt]) hr hls hcl hJ (fun a' w' => J (L.setIfInBounds i true) a' w') (fun _ _ h => h)
        have hext := (hflm i hfi).2
        rw [hio] at hext
        have hwant : Region.wanted l[i] (yielded l.toArray a.tmps) = true := by
          have hg : l[i].guard = none := by
            unfold isExt at hext
            split at hext
            · rename_i heq; have := Option.some.inj heq; rw [this]
            · cases hext
          simp [Region.wanted, hg]
        rw [if_pos hwant] at hst
        obtain ⟨v, hy, hJ2⟩ := ext_yields (ops := l.toArray) hext hst
        have hun := unl_set m i L him hli
        obtain ⟨f', hf'⟩ : ∃ f', fuel = f' + 1 := ⟨fuel - 1, by omega⟩
        subst hf'
        have hmono : ∀ (j : Nat), L[j]? = some true → (L.setIfInBounds i true)[j]? = some true := by
          intro j hj
          by_cases hji : j = i
          · subst hji; rw [hli] at hj; cases hj
          · rw [Array.getElem?_setIfInBounds_ne (Ne.symm hji)]; exact hj
        refine wpAny_first hio (Region.noSelect_spec hsel) (fun c a w hq => absurd hq (hQ c _ w)) f' L a w (fun j oj hoj hji hju hnw => ?_) hr hy ?_
        · have hor : (floatsOf l.toArray m).contains j = true ∨ m ≤ j := by
            rcases Nat.lt_or_ge j m with h1 | h1
            · left
              cases hc : (floatsOf l.toArray m).contains j with
              | true => rfl
              | false =>
                have := hnf j h1 hc
                rw [Array.getD_eq_getD_getElem?, this] at hju
                cases hju
            · exact .inr h1
          rcases (hfl i j _ oj hfi hio hoj).2 hji hor with h1 | h1
          · exfalso
            unfold waitsD at h1
            obtain ⟨e, he, hb⟩ := Array.any_eq_true'.1 h1
            simp only [Bool.and_eq_true, beq_iff_eq] at hb
            exact hnw e he hb.1 hb.2
          · exact h1
        · refine ihu f' _ _ w (by omega) (by omega) (by simpa using hls) (fun k hk => ?_) (fun k j hk hw => ?_) hJ2 (fun k hk hc => hmono k (hnf k hk hc))
          · rw [Array.getElem?_setIfInBounds_ne (by omega)]
            exact hhd k hk
          · by_cases hki : k = i
            · subst hki
              exact hmono j (waitsB_listed hr hw)
            · rw [Array.getElem?_setIfInBounds_ne (Ne.symm hki)] at hk
              exact hmono j (hcl k j hk hw)
    intro fuel
    induction fuel with
    | zero => intro L a w hf hls hhd hcl hJ; exact done 0 L a w hf hls hhd hJ (by omega)
    | succ fuel ih =>
      intro L a w hf hls hhd hcl hJ
      by_cases hz : unl m L = 0
      · exact done _ L a w hf hls hhd hJ hz
      by_cases hnf : ∀ i, i < m → (floatsOf l.toArray m).contains i = false → L[i]? = some true
      · exact last _ _ L a w rfl hf hls hhd hcl hJ hnf
      have hsome : ∃ i, i < m ∧ (floatsOf l.toArray m).contains i = false ∧ L[i]? ≠ some true := by
        apply Classical.byContradiction
        intro hno
        exact hnf (fun i hi hc => Classical.byContradiction (fun hh => hno ⟨i, hi, hc, hh⟩))
      have hleast : ∃ i, i < m ∧ i ∈ Region.ready .any l.toArray L := by
        obtain ⟨i, him, hci, hil⟩ := hsome
        clear hci
        induction i using Nat.strongRecOn with
        | _ i ihi =>
          by_cases hex : ∃ j, j < i ∧ L[j]? ≠ some true
          · obtain ⟨j, hj, hjl⟩ := hex
            exact ihi j hj (by omega) hjl
          · refine ⟨i, him, mem_ready.2 ⟨?_, l[i]'(by omega), by simp [show i < l.length by omega], fun e he hb => ?_⟩⟩
            · rw [Array.getD_eq_getD_getElem?]
              cases h : L[i]? with
              | none => rw [Array.getElem?_eq_none_iff] at h; omega
              | some b => cases b with
                | true => exact absurd h hil
                | false => rfl
            · have h1 := (hback i (l[i]'(by omega)) (by simp [show i < l.length by omega])).2 e he hb
              have h2 : L[e.on]? = some true := Classical.byContradiction (fun hh => hex ⟨e.on, h1, hh⟩)
              rw [Array.getD_eq_getD_getElem?, h2]
              rfl
      refine ⟨fun hr => (by obtain ⟨i, _, hi⟩ := hleast; rw [hr] at hi; cases hi), fun i hi => ?_⟩
      obtain ⟨hun, o, ho, hall⟩ := mem_ready.1 hi
      have hlt := (Array.getElem?_eq_some_iff.1 ho).1
      simp only [List.size_toArray] at hlt
      have hli : L[i]? = some false := by
        rw [Array.getD_eq_getD_getElem?] at hun
        cases h : L[i]? with
        | none => rw [Array.getElem?_eq_none_iff] at h; omega
        | some b => cases b with
          | false => rfl
          | true => rw [h] at hun; simp at hun
      have him : i < m := by
        rcases Nat.lt_or_ge i m with h | h
        · exact h
        · exfalso
          obtain ⟨j, hj, hjc, hjl⟩ := hsome
          exact hjl (reach_listed hcl _ i j (fun j' hw => waitsB_listed hi hw) ((htail i h (by simpa using hlt)).1 j hj hjc))
      have hstp := hstep L a w i o him (by simpa using ho) hi hls hcl hJ (wpAny P .any l.toArray Q fuel (L.setIfInBounds i true)) (fun a' w' hJ' => by
        refine ih _ _ _ (by have := unl_set m i L him hli; omega) (by simpa using hls) (fun k hk => ?_) (fun k j hk hw => ?_) hJ'
        · rw [Array.getElem?_setIfInBounds_ne (by omega)]
          exact hhd k hk
        · have hmono : ∀ (j : Nat), L[j]? = some true → (L.setIfInBounds i true)[j]? = some true := by
            intro j hj
            by_cases hji : j = i
            · subst hji; rw [hli] at hj; cases hj
            · rw [Array.getElem?_setIfInBounds_ne (Ne.symm hji)]; exact hj
          by_cases hki : k = i
          · subst hki
            exact hmono j (waitsB_listed hi hw)
          · rw [Array.getElem?_setIfInBounds_ne (Ne.symm hki)] at hk
            exact hmono j (hcl k j hk hw))
      unfold wpOp
      simp only [ho]
      split
      · rename_i hw
        rw [if_pos hw] at hstp
        exact .inl (wp_of_noQ hstp)
      · rename_i hw
        rw [if_neg hw] at hstp
        exact hstp
  have h := main l.length (Array.replicate l.length false) a w.drew ?_ (by simp) ?_ ?_ h0
  · simpa using h
  · rw [unl_new _ _ hms]
    omega
  · intro k _ hl
    rw [Array.getElem?_replicate] at hl
    split at hl <;> cases hl
  · intro k j hl
    rw [Array.getElem?_replicate] at hl
    split at hl <;> cases hl
end

/-- An operation that makes a block of the call's own. -/
def bornB (o : Oper) : Bool := match o.guard with
  | none => (match o.op with | .alloc _ => true | .box .. => true | _ => false)
  | some _ => false
/-- No operation of the head looks at a block that the head makes. -/
def freeB (ops : Array Oper) (m : Nat) : Bool := (List.range m).all fun i => (List.range m).all fun j => match ops[i]?, ops[j]? with
  | some oi, some oj => !bornB oj || (match oj.dst with | some d => !(oi.looksAt ops).contains d | none => true)
  | _, _ => true
def drawB (N m : Nat) (ops : Array Oper) : Bool := (ops.toList.take m).all (fun o => bornB o || !isHeap o.op) && freeB ops m && gammaF ops m (preAll ops m) N

section
variable (P : Program) (T : Nat → Option TI)
def BStep (d : Option Tmp) (E : AE) (pd : List (Bool × List AV)) (N : List (Bool × List AV) → AE → Prop) : Op → Prop
  | .alloc t => match T t with | some ti => N (pd ++ [(true, ti.zero)]) ⟨putT d (.p (E.h.length + pd.length) 0) E.t, E.h⟩ | none => False
  | .box _ x => match rd E.h (evT E.t x) with
    | .v a => match cellsF a with | some cs => N (pd ++ [(true, cs)]) ⟨putT d (.p (E.h.length + pd.length) 0) E.t, E.h⟩ | none => False
    | _ => False
  | op => AStep false P T d E (N pd) op
/-- The head's operations; the blocks that they make are there behind the head. -/
def aopsB (all : Array Oper) (K : AE → Prop) : Nat → List (Bool × List AV) → List Oper → AE → Prop
  | 0, pd, os, E => aops P T all K 0 os ⟨E.t, E.h ++ pd⟩
  | _ + 1, pd, [], E => K ⟨E.t, E.h ++ pd⟩
  | n + 1, pd, o :: os, E => match o.guard with
    | none => BStep P T o.dst E pd (fun pd => aopsB all K n pd os) o.op
    | some (g, b) => match gval all E.t g with
      | .v (.one (.bool t)) => (t = b → AStep false P T o.dst E (aopsB all K n pd os) o.op) ∧ (t = !b → aopsB all K n pd os ⟨putT o.dst (.v (.one (.tuple #[]))) E.t, E.h⟩)
      | .v (.one (.tuple _)) => aopsB all K n pd os ⟨putT o.dst (.v (.one (.tuple #[]))) E.t, E.h⟩
      | _ => False

inductive BV where
  | val (tv : TV)
  | new (n : Nat) (cs : List AV)
def BV.tv : BV → TV
  | .val tv => tv
  | .new n _ => .p n 0
inductive RunB (all : Array Oper) : List Oper → List (Bool × List AV) → AE → List BV → List (Bool × List AV) → AE → Prop
  | nil {pd : List (Bool × List AV)} {E : AE} : RunB all [] pd E [] pd E
  | pure {o : Oper} {os : List Oper} {pd pd' : List (Bool × List AV)} {E E' : AE} {tv : TV} {bvs : List BV} (hb : bornB o = false) (h : Rel P T all E o tv) (h' : RunB all os pd ⟨putT o.dst tv E.t, E.h⟩ bvs pd' E') : RunB all (o :: os) pd E (.val tv :: bvs) pd' E'
  | born {o : Oper} {os : List Oper} {pd pd' : List (Bool × List AV)} {E E' : AE} {cs : List AV} {bvs : List BV} (hb : bornB o = true) (hf : heapF T E o.op = some (True, .p E.h.length 0, E.h ++ [(true, cs)]))
    (h' : RunB all os (pd ++ [(true, cs)]) ⟨putT o.dst (.p (E.h.length + pd.length) 0) E.t, E.h⟩ bvs pd' E') : RunB all (o :: os) pd E (.new (E.h.length + pd.length) cs :: bvs) pd' E'
end

section
variable {P : Program} {T : Nat → Option TI} {all : Array Oper}
theorem aopsB_run {K : AE → Prop} : ∀ (l1 l2 : List Oper) (pd : List (Bool × List AV)) (E : AE), (∀ o ∈ l1, (bornB o || !isHeap o.op) = true) → aopsB P T all K l1.length pd (l1 ++ l2) E →
    ∃ bvs pd' E', RunB P T all l1 pd E bvs pd' E' ∧ aops P T all K 0 l2 ⟨E'.t, E'.h ++ pd'⟩ ∧ bvs.length = l1.length
  | [], l2, pd, E, _, h => ⟨[], pd, E, .nil, by simpa [aopsB] using h, rfl⟩
  | o :: os, l2, pd, E, hh, h => by
    have h0 := hh o (by simp)
    have ih := fun pd E => aopsB_run (K := K) os l2 pd E (fun o ho => hh o (by simp [ho]))
    simp only [List.cons_append, List.length_cons, aopsB] at h
    by_cases hb : bornB o = true
    · have hg : o.guard = none := by
        unfold bornB at hb
        split at hb
        · assumption
        · cases hb
      simp only [hg] at h
      unfold bornB at hb
      simp only [hg] at hb
      obtain ⟨dst, op, ty, pos, after, guard⟩ := o
      simp only at hg hb h
      cases op <;> simp only [Bool.false_eq_true] at hb
      · rename_i t
        simp only [BStep] at h
        split at h <;> try exact h.elim
        rename_i ti hti
        obtain ⟨bvs, pd', E', h1, h2, h3⟩ := ih _ _ h
        refine ⟨_, pd', E', .born (cs := ti.zero) (by simp [bornB, hg]) ?_ h1, h2, by simp [h3]⟩
        simp only [heapF, hti]
      · rename_i t x
        simp only [BStep] at h
        split at h <;> try exact h.elim
        rename_i av ha
        split at h <;> try exact h.elim
        rename_i cs hcs
        obtain ⟨bvs, pd', E', h1, h2, h3⟩ := ih _ _ h
        refine ⟨_, pd', E', .born (cs := cs) (by simp [bornB, hg]) ?_ h1, h2, by simp [h3]⟩
        simp only [heapF, ha, hcs, Option.map_some]
    · have hb : bornB o = false := by simpa using hb
      rw [hb] at h0
      have h0 : isHeap o.op = false := by simpa using h0
      split at h
      · rename_i hg
        have h : AStep false P T o.dst E (aopsB P T all K os.length pd (os ++ l2)) o.op := by
          revert h
          generalize o.op = op at h0 ⊢
          cases op <;> first | exact id | (intro _; cases h0)
        obtain ⟨tv, h1, h2⟩ := AStep.hop h0 h
        obtain ⟨bvs, pd', E', h3, h4, h5⟩ := ih _ _ h2
        exact ⟨.val tv :: bvs, pd', E', .pure hb (.inl ⟨hg, h1⟩) h3, h4, by simp [h5]⟩
      · rename_i g b hg
        split at h
        · rename_i t ht
          by_cases htb : t = b
          · obtain ⟨tv, h1, h2⟩ := AStep.hop h0 (h.1 htb)
            obtain ⟨bvs, pd', E', h3, h4, h5⟩ := ih _ _ h2
            exact ⟨.val tv :: bvs, pd', E', .pure hb (.inr (.inl ⟨g, b, t, hg, ht, .inl ⟨htb, h1⟩⟩)) h3, h4, by simp [h5]⟩
          · obtain ⟨bvs, pd', E', h3, h4, h5⟩ := ih _ _ (h.2 (by cases t <;> cases b <;> simp_all))
            exact ⟨_ :: bvs, pd', E', .pure hb (.inr (.inl ⟨g, b, t, hg, ht, .inr ⟨htb, rfl⟩⟩)) h3, h4, by simp [h5]⟩
        · rename_i u ht
          obtain ⟨bvs, pd', E', h3, h4, h5⟩ := ih _ _ h
          exact ⟨_ :: bvs, pd', E', .pure hb (.inr (.inr ⟨g, b, u, hg, ht, rfl⟩)) h3, h4, by simp [h5]⟩
        · exact h.elim

theorem runB_at {l : List Oper} {pd pd' : List (Bool × List AV)} {E E' : AE} {bvs : List BV} (h : RunB P T all l pd E bvs pd' E') : ∀ (i : Nat) (o : Oper), l[i]? = some o → ∃ Ei, Ei.h = E.h ∧
    ((bornB o = false ∧ ∃ tv, bvs[i]? = some (.val tv) ∧ Rel P T all Ei o tv) ∨ (bornB o = true ∧ ∃ n cs, bvs[i]? = some (.new n cs) ∧ heapF T Ei o.op = some (True, .p Ei.h.length 0, Ei.h ++ [(true, cs)]))) ∧
    (∀ (j : Nat) (oj : Oper) (t : Nat), j < i → l[j]? = some oj → oj.dst = some t → (∀ (k : Nat) (ok : Oper), j < k → k < i → l[k]? = some ok → ok.dst ≠ some t) → lk Ei.t t = (bvs.getD j (.val (.v .any))).tv) ∧
    (∀ (t : Nat), (∀ (k : Nat) (ok : Oper), k < i → l[k]? = some ok → ok.dst ≠ some t) → lk Ei.t t = lk E.t t) := by
  have cons : ∀ {o : Oper} {os : List Oper} {E : AE} {bv : BV} {bvs : List BV}, 
      (∀ (i : Nat) (oi : Oper), os[i]? = some oi → ∃ Ei, Ei.h = E.h ∧ ((bornB oi = false ∧ ∃ tv, bvs[i]? = some (.val tv) ∧ Rel P T all Ei oi tv) ∨ (bornB oi = true ∧ ∃ n cs, bvs[i]? = some (.new n cs) ∧ heapF T Ei oi.op = some (True, .p Ei.h.length 0, Ei.h ++ [(true, cs)]))) ∧
        (∀ (j : Nat) (oj : Oper) (t : Nat), j < i → os[j]? = some oj → oj.dst = some t → (∀ (k : Nat) (ok : Oper), j < k → k < i → os[k]? = some ok → ok.dst ≠ some t) → lk Ei.t t = (bvs.getD j (.val (.v .any))).tv) ∧
        (∀ (t : Nat), (∀ (k : Nat) (ok : Oper), k < i → os[k]? = some ok → ok.dst ≠ some t) → lk Ei.t t = lk (putT o.dst bv.tv E.t) t)) →
      ((bornB o = false ∧ ∃ tv, bv = .val tv ∧ Rel P T all E o tv) ∨ (bornB o = true ∧ ∃ n cs, bv = .new n cs ∧ heapF T E o.op = some (True, .p E.h.length 0, E.h ++ [(true, cs)]))) →
      ∀ (i : Nat) (oi : Oper), (o :: os)[i]? = some oi → ∃ Ei, Ei.h = E.h ∧ ((bornB oi = false ∧ ∃ tv, (bv :: bvs)[i]? = some (.val tv) ∧ Rel P T all Ei oi tv) ∨ (bornB oi = true ∧ ∃ n cs, (bv :: bvs)[i]? = some (.new n cs) ∧ heapF T Ei oi.op = some (True, .p Ei.h.length 0, Ei.h ++ [(true, cs)]))) ∧
        (∀ (j : Nat) (oj : Oper) (t : Nat), j < i → (o :: os)[j]? = some oj → oj.dst = some t → (∀ (k : Nat) (ok : Oper), j < k → k < i → (o :: os)[k]? = some ok → ok.dst ≠ some t) → lk Ei.t t = ((bv :: bvs).getD j (.val (.v .any))).tv) ∧
        (∀ (t : Nat), (∀ (k : Nat) (ok : Oper), k < i → (o :: os)[k]? = some ok → ok.dst ≠ some t) → lk Ei.t t = lk E.t t) := by
    intro o os E bv bvs ih hr i oi hoi
    cases i with
    | zero =>
      obtain rfl : o = oi := by simpa using hoi
      exact ⟨E, rfl, by simpa using hr, fun j _ _ hj => absurd hj (by omega), fun _ _ => rfl⟩
    | succ i =>
      obtain ⟨Ei, h2, h1, h3, h4⟩ := ih i oi (by simpa using hoi)
      refine ⟨Ei, h2, by simpa using h1, ?_, ?_⟩
      · intro j oj t hj hoj hd hno
        cases j with
        | zero =>
          obtain rfl : o = oj := by simpa using hoj
          have := h4 t (fun k ok hk hok => hno (k + 1) ok (by omega) (by omega) (by simpa using hok))
          rw [this, hd]
          simp [putT, lk]
        | succ j =>
          have := h3 j oj t (by omega) (by simpa using hoj) hd (fun k ok hjk hki hok => hno (k + 1) ok (by omega) (by omega) (by simpa using hok))
          simpa using this
      · intro t hno
        rw [h4 t (fun k ok hk hok => hno (k + 1) ok (by omega) (by simpa using hok))]
        have := hno 0 o (by omega) (by simp)
        cases hd : o.dst with
        | none => rfl
        | some d =>
          rw [hd] at this
          simp only [putT, lk]
          rw [if_neg (fun e => this (by rw [e]))]
  induction h with
  | nil => intro i o ho; simp at ho
  | pure hb hr _ ih => exact cons ih (.inl ⟨hb, _, rfl, hr⟩)
  | born hb hf _ ih => exact cons ih (.inr ⟨hb, _, _, rfl, hf⟩)

theorem runB_end {l : List Oper} {pd pd' : List (Bool × List AV)} {E E' : AE} {bvs : List BV} (h : RunB P T all l pd E bvs pd' E') : E'.h = E.h ∧
    (∀ (j : Nat) (oj : Oper) (t : Nat), l[j]? = some oj → oj.dst = some t → (∀ (k : Nat) (ok : Oper), j < k → l[k]? = some ok → ok.dst ≠ some t) → lk E'.t t = (bvs.getD j (.val (.v .any))).tv) ∧
    (∀ (t : Nat), (∀ (k : Nat) (ok : Oper), l[k]? = some ok → ok.dst ≠ some t) → lk E'.t t = lk E.t t) := by
  have cons : ∀ {o : Oper} {os : List Oper} {E E' : AE} {bv : BV} {bvs : List BV},
      (E'.h = E.h ∧ (∀ (j : Nat) (oj : Oper) (t : Nat), os[j]? = some oj → oj.dst = some t → (∀ (k : Nat) (ok : Oper), j < k → os[k]? = some ok → ok.dst ≠ some t) → lk E'.t t = (bvs.getD j (.val (.v .any))).tv) ∧
        (∀ (t : Nat), (∀ (k : Nat) (ok : Oper), os[k]? = some ok → ok.dst ≠ some t) → lk E'.t t = lk (putT o.dst bv.tv E.t) t)) →
      (E'.h = E.h ∧ (∀ (j : Nat) (oj : Oper) (t : Nat), (o :: os)[j]? = some oj → oj.dst = some t → (∀ (k : Nat) (ok : Oper), j < k → (o :: os)[k]? = some ok → ok.dst ≠ some t) → lk E'.t t = ((bv :: bvs).getD j (.val (.v .any))).tv) ∧
        (∀ (t : Nat), (∀ (k : Nat) (ok : Oper), (o :: os)[k]? = some ok → ok.dst ≠ some t) → lk E'.t t = lk E.t t)) := by
    intro o os E E' bv bvs ⟨h1, h3, h4⟩
    refine ⟨h1, ?_, ?_⟩
    · intro j oj t hoj hd hno
      cases j with
      | zero =>
        obtain rfl : o = oj := by simpa using hoj
        have := h4 t (fun k ok hok => hno (k + 1) ok (by omega) (by simpa using hok))
        rw [this, hd]
        simp [putT, lk]
      | succ j =>
        have := h3 j oj t (by simpa using hoj) hd (fun k ok hjk hok => hno (k + 1) ok (by omega) (by simpa using hok))
        simpa using this
    · intro t hno
      rw [h4 t (fun k ok hok => hno (k + 1) ok (by simpa using hok))]
      have := hno 0 o (by simp)
      cases hd : o.dst with
      | none => rfl
      | some d =>
        rw [hd] at this
        simp only [putT, lk]
        rw [if_neg (fun e => this (by rw [e]))]
  induction h with
  | nil => exact ⟨rfl, fun j oj t ho => by simp at ho, fun _ _ => rfl⟩
  | pure hb hr _ ih => exact cons ih
  | born hb hf _ ih => exact cons ih

/-- The new blocks are told apart by their numbers. -/
theorem runB_new {l : List Oper} {pd pd' : List (Bool × List AV)} {E E' : AE} {bvs : List BV} (h : RunB P T all l pd E bvs pd' E') :
    pd.length ≤ pd'.length ∧ (∀ r, r < pd.length → pd'[r]? = pd[r]?) ∧
    (∀ (i n : Nat) (cs : List AV), bvs[i]? = some (BV.new n cs) → E.h.length + pd.length ≤ n ∧ pd'[n - E.h.length]? = some (true, cs)) ∧
    (∀ (i j n n' : Nat) (cs cs' : List AV), i < j → bvs[i]? = some (BV.new n cs) → bvs[j]? = some (BV.new n' cs') → n < n') ∧
    (∀ (r : Nat) (x : Bool × List AV), pd.length ≤ r → pd'[r]? = some x → ∃ (i : Nat) (cs : List AV), bvs[i]? = some (BV.new (E.h.length + r) cs) ∧ x = (true, cs)) := by
  induction h with
  | nil => exact ⟨Nat.le_refl _, fun _ _ => rfl, fun i n cs h => by simp at h, fun i j n n' cs cs' _ h => by simp at h, fun r x hr hx => by
      have := (List.getElem?_eq_some_iff.1 hx).1
      omega⟩
  | pure hb hr _ ih =>
    obtain ⟨h1, h2, h3, h4, h5⟩ := ih
    refine ⟨h1, h2, fun i n cs hi => ?_, fun i j n n' cs cs' hij hi hj => ?_, fun r x hr hx => ?_⟩
    · cases i with
      | zero => simp at hi
      | succ i => exact h3 i n cs (by simpa using hi)
    · cases i with
      | zero => simp at hi
      | succ i =>
        cases j with
        | zero => simp at hj
        | succ j => exact h4 i j n n' cs cs' (by omega) (by simpa using hi) (by simpa using hj)
    · obtain ⟨i, cs, h6, h7⟩ := h5 r x hr hx
      exact ⟨i + 1, cs, by simpa using h6, h7⟩
  | @born o os pd pd' E E' cs bvs hb hf _ ih =>
    obtain ⟨h1, h2, h3, h4, h5⟩ := ih
    simp only [List.length_append, List.length_singleton] at h1 h2 h3 h5
    refine ⟨by omega, fun r hr => ?_, fun i n cs' hi => ?_, fun i j n n' cs1 cs' hij hi hj => ?_, fun r x hr hx => ?_⟩
    · rw [h2 r (by omega), List.getElem?_append_left hr]
    · cases i with
      | zero =>
        simp only [List.getElem?_cons_zero, Option.some.injEq, BV.new.injEq] at hi
        obtain ⟨rfl, rfl⟩ := hi
        refine ⟨Nat.le_refl _, ?_⟩
        rw [Nat.add_sub_cancel_left, h2 _ (by omega)]
        simp
      | succ i =>
        have := h3 i n cs' (by simpa using hi)
        exact ⟨by omega, this.2⟩
    · cases j with
      | zero => omega
      | succ j =>
        have hj' : bvs[j]? = some (.new n' cs') := by simpa using hj
        cases i with
        | zero =>
          simp only [List.getElem?_cons_zero, Option.some.injEq, BV.new.injEq] at hi
          have := (h3 j n' cs' hj').1
          omega
        | succ i => exact h4 i j n n' cs1 cs' (by omega) (by simpa using hi) hj'
    · rcases Nat.lt_or_ge r (pd.length + 1) with hlt | hge
      · obtain rfl : r = pd.length := by omega
        rw [h2 _ (by omega)] at hx
        simp at hx
        exact ⟨0, cs, by simp, hx.symm⟩
      · obtain ⟨i, cs', h6, h7⟩ := h5 r x hge hx
        exact ⟨i + 1, cs', by simpa using h6, h7⟩
end

theorem preB_mem {ops : Array Oper} {i : Nat} : ∀ {p : List (Tmp × Option Nat)}, preB ops i p = true → (∀ t j, (t, some j) ∈ p → (ops[j]?).map (·.dst) = some (some t) ∧ waitsB ops i j = true) ∧
    (∀ t, (t, none) ∈ p → ∀ k o, ops[k]? = some o → o.dst = some t → waitsB ops k i = true)
  | [], _ => ⟨fun _ _ h => absurd h (by simp), fun _ h => absurd h (by simp)⟩
  | (t', some j') :: r, h => by
    simp only [preB, Bool.and_eq_true, beq_iff_eq] at h
    obtain ⟨h1, h2⟩ := preB_mem h.2
    refine ⟨fun t j hx => ?_, fun t hx => ?_⟩
    · rcases List.mem_cons.1 hx with hx | hx
      · cases hx; exact h.1
      · exact h1 t j hx
    · rcases List.mem_cons.1 hx with hx | hx
      · cases hx
      · exact h2 t hx
  | (t', none) :: r, h => by
    simp only [preB, Bool.and_eq_true, List.all_eq_true, List.mem_range, Bool.or_eq_true] at h
    obtain ⟨h1, h2⟩ := preB_mem h.2
    refine ⟨fun t j hx => ?_, fun t hx => ?_⟩
    · rcases List.mem_cons.1 hx with hx | hx
      · cases hx
      · exact h1 t j hx
    · rcases List.mem_cons.1 hx with hx | hx
      · cases hx
        intro k o hk hd
        rcases h.1 k (Array.getElem?_eq_some_iff.1 hk).1 with h3 | h3
        · rw [hk] at h3
          simp [hd] at h3
        · exact h3
      · exact h2 t hx

section
variable {P : Program} {T : Nat → Option TI} {w0 : World} {M0 : Nat → Prop} {ρ : Nat → Nat} {w : World} {N : Nat} {l : List Oper}

/-- The new blocks that are there. -/
def Bn (bvs : List BV) (L : Array Bool) (n : Nat) : Prop := ∃ (i : Nat) (cs : List AV), L[i]? = some true ∧ bvs[i]? = some (BV.new n cs)
def ML (M0 : Nat → Prop) (bvs : List BV) (L : Array Bool) (σ : Nat → Nat) (b : Nat) : Prop := M0 b ∨ ∃ n, Bn bvs L n ∧ b = σ n
structure JB (w0 : World) (M0 : Nat → Prop) (ρ : Nat → Nat) (H : List (Bool × List AV)) (wd : World) (a0 : Act) (l : List Oper) (m : Nat) (bvs : List BV) (σ : Nat → Nat) (L : Array Bool) (a : Act) (w : World) : Prop where
  grow : Grow wd w
  size : a.tmps.size = a0.tmps.size
  defers : a.defers = a0.defers
  lo : ∀ n, Bn bvs L n → wd.heap.size ≤ σ n ∧ σ n < w.heap.size
  inj : ∀ n k, Bn bvs L n → Bn bvs L k → σ n = σ k → n = k
  cell : ∀ (i n : Nat) (cs : List AV), L[i]? = some true → bvs[i]? = some (BV.new n cs) → ∃ us ty, w.heap[σ n]? = some (.cells us ty (0, 0)) ∧ RepL (MM (ML M0 bvs L σ) ρ H) w cs us.toList
  val : ∀ (i : Nat) (o : Oper) (d : Tmp) (tv : TV), i < m → l[i]? = some o → o.dst = some d → L[i]? = some true → bvs[i]? = some (.val tv) → ∃ v, a.tmps[d]? = some v ∧ RepT ρ H (MM (ML M0 bvs L σ) ρ H) w tv v
  new : ∀ (i : Nat) (o : Oper) (d n : Nat) (cs : List AV), i < m → l[i]? = some o → o.dst = some d → L[i]? = some true → bvs[i]? = some (BV.new n cs) → a.tmps[d]? = some (.pointer (some ⟨σ n, 0, none⟩))
  same : ∀ (t : Tmp), (∀ (i : Nat) (o : Oper), i < m → l[i]? = some o → o.dst = some t → L[i]? ≠ some true) → a.tmps[t]? = a0.tmps[t]?

theorem region_drawB (hT : TOk P T) (hl : ∀ b, M0 b → b < w0.heap.size) {id : Nat} {Q : Exit → Act → World → Prop} {K : AE → Prop} (hm : P.follows .mixedOrders = true) {m : Nat} (hml : m ≤ l.length)
    (hok : drawB N m l.toArray = true) (hd : ∀ o ∈ l, dstOk N o = true) (hK : ∀ E a w ρ, K E → St w0 M0 N E a w ρ → Q .normal a w) {E : AE} {a : Act} (h : St w0 M0 N E a w ρ) (hs : aopsB P T l.toArray K m [] l E) :
    (Code.region id l.toArray true).wp P Q a w := by
  suffices hQ' : (Code.region id l.toArray true).wp P (fun e a w => e = .normal ∧ Q .normal a w) a w by
    refine Code.wp_mono (fun e a' w' q => ?_) hQ'
    obtain ⟨rfl, q⟩ := q
    exact q
  have hK : ∀ E a w ρ, K E → St w0 M0 N E a w ρ → (Exit.normal = Exit.normal ∧ Q .normal a w) := fun E a w ρ h1 h2 => ⟨rfl, hK E a w ρ h1 h2⟩
  have hst : St w0 M0 N E a w.drew ρ := ⟨h.heap.grown (Grow.refl w).drew, h.defers, h.size, fun t => (h.tmp t).grow (Grow.refl w).drew⟩
  unfold drawB at hok
  simp only [Bool.and_eq_true] at hok
  obtain ⟨⟨hkind, hfree⟩, hB⟩ := hok
  have hkind := List.all_eq_true.1 hkind
  obtain ⟨hpreB, hprel, hms, hback, hinj, htail, _, _⟩ := gammaF_parts hB
  have htake : (l.take m).length = m := by simp; omega
  obtain ⟨bvs, pd', E', hrun, htl, hbl⟩ := aopsB_run (all := l.toArray) (l.take m) (l.drop m) [] E hkind (by rw [htake, List.take_append_drop]; exact hs)
  rw [htake] at hbl
  obtain ⟨he1, he2, he3⟩ := runB_end hrun
  obtain ⟨-, -, hn3, hn4, hn5⟩ := runB_new hrun
  simp only [List.length_nil, Nat.add_zero, Nat.zero_le, true_implies] at hn3 hn5
  have hbm : ∀ (i : Nat) (bv : BV), bvs[i]? = some bv → i < m := fun i bv hi => by have := (List.getElem?_eq_some_iff.1 hi).1; omega
  have hnu : ∀ (i j n : Nat) (cs cs' : List AV), bvs[i]? = some (BV.new n cs) → bvs[j]? = some (BV.new n cs') → i = j := by
    intro i j n cs cs' hi hj
    rcases Nat.lt_trichotomy i j with h1 | h1 | h1
    · have := hn4 i j n n cs cs' h1 hi hj; omega
    · exact h1
    · have := hn4 j i n n cs' cs h1 hj hi; omega
  -- what is known before the region stays known
  have hwd : w.drew.heap.size = w.heap.size := rfl
  have hK0 : ∀ {L σ a1 w1}, JB w0 M0 ρ E.h w.drew a l m bvs σ L a1 w1 → Keeps (MM M0 ρ E.h) (MM (ML M0 bvs L σ) ρ E.h) w.drew w1 := fun {L σ a1 w1} j => ⟨fun _ _ _ hc => j.grow.cell hc, fun b hb hx => by
    rcases hx with (hx | ⟨n, hn, rfl⟩) | hx
    · exact .inl hx
    · have := (j.lo n hn).1
      omega
    · exact .inr hx⟩
  have hHOk : ∀ {L σ a1 w1}, JB w0 M0 ρ E.h w.drew a l m bvs σ L a1 w1 → HOk w0 (ML M0 bvs L σ) ρ E.h w1 := fun {L σ a1 w1} j => by
    refine ⟨hst.heap.grow.trans j.grow, fun n hn hx => ?_, hst.heap.lo, fun n hn => Nat.lt_of_lt_of_le (hst.heap.hi n hn) j.grow.le, hst.heap.inj, fun n mm cs hn hne => ?_⟩
    · rcases hx with hx | ⟨k, hk, he⟩
      · exact hst.heap.sep n hn hx
      · have h1 := (j.lo k hk).1
        have h2 := hst.heap.hi n hn
        omega
    · obtain ⟨us, ty, h3, h4⟩ := hst.heap.rep n mm cs hn hne
      exact ⟨us, ty, by rw [j.grow.block (ρ n) (hst.heap.hi n (List.getElem?_eq_some_iff.1 hn).1)]; exact h3, h4.keep (hK0 j)⟩
  have hlow : ∀ {L σ a1 w1}, JB w0 M0 ρ E.h w.drew a l m bvs σ L a1 w1 → ∀ b, MM (ML M0 bvs L σ) ρ E.h b → b < w1.heap.size := fun {L σ a1 w1} j b hb => by
    rcases hb with (hb | ⟨n, hn, rfl⟩) | ⟨n, cs, hn, rfl⟩
    · exact Nat.lt_of_lt_of_le (hl b hb) (hst.heap.grow.trans j.grow).le
    · exact (j.lo n hn).2
    · exact Nat.lt_of_lt_of_le (hst.heap.hi n (List.getElem?_eq_some_iff.1 hn).1) j.grow.le
  have hRK : ∀ {w1}, Grow w.drew w1 → RowsKept ρ E.h E.h w.drew w1 := fun g => RowsKept.grow g
  refine wp_delta hm (fun L a1 w1 => ∃ σ, JB w0 M0 ρ E.h w.drew a l m bvs σ L a1 w1) hB (fun c a w h => by cases h.1) ?_ ?_ ?_
  · have hno : ∀ (k : Nat), (Array.replicate l.length false)[k]? ≠ some true := by
      intro k hk
      rw [Array.getElem?_replicate] at hk
      split at hk <;> cases hk
    have hb : ∀ n, ¬ Bn bvs (Array.replicate l.length false) n := fun n ⟨i, _, hi, _⟩ => hno i hi
    exact ⟨fun _ => 0, Grow.refl _, rfl, rfl, fun n hn => absurd hn (hb n), fun n _ hn => absurd hn (hb n), fun i _ _ hi => absurd hi (hno i), fun i _ _ _ _ _ _ hi => absurd hi (hno i), fun i _ _ _ _ _ _ _ hi => absurd hi (hno i), fun _ _ => rfl⟩
  · rintro L a1 w1 i o him hio hr hls hcl ⟨σ, j⟩ KK hKK
    obtain ⟨hun, o', ho', hall⟩ := mem_ready.1 hr
    have hilt : i < l.length := (List.getElem?_eq_some_iff.1 hio).1
    have hli : L[i]? = some false := by
      rw [Array.getD_eq_getD_getElem?] at hun
      cases hh : L[i]? with
      | none => rw [Array.getElem?_eq_none_iff] at hh; omega
      | some b => cases b with
        | false => rfl
        | true => rw [hh] at hun; simp at hun
    have hset : (L.setIfInBounds i true)[i]? = some true := by simp [hls, hilt]
    have hsetne : ∀ k, k ≠ i → (L.setIfInBounds i true)[k]? = L[k]? := fun k hk => Array.getElem?_setIfInBounds_ne (Ne.symm hk)
    obtain ⟨d, hdi, hdN⟩ := (hback i o (by simpa using hio)).1 him
    have hput : ∀ (v : Value) (t : Tmp), (a1.put o.dst v).tmps[t]? = if t = d then some v else a1.tmps[t]? := by
      intro v t
      simp only [Act.put, hdi]
      by_cases ht : t = d
      · subst ht
        have : t < a1.tmps.size := by rw [j.size, h.size]; exact hdN
        simp [this]
      · rw [if_neg ht, Array.getElem?_setIfInBounds_ne (Ne.symm ht)]
    have hotake : (l.take m)[i]? = some o := by rw [List.getElem?_take, if_pos him]; exact hio
    obtain ⟨Ei, hEh, hcase, hA, hBk⟩ := runB_at hrun i o hotake
    have hpi : (preAll l.toArray m).getD i [] = (o.looksAt l.toArray).map fun t => (t, lastW l.toArray i t) := by
      simp [preAll, List.getD, him, preOf, hio]
    have hpre : preB l.toArray i ((o.looksAt l.toArray).map fun t => (t, lastW l.toArray i t)) = true := by
      have := preAllB_get (i := 0) (k := i) hpreB (by omega)
      rw [hpi] at this
      simpa using this
    obtain ⟨hp1, hp2⟩ := preB_mem hpre
    -- the slots that it looks at
    have hlk : ∀ t, t ∈ o.looksAt l.toArray → RepT ρ E.h (MM (ML M0 bvs L σ) ρ E.h) w1 (lk Ei.t t) (a1.tmps.getD t undef) := by
      intro t ht
      have hmem : (t, lastW l.toArray i t) ∈ (o.looksAt l.toArray).map fun t => (t, lastW l.toArray i t) := List.mem_map.2 ⟨t, ht, rfl⟩
      cases hw : lastW l.toArray i t with
      | none =>
        rw [hw] at hmem
        have hno := lastW_none hw
        have h5 := hp2 t hmem
        rw [hBk t (fun k' ok hk' hok' => hno k' ok hk' (by
          rw [List.getElem?_take, if_pos (by omega)] at hok'
          simpa using hok'))]
        have hsm : a1.tmps[t]? = a.tmps[t]? := j.same t (fun k ok hkm hk hdk hLk => by
          have hwk := h5 k ok (by simpa using hk) hdk
          have := hcl k i hLk hwk
          rw [hli] at this
          cases this)
        rw [Array.getD_eq_getD_getElem?, hsm, ← Array.getD_eq_getD_getElem?]
        exact RepT.keep (hK0 j) (Nat.le_refl _) (fun _ _ => rfl) (hRK j.grow) _ _ (hst.tmp t)
      | some jj =>
        rw [hw] at hmem
        obtain ⟨hji, oj, hoj, hdj⟩ := lastW_some hw
        obtain ⟨_, hwt⟩ := hp1 t jj hmem
        have hLj := waitsB_listed hr hwt
        have hojl : l[jj]? = some oj := by simpa using hoj
        rw [hA jj oj t hji (by rw [List.getElem?_take, if_pos (by omega)]; exact hojl) hdj (fun k' ok hjk hki hok' hdk => by
          rw [List.getElem?_take, if_pos (by omega)] at hok'
          have := hinj jj k' oj ok t (by omega) (by omega) hoj (by simpa using hok') hdj hdk
          omega)]
        have hjb : jj < bvs.length := by omega
        cases hbv : bvs[jj]? with
        | none => rw [List.getElem?_eq_none_iff] at hbv; omega
        | some bv =>
          cases bv with
          | val tv =>
            obtain ⟨v, hv, hh⟩ := j.val jj oj t tv (by omega) hojl hdj hLj hbv
            rw [Array.getD_eq_getD_getElem?, hv]
            simpa [List.getD, hbv, BV.tv] using hh
          | new n cs =>
            exfalso
            obtain ⟨Ej, _, hcj, _⟩ := runB_at hrun jj oj (by rw [List.getElem?_take, if_pos (by omega)]; exact hojl)
            have hbj : bornB oj = true := by
              rcases hcj with ⟨_, tv, h6, _⟩ | ⟨h6, _⟩
              · rw [hbv] at h6; cases h6
              · exact h6
            have hf := List.all_eq_true.1 (List.all_eq_true.1 hfree i (List.mem_range.2 him)) jj (List.mem_range.2 (by omega))
            have hio2 : l.toArray[i]? = some o := by simpa using hio
            rw [hio2, hoj] at hf
            simp only [hbj, hdj, Bool.not_true, Bool.false_or, Bool.not_eq_true'] at hf
            have : (o.looksAt l.toArray).contains t = true := List.contains_iff_mem.2 ht
            rw [this] at hf
            cases hf
    have hev : ∀ x ∈ o.op.operands, RepT ρ E.h (MM (ML M0 bvs L σ) ρ E.h) w1 (evT Ei.t x) (a1.eval x) := by
      intro x hx
      cases x with
      | tmp t =>
        refine hlk t ?_
        unfold Oper.looksAt
        exact List.mem_append_left _ (List.mem_filterMap.2 ⟨.tmp t, by simpa using hx, rfl⟩)
      | const v => exact constT_rep v
      | global g => exact repT_one
      | func f => exact repT_one
    rcases hcase with ⟨hbo, tv, hbv, hrel⟩ | ⟨hbo, n, cs, hbv, hheap⟩
    · -- it makes no block of its own
      have hBn : ∀ k, Bn bvs (L.setIfInBounds i true) k ↔ Bn bvs L k := by
        intro k
        constructor
        · rintro ⟨x, cs, hx, hy⟩
          by_cases hxi : x = i
          · subst hxi; rw [hbv] at hy; cases hy
          · exact ⟨x, cs, by rw [← hsetne x hxi]; exact hx, hy⟩
        · rintro ⟨x, cs, hx, hy⟩
          by_cases hxi : x = i
          · subst hxi; exact ⟨x, cs, hset, hy⟩
          · exact ⟨x, cs, by rw [hsetne x hxi]; exact hx, hy⟩
      have hML : ML M0 bvs (L.setIfInBounds i true) σ = ML M0 bvs L σ := by
        funext b
        simp only [ML, hBn]
      have next : ∀ v w2, Grow w1 w2 → RepT ρ E.h (MM (ML M0 bvs L σ) ρ E.h) w2 tv v → KK (a1.put o.dst v) w2 := by
        intro v w2 g hv
        refine hKK _ _ ⟨σ, j.grow.trans g, by simp [Act.put, hdi, j.size], by simp [Act.put, hdi, j.defers], fun k hk => ?_, fun k k' hk hk' => ?_, fun x k cs hx hy => ?_, ?_, ?_, ?_⟩
        · have := j.lo k ((hBn k).1 hk)
          exact ⟨this.1, Nat.lt_of_lt_of_le this.2 g.le⟩
        · exact j.inj k k' ((hBn k).1 hk) ((hBn k').1 hk')
        · have hxi : x ≠ i := by rintro rfl; rw [hbv] at hy; cases hy
          rw [hsetne x hxi] at hx
          obtain ⟨us, ty, h6, h7⟩ := j.cell x k cs hx hy
          rw [hML]
          exact ⟨us, ty, by rw [g.block _ (j.lo k ⟨x, cs, hx, hy⟩).2]; exact h6, h7.grow g⟩
        · intro x ox dx tvx hxm hox hdx hLx hbx
          rw [hput, hML]
          by_cases hxi : x = i
          · subst hxi
            rw [hio] at hox
            cases hox
            rw [hdi] at hdx
            cases hdx
            rw [hbv] at hbx
            cases hbx
            rw [if_pos rfl]
            exact ⟨v, rfl, hv⟩
          · rw [hsetne x hxi] at hLx
            rw [if_neg (fun e => hxi (hinj x i ox o dx hxm him (by simpa using hox) (by simpa using hio) hdx (by rw [hdi, e])))]
            obtain ⟨u, h6, h7⟩ := j.val x ox dx tvx hxm hox hdx hLx hbx
            exact ⟨u, h6, h7.grow g⟩
        · intro x ox dx k cs hxm hox hdx hLx hbx
          have hxi : x ≠ i := by rintro rfl; rw [hbv] at hbx; cases hbx
          rw [hsetne x hxi] at hLx
          rw [hput, if_neg (fun e => hxi (hinj x i ox o dx hxm him (by simpa using hox) (by simpa using hio) hdx (by rw [hdi, e])))]
          exact j.new x ox dx k cs hxm hox hdx hLx hbx
        · intro t ht
          rw [hput]
          have htd : t ≠ d := by
            rintro rfl
            exact ht i o him hio hdi hset
          rw [if_neg htd]
          refine j.same t (fun x ox hxm hox hdx hLx => ?_)
          by_cases hxi : x = i
          · subst hxi; rw [hli] at hLx; cases hLx
          · exact ht x ox hxm hox hdx (by rw [hsetne x hxi]; exact hLx)
      have hH1 := hHOk j
      have hq1 : (∀ b, MM (ML M0 bvs L σ) ρ E.h b → b < w1.heap.size) ∨ quiet o.op = true := .inl (hlow j)
      rw [← hEh] at hev hH1 hq1
      have hKv : ∀ v w', Grow w1 w' → RepT ρ Ei.h (MM (ML M0 bvs L σ) ρ Ei.h) w' tv v → KK (a1.put o.dst v) w' := by
        intro v w' g hv
        rw [hEh] at hv
        exact next v w' g hv
      rcases hrel with ⟨hg, hhop⟩ | ⟨g, b, t, hg, hgv, hc⟩ | ⟨g, b, u, hg, hgv, htv⟩
      · rw [if_pos (by simp [Region.wanted, hg])]
        exact hop_wp hT hH1 hq1 hhop hev hKv
      · have hy : yielded l.toArray a1.tmps g = some t := by
          unfold gval at hgv
          unfold yielded
          split at hgv
          · rename_i dg hd'
            have h5 := hlk dg (by
              unfold Oper.looksAt
              refine List.mem_append_right _ ?_
              rw [hg]
              simp only
              rw [hd']
              simp)
            rw [hgv] at h5
            have h5 : a1.tmps.getD dg undef = .bool t := h5
            rw [hd']
            simp only [Option.bind_some]
            rw [Array.getD_eq_getD_getElem?] at h5
            cases hx : a1.tmps[dg]? with
            | none => rw [hx] at h5; exact absurd h5 (by simp [undef])
            | some v => rw [hx] at h5; simp at h5; subst h5; rfl
          · cases hgv
        rcases hc with ⟨htb, hhop⟩ | ⟨htb, htv⟩
        · rw [if_pos (by simp [Region.wanted, hg, hy, htb])]
          exact hop_wp hT hH1 hq1 hhop hev hKv
        · rw [if_neg (by simp [Region.wanted, hg, hy, htb])]
          exact hKv undef w1 (Grow.refl _) (by rw [htv]; exact repT_un)
      · have hy : yielded l.toArray a1.tmps g = none := by
          unfold gval at hgv
          unfold yielded
          split at hgv
          · rename_i dg hd'
            have h5 := hlk dg (by
              unfold Oper.looksAt
              refine List.mem_append_right _ ?_
              rw [hg]
              simp only
              rw [hd']
              simp)
            rw [hgv] at h5
            have h5 : a1.tmps.getD dg undef = .tuple u := h5
            rw [hd']
            simp only [Option.bind_some]
            rw [Array.getD_eq_getD_getElem?] at h5
            cases hx : a1.tmps[dg]? with
            | none => rfl
            | some v => rw [hx] at h5; simp at h5; subst h5; rfl
          · cases hgv
        rw [if_neg (by simp [Region.wanted, hg, hy])]
        exact hKv undef w1 (Grow.refl _) (by rw [htv]; exact repT_un)
    · -- it makes a block
      have hg : o.guard = none := by
        unfold bornB at hbo
        split at hbo
        · assumption
        · cases hbo
      rw [if_pos (by simp [Region.wanted, hg])]
      have hnot : ¬ Bn bvs L n := by
        rintro ⟨x, cs', hx, hy⟩
        have := hnu x i n cs' cs hy hbv
        subst this
        rw [hli] at hx
        cases hx
      have hBn : ∀ k, Bn bvs (L.setIfInBounds i true) k ↔ (Bn bvs L k ∨ k = n) := by
        intro k
        constructor
        · rintro ⟨x, cs', hx, hy⟩
          by_cases hxi : x = i
          · subst hxi; rw [hbv] at hy; cases hy; exact .inr rfl
          · exact .inl ⟨x, cs', by rw [← hsetne x hxi]; exact hx, hy⟩
        · rintro (⟨x, cs', hx, hy⟩ | rfl)
          · by_cases hxi : x = i
            · subst hxi; exact ⟨x, cs', hset, hy⟩
            · exact ⟨x, cs', by rw [hsetne x hxi]; exact hx, hy⟩
          · exact ⟨i, cs, hset, hbv⟩
      have next : ∀ (us : Array Value) (ty : TypeId), RepL (MM (ML M0 bvs L σ) ρ E.h) w1 cs us.toList → KK (a1.put o.dst (.pointer (some ⟨w1.heap.size, 0, none⟩))) (w1.alloc (.cells us ty)) := by
        intro us ty hus
        have g := Grow.a1 w1 (.cells us ty)
        have hσ : ∀ k, Bn bvs L k → upd σ n w1.heap.size k = σ k := fun k hk => by
          unfold upd
          rw [if_neg (fun e : k = n => hnot (by rw [← e]; exact hk))]
        have hσn : upd σ n w1.heap.size n = w1.heap.size := by simp [upd]
        have hKp : Keeps (MM (ML M0 bvs L σ) ρ E.h) (MM (ML M0 bvs (L.setIfInBounds i true) (upd σ n w1.heap.size)) ρ E.h) w1 (w1.alloc (.cells us ty)) := by
          refine ⟨fun _ _ _ hc => g.cell hc, fun b hb hx => ?_⟩
          rcases hx with (hx | ⟨k, hk, rfl⟩) | hx
          · exact .inl (.inl hx)
          · rcases (hBn k).1 hk with hk | rfl
            · exact .inl (.inr ⟨k, hk, hσ k hk⟩)
            · rw [hσn] at hb
              omega
          · exact .inr hx
        have hRKw : RowsKept ρ E.h E.h w1 (w1.alloc (.cells us ty)) := RowsKept.grow g
        refine hKK _ _ ⟨upd σ n w1.heap.size, j.grow.trans g, by simp [Act.put, hdi, j.size], by simp [Act.put, hdi, j.defers], fun k hk => ?_, fun k k' hk hk' he => ?_, fun x k cs' hx hy => ?_, ?_, ?_, ?_⟩
        · rcases (hBn k).1 hk with hk | rfl
          · have := j.lo k hk
            rw [hσ k hk]
            exact ⟨this.1, Nat.lt_of_lt_of_le this.2 g.le⟩
          · rw [hσn]
            exact ⟨j.grow.le, by simp⟩
        · rcases (hBn k).1 hk with hk | rfl <;> rcases (hBn k').1 hk' with hk' | rfl
          · rw [hσ k hk, hσ k' hk'] at he
            exact j.inj k k' hk hk' he
          · rw [hσ k hk, hσn] at he
            have := (j.lo k hk).2
            omega
          · rw [hσ k' hk', hσn] at he
            have := (j.lo k' hk').2
            omega
          · rfl
        · by_cases hxi : x = i
          · subst hxi
            rw [hbv] at hy
            cases hy
            rw [hσn]
            exact ⟨us, ty, heap_alloc_new _ _, hus.keep hKp⟩
          · rw [hsetne x hxi] at hx
            have hbk : Bn bvs L k := ⟨x, cs', hx, hy⟩
            obtain ⟨us', ty', h6, h7⟩ := j.cell x k cs' hx hy
            rw [hσ k hbk]
            exact ⟨us', ty', by rw [g.block _ (j.lo k hbk).2]; exact h6, h7.keep hKp⟩
        · intro x ox dx tvx hxm hox hdx hLx hbx
          have hxi : x ≠ i := by rintro rfl; rw [hbv] at hbx; cases hbx
          rw [hsetne x hxi] at hLx
          rw [hput, if_neg (fun e => hxi (hinj x i ox o dx hxm him (by simpa using hox) (by simpa using hio) hdx (by rw [hdi, e])))]
          obtain ⟨u, h6, h7⟩ := j.val x ox dx tvx hxm hox hdx hLx hbx
          exact ⟨u, h6, RepT.keep hKp (Nat.le_refl _) (fun _ _ => rfl) hRKw _ _ h7⟩
        · intro x ox dx k cs' hxm hox hdx hLx hbx
          rw [hput]
          by_cases hxi : x = i
          · subst hxi
            rw [hio] at hox
            cases hox
            rw [hdi] at hdx
            cases hdx
            rw [hbv] at hbx
            cases hbx
            rw [if_pos rfl, hσn]
          · rw [hsetne x hxi] at hLx
            rw [if_neg (fun e => hxi (hinj x i ox o dx hxm him (by simpa using hox) (by simpa using hio) hdx (by rw [hdi, e]))), hσ k ⟨x, cs', hLx, hbx⟩]
            exact j.new x ox dx k cs' hxm hox hdx hLx hbx
        · intro t ht
          rw [hput]
          have htd : t ≠ d := by
            rintro rfl
            exact ht i o him hio hdi hset
          rw [if_neg htd]
          refine j.same t (fun x ox hxm hox hdx hLx => ?_)
          by_cases hxi : x = i
          · subst hxi; rw [hli] at hLx; cases hLx
          · exact ht x ox hxm hox hdx (by rw [hsetne x hxi]; exact hLx)
      obtain ⟨dst, op, ty, pos, after, guard⟩ := o
      simp only at hg hbo hheap hev next
      subst hg
      unfold bornB at hbo
      simp only at hbo
      cases op <;> simp only [Bool.false_eq_true] at hbo
      · rename_i t
        simp only [heapF] at hheap
        split at hheap <;> simp only [Option.some.injEq, Prod.mk.injEq, reduceCtorEq, true_and, List.append_cancel_left_eq, List.cons.injEq, and_true] at hheap
        rename_i ti hti
        subst hheap
        obtain ⟨⟨ii, z, g1, g2, g3, g4⟩, _⟩ := hT _ _ hti
        refine wp_value (v := .pointer (some ⟨w1.heap.size, 0, none⟩)) (w' := w1.alloc (.cells z.cells t)) ?_ (next z.cells t (g4 _ _))
        simp [execOp, Instr.alloc, zeroValue, typeInfo, g1, g3, newVar, newRow]
      · rename_i t x
        simp only [heapF] at hheap
        have hH1 := hHOk j
        have hx := rd_rep hH1 (hev x (by simp [Op.operands]))
        rw [← hEh] at hx
        split at hheap <;> try cases hheap
        rename_i av ha
        simp only [Option.map_eq_some_iff, Prod.mk.injEq, true_and, List.append_cancel_left_eq, List.cons.injEq, and_true] at hheap
        obtain ⟨cs', hcs, rfl⟩ := hheap
        rw [ha] at hx
        have hc := cells_rep hcs hx
        rw [hEh] at hc
        refine wp_value (v := .pointer (some ⟨w1.heap.size, 0, none⟩)) (w' := w1.alloc (.cells (a1.eval x).cells t)) ?_ (next (a1.eval x).cells t hc)
        simp [execOp, Instr.box, newVar, newRow]
  · rintro L a1 w1 hall ⟨σ, j⟩
    -- the head is done
    have hBn : ∀ (r : Nat) (x : Bool × List AV), pd'[r]? = some x → Bn bvs L (E.h.length + r) ∧ ∃ cs, x = (true, cs) ∧ ∃ us ty, w1.heap[σ (E.h.length + r)]? = some (.cells us ty (0, 0)) ∧ RepL (MM (ML M0 bvs L σ) ρ E.h) w1 cs us.toList := by
      intro r x hx
      obtain ⟨i, cs, h1, h2⟩ := hn5 r x hx
      have hLi := hall i (hbm i _ h1)
      exact ⟨⟨i, cs, hLi, h1⟩, cs, h2, j.cell i _ cs hLi h1⟩
    let σ' : Nat → Nat := fun n => if n < E.h.length then ρ n else σ n
    have hs1 : ∀ n, n < E.h.length → σ' n = ρ n := fun n hn => if_pos hn
    have hs2 : ∀ n, E.h.length ≤ n → σ' n = σ n := fun n hn => if_neg (by omega)
    have hsplit : ∀ n, n < (E.h ++ pd').length → n < E.h.length ∨ (E.h.length ≤ n ∧ ∃ x : Bool × List AV, pd'[n - E.h.length]? = some x ∧ Bn bvs L n) := by
      intro n hn
      rcases Nat.lt_or_ge n E.h.length with h1 | h1
      · exact .inl h1
      · simp only [List.length_append] at hn
        have h2 : pd'[n - E.h.length]? = some pd'[n - E.h.length] := List.getElem?_eq_getElem (by omega)
        refine .inr ⟨h1, _, h2, ?_⟩
        have := (hBn _ _ h2).1
        rw [Nat.add_sub_cancel' h1] at this
        exact this
    have hKe : Keeps (MM (ML M0 bvs L σ) ρ E.h) (MM M0 σ' (E.h ++ pd')) w1 w1 := Keeps.less fun b hb => by
      rcases hb with hb | ⟨n, cs, hn, rfl⟩
      · exact .inl (.inl hb)
      · rcases hsplit n (List.getElem?_eq_some_iff.1 hn).1 with h1 | ⟨h1, x, hx, hbn⟩
        · rw [List.getElem?_append_left h1] at hn
          exact .inr ⟨n, cs, hn, hs1 n h1⟩
        · exact .inl (.inr ⟨n, hbn, hs2 n h1⟩)
    have hnew : St w0 M0 N ⟨E'.t, E'.h ++ pd'⟩ a1 w1 σ' := by
      rw [he1]
      refine ⟨⟨hst.heap.grow.trans j.grow, fun n hn => ?_, fun n hn => ?_, fun n hn => ?_, fun n k hn hk he => ?_, fun n mm cs hn hne => ?_⟩, by rw [j.defers]; exact h.defers, by rw [j.size]; exact h.size, fun t => ?_⟩
      · rcases hsplit n hn with h1 | ⟨h1, x, hx, hbn⟩
        · rw [hs1 n h1]; exact hst.heap.sep n h1
        · rw [hs2 n h1]
          intro hm0
          have h2 := hl _ hm0
          have h3 := (j.lo n hbn).1
          have h4 := hst.heap.grow.le
          omega
      · rcases hsplit n hn with h1 | ⟨h1, x, hx, hbn⟩
        · rw [hs1 n h1]; exact hst.heap.lo n h1
        · rw [hs2 n h1]
          exact Nat.le_trans hst.heap.grow.le (j.lo n hbn).1
      · rcases hsplit n hn with h1 | ⟨h1, x, hx, hbn⟩
        · rw [hs1 n h1]; exact Nat.lt_of_lt_of_le (hst.heap.hi n h1) j.grow.le
        · rw [hs2 n h1]
          exact (j.lo n hbn).2
      · rcases hsplit n hn with h1 | ⟨h1, x, hx, hbn⟩ <;> rcases hsplit k hk with h2 | ⟨h2, y, hy, hbk⟩
        · rw [hs1 n h1, hs1 k h2] at he
          exact hst.heap.inj n k h1 h2 he
        · rw [hs1 n h1, hs2 k h2] at he
          have := hst.heap.hi n h1
          have := (j.lo k hbk).1
          omega
        · rw [hs2 n h1, hs1 k h2] at he
          have := hst.heap.hi k h2
          have := (j.lo n hbn).1
          omega
        · rw [hs2 n h1, hs2 k h2] at he
          exact j.inj n k hbn hbk he
      · rcases hsplit n (List.getElem?_eq_some_iff.1 hn).1 with h1 | ⟨h1, x, hx, hbn⟩
        · rw [List.getElem?_append_left h1] at hn
          obtain ⟨us, ty, h3, h4⟩ := (hHOk j).rep n mm cs hn hne
          exact ⟨us, ty, by rw [hs1 n h1]; exact h3, h4.keep hKe⟩
        · rw [List.getElem?_append_right h1] at hn
          obtain ⟨_, cs', he', us, ty, h3, h4⟩ := hBn _ _ hn
          cases he'
          rw [Nat.add_sub_cancel' h1] at h3
          exact ⟨us.toList, ty, by rw [hs2 n h1]; simpa using h3, h4.keep hKe⟩
      · have hRK1 : RowsKept ρ E.h (E.h ++ pd') w1 w1 := fun n mm hn => ⟨⟨mm, by rw [List.getElem?_append_left (List.getElem?_eq_some_iff.1 hn).1]; exact hn⟩, fun _ => rfl⟩
        have hkeepT : ∀ tv x, RepT ρ E.h (MM (ML M0 bvs L σ) ρ E.h) w1 tv x → RepT σ' (E.h ++ pd') (MM M0 σ' (E.h ++ pd')) w1 tv x := fun tv x hx => RepT.keep hKe (by simp) hs1 hRK1 tv x hx
        by_cases hex : ∃ i o, i < m ∧ l[i]? = some o ∧ o.dst = some t
        · obtain ⟨i, o, him, hio, hdi⟩ := hex
          have hLi := hall i him
          have hlast : ∀ (k : Nat) (ok : Oper), i < k → (l.take m)[k]? = some ok → ok.dst ≠ some t := fun k ok hik hok hdk => by
            have hkm : k < m := by
              have := (List.getElem?_eq_some_iff.1 hok).1
              omega
            rw [List.getElem?_take, if_pos hkm] at hok
            have := hinj i k o ok t him hkm (by simpa using hio) (by simpa using hok) hdi hdk
            omega
          rw [he2 i o t (by rw [List.getElem?_take, if_pos him]; exact hio) hdi hlast]
          cases hbv : bvs[i]? with
          | none => rw [List.getElem?_eq_none_iff] at hbv; omega
          | some bv =>
            cases bv with
            | val tv =>
              obtain ⟨v, hv, hh⟩ := j.val i o t tv him hio hdi hLi hbv
              rw [Array.getD_eq_getD_getElem?, hv]
              simpa [List.getD, hbv, BV.tv] using hkeepT tv v hh
            | new n cs =>
              have hv := j.new i o t n cs him hio hdi hLi hbv
              obtain ⟨h6, h7⟩ := hn3 i n cs hbv
              have h8 := (List.getElem?_eq_some_iff.1 h7).1
              rw [Array.getD_eq_getD_getElem?, hv]
              have : RepT σ' (E.h ++ pd') (MM M0 σ' (E.h ++ pd')) w1 (.p n 0) (.pointer (some ⟨σ n, 0, none⟩)) := ⟨by simp; omega, by rw [hs2 n h6]⟩
              simpa [List.getD, hbv, BV.tv] using this
        · have hno : ∀ (k : Nat) (ok : Oper), (l.take m)[k]? = some ok → ok.dst ≠ some t := fun k ok hok hdk => by
            have hkm : k < m := by
              have := (List.getElem?_eq_some_iff.1 hok).1
              omega
            rw [List.getElem?_take, if_pos hkm] at hok
            exact hex ⟨k, ok, hkm, hok, hdk⟩
          rw [he3 t hno]
          have hsm : a1.tmps[t]? = a.tmps[t]? := j.same t (fun i o him hio hdi _ => hex ⟨i, o, him, hio, hdi⟩)
          rw [Array.getD_eq_getD_getElem?, hsm, ← Array.getD_eq_getD_getElem?]
          exact hkeepT _ _ (RepT.keep (hK0 j) (Nat.le_refl _) (fun _ _ => rfl) (hRK j.grow) _ _ (hst.tmp t))
    exact aops_list hT hl hK (l.drop m) (fun o ho => hd o (List.mem_of_mem_drop ho)) hnew htl
end
end Go.Proofs.Ythjojkkapboonaa
