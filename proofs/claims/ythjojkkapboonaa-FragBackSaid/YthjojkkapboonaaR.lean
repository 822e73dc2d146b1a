/- A region that draws its order, whose operations only read, compute, make memory and call what only makes the world grow: ONE proof an operation serves every order. No program in sight. -/
import Derived.Test.YthjojkkapboonaaA
import Derived.Orders
import Derived.Deep.Draws
namespace Go.Proofs.Ythjojkkapboonaa
set_option linter.unusedSimpArgs false
set_option linter.unusedVariables false
open Go.RowKit

/-- What is known of an operation's value. -/
inductive Sp where
  | ex (v : Value)
  | rel (R : Value → World → Prop)
def Sp.holds : Sp → Value → World → Prop
  | .ex x, v, _ => v = x
  | .rel R, v, w => R v w
def Sp.at_ (s : Sp) (x : Option Value) (w : World) : Prop := ∃ v, x = some v ∧ s.holds v w
def Sp.stable (s : Sp) : Prop := ∀ v w w', Grow w w' → s.holds v w → s.holds v w'
theorem Sp.stable_ex (v : Value) : (Sp.ex v).stable := fun _ _ _ _ h => h

theorem eval_of {a : Act} {t : Tmp} {v : Value} (h : a.tmps[t]? = some v) : a.eval (.tmp t) = v := by
  simp [Act.eval, h]

def NoQ : Exit → Act → World → Prop := fun _ _ _ => False

section
variable (P : Program) (ops : Array Oper) (m : Nat) (sp : List Sp) (a0 : Act) (w0 : World)

/-- What an operation may lean on: the values in the slots that it reads. -/
def PreL (a : Act) (w : World) : List (Tmp × Option Nat) → Prop
  | [] => True
  | (t, some j) :: r => (sp.getD j (.ex undef)).at_ (a.tmps[t]?) w ∧ PreL a w r
  | (t, none) :: r => a.tmps[t]? = a0.tmps[t]? ∧ PreL a w r

def Ob (o : Oper) (s : Sp) (pre : List (Tmp × Option Nat)) : Prop :=
  ∀ (a : Act) (w : World), Grow w0 w → PreL sp a0 a w pre → ∀ K : Act → World → Prop, (∀ v w', Grow w w' → s.holds v w' → K (a.put o.dst v) w') →
    if Region.wanted o (yielded ops a.tmps) then o.wp P a w K NoQ else K (a.put o.dst undef) w

def ObL : List Oper → List Sp → List (List (Tmp × Option Nat)) → Prop
  | [], _, _ => True
  | o :: os, s :: ss, p :: ps => Ob P ops sp a0 w0 o s p ∧ ObL os ss ps
  | _ :: _, _, _ => False

/-- Binding: operation i waits for operation j. -/
def waitsB (ops : Array Oper) (i j : Nat) : Bool := ((ops[i]?).map fun o => o.after.toList.any fun e => Region.binds .any e && e.on == j).getD false
def preB (ops : Array Oper) (i : Nat) : List (Tmp × Option Nat) → Bool
  | [] => true
  | (t, some j) :: r => ((ops[j]?).map (·.dst) == some (some t)) && waitsB ops i j && preB ops i r
  | (t, none) :: r => ((List.range ops.size).all fun k => ((ops[k]?).map (·.dst) != some (some t)) || waitsB ops k i) && preB ops i r
def preAllB (ops : Array Oper) : Nat → List (List (Tmp × Option Nat)) → Bool
  | _, [] => true
  | i, p :: ps => preB ops i p && preAllB ops (i + 1) ps
/-- i waits for j, through others maybe. -/
def reachB (ops : Array Oper) : Nat → Nat → Nat → Bool
  | 0, _, _ => false
  | fuel + 1, i, j => waitsB ops i j || (List.range ops.size).any fun k => waitsB ops i k && reachB ops fuel k j
/-- The first 'm' operations are the head; behind it all stands in one order. -/
def gammaB (ops : Array Oper) (m : Nat) (pre : List (List (Tmp × Option Nat))) (n : Nat) : Bool :=
  preAllB ops 0 pre && (pre.length == m) && decide (m ≤ ops.size) &&
  ((List.range ops.size).all fun i => ((ops[i]?).map fun (o : Oper) => (decide (m ≤ i) || (match o.dst with | some d => decide (d < n) | none => false)) && o.after.toList.all fun e => !Region.binds .any e || decide (e.on < i)).getD false) &&
  ((List.range m).all fun i => (List.range m).all fun j => i == j || ((ops[i]?).map (·.dst) != (ops[j]?).map (·.dst))) &&
  ((List.range ops.size).all fun k => decide (k < m) || (((List.range m).all fun i => reachB ops ops.size k i) && (k == m || waitsB ops k (k - 1))))

structure GInv (listed : Array Bool) (a : Act) (w : World) : Prop where
  grow : Grow w0 w
  size : a.tmps.size = a0.tmps.size
  defers : a.defers = a0.defers
  lsize : listed.size = ops.size
  val : ∀ (i : Nat) (o : Oper) (d : Tmp), i < m → ops[i]? = some o → o.dst = some d → listed[i]? = some true → (sp.getD i (.ex undef)).at_ (a.tmps[d]?) w
  same : ∀ (t : Tmp), (∀ (i : Nat) (o : Oper), i < m → ops[i]? = some o → o.dst = some t → listed[i]? ≠ some true) → a.tmps[t]? = a0.tmps[t]?
  head : ∀ (k : Nat), m ≤ k → listed[k]? ≠ some true
  closed : ∀ (k j : Nat), listed[k]? = some true → waitsB ops k j = true → listed[j]? = some true

/-- What stands behind the head is asked of whatever values meet what is known. -/
def Fin (Q : Act → World → Prop) (w : World) : List Oper → List Sp → Act → Prop
  | o :: os, .ex x :: ss, a => Fin Q w os ss (a.put o.dst x)
  | o :: os, .rel R :: ss, a => ∀ v, R v w → Fin Q w os ss (a.put o.dst v)
  | _, _, a => Q a w

def StL : List Sp → Prop
  | [] => True
  | s :: ss => s.stable ∧ StL ss
end

theorem wp_of_noQ {P : Program} {o : Oper} {a : Act} {w : World} {K : Act → World → Prop} {Q : Exit → Act → World → Prop} (h : o.wp P a w K NoQ) : o.wp P a w K Q := by
  unfold Oper.wp at *
  generalize (execOp a.eval o).run P w = r at *
  cases r with
  | ok n w' =>
    cases n <;> simp only [Oper.upon] at h ⊢ <;> try exact h
    case enter f args =>
      refine h.mono fun e w'' hh => ?_
      cases e with
      | returned v => exact hh
      | panicked c => exact (hh : False).elim
      | outgrown => obtain ⟨_, _, hh⟩ := hh; exact (hh : False).elim
  | halt x w' =>
    cases x <;> simp only [Oper.upon] at h ⊢ <;> first | exact h | exact (h : False).elim

section
variable {P : Program} {ops : Array Oper} {m : Nat} {sp : List Sp} {a0 : Act} {w0 : World} {pre : List (List (Tmp × Option Nat))}

theorem preAllB_get : ∀ {ps : List (List (Tmp × Option Nat))} {i k : Nat}, preAllB ops i ps = true → k < ps.length → preB ops (i + k) (ps.getD k []) = true
  | [], _, k, _, h => absurd h (by simp)
  | p :: ps, i, 0, h, _ => by simp only [preAllB, Bool.and_eq_true] at h; simpa using h.1
  | p :: ps, i, k + 1, h, hk => by
    simp only [preAllB, Bool.and_eq_true] at h
    have := preAllB_get (k := k) h.2 (by simpa using hk)
    rw [show i + (k + 1) = i + 1 + k by omega]
    simpa using this

theorem obL_get : ∀ {os : List Oper} {ss : List Sp} {ps : List (List (Tmp × Option Nat))} {k : Nat} {o : Oper}, ObL P ops sp a0 w0 os ss ps → os[k]? = some o → Ob P ops sp a0 w0 o (ss.getD k (.ex undef)) (ps.getD k [])
  | [], _, _, k, o, _, h => by simp at h
  | o' :: os, s :: ss, p :: ps, 0, o, h, ho => by
    obtain rfl : o' = o := by simpa using ho
    exact h.1
  | o' :: os, s :: ss, p :: ps, k + 1, o, h, ho => by
    have := obL_get (k := k) h.2 (by simpa using ho)
    simpa using this
  | _ :: _, [], _, _, _, h, _ => h.elim
  | _ :: _, _ :: _, [], _, _, h, _ => h.elim

theorem waitsB_iff {i j : Nat} : waitsB ops i j = true ↔ ∃ o, ops[i]? = some o ∧ ∃ e ∈ o.after, Region.binds .any e = true ∧ e.on = j := by
  unfold waitsB
  cases ho : ops[i]? with
  | none => simp
  | some o =>
    simp only [Option.map_some, Option.getD_some, List.any_eq_true, Bool.and_eq_true, beq_iff_eq, Option.some.injEq, exists_eq_left', Array.mem_toList_iff]
theorem waitsB_listed {i j : Nat} {listed : Array Bool} (hr : i ∈ Region.ready .any ops listed) (h : waitsB ops i j = true) : listed[j]? = some true := by
  obtain ⟨_, o, ho, hall⟩ := mem_ready.1 hr
  obtain ⟨o', ho', e, he, hb, rfl⟩ := waitsB_iff.1 h
  obtain rfl : o = o' := Option.some.inj (ho.symm.trans ho')
  have := hall e he hb
  rw [Array.getD_eq_getD_getElem?] at this
  cases hj : listed[e.on]? with
  | none => rw [hj] at this; simp at this
  | some b => rw [hj] at this; simp at this; rw [this]

theorem preL_of_inv {i : Nat} {listed : Array Bool} {a : Act} {w : World} (hI : GInv ops m sp a0 w0 listed a w) (hr : i ∈ Region.ready .any ops listed) :
    ∀ {p : List (Tmp × Option Nat)}, preB ops i p = true → PreL sp a0 a w p
  | [], _ => trivial
  | (t, some j) :: r, h => by
    simp only [preB, Bool.and_eq_true, beq_iff_eq] at h
    obtain ⟨⟨h1, h2⟩, h3⟩ := h
    cases hj : ops[j]? with
    | none => rw [hj] at h1; simp at h1
    | some oj =>
      rw [hj] at h1
      have hlj := waitsB_listed hr h2
      have hjm : j < m := by
        rcases Nat.lt_or_ge j m with h | h
        · exact h
        · exact absurd hlj (hI.head j h)
      exact ⟨hI.val j oj t hjm hj (by simpa using h1) hlj, preL_of_inv hI hr h3⟩
  | (t, none) :: r, h => by
    simp only [preB, Bool.and_eq_true, List.all_eq_true, List.mem_range, Bool.or_eq_true] at h
    obtain ⟨h1, h2⟩ := h
    refine ⟨hI.same t fun k o hkm hk hd hl => ?_, preL_of_inv hI hr h2⟩
    have hlt := (Array.getElem?_eq_some_iff.1 hk).1
    rcases h1 k hlt with h3 | h3
    · rw [hk] at h3
      simp [hd] at h3
    · have hun := (mem_ready.1 hr).1
      have h4 := hI.closed k i hl h3
      rw [Array.getD_eq_getD_getElem?, h4] at hun
      simp at hun

/-- How many are not listed yet. -/
def unl : Nat → Array Bool → Nat
  | 0, _ => 0
  | n + 1, L => unl n L + (if L[n]? = some true then 0 else 1)
theorem unl_ge : ∀ (n i : Nat) (L : Array Bool), n ≤ i → unl n (L.setIfInBounds i true) = unl n L
  | 0, _, _, _ => rfl
  | n + 1, i, L, h => by
    simp only [unl]
    rw [unl_ge n i L (by omega), Array.getElem?_setIfInBounds_ne (by omega)]
theorem unl_set : ∀ (n i : Nat) (L : Array Bool), i < n → L[i]? = some false → unl n (L.setIfInBounds i true) + 1 = unl n L
  | 0, _, _, h, _ => absurd h (by omega)
  | n + 1, i, L, h, hf => by
    simp only [unl]
    by_cases hi : i = n
    · subst hi
      rw [unl_ge i i L (Nat.le_refl _)]
      have : i < L.size := (Array.getElem?_eq_some_iff.1 hf).1
      rw [if_neg (show ¬ L[i]? = some true by rw [hf]; simp)]
      simp [this]
    · have := unl_set n i L (by omega) hf
      rw [Array.getElem?_setIfInBounds_ne (by omega)]
      omega
theorem unl_zero : ∀ (n : Nat) (L : Array Bool), unl n L = 0 → ∀ i, i < n → L[i]? = some true
  | 0, _, _, i, h => absurd h (by omega)
  | n + 1, L, h, i, hi => by
    simp only [unl] at h
    by_cases hin : i = n
    · subst hin
      by_cases hl : L[i]? = some true
      · exact hl
      · rw [if_neg hl] at h; omega
    · exact unl_zero n L (by omega) i (by omega)
theorem unl_all : ∀ (n : Nat) (L : Array Bool), (∀ i, i < n → L[i]? = some true) → unl n L = 0
  | 0, _, _ => rfl
  | n + 1, L, h => by simp only [unl]; rw [unl_all n L (fun i hi => h i (by omega)), if_pos (h n (by omega))]
theorem unl_new (n m : Nat) (h : n ≤ m) : unl n (Array.replicate m false) = n := by
  induction n with
  | zero => rfl
  | succ n ih =>
    simp only [unl]
    rw [ih (by omega)]
    have : n < m := by omega
    simp [this]

theorem gammaB_parts {n : Nat} (hB : gammaB ops m pre n = true) :
    preAllB ops 0 pre = true ∧ pre.length = m ∧ m ≤ ops.size ∧
    (∀ (i : Nat) (o : Oper), ops[i]? = some o → (i < m → ∃ d, o.dst = some d ∧ d < n) ∧ ∀ e ∈ o.after, Region.binds .any e = true → e.on < i) ∧
    (∀ (i j : Nat) (oi oj : Oper) (d : Tmp), i < m → j < m → ops[i]? = some oi → ops[j]? = some oj → oi.dst = some d → oj.dst = some d → i = j) ∧
    (∀ k, m ≤ k → k < ops.size → (∀ i, i < m → reachB ops ops.size k i = true) ∧ (k = m ∨ waitsB ops k (k - 1) = true)) := by
  simp only [gammaB, Bool.and_eq_true, beq_iff_eq, decide_eq_true_eq] at hB
  obtain ⟨⟨⟨⟨⟨h1, h2⟩, h3⟩, h4⟩, h5⟩, h6⟩ := hB
  refine ⟨h1, h2, h3, fun i o ho => ?_, fun i j oi oj d him hjm hi hj di dj => ?_, fun k hk hks => ?_⟩
  · have h := List.all_eq_true.1 h4 i (List.mem_range.2 (Array.getElem?_eq_some_iff.1 ho).1)
    rw [ho] at h
    simp only [Option.map_some, Option.getD_some, Bool.and_eq_true, Bool.or_eq_true, decide_eq_true_eq] at h
    obtain ⟨h7, h8⟩ := h
    refine ⟨fun him => ?_, fun e he hb => ?_⟩
    · rcases h7 with h7 | h7
      · omega
      · cases hd : o.dst with
        | none => rw [hd] at h7; cases h7
        | some d => rw [hd] at h7; exact ⟨d, rfl, by simpa using h7⟩
    · have := List.all_eq_true.1 h8 e (by simpa using he)
      simpa [hb] using this
  · have h := List.all_eq_true.1 (List.all_eq_true.1 h5 i (List.mem_range.2 him)) j (List.mem_range.2 hjm)
    rw [hi, hj] at h
    simpa [di, dj] using h
  · have h := List.all_eq_true.1 h6 k (List.mem_range.2 hks)
    simp only [Bool.or_eq_true, Bool.and_eq_true, decide_eq_true_eq, beq_iff_eq] at h
    rcases h with h | h
    · omega
    · exact ⟨fun i hi => List.all_eq_true.1 h.1 i (List.mem_range.2 hi), h.2⟩

theorem reach_listed {listed : Array Bool} (hc : ∀ (k j : Nat), listed[k]? = some true → waitsB ops k j = true → listed[j]? = some true) :
    ∀ (fuel i j : Nat), (∀ j, waitsB ops i j = true → listed[j]? = some true) → reachB ops fuel i j = true → listed[j]? = some true
  | 0, _, _, _, h => by cases h
  | fuel + 1, i, j, hi, h => by
    simp only [reachB, Bool.or_eq_true, List.any_eq_true, Bool.and_eq_true] at h
    rcases h with h | ⟨k, _, h1, h2⟩
    · exact hi j h
    · exact reach_listed hc fuel k j (fun j' hw => hc k j' (hi k h1) hw) h2

theorem fin_of {Q : Act → World → Prop} {w : World} {a : Act} : ∀ (os : List Oper) (ss : List Sp) (b : Act), ss.length ≤ os.length → b.tmps.size = a.tmps.size → b.defers = a.defers →
    (∀ (i : Nat) (o : Oper), i < ss.length → os[i]? = some o → ∃ d, o.dst = some d ∧ d < a.tmps.size ∧ (ss.getD i (.ex undef)).at_ (a.tmps[d]?) w) →
    (∀ (t : Tmp), (∀ (i : Nat) (o : Oper), i < ss.length → os[i]? = some o → o.dst ≠ some t) → a.tmps[t]? = b.tmps[t]?) →
    Fin Q w os ss b → Q a w
  | os, [], b, _, hsz, hdf, _, hsame, h => by
    have e : b = a := by
      cases a; cases b
      simp only at *
      subst hdf
      congr 1
      apply Array.ext_getElem?
      intro t
      exact (hsame t (fun i o hi ho => by simp at hi)).symm
    subst e
    cases os <;> exact h
  | o :: os, s :: ss, b, hl, hsz, hdf, hval, hsame, h => by
    obtain ⟨d, hd, hlt, v, hv, hh⟩ := hval 0 o (by simp) rfl
    have hsh : s.holds v w := by simpa using hh
    have key : Fin Q w os ss (b.put o.dst v) := by
      cases s with
      | ex x => obtain rfl : v = x := hsh; exact h
      | rel R => exact h v hsh
    refine fin_of os ss (b.put o.dst v) (by simpa using hl) ?_ ?_ (fun i o' hi' ho' => ?_) (fun t ht => ?_) key
    · simp [Act.put, hd, hsz]
    · simp [Act.put, hd, hdf]
    · have := hval (i + 1) o' (by simpa using hi') (by simpa using ho')
      simpa using this
    · by_cases htd : t = d
      · subst htd
        have : t < b.tmps.size := Nat.lt_of_lt_of_eq hlt hsz.symm
        rw [hv]
        simp [Act.put, hd, this]
      · have h1 : (b.put o.dst v).tmps[t]? = b.tmps[t]? := by
          simp only [Act.put, hd]
          exact Array.getElem?_setIfInBounds_ne (Ne.symm htd)
        rw [h1]
        refine hsame t (fun i o' hi' ho' hd' => ?_)
        cases i with
        | zero =>
          obtain rfl : o = o' := by simpa using ho'
          rw [hd] at hd'
          exact htd (Option.some.inj hd').symm
        | succ i => exact ht i o' (by simpa using hi') (by simpa using ho') hd'
  | [], _ :: _, _, hl, _, _, _, _, _ => by simp at hl

theorem wpOp_mono' {Q : Exit → Act → World → Prop} {i : Nat} {a : Act} {w : World} {K K' : Act → World → Prop} (h : ∀ a w, K a w → K' a w) (hh : wpOp P ops Q i K a w) : wpOp P ops Q i K' a w := by
  unfold wpOp at *
  split
  · rename_i ho; simp only [ho] at hh; exact h _ _ hh
  · rename_i o ho
    simp only [ho] at hh
    split
    · rename_i hw
      rw [if_pos hw] at hh
      exact hh.imp (Oper.wp_mono h) id
    · rename_i hw
      rw [if_neg hw] at hh
      exact h _ _ hh

theorem tail_any {n : Nat} {Q : Exit → Act → World → Prop} (hB : gammaB ops m pre n = true) : ∀ (f k : Nat) (listed : Array Bool) (a : Act) (w : World), ops.size = k + f → m ≤ k → listed.size = ops.size →
    (∀ j, j < k → listed[j]? = some true) → (∀ j, k ≤ j → listed[j]? ≠ some true) → wpList P ops Q (ops.toList.drop k) a w → wpAny P .any ops Q f listed a w := by
  obtain ⟨_, _, _, hback, _, htail⟩ := gammaB_parts hB
  intro f
  induction f with
  | zero =>
    intro k listed a w hs hk hls h1 h2 h
    have he : ops.toList.drop k = [] := by rw [List.drop_eq_nil_iff]; simp; omega
    rw [he] at h
    refine ⟨?_, h⟩
    apply List.eq_nil_iff_forall_not_mem.2
    intro i hi
    obtain ⟨h3, o, ho, _⟩ := mem_ready.1 hi
    rw [Array.getD_eq_getD_getElem?, h1 i (by have := (Array.getElem?_eq_some_iff.1 ho).1; omega)] at h3
    simp at h3
  | succ f ih =>
    intro k listed a w hs hk hls h1 h2 h
    have hks : k < ops.size := by omega
    have hlk : listed[k]? = some false := by
      cases hh : listed[k]? with
      | none => rw [Array.getElem?_eq_none_iff] at hh; omega
      | some b => cases b with
        | false => rfl
        | true => exact absurd hh (h2 k (Nat.le_refl _))
    have hmem : k ∈ Region.ready .any ops listed := by
      refine mem_ready.2 ⟨by rw [Array.getD_eq_getD_getElem?, hlk]; rfl, ops[k], by simp [hks], fun e he hb => ?_⟩
      have := (hback k ops[k] (by simp [hks])).2 e he hb
      rw [Array.getD_eq_getD_getElem?, h1 e.on this]
      rfl
    refine ⟨fun hr => (by rw [hr] at hmem; cases hmem), fun i hi => ?_⟩
    have hik : i = k := by
      obtain ⟨h3, o, ho, _⟩ := mem_ready.1 hi
      have hi' := (Array.getElem?_eq_some_iff.1 ho).1
      rcases Nat.lt_trichotomy i k with h4 | h4 | h4
      · rw [Array.getD_eq_getD_getElem?, h1 i h4] at h3
        simp at h3
      · exact h4
      · rcases (htail i (by omega) hi').2 with h5 | h5
        · omega
        · exact absurd (waitsB_listed hi h5) (h2 (i - 1) (by omega))
    subst hik
    have hd : ops.toList.drop i = ops[i] :: ops.toList.drop (i + 1) := by
      rw [List.drop_eq_getElem_cons (by simpa using hks)]
      simp
    rw [hd] at h
    have hop : wpOp P ops Q i (wpList P ops Q (ops.toList.drop (i + 1))) a w := by
      unfold wpOp
      rw [show ops[i]? = some ops[i] by simp [hks]]
      simpa only [wpList] using h
    refine wpOp_mono' (fun a' w' h' => ih (i + 1) _ a' w' (by omega) (by omega) (by simpa using hls) (fun j hj => ?_) (fun j hj => ?_) h') hop
    · by_cases hji : j = i
      · subst hji; simp [hls, hks]
      · rw [Array.getElem?_setIfInBounds_ne (Ne.symm hji)]; exact h1 j (by omega)
    · rw [Array.getElem?_setIfInBounds_ne (by omega)]; exact h2 j (by omega)

theorem stL_get : ∀ {ss : List Sp}, StL ss → ∀ s ∈ ss, Sp.stable s
  | [], _, s, h => by cases h
  | s' :: ss, h, s, hs => by
    rcases List.mem_cons.1 hs with rfl | hs
    · exact h.1
    · exact stL_get h.2 s hs

theorem gamma_any {n : Nat} {Q : Exit → Act → World → Prop} (hB : gammaB ops m pre n = true) (hn : a0.tmps.size = n) (hsl : sp.length = m) (hst : StL sp)
    (hob : ObL P ops sp a0 w0 (ops.toList.take m) sp pre) (hfin : ∀ w, Grow w0 w → Fin (wpList P ops Q (ops.toList.drop m)) w ops.toList sp a0) :
    ∀ (fuel : Nat) (listed : Array Bool) (a : Act) (w : World), unl m listed + (ops.size - m) = fuel → GInv ops m sp a0 w0 listed a w → wpAny P .any ops Q fuel listed a w := by
  obtain ⟨hpreB, hprel, hms, hback, hinj, htail⟩ := gammaB_parts hB
  have done : ∀ (fuel : Nat) (listed : Array Bool) (a : Act) (w : World), unl m listed + (ops.size - m) = fuel → GInv ops m sp a0 w0 listed a w → unl m listed = 0 → wpAny P .any ops Q fuel listed a w := by
    intro fuel listed a w hf hI h0
    have hall := unl_zero _ _ h0
    refine tail_any hB fuel m listed a w (by omega) (Nat.le_refl _) hI.lsize (fun j hj => hall j hj) hI.head ?_
    refine fin_of ops.toList sp a0 (by rw [hsl]; simpa using hms) hI.size.symm hI.defers.symm (fun i o hi ho => ?_) (fun t ht => ?_) (hfin w hI.grow)
    · have ho' : ops[i]? = some o := by simpa using ho
      obtain ⟨d, hd, hlt⟩ := (hback i o ho').1 (by omega)
      exact ⟨d, hd, by rw [hI.size, hn]; exact hlt, hI.val i o d (by omega) ho' hd (hall i (by omega))⟩
    · exact hI.same t (fun i o him ho hd => absurd hd (ht i o (by omega) (by simpa using ho)))
  intro fuel
  induction fuel with
  | zero => intro listed a w hf hI; exact done 0 listed a w hf hI (by omega)
  | succ fuel ih =>
    intro listed a w hf hI
    by_cases h0 : unl m listed = 0
    · exact done _ listed a w hf hI h0
    -- some operation of the head is not listed yet: the least such one is ready
    have hsome : ∃ i, i < m ∧ listed[i]? ≠ some true := by
      apply Classical.byContradiction
      intro hno
      exact h0 (unl_all m listed (fun i hi => Classical.byContradiction (fun hh => hno ⟨i, hi, hh⟩)))
    have hleast : ∃ i, i < m ∧ i ∈ Region.ready .any ops listed := by
      obtain ⟨i, him, hil⟩ := hsome
      induction i using Nat.strongRecOn with
      | _ i ihi =>
        by_cases hex : ∃ j, j < i ∧ listed[j]? ≠ some true
        · obtain ⟨j, hj, hjl⟩ := hex
          exact ihi j hj (by omega) hjl
        · refine ⟨i, him, mem_ready.2 ⟨?_, ops[i]'(by omega), by simp [show i < ops.size by omega], fun e he hb => ?_⟩⟩
          · rw [Array.getD_eq_getD_getElem?]
            cases h : listed[i]? with
            | none => rw [Array.getElem?_eq_none_iff] at h; have := hI.lsize; omega
            | some b => cases b with
              | true => exact absurd h hil
              | false => rfl
          · have h1 := (hback i (ops[i]'(by omega)) (by simp [show i < ops.size by omega])).2 e he hb
            have h2 : listed[e.on]? = some true := Classical.byContradiction (fun hh => hex ⟨e.on, h1, hh⟩)
            rw [Array.getD_eq_getD_getElem?, h2]
            rfl
    refine ⟨fun hr => (by obtain ⟨i, _, hi⟩ := hleast; rw [hr] at hi; cases hi), fun i hi => ?_⟩
    obtain ⟨hun, o, ho, hall⟩ := mem_ready.1 hi
    have hlt := (Array.getElem?_eq_some_iff.1 ho).1
    have hli : listed[i]? = some false := by
      rw [Array.getD_eq_getD_getElem?] at hun
      cases h : listed[i]? with
      | none => rw [Array.getElem?_eq_none_iff] at h; have := hI.lsize; omega
      | some b => cases b with
        | false => rfl
        | true => rw [h] at hun; simp at hun
    have him : i < m := by
      rcases Nat.lt_or_ge i m with h | h
      · exact h
      · exfalso
        obtain ⟨j, hj, hjl⟩ := hsome
        exact hjl (reach_listed hI.closed ops.size i j (fun j' hw => waitsB_listed hi hw) ((htail i h hlt).1 j hj))
    obtain ⟨d, hd, hdn⟩ := (hback i o ho).1 him
    have hpre : preB ops i (pre.getD i []) = true := by
      have := preAllB_get (i := 0) (k := i) hpreB (by omega)
      simpa using this
    have hO := obL_get hob (k := i) (o := o) (by rw [List.getElem?_take, if_pos him]; simpa using ho)
    have next : ∀ v w', Grow w w' → (sp.getD i (.ex undef)).holds v w' → wpAny P .any ops Q fuel (listed.setIfInBounds i true) (a.put o.dst v) w' := by
      intro v w' hg hh
      refine ih _ _ _ (by have := unl_set m i listed him hli; omega) ?_
      have hstab : ∀ (j : Nat) x, (sp.getD j (.ex undef)).at_ x w → (sp.getD j (.ex undef)).at_ x w' := by
        intro j x ⟨u, hu, hh'⟩
        refine ⟨u, hu, ?_⟩
        by_cases hj : j < sp.length
        · have hm : sp.getD j (.ex undef) ∈ sp := by
            rw [List.getD, List.getElem?_eq_getElem hj]
            exact List.getElem_mem _
          exact stL_get hst _ hm u w w' hg hh'
        · have e : sp.getD j (.ex undef) = .ex undef := by simp [List.getD, List.getElem?_eq_none (by omega : sp.length ≤ j)]
          rw [e] at hh' ⊢
          exact hh'
      have hput : ∀ (t : Tmp), (a.put o.dst v).tmps[t]? = if t = d then some v else a.tmps[t]? := by
        intro t
        simp only [Act.put, hd]
        by_cases ht : t = d
        · subst ht
          have : t < a.tmps.size := by rw [hI.size, hn]; exact hdn
          simp [this]
        · rw [if_neg ht, Array.getElem?_setIfInBounds_ne (Ne.symm ht)]
      refine ⟨hI.grow.trans hg, by simp [Act.put, hd, hI.size], by simp [Act.put, hd, hI.defers], by simp [hI.lsize], ?_, ?_, ?_, ?_⟩
      · intro k ok dk hkm hk hdk hlk
        rw [hput]
        by_cases hki : k = i
        · subst hki
          obtain rfl : o = ok := Option.some.inj (ho.symm.trans hk)
          rw [hd] at hdk
          obtain rfl := Option.some.inj hdk
          rw [if_pos rfl]
          exact ⟨v, rfl, hh⟩
        · rw [if_neg (fun e => hki (hinj k i ok o dk hkm him hk ho hdk (by rw [hd, e])))]
          rw [Array.getElem?_setIfInBounds_ne (Ne.symm hki)] at hlk
          exact hstab k _ (hI.val k ok dk hkm hk hdk hlk)
      · intro t ht
        rw [hput]
        have htd : t ≠ d := by
          rintro rfl
          exact ht i o him ho hd (by have := hI.lsize; simp [this, hlt])
        rw [if_neg htd]
        refine hI.same t (fun k ok hkm hk hdk hlk => ?_)
        by_cases hki : k = i
        · subst hki; rw [hli] at hlk; cases hlk
        · exact ht k ok hkm hk hdk (by rw [Array.getElem?_setIfInBounds_ne (Ne.symm hki)]; exact hlk)
      · intro k hk
        rw [Array.getElem?_setIfInBounds_ne (by omega)]
        exact hI.head k hk
      · intro k j hk hw
        have hmono : ∀ (j : Nat), listed[j]? = some true → (listed.setIfInBounds i true)[j]? = some true := by
          intro j hj
          by_cases hji : j = i
          · subst hji; rw [hli] at hj; cases hj
          · rw [Array.getElem?_setIfInBounds_ne (Ne.symm hji)]; exact hj
        by_cases hki : k = i
        · subst hki
          exact hmono j (waitsB_listed hi hw)
        · rw [Array.getElem?_setIfInBounds_ne (Ne.symm hki)] at hk
          exact hmono j (hI.closed k j hk hw)
    have hstep := hO a w hI.grow (preL_of_inv hI hi hpre) (wpAny P .any ops Q fuel (listed.setIfInBounds i true)) next
    unfold wpOp
    simp only [ho]
    split
    · rename_i hw
      rw [if_pos hw] at hstep
      exact .inl (wp_of_noQ hstep)
    · rename_i hw
      rw [if_neg hw] at hstep
      exact hstep

/-- THE RULE: the first m operations in whatever order, one proof each; the others behind them, in one order. -/
theorem wp_gamma {id : Nat} {Q : Exit → Act → World → Prop} {a : Act} {w : World} {l : List Oper} (hm : P.follows .mixedOrders = true) (m n : Nat) (pre : List (List (Tmp × Option Nat))) (sp : List Sp)
    (hB : gammaB l.toArray m pre n = true) (hn : a.tmps.size = n) (hsl : sp.length = m) (hst : StL sp)
    (hob : ObL P l.toArray sp a w.drew (l.take m) sp pre) (hfin : ∀ w', Grow w.drew w' → Fin (wpList P l.toArray Q (l.drop m)) w' l sp a) : (Code.region id l.toArray true).wp P Q a w := by
  refine wp_region_any hm ?_
  have h := gamma_any (P := P) (Q := Q) (w0 := w.drew) hB hn hsl hst (by simpa using hob) (by simpa using hfin) l.toArray.size (Array.replicate l.toArray.size false) a w.drew ?_ ?_
  · exact h
  · have := (gammaB_parts hB).2.2.1
    rw [unl_new _ _ this]
    omega
  · have hno : ∀ (k : Nat), (Array.replicate l.toArray.size false)[k]? ≠ some true := by
      intro k hl
      rw [Array.getElem?_replicate] at hl
      split at hl <;> cases hl
    exact ⟨Grow.refl _, rfl, rfl, by simp, fun i o d _ _ _ hl => absurd hl (hno i), fun _ _ => rfl, fun k _ => hno k, fun k j hl => absurd hl (hno k)⟩

end
end Go.Proofs.Ythjojkkapboonaa
