/- A region that draws its order, in whose head one row grows: what is known in the text's order is known in every order. No program in sight. -/
import Derived.Test.YthjojkkapboonaaBL
namespace Go.Proofs.Ythjojkkapboonaa
set_option linter.unusedSimpArgs false
set_option linter.unusedVariables false
open Go.RowKit

/-- What only reads and builds. -/
def plainOp : Op → Bool
  | .fieldAddr .. => true
  | .load .. => true
  | .buildSlice .. => true
  | _ => false
/-- The first j operations stand before the append, the others of the head beside it. -/
def appAt : Option Oper → Option Tmp
  | some ⟨some d, .call ⟨.builtin .append, ⟨[_, _]⟩, ⟨[_, _]⟩⟩, _, _, _, none⟩ => some d
  | _ => none
def besideB (ops : Array Oper) (d : Tmp) : Option Oper → Bool
  | some o => plainOp o.op && o.guard.isNone && !(o.looksAt ops).contains d
  | none => false
def drawA (N j m : Nat) (ops : Array Oper) : Bool :=
  decide (j < m) && decide (m ≤ ops.size) && ((ops.toList.take j).all fun o => !isHeap o.op && o.guard.isNone) &&
  (match appAt ops[j]? with | some d => (List.range m).all fun i => decide (i ≤ j) || besideB ops d ops[i]? | none => false) &&
  ((List.range j).all fun i => reachB ops ops.size j i) && gammaF ops m (preAll ops m) N

def rowAt (t : List (Nat × TV)) : Op → Prop
  | .call ⟨.builtin .append, ⟨[x, _]⟩, _⟩ => match evT t x with | .r _ _ _ _ => True | _ => False
  | _ => False
/-- So many operations, then the append, then the others. -/
def aopsA (P : Program) (T : Nat → Option TI) (all : Array Oper) (K : AE → Prop) : Nat → Nat → List Oper → AE → Prop
  | _, _, [], E => False
  | 0, k, o :: os, E => rowAt E.t o.op ∧ aops P T all K k (o :: os) E
  | j + 1, k, o :: os, E => AStep false P T o.dst E (aopsA P T all K j (k - 1) os) o.op

theorem dropV_dropV (n : Nat) (t : TV) : dropV n (dropV n t) = dropV n t := by
  cases t with
  | p m o => by_cases h : m = n <;> simp [dropV, h]
  | s m o l => by_cases h : m = n <;> simp [dropV, h]
  | r m e k a => by_cases h : m = n <;> simp [dropV, h]
  | it m s p => by_cases h : m = n <;> simp [dropV, h]
  | _ => rfl

section
variable {P : Program} {T : Nat → Option TI} {H : List (Bool × List AV)} {ev ev' : Operand → TV} {n : Nat}
theorem cellsF_any : cellsF .any = none := rfl
theorem partsF_any {F : Nat → Option (Nat × Nat)} : ∀ (ps : List (Nat × Operand)) (qs : List (Nat × AV)) (cs r : List AV), partsF ev' ps = some qs → fillF F cs qs = some r → (∀ p ∈ ps, ev' p.2 = ev p.2 ∨ ev' p.2 = .v .any) → partsF ev ps = some qs
  | [], qs, cs, r, h, _, _ => h
  | (i, x) :: ps, qs, cs, r, h, hf, he => by
    simp only [partsF] at h ⊢
    split at h <;> try cases h
    rename_i a ha
    simp only [Option.map_eq_some_iff] at h
    obtain ⟨qs', h1, rfl⟩ := h
    simp only [fillF] at hf
    split at hf <;> try cases hf
    rename_i off size ds h2 h3
    split at hf <;> try cases hf
    have hx : ev x = .v a := by
      rcases he (i, x) (by simp) with h4 | h4
      · rw [← h4]; exact ha
      · rw [ha] at h4
        cases h4
        rw [cellsF_any] at h3
        cases h3
    rw [hx]
    have := partsF_any ps qs' _ r h1 hf (fun p hp => he p (by simp [hp]))
    simp [this]

/-- What is known of more goes as what is known of less. -/
theorem hopF_more {op : Op} {c : Prop} {tv : TV} (hp : plainOp op = true) (he : ∀ x ∈ op.operands, ev' x = ev x ∨ ev' x = .v .any) (h : hopF T ev' H op = some (c, tv)) : hopF T ev H op = some (c, tv) := by
  have hr : ∀ x ∈ op.operands, rd H (ev' x) = rd H (ev x) ∨ rd H (ev' x) = .v .any := fun x hx => by
    rcases he x hx with h1 | h1
    · exact .inl (by rw [h1])
    · exact .inr (by rw [h1]; rfl)
  cases op with
  | load t x =>
    have hx := hr x (by simp [Op.operands])
    simp only [hopF, hopG] at h ⊢
    rcases hx with hx | hx
    · rw [hx] at h; exact h
    · rw [hx] at h
      split at h <;> cases h
  | fieldAddr t x f =>
    have hx := hr x (by simp [Op.operands])
    simp only [hopF, hopG] at h ⊢
    rcases hx with hx | hx
    · rw [hx] at h; exact h
    · rw [hx] at h
      split at h <;> try cases h
      split at h <;> cases h
  | buildSlice t len ps =>
    simp only [hopF, hopG] at h ⊢
    split at h <;> try cases h
    rename_i qs hq
    have hfill : ∃ F cs r, fillF F cs qs = some r := by
      simp only [Option.map_eq_some_iff] at h
      obtain ⟨r, h1, _⟩ := h
      unfold makeSF at h1
      split at h1 <;> try cases h1
      split at h1 <;> try cases h1
      split at h1 <;> try cases h1
      rename_i cs hf
      exact ⟨_, _, _, hf⟩
    obtain ⟨F, cs, r, hf⟩ := hfill
    have := partsF_any (ev := fun x => rd H (ev x)) ps.toList qs cs r hq hf (fun p hp => hr p.2 (by
      simp only [Op.operands]
      exact Array.mem_toList_iff.1 (by simpa using ⟨p.1, by simpa using hp⟩) ))
    rw [this]
    exact h
  | _ => cases hp
/-- It makes no slice of a row. -/
theorem hopF_drop {op : Op} {c : Prop} {tv : TV} (hp : plainOp op = true) (he : ∀ x ∈ op.operands, dropV n (ev x) = ev x) (h : hopF T ev H op = some (c, tv)) : dropV n tv = tv := by
  cases op with
  | load t x =>
    simp only [hopF, hopG] at h
    split at h <;> try cases h
    split at h <;> try cases h
    · split at h <;> try cases h
      simp only [Option.map_eq_some_iff, Prod.mk.injEq] at h
      obtain ⟨r, _, _, rfl⟩ := h
      rfl
    · simp only [Option.map_eq_some_iff, Prod.mk.injEq] at h
      obtain ⟨r, _, _, rfl⟩ := h
      rfl
  | fieldAddr t x f =>
    have hx := he x (by simp [Op.operands])
    simp only [hopF, hopG] at h
    split at h <;> try cases h
    split at h <;> try cases h
    split at h <;> try cases h
    · rename_i m off hm
      have hxm : ev x = .p m off := by
        revert hm
        cases ev x with
        | v a => intro h; cases h
        | p m o => intro h; exact h
        | q cs => intro h; cases h
        | s m o l =>
          simp only [rd]
          split
          · split
            · intro h; cases h
            · intro h; cases h
          · intro h; cases h
        | r m e k a =>
          simp only [rd]
          split <;> intro h <;> cases h
        | z => intro h; cases h
        | it m s p => intro h; cases h
      rw [hxm] at hx
      simp only [dropV] at hx ⊢
      split at hx
      · cases hx
      · rename_i hne
        rw [if_neg hne]
    · rfl
  | buildSlice t len ps =>
    simp only [hopF, hopG] at h
    split at h <;> try cases h
    simp only [Option.map_eq_some_iff, Prod.mk.injEq] at h
    obtain ⟨r, _, _, rfl⟩ := h
    rfl
  | _ => cases hp
end

theorem dropV_or (n : Nat) (t : TV) : dropV n t = t ∨ dropV n t = .v .any := by
  cases t with
  | p m o => by_cases h : m = n <;> simp [dropV, h]
  | s m o l => by_cases h : m = n <;> simp [dropV, h]
  | r m e k a => by_cases h : m = n <;> simp [dropV, h]
  | it m s p => by_cases h : m = n <;> simp [dropV, h]
  | v a => exact .inl rfl
  | q cs => exact .inl rfl
  | z => exact .inl rfl
theorem dropV_const (n : Nat) (v : Value) : dropV n (constT v) = constT v := by
  unfold constT
  split <;> rfl

section
variable {P : Program} {T : Nat → Option TI} {all : Array Oper}
theorem run_end {l : List Oper} {E E' : AE} {tvs : List TV} (h : Run P T all l E tvs E') : E'.h = E.h ∧
    (∀ (j : Nat) (oj : Oper) (t : Nat), l[j]? = some oj → oj.dst = some t → (∀ (k : Nat) (ok : Oper), j < k → l[k]? = some ok → ok.dst ≠ some t) → lk E'.t t = tvs.getD j (.v .any)) ∧
    (∀ (t : Nat), (∀ (k : Nat) (ok : Oper), l[k]? = some ok → ok.dst ≠ some t) → lk E'.t t = lk E.t t) := by
  induction h with
  | nil => exact ⟨rfl, fun j oj t ho => by simp at ho, fun _ _ => rfl⟩
  | @cons o os E E' tv tvs hr _ ih =>
    obtain ⟨h1, h3, h4⟩ := ih
    refine ⟨h1, ?_, ?_⟩
    · intro j oj t hoj hd hno
      cases j with
      | zero =>
        obtain rfl : o = oj := by simpa using hoj
        have := h4 t (fun k ok hok => hno (k + 1) ok (by omega) (by simpa using hok))
        rw [this, hd]
        simp [putT, lk]
      | succ j =>
        have := h3 j oj t (by simpa using hoj) hd (fun k ok hjk hok => hno (k + 1) ok (by omega) (by simpa using hok))
        simpa using this
    · intro t hno
      rw [h4 t (fun k ok hok => hno (k + 1) ok (by simpa using hok))]
      have := hno 0 o (by simp)
      cases hd : o.dst with
      | none => rfl
      | some d =>
        rw [hd] at this
        simp only [putT, lk]
        rw [if_neg (fun e => this (by rw [e]))]

theorem aopsA_run {K : AE → Prop} : ∀ (l1 l2 : List Oper) (k : Nat) (E : AE), (∀ o ∈ l1, isHeap o.op = false ∧ o.guard = none) → aopsA P T all K l1.length k (l1 ++ l2) E →
    ∃ tvs E', Run P T all l1 E tvs E' ∧ aopsA P T all K 0 (k - l1.length) l2 E' ∧ tvs.length = l1.length
  | [], l2, k, E, _, h => ⟨[], E, .nil, by simpa using h, rfl⟩
  | o :: os, l2, k, E, hh, h => by
    simp only [List.cons_append, List.length_cons, aopsA] at h
    obtain ⟨h0, hg⟩ := hh o (by simp)
    obtain ⟨tv, h1, h2⟩ := AStep.hop h0 h
    obtain ⟨tvs, E', h3, h4, h5⟩ := aopsA_run (K := K) os l2 (k - 1) _ (fun o ho => hh o (by simp [ho])) h2
    refine ⟨tv :: tvs, E', .cons (.inl ⟨hg, h1⟩) h3, ?_, by simp [h5]⟩
    have : k - (o :: os).length = k - 1 - os.length := by simp only [List.length_cons]; omega
    rw [this]
    exact h4

theorem appF_row {t1 t2 : List (Nat × TV)} {H : List (Bool × List AV)} {ty : TypeId} {n e k : Nat} {a : AV} {Y : TV} {c : Prop} {tv : TV} {E' : AE} (h : appF T ⟨t1, H⟩ ty (.r n e k a) Y = some (c, tv, E')) :
    E' = ⟨dropT n t1, H⟩ ∧ appF T ⟨t2, H⟩ ty (.r n e k a) Y = some (c, tv, ⟨dropT n t2, H⟩) := by
  unfold appF at h ⊢
  split at h <;> try cases h
  split at h <;> try cases h
  simp only at h ⊢
  split at h <;> try cases h
  rw [Option.map_eq_some_iff] at h
  obtain ⟨r, h1, h2⟩ := h
  simp only [Prod.mk.injEq] at h2
  obtain ⟨h2, h3, rfl⟩ := h2
  refine ⟨rfl, ?_⟩
  rw [h1, Option.map_some, h2, h3]
end

/-- What is known of each slot, as a list. -/
def envOf (N : Nat) (θ : Nat → TV) : List (Nat × TV) := (List.range N).map fun t => (t, θ t)
theorem lk_map (θ : Nat → TV) (t : Nat) : ∀ (l : List Nat), lk (l.map fun t => (t, θ t)) t = if t ∈ l then θ t else .v .any
  | [] => by simp [lk]
  | x :: l => by
    simp only [List.map_cons, lk, lk_map θ t l, List.mem_cons]
    by_cases h : x = t
    · subst h; simp
    · have : ¬ t = x := fun e => h e.symm
      simp [h, this]
theorem lk_envOf (N : Nat) (θ : Nat → TV) (t : Nat) : lk (envOf N θ) t = if t < N then θ t else .v .any := by
  unfold envOf
  rw [lk_map]
  simp

def opE (θ : Nat → TV) : Operand → List (Nat × TV)
  | .tmp t => [(t, θ t)]
  | _ => []
theorem lk_opE (θ : Nat → TV) (x : Operand) (env : List (Nat × TV)) (t : Nat) : lk (opE θ x ++ env) t = θ t ∨ (x ≠ .tmp t ∧ lk (opE θ x ++ env) t = lk env t) := by
  cases x with
  | tmp u =>
    simp only [opE, List.cons_append, List.nil_append, lk]
    by_cases hu : u = t
    · subst hu; exact .inl (if_pos rfl)
    · rw [if_neg hu]
      exact .inr ⟨fun e => hu (by cases e; rfl), rfl⟩
  | const v => exact .inr ⟨(fun e => by cases e), rfl⟩
  | global v => exact .inr ⟨(fun e => by cases e), rfl⟩
  | func v => exact .inr ⟨(fun e => by cases e), rfl⟩

structure JA (w0 : World) (M0 : Nat → Prop) (N : Nat) (H : List (Bool × List AV)) (E : AE) (l : List Oper) (j m n : Nat) (d : Tmp) (tvsA : List TV) (tvj : TV) (tvsB : List TV) (ρ : Nat → Nat) (θ : Nat → TV) (ph : Bool) (L : Array Bool) (a : Act) (w : World) : Prop where
  phase : ph = true ↔ L[j]? = some true
  heap : HOk w0 M0 ρ H w
  size : a.tmps.size = N
  defers : a.defers = []
  tmp : ∀ t, RepT ρ H (MM M0 ρ H) w (θ t) (a.tmps.getD t undef)
  wA : ∀ (i : Nat) (o : Oper) (t : Nat), i < j → l[i]? = some o → o.dst = some t → L[i]? = some true → θ t = if ph then dropV n (tvsA.getD i (.v .any)) else tvsA.getD i (.v .any)
  wJ : ph = true → θ d = tvj
  wB : ∀ (i : Nat) (o : Oper) (t : Nat), j < i → i < m → l[i]? = some o → o.dst = some t → L[i]? = some true → θ t = tvsB.getD (i - (j + 1)) (.v .any)
  wU : ∀ (t : Nat), (∀ (i : Nat) (o : Oper), i < m → l[i]? = some o → o.dst = some t → L[i]? ≠ some true) → θ t = if ph then dropV n (lk E.t t) else lk E.t t

section
variable {P : Program} {T : Nat → Option TI} {w0 : World} {M0 : Nat → Prop} {ρ : Nat → Nat} {w : World} {N : Nat} {l : List Oper}
theorem region_drawA (hT : TOk P T) (hl : ∀ b, M0 b → b < w0.heap.size) {id : Nat} {Q : Exit → Act → World → Prop} {K : AE → Prop} (hm : P.follows .mixedOrders = true) {j m : Nat}
    (hok : drawA N j m l.toArray = true) (hd : ∀ o ∈ l, dstOk N o = true) (hK : ∀ E a w ρ, K E → St w0 M0 N E a w ρ → Q .normal a w) {E : AE} {a : Act} (h : St w0 M0 N E a w ρ) (hs : aopsA P T l.toArray K j m l E) :
    (Code.region id l.toArray true).wp P Q a w := by
  suffices hQ' : (Code.region id l.toArray true).wp P (fun e a w => e = .normal ∧ Q .normal a w) a w by
    refine Code.wp_mono (fun e a' w' q => ?_) hQ'
    obtain ⟨rfl, q⟩ := q
    exact q
  have hK : ∀ E a w ρ, K E → St w0 M0 N E a w ρ → (Exit.normal = Exit.normal ∧ Q .normal a w) := fun E a w ρ h1 h2 => ⟨rfl, hK E a w ρ h1 h2⟩
  have hst : St w0 M0 N E a w.drew ρ := ⟨h.heap.grown (Grow.refl w).drew, h.defers, h.size, fun t => (h.tmp t).grow (Grow.refl w).drew⟩
  unfold drawA at hok
  simp only [Bool.and_eq_true, decide_eq_true_eq, List.size_toArray] at hok
  obtain ⟨⟨⟨⟨⟨hjm, hml⟩, hkindA⟩, happ⟩, hreach⟩, hB⟩ := hok
  have hkindA := List.all_eq_true.1 hkindA
  have hreach := List.all_eq_true.1 hreach
  obtain ⟨hpreB, hprel, hms, hback, hinj, htail, _, _⟩ := gammaF_parts hB
  have hjl : j < l.length := by omega
  obtain ⟨oj, hoj⟩ : ∃ oj, l[j]? = some oj := ⟨_, List.getElem?_eq_getElem hjl⟩
  have hoj' : l.toArray[j]? = some oj := by simpa using hoj
  rw [hoj'] at happ
  split at happ
  case h_2 => cases happ
  rename_i d hap
  have happ := List.all_eq_true.1 happ
  obtain ⟨x, y, ty, ty', hop, hdj, hgj⟩ : ∃ x y ty ty', oj.op = .call ⟨.builtin .append, ⟨[x, y]⟩, ⟨[ty, ty']⟩⟩ ∧ oj.dst = some d ∧ oj.guard = none := by
    unfold appAt at hap
    split at hap
    · rename_i heq
      cases heq
      cases hap
      exact ⟨_, _, _, _, rfl, rfl, rfl⟩
    · cases hap
  have hsplitj : l = l.take j ++ oj :: l.drop (j + 1) := by
    have : l.drop j = oj :: l.drop (j + 1) := by
      rw [List.drop_eq_getElem_cons hjl]
      congr 1
      rw [List.getElem?_eq_getElem hjl] at hoj
      exact Option.some.inj hoj
    rw [← this, List.take_append_drop]
  have htj : (l.take j).length = j := by simp; omega
  obtain ⟨tvsA, EA, hrunA, hsA, hlenA⟩ := aopsA_run (all := l.toArray) (l.take j) (oj :: l.drop (j + 1)) m E (fun o ho => by
    have := hkindA o (by simpa using ho)
    simp only [Bool.and_eq_true, Bool.not_eq_true', Option.isNone_iff_eq_none] at this
    exact this) (by rw [htj, ← hsplitj]; exact hs)
  rw [htj] at hsA hlenA
  obtain ⟨heA1, heA2, heA3⟩ := run_end hrunA
  simp only [aopsA, aops, hgj] at hsA
  obtain ⟨hrow, hsA⟩ := hsA
  have hkj : (m - j == 0) = false := by rw [beq_eq_false_iff_ne]; omega
  rw [hkj, hop] at hsA
  rw [hop] at hrow
  simp only [rowAt] at hrow
  split at hrow
  case h_2 => exact hrow.elim
  rename_i n er kr ar hX
  simp only [AStep, hX] at hsA
  split at hsA
  case h_2 => exact hsA.elim
  rename_i cj tvj E' happF
  obtain ⟨⟨hty, hcj⟩, hsB⟩ := hsA
  subst hty
  have hE' := (appF_row (t2 := []) happF).1
  subst hE'
  rw [hdj] at hsB
  simp only at hsB
  -- the operations beside it
  have hlB : ((l.drop (j + 1)).take (m - j - 1)).length = m - j - 1 := by simp; omega
  have hgetB : ∀ i, j < i → i < m → ((l.drop (j + 1)).take (m - j - 1))[i - (j + 1)]? = l[i]? := fun i h1 h2 => by
    rw [List.getElem?_take, if_pos (by omega), List.getElem?_drop]
    congr 1
    omega
  have hbes : ∀ i o, j < i → i < m → l[i]? = some o → plainOp o.op = true ∧ o.guard = none ∧ d ∉ o.looksAt l.toArray := fun i o h1 h2 ho => by
    have := happ i (List.mem_range.2 h2)
    rw [show l.toArray[i]? = some o by simpa using ho] at this
    simp only [besideB, Bool.or_eq_true, decide_eq_true_eq, Bool.and_eq_true, Bool.not_eq_true', Option.isNone_iff_eq_none] at this
    rcases this with h3 | ⟨⟨h3, h4⟩, h5⟩
    · omega
    · exact ⟨h3, h4, fun hmem => by rw [List.contains_iff_mem.2 hmem] at h5; cases h5⟩
  obtain ⟨tvsB, EB, hrunB, htl, hlenB⟩ := aops_run (all := l.toArray) ((l.drop (j + 1)).take (m - j - 1)) (l.drop m) (m - j - 1) _ (by simp; omega) (fun o ho => by
    obtain ⟨i, hi⟩ := List.getElem?_of_mem ho
    have hil := (List.getElem?_eq_some_iff.1 hi).1
    have hi' := hgetB (i + (j + 1)) (by omega) (by omega)
    rw [Nat.add_sub_cancel] at hi'
    rw [hi] at hi'
    have := (hbes (i + (j + 1)) o (by omega) (by omega) hi'.symm).1
    revert this
    generalize o.op = op
    cases op <;> intro h <;> first | rfl | cases h) (by
    have e : (l.drop (j + 1)).take (m - j - 1) ++ l.drop m = l.drop (j + 1) := by
      have h2 : l.drop m = (l.drop (j + 1)).drop (m - j - 1) := by rw [List.drop_drop]; congr 1; omega
      rw [h2, List.take_append_drop]
    rw [e]; exact hsB)
  rw [hlB] at hlenB htl
  rw [Nat.sub_self] at htl
  obtain ⟨heB1, heB2, heB3⟩ := run_end hrunB
  simp only at heB1 heB2 heB3
  obtain ⟨H, hHdef⟩ : ∃ H, E.h = H := ⟨_, rfl⟩
  have hEAH : EA.h = H := by rw [heA1, hHdef]
  have hEBH : EB.h = H := by rw [heB1, hEAH]
  -- slots of the operations
  have hpreI : ∀ i o, i < m → l[i]? = some o → preB l.toArray i ((o.looksAt l.toArray).map fun t => (t, lastW l.toArray i t)) = true := fun i o him hio => by
    have hpi : (preAll l.toArray m).getD i [] = (o.looksAt l.toArray).map fun t => (t, lastW l.toArray i t) := by
      simp [preAll, List.getD, him, preOf, hio]
    have := preAllB_get (i := 0) (k := i) hpreB (by omega)
    rw [hpi] at this
    simpa using this
  have hdlt : ∀ i o, i < m → l[i]? = some o → ∃ d, o.dst = some d ∧ d < N := fun i o him hio => (hback i o (by simpa using hio)).1 him
  -- what the append's slots hold before it
  have hlkA : ∀ t i o, i < j → l[i]? = some o → o.dst = some t → lk EA.t t = tvsA.getD i (.v .any) := fun t i o hij hio hdi => by
    refine heA2 i o t (by rw [List.getElem?_take, if_pos hij]; exact hio) hdi (fun k ok hik hok hdk => ?_)
    have hkj : k < j := by have := (List.getElem?_eq_some_iff.1 hok).1; omega
    rw [List.getElem?_take, if_pos hkj] at hok
    have := hinj i k o ok t (by omega) (by omega) (by simpa using hio) (by simpa using hok) hdi hdk
    omega
  have hlkA0 : ∀ t, (∀ i o, i < j → l[i]? = some o → o.dst ≠ some t) → lk EA.t t = lk E.t t := fun t ht => by
    refine heA3 t (fun k ok hok => ?_)
    have hkj : k < j := by have := (List.getElem?_eq_some_iff.1 hok).1; omega
    rw [List.getElem?_take, if_pos hkj] at hok
    exact ht k ok hkj hok
  -- what a slot holds, seen from an operation beside the append
  have hlkB : ∀ i o, j < i → i < m → l[i]? = some o → ∃ Ei : AE, Ei.h = H ∧ Hop P T (evT Ei.t) H o.op (tvsB.getD (i - (j + 1)) (.v .any)) ∧ ∀ t, t ∈ o.looksAt l.toArray →
      (∃ i' o', j < i' ∧ i' < i ∧ l[i']? = some o' ∧ o'.dst = some t ∧ waitsB l.toArray i i' = true ∧ lk Ei.t t = tvsB.getD (i' - (j + 1)) (.v .any)) ∨
      (∃ i' o', i' < j ∧ l[i']? = some o' ∧ o'.dst = some t ∧ waitsB l.toArray i i' = true ∧ lk Ei.t t = dropV n (tvsA.getD i' (.v .any))) ∨
      ((∀ k o', l[k]? = some o' → o'.dst = some t → waitsB l.toArray k i = true) ∧ lk Ei.t t = dropV n (lk E.t t)) := by
    intro i o hji him hio
    obtain ⟨hpl, hgu, hnd⟩ := hbes i o hji him hio
    obtain ⟨Ei, hrel, hEh, hA, hBk⟩ := run_at hrunB (i - (j + 1)) o (by rw [hgetB i hji him]; exact hio)
    simp only at hEh
    rw [hEAH] at hEh
    refine ⟨Ei, hEh, ?_, fun t ht => ?_⟩
    · rcases hrel with ⟨_, hh⟩ | ⟨g, b, t, hg, _⟩ | ⟨g, b, t, hg, _⟩
      · rw [hEh] at hh; exact hh
      · rw [hgu] at hg; cases hg
      · rw [hgu] at hg; cases hg
    · obtain ⟨hp1, hp2⟩ := preB_mem (hpreI i o him hio)
      have hmem : (t, lastW l.toArray i t) ∈ (o.looksAt l.toArray).map fun t => (t, lastW l.toArray i t) := List.mem_map.2 ⟨t, ht, rfl⟩
      have htd : t ≠ d := fun e => hnd (e ▸ ht)
      have hput : lk (putT (some d) tvj (dropT n EA.t)) t = dropV n (lk EA.t t) := by
        simp only [putT, lk]
        rw [if_neg (Ne.symm htd), dropT_lk]
      cases hw : lastW l.toArray i t with
      | none =>
        rw [hw] at hmem
        have hno := lastW_none hw
        refine .inr (.inr ⟨fun k o' hk hdk => hp2 t hmem k o' (by simpa using hk) hdk, ?_⟩)
        rw [hBk t (fun k ok hk hok hdk => ?_), hput, hlkA0 t (fun k ok hk hok hdk => hno k ok (by omega) (by simpa using hok) hdk)]
        have hkl : k + (j + 1) < m := by omega
        have := hgetB (k + (j + 1)) (by omega) hkl
        rw [Nat.add_sub_cancel] at this
        rw [this] at hok
        exact hno (k + (j + 1)) ok (by omega) (by simpa using hok) hdk
      | some i' =>
        rw [hw] at hmem
        obtain ⟨hi'i, o', ho', hd'⟩ := lastW_some hw
        have hio' : l[i']? = some o' := by simpa using ho'
        obtain ⟨_, hwt⟩ := hp1 t i' hmem
        have huniq : ∀ k ok, k < m → l[k]? = some ok → ok.dst = some t → k = i' := fun k ok hk hok hdk => hinj k i' ok o' t hk (by omega) (by simpa using hok) ho' hdk hd'
        rcases Nat.lt_trichotomy i' j with h1 | h1 | h1
        · refine .inr (.inl ⟨i', o', h1, hio', hd', hwt, ?_⟩)
          rw [hBk t (fun k ok hk hok hdk => ?_), hput, hlkA t i' o' h1 hio' hd']
          have := hgetB (k + (j + 1)) (by omega) (by omega)
          rw [Nat.add_sub_cancel] at this
          rw [this] at hok
          have := huniq (k + (j + 1)) ok (by omega) hok hdk
          omega
        · subst h1
          rw [hoj] at hio'
          cases hio'
          rw [hdj] at hd'
          exact absurd (Option.some.inj hd').symm htd
        · refine .inl ⟨i', o', h1, hi'i, hio', hd', hwt, ?_⟩
          refine hA (i' - (j + 1)) o' t (by omega) (by rw [hgetB i' h1 (by omega)]; exact hio') hd' (fun k ok hk1 hk2 hok hdk => ?_)
          have := hgetB (k + (j + 1)) (by omega) (by omega)
          rw [Nat.add_sub_cancel] at this
          rw [this] at hok
          have := huniq (k + (j + 1)) ok (by omega) hok hdk
          omega
  have hpure : ∀ {ev : Operand → TV} {op : Op} {tv : TV}, plainOp op = true → Hop P T ev H op tv → ∃ c, hopF T ev H op = some (c, tv) ∧ c := by
    intro ev op tv hp hh
    cases hh with
    | pick h => cases hp
    | call h h2 h3 => cases hp
    | pure h hc => exact ⟨_, h, hc⟩
  -- what they yield does not name the row
  have hnm : ∀ i o, j < i → i < m → l[i]? = some o → dropV n (tvsB.getD (i - (j + 1)) (.v .any)) = tvsB.getD (i - (j + 1)) (.v .any) := by
    intro i
    induction i using Nat.strongRecOn with
    | _ i ih =>
      intro o hji him hio
      obtain ⟨hpl, _, _⟩ := hbes i o hji him hio
      obtain ⟨Ei, _, hhop, hlks⟩ := hlkB i o hji him hio
      obtain ⟨c, h1, _⟩ := hpure hpl hhop
      refine hopF_drop hpl (fun x hx => ?_) h1
      cases x with
      | tmp t =>
        have ht : t ∈ o.looksAt l.toArray := by
          unfold Oper.looksAt
          exact List.mem_append_left _ (List.mem_filterMap.2 ⟨.tmp t, by simpa using hx, rfl⟩)
        show dropV n (lk Ei.t t) = lk Ei.t t
        rcases hlks t ht with ⟨i', o', h2, h3, h4, _, _, h5⟩ | ⟨i', o', _, _, _, _, h5⟩ | ⟨_, h5⟩
        · rw [h5]; exact ih i' h3 o' h2 (by omega) h4
        · rw [h5, dropV_dropV]
        · rw [h5, dropV_dropV]
      | const v => exact dropV_const n v
      | global g => rfl
      | func f => rfl
  refine wp_delta hm (fun L a1 w1 => ∃ ρ' θ ph, JA w0 M0 N H E l j m n d tvsA tvj tvsB ρ' θ ph L a1 w1) hB (fun c a w h => by cases h.1) ?_ ?_ ?_
  · have hno : ∀ (k : Nat), (Array.replicate l.length false)[k]? ≠ some true := by
      intro k hk
      rw [Array.getElem?_replicate] at hk
      split at hk <;> cases hk
    refine ⟨ρ, fun t => lk E.t t, false, ⟨⟨fun h => absurd h (by simp), fun h => absurd h (hno _)⟩, by rw [← hHdef]; exact hst.heap, hst.size, hst.defers, fun t => by rw [← hHdef]; exact hst.tmp t, fun i _ _ _ _ _ hi => absurd hi (hno i), fun h => absurd h (by simp), fun i _ _ _ _ _ _ hi => absurd hi (hno i), fun t _ => rfl⟩⟩
  · rintro L a1 w1 i o him hio hr hls hcl ⟨ρ', θ, ph, J⟩ KK hKK
    obtain ⟨hun, o', ho', hall⟩ := mem_ready.1 hr
    have hilt : i < l.length := (List.getElem?_eq_some_iff.1 hio).1
    have hli : L[i]? = some false := by
      rw [Array.getD_eq_getD_getElem?] at hun
      cases hh : L[i]? with
      | none => rw [Array.getElem?_eq_none_iff] at hh; omega
      | some b => cases b with
        | false => rfl
        | true => rw [hh] at hun; simp at hun
    have hset : (L.setIfInBounds i true)[i]? = some true := by simp [hls, hilt]
    have hsetne : ∀ k, k ≠ i → (L.setIfInBounds i true)[k]? = L[k]? := fun k hk => Array.getElem?_setIfInBounds_ne (Ne.symm hk)
    obtain ⟨di, hdi, hdN⟩ := hdlt i o him hio
    have hgo : o.guard = none := by
      rcases Nat.lt_trichotomy i j with h1 | h1 | h1
      · have := hkindA o (by
          have : (l.take j)[i]? = some o := by rw [List.getElem?_take, if_pos h1]; exact hio
          simpa using List.mem_of_getElem? this)
        simp only [Bool.and_eq_true, Bool.not_eq_true', Option.isNone_iff_eq_none] at this
        exact this.2
      · subst h1; rw [hoj] at hio; cases hio; exact hgj
      · exact (hbes i o h1 him hio).2.1
    rw [if_pos (by simp [Region.wanted, hgo])]
    have hgetput : ∀ (v : Value) (t : Nat), (a1.put o.dst v).tmps.getD t undef = if t = di then v else a1.tmps.getD t undef := by
      intro v t
      simp only [Act.put, hdi, Array.getD_eq_getD_getElem?]
      by_cases ht : t = di
      · subst ht
        have : t < a1.tmps.size := by rw [J.size]; exact hdN
        simp [this]
      · rw [if_neg ht, Array.getElem?_setIfInBounds_ne (Ne.symm ht)]
    -- an operation other than the append is done
    have next : i ≠ j → ∀ (tv : TV), (i < j → tv = (if ph then dropV n (tvsA.getD i (.v .any)) else tvsA.getD i (.v .any))) → (j < i → tv = tvsB.getD (i - (j + 1)) (.v .any)) →
        ∀ v w2, Grow w1 w2 → RepT ρ' H (MM M0 ρ' H) w2 tv v → KK (a1.put o.dst v) w2 := by
      intro hij tv htA htB v w2 g hv
      refine hKK _ _ ⟨ρ', fun t => if t = di then tv else θ t, ph, ⟨?_, J.heap.grown g, by simp [Act.put, hdi, J.size], by simp [Act.put, hdi, J.defers], fun t => ?_, ?_, ?_, ?_, ?_⟩⟩
      · rw [hsetne j (Ne.symm hij)]; exact J.phase
      · rw [hgetput]
        by_cases ht : t = di
        · rw [if_pos ht, if_pos ht]; exact hv
        · rw [if_neg ht, if_neg ht]; exact (J.tmp t).grow g
      · intro k ok t hkj hok hdk hLk
        by_cases hki : k = i
        · subst hki
          rw [hio] at hok
          cases hok
          rw [hdi] at hdk
          cases hdk
          rw [if_pos rfl]
          exact htA hkj
        · rw [hsetne k hki] at hLk
          rw [if_neg (fun e => hki (hinj k i ok o t (by omega) him (by simpa using hok) (by simpa using hio) hdk (by rw [hdi, e])))]
          exact J.wA k ok t hkj hok hdk hLk
      · intro hph
        rw [if_neg (fun e => hij (hinj i j o oj d him hjm (by simpa using hio) hoj' (by rw [hdi, e]) hdj))]
        exact J.wJ hph
      · intro k ok t hjk hkm hok hdk hLk
        by_cases hki : k = i
        · subst hki
          rw [hio] at hok
          cases hok
          rw [hdi] at hdk
          cases hdk
          rw [if_pos rfl]
          exact htB hjk
        · rw [hsetne k hki] at hLk
          rw [if_neg (fun e => hki (hinj k i ok o t hkm him (by simpa using hok) (by simpa using hio) hdk (by rw [hdi, e])))]
          exact J.wB k ok t hjk hkm hok hdk hLk
      · intro t ht
        have htd : t ≠ di := by
          rintro rfl
          exact ht i o him hio hdi hset
        rw [if_neg htd]
        refine J.wU t (fun k ok hkm hok hdk hLk => ?_)
        by_cases hki : k = i
        · subst hki; rw [hli] at hLk; cases hLk
        · exact ht k ok hkm hok hdk (by rw [hsetne k hki]; exact hLk)
    have hqq : (∀ b, MM M0 ρ' H b → b < w1.heap.size) ∨ quiet o.op = true := .inl (J.heap.low' hl)
    rcases Nat.lt_trichotomy i j with hij | hij | hij
    · -- before the append
      have hph : ph = false := by
        cases hp : ph with
        | false => rfl
        | true =>
          have hLj := J.phase.1 hp
          have := reach_listed hcl _ j i (fun j' hw => hcl j j' hLj hw) (hreach i (List.mem_range.2 hij))
          rw [hli] at this
          cases this
      obtain ⟨Ei, hrel, hEh, hA, hBk⟩ := run_at hrunA i o (by rw [List.getElem?_take, if_pos hij]; exact hio)
      rw [hHdef] at hEh
      obtain ⟨hp1, hp2⟩ := preB_mem (hpreI i o him hio)
      have hlks : ∀ t, t ∈ o.looksAt l.toArray → lk Ei.t t = θ t := by
        intro t ht
        have hmem : (t, lastW l.toArray i t) ∈ (o.looksAt l.toArray).map fun t => (t, lastW l.toArray i t) := List.mem_map.2 ⟨t, ht, rfl⟩
        cases hw : lastW l.toArray i t with
        | none =>
          rw [hw] at hmem
          have hno := lastW_none hw
          rw [hBk t (fun k ok hk hok => hno k ok hk (by
            rw [List.getElem?_take, if_pos (by omega)] at hok
            simpa using hok))]
          have := J.wU t (fun k ok hkm hok hdk hLk => by
            have := hcl k i hLk (hp2 t hmem k ok (by simpa using hok) hdk)
            rw [hli] at this
            cases this)
          rw [this, hph]
          rfl
        | some i' =>
          rw [hw] at hmem
          obtain ⟨hi'i, o2, ho2, hd2⟩ := lastW_some hw
          obtain ⟨_, hwt⟩ := hp1 t i' hmem
          have hio2 : l[i']? = some o2 := by simpa using ho2
          rw [hA i' o2 t hi'i (by rw [List.getElem?_take, if_pos (by omega)]; exact hio2) hd2 (fun k ok hk1 hk2 hok hdk => by
            rw [List.getElem?_take, if_pos (by omega)] at hok
            have := hinj i' k o2 ok t (by omega) (by omega) ho2 (by simpa using hok) hd2 hdk
            omega)]
          have := J.wA i' o2 t (by omega) hio2 hd2 (waitsB_listed hr hwt)
          rw [this, hph]
          rfl
      have hhop : Hop P T (evT Ei.t) H o.op (tvsA.getD i (.v .any)) := by
        rcases hrel with ⟨_, hh⟩ | ⟨g, b, t, hg, _⟩ | ⟨g, b, t, hg, _⟩
        · rw [hEh] at hh; exact hh
        · rw [hgo] at hg; cases hg
        · rw [hgo] at hg; cases hg
      refine hop_wp hT J.heap hqq hhop (fun x hx => ?_) (fun v w2 g hv => next (by omega) _ (fun _ => by rw [hph]; rfl) (fun h => by omega) v w2 g hv)
      cases x with
      | tmp t =>
        show RepT ρ' H (MM M0 ρ' H) w1 (lk Ei.t t) _
        rw [hlks t (by
          unfold Oper.looksAt
          exact List.mem_append_left _ (List.mem_filterMap.2 ⟨.tmp t, by simpa using hx, rfl⟩))]
        exact J.tmp t
      | const v => exact constT_rep v
      | global g => exact repT_one
      | func f => exact repT_one
    · -- the append
      subst hij
      rw [hoj] at hio
      cases hio
      have hdd : di = d := by rw [hdj] at hdi; exact (Option.some.inj hdi).symm
      subst hdd
      have hph : ph = false := by
        cases hp : ph with
        | false => rfl
        | true =>
          have := J.phase.1 hp
          rw [hli] at this
          cases this
      obtain ⟨hp1, hp2⟩ := preB_mem (hpreI i oj him hoj)
      have hlks : ∀ t, t ∈ oj.looksAt l.toArray → lk EA.t t = θ t := by
        intro t ht
        have hmem : (t, lastW l.toArray i t) ∈ (oj.looksAt l.toArray).map fun t => (t, lastW l.toArray i t) := List.mem_map.2 ⟨t, ht, rfl⟩
        cases hw : lastW l.toArray i t with
        | none =>
          rw [hw] at hmem
          have hno := lastW_none hw
          rw [hlkA0 t (fun k ok hk hok => hno k ok hk (by simpa using hok))]
          have := J.wU t (fun k ok hkm hok hdk hLk => by
            have := hcl k i hLk (hp2 t hmem k ok (by simpa using hok) hdk)
            rw [hli] at this
            cases this)
          rw [this, hph]
          rfl
        | some i' =>
          rw [hw] at hmem
          obtain ⟨hi'i, o2, ho2, hd2⟩ := lastW_some hw
          obtain ⟨_, hwt⟩ := hp1 t i' hmem
          have hio2 : l[i']? = some o2 := by simpa using ho2
          rw [hlkA t i' o2 hi'i hio2 hd2]
          have := J.wA i' o2 t hi'i hio2 hd2 (waitsB_listed hr hwt)
          rw [this, hph]
          rfl
      have hstE : St w0 M0 N ⟨envOf N θ, H⟩ a1 w1 ρ' := ⟨J.heap, J.defers, J.size, fun t => by
        rw [lk_envOf]
        split
        · exact J.tmp t
        · simp only [RepT, RepV]⟩
      have hevx : ∀ z ∈ oj.op.operands, evT EA.t z = evT (envOf N θ) z ∨ (∃ t, z = .tmp t ∧ ¬ t < N) := by
        intro z hz
        cases z with
        | tmp t =>
          by_cases htN : t < N
          · refine .inl ?_
            show lk EA.t t = lk (envOf N θ) t
            rw [lk_envOf, if_pos htN]
            exact hlks t (by
              unfold Oper.looksAt
              exact List.mem_append_left _ (List.mem_filterMap.2 ⟨.tmp t, by simpa using hz, rfl⟩))
          · exact .inr ⟨t, rfl, htN⟩
        | const v => exact .inl rfl
        | global g => exact .inl rfl
        | func f => exact .inl rfl
      obtain ⟨env, henv⟩ : ∃ env, env = opE θ x ++ (opE θ y ++ envOf N θ) := ⟨_, rfl⟩
      have hlkenv : ∀ t, lk env t = θ t ∨ (¬ t < N ∧ lk env t = .v .any) := by
        intro t
        rw [henv]
        rcases lk_opE θ x (opE θ y ++ envOf N θ) t with h1 | ⟨_, h1⟩
        · exact .inl h1
        · rw [h1]
          rcases lk_opE θ y (envOf N θ) t with h1 | ⟨_, h1⟩
          · exact .inl h1
          · rw [h1, lk_envOf]
            by_cases h1 : t < N
            · exact .inl (if_pos h1)
            · exact .inr ⟨h1, if_neg h1⟩
      have hst1 : St w0 M0 N ⟨env, H⟩ a1 w1 ρ' := ⟨J.heap, J.defers, J.size, fun t => by
        rcases hlkenv t with h1 | ⟨_, h1⟩
        · rw [h1]; exact J.tmp t
        · rw [h1]; simp only [RepT, RepV]⟩
      have hops : oj.op.operands = #[x, y] := by rw [hop]; rfl
      have hmemx : x ∈ oj.op.operands := by rw [hops]; simp
      have hmemy : y ∈ oj.op.operands := by rw [hops]; simp
      have hlooks : ∀ t, Operand.tmp t ∈ oj.op.operands → t ∈ oj.looksAt l.toArray := fun t hz => by
        unfold Oper.looksAt
        exact List.mem_append_left _ (List.mem_filterMap.2 ⟨.tmp t, by simpa using hz, rfl⟩)
      have hyv : evT env y = evT EA.t y := by
        cases hy : y with
        | tmp u =>
          subst hy
          show lk env u = lk EA.t u
          rw [hlks u (hlooks u hmemy)]
          rw [henv]
          rcases lk_opE θ x (opE θ (.tmp u) ++ envOf N θ) u with h1 | ⟨_, h1⟩
          · exact h1
          · rw [h1]
            rcases lk_opE θ (.tmp u) (envOf N θ) u with h1 | ⟨h1, _⟩
            · exact h1
            · exact absurd rfl h1
        | const v => rfl
        | global g => rfl
        | func f => rfl
      have hxv : evT env x = .r n er kr ar := by
        rw [← hX]
        cases hx : x with
        | tmp u =>
          subst hx
          show lk env u = lk EA.t u
          rw [hlks u (hlooks u hmemx)]
          rw [henv]
          rcases lk_opE θ (.tmp u) (opE θ y ++ envOf N θ) u with h1 | ⟨h1, _⟩
          · exact h1
          · exact absurd rfl h1
        | const v => rfl
        | global g => rfl
        | func f => rfl
      have hEAeq : EA = ⟨EA.t, H⟩ := by rw [← hEAH]
      rw [hEAeq] at happF
      have hF := (appF_row (t2 := env) happF).2
      simp only at hF
      refine app_wp hT hl hst1 (x := x) (y := y) (t := ty) (by rw [hop]) (by rw [hxv, hyv]; exact hF) hcj (fun t ht => by rw [hdi] at ht; cases ht; exact hdN) ?_
      intro a' w' ρ2 hs2
      rw [hdi] at hs2
      simp only at hs2
      refine hKK _ _ ⟨ρ2, fun t => if t = di then tvj else dropV n (θ t), true, ⟨⟨fun _ => hset, fun _ => rfl⟩, hs2.heap, hs2.size, hs2.defers, fun t => ?_, ?_, fun _ => if_pos rfl, ?_, ?_⟩⟩
      · have h1 := hs2.tmp t
        simp only [putT, lk] at h1
        by_cases ht : t = di
        · subst ht
          rw [if_pos rfl] at h1 ⊢
          exact h1
        · rw [if_neg (Ne.symm ht), dropT_lk] at h1
          rw [if_neg ht]
          rcases hlkenv t with h2 | ⟨h2, _⟩
          · rw [h2] at h1; exact h1
          · have hg : a'.tmps.getD t undef = undef := by
              rw [Array.getD_eq_getD_getElem?, Array.getElem?_eq_none (by rw [hs2.size]; omega)]
              rfl
            -- nothing stands there, before as behind
            have h3 := J.tmp t
            have hg0 : a1.tmps.getD t undef = undef := by
              rw [Array.getD_eq_getD_getElem?, Array.getElem?_eq_none (by rw [J.size]; omega)]
              rfl
            have hU := J.wU t (fun k ok hkm hok hdk _ => by
              obtain ⟨dk, h4, h5⟩ := hdlt k ok hkm hok
              rw [hdk] at h4
              cases h4
              exact h2 h5)
            exact (hs2.tmp t |> fun _ => by
              rw [hg]
              rw [hg0] at h3
              revert h3
              cases θ t with
              | v av =>
                intro h3
                simp only [dropV]
                cases av with
                | any => simp only [RepT, RepV]
                | one u => simp only [RepT, RepV] at h3 ⊢; exact h3
                | bs lb => simp only [RepT, RepV, SlM] at h3; obtain ⟨_, _, _, h6, _⟩ := h3; cases h6
                | sl kk cs => simp only [RepT, RepV, SlM] at h3; obtain ⟨_, ⟨_, _, _, h6, _⟩, _⟩ := h3; cases h6
                | agg cs => simp only [RepT, RepV] at h3; obtain ⟨_, h6, _⟩ := h3; cases h6
                | ifc tt aa => simp only [RepT, RepV] at h3; obtain ⟨_, h6, _⟩ := h3; cases h6
                | tup cs =>
                  simp only [RepT, RepV] at h3 ⊢
                  obtain ⟨us, h6, h7⟩ := h3
                  have h8 : us = [] := by simpa [undef] using h6
                  subst h8
                  cases cs with
                  | nil => exact ⟨[], h6, RepL.nil⟩
                  | cons c cs => simp [RepL] at h7
              | p mm off => intro h3; exact absurd h3.2 (by simp [undef])
              | q cs => intro h3; obtain ⟨_, _, _, h6, _⟩ := h3; exact absurd h6 (by simp [undef])
              | s mm off len => intro h3; exact absurd h3.2 (by simp [undef])
              | it mm ss pp => intro h3; exact absurd h3.2.1 (by simp [undef])
              | r mm e k ax => intro h3; obtain ⟨_, us, len, ⟨_, h6⟩, h7, _⟩ := h3; simp [undef, Value.ownBlock] at h7
              | z => intro h3; exact absurd (show undef = Value.slice none 0 0 from h3) (by simp [undef]))
      · intro k ok t hkj hok hdk hLk
        rw [hsetne k (by omega)] at hLk
        rw [if_neg (fun e => absurd (hinj k i ok oj t (by omega) him (by simpa using hok) hoj' hdk (by rw [hdi, e])) (by omega)), J.wA k ok t hkj hok hdk hLk, hph]
        rfl
      · intro k ok t hjk hkm hok hdk hLk
        rw [hsetne k (by omega)] at hLk
        rw [if_neg (fun e => absurd (hinj k i ok oj t hkm him (by simpa using hok) hoj' hdk (by rw [hdi, e])) (by omega)), J.wB k ok t hjk hkm hok hdk hLk]
        exact hnm k ok hjk hkm hok
      · intro t ht
        have htd : t ≠ di := by
          rintro rfl
          exact ht i oj him hoj hdi hset
        rw [if_neg htd, J.wU t (fun k ok hkm hok hdk hLk => ?_), hph]
        · rfl
        · by_cases hki : k = i
          · subst hki; rw [hli] at hLk; cases hLk
          · exact ht k ok hkm hok hdk (by rw [hsetne k hki]; exact hLk)
    · -- beside the append
      obtain ⟨hpl, _, hnd⟩ := hbes i o hij him hio
      obtain ⟨Ei, hEh, hhop, hlks⟩ := hlkB i o hij him hio
      obtain ⟨c, hF, hc⟩ := hpure hpl hhop
      let ev : Operand → TV := fun x => match x with | .tmp t => θ t | x => evT Ei.t x
      have hmore : hopF T ev H o.op = some (c, tvsB.getD (i - (j + 1)) (.v .any)) := by
        refine hopF_more hpl (fun x hx => ?_) hF
        cases x with
        | tmp t =>
          have ht : t ∈ o.looksAt l.toArray := by
            unfold Oper.looksAt
            exact List.mem_append_left _ (List.mem_filterMap.2 ⟨.tmp t, by simpa using hx, rfl⟩)
          show lk Ei.t t = θ t ∨ lk Ei.t t = .v .any
          rcases hlks t ht with ⟨i', o', h2, h3, h4, h5, h6, h7⟩ | ⟨i', o', h2, h4, h5, h6, h7⟩ | ⟨h6, h7⟩
          · rw [h7, J.wB i' o' t h2 (by omega) h4 h5 (waitsB_listed hr h6)]
            exact .inl rfl
          · rw [h7, J.wA i' o' t h2 h4 h5 (waitsB_listed hr h6)]
            cases ph
            · exact dropV_or n _
            · exact .inl rfl
          · have := J.wU t (fun k ok hkm hok hdk hLk => by
              have := hcl k i hLk (h6 k ok hok hdk)
              rw [hli] at this
              cases this)
            rw [h7, this]
            cases ph
            · exact dropV_or n _
            · exact .inl rfl
        | const v => exact .inl rfl
        | global g => exact .inl rfl
        | func f => exact .inl rfl
      refine hop_wp hT J.heap hqq (.pure hmore hc) (fun x hx => ?_) (fun v w2 g hv => next (by omega) _ (fun h => by omega) (fun _ => rfl) v w2 g hv)
      cases x with
      | tmp t => exact J.tmp t
      | const v => exact constT_rep v
      | global g => exact repT_one
      | func f => exact repT_one
  · rintro L a1 w1 hall ⟨ρ', θ, ph, J⟩
    have hph : ph = true := J.phase.2 (hall j hjm)
    have hfin : St w0 M0 N EB a1 w1 ρ' := by
      refine ⟨by rw [hEBH]; exact J.heap, J.defers, J.size, fun t => ?_⟩
      rw [hEBH]
      have := J.tmp t
      suffices hh : lk EB.t t = θ t by rw [hh]; exact this
      by_cases hex : ∃ i o, i < m ∧ l[i]? = some o ∧ o.dst = some t
      · obtain ⟨i, o, him, hio, hdi⟩ := hex
        have huniq : ∀ k ok, k < m → l[k]? = some ok → ok.dst = some t → k = i := fun k ok hk hok hdk => hinj k i ok o t hk him (by simpa using hok) (by simpa using hio) hdk hdi
        have hnoB : i ≤ j → ∀ (k : Nat) (ok : Oper), ((l.drop (j + 1)).take (m - j - 1))[k]? = some ok → ok.dst ≠ some t := fun hij k ok hok hdk => by
          have hkl := (List.getElem?_eq_some_iff.1 hok).1
          have := hgetB (k + (j + 1)) (by omega) (by omega)
          rw [Nat.add_sub_cancel] at this
          rw [this] at hok
          have := huniq (k + (j + 1)) ok (by omega) hok hdk
          omega
        rcases Nat.lt_trichotomy i j with h1 | h1 | h1
        · rw [heB3 t (hnoB (by omega)), J.wA i o t h1 hio hdi (hall i him), hph]
          have htd : t ≠ d := fun e => by
            have := huniq j oj hjm hoj (by rw [hdj, e])
            omega
          simp only [putT, lk]
          rw [if_neg (Ne.symm htd), dropT_lk, hlkA t i o h1 hio hdi]
          rfl
        · subst h1
          rw [hoj] at hio
          cases hio
          rw [hdj] at hdi
          cases hdi
          rw [heB3 _ (hnoB (Nat.le_refl _)), J.wJ hph]
          simp only [putT, lk, if_true]
        · rw [J.wB i o t h1 him hio hdi (hall i him)]
          refine heB2 (i - (j + 1)) o t (by rw [hgetB i h1 him]; exact hio) hdi (fun k ok hk hok hdk => ?_)
          have hkl := (List.getElem?_eq_some_iff.1 hok).1
          have := hgetB (k + (j + 1)) (by omega) (by omega)
          rw [Nat.add_sub_cancel] at this
          rw [this] at hok
          have := huniq (k + (j + 1)) ok (by omega) hok hdk
          omega
      · have hU := J.wU t (fun k ok hkm hok hdk _ => hex ⟨k, ok, hkm, hok, hdk⟩)
        rw [hU, hph]
        have htd : t ≠ d := fun e => hex ⟨j, oj, hjm, hoj, by rw [hdj, e]⟩
        rw [heB3 t (fun k ok hok hdk => by
          have hkl := (List.getElem?_eq_some_iff.1 hok).1
          have := hgetB (k + (j + 1)) (by omega) (by omega)
          rw [Nat.add_sub_cancel] at this
          rw [this] at hok
          exact hex ⟨k + (j + 1), ok, by omega, hok, hdk⟩)]
        simp only [putT, lk]
        rw [if_neg (Ne.symm htd), dropT_lk, hlkA0 t (fun k ok hk hok hdk => hex ⟨k, ok, by omega, hok, hdk⟩)]
        rfl
    exact aops_list hT hl hK (l.drop m) (fun o ho => hd o (List.mem_of_mem_drop ho)) hfin htl
end
end Go.Proofs.Ythjojkkapboonaa
