/- Structs of numbers: told apart by their numbers. No program in sight. -/
import Derived.Test.YthjojkkapboonaaBI
import Derived.Laws.StructEq
namespace Go.Proofs.Ythjojkkapboonaa
set_option linter.unusedSimpArgs false
set_option linter.unusedVariables false
open Go.RowKit

def isInt (d : Option TypeDesc) (k : IntKind) : Bool := match d with | some (.int k') => decide (k' = k) | _ => false
theorem isInt_iff {d : Option TypeDesc} {k : IntKind} (h : isInt d k = true) : d = some (.int k) := by
  unfold isInt at h
  split at h
  · rw [of_decide_eq_true h]
  · cases h
def fieldB (P : Program) (f : Field) (o : Nat) (p : Bool × List IntKind) : Bool :=
  f.name != "_" && decide (f.offset = o) && decide ((P.info? f.type).map (·.size) = some p.2.length) && decide (aggO P f.type = some p.1) &&
  match p with
  | (false, ks) => match ks with | [k] => isInt (P.underlying f.type) k | _ => false
  | (true, ks) => match P.underlying f.type, ks with | some (.array n e), k :: r => decide (n = (k :: r).length) && (k :: r).all (fun x => decide (x = k)) && isInt (P.underlying e) k && decide ((P.info? e).map (·.size) = some 1) | _, _ => false
def fieldsB (P : Program) : Nat → List Field → List (Bool × List IntKind) → Bool
  | _, [], ps => ps.isEmpty
  | o, f :: fs, p :: ps => fieldB P f o p && fieldsB P (o + p.2.length) fs ps
  | _, _ :: _, [] => false
def planK (ps : List (Bool × List IntKind)) : List IntKind := (ps.map (·.2)).flatten

theorem zip_same {k : IntKind} : ∀ {ks : List IntKind} {ns : List Int}, (∀ x ∈ ks, x = k) → ns.length = ks.length → List.zipWith Value.int ks ns = ns.map (.int k)
  | [], ns, _, h => by
    obtain rfl := List.length_eq_zero_iff.1 h
    rfl
  | x :: ks, n :: ns, hk, h => by
    obtain rfl := hk x (by simp)
    simp only [List.zipWith_cons_cons, List.map_cons, zip_same (ks := ks) (ns := ns) (fun y hy => hk y (by simp [hy])) (by simpa using h)]
  | x :: ks, [], _, h => by simp at h

theorem eqFields_run {P : Program} {w : World} : ∀ (fs : List Field) (ps : List (Bool × List IntKind)) (o : Nat) (xs ys : List Value) (ns ms : List Int), fieldsB P o fs ps = true →
    ns.length = (planK ps).length → ms.length = (planK ps).length → xs.drop o = List.zipWith Value.int (planK ps) ns → ys.drop o = List.zipWith Value.int (planK ps) ms →
    (Op.eqFields 9999 xs.toArray ys.toArray fs).run P w = .ok (decide (ns = ms)) w
  | [], ps, o, xs, ys, ns, ms, h, hn, hm, _, _ => by
    simp only [fieldsB, List.isEmpty_iff] at h
    subst h
    simp only [planK, List.map_nil, List.flatten_nil, List.length_nil, List.length_eq_zero_iff] at hn hm
    subst hn hm
    simp [Op.eqFields]
  | _ :: _, [], _, _, _, _, _, h, _, _, _, _ => by simp [fieldsB] at h
  | f :: fs, p :: ps, o, xs, ys, ns, ms, h, hn, hm, hx, hy => by
    simp only [fieldsB, Bool.and_eq_true] at h
    obtain ⟨hf, hfs⟩ := h
    have hK : planK (p :: ps) = p.2 ++ planK ps := by simp [planK]
    rw [hK] at hn hm hx hy
    simp only [List.length_append] at hn hm
    have hn1 : (ns.take p.2.length).length = p.2.length := by simp; omega
    have hm1 : (ms.take p.2.length).length = p.2.length := by simp; omega
    have ih := eqFields_run (w := w) fs ps (o + p.2.length) xs ys (ns.drop p.2.length) (ms.drop p.2.length) hfs (by simp; omega) (by simp; omega)
      (by rw [← List.drop_drop, hx, List.drop_zipWith, List.drop_left]) (by rw [← List.drop_drop, hy, List.drop_zipWith, List.drop_left])
    have ex : (xs.drop o).take p.2.length = List.zipWith Value.int p.2 (ns.take p.2.length) := by rw [hx, List.take_zipWith, List.take_left]
    have ey : (ys.drop o).take p.2.length = List.zipWith Value.int p.2 (ms.take p.2.length) := by rw [hy, List.take_zipWith, List.take_left]
    have hdec : decide (ns = ms) = (decide (ns.take p.2.length = ms.take p.2.length) && decide (ns.drop p.2.length = ms.drop p.2.length)) := by
      rw [Bool.eq_iff_iff]
      simp only [decide_eq_true_eq, Bool.and_eq_true]
      constructor
      · rintro rfl; exact ⟨rfl, rfl⟩
      · rintro ⟨h1, h2⟩
        rw [← List.take_append_drop p.2.length ns, ← List.take_append_drop p.2.length ms, h1, h2]
    simp only [fieldB, Bool.and_eq_true, bne_iff_ne, ne_eq, decide_eq_true_eq] at hf
    obtain ⟨⟨⟨⟨g1, g2⟩, g3⟩, g4⟩, g5⟩ := hf
    have key : ∀ (N Q : List Int), N.length = p.2.length → Q.length = p.2.length → (xs.drop o).take p.2.length = List.zipWith Value.int p.2 N → (ys.drop o).take p.2.length = List.zipWith Value.int p.2 Q →
        ∃ a b, (part f.type xs.toArray f.offset).run P w = .ok a w ∧ (part f.type ys.toArray f.offset).run P w = .ok b w ∧ (Op.equalIn 9999 f.type a b).run P w = .ok (decide (N = Q)) w := by
      clear ex ey hn1 hm1 hdec ih hx hy hn hm hK
      intro N Q hN hQ ex ey
      rw [g2]
      obtain ⟨ag, ks⟩ := p
      have hag := agg_run (w := w) g4
      cases ag
      · simp only at g5 hN hQ ex ey
        split at g5 <;> try cases g5
        rename_i k
        have hu := isInt_iff g5
        simp only [List.length_singleton] at hN hQ ex ey
        obtain ⟨n, rfl⟩ := List.length_eq_one_iff.1 hN
        obtain ⟨m, rfl⟩ := List.length_eq_one_iff.1 hQ
        have lx : xs[o]? = some (.int k n) := by
          have := congrArg (fun l => l[0]?) ex
          simpa using this
        have ly : ys[o]? = some (.int k m) := by
          have := congrArg (fun l => l[0]?) ey
          simpa using this
        refine ⟨.int k n, .int k m, ?_, ?_, ?_⟩
        · simp only [part, Sem.run_bind, hag, Result.andThen_ok, Bool.false_eq_true, if_false, List.getElem?_toArray, lx, Sem.run_pure]
        · simp only [part, Sem.run_bind, hag, Result.andThen_ok, Bool.false_eq_true, if_false, List.getElem?_toArray, ly, Sem.run_pure]
        · rw [show 9999 = 9998 + 1 from rfl, run_equalIn_int w 9998 f.type k k n m hu]
          congr 1
          rw [Bool.eq_iff_iff]
          simp
      · simp only at g5 hN hQ ex ey g3
        split at g5 <;> try cases g5
        rename_i n e k r hu
        simp only [Bool.and_eq_true, decide_eq_true_eq, List.all_eq_true] at g5
        obtain ⟨⟨⟨q1, q2⟩, q3⟩, q4⟩ := g5
        have he := isInt_iff q3
        rw [zip_same (k := k) q2 hN] at ex
        rw [zip_same (k := k) q2 hQ] at ey
        have hi : ∃ i, P.info? e = some i := by
          cases hi : P.info? e with
          | none => rw [hi] at q4; cases q4
          | some i => exact ⟨i, rfl⟩
        obtain ⟨i, hi⟩ := hi
        have hs : P.cellsOf e = 1 := by rw [Program.cellsOf, q4]; rfl
        refine ⟨.agg (N.map (Value.int k)).toArray, .agg (Q.map (Value.int k)).toArray, ?_, ?_, ?_⟩
        · simp only [part, Sem.run_bind, hag, Result.andThen_ok, if_true, size_of g3, Sem.run_pure]
          rw [← ex]
          simp
        · simp only [part, Sem.run_bind, hag, Result.andThen_ok, if_true, size_of g3, Sem.run_pure]
          rw [← ey]
          simp
        · have h6 := run_equalIn_array (P := P) w 9998 (N.map (Value.int k)).toArray (Q.map (Value.int k)).toArray hu hi
          rw [show 9999 = 9998 + 1 from rfl, h6, q1, ← hN, show 9998 = 9997 + 1 from rfl, eqItems_ints he hs _ N Q (by omega) _ (fun i hi => List.mem_range.1 hi), all_range_eq _ _ (by omega)]
    replace key := key _ _ hn1 hm1 ex ey
    obtain ⟨a, b, k1, k2, k3⟩ := key
    simp only [Op.eqFields, ne_eq, g1, not_false_eq_true, if_true, Sem.run_bind, k1, k2, k3, Result.andThen_ok]
    rw [hdec]
    by_cases hd : ns.take p.2.length = ms.take p.2.length
    · simp [hd, ih]
    · simp [hd]
theorem eqK_of {P : Program} {t : TypeId} (ps : List (Bool × List IntKind)) {ks : List IntKind} (hks : planK ps = ks) (hg : P.eqGuardType P.depth t = false) (hu : P.underlying t = some (.struct (P.fieldsOf t))) (hp : P.stoodInHeld t = false)
    (hf : fieldsB P 0 (P.fieldsOf t).toList ps = true) : EqK P t ks := by
  subst hks
  refine ⟨hg, fun w ns ms hn hm => ?_⟩
  rw [show 10000 = 9999 + 1 from rfl, run_equalIn_struct (P := P) w 9999 t _ _ hu hp]
  exact eqFields_run _ ps 0 _ _ ns ms hf hn hm (by simp) (by simp)
theorem bytes_ok {P : Program} {t : TypeId} (h : (match P.info? t with | some i => decide (i.bytes ≤ 65536) | none => true) = true) : bytesOk P t := by
  intro i hi
  rw [hi] at h
  exact of_decide_eq_true h
end Go.Proofs.Ythjojkkapboonaa
