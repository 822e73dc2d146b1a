/- Contracts proved before, in the words of what is known of a value. -/
import Derived.Test.YthjojkkapboonaaCB
import Derived.Test.YthjojkkapboonaaBT
import Derived.Test.YthjojkkapboonaaBJ
namespace Go.Proofs.Ythjojkkapboonaa
set_option linter.unusedSimpArgs false
set_option linter.unusedVariables false
open Go.RowKit

theorem ASpec.mk {P : Program} {f : FuncId} {ys : List AV} {r : AV} (hc : CallOk P f) (h : ∀ (M : Nat → Prop) (w : World) (vs : List Value), (∀ b, M b → b < w.heap.size) → RepL M w ys vs → Calls P f vs.toArray w fun e w' => ∃ v, e = .returned v ∧ RepV M w' r v ∧ Grow w w') : ASpec P f ys r := ⟨hc, h⟩
theorem RepL.cons_iff {M : Nat → Prop} {w : World} {a : AV} {ys : List AV} {us : List Value} (h : RepL M w (a :: ys) us) : ∃ v vs, us = v :: vs ∧ RepV M w a v ∧ RepL M w ys vs := by simpa only [RepL] using h
theorem RepL.nil_iff {M : Nat → Prop} {w : World} {us : List Value} (h : RepL M w [] us) : us = [] := by simpa only [RepL] using h
def intsA (k : IntKind) (ns : List Int) : List AV := ns.map fun n => .one (.int k n)
theorem intsA_rep {M : Nat → Prop} {w : World} {k : IntKind} : ∀ {ns : List Int} {us : List Value}, RepL M w (intsA k ns) us → us = ns.map (.int k)
  | [], us, h => h.nil_iff
  | n :: ns, us, h => by
    obtain ⟨v, vs, rfl, h1, h2⟩ := RepL.cons_iff (ys := intsA k ns) h
    rw [RepV.one_iff] at h1
    rw [intsA_rep h2, h1]
    rfl
theorem SlM.isS {M : Nat → Prop} {w : World} {v : Value} {us : List Value} (h : SlM M w v 1 us) : IsS w v us := by
  obtain ⟨p, len, cap, rfl, h1, h2, h3, h4, h5⟩ := h
  rw [Nat.mul_one] at h1
  subst h1
  exact ⟨p, cap, rfl, h2, h3, h4, fun hl => by obtain ⟨b, o, h6, _, h7⟩ := h5 hl; exact ⟨b, o, h6, h7⟩⟩
theorem RepV.isI {M : Nat → Prop} {w : World} {v : Value} {k : IntKind} {ns : List Int} (h : RepV M w (.sl 1 (intsA k ns)) v) : IsI k w v ns := by
  simp only [RepV] at h
  obtain ⟨us, h1, h2⟩ := h
  rw [intsA_rep h2] at h1
  exact h1.isS
theorem allB_rep {M : Nat → Prop} {w : World} : ∀ {ls : List (List UInt8)} {us : List Value}, RepL M w (ls.map .bs) us → AllB w us ls
  | [], us, h => by rw [h.nil_iff]; trivial
  | l :: ls, us, h => by
    obtain ⟨v, vs, rfl, h1, h2⟩ := RepL.cons_iff (ys := ls.map .bs) h
    exact ⟨h1.isB, allB_rep h2⟩
theorem RepV.isBB {M : Nat → Prop} {w : World} {v : Value} {ls : List (List UInt8)} (h : RepV M w (.sl 1 (ls.map .bs)) v) : IsBB w v ls := by
  simp only [RepV] at h
  obtain ⟨us, h1, h2⟩ := h
  exact ⟨us, h1.isS, allB_rep h2⟩

abbrev i64 (n : Int) : AV := .one (.int .i64 n)
abbrev u32A (n : Int) : AV := .one (.int .u32 n)
abbrev u16A (n : Int) : AV := .one (.int .u16 n)
abbrev u8A (n : Int) : AV := .one (.int .u8 n)
abbrev boA (b : Bool) : AV := .one (.bool b)
abbrev I64ok (n : Int) : Prop := -9223372036854775808 ≤ n ∧ n ≤ 9223372036854775807
abbrev small (l : List UInt8) : Prop := l.length ≤ 140737488355328

theorem okF {F : FuncId} (fn : Func) (h : Try.prog.funcs[F]? = some fn) (h2 : (fn.name == "runtime.NumGoroutine") = false) (h3 : fn.body.isNone = false) : CallOk Try.prog F := ⟨fn, h, h2, h3⟩

theorem get16_a (l : List UInt8) (at_ : Int) (ha : I64ok at_) : ASpec Try.prog 57 [.bs l, i64 at_] (.tup [u16A (get16 l at_), boA (thereB l.length at_ 2)]) := by
  refine .mk (okF _ Try.func57 (by kernel_rfl) rfl) fun M w vs hM h => ?_
  obtain ⟨v, vs, rfl, h1, h⟩ := h.cons_iff
  obtain ⟨_, vs, rfl, h2, h⟩ := h.cons_iff
  obtain rfl := h.nil_iff
  rw [RepV.one_iff] at h2
  subst h2
  refine (get16_any v l at_ w h1.isB ha).mono ?_
  rintro e w' ⟨rfl, rfl⟩
  exact ⟨_, rfl, by simp only [RepV]; exact ⟨_, rfl, RepL.cons (RepV.one_iff.2 rfl) (RepL.cons (RepV.one_iff.2 rfl) RepL.nil)⟩, Grow.refl _⟩
theorem get32_a (l : List UInt8) (at_ : Int) (ha : I64ok at_) : ASpec Try.prog 99 [.bs l, i64 at_] (.tup [u32A (get32 l at_), boA (thereB l.length at_ 4)]) := by
  refine .mk (okF _ Try.func99 (by kernel_rfl) rfl) fun M w vs hM h => ?_
  obtain ⟨v, vs, rfl, h1, h⟩ := h.cons_iff
  obtain ⟨_, vs, rfl, h2, h⟩ := h.cons_iff
  obtain rfl := h.nil_iff
  rw [RepV.one_iff] at h2
  subst h2
  refine (get32_any v l at_ w h1.isB ha).mono ?_
  rintro e w' ⟨rfl, rfl⟩
  exact ⟨_, rfl, by simp only [RepV]; exact ⟨_, rfl, RepL.cons (RepV.one_iff.2 rfl) (RepL.cons (RepV.one_iff.2 rfl) RepL.nil)⟩, Grow.refl _⟩
theorem cut_a (l : List UInt8) (at_ n : Int) (ha : I64ok at_) (hl : small l) : ASpec Try.prog 76 [.bs l, i64 at_, i64 n] (.tup [.bs (cutB l at_ n), boA (thereB l.length at_ n)]) := by
  refine .mk (okF _ Try.func76 (by kernel_rfl) rfl) fun M w vs hM h => ?_
  obtain ⟨v, vs, rfl, h1, h⟩ := h.cons_iff
  obtain ⟨_, vs, rfl, h2, h⟩ := h.cons_iff
  obtain ⟨_, vs, rfl, h3, h⟩ := h.cons_iff
  obtain rfl := h.nil_iff
  rw [RepV.one_iff] at h2 h3
  subst h2 h3
  refine (cut_any v l at_ n w h1.isB ha hl).mono ?_
  rintro e w' ⟨v', rfl, ho, g⟩
  exact ⟨_, rfl, by simp only [RepV]; exact ⟨_, rfl, RepL.cons (RepV.ofOwn ho hM) (RepL.cons (RepV.one_iff.2 rfl) RepL.nil)⟩, g⟩
theorem put16_a (l : List UInt8) (ns : List Int) (hb : l.length + 2 * ns.length ≤ 140737488355328) (hr : ∀ n ∈ ns, 0 ≤ n ∧ n ≤ 65535) : ASpec Try.prog 58 [.bs l, .sl 1 (intsA .u16 ns)] (.bs (l ++ put16 ns)) := by
  refine .mk (okF _ Try.func58 (by kernel_rfl) rfl) fun M w vs hM h => ?_
  obtain ⟨v, vs, rfl, h1, h⟩ := h.cons_iff
  obtain ⟨v2, vs, rfl, h2, h⟩ := h.cons_iff
  obtain rfl := h.nil_iff
  refine (put16_any v l v2 ns w h1.isB h2.isI hb hr).mono ?_
  rintro e w' ⟨v', rfl, ho, g⟩
  exact ⟨_, rfl, RepV.ofOwn ho hM, g⟩
theorem put32_a (l : List UInt8) (ns : List Int) (hb : l.length + 4 * ns.length ≤ 140737488355328) (hr : ∀ n ∈ ns, 0 ≤ n ∧ n ≤ 4294967295) : ASpec Try.prog 103 [.bs l, .sl 1 (intsA .u32 ns)] (.bs (l ++ put32 ns)) := by
  refine .mk (okF _ Try.func103 (by kernel_rfl) rfl) fun M w vs hM h => ?_
  obtain ⟨v, vs, rfl, h1, h⟩ := h.cons_iff
  obtain ⟨v2, vs, rfl, h2, h⟩ := h.cons_iff
  obtain rfl := h.nil_iff
  refine (put32_any v l v2 ns w h1.isB h2.isI hb hr).mono ?_
  rintro e w' ⟨v', rfl, ho, g⟩
  exact ⟨_, rfl, RepV.ofOwn ho hM, g⟩
theorem set16_a (l : List UInt8) (at_ n : Int) (ha : I64ok at_) (hl : small l) (hn : 0 ≤ n ∧ n ≤ 65535) : ASpec Try.prog 84 [.bs l, i64 at_, u16A n] (.tup [.bs (set16 l at_ n), boA (thereB l.length at_ 2)]) := by
  refine .mk (okF _ Try.func84 (by kernel_rfl) rfl) fun M w vs hM h => ?_
  obtain ⟨v, vs, rfl, h1, h⟩ := h.cons_iff
  obtain ⟨_, vs, rfl, h2, h⟩ := h.cons_iff
  obtain ⟨_, vs, rfl, h3, h⟩ := h.cons_iff
  obtain rfl := h.nil_iff
  rw [RepV.one_iff] at h2 h3
  subst h2 h3
  refine (set16_any v l at_ n w h1.isB ha hl hn).mono ?_
  rintro e w' ⟨v', rfl, ho, g⟩
  exact ⟨_, rfl, by simp only [RepV]; exact ⟨_, rfl, RepL.cons (RepV.ofOwn ho hM) (RepL.cons (RepV.one_iff.2 rfl) RepL.nil)⟩, g⟩
theorem join_a (ls : List (List UInt8)) (hb : small ls.flatten) : ASpec Try.prog 53 [.sl 1 (ls.map .bs)] (.bs ls.flatten) := by
  refine .mk (okF _ Try.func53 (by kernel_rfl) rfl) fun M w vs hM h => ?_
  obtain ⟨v, vs, rfl, h1, h⟩ := h.cons_iff
  obtain rfl := h.nil_iff
  refine (join_any v ls _ w h1.isBB rfl hb).mono ?_
  rintro e w' ⟨v', rfl, ho, g⟩
  exact ⟨_, rfl, RepV.ofOwn ho hM, g⟩
theorem same_a (l m : List UInt8) : ASpec Try.prog 63 [.bs l, .bs m] (boA (l == m)) := by
  refine .mk (okF _ Try.func63 (by kernel_rfl) rfl) fun M w vs hM h => ?_
  obtain ⟨v, vs, rfl, h1, h⟩ := h.cons_iff
  obtain ⟨v2, vs, rfl, h2, h⟩ := h.cons_iff
  obtain rfl := h.nil_iff
  refine (same_any v v2 l m w h1.isB h2.isB).mono ?_
  rintro e w' ⟨rfl, rfl⟩
  exact ⟨_, rfl, RepV.one_iff.2 rfl, Grow.refl _⟩







theorem right_a (ls : List (List UInt8)) (hb : small ls.flatten) : ASpec Try.prog 97 [.sl 1 (ls.map .bs)] (boA (onesF ls.flatten == 65535)) := by
  refine .mk (okF _ Try.func97 (by kernel_rfl) rfl) fun M w vs hM h => ?_
  obtain ⟨v, vs, rfl, h1, h⟩ := h.cons_iff
  obtain rfl := h.nil_iff
  refine (right_any v ls _ w h1.isBB rfl hb).mono ?_
  rintro e w' ⟨rfl, g⟩
  exact ⟨_, rfl, RepV.one_iff.2 rfl, g⟩
theorem turn32_a (s old next : Int) (hs : 0 ≤ s ∧ s ≤ 65535) (ho : 0 ≤ old ∧ old ≤ 4294967295) (hn : 0 ≤ next ∧ next ≤ 4294967295) :
    ASpec Try.prog 85 [u16A s, u32A old, u32A next] (u16A (turnF (turnF s (old / 65536) (next / 65536)) (old % 65536) (next % 65536))) := by
  refine .mk (okF _ Try.func85 (by kernel_rfl) rfl) fun M w vs hM h => ?_
  obtain ⟨_, vs, rfl, h1, h⟩ := h.cons_iff
  obtain ⟨_, vs, rfl, h2, h⟩ := h.cons_iff
  obtain ⟨_, vs, rfl, h3, h⟩ := h.cons_iff
  obtain rfl := h.nil_iff
  rw [RepV.one_iff] at h1 h2 h3
  subst h1 h2 h3
  refine (turn32_any s old next w hs ho hn).mono ?_
  rintro e w' ⟨rfl, rfl⟩
  exact ⟨_, rfl, RepV.one_iff.2 rfl, Grow.refl _⟩
theorem turn_a (s old next : Int) (hs : 0 ≤ s ∧ s ≤ 65535) (ho : 0 ≤ old ∧ old ≤ 65535) (hn : 0 ≤ next ∧ next ≤ 65535) :
    ASpec Try.prog 100 [u16A s, u16A old, u16A next] (u16A (turnF s old next)) := by
  refine .mk (okF _ Try.func100 (by kernel_rfl) rfl) fun M w vs hM h => ?_
  obtain ⟨_, vs, rfl, h1, h⟩ := h.cons_iff
  obtain ⟨_, vs, rfl, h2, h⟩ := h.cons_iff
  obtain ⟨_, vs, rfl, h3, h⟩ := h.cons_iff
  obtain rfl := h.nil_iff
  rw [RepV.one_iff] at h1 h2 h3
  subst h1 h2 h3
  refine (turn_any s old next w hs ho hn).mono ?_
  rintro e w' ⟨rfl, rfl⟩
  exact ⟨_, rfl, RepV.one_iff.2 rfl, Grow.refl _⟩
theorem refOnes_a (l : List UInt8) (hb : small l) : ASpec Try.prog 86 [.bs l] (i64 (onesF l)) := by
  refine .mk (okF _ Try.func86 (by kernel_rfl) rfl) fun M w vs hM h => ?_
  obtain ⟨v, vs, rfl, h1, h⟩ := h.cons_iff
  obtain rfl := h.nil_iff
  refine (refOnes_any v l w h1.isB hb).mono ?_
  rintro e w' ⟨rfl, rfl⟩
  exact ⟨_, rfl, RepV.one_iff.2 rfl, Grow.refl _⟩
theorem refOf_a (l : List UInt8) (hb : small l) : ASpec Try.prog 80 [.bs l] (i64 (65535 - onesF l)) := by
  refine .mk (okF _ Try.func80 (by kernel_rfl) rfl) fun M w vs hM h => ?_
  obtain ⟨v, vs, rfl, h1, h⟩ := h.cons_iff
  obtain rfl := h.nil_iff
  refine (refOf_any v l w h1.isB hb).mono ?_
  rintro e w' ⟨rfl, rfl⟩
  exact ⟨_, rfl, RepV.one_iff.2 rfl, Grow.refl _⟩
theorem add_a (l m : List UInt8) (hb : l.length + m.length ≤ 140737488355328) : ASpec Try.prog 33 [.bs l, .bs m] (.bs (l ++ m)) := by
  refine .mk (okF _ Try.func33 (by kernel_rfl) rfl) fun M w vs hM h => ?_
  obtain ⟨v, vs, rfl, h1, h⟩ := h.cons_iff
  obtain ⟨v2, vs, rfl, h2, h⟩ := h.cons_iff
  obtain rfl := h.nil_iff
  refine (add_any v v2 l m w h1.isB h2.isB hb).mono ?_
  rintro e w' ⟨v', rfl, ho, g⟩
  exact ⟨_, rfl, RepV.ofOwn ho hM, g⟩
theorem refGet_a (l : List UInt8) (at_ : Int) (n : Nat) (ha : I64ok at_) (hn : n ≤ 4) :
    ASpec Try.prog 87 [.bs l, i64 at_, i64 n] (.tup [u32A (if thereB l.length at_ n then (num ((l.drop at_.toNat).take n) : Int) else 0), boA (thereB l.length at_ n)]) := by
  refine .mk (okF _ Try.func87 (by kernel_rfl) rfl) fun M w vs hM h => ?_
  obtain ⟨v, vs, rfl, h1, h⟩ := h.cons_iff
  obtain ⟨_, vs, rfl, h2, h⟩ := h.cons_iff
  obtain ⟨_, vs, rfl, h3, h⟩ := h.cons_iff
  obtain rfl := h.nil_iff
  rw [RepV.one_iff] at h2 h3
  subst h2 h3
  refine (refGet_any v l at_ n w h1.isB ha hn).mono ?_
  rintro e w' ⟨rfl, rfl⟩
  exact ⟨_, rfl, by simp only [RepV]; exact ⟨_, rfl, RepL.cons (RepV.one_iff.2 rfl) (RepL.cons (RepV.one_iff.2 rfl) RepL.nil)⟩, Grow.refl _⟩
theorem refCut_a (l : List UInt8) (at_ n : Int) (ha : I64ok at_) (hl : small l) : ASpec Try.prog 66 [.bs l, i64 at_, i64 n] (.tup [.bs (cutB l at_ n), boA (thereB l.length at_ n)]) := by
  refine .mk (okF _ Try.func66 (by kernel_rfl) rfl) fun M w vs hM h => ?_
  obtain ⟨v, vs, rfl, h1, h⟩ := h.cons_iff
  obtain ⟨_, vs, rfl, h2, h⟩ := h.cons_iff
  obtain ⟨_, vs, rfl, h3, h⟩ := h.cons_iff
  obtain rfl := h.nil_iff
  rw [RepV.one_iff] at h2 h3
  subst h2 h3
  refine (refCut_any v l at_ n w h1.isB ha hl).mono ?_
  rintro e w' ⟨v', rfl, ho, g⟩
  exact ⟨_, rfl, by simp only [RepV]; exact ⟨_, rfl, RepL.cons (RepV.ofOwn ho hM) (RepL.cons (RepV.one_iff.2 rfl) RepL.nil)⟩, g⟩
theorem in_a (n lo hi : Int) : ASpec Try.prog 77 [i64 n, i64 lo, i64 hi] (i64 (inF n lo hi)) := by
  refine .mk (okF _ Try.func77 (by kernel_rfl) rfl) fun M w vs hM h => ?_
  obtain ⟨_, vs, rfl, h1, h⟩ := h.cons_iff
  obtain ⟨_, vs, rfl, h2, h⟩ := h.cons_iff
  obtain ⟨_, vs, rfl, h3, h⟩ := h.cons_iff
  obtain rfl := h.nil_iff
  rw [RepV.one_iff] at h1 h2 h3
  subst h1 h2 h3
  refine (in_any n lo hi w).mono ?_
  rintro e w' ⟨rfl, rfl⟩
  exact ⟨_, rfl, RepV.one_iff.2 rfl, Grow.refl _⟩
theorem refSame_a (l m : List UInt8) : ASpec Try.prog 21 [.bs l, .bs m] (boA (l == m)) := by
  refine .mk (okF _ Try.func21 (by kernel_rfl) rfl) fun M w vs hM h => ?_
  obtain ⟨v, vs, rfl, h1, h⟩ := h.cons_iff
  obtain ⟨v2, vs, rfl, h2, h⟩ := h.cons_iff
  obtain rfl := h.nil_iff
  refine (refSame_any v v2 l m w h1.isB h2.isB).mono ?_
  rintro e w' ⟨rfl, g⟩
  exact ⟨_, rfl, RepV.one_iff.2 rfl, g⟩

abbrev macL (m : Nat → Int) : List AV := [u8A (m 0), u8A (m 1), u8A (m 2), u8A (m 3), u8A (m 4), u8A (m 5)]
abbrev macA (m : Nat → Int) : AV := .agg (macL m)
abbrev frameA (d s : Nat → Int) (t : Int) (l : List UInt8) : AV := .agg (macL d ++ macL s ++ [u16A t, .bs l])
abbrev icmpA (t c r : Int) (l : List UInt8) : AV := .agg [u8A t, u8A c, u32A r, .bs l]
abbrev datA (s d : Int) (b : Bool) (l : List UInt8) : AV := .agg [u16A s, u16A d, boA b, .bs l]
abbrev arpA (op : Int) (sm : Nat → Int) (sip : Int) (dm : Nat → Int) (dip : Int) : AV := .agg (u16A op :: (macL sm ++ u32A sip :: (macL dm ++ [u32A dip])))
structure PktN where
  tos : Int
  id : Int
  df : Bool
  mf : Bool
  off : Int
  ttl : Int
  proto : Int
  src : Int
  dst : Int
  opts : List UInt8
  data : List UInt8
abbrev pktL (p : PktN) : List AV := [u8A p.tos, u16A p.id, boA p.df, boA p.mf, u16A p.off, u8A p.ttl, u8A p.proto, u32A p.src, u32A p.dst, .bs p.opts, .bs p.data]
abbrev pktA (p : PktN) : AV := .agg (pktL p)
structure PktN.ok (p : PktN) : Prop where
  tos : 0 ≤ p.tos ∧ p.tos ≤ 255
  id : 0 ≤ p.id ∧ p.id ≤ 65535
  off : 0 ≤ p.off ∧ p.off ≤ 65535
  ttl : 0 ≤ p.ttl ∧ p.ttl ≤ 255
  proto : 0 ≤ p.proto ∧ p.proto ≤ 255
  src : 0 ≤ p.src ∧ p.src ≤ 4294967295
  dst : 0 ≤ p.dst ∧ p.dst ≤ 4294967295
structure SegN where
  src : Int
  dst : Int
  seq : Int
  ack : Int
  res : Int
  flags : Int
  win : Int
  urg : Int
  opts : List UInt8
  data : List UInt8
abbrev segL (s : SegN) : List AV := [u16A s.src, u16A s.dst, u32A s.seq, u32A s.ack, u8A s.res, u8A s.flags, u16A s.win, u16A s.urg, .bs s.opts, .bs s.data]
abbrev segA (s : SegN) : AV := .agg (segL s)
structure SegN.ok (s : SegN) : Prop where
  src : 0 ≤ s.src ∧ s.src ≤ 65535
  dst : 0 ≤ s.dst ∧ s.dst ≤ 65535
  seq : 0 ≤ s.seq ∧ s.seq ≤ 4294967295
  ack : 0 ≤ s.ack ∧ s.ack ≤ 4294967295
  res : 0 ≤ s.res ∧ s.res ≤ 255
  flags : 0 ≤ s.flags ∧ s.flags ≤ 255
  win : 0 ≤ s.win ∧ s.win ≤ 65535
  urg : 0 ≤ s.urg ∧ s.urg ≤ 65535
structure FlowN where
  src : Int
  dst : Int
  sp : Int
  dp : Int
  proto : Int
abbrev flowL (f : FlowN) : List AV := [u32A f.src, u32A f.dst, u16A f.sp, u16A f.dp, u8A f.proto]
abbrev flowA (f : FlowN) : AV := .agg (flowL f)
structure FlowN.ok (f : FlowN) : Prop where
  src : 0 ≤ f.src ∧ f.src ≤ 4294967295
  dst : 0 ≤ f.dst ∧ f.dst ≤ 4294967295
  sp : 0 ≤ f.sp ∧ f.sp ≤ 65535
  dp : 0 ≤ f.dp ∧ f.dp ≤ 65535
  proto : 0 ≤ f.proto ∧ f.proto ≤ 255
structure TurnN where
  src : Int
  dst : Int
  sp : Int
  dp : Int
  seq : Int
  ack : Int
abbrev turnL (t : TurnN) : List AV := [u32A t.src, u32A t.dst, u16A t.sp, u16A t.dp, u32A t.seq, u32A t.ack]
abbrev turnA (t : TurnN) : AV := .agg (turnL t)
structure TurnN.ok (t : TurnN) : Prop where
  src : 0 ≤ t.src ∧ t.src ≤ 4294967295
  dst : 0 ≤ t.dst ∧ t.dst ≤ 4294967295
  sp : 0 ≤ t.sp ∧ t.sp ≤ 65535
  dp : 0 ≤ t.dp ∧ t.dp ≤ 65535
  seq : 0 ≤ t.seq ∧ t.seq ≤ 4294967295
  ack : 0 ≤ t.ack ∧ t.ack ≤ 4294967295
def macOk (m : Nat → Int) : Prop := ∀ i, i < 6 → 0 ≤ m i ∧ m i ≤ 255
def m255 : Nat → Int := fun _ => 255
def m0 : Nat → Int := fun _ => 0
/-- The address that bytes are from a place on. -/
def macAt (l : List UInt8) (o : Nat) : Nat → Int := fun i => ((l.getD (o + i) 0).toNat : Int)
theorem macAt_ok (l : List UInt8) (o : Nat) : macOk (macAt l o) := fun i _ => by
  have := (l.getD (o + i) 0).toNat_lt
  unfold macAt
  omega
/-- Six numbers alike. -/
def mEq (a b : Nat → Int) : Bool := decide (a 0 = b 0 ∧ a 1 = b 1 ∧ a 2 = b 2 ∧ a 3 = b 3 ∧ a 4 = b 4 ∧ a 5 = b 5)
theorem bits_1 {x : Int} (h : 0 ≤ x ∧ x ≤ 255) : bits .and .u8 x 1 = x % 2 :=
  bits_mask .u8 8 (by decide) (fun n g1 g2 => by rw [IntKind.wrap_u8]; omega) 1 (by decide) x h.1 (by omega)
end Go.Proofs.Ythjojkkapboonaa
