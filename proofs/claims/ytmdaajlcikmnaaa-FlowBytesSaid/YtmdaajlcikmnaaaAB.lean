/- FlowBytes: its walk. -/
import Derived.Test.YtmdaajlcikmnaaaAA
import Derived.Test.YtmdaajlcikmnaaaV
import Derived.Test.YtmdaajlcikmnaaaN
namespace Go.Proofs.Ytmdaajlcikmnaaa
open Go.RowKit

theorem ifs5 {α : Type} {a b c d e a' b' c' d' e' : Int} (x y : α) (h : ¬ (a = a' ∧ b = b' ∧ c = c' ∧ d = d' ∧ e = e')) :
    (if a = a' then if b = b' then if c = c' then if d = d' then if e = e' then x else y else y else y else y else y) = y := by
  repeat' split
  all_goals first | rfl | (exfalso; exact h ⟨by assumption, by assumption, by assumption, by assumption, by assumption⟩)

theorem cb_u8 (x y : Int) (s t : List UInt8) : Lib.compareBytes (u8 x :: s) (u8 y :: t) = if x % 256 < y % 256 then -1 else if y % 256 < x % 256 then 1 else Lib.compareBytes s t := by
  have h1 := u8_toNat x
  have h2 := u8_toNat y
  simp only [Lib.compareBytes, UInt8.lt_iff_toNat_lt]
  by_cases h3 : x % 256 < y % 256
  · rw [if_pos h3, if_pos (by omega)]
  · rw [if_neg h3, if_neg (by omega)]
    by_cases h4 : y % 256 < x % 256
    · rw [if_pos h4, if_pos (by omega)]
    · rw [if_neg h4, if_neg (by omega)]
theorem cb_16 (a b : Int) (s t : List UInt8) (ha : 0 ≤ a ∧ a ≤ 65535) (hb : 0 ≤ b ∧ b ≤ 65535) :
    Lib.compareBytes (u8 (a / 256) :: u8 a :: s) (u8 (b / 256) :: u8 b :: t) = if a < b then -1 else if b < a then 1 else Lib.compareBytes s t := by
  rw [cb_u8, cb_u8]
  repeat' split
  all_goals first | rfl | (exfalso; omega)
theorem cb_32 (a b : Int) (s t : List UInt8) (ha : 0 ≤ a ∧ a ≤ 4294967295) (hb : 0 ≤ b ∧ b ≤ 4294967295) :
    Lib.compareBytes (u8 (a / 16777216) :: u8 (a / 65536) :: u8 (a / 256) :: u8 a :: s) (u8 (b / 16777216) :: u8 (b / 65536) :: u8 (b / 256) :: u8 b :: t) = if a < b then -1 else if b < a then 1 else Lib.compareBytes s t := by
  rw [cb_u8, cb_u8, cb_u8, cb_u8]
  repeat' split
  all_goals first | rfl | (exfalso; omega)

theorem ord_eq (f g : Flw) (hf : f.ok) (hg : g.ok) : ord f g = cmpN f.nums g.nums := by
  obtain ⟨f1, f2, f3, f4, f5⟩ := hf
  obtain ⟨g1, g2, g3, g4, g5⟩ := hg
  simp only [ord, Flw.bytes, Flw.nums, put32, put16, List.cons_append, List.nil_append, cmpN]
  rw [cb_32 _ _ _ _ f1 g1, cb_32 _ _ _ _ f2 g2, cb_16 _ _ _ _ f3 g3, cb_16 _ _ _ _ f4 g4, cb_u8]
  simp only [Lib.compareBytes]
  rw [show f.proto % 256 = f.proto by omega, show g.proto % 256 = g.proto by omega]

theorem cmpN_zero : ∀ l m : List Int, l.length = m.length → cmpN l m = 0 → l = m
  | [], [], _, _ => rfl
  | a :: s, b :: t, hl, h => by
    simp only [cmpN] at h
    split at h
    · omega
    · split at h
      · omega
      · rw [cmpN_zero s t (by simpa using hl) h, show a = b by omega]
theorem cb_refl : ∀ l : List UInt8, Lib.compareBytes l l = 0
  | [] => rfl
  | a :: s => by simp [Lib.compareBytes, UInt8.lt_irrefl, cb_refl s]
theorem flw_ext (f g : Flw) (h : f.nums = g.nums) : f = g := by
  obtain ⟨a, b, c, d, e⟩ := f
  obtain ⟨a', b', c', d', e'⟩ := g
  simp only [Flw.nums, List.cons.injEq, and_true] at h
  obtain ⟨rfl, rfl, rfl, rfl, rfl⟩ := h
  rfl
theorem ord_zero (f g : Flw) (hf : f.ok) (hg : g.ok) (h : ord f g = 0) : f = g := flw_ext f g (cmpN_zero _ _ rfl (by rw [← ord_eq f g hf hg]; exact h))

set_option maxHeartbeats 8000000 in
set_option maxRecDepth 100000 in
theorem flowBytes_eq (f : Flw) (w : World) (hf : f.ok) :
    Calls Try.prog 15 #[f.v, f.v] w fun e w' => e = .returned (.bool true) ∧ Grow w w' := by
  have h0 : ord f f = 0 := cb_refl _
  have hb0 : ∀ w, Calls Try.prog 62 #[f.v] w fun e w' => ∃ v', e = .returned v' ∧ IsB w' v' f.bytes ∧ Grow w w' := fun w => (flowBytes_any f w hf).mono fun e w' ⟨v, h1, h2, h3⟩ => ⟨v, h1, h2.isB, h3⟩
  have hrb := fun w => refBytes_any f w hf
  have hc := fun w => flowCompare_any f f w hf hf
  have hrc := fun w => refCompare_any f f w hf hf
  rw [← ord_eq f f hf hf] at hrc
  rw [h0] at hc hrc
  have hq : (f.bytes == f.bytes) = true := beq_self_eq_true _
  have hK := fun w => flowBack_any f w
  have hKB := fun w => flowBack_any f.back w
  have hRK := fun w => refBack_any f w
  simp only [Flw.v, Flw.back] at hb0 hrb hc hrc hK hKB hRK ⊢
  have HB0 := Lib.hid hb0
  have HB1 := HB0
  have HRB := Lib.hid hrb
  have HC := Lib.hid hc
  have HRC := Lib.hid hrc
  have HK := Lib.hid hK
  have HKB := Lib.hid hKB
  have HRK := Lib.hid hRK
  have HQ := Lib.hid hq
  have HL := Lib.hid fun w => lives11_any w
  clear h0 hb0 hrb hc hrc hq hK hKB hRK
  have hk : Hid (∀ w', Grow ((w.alloc (.cells #[.int .u32 f.src, .int .u32 f.dst, .int .u16 f.sp, .int .u16 f.dp, .int .u8 f.proto] 25)).alloc (.cells #[.int .u32 f.src, .int .u32 f.dst, .int .u16 f.sp, .int .u16 f.dp, .int .u8 f.proto] 25)).drew w' → w'.cell? ⟨w.heap.size, 0, none⟩ = some (.int .u32 f.src) ∧ w'.cell? ⟨w.heap.size, 1, none⟩ = some (.int .u32 f.dst) ∧ w'.cell? ⟨w.heap.size, 2, none⟩ = some (.int .u16 f.sp) ∧ w'.cell? ⟨w.heap.size, 3, none⟩ = some (.int .u16 f.dp) ∧ w'.cell? ⟨w.heap.size, 4, none⟩ = some (.int .u8 f.proto) ∧ w'.cell? ⟨(w.heap.size + 1), 0, none⟩ = some (.int .u32 f.src) ∧ w'.cell? ⟨(w.heap.size + 1), 1, none⟩ = some (.int .u32 f.dst) ∧ w'.cell? ⟨(w.heap.size + 1), 2, none⟩ = some (.int .u16 f.sp) ∧ w'.cell? ⟨(w.heap.size + 1), 3, none⟩ = some (.int .u16 f.dp) ∧ w'.cell? ⟨(w.heap.size + 1), 4, none⟩ = some (.int .u8 f.proto)) := fun w' g1 => by
    have a0 := fun i => cell_box w #[.int .u32 f.src, .int .u32 f.dst, .int .u16 f.sp, .int .u16 f.dp, .int .u8 f.proto] 25 i w.heap.size rfl
    have a1 := fun i => cell_box (w.alloc (.cells #[.int .u32 f.src, .int .u32 f.dst, .int .u16 f.sp, .int .u16 f.dp, .int .u8 f.proto] 25)) #[.int .u32 f.src, .int .u32 f.dst, .int .u16 f.sp, .int .u16 f.dp, .int .u8 f.proto] 25 i (w.heap.size + 1) (by simp)
    exact ⟨g1.cell ((Grow.a1 _ _).cell (a0 0)), g1.cell ((Grow.a1 _ _).cell (a0 1)), g1.cell ((Grow.a1 _ _).cell (a0 2)), g1.cell ((Grow.a1 _ _).cell (a0 3)), g1.cell ((Grow.a1 _ _).cell (a0 4)), g1.cell (a1 0), g1.cell (a1 1), g1.cell (a1 2), g1.cell (a1 3), g1.cell (a1 4)⟩
  go_enter Try.func15, Try.ntmps15
  go_wp2_with fail
  refine wp_gamma (by kernel_rfl) 22 56 [[(2, none)], [(5, some 0)], [(2, none)], [(7, some 2)], [(6, some 1), (8, some 3)], [(9, some 4)], [(10, some 5)], [(2, none), (11, some 6)], [(3, none), (11, some 6)], [(12, some 7), (13, some 8), (11, some 6)], [(2, none), (11, some 6)], [(3, none), (11, some 6)], [(15, some 10), (16, some 11), (11, some 6)], [(14, some 9), (17, some 12), (11, some 6)], [(11, some 6), (18, some 13)], [(19, some 14)], [(2, none), (20, some 15)], [(21, some 16), (20, some 15)], [(2, none), (20, some 15)], [(23, some 18), (20, some 15)], [(22, some 17), (24, some 19), (20, some 15)], [(20, some 15), (25, some 20)]] [.ex (.agg #[.int .u32 f.src, .int .u32 f.dst, .int .u16 f.sp, .int .u16 f.dp, .int .u8 f.proto]), .rel (fun v wx => IsB wx v (f.bytes)), .ex (.agg #[.int .u32 f.src, .int .u32 f.dst, .int .u16 f.sp, .int .u16 f.dp, .int .u8 f.proto]), .rel (fun v wx => IsB wx v (f.bytes)), .ex (.bool true), .ex (.bool false), .ex (.bool false), .ex (.agg #[.int .u32 f.src, .int .u32 f.dst, .int .u16 f.sp, .int .u16 f.dp, .int .u8 f.proto]), .ex (.agg #[.int .u32 f.src, .int .u32 f.dst, .int .u16 f.sp, .int .u16 f.dp, .int .u8 f.proto]), .ex (.int .i64 0), .ex (.agg #[.int .u32 f.src, .int .u32 f.dst, .int .u16 f.sp, .int .u16 f.dp, .int .u8 f.proto]), .ex (.agg #[.int .u32 f.src, .int .u32 f.dst, .int .u16 f.sp, .int .u16 f.dp, .int .u8 f.proto]), .ex (.int .i64 0), .ex (.bool false), .ex (.bool false), .ex (.bool false), .ex (.agg #[.int .u32 f.src, .int .u32 f.dst, .int .u16 f.sp, .int .u16 f.dp, .int .u8 f.proto]), .ex (.agg #[.int .u32 f.dst, .int .u32 f.src, .int .u16 f.dp, .int .u16 f.sp, .int .u8 f.proto]), .ex (.agg #[.int .u32 f.src, .int .u32 f.dst, .int .u16 f.sp, .int .u16 f.dp, .int .u8 f.proto]), .ex (.agg #[.int .u32 f.dst, .int .u32 f.src, .int .u16 f.dp, .int .u16 f.sp, .int .u8 f.proto]), .ex (.bool false), .ex (.bool false)] (by kernel_rfl) rfl rfl ⟨Sp.stable_ex _, ⟨(fun _ _ _ g h => IsB.grow h g), ⟨Sp.stable_ex _, ⟨(fun _ _ _ g h => IsB.grow h g), ⟨Sp.stable_ex _, ⟨Sp.stable_ex _, ⟨Sp.stable_ex _, ⟨Sp.stable_ex _, ⟨Sp.stable_ex _, ⟨Sp.stable_ex _, ⟨Sp.stable_ex _, ⟨Sp.stable_ex _, ⟨Sp.stable_ex _, ⟨Sp.stable_ex _, ⟨Sp.stable_ex _, ⟨Sp.stable_ex _, ⟨Sp.stable_ex _, ⟨Sp.stable_ex _, ⟨Sp.stable_ex _, ⟨Sp.stable_ex _, ⟨Sp.stable_ex _, ⟨Sp.stable_ex _, trivial⟩⟩⟩⟩⟩⟩⟩⟩⟩⟩⟩⟩⟩⟩⟩⟩⟩⟩⟩⟩⟩⟩ ?_ ?_
  · refine ⟨?_, ?_, ?_, ?_, ?_, ?_, ?_, ?_, ?_, ?_, ?_, ?_, ?_, ?_, ?_, ?_, ?_, ?_, ?_, ?_, ?_, ?_, trivial⟩
    · intro a wq gr h K hK
      obtain ⟨e0, _⟩ := h
      have e0 : a.tmps[2]? = some (.pointer (some ⟨w.heap.size, 0, none⟩)) := e0
      have E0 : a.eval (.tmp 2) = .pointer (some ⟨w.heap.size, 0, none⟩) := eval_of e0
      rw [if_pos (by rfl)]
      have hc := hk.out wq gr
      go_simp
      exact hK _ _ (Grow.refl _) rfl
    · intro a wq gr h K hK
      obtain ⟨⟨x0, e0, h0⟩, _⟩ := h
      obtain rfl : x0 = .agg #[.int .u32 f.src, .int .u32 f.dst, .int .u16 f.sp, .int .u16 f.dp, .int .u8 f.proto] := h0
      have E0 : a.eval (.tmp 5) = _ := eval_of e0
      rw [if_pos (by rfl)]
      go_simp
      refine (HB0.out _).mono ?_; rintro e w2 ⟨v1, rfl, ho1, g1⟩
      exact hK _ _ g1 ho1
    · intro a wq gr h K hK
      obtain ⟨e0, _⟩ := h
      have e0 : a.tmps[2]? = some (.pointer (some ⟨w.heap.size, 0, none⟩)) := e0
      have E0 : a.eval (.tmp 2) = .pointer (some ⟨w.heap.size, 0, none⟩) := eval_of e0
      rw [if_pos (by rfl)]
      have hc := hk.out wq gr
      go_simp
      exact hK _ _ (Grow.refl _) rfl
    · intro a wq gr h K hK
      obtain ⟨⟨x0, e0, h0⟩, _⟩ := h
      obtain rfl : x0 = .agg #[.int .u32 f.src, .int .u32 f.dst, .int .u16 f.sp, .int .u16 f.dp, .int .u8 f.proto] := h0
      have E0 : a.eval (.tmp 7) = _ := eval_of e0
      rw [if_pos (by rfl)]
      go_simp
      refine (HRB.out _).mono ?_; rintro e w2 ⟨v1, rfl, ho1, g1⟩
      exact hK _ _ g1 ho1
    · intro a wq gr h K hK
      obtain ⟨⟨x0, e0, h0⟩, ⟨x1, e1, h1⟩, _⟩ := h
      have h0 : (fun v wx => IsB wx v (f.bytes)) x0 wq := h0
      have E0 : a.eval (.tmp 6) = _ := eval_of e0
      have h1 : (fun v wx => IsB wx v (f.bytes)) x1 wq := h1
      have E1 : a.eval (.tmp 8) = _ := eval_of e1
      rw [if_pos (by rfl)]
      go_simp
      refine (refSame_eq _ _ _ _ _ h0 h1 rfl).mono ?_; rintro e w2 ⟨rfl, g1⟩
      exact hK _ _ g1 rfl
    · intro a wq gr h K hK
      obtain ⟨⟨x0, e0, h0⟩, _⟩ := h
      obtain rfl : x0 = .bool true := h0
      have E0 : a.eval (.tmp 9) = _ := eval_of e0
      rw [if_pos (by rfl)]
      go_simp
      exact hK _ _ (Grow.refl _) rfl
    · intro a wq gr h K hK
      obtain ⟨⟨x0, e0, h0⟩, _⟩ := h
      obtain rfl : x0 = .bool false := h0
      have E0 : a.eval (.tmp 10) = _ := eval_of e0
      rw [if_pos (by rfl)]
      go_simp
      exact hK _ _ (Grow.refl _) rfl
    · intro a wq gr h K hK
      obtain ⟨e0, ⟨x1, e1, h1⟩, _⟩ := h
      have e0 : a.tmps[2]? = some (.pointer (some ⟨w.heap.size, 0, none⟩)) := e0
      have E0 : a.eval (.tmp 2) = .pointer (some ⟨w.heap.size, 0, none⟩) := eval_of e0
      obtain rfl : x1 = .bool false := h1
      have E1 : a.eval (.tmp 11) = _ := eval_of e1
      rw [if_pos (by simp [Region.wanted, yielded, e1])]
      have hc := hk.out wq gr
      go_simp
      exact hK _ _ (Grow.refl _) rfl
    · intro a wq gr h K hK
      obtain ⟨e0, ⟨x1, e1, h1⟩, _⟩ := h
      have e0 : a.tmps[3]? = some (.pointer (some ⟨(w.heap.size + 1), 0, none⟩)) := e0
      have E0 : a.eval (.tmp 3) = .pointer (some ⟨(w.heap.size + 1), 0, none⟩) := eval_of e0
      obtain rfl : x1 = .bool false := h1
      have E1 : a.eval (.tmp 11) = _ := eval_of e1
      rw [if_pos (by simp [Region.wanted, yielded, e1])]
      have hc := hk.out wq gr
      go_simp
      exact hK _ _ (Grow.refl _) rfl
    · intro a wq gr h K hK
      obtain ⟨⟨x0, e0, h0⟩, ⟨x1, e1, h1⟩, ⟨x2, e2, h2⟩, _⟩ := h
      obtain rfl : x0 = .agg #[.int .u32 f.src, .int .u32 f.dst, .int .u16 f.sp, .int .u16 f.dp, .int .u8 f.proto] := h0
      have E0 : a.eval (.tmp 12) = _ := eval_of e0
      obtain rfl : x1 = .agg #[.int .u32 f.src, .int .u32 f.dst, .int .u16 f.sp, .int .u16 f.dp, .int .u8 f.proto] := h1
      have E1 : a.eval (.tmp 13) = _ := eval_of e1
      obtain rfl : x2 = .bool false := h2
      have E2 : a.eval (.tmp 11) = _ := eval_of e2
      rw [if_pos (by simp [Region.wanted, yielded, e2])]
      go_simp
      refine (HC.out _).mono ?_; rintro e w2 ⟨rfl, g1⟩
      exact hK _ _ g1 rfl
    · intro a wq gr h K hK
      obtain ⟨e0, ⟨x1, e1, h1⟩, _⟩ := h
      have e0 : a.tmps[2]? = some (.pointer (some ⟨w.heap.size, 0, none⟩)) := e0
      have E0 : a.eval (.tmp 2) = .pointer (some ⟨w.heap.size, 0, none⟩) := eval_of e0
      obtain rfl : x1 = .bool false := h1
      have E1 : a.eval (.tmp 11) = _ := eval_of e1
      rw [if_pos (by simp [Region.wanted, yielded, e1])]
      have hc := hk.out wq gr
      go_simp
      exact hK _ _ (Grow.refl _) rfl
    · intro a wq gr h K hK
      obtain ⟨e0, ⟨x1, e1, h1⟩, _⟩ := h
      have e0 : a.tmps[3]? = some (.pointer (some ⟨(w.heap.size + 1), 0, none⟩)) := e0
      have E0 : a.eval (.tmp 3) = .pointer (some ⟨(w.heap.size + 1), 0, none⟩) := eval_of e0
      obtain rfl : x1 = .bool false := h1
      have E1 : a.eval (.tmp 11) = _ := eval_of e1
      rw [if_pos (by simp [Region.wanted, yielded, e1])]
      have hc := hk.out wq gr
      go_simp
      exact hK _ _ (Grow.refl _) rfl
    · intro a wq gr h K hK
      obtain ⟨⟨x0, e0, h0⟩, ⟨x1, e1, h1⟩, ⟨x2, e2, h2⟩, _⟩ := h
      obtain rfl : x0 = .agg #[.int .u32 f.src, .int .u32 f.dst, .int .u16 f.sp, .int .u16 f.dp, .int .u8 f.proto] := h0
      have E0 : a.eval (.tmp 15) = _ := eval_of e0
      obtain rfl : x1 = .agg #[.int .u32 f.src, .int .u32 f.dst, .int .u16 f.sp, .int .u16 f.dp, .int .u8 f.proto] := h1
      have E1 : a.eval (.tmp 16) = _ := eval_of e1
      obtain rfl : x2 = .bool false := h2
      have E2 : a.eval (.tmp 11) = _ := eval_of e2
      rw [if_pos (by simp [Region.wanted, yielded, e2])]
      go_simp
      refine (HRC.out _).mono ?_; rintro e w2 ⟨rfl, g1⟩
      exact hK _ _ g1 rfl
    · intro a wq gr h K hK
      obtain ⟨⟨x0, e0, h0⟩, ⟨x1, e1, h1⟩, ⟨x2, e2, h2⟩, _⟩ := h
      obtain rfl : x0 = .int .i64 0 := h0
      have E0 : a.eval (.tmp 14) = _ := eval_of e0
      obtain rfl : x1 = .int .i64 0 := h1
      have E1 : a.eval (.tmp 17) = _ := eval_of e1
      obtain rfl : x2 = .bool false := h2
      have E2 : a.eval (.tmp 11) = _ := eval_of e2
      rw [if_pos (by simp [Region.wanted, yielded, e2])]
      go_simp
      exact hK _ _ (Grow.refl _) rfl
    · intro a wq gr h K hK
      obtain ⟨⟨x0, e0, h0⟩, ⟨x1, e1, h1⟩, _⟩ := h
      obtain rfl : x0 = .bool false := h0
      have E0 : a.eval (.tmp 11) = _ := eval_of e0
      obtain rfl : x1 = .bool false := h1
      have E1 : a.eval (.tmp 18) = _ := eval_of e1
      rw [if_pos (by rfl)]
      go_simp
      exact hK _ _ (Grow.refl _) rfl
    · intro a wq gr h K hK
      obtain ⟨⟨x0, e0, h0⟩, _⟩ := h
      obtain rfl : x0 = .bool false := h0
      have E0 : a.eval (.tmp 19) = _ := eval_of e0
      rw [if_pos (by rfl)]
      go_simp
      exact hK _ _ (Grow.refl _) rfl
    · intro a wq gr h K hK
      obtain ⟨e0, ⟨x1, e1, h1⟩, _⟩ := h
      have e0 : a.tmps[2]? = some (.pointer (some ⟨w.heap.size, 0, none⟩)) := e0
      have E0 : a.eval (.tmp 2) = .pointer (some ⟨w.heap.size, 0, none⟩) := eval_of e0
      obtain rfl : x1 = .bool false := h1
      have E1 : a.eval (.tmp 20) = _ := eval_of e1
      rw [if_pos (by simp [Region.wanted, yielded, e1])]
      have hc := hk.out wq gr
      go_simp
      exact hK _ _ (Grow.refl _) rfl
    · intro a wq gr h K hK
      obtain ⟨⟨x0, e0, h0⟩, ⟨x1, e1, h1⟩, _⟩ := h
      obtain rfl : x0 = .agg #[.int .u32 f.src, .int .u32 f.dst, .int .u16 f.sp, .int .u16 f.dp, .int .u8 f.proto] := h0
      have E0 : a.eval (.tmp 21) = _ := eval_of e0
      obtain rfl : x1 = .bool false := h1
      have E1 : a.eval (.tmp 20) = _ := eval_of e1
      rw [if_pos (by simp [Region.wanted, yielded, e1])]
      go_simp
      refine (HK.out _).mono ?_; rintro e w2 ⟨rfl, g1⟩
      exact hK _ _ g1 rfl
    · intro a wq gr h K hK
      obtain ⟨e0, ⟨x1, e1, h1⟩, _⟩ := h
      have e0 : a.tmps[2]? = some (.pointer (some ⟨w.heap.size, 0, none⟩)) := e0
      have E0 : a.eval (.tmp 2) = .pointer (some ⟨w.heap.size, 0, none⟩) := eval_of e0
      obtain rfl : x1 = .bool false := h1
      have E1 : a.eval (.tmp 20) = _ := eval_of e1
      rw [if_pos (by simp [Region.wanted, yielded, e1])]
      have hc := hk.out wq gr
      go_simp
      exact hK _ _ (Grow.refl _) rfl
    · intro a wq gr h K hK
      obtain ⟨⟨x0, e0, h0⟩, ⟨x1, e1, h1⟩, _⟩ := h
      obtain rfl : x0 = .agg #[.int .u32 f.src, .int .u32 f.dst, .int .u16 f.sp, .int .u16 f.dp, .int .u8 f.proto] := h0
      have E0 : a.eval (.tmp 23) = _ := eval_of e0
      obtain rfl : x1 = .bool false := h1
      have E1 : a.eval (.tmp 20) = _ := eval_of e1
      rw [if_pos (by simp [Region.wanted, yielded, e1])]
      go_simp
      refine (HRK.out _).mono ?_; rintro e w2 ⟨rfl, g1⟩
      exact hK _ _ g1 rfl
    · intro a wq gr h K hK
      obtain ⟨⟨x0, e0, h0⟩, ⟨x1, e1, h1⟩, ⟨x2, e2, h2⟩, _⟩ := h
      obtain rfl : x0 = .agg #[.int .u32 f.dst, .int .u32 f.src, .int .u16 f.dp, .int .u16 f.sp, .int .u8 f.proto] := h0
      have E0 : a.eval (.tmp 22) = _ := eval_of e0
      obtain rfl : x1 = .agg #[.int .u32 f.dst, .int .u32 f.src, .int .u16 f.dp, .int .u16 f.sp, .int .u8 f.proto] := h1
      have E1 : a.eval (.tmp 24) = _ := eval_of e1
      obtain rfl : x2 = .bool false := h2
      have E2 : a.eval (.tmp 20) = _ := eval_of e2
      rw [if_pos (by simp [Region.wanted, yielded, e2])]
      go_simp
      exact hK _ _ (Grow.refl _) rfl
    · intro a wq gr h K hK
      obtain ⟨⟨x0, e0, h0⟩, ⟨x1, e1, h1⟩, _⟩ := h
      obtain rfl : x0 = .bool false := h0
      have E0 : a.eval (.tmp 20) = _ := eval_of e0
      obtain rfl : x1 = .bool false := h1
      have E1 : a.eval (.tmp 25) = _ := eval_of e1
      rw [if_pos (by rfl)]
      go_simp
      exact hK _ _ (Grow.refl _) rfl
  · intro w1 gr
    simp only [Fin]
    intro v1 h1 v3 h3
    clear h1 h3
    go_simp
    go_wp2_with fail
    have hk2 := Lib.hid fun w' (g2 : Grow w1.drew w') => hk.out w' (gr.trans ((Grow.refl w1).drew.trans g2))
    refine wp_gamma (by kernel_rfl) 29 56 [[(2, none)], [(27, some 0)], [(3, none)], [(29, some 2)], [(28, some 1), (30, some 3)], [(2, none)], [(3, none)], [(32, some 5), (33, some 6)], [(31, some 4), (34, some 7)], [(35, some 8)], [(2, none), (36, some 9)], [(3, none), (36, some 9)], [(37, some 10), (38, some 11), (36, some 9)], [(39, some 12), (36, some 9)], [(2, none), (36, some 9)], [(3, none), (36, some 9)], [(41, some 14), (42, some 15), (36, some 9)], [(40, some 13), (43, some 16), (36, some 9)], [(36, some 9), (44, some 17)], [(45, some 18)], [(2, none), (46, some 19)], [(47, some 20), (46, some 19)], [(48, some 21), (46, some 19)], [(2, none), (46, some 19)], [(49, some 22), (50, some 23), (46, some 19)], [(46, some 19), (51, some 24)], [(52, some 25)], [(53, some 26)], [(53, some 26), (54, some 27)]] [.ex (.agg #[.int .u32 f.src, .int .u32 f.dst, .int .u16 f.sp, .int .u16 f.dp, .int .u8 f.proto]), .rel (fun v wx => IsB wx v (f.bytes)), .ex (.agg #[.int .u32 f.src, .int .u32 f.dst, .int .u16 f.sp, .int .u16 f.dp, .int .u8 f.proto]), .rel (fun v wx => IsB wx v (f.bytes)), .ex (.bool true), .ex (.agg #[.int .u32 f.src, .int .u32 f.dst, .int .u16 f.sp, .int .u16 f.dp, .int .u8 f.proto]), .ex (.agg #[.int .u32 f.src, .int .u32 f.dst, .int .u16 f.sp, .int .u16 f.dp, .int .u8 f.proto]), .ex (.bool true), .ex (.bool true), .ex (.bool true), .ex (.agg #[.int .u32 f.src, .int .u32 f.dst, .int .u16 f.sp, .int .u16 f.dp, .int .u8 f.proto]), .ex (.agg #[.int .u32 f.src, .int .u32 f.dst, .int .u16 f.sp, .int .u16 f.dp, .int .u8 f.proto]), .ex (.int .i64 0), .ex (.bool true), .ex (.agg #[.int .u32 f.src, .int .u32 f.dst, .int .u16 f.sp, .int .u16 f.dp, .int .u8 f.proto]), .ex (.agg #[.int .u32 f.src, .int .u32 f.dst, .int .u16 f.sp, .int .u16 f.dp, .int .u8 f.proto]), .ex (.bool true), .ex (.bool true), .ex (.bool true), .ex (.bool true), .ex (.agg #[.int .u32 f.src, .int .u32 f.dst, .int .u16 f.sp, .int .u16 f.dp, .int .u8 f.proto]), .ex (.agg #[.int .u32 f.dst, .int .u32 f.src, .int .u16 f.dp, .int .u16 f.sp, .int .u8 f.proto]), .ex (.agg #[.int .u32 f.src, .int .u32 f.dst, .int .u16 f.sp, .int .u16 f.dp, .int .u8 f.proto]), .ex (.agg #[.int .u32 f.src, .int .u32 f.dst, .int .u16 f.sp, .int .u16 f.dp, .int .u8 f.proto]), .ex (.bool true), .ex (.bool true), .ex (.bool true), .ex (.bool true), .ex (.bool true)] (by kernel_rfl) rfl rfl ⟨Sp.stable_ex _, ⟨(fun _ _ _ g h => IsB.grow h g), ⟨Sp.stable_ex _, ⟨(fun _ _ _ g h => IsB.grow h g), ⟨Sp.stable_ex _, ⟨Sp.stable_ex _, ⟨Sp.stable_ex _, ⟨Sp.stable_ex _, ⟨Sp.stable_ex _, ⟨Sp.stable_ex _, ⟨Sp.stable_ex _, ⟨Sp.stable_ex _, ⟨Sp.stable_ex _, ⟨Sp.stable_ex _, ⟨Sp.stable_ex _, ⟨Sp.stable_ex _, ⟨Sp.stable_ex _, ⟨Sp.stable_ex _, ⟨Sp.stable_ex _, ⟨Sp.stable_ex _, ⟨Sp.stable_ex _, ⟨Sp.stable_ex _, ⟨Sp.stable_ex _, ⟨Sp.stable_ex _, ⟨Sp.stable_ex _, ⟨Sp.stable_ex _, ⟨Sp.stable_ex _, ⟨Sp.stable_ex _, ⟨Sp.stable_ex _, trivial⟩⟩⟩⟩⟩⟩⟩⟩⟩⟩⟩⟩⟩⟩⟩⟩⟩⟩⟩⟩⟩⟩⟩⟩⟩⟩⟩⟩⟩ ?_ ?_
    · refine ⟨?_, ?_, ?_, ?_, ?_, ?_, ?_, ?_, ?_, ?_, ?_, ?_, ?_, ?_, ?_, ?_, ?_, ?_, ?_, ?_, ?_, ?_, ?_, ?_, ?_, ?_, ?_, ?_, ?_, trivial⟩
      · intro a wq g2 h K hK
        obtain ⟨e0, _⟩ := h
        have e0 : a.tmps[2]? = some (.pointer (some ⟨w.heap.size, 0, none⟩)) := e0
        have E0 : a.eval (.tmp 2) = .pointer (some ⟨w.heap.size, 0, none⟩) := eval_of e0
        rw [if_pos (by rfl)]
        have hc := hk2.out wq g2
        go_simp
        exact hK _ _ (Grow.refl _) rfl
      · intro a wq g2 h K hK
        obtain ⟨⟨x0, e0, h0⟩, _⟩ := h
        obtain rfl : x0 = .agg #[.int .u32 f.src, .int .u32 f.dst, .int .u16 f.sp, .int .u16 f.dp, .int .u8 f.proto] := h0
        have E0 : a.eval (.tmp 27) = _ := eval_of e0
        rw [if_pos (by rfl)]
        go_simp
        refine (HB0.out _).mono ?_; rintro e w2 ⟨v1, rfl, ho1, g1⟩
        exact hK _ _ g1 ho1
      · intro a wq g2 h K hK
        obtain ⟨e0, _⟩ := h
        have e0 : a.tmps[3]? = some (.pointer (some ⟨(w.heap.size + 1), 0, none⟩)) := e0
        have E0 : a.eval (.tmp 3) = .pointer (some ⟨(w.heap.size + 1), 0, none⟩) := eval_of e0
        rw [if_pos (by rfl)]
        have hc := hk2.out wq g2
        go_simp
        exact hK _ _ (Grow.refl _) rfl
      · intro a wq g2 h K hK
        obtain ⟨⟨x0, e0, h0⟩, _⟩ := h
        obtain rfl : x0 = .agg #[.int .u32 f.src, .int .u32 f.dst, .int .u16 f.sp, .int .u16 f.dp, .int .u8 f.proto] := h0
        have E0 : a.eval (.tmp 29) = _ := eval_of e0
        rw [if_pos (by rfl)]
        go_simp
        refine (HB1.out _).mono ?_; rintro e w2 ⟨v1, rfl, ho1, g1⟩
        exact hK _ _ g1 ho1
      · intro a wq g2 h K hK
        obtain ⟨⟨x0, e0, h0⟩, ⟨x1, e1, h1⟩, _⟩ := h
        have h0 : (fun v wx => IsB wx v (f.bytes)) x0 wq := h0
        have E0 : a.eval (.tmp 28) = _ := eval_of e0
        have h1 : (fun v wx => IsB wx v (f.bytes)) x1 wq := h1
        have E1 : a.eval (.tmp 30) = _ := eval_of e1
        rw [if_pos (by rfl)]
        go_simp
        refine (refSame_any _ _ _ _ _ h0 h1).mono ?_; rintro e w2 ⟨rfl, g1⟩
        rw [HQ.out]
        exact hK _ _ g1 rfl
      · intro a wq g2 h K hK
        obtain ⟨e0, _⟩ := h
        have e0 : a.tmps[2]? = some (.pointer (some ⟨w.heap.size, 0, none⟩)) := e0
        have E0 : a.eval (.tmp 2) = .pointer (some ⟨w.heap.size, 0, none⟩) := eval_of e0
        rw [if_pos (by rfl)]
        have hc := hk2.out wq g2
        go_simp
        exact hK _ _ (Grow.refl _) rfl
      · intro a wq g2 h K hK
        obtain ⟨e0, _⟩ := h
        have e0 : a.tmps[3]? = some (.pointer (some ⟨(w.heap.size + 1), 0, none⟩)) := e0
        have E0 : a.eval (.tmp 3) = .pointer (some ⟨(w.heap.size + 1), 0, none⟩) := eval_of e0
        rw [if_pos (by rfl)]
        have hc := hk2.out wq g2
        go_simp
        exact hK _ _ (Grow.refl _) rfl
      · intro a wq g2 h K hK
        obtain ⟨⟨x0, e0, h0⟩, ⟨x1, e1, h1⟩, _⟩ := h
        obtain rfl : x0 = .agg #[.int .u32 f.src, .int .u32 f.dst, .int .u16 f.sp, .int .u16 f.dp, .int .u8 f.proto] := h0
        have E0 : a.eval (.tmp 32) = _ := eval_of e0
        obtain rfl : x1 = .agg #[.int .u32 f.src, .int .u32 f.dst, .int .u16 f.sp, .int .u16 f.dp, .int .u8 f.proto] := h1
        have E1 : a.eval (.tmp 33) = _ := eval_of e1
        rw [if_pos (by rfl)]
        go_simp
        skip
        exact hK _ _ (Grow.refl _) rfl
      · intro a wq g2 h K hK
        obtain ⟨⟨x0, e0, h0⟩, ⟨x1, e1, h1⟩, _⟩ := h
        obtain rfl : x0 = .bool true := h0
        have E0 : a.eval (.tmp 31) = _ := eval_of e0
        obtain rfl : x1 = .bool true := h1
        have E1 : a.eval (.tmp 34) = _ := eval_of e1
        rw [if_pos (by rfl)]
        go_simp
        exact hK _ _ (Grow.refl _) rfl
      · intro a wq g2 h K hK
        obtain ⟨⟨x0, e0, h0⟩, _⟩ := h
        obtain rfl : x0 = .bool true := h0
        have E0 : a.eval (.tmp 35) = _ := eval_of e0
        rw [if_pos (by rfl)]
        go_simp
        exact hK _ _ (Grow.refl _) rfl
      · intro a wq g2 h K hK
        obtain ⟨e0, ⟨x1, e1, h1⟩, _⟩ := h
        have e0 : a.tmps[2]? = some (.pointer (some ⟨w.heap.size, 0, none⟩)) := e0
        have E0 : a.eval (.tmp 2) = .pointer (some ⟨w.heap.size, 0, none⟩) := eval_of e0
        obtain rfl : x1 = .bool true := h1
        have E1 : a.eval (.tmp 36) = _ := eval_of e1
        rw [if_pos (by simp [Region.wanted, yielded, e1])]
        have hc := hk2.out wq g2
        go_simp
        exact hK _ _ (Grow.refl _) rfl
      · intro a wq g2 h K hK
        obtain ⟨e0, ⟨x1, e1, h1⟩, _⟩ := h
        have e0 : a.tmps[3]? = some (.pointer (some ⟨(w.heap.size + 1), 0, none⟩)) := e0
        have E0 : a.eval (.tmp 3) = .pointer (some ⟨(w.heap.size + 1), 0, none⟩) := eval_of e0
        obtain rfl : x1 = .bool true := h1
        have E1 : a.eval (.tmp 36) = _ := eval_of e1
        rw [if_pos (by simp [Region.wanted, yielded, e1])]
        have hc := hk2.out wq g2
        go_simp
        exact hK _ _ (Grow.refl _) rfl
      · intro a wq g2 h K hK
        obtain ⟨⟨x0, e0, h0⟩, ⟨x1, e1, h1⟩, ⟨x2, e2, h2⟩, _⟩ := h
        obtain rfl : x0 = .agg #[.int .u32 f.src, .int .u32 f.dst, .int .u16 f.sp, .int .u16 f.dp, .int .u8 f.proto] := h0
        have E0 : a.eval (.tmp 37) = _ := eval_of e0
        obtain rfl : x1 = .agg #[.int .u32 f.src, .int .u32 f.dst, .int .u16 f.sp, .int .u16 f.dp, .int .u8 f.proto] := h1
        have E1 : a.eval (.tmp 38) = _ := eval_of e1
        obtain rfl : x2 = .bool true := h2
        have E2 : a.eval (.tmp 36) = _ := eval_of e2
        rw [if_pos (by simp [Region.wanted, yielded, e2])]
        go_simp
        refine (HC.out _).mono ?_; rintro e w2 ⟨rfl, g1⟩
        exact hK _ _ g1 rfl
      · intro a wq g2 h K hK
        obtain ⟨⟨x0, e0, h0⟩, ⟨x1, e1, h1⟩, _⟩ := h
        obtain rfl : x0 = .int .i64 0 := h0
        have E0 : a.eval (.tmp 39) = _ := eval_of e0
        obtain rfl : x1 = .bool true := h1
        have E1 : a.eval (.tmp 36) = _ := eval_of e1
        rw [if_pos (by simp [Region.wanted, yielded, e1])]
        go_simp
        skip
        exact hK _ _ (Grow.refl _) rfl
      · intro a wq g2 h K hK
        obtain ⟨e0, ⟨x1, e1, h1⟩, _⟩ := h
        have e0 : a.tmps[2]? = some (.pointer (some ⟨w.heap.size, 0, none⟩)) := e0
        have E0 : a.eval (.tmp 2) = .pointer (some ⟨w.heap.size, 0, none⟩) := eval_of e0
        obtain rfl : x1 = .bool true := h1
        have E1 : a.eval (.tmp 36) = _ := eval_of e1
        rw [if_pos (by simp [Region.wanted, yielded, e1])]
        have hc := hk2.out wq g2
        go_simp
        exact hK _ _ (Grow.refl _) rfl
      · intro a wq g2 h K hK
        obtain ⟨e0, ⟨x1, e1, h1⟩, _⟩ := h
        have e0 : a.tmps[3]? = some (.pointer (some ⟨(w.heap.size + 1), 0, none⟩)) := e0
        have E0 : a.eval (.tmp 3) = .pointer (some ⟨(w.heap.size + 1), 0, none⟩) := eval_of e0
        obtain rfl : x1 = .bool true := h1
        have E1 : a.eval (.tmp 36) = _ := eval_of e1
        rw [if_pos (by simp [Region.wanted, yielded, e1])]
        have hc := hk2.out wq g2
        go_simp
        exact hK _ _ (Grow.refl _) rfl
      · intro a wq g2 h K hK
        obtain ⟨⟨x0, e0, h0⟩, ⟨x1, e1, h1⟩, ⟨x2, e2, h2⟩, _⟩ := h
        obtain rfl : x0 = .agg #[.int .u32 f.src, .int .u32 f.dst, .int .u16 f.sp, .int .u16 f.dp, .int .u8 f.proto] := h0
        have E0 : a.eval (.tmp 41) = _ := eval_of e0
        obtain rfl : x1 = .agg #[.int .u32 f.src, .int .u32 f.dst, .int .u16 f.sp, .int .u16 f.dp, .int .u8 f.proto] := h1
        have E1 : a.eval (.tmp 42) = _ := eval_of e1
        obtain rfl : x2 = .bool true := h2
        have E2 : a.eval (.tmp 36) = _ := eval_of e2
        rw [if_pos (by simp [Region.wanted, yielded, e2])]
        go_simp
        skip
        exact hK _ _ (Grow.refl _) rfl
      · intro a wq g2 h K hK
        obtain ⟨⟨x0, e0, h0⟩, ⟨x1, e1, h1⟩, ⟨x2, e2, h2⟩, _⟩ := h
        obtain rfl : x0 = .bool true := h0
        have E0 : a.eval (.tmp 40) = _ := eval_of e0
        obtain rfl : x1 = .bool true := h1
        have E1 : a.eval (.tmp 43) = _ := eval_of e1
        obtain rfl : x2 = .bool true := h2
        have E2 : a.eval (.tmp 36) = _ := eval_of e2
        rw [if_pos (by simp [Region.wanted, yielded, e2])]
        go_simp
        exact hK _ _ (Grow.refl _) rfl
      · intro a wq g2 h K hK
        obtain ⟨⟨x0, e0, h0⟩, ⟨x1, e1, h1⟩, _⟩ := h
        obtain rfl : x0 = .bool true := h0
        have E0 : a.eval (.tmp 36) = _ := eval_of e0
        obtain rfl : x1 = .bool true := h1
        have E1 : a.eval (.tmp 44) = _ := eval_of e1
        rw [if_pos (by rfl)]
        go_simp
        exact hK _ _ (Grow.refl _) rfl
      · intro a wq g2 h K hK
        obtain ⟨⟨x0, e0, h0⟩, _⟩ := h
        obtain rfl : x0 = .bool true := h0
        have E0 : a.eval (.tmp 45) = _ := eval_of e0
        rw [if_pos (by rfl)]
        go_simp
        exact hK _ _ (Grow.refl _) rfl
      · intro a wq g2 h K hK
        obtain ⟨e0, ⟨x1, e1, h1⟩, _⟩ := h
        have e0 : a.tmps[2]? = some (.pointer (some ⟨w.heap.size, 0, none⟩)) := e0
        have E0 : a.eval (.tmp 2) = .pointer (some ⟨w.heap.size, 0, none⟩) := eval_of e0
        obtain rfl : x1 = .bool true := h1
        have E1 : a.eval (.tmp 46) = _ := eval_of e1
        rw [if_pos (by simp [Region.wanted, yielded, e1])]
        have hc := hk2.out wq g2
        go_simp
        exact hK _ _ (Grow.refl _) rfl
      · intro a wq g2 h K hK
        obtain ⟨⟨x0, e0, h0⟩, ⟨x1, e1, h1⟩, _⟩ := h
        obtain rfl : x0 = .agg #[.int .u32 f.src, .int .u32 f.dst, .int .u16 f.sp, .int .u16 f.dp, .int .u8 f.proto] := h0
        have E0 : a.eval (.tmp 47) = _ := eval_of e0
        obtain rfl : x1 = .bool true := h1
        have E1 : a.eval (.tmp 46) = _ := eval_of e1
        rw [if_pos (by simp [Region.wanted, yielded, e1])]
        go_simp
        refine (HK.out _).mono ?_; rintro e w2 ⟨rfl, g1⟩
        exact hK _ _ g1 rfl
      · intro a wq g2 h K hK
        obtain ⟨⟨x0, e0, h0⟩, ⟨x1, e1, h1⟩, _⟩ := h
        obtain rfl : x0 = .agg #[.int .u32 f.dst, .int .u32 f.src, .int .u16 f.dp, .int .u16 f.sp, .int .u8 f.proto] := h0
        have E0 : a.eval (.tmp 48) = _ := eval_of e0
        obtain rfl : x1 = .bool true := h1
        have E1 : a.eval (.tmp 46) = _ := eval_of e1
        rw [if_pos (by simp [Region.wanted, yielded, e1])]
        go_simp
        refine (HKB.out _).mono ?_; rintro e w2 ⟨rfl, g1⟩
        exact hK _ _ g1 rfl
      · intro a wq g2 h K hK
        obtain ⟨e0, ⟨x1, e1, h1⟩, _⟩ := h
        have e0 : a.tmps[2]? = some (.pointer (some ⟨w.heap.size, 0, none⟩)) := e0
        have E0 : a.eval (.tmp 2) = .pointer (some ⟨w.heap.size, 0, none⟩) := eval_of e0
        obtain rfl : x1 = .bool true := h1
        have E1 : a.eval (.tmp 46) = _ := eval_of e1
        rw [if_pos (by simp [Region.wanted, yielded, e1])]
        have hc := hk2.out wq g2
        go_simp
        exact hK _ _ (Grow.refl _) rfl
      · intro a wq g2 h K hK
        obtain ⟨⟨x0, e0, h0⟩, ⟨x1, e1, h1⟩, ⟨x2, e2, h2⟩, _⟩ := h
        obtain rfl : x0 = .agg #[.int .u32 f.src, .int .u32 f.dst, .int .u16 f.sp, .int .u16 f.dp, .int .u8 f.proto] := h0
        have E0 : a.eval (.tmp 49) = _ := eval_of e0
        obtain rfl : x1 = .agg #[.int .u32 f.src, .int .u32 f.dst, .int .u16 f.sp, .int .u16 f.dp, .int .u8 f.proto] := h1
        have E1 : a.eval (.tmp 50) = _ := eval_of e1
        obtain rfl : x2 = .bool true := h2
        have E2 : a.eval (.tmp 46) = _ := eval_of e2
        rw [if_pos (by simp [Region.wanted, yielded, e2])]
        go_simp
        exact hK _ _ (Grow.refl _) rfl
      · intro a wq g2 h K hK
        obtain ⟨⟨x0, e0, h0⟩, ⟨x1, e1, h1⟩, _⟩ := h
        obtain rfl : x0 = .bool true := h0
        have E0 : a.eval (.tmp 46) = _ := eval_of e0
        obtain rfl : x1 = .bool true := h1
        have E1 : a.eval (.tmp 51) = _ := eval_of e1
        rw [if_pos (by rfl)]
        go_simp
        exact hK _ _ (Grow.refl _) rfl
      · intro a wq g2 h K hK
        obtain ⟨⟨x0, e0, h0⟩, _⟩ := h
        obtain rfl : x0 = .bool true := h0
        have E0 : a.eval (.tmp 52) = _ := eval_of e0
        rw [if_pos (by rfl)]
        go_simp
        exact hK _ _ (Grow.refl _) rfl
      · intro a wq g2 h K hK
        obtain ⟨⟨x0, e0, h0⟩, _⟩ := h
        obtain rfl : x0 = .bool true := h0
        have E0 : a.eval (.tmp 53) = _ := eval_of e0
        rw [if_pos (by simp [Region.wanted, yielded, e0])]
        go_simp
        refine (HL.out _).mono ?_; rintro e w2 ⟨rfl, g1⟩
        exact hK _ _ g1 rfl
      · intro a wq g2 h K hK
        obtain ⟨⟨x0, e0, h0⟩, ⟨x1, e1, h1⟩, _⟩ := h
        obtain rfl : x0 = .bool true := h0
        have E0 : a.eval (.tmp 53) = _ := eval_of e0
        obtain rfl : x1 = .bool true := h1
        have E1 : a.eval (.tmp 54) = _ := eval_of e1
        rw [if_pos (by rfl)]
        go_simp
        exact hK _ _ (Grow.refl _) rfl
    · intro w2x g2
      simp only [Fin]
      intro v1b h1 v3b h3
      clear h1 h3
      go_simp
      go_wp2_with fail
      go_ret
      exact ⟨rfl, (((Grow.a2 w _ _).drew.trans gr).trans (Grow.refl w1).drew).trans g2⟩

set_option maxHeartbeats 8000000 in
set_option maxRecDepth 100000 in
theorem flowBytes_ne (f g : Flw) (w : World) (hf : f.ok) (hg : g.ok) (hne : f ≠ g) :
    Calls Try.prog 15 #[f.v, g.v] w fun e w' => e = .returned (.bool true) ∧ Grow w w' := by
  have h0 : ord f g ≠ 0 := fun h => hne (ord_zero f g hf hg h)
  have hb0 : ∀ w, Calls Try.prog 62 #[f.v] w fun e w' => ∃ v', e = .returned v' ∧ IsB w' v' f.bytes ∧ Grow w w' := fun w => (flowBytes_any f w hf).mono fun e w' ⟨v, h1, h2, h3⟩ => ⟨v, h1, h2.isB, h3⟩
  have hb1 : ∀ w, Calls Try.prog 62 #[g.v] w fun e w' => ∃ v', e = .returned v' ∧ IsB w' v' g.bytes ∧ Grow w w' := fun w => (flowBytes_any g w hg).mono fun e w' ⟨v, h1, h2, h3⟩ => ⟨v, h1, h2.isB, h3⟩
  have hrb := fun w => refBytes_any f w hf
  have hc := fun w => flowCompare_any f g w hf hg
  have hrc := fun w => refCompare_any f g w hf hg
  rw [← ord_eq f g hf hg] at hrc
  have hq : (f.bytes == g.bytes) = false := by
    rw [beq_eq_false_iff_ne]
    intro e
    refine h0 ?_
    rw [ord, e]
    exact cb_refl _
  have hK := fun w => flowBack_any f w
  have hKB := fun w => flowBack_any f.back w
  have hRK := fun w => refBack_any f w
  have HNE : Hid (¬ (f.src = g.src ∧ f.dst = g.dst ∧ f.sp = g.sp ∧ f.dp = g.dp ∧ f.proto = g.proto)) := fun ⟨a, b, c, d, e⟩ => hne (flw_ext f g (by simp [Flw.nums, a, b, c, d, e]))
  generalize ord f g = R at *
  clear hne
  simp only [Flw.v, Flw.back] at hb0 hb1 hrb hc hrc hK hKB hRK ⊢
  have HB0 := Lib.hid hb0
  have HB1 := Lib.hid hb1
  have HRB := Lib.hid hrb
  have HC := Lib.hid hc
  have HRC := Lib.hid hrc
  have HK := Lib.hid hK
  have HKB := Lib.hid hKB
  have HRK := Lib.hid hRK
  have HQ := Lib.hid hq
  have HL := Lib.hid fun w => lives11_any w
  have HR0 : Hid ((R == 0) = false) := by
    show _ = _
    simpa using h0
  clear h0 hb0 hb1 hrb hc hrc hq hK hKB hRK
  have hk : Hid (∀ w', Grow ((w.alloc (.cells #[.int .u32 f.src, .int .u32 f.dst, .int .u16 f.sp, .int .u16 f.dp, .int .u8 f.proto] 25)).alloc (.cells #[.int .u32 g.src, .int .u32 g.dst, .int .u16 g.sp, .int .u16 g.dp, .int .u8 g.proto] 25)).drew w' → w'.cell? ⟨w.heap.size, 0, none⟩ = some (.int .u32 f.src) ∧ w'.cell? ⟨w.heap.size, 1, none⟩ = some (.int .u32 f.dst) ∧ w'.cell? ⟨w.heap.size, 2, none⟩ = some (.int .u16 f.sp) ∧ w'.cell? ⟨w.heap.size, 3, none⟩ = some (.int .u16 f.dp) ∧ w'.cell? ⟨w.heap.size, 4, none⟩ = some (.int .u8 f.proto) ∧ w'.cell? ⟨(w.heap.size + 1), 0, none⟩ = some (.int .u32 g.src) ∧ w'.cell? ⟨(w.heap.size + 1), 1, none⟩ = some (.int .u32 g.dst) ∧ w'.cell? ⟨(w.heap.size + 1), 2, none⟩ = some (.int .u16 g.sp) ∧ w'.cell? ⟨(w.heap.size + 1), 3, none⟩ = some (.int .u16 g.dp) ∧ w'.cell? ⟨(w.heap.size + 1), 4, none⟩ = some (.int .u8 g.proto)) := fun w' g1 => by
    have a0 := fun i => cell_box w #[.int .u32 f.src, .int .u32 f.dst, .int .u16 f.sp, .int .u16 f.dp, .int .u8 f.proto] 25 i w.heap.size rfl
    have a1 := fun i => cell_box (w.alloc (.cells #[.int .u32 f.src, .int .u32 f.dst, .int .u16 f.sp, .int .u16 f.dp, .int .u8 f.proto] 25)) #[.int .u32 g.src, .int .u32 g.dst, .int .u16 g.sp, .int .u16 g.dp, .int .u8 g.proto] 25 i (w.heap.size + 1) (by simp)
    exact ⟨g1.cell ((Grow.a1 _ _).cell (a0 0)), g1.cell ((Grow.a1 _ _).cell (a0 1)), g1.cell ((Grow.a1 _ _).cell (a0 2)), g1.cell ((Grow.a1 _ _).cell (a0 3)), g1.cell ((Grow.a1 _ _).cell (a0 4)), g1.cell (a1 0), g1.cell (a1 1), g1.cell (a1 2), g1.cell (a1 3), g1.cell (a1 4)⟩
  go_enter Try.func15, Try.ntmps15
  go_wp2_with fail
  refine wp_gamma (by kernel_rfl) 22 56 [[(2, none)], [(5, some 0)], [(2, none)], [(7, some 2)], [(6, some 1), (8, some 3)], [(9, some 4)], [(10, some 5)], [(2, none), (11, some 6)], [(3, none), (11, some 6)], [(12, some 7), (13, some 8), (11, some 6)], [(2, none), (11, some 6)], [(3, none), (11, some 6)], [(15, some 10), (16, some 11), (11, some 6)], [(14, some 9), (17, some 12), (11, some 6)], [(11, some 6), (18, some 13)], [(19, some 14)], [(2, none), (20, some 15)], [(21, some 16), (20, some 15)], [(2, none), (20, some 15)], [(23, some 18), (20, some 15)], [(22, some 17), (24, some 19), (20, some 15)], [(20, some 15), (25, some 20)]] [.ex (.agg #[.int .u32 f.src, .int .u32 f.dst, .int .u16 f.sp, .int .u16 f.dp, .int .u8 f.proto]), .rel (fun v wx => IsB wx v (f.bytes)), .ex (.agg #[.int .u32 f.src, .int .u32 f.dst, .int .u16 f.sp, .int .u16 f.dp, .int .u8 f.proto]), .rel (fun v wx => IsB wx v (f.bytes)), .ex (.bool true), .ex (.bool false), .ex (.bool false), .ex (.agg #[.int .u32 f.src, .int .u32 f.dst, .int .u16 f.sp, .int .u16 f.dp, .int .u8 f.proto]), .ex (.agg #[.int .u32 g.src, .int .u32 g.dst, .int .u16 g.sp, .int .u16 g.dp, .int .u8 g.proto]), .ex (.int .i64 R), .ex (.agg #[.int .u32 f.src, .int .u32 f.dst, .int .u16 f.sp, .int .u16 f.dp, .int .u8 f.proto]), .ex (.agg #[.int .u32 g.src, .int .u32 g.dst, .int .u16 g.sp, .int .u16 g.dp, .int .u8 g.proto]), .ex (.int .i64 R), .ex (.bool false), .ex (.bool false), .ex (.bool false), .ex (.agg #[.int .u32 f.src, .int .u32 f.dst, .int .u16 f.sp, .int .u16 f.dp, .int .u8 f.proto]), .ex (.agg #[.int .u32 f.dst, .int .u32 f.src, .int .u16 f.dp, .int .u16 f.sp, .int .u8 f.proto]), .ex (.agg #[.int .u32 f.src, .int .u32 f.dst, .int .u16 f.sp, .int .u16 f.dp, .int .u8 f.proto]), .ex (.agg #[.int .u32 f.dst, .int .u32 f.src, .int .u16 f.dp, .int .u16 f.sp, .int .u8 f.proto]), .ex (.bool false), .ex (.bool false)] (by kernel_rfl) rfl rfl ⟨Sp.stable_ex _, ⟨(fun _ _ _ g h => IsB.grow h g), ⟨Sp.stable_ex _, ⟨(fun _ _ _ g h => IsB.grow h g), ⟨Sp.stable_ex _, ⟨Sp.stable_ex _, ⟨Sp.stable_ex _, ⟨Sp.stable_ex _, ⟨Sp.stable_ex _, ⟨Sp.stable_ex _, ⟨Sp.stable_ex _, ⟨Sp.stable_ex _, ⟨Sp.stable_ex _, ⟨Sp.stable_ex _, ⟨Sp.stable_ex _, ⟨Sp.stable_ex _, ⟨Sp.stable_ex _, ⟨Sp.stable_ex _, ⟨Sp.stable_ex _, ⟨Sp.stable_ex _, ⟨Sp.stable_ex _, ⟨Sp.stable_ex _, trivial⟩⟩⟩⟩⟩⟩⟩⟩⟩⟩⟩⟩⟩⟩⟩⟩⟩⟩⟩⟩⟩⟩ ?_ ?_
  · refine ⟨?_, ?_, ?_, ?_, ?_, ?_, ?_, ?_, ?_, ?_, ?_, ?_, ?_, ?_, ?_, ?_, ?_, ?_, ?_, ?_, ?_, ?_, trivial⟩
    · intro a wq gr h K hK
      obtain ⟨e0, _⟩ := h
      have e0 : a.tmps[2]? = some (.pointer (some ⟨w.heap.size, 0, none⟩)) := e0
      have E0 : a.eval (.tmp 2) = .pointer (some ⟨w.heap.size, 0, none⟩) := eval_of e0
      rw [if_pos (by rfl)]
      have hc := hk.out wq gr
      go_simp
      exact hK _ _ (Grow.refl _) rfl
    · intro a wq gr h K hK
      obtain ⟨⟨x0, e0, h0⟩, _⟩ := h
      obtain rfl : x0 = .agg #[.int .u32 f.src, .int .u32 f.dst, .int .u16 f.sp, .int .u16 f.dp, .int .u8 f.proto] := h0
      have E0 : a.eval (.tmp 5) = _ := eval_of e0
      rw [if_pos (by rfl)]
      go_simp
      refine (HB0.out _).mono ?_; rintro e w2 ⟨v1, rfl, ho1, g1⟩
      exact hK _ _ g1 ho1
    · intro a wq gr h K hK
      obtain ⟨e0, _⟩ := h
      have e0 : a.tmps[2]? = some (.pointer (some ⟨w.heap.size, 0, none⟩)) := e0
      have E0 : a.eval (.tmp 2) = .pointer (some ⟨w.heap.size, 0, none⟩) := eval_of e0
      rw [if_pos (by rfl)]
      have hc := hk.out wq gr
      go_simp
      exact hK _ _ (Grow.refl _) rfl
    · intro a wq gr h K hK
      obtain ⟨⟨x0, e0, h0⟩, _⟩ := h
      obtain rfl : x0 = .agg #[.int .u32 f.src, .int .u32 f.dst, .int .u16 f.sp, .int .u16 f.dp, .int .u8 f.proto] := h0
      have E0 : a.eval (.tmp 7) = _ := eval_of e0
      rw [if_pos (by rfl)]
      go_simp
      refine (HRB.out _).mono ?_; rintro e w2 ⟨v1, rfl, ho1, g1⟩
      exact hK _ _ g1 ho1
    · intro a wq gr h K hK
      obtain ⟨⟨x0, e0, h0⟩, ⟨x1, e1, h1⟩, _⟩ := h
      have h0 : (fun v wx => IsB wx v (f.bytes)) x0 wq := h0
      have E0 : a.eval (.tmp 6) = _ := eval_of e0
      have h1 : (fun v wx => IsB wx v (f.bytes)) x1 wq := h1
      have E1 : a.eval (.tmp 8) = _ := eval_of e1
      rw [if_pos (by rfl)]
      go_simp
      refine (refSame_eq _ _ _ _ _ h0 h1 rfl).mono ?_; rintro e w2 ⟨rfl, g1⟩
      exact hK _ _ g1 rfl
    · intro a wq gr h K hK
      obtain ⟨⟨x0, e0, h0⟩, _⟩ := h
      obtain rfl : x0 = .bool true := h0
      have E0 : a.eval (.tmp 9) = _ := eval_of e0
      rw [if_pos (by rfl)]
      go_simp
      exact hK _ _ (Grow.refl _) rfl
    · intro a wq gr h K hK
      obtain ⟨⟨x0, e0, h0⟩, _⟩ := h
      obtain rfl : x0 = .bool false := h0
      have E0 : a.eval (.tmp 10) = _ := eval_of e0
      rw [if_pos (by rfl)]
      go_simp
      exact hK _ _ (Grow.refl _) rfl
    · intro a wq gr h K hK
      obtain ⟨e0, ⟨x1, e1, h1⟩, _⟩ := h
      have e0 : a.tmps[2]? = some (.pointer (some ⟨w.heap.size, 0, none⟩)) := e0
      have E0 : a.eval (.tmp 2) = .pointer (some ⟨w.heap.size, 0, none⟩) := eval_of e0
      obtain rfl : x1 = .bool false := h1
      have E1 : a.eval (.tmp 11) = _ := eval_of e1
      rw [if_pos (by simp [Region.wanted, yielded, e1])]
      have hc := hk.out wq gr
      go_simp
      exact hK _ _ (Grow.refl _) rfl
    · intro a wq gr h K hK
      obtain ⟨e0, ⟨x1, e1, h1⟩, _⟩ := h
      have e0 : a.tmps[3]? = some (.pointer (some ⟨(w.heap.size + 1), 0, none⟩)) := e0
      have E0 : a.eval (.tmp 3) = .pointer (some ⟨(w.heap.size + 1), 0, none⟩) := eval_of e0
      obtain rfl : x1 = .bool false := h1
      have E1 : a.eval (.tmp 11) = _ := eval_of e1
      rw [if_pos (by simp [Region.wanted, yielded, e1])]
      have hc := hk.out wq gr
      go_simp
      exact hK _ _ (Grow.refl _) rfl
    · intro a wq gr h K hK
      obtain ⟨⟨x0, e0, h0⟩, ⟨x1, e1, h1⟩, ⟨x2, e2, h2⟩, _⟩ := h
      obtain rfl : x0 = .agg #[.int .u32 f.src, .int .u32 f.dst, .int .u16 f.sp, .int .u16 f.dp, .int .u8 f.proto] := h0
      have E0 : a.eval (.tmp 12) = _ := eval_of e0
      obtain rfl : x1 = .agg #[.int .u32 g.src, .int .u32 g.dst, .int .u16 g.sp, .int .u16 g.dp, .int .u8 g.proto] := h1
      have E1 : a.eval (.tmp 13) = _ := eval_of e1
      obtain rfl : x2 = .bool false := h2
      have E2 : a.eval (.tmp 11) = _ := eval_of e2
      rw [if_pos (by simp [Region.wanted, yielded, e2])]
      go_simp
      refine (HC.out _).mono ?_; rintro e w2 ⟨rfl, g1⟩
      exact hK _ _ g1 rfl
    · intro a wq gr h K hK
      obtain ⟨e0, ⟨x1, e1, h1⟩, _⟩ := h
      have e0 : a.tmps[2]? = some (.pointer (some ⟨w.heap.size, 0, none⟩)) := e0
      have E0 : a.eval (.tmp 2) = .pointer (some ⟨w.heap.size, 0, none⟩) := eval_of e0
      obtain rfl : x1 = .bool false := h1
      have E1 : a.eval (.tmp 11) = _ := eval_of e1
      rw [if_pos (by simp [Region.wanted, yielded, e1])]
      have hc := hk.out wq gr
      go_simp
      exact hK _ _ (Grow.refl _) rfl
    · intro a wq gr h K hK
      obtain ⟨e0, ⟨x1, e1, h1⟩, _⟩ := h
      have e0 : a.tmps[3]? = some (.pointer (some ⟨(w.heap.size + 1), 0, none⟩)) := e0
      have E0 : a.eval (.tmp 3) = .pointer (some ⟨(w.heap.size + 1), 0, none⟩) := eval_of e0
      obtain rfl : x1 = .bool false := h1
      have E1 : a.eval (.tmp 11) = _ := eval_of e1
      rw [if_pos (by simp [Region.wanted, yielded, e1])]
      have hc := hk.out wq gr
      go_simp
      exact hK _ _ (Grow.refl _) rfl
    · intro a wq gr h K hK
      obtain ⟨⟨x0, e0, h0⟩, ⟨x1, e1, h1⟩, ⟨x2, e2, h2⟩, _⟩ := h
      obtain rfl : x0 = .agg #[.int .u32 f.src, .int .u32 f.dst, .int .u16 f.sp, .int .u16 f.dp, .int .u8 f.proto] := h0
      have E0 : a.eval (.tmp 15) = _ := eval_of e0
      obtain rfl : x1 = .agg #[.int .u32 g.src, .int .u32 g.dst, .int .u16 g.sp, .int .u16 g.dp, .int .u8 g.proto] := h1
      have E1 : a.eval (.tmp 16) = _ := eval_of e1
      obtain rfl : x2 = .bool false := h2
      have E2 : a.eval (.tmp 11) = _ := eval_of e2
      rw [if_pos (by simp [Region.wanted, yielded, e2])]
      go_simp
      refine (HRC.out _).mono ?_; rintro e w2 ⟨rfl, g1⟩
      exact hK _ _ g1 rfl
    · intro a wq gr h K hK
      obtain ⟨⟨x0, e0, h0⟩, ⟨x1, e1, h1⟩, ⟨x2, e2, h2⟩, _⟩ := h
      obtain rfl : x0 = .int .i64 R := h0
      have E0 : a.eval (.tmp 14) = _ := eval_of e0
      obtain rfl : x1 = .int .i64 R := h1
      have E1 : a.eval (.tmp 17) = _ := eval_of e1
      obtain rfl : x2 = .bool false := h2
      have E2 : a.eval (.tmp 11) = _ := eval_of e2
      rw [if_pos (by simp [Region.wanted, yielded, e2])]
      go_simp
      exact hK _ _ (Grow.refl _) rfl
    · intro a wq gr h K hK
      obtain ⟨⟨x0, e0, h0⟩, ⟨x1, e1, h1⟩, _⟩ := h
      obtain rfl : x0 = .bool false := h0
      have E0 : a.eval (.tmp 11) = _ := eval_of e0
      obtain rfl : x1 = .bool false := h1
      have E1 : a.eval (.tmp 18) = _ := eval_of e1
      rw [if_pos (by rfl)]
      go_simp
      exact hK _ _ (Grow.refl _) rfl
    · intro a wq gr h K hK
      obtain ⟨⟨x0, e0, h0⟩, _⟩ := h
      obtain rfl : x0 = .bool false := h0
      have E0 : a.eval (.tmp 19) = _ := eval_of e0
      rw [if_pos (by rfl)]
      go_simp
      exact hK _ _ (Grow.refl _) rfl
    · intro a wq gr h K hK
      obtain ⟨e0, ⟨x1, e1, h1⟩, _⟩ := h
      have e0 : a.tmps[2]? = some (.pointer (some ⟨w.heap.size, 0, none⟩)) := e0
      have E0 : a.eval (.tmp 2) = .pointer (some ⟨w.heap.size, 0, none⟩) := eval_of e0
      obtain rfl : x1 = .bool false := h1
      have E1 : a.eval (.tmp 20) = _ := eval_of e1
      rw [if_pos (by simp [Region.wanted, yielded, e1])]
      have hc := hk.out wq gr
      go_simp
      exact hK _ _ (Grow.refl _) rfl
    · intro a wq gr h K hK
      obtain ⟨⟨x0, e0, h0⟩, ⟨x1, e1, h1⟩, _⟩ := h
      obtain rfl : x0 = .agg #[.int .u32 f.src, .int .u32 f.dst, .int .u16 f.sp, .int .u16 f.dp, .int .u8 f.proto] := h0
      have E0 : a.eval (.tmp 21) = _ := eval_of e0
      obtain rfl : x1 = .bool false := h1
      have E1 : a.eval (.tmp 20) = _ := eval_of e1
      rw [if_pos (by simp [Region.wanted, yielded, e1])]
      go_simp
      refine (HK.out _).mono ?_; rintro e w2 ⟨rfl, g1⟩
      exact hK _ _ g1 rfl
    · intro a wq gr h K hK
      obtain ⟨e0, ⟨x1, e1, h1⟩, _⟩ := h
      have e0 : a.tmps[2]? = some (.pointer (some ⟨w.heap.size, 0, none⟩)) := e0
      have E0 : a.eval (.tmp 2) = .pointer (some ⟨w.heap.size, 0, none⟩) := eval_of e0
      obtain rfl : x1 = .bool false := h1
      have E1 : a.eval (.tmp 20) = _ := eval_of e1
      rw [if_pos (by simp [Region.wanted, yielded, e1])]
      have hc := hk.out wq gr
      go_simp
      exact hK _ _ (Grow.refl _) rfl
    · intro a wq gr h K hK
      obtain ⟨⟨x0, e0, h0⟩, ⟨x1, e1, h1⟩, _⟩ := h
      obtain rfl : x0 = .agg #[.int .u32 f.src, .int .u32 f.dst, .int .u16 f.sp, .int .u16 f.dp, .int .u8 f.proto] := h0
      have E0 : a.eval (.tmp 23) = _ := eval_of e0
      obtain rfl : x1 = .bool false := h1
      have E1 : a.eval (.tmp 20) = _ := eval_of e1
      rw [if_pos (by simp [Region.wanted, yielded, e1])]
      go_simp
      refine (HRK.out _).mono ?_; rintro e w2 ⟨rfl, g1⟩
      exact hK _ _ g1 rfl
    · intro a wq gr h K hK
      obtain ⟨⟨x0, e0, h0⟩, ⟨x1, e1, h1⟩, ⟨x2, e2, h2⟩, _⟩ := h
      obtain rfl : x0 = .agg #[.int .u32 f.dst, .int .u32 f.src, .int .u16 f.dp, .int .u16 f.sp, .int .u8 f.proto] := h0
      have E0 : a.eval (.tmp 22) = _ := eval_of e0
      obtain rfl : x1 = .agg #[.int .u32 f.dst, .int .u32 f.src, .int .u16 f.dp, .int .u16 f.sp, .int .u8 f.proto] := h1
      have E1 : a.eval (.tmp 24) = _ := eval_of e1
      obtain rfl : x2 = .bool false := h2
      have E2 : a.eval (.tmp 20) = _ := eval_of e2
      rw [if_pos (by simp [Region.wanted, yielded, e2])]
      go_simp
      exact hK _ _ (Grow.refl _) rfl
    · intro a wq gr h K hK
      obtain ⟨⟨x0, e0, h0⟩, ⟨x1, e1, h1⟩, _⟩ := h
      obtain rfl : x0 = .bool false := h0
      have E0 : a.eval (.tmp 20) = _ := eval_of e0
      obtain rfl : x1 = .bool false := h1
      have E1 : a.eval (.tmp 25) = _ := eval_of e1
      rw [if_pos (by rfl)]
      go_simp
      exact hK _ _ (Grow.refl _) rfl
  · intro w1 gr
    simp only [Fin]
    intro v1 h1 v3 h3
    clear h1 h3
    go_simp
    go_wp2_with fail
    have hk2 := Lib.hid fun w' (g2 : Grow w1.drew w') => hk.out w' (gr.trans ((Grow.refl w1).drew.trans g2))
    refine wp_gamma (by kernel_rfl) 29 56 [[(2, none)], [(27, some 0)], [(3, none)], [(29, some 2)], [(28, some 1), (30, some 3)], [(2, none)], [(3, none)], [(32, some 5), (33, some 6)], [(31, some 4), (34, some 7)], [(35, some 8)], [(2, none), (36, some 9)], [(3, none), (36, some 9)], [(37, some 10), (38, some 11), (36, some 9)], [(39, some 12), (36, some 9)], [(2, none), (36, some 9)], [(3, none), (36, some 9)], [(41, some 14), (42, some 15), (36, some 9)], [(40, some 13), (43, some 16), (36, some 9)], [(36, some 9), (44, some 17)], [(45, some 18)], [(2, none), (46, some 19)], [(47, some 20), (46, some 19)], [(48, some 21), (46, some 19)], [(2, none), (46, some 19)], [(49, some 22), (50, some 23), (46, some 19)], [(46, some 19), (51, some 24)], [(52, some 25)], [(53, some 26)], [(53, some 26), (54, some 27)]] [.ex (.agg #[.int .u32 f.src, .int .u32 f.dst, .int .u16 f.sp, .int .u16 f.dp, .int .u8 f.proto]), .rel (fun v wx => IsB wx v (f.bytes)), .ex (.agg #[.int .u32 g.src, .int .u32 g.dst, .int .u16 g.sp, .int .u16 g.dp, .int .u8 g.proto]), .rel (fun v wx => IsB wx v (g.bytes)), .ex (.bool false), .ex (.agg #[.int .u32 f.src, .int .u32 f.dst, .int .u16 f.sp, .int .u16 f.dp, .int .u8 f.proto]), .ex (.agg #[.int .u32 g.src, .int .u32 g.dst, .int .u16 g.sp, .int .u16 g.dp, .int .u8 g.proto]), .ex (.bool false), .ex (.bool true), .ex (.bool true), .ex (.agg #[.int .u32 f.src, .int .u32 f.dst, .int .u16 f.sp, .int .u16 f.dp, .int .u8 f.proto]), .ex (.agg #[.int .u32 g.src, .int .u32 g.dst, .int .u16 g.sp, .int .u16 g.dp, .int .u8 g.proto]), .ex (.int .i64 R), .ex (.bool false), .ex (.agg #[.int .u32 f.src, .int .u32 f.dst, .int .u16 f.sp, .int .u16 f.dp, .int .u8 f.proto]), .ex (.agg #[.int .u32 g.src, .int .u32 g.dst, .int .u16 g.sp, .int .u16 g.dp, .int .u8 g.proto]), .ex (.bool false), .ex (.bool true), .ex (.bool true), .ex (.bool true), .ex (.agg #[.int .u32 f.src, .int .u32 f.dst, .int .u16 f.sp, .int .u16 f.dp, .int .u8 f.proto]), .ex (.agg #[.int .u32 f.dst, .int .u32 f.src, .int .u16 f.dp, .int .u16 f.sp, .int .u8 f.proto]), .ex (.agg #[.int .u32 f.src, .int .u32 f.dst, .int .u16 f.sp, .int .u16 f.dp, .int .u8 f.proto]), .ex (.agg #[.int .u32 f.src, .int .u32 f.dst, .int .u16 f.sp, .int .u16 f.dp, .int .u8 f.proto]), .ex (.bool true), .ex (.bool true), .ex (.bool true), .ex (.bool true), .ex (.bool true)] (by kernel_rfl) rfl rfl ⟨Sp.stable_ex _, ⟨(fun _ _ _ g h => IsB.grow h g), ⟨Sp.stable_ex _, ⟨(fun _ _ _ g h => IsB.grow h g), ⟨Sp.stable_ex _, ⟨Sp.stable_ex _, ⟨Sp.stable_ex _, ⟨Sp.stable_ex _, ⟨Sp.stable_ex _, ⟨Sp.stable_ex _, ⟨Sp.stable_ex _, ⟨Sp.stable_ex _, ⟨Sp.stable_ex _, ⟨Sp.stable_ex _, ⟨Sp.stable_ex _, ⟨Sp.stable_ex _, ⟨Sp.stable_ex _, ⟨Sp.stable_ex _, ⟨Sp.stable_ex _, ⟨Sp.stable_ex _, ⟨Sp.stable_ex _, ⟨Sp.stable_ex _, ⟨Sp.stable_ex _, ⟨Sp.stable_ex _, ⟨Sp.stable_ex _, ⟨Sp.stable_ex _, ⟨Sp.stable_ex _, ⟨Sp.stable_ex _, ⟨Sp.stable_ex _, trivial⟩⟩⟩⟩⟩⟩⟩⟩⟩⟩⟩⟩⟩⟩⟩⟩⟩⟩⟩⟩⟩⟩⟩⟩⟩⟩⟩⟩⟩ ?_ ?_
    · refine ⟨?_, ?_, ?_, ?_, ?_, ?_, ?_, ?_, ?_, ?_, ?_, ?_, ?_, ?_, ?_, ?_, ?_, ?_, ?_, ?_, ?_, ?_, ?_, ?_, ?_, ?_, ?_, ?_, ?_, trivial⟩
      · intro a wq g2 h K hK
        obtain ⟨e0, _⟩ := h
        have e0 : a.tmps[2]? = some (.pointer (some ⟨w.heap.size, 0, none⟩)) := e0
        have E0 : a.eval (.tmp 2) = .pointer (some ⟨w.heap.size, 0, none⟩) := eval_of e0
        rw [if_pos (by rfl)]
        have hc := hk2.out wq g2
        go_simp
        exact hK _ _ (Grow.refl _) rfl
      · intro a wq g2 h K hK
        obtain ⟨⟨x0, e0, h0⟩, _⟩ := h
        obtain rfl : x0 = .agg #[.int .u32 f.src, .int .u32 f.dst, .int .u16 f.sp, .int .u16 f.dp, .int .u8 f.proto] := h0
        have E0 : a.eval (.tmp 27) = _ := eval_of e0
        rw [if_pos (by rfl)]
        go_simp
        refine (HB0.out _).mono ?_; rintro e w2 ⟨v1, rfl, ho1, g1⟩
        exact hK _ _ g1 ho1
      · intro a wq g2 h K hK
        obtain ⟨e0, _⟩ := h
        have e0 : a.tmps[3]? = some (.pointer (some ⟨(w.heap.size + 1), 0, none⟩)) := e0
        have E0 : a.eval (.tmp 3) = .pointer (some ⟨(w.heap.size + 1), 0, none⟩) := eval_of e0
        rw [if_pos (by rfl)]
        have hc := hk2.out wq g2
        go_simp
        exact hK _ _ (Grow.refl _) rfl
      · intro a wq g2 h K hK
        obtain ⟨⟨x0, e0, h0⟩, _⟩ := h
        obtain rfl : x0 = .agg #[.int .u32 g.src, .int .u32 g.dst, .int .u16 g.sp, .int .u16 g.dp, .int .u8 g.proto] := h0
        have E0 : a.eval (.tmp 29) = _ := eval_of e0
        rw [if_pos (by rfl)]
        go_simp
        refine (HB1.out _).mono ?_; rintro e w2 ⟨v1, rfl, ho1, g1⟩
        exact hK _ _ g1 ho1
      · intro a wq g2 h K hK
        obtain ⟨⟨x0, e0, h0⟩, ⟨x1, e1, h1⟩, _⟩ := h
        have h0 : (fun v wx => IsB wx v (f.bytes)) x0 wq := h0
        have E0 : a.eval (.tmp 28) = _ := eval_of e0
        have h1 : (fun v wx => IsB wx v (g.bytes)) x1 wq := h1
        have E1 : a.eval (.tmp 30) = _ := eval_of e1
        rw [if_pos (by rfl)]
        go_simp
        refine (refSame_any _ _ _ _ _ h0 h1).mono ?_; rintro e w2 ⟨rfl, g1⟩
        rw [HQ.out]
        exact hK _ _ g1 rfl
      · intro a wq g2 h K hK
        obtain ⟨e0, _⟩ := h
        have e0 : a.tmps[2]? = some (.pointer (some ⟨w.heap.size, 0, none⟩)) := e0
        have E0 : a.eval (.tmp 2) = .pointer (some ⟨w.heap.size, 0, none⟩) := eval_of e0
        rw [if_pos (by rfl)]
        have hc := hk2.out wq g2
        go_simp
        exact hK _ _ (Grow.refl _) rfl
      · intro a wq g2 h K hK
        obtain ⟨e0, _⟩ := h
        have e0 : a.tmps[3]? = some (.pointer (some ⟨(w.heap.size + 1), 0, none⟩)) := e0
        have E0 : a.eval (.tmp 3) = .pointer (some ⟨(w.heap.size + 1), 0, none⟩) := eval_of e0
        rw [if_pos (by rfl)]
        have hc := hk2.out wq g2
        go_simp
        exact hK _ _ (Grow.refl _) rfl
      · intro a wq g2 h K hK
        obtain ⟨⟨x0, e0, h0⟩, ⟨x1, e1, h1⟩, _⟩ := h
        obtain rfl : x0 = .agg #[.int .u32 f.src, .int .u32 f.dst, .int .u16 f.sp, .int .u16 f.dp, .int .u8 f.proto] := h0
        have E0 : a.eval (.tmp 32) = _ := eval_of e0
        obtain rfl : x1 = .agg #[.int .u32 g.src, .int .u32 g.dst, .int .u16 g.sp, .int .u16 g.dp, .int .u8 g.proto] := h1
        have E1 : a.eval (.tmp 33) = _ := eval_of e1
        rw [if_pos (by rfl)]
        go_simp
        rw [ifs5 _ _ HNE.out]; go_simp
        exact hK _ _ (Grow.refl _) rfl
      · intro a wq g2 h K hK
        obtain ⟨⟨x0, e0, h0⟩, ⟨x1, e1, h1⟩, _⟩ := h
        obtain rfl : x0 = .bool false := h0
        have E0 : a.eval (.tmp 31) = _ := eval_of e0
        obtain rfl : x1 = .bool false := h1
        have E1 : a.eval (.tmp 34) = _ := eval_of e1
        rw [if_pos (by rfl)]
        go_simp
        exact hK _ _ (Grow.refl _) rfl
      · intro a wq g2 h K hK
        obtain ⟨⟨x0, e0, h0⟩, _⟩ := h
        obtain rfl : x0 = .bool true := h0
        have E0 : a.eval (.tmp 35) = _ := eval_of e0
        rw [if_pos (by rfl)]
        go_simp
        exact hK _ _ (Grow.refl _) rfl
      · intro a wq g2 h K hK
        obtain ⟨e0, ⟨x1, e1, h1⟩, _⟩ := h
        have e0 : a.tmps[2]? = some (.pointer (some ⟨w.heap.size, 0, none⟩)) := e0
        have E0 : a.eval (.tmp 2) = .pointer (some ⟨w.heap.size, 0, none⟩) := eval_of e0
        obtain rfl : x1 = .bool true := h1
        have E1 : a.eval (.tmp 36) = _ := eval_of e1
        rw [if_pos (by simp [Region.wanted, yielded, e1])]
        have hc := hk2.out wq g2
        go_simp
        exact hK _ _ (Grow.refl _) rfl
      · intro a wq g2 h K hK
        obtain ⟨e0, ⟨x1, e1, h1⟩, _⟩ := h
        have e0 : a.tmps[3]? = some (.pointer (some ⟨(w.heap.size + 1), 0, none⟩)) := e0
        have E0 : a.eval (.tmp 3) = .pointer (some ⟨(w.heap.size + 1), 0, none⟩) := eval_of e0
        obtain rfl : x1 = .bool true := h1
        have E1 : a.eval (.tmp 36) = _ := eval_of e1
        rw [if_pos (by simp [Region.wanted, yielded, e1])]
        have hc := hk2.out wq g2
        go_simp
        exact hK _ _ (Grow.refl _) rfl
      · intro a wq g2 h K hK
        obtain ⟨⟨x0, e0, h0⟩, ⟨x1, e1, h1⟩, ⟨x2, e2, h2⟩, _⟩ := h
        obtain rfl : x0 = .agg #[.int .u32 f.src, .int .u32 f.dst, .int .u16 f.sp, .int .u16 f.dp, .int .u8 f.proto] := h0
        have E0 : a.eval (.tmp 37) = _ := eval_of e0
        obtain rfl : x1 = .agg #[.int .u32 g.src, .int .u32 g.dst, .int .u16 g.sp, .int .u16 g.dp, .int .u8 g.proto] := h1
        have E1 : a.eval (.tmp 38) = _ := eval_of e1
        obtain rfl : x2 = .bool true := h2
        have E2 : a.eval (.tmp 36) = _ := eval_of e2
        rw [if_pos (by simp [Region.wanted, yielded, e2])]
        go_simp
        refine (HC.out _).mono ?_; rintro e w2 ⟨rfl, g1⟩
        exact hK _ _ g1 rfl
      · intro a wq g2 h K hK
        obtain ⟨⟨x0, e0, h0⟩, ⟨x1, e1, h1⟩, _⟩ := h
        obtain rfl : x0 = .int .i64 R := h0
        have E0 : a.eval (.tmp 39) = _ := eval_of e0
        obtain rfl : x1 = .bool true := h1
        have E1 : a.eval (.tmp 36) = _ := eval_of e1
        rw [if_pos (by simp [Region.wanted, yielded, e1])]
        go_simp
        rw [HR0.out]
        exact hK _ _ (Grow.refl _) rfl
      · intro a wq g2 h K hK
        obtain ⟨e0, ⟨x1, e1, h1⟩, _⟩ := h
        have e0 : a.tmps[2]? = some (.pointer (some ⟨w.heap.size, 0, none⟩)) := e0
        have E0 : a.eval (.tmp 2) = .pointer (some ⟨w.heap.size, 0, none⟩) := eval_of e0
        obtain rfl : x1 = .bool true := h1
        have E1 : a.eval (.tmp 36) = _ := eval_of e1
        rw [if_pos (by simp [Region.wanted, yielded, e1])]
        have hc := hk2.out wq g2
        go_simp
        exact hK _ _ (Grow.refl _) rfl
      · intro a wq g2 h K hK
        obtain ⟨e0, ⟨x1, e1, h1⟩, _⟩ := h
        have e0 : a.tmps[3]? = some (.pointer (some ⟨(w.heap.size + 1), 0, none⟩)) := e0
        have E0 : a.eval (.tmp 3) = .pointer (some ⟨(w.heap.size + 1), 0, none⟩) := eval_of e0
        obtain rfl : x1 = .bool true := h1
        have E1 : a.eval (.tmp 36) = _ := eval_of e1
        rw [if_pos (by simp [Region.wanted, yielded, e1])]
        have hc := hk2.out wq g2
        go_simp
        exact hK _ _ (Grow.refl _) rfl
      · intro a wq g2 h K hK
        obtain ⟨⟨x0, e0, h0⟩, ⟨x1, e1, h1⟩, ⟨x2, e2, h2⟩, _⟩ := h
        obtain rfl : x0 = .agg #[.int .u32 f.src, .int .u32 f.dst, .int .u16 f.sp, .int .u16 f.dp, .int .u8 f.proto] := h0
        have E0 : a.eval (.tmp 41) = _ := eval_of e0
        obtain rfl : x1 = .agg #[.int .u32 g.src, .int .u32 g.dst, .int .u16 g.sp, .int .u16 g.dp, .int .u8 g.proto] := h1
        have E1 : a.eval (.tmp 42) = _ := eval_of e1
        obtain rfl : x2 = .bool true := h2
        have E2 : a.eval (.tmp 36) = _ := eval_of e2
        rw [if_pos (by simp [Region.wanted, yielded, e2])]
        go_simp
        rw [ifs5 _ _ HNE.out]; go_simp
        exact hK _ _ (Grow.refl _) rfl
      · intro a wq g2 h K hK
        obtain ⟨⟨x0, e0, h0⟩, ⟨x1, e1, h1⟩, ⟨x2, e2, h2⟩, _⟩ := h
        obtain rfl : x0 = .bool false := h0
        have E0 : a.eval (.tmp 40) = _ := eval_of e0
        obtain rfl : x1 = .bool false := h1
        have E1 : a.eval (.tmp 43) = _ := eval_of e1
        obtain rfl : x2 = .bool true := h2
        have E2 : a.eval (.tmp 36) = _ := eval_of e2
        rw [if_pos (by simp [Region.wanted, yielded, e2])]
        go_simp
        exact hK _ _ (Grow.refl _) rfl
      · intro a wq g2 h K hK
        obtain ⟨⟨x0, e0, h0⟩, ⟨x1, e1, h1⟩, _⟩ := h
        obtain rfl : x0 = .bool true := h0
        have E0 : a.eval (.tmp 36) = _ := eval_of e0
        obtain rfl : x1 = .bool true := h1
        have E1 : a.eval (.tmp 44) = _ := eval_of e1
        rw [if_pos (by rfl)]
        go_simp
        exact hK _ _ (Grow.refl _) rfl
      · intro a wq g2 h K hK
        obtain ⟨⟨x0, e0, h0⟩, _⟩ := h
        obtain rfl : x0 = .bool true := h0
        have E0 : a.eval (.tmp 45) = _ := eval_of e0
        rw [if_pos (by rfl)]
        go_simp
        exact hK _ _ (Grow.refl _) rfl
      · intro a wq g2 h K hK
        obtain ⟨e0, ⟨x1, e1, h1⟩, _⟩ := h
        have e0 : a.tmps[2]? = some (.pointer (some ⟨w.heap.size, 0, none⟩)) := e0
        have E0 : a.eval (.tmp 2) = .pointer (some ⟨w.heap.size, 0, none⟩) := eval_of e0
        obtain rfl : x1 = .bool true := h1
        have E1 : a.eval (.tmp 46) = _ := eval_of e1
        rw [if_pos (by simp [Region.wanted, yielded, e1])]
        have hc := hk2.out wq g2
        go_simp
        exact hK _ _ (Grow.refl _) rfl
      · intro a wq g2 h K hK
        obtain ⟨⟨x0, e0, h0⟩, ⟨x1, e1, h1⟩, _⟩ := h
        obtain rfl : x0 = .agg #[.int .u32 f.src, .int .u32 f.dst, .int .u16 f.sp, .int .u16 f.dp, .int .u8 f.proto] := h0
        have E0 : a.eval (.tmp 47) = _ := eval_of e0
        obtain rfl : x1 = .bool true := h1
        have E1 : a.eval (.tmp 46) = _ := eval_of e1
        rw [if_pos (by simp [Region.wanted, yielded, e1])]
        go_simp
        refine (HK.out _).mono ?_; rintro e w2 ⟨rfl, g1⟩
        exact hK _ _ g1 rfl
      · intro a wq g2 h K hK
        obtain ⟨⟨x0, e0, h0⟩, ⟨x1, e1, h1⟩, _⟩ := h
        obtain rfl : x0 = .agg #[.int .u32 f.dst, .int .u32 f.src, .int .u16 f.dp, .int .u16 f.sp, .int .u8 f.proto] := h0
        have E0 : a.eval (.tmp 48) = _ := eval_of e0
        obtain rfl : x1 = .bool true := h1
        have E1 : a.eval (.tmp 46) = _ := eval_of e1
        rw [if_pos (by simp [Region.wanted, yielded, e1])]
        go_simp
        refine (HKB.out _).mono ?_; rintro e w2 ⟨rfl, g1⟩
        exact hK _ _ g1 rfl
      · intro a wq g2 h K hK
        obtain ⟨e0, ⟨x1, e1, h1⟩, _⟩ := h
        have e0 : a.tmps[2]? = some (.pointer (some ⟨w.heap.size, 0, none⟩)) := e0
        have E0 : a.eval (.tmp 2) = .pointer (some ⟨w.heap.size, 0, none⟩) := eval_of e0
        obtain rfl : x1 = .bool true := h1
        have E1 : a.eval (.tmp 46) = _ := eval_of e1
        rw [if_pos (by simp [Region.wanted, yielded, e1])]
        have hc := hk2.out wq g2
        go_simp
        exact hK _ _ (Grow.refl _) rfl
      · intro a wq g2 h K hK
        obtain ⟨⟨x0, e0, h0⟩, ⟨x1, e1, h1⟩, ⟨x2, e2, h2⟩, _⟩ := h
        obtain rfl : x0 = .agg #[.int .u32 f.src, .int .u32 f.dst, .int .u16 f.sp, .int .u16 f.dp, .int .u8 f.proto] := h0
        have E0 : a.eval (.tmp 49) = _ := eval_of e0
        obtain rfl : x1 = .agg #[.int .u32 f.src, .int .u32 f.dst, .int .u16 f.sp, .int .u16 f.dp, .int .u8 f.proto] := h1
        have E1 : a.eval (.tmp 50) = _ := eval_of e1
        obtain rfl : x2 = .bool true := h2
        have E2 : a.eval (.tmp 46) = _ := eval_of e2
        rw [if_pos (by simp [Region.wanted, yielded, e2])]
        go_simp
        exact hK _ _ (Grow.refl _) rfl
      · intro a wq g2 h K hK
        obtain ⟨⟨x0, e0, h0⟩, ⟨x1, e1, h1⟩, _⟩ := h
        obtain rfl : x0 = .bool true := h0
        have E0 : a.eval (.tmp 46) = _ := eval_of e0
        obtain rfl : x1 = .bool true := h1
        have E1 : a.eval (.tmp 51) = _ := eval_of e1
        rw [if_pos (by rfl)]
        go_simp
        exact hK _ _ (Grow.refl _) rfl
      · intro a wq g2 h K hK
        obtain ⟨⟨x0, e0, h0⟩, _⟩ := h
        obtain rfl : x0 = .bool true := h0
        have E0 : a.eval (.tmp 52) = _ := eval_of e0
        rw [if_pos (by rfl)]
        go_simp
        exact hK _ _ (Grow.refl _) rfl
      · intro a wq g2 h K hK
        obtain ⟨⟨x0, e0, h0⟩, _⟩ := h
        obtain rfl : x0 = .bool true := h0
        have E0 : a.eval (.tmp 53) = _ := eval_of e0
        rw [if_pos (by simp [Region.wanted, yielded, e0])]
        go_simp
        refine (HL.out _).mono ?_; rintro e w2 ⟨rfl, g1⟩
        exact hK _ _ g1 rfl
      · intro a wq g2 h K hK
        obtain ⟨⟨x0, e0, h0⟩, ⟨x1, e1, h1⟩, _⟩ := h
        obtain rfl : x0 = .bool true := h0
        have E0 : a.eval (.tmp 53) = _ := eval_of e0
        obtain rfl : x1 = .bool true := h1
        have E1 : a.eval (.tmp 54) = _ := eval_of e1
        rw [if_pos (by rfl)]
        go_simp
        exact hK _ _ (Grow.refl _) rfl
    · intro w2x g2
      simp only [Fin]
      intro v1b h1 v3b h3
      clear h1 h3
      go_simp
      go_wp2_with fail
      go_ret
      exact ⟨rfl, (((Grow.a2 w _ _).drew.trans gr).trans (Grow.refl w1).drew).trans g2⟩

theorem flowBytes_walk (f g : Flw) (w : World) (hf : f.ok) (hg : g.ok) :
    Calls Try.prog 15 #[f.v, g.v] w fun e w' => e = .returned (.bool true) ∧ Grow w w' := by
  by_cases h : f = g
  · subst h; exact flowBytes_eq f w hf
  · exact flowBytes_ne f g w hf hg h

end Go.Proofs.Ytmdaajlcikmnaaa
