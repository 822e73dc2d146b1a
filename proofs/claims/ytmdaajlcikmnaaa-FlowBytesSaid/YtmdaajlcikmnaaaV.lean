/- lives of layer 11; FlowOrder's walk. -/
import Derived.Test.YtmdaajlcikmnaaaT
namespace Go.Proofs.Ytmdaajlcikmnaaa
open Go.RowKit

set_option maxHeartbeats 1000000 in
set_option maxRecDepth 100000 in
theorem lives11_any (w : World) : Calls Try.prog 36 #[] w fun e w' => e = .returned (.bool true) ∧ Grow w w' := by
  have hf : ∀ d, flowOf ⟨0, 0, false, false, 0, 0, 6, 1, 2, .slice none 0 0, d⟩ [0, 10, 0, 20] = (⟨1, 2, 10, 20, 6⟩, 0) := fun d => rfl
  have hc := fun d (w : World) (hd : IsB w d [0, 10, 0, 20]) => flowOf_any ⟨0, 0, false, false, 0, 0, 6, 1, 2, .slice none 0 0, d⟩ [0, 10, 0, 20] w hd
  simp only [hf, Flw.v, Pkt.v, Flw.box, Pkt.box] at hc
  have HC := Lib.hid hc
  clear hc hf
  go_enter Try.func36, Try.ntmps36
  go_wp2_with (go_at_call 34; refine (HC.out _ _ (IsB.built4 _ _ _ _ _ _ _ _ _ _ rfl rfl rfl rfl)).mono ?_; rintro e w' ⟨rfl, rfl⟩)
  go_ret
  exact ⟨rfl, by repeat (first | exact Grow.refl _ | apply Grow.drew | apply Grow.alloc)⟩

theorem cb_neg : ∀ l m : List UInt8, Lib.compareBytes m l = - Lib.compareBytes l m
  | [], [] => rfl
  | [], _ :: _ => rfl
  | _ :: _, [] => rfl
  | a :: s, b :: t => by
    have ih := cb_neg s t
    simp only [Lib.compareBytes]
    by_cases h1 : a < b
    · have h2 : ¬ b < a := by rw [UInt8.lt_iff_toNat_lt] at *; omega
      simp [h1, h2]
    · by_cases h2 : b < a
      · simp [h1, h2]
      · simp [h1, h2, ih]

theorem cb_bd : ∀ l m : List UInt8, -1 ≤ Lib.compareBytes l m ∧ Lib.compareBytes l m ≤ 1
  | [], [] => by decide
  | [], _ :: _ => by simp [Lib.compareBytes]
  | _ :: _, [] => by simp [Lib.compareBytes]
  | a :: s, b :: t => by
    have ih := cb_bd s t
    simp only [Lib.compareBytes]
    split
    · omega
    · split <;> omega

theorem cb_tr : ∀ l m n : List UInt8, Lib.compareBytes l m ≤ 0 → Lib.compareBytes m n ≤ 0 → Lib.compareBytes l n ≤ 0 ∧ (Lib.compareBytes l m < 0 → Lib.compareBytes l n < 0)
  | [], [], [] => by simp [Lib.compareBytes]
  | [], [], _ :: _ => by simp [Lib.compareBytes]
  | [], _ :: _, [] => by simp [Lib.compareBytes]
  | [], _ :: _, _ :: _ => by simp [Lib.compareBytes]
  | _ :: _, [], [] => by simp [Lib.compareBytes]
  | _ :: _, [], _ :: _ => by simp [Lib.compareBytes]
  | _ :: _, _ :: _, [] => by simp [Lib.compareBytes]
  | a :: s, b :: t, c :: u => by
    have ih := cb_tr s t u
    simp only [Lib.compareBytes, UInt8.lt_iff_toNat_lt]
    intro h1 h2
    split at h1
    · split at h2
      · rw [if_pos (by omega)]; omega
      · split at h2
        · omega
        · rw [if_pos (by omega)]; omega
    · split at h1
      · omega
      · split at h2
        · rw [if_pos (by omega)]; omega
        · split at h2
          · omega
          · rw [if_neg (by omega), if_neg (by omega)]
            rename_i h3 h4 _ _
            simp only [h3, h4, if_false]
            exact ih h1 h2

set_option maxHeartbeats 4000000 in
set_option maxRecDepth 100000 in
theorem flowOrder_walk (fa fb fc : Flw) (w : World) (ha : fa.ok) (hb : fb.ok) (hc : fc.ok) :
    Calls Try.prog 14 #[fa.v, fb.v, fc.v] w fun e w' => e = .returned (.bool true) ∧ Grow w w' := by
  have h1 := fun w => flowCompare_any fa fb w ha hb
  have h2 := fun w => flowCompare_any fb fc w hb hc
  have h3 := fun w => flowCompare_any fa fc w ha hc
  have h4 := fun w => flowCompare_any fb fa w hb ha
  have h5 : ord fb fa = - ord fa fb := cb_neg _ _
  have h6 : -1 ≤ ord fa fb ∧ ord fa fb ≤ 1 := cb_bd _ _
  have h7 : -1 ≤ ord fb fc ∧ ord fb fc ≤ 1 := cb_bd _ _
  have h8 : -1 ≤ ord fa fc ∧ ord fa fc ≤ 1 := cb_bd _ _
  have h9 : 0 < ord fa fb ∨ 0 < ord fb fc ∨ ord fa fc ≤ 0 := by
    have : ord fa fb ≤ 0 → ord fb fc ≤ 0 → ord fa fc ≤ 0 ∧ (ord fa fb < 0 → ord fa fc < 0) := cb_tr _ _ _
    omega
  have h10 : 0 ≤ ord fa fb ∨ 0 < ord fb fc ∨ ord fa fc < 0 := by
    have : ord fa fb ≤ 0 → ord fb fc ≤ 0 → ord fa fc ≤ 0 ∧ (ord fa fb < 0 → ord fa fc < 0) := cb_tr _ _ _
    omega
  rw [h5] at h4
  generalize ord fa fb = x at *
  generalize ord fb fc = y at *
  generalize ord fa fc = z at *
  clear ha hb hc h5
  simp only [Flw.v] at h1 h2 h3 h4 ⊢
  have H1 := Lib.hid h1
  have H2 := Lib.hid h2
  have H3 := Lib.hid h3
  have H4 := Lib.hid h4
  clear h1 h2 h3 h4
  have hk : Hid (∀ w', Grow (((w.alloc (.cells #[.int .u32 fa.src, .int .u32 fa.dst, .int .u16 fa.sp, .int .u16 fa.dp, .int .u8 fa.proto] 25)).alloc (.cells #[.int .u32 fb.src, .int .u32 fb.dst, .int .u16 fb.sp, .int .u16 fb.dp, .int .u8 fb.proto] 25)).alloc (.cells #[.int .u32 fc.src, .int .u32 fc.dst, .int .u16 fc.sp, .int .u16 fc.dp, .int .u8 fc.proto] 25)).drew w' → w'.cell? ⟨w.heap.size, 0, none⟩ = some (.int .u32 fa.src) ∧ w'.cell? ⟨w.heap.size, 1, none⟩ = some (.int .u32 fa.dst) ∧ w'.cell? ⟨w.heap.size, 2, none⟩ = some (.int .u16 fa.sp) ∧ w'.cell? ⟨w.heap.size, 3, none⟩ = some (.int .u16 fa.dp) ∧ w'.cell? ⟨w.heap.size, 4, none⟩ = some (.int .u8 fa.proto) ∧ w'.cell? ⟨(w.heap.size + 1), 0, none⟩ = some (.int .u32 fb.src) ∧ w'.cell? ⟨(w.heap.size + 1), 1, none⟩ = some (.int .u32 fb.dst) ∧ w'.cell? ⟨(w.heap.size + 1), 2, none⟩ = some (.int .u16 fb.sp) ∧ w'.cell? ⟨(w.heap.size + 1), 3, none⟩ = some (.int .u16 fb.dp) ∧ w'.cell? ⟨(w.heap.size + 1), 4, none⟩ = some (.int .u8 fb.proto) ∧ w'.cell? ⟨(w.heap.size + 1 + 1), 0, none⟩ = some (.int .u32 fc.src) ∧ w'.cell? ⟨(w.heap.size + 1 + 1), 1, none⟩ = some (.int .u32 fc.dst) ∧ w'.cell? ⟨(w.heap.size + 1 + 1), 2, none⟩ = some (.int .u16 fc.sp) ∧ w'.cell? ⟨(w.heap.size + 1 + 1), 3, none⟩ = some (.int .u16 fc.dp) ∧ w'.cell? ⟨(w.heap.size + 1 + 1), 4, none⟩ = some (.int .u8 fc.proto)) := fun w' g1 => by
    have a0 := fun i => cell_box w #[.int .u32 fa.src, .int .u32 fa.dst, .int .u16 fa.sp, .int .u16 fa.dp, .int .u8 fa.proto] 25 i w.heap.size rfl
    have a1 := fun i => cell_box (w.alloc (.cells #[.int .u32 fa.src, .int .u32 fa.dst, .int .u16 fa.sp, .int .u16 fa.dp, .int .u8 fa.proto] 25)) #[.int .u32 fb.src, .int .u32 fb.dst, .int .u16 fb.sp, .int .u16 fb.dp, .int .u8 fb.proto] 25 i (w.heap.size + 1) (by simp)
    have a2 := fun i => cell_box ((w.alloc (.cells #[.int .u32 fa.src, .int .u32 fa.dst, .int .u16 fa.sp, .int .u16 fa.dp, .int .u8 fa.proto] 25)).alloc (.cells #[.int .u32 fb.src, .int .u32 fb.dst, .int .u16 fb.sp, .int .u16 fb.dp, .int .u8 fb.proto] 25)) #[.int .u32 fc.src, .int .u32 fc.dst, .int .u16 fc.sp, .int .u16 fc.dp, .int .u8 fc.proto] 25 i (w.heap.size + 1 + 1) (by simp)
    exact ⟨g1.cell ((Grow.a2 _ _ _).cell (a0 0)), g1.cell ((Grow.a2 _ _ _).cell (a0 1)), g1.cell ((Grow.a2 _ _ _).cell (a0 2)), g1.cell ((Grow.a2 _ _ _).cell (a0 3)), g1.cell ((Grow.a2 _ _ _).cell (a0 4)), g1.cell ((Grow.a1 _ _).cell (a1 0)), g1.cell ((Grow.a1 _ _).cell (a1 1)), g1.cell ((Grow.a1 _ _).cell (a1 2)), g1.cell ((Grow.a1 _ _).cell (a1 3)), g1.cell ((Grow.a1 _ _).cell (a1 4)), g1.cell (a2 0), g1.cell (a2 1), g1.cell (a2 2), g1.cell (a2 3), g1.cell (a2 4)⟩
  go_enter Try.func14, Try.ntmps14
  go_wp2_with fail
  refine wp_gamma (by kernel_rfl) 12 52 [[(3, none)], [(4, none)], [(10, some 0), (11, some 1)], [(4, none)], [(5, none)], [(13, some 3), (14, some 4)], [(3, none)], [(5, none)], [(16, some 6), (17, some 7)], [(12, some 2)], [(15, some 5)], [(18, some 8)]] [.ex (.agg #[.int .u32 fa.src, .int .u32 fa.dst, .int .u16 fa.sp, .int .u16 fa.dp, .int .u8 fa.proto]), .ex (.agg #[.int .u32 fb.src, .int .u32 fb.dst, .int .u16 fb.sp, .int .u16 fb.dp, .int .u8 fb.proto]), .ex (.int .i64 x), .ex (.agg #[.int .u32 fb.src, .int .u32 fb.dst, .int .u16 fb.sp, .int .u16 fb.dp, .int .u8 fb.proto]), .ex (.agg #[.int .u32 fc.src, .int .u32 fc.dst, .int .u16 fc.sp, .int .u16 fc.dp, .int .u8 fc.proto]), .ex (.int .i64 y), .ex (.agg #[.int .u32 fa.src, .int .u32 fa.dst, .int .u16 fa.sp, .int .u16 fa.dp, .int .u8 fa.proto]), .ex (.agg #[.int .u32 fc.src, .int .u32 fc.dst, .int .u16 fc.sp, .int .u16 fc.dp, .int .u8 fc.proto]), .ex (.int .i64 z), .ex (.int .i64 x), .ex (.int .i64 y), .ex (.int .i64 z)] (by kernel_rfl) rfl rfl ⟨Sp.stable_ex _, ⟨Sp.stable_ex _, ⟨Sp.stable_ex _, ⟨Sp.stable_ex _, ⟨Sp.stable_ex _, ⟨Sp.stable_ex _, ⟨Sp.stable_ex _, ⟨Sp.stable_ex _, ⟨Sp.stable_ex _, ⟨Sp.stable_ex _, ⟨Sp.stable_ex _, ⟨Sp.stable_ex _, trivial⟩⟩⟩⟩⟩⟩⟩⟩⟩⟩⟩⟩ ?_ ?_
  · refine ⟨?_, ?_, ?_, ?_, ?_, ?_, ?_, ?_, ?_, ?_, ?_, ?_, trivial⟩
    · intro a w1 gr h K hK
      obtain ⟨e0, _⟩ := h
      have e0 : a.tmps[3]? = some (.pointer (some ⟨w.heap.size, 0, none⟩)) := e0
      have E0 : a.eval (.tmp 3) = .pointer (some ⟨w.heap.size, 0, none⟩) := eval_of e0
      rw [if_pos (by rfl)]
      have hc := hk.out w1 gr
      go_simp
      exact hK _ _ (Grow.refl _) rfl
    · intro a w1 gr h K hK
      obtain ⟨e0, _⟩ := h
      have e0 : a.tmps[4]? = some (.pointer (some ⟨(w.heap.size + 1), 0, none⟩)) := e0
      have E0 : a.eval (.tmp 4) = .pointer (some ⟨(w.heap.size + 1), 0, none⟩) := eval_of e0
      rw [if_pos (by rfl)]
      have hc := hk.out w1 gr
      go_simp
      exact hK _ _ (Grow.refl _) rfl
    · intro a w1 gr h K hK
      obtain ⟨⟨x0, e0, h0⟩, ⟨x1, e1, h1⟩, _⟩ := h
      obtain rfl : x0 = .agg #[.int .u32 fa.src, .int .u32 fa.dst, .int .u16 fa.sp, .int .u16 fa.dp, .int .u8 fa.proto] := h0
      have E0 : a.eval (.tmp 10) = _ := eval_of e0
      obtain rfl : x1 = .agg #[.int .u32 fb.src, .int .u32 fb.dst, .int .u16 fb.sp, .int .u16 fb.dp, .int .u8 fb.proto] := h1
      have E1 : a.eval (.tmp 11) = _ := eval_of e1
      rw [if_pos (by rfl)]
      go_simp
      refine (H1.out _).mono ?_; rintro e w2 ⟨rfl, g1⟩
      exact hK _ _ g1 rfl
    · intro a w1 gr h K hK
      obtain ⟨e0, _⟩ := h
      have e0 : a.tmps[4]? = some (.pointer (some ⟨(w.heap.size + 1), 0, none⟩)) := e0
      have E0 : a.eval (.tmp 4) = .pointer (some ⟨(w.heap.size + 1), 0, none⟩) := eval_of e0
      rw [if_pos (by rfl)]
      have hc := hk.out w1 gr
      go_simp
      exact hK _ _ (Grow.refl _) rfl
    · intro a w1 gr h K hK
      obtain ⟨e0, _⟩ := h
      have e0 : a.tmps[5]? = some (.pointer (some ⟨(w.heap.size + 1 + 1), 0, none⟩)) := e0
      have E0 : a.eval (.tmp 5) = .pointer (some ⟨(w.heap.size + 1 + 1), 0, none⟩) := eval_of e0
      rw [if_pos (by rfl)]
      have hc := hk.out w1 gr
      go_simp
      exact hK _ _ (Grow.refl _) rfl
    · intro a w1 gr h K hK
      obtain ⟨⟨x0, e0, h0⟩, ⟨x1, e1, h1⟩, _⟩ := h
      obtain rfl : x0 = .agg #[.int .u32 fb.src, .int .u32 fb.dst, .int .u16 fb.sp, .int .u16 fb.dp, .int .u8 fb.proto] := h0
      have E0 : a.eval (.tmp 13) = _ := eval_of e0
      obtain rfl : x1 = .agg #[.int .u32 fc.src, .int .u32 fc.dst, .int .u16 fc.sp, .int .u16 fc.dp, .int .u8 fc.proto] := h1
      have E1 : a.eval (.tmp 14) = _ := eval_of e1
      rw [if_pos (by rfl)]
      go_simp
      refine (H2.out _).mono ?_; rintro e w2 ⟨rfl, g1⟩
      exact hK _ _ g1 rfl
    · intro a w1 gr h K hK
      obtain ⟨e0, _⟩ := h
      have e0 : a.tmps[3]? = some (.pointer (some ⟨w.heap.size, 0, none⟩)) := e0
      have E0 : a.eval (.tmp 3) = .pointer (some ⟨w.heap.size, 0, none⟩) := eval_of e0
      rw [if_pos (by rfl)]
      have hc := hk.out w1 gr
      go_simp
      exact hK _ _ (Grow.refl _) rfl
    · intro a w1 gr h K hK
      obtain ⟨e0, _⟩ := h
      have e0 : a.tmps[5]? = some (.pointer (some ⟨(w.heap.size + 1 + 1), 0, none⟩)) := e0
      have E0 : a.eval (.tmp 5) = .pointer (some ⟨(w.heap.size + 1 + 1), 0, none⟩) := eval_of e0
      rw [if_pos (by rfl)]
      have hc := hk.out w1 gr
      go_simp
      exact hK _ _ (Grow.refl _) rfl
    · intro a w1 gr h K hK
      obtain ⟨⟨x0, e0, h0⟩, ⟨x1, e1, h1⟩, _⟩ := h
      obtain rfl : x0 = .agg #[.int .u32 fa.src, .int .u32 fa.dst, .int .u16 fa.sp, .int .u16 fa.dp, .int .u8 fa.proto] := h0
      have E0 : a.eval (.tmp 16) = _ := eval_of e0
      obtain rfl : x1 = .agg #[.int .u32 fc.src, .int .u32 fc.dst, .int .u16 fc.sp, .int .u16 fc.dp, .int .u8 fc.proto] := h1
      have E1 : a.eval (.tmp 17) = _ := eval_of e1
      rw [if_pos (by rfl)]
      go_simp
      refine (H3.out _).mono ?_; rintro e w2 ⟨rfl, g1⟩
      exact hK _ _ g1 rfl
    · intro a w1 gr h K hK
      obtain ⟨⟨x0, e0, h0⟩, _⟩ := h
      obtain rfl : x0 = .int .i64 x := h0
      have E0 : a.eval (.tmp 12) = _ := eval_of e0
      rw [if_pos (by rfl)]
      go_simp
      exact hK _ _ (Grow.refl _) rfl
    · intro a w1 gr h K hK
      obtain ⟨⟨x0, e0, h0⟩, _⟩ := h
      obtain rfl : x0 = .int .i64 y := h0
      have E0 : a.eval (.tmp 15) = _ := eval_of e0
      rw [if_pos (by rfl)]
      go_simp
      exact hK _ _ (Grow.refl _) rfl
    · intro a w1 gr h K hK
      obtain ⟨⟨x0, e0, h0⟩, _⟩ := h
      obtain rfl : x0 = .int .i64 z := h0
      have E0 : a.eval (.tmp 18) = _ := eval_of e0
      rw [if_pos (by rfl)]
      go_simp
      exact hK _ _ (Grow.refl _) rfl
  · intro w1 gr
    simp only [Fin]
    go_simp
    have hc := hk.out w1 gr
    have hx := i64_in (n := -x) (by omega) (by omega)
    go_wp2_with (first | (go_at_call 61; refine (H4.out _).mono ?_; rintro e w2 ⟨rfl, g2⟩) | (go_at_call 36; refine (lives11_any _).mono ?_; rintro e w3 ⟨rfl, g3⟩))
    all_goals go_ret
    all_goals clear hc hk H1 H2 H3 H4
    all_goals first | exact ⟨rfl, (((Grow.a3 w _ _ _).drew.trans gr).trans g2).trans g3⟩ | (refine ⟨?_, (((Grow.a3 w _ _ _).drew.trans gr).trans g2).trans g3⟩; (simp <;> omega)) | (exfalso; omega) | (exfalso; simp_all <;> omega)

end Go.Proofs.Ytmdaajlcikmnaaa
