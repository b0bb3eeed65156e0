/- The walk of the law GridChecks, out of printed contracts of what it calls. -/
import Derived.Test.YtdihefgleefhmaaPGridAroundsx
import Derived.Outline
import Derived.Lib.Hide
import Derived.WalkSpells
import Derived.WalkLawsBesides
namespace Go.Proofs.Ytdihefgleefhmaa
open Go.RowKit Go.Proofs.Ytdihefgleefhmaa.PGridArounds
namespace Gc
theorem bcell {W w1 : World} (hb : Below W.heap.size W w1) : (∀ b o, b < W.heap.size → w1.cell? ⟨b, o, none⟩ = W.cell? ⟨b, o, none⟩) ∧ (∀ b o, b < W.heap.size → w1.frozen? ⟨b, o, none⟩ = W.frozen? ⟨b, o, none⟩) :=
  ⟨fun b o h => hb.cell (p := ⟨b, o, none⟩) h, fun b o h => hb.frozen (p := ⟨b, o, none⟩) h⟩
theorem fit_any (w : World) : Calls Try.prog 9 #[] w fun e w' => e = .returned (.bool true) ∧ Below w.heap.size w w' :=
  isohyetlaw21_fit.calls 20 true w (by decide +kernel)

/-- does a coordinate lie too far, by the law's own words? -/
def farB (f c n : Int) : Bool := decide (f < -2147483648 ∨ 2147483648 < f ∨ (0 < n ∧ (2147483648 - f) / n < c))

set_option maxHeartbeats 1000000 in
theorem far_any (f c n : Int) (w : World) : Calls Try.prog 10 #[.int .i64 f, .int .i64 c, .int .i64 n] w fun e w' => e = .returned (.bool (farB f c n)) ∧ w = w' := by
  by_cases h1 : f < -2147483648
  · have hf : farB f c n = true := by unfold farB; simp [h1]
    rw [hf]; clear hf
    go_enter Try.func10, Try.ntmps10
    go_wp2
    go_ret
    exact ⟨rfl, rfl⟩
  by_cases h2 : 2147483648 < f
  · have hf : farB f c n = true := by unfold farB; simp [h2]
    rw [hf]; clear hf
    go_enter Try.func10, Try.ntmps10
    go_wp2
    go_ret
    exact ⟨rfl, rfl⟩
  by_cases h3 : 0 < n
  · by_cases h4 : (2147483648 - f) / n < c
    · have hf : farB f c n = true := by unfold farB; simp [h3, h4]
      rw [hf]; clear hf
      go_enter Try.func10, Try.ntmps10
      go_wp2
      go_ret
      exact ⟨rfl, rfl⟩
    · have hf : farB f c n = false := by unfold farB; simp [h1, h2, h3, h4]
      rw [hf]; clear hf
      go_enter Try.func10, Try.ntmps10
      go_wp2
      go_ret
      exact ⟨rfl, rfl⟩
  · have hf : farB f c n = false := by unfold farB; simp [h1, h2, h3]
    rw [hf]; clear hf
    go_enter Try.func10, Try.ntmps10
    go_wp2
    go_ret
    exact ⟨rfl, rfl⟩

theorem w64 {x : Int} (h1 : -9223372036854775808 ≤ x) (h2 : x ≤ 9223372036854775807) : wrap64 x = x := by unfold wrap64; omega

/-- what 'Check' answers, by the law's own words. -/
def want (a b c d e : Int) : Int :=
  if c < 1 ∨ d < 1 ∨ e < 1 then 3 else if 40000 / e < d then 5 else if farB a c (d - 1) = true ∨ farB b c (e - 1) = true then 4 else 0

theorem last_is (a c n : Int) (ha : -9223372036854775808 ≤ a) (ha' : a ≤ 9223372036854775807) (hc : 1 ≤ c) (hn : 1 ≤ n) (hn' : n ≤ 40000) :
    grid_last.f a c n = some (!farB a c (n - 1)) := by
  unfold grid_last.f grid_far.f farB
  by_cases h1 : a < -2147483648
  · simp [h1]
  by_cases h2 : 2147483648 < a
  · simp [h1, h2]
  by_cases h3 : n = 1
  · subst h3; simp [h1, h2]
  by_cases h4 : c ≤ 4294967296
  · have e1 : wrap64 (n - 1) = n - 1 := w64 (by omega) (by omega)
    have hp : 0 ≤ (n - 1) * c := Int.mul_nonneg (by omega) (by omega)
    have hq : (n - 1) * c ≤ 40000 * 4294967296 := Int.mul_le_mul (by omega) h4 (by omega) (by omega)
    have e2 : wrap64 ((n - 1) * c) = (n - 1) * c := w64 (by omega) (by omega)
    have e3 : wrap64 (a + (n - 1) * c) = a + (n - 1) * c := w64 (by omega) (by omega)
    have k : (2147483648 - a) / (n - 1) < c ↔ 2147483648 - a < (n - 1) * c := by
      rw [Int.ediv_lt_iff_lt_mul (by omega), Int.mul_comm]
    rw [e1, e2, e3]
    simp only [h1, h2, h3, h4, k, if_true, if_false, false_or, gt_iff_lt, decide_false, Option.bind_some, Bool.false_eq_true]
    have h6 : 0 < n - 1 := by omega
    have h7 : ¬ (a + (n-1)*c < -2147483648) := by omega
    simp only [h6, h7, true_and, if_false, Option.bind_some, Option.some.injEq]
    rw [Bool.eq_iff_iff]
    simp
    omega
  · have k : (2147483648 - a) / (n - 1) < c := by
      have : (2147483648 - a) / (n - 1) ≤ 2147483648 - a := Int.ediv_le_self _ (by omega)
      omega
    simp [h1, h2, h3, h4, k]; omega

theorem check_is (k : Nat) (a b c d e : Int) (ha : -9223372036854775808 ≤ a) (ha' : a ≤ 9223372036854775807) (hb : -9223372036854775808 ≤ b) (hb' : b ≤ 9223372036854775807) :
    grid_Grid_Check.f (k + 2) a b c d e = some (want a b c d e) := by
  unfold grid_Grid_Check.f want
  by_cases h1 : c < 1
  · simp [h1, grid_Grid_Check.j0]
  by_cases h2 : d < 1
  · simp [h1, h2, grid_Grid_Check.j0]
  by_cases h3 : e < 1
  · simp [h1, h2, h3, grid_Grid_Check.j0]
  have hdiv : 40000 / e < d ↔ 40000 < d * e := by rw [Int.ediv_lt_iff_lt_mul (by omega)]
  simp only [h1, h2, h3, or_self, if_false]
  by_cases h4 : 40000 < d
  · have : 40000 / e < d := by have : 40000 / e ≤ 40000 := Int.ediv_le_self _ (by omega); omega
    simp [grid_Grid_Check.j0, grid_Grid_Check.j1, h4, this]
  by_cases h5 : 40000 < e
  · have : 40000 / e < d := by rw [Int.ediv_eq_zero_of_lt (by omega) (by omega)]; omega
    simp [grid_Grid_Check.j0, grid_Grid_Check.j1, h4, h5, this]
  have hp : 0 ≤ d * e := Int.mul_nonneg (by omega) (by omega)
  have hq : d * e ≤ 40000 * 40000 := Int.mul_le_mul (by omega) (by omega) (by omega) (by omega)
  have e2 : wrap64 (d * e) = d * e := w64 (by omega) (by omega)
  by_cases h6 : 40000 < d * e
  · have : 40000 / e < d := hdiv.2 h6
    simp [grid_Grid_Check.j0, grid_Grid_Check.j1, h4, h5, e2, h6, this]
  have h7 : ¬ 40000 / e < d := fun h => h6 (hdiv.1 h)
  simp only [grid_Grid_Check.j0, grid_Grid_Check.j1, e2]
  simp only [show ¬ d > 40000 from h4, show ¬ e > 40000 from h5, show ¬ d * e > 40000 from h6, h7, if_false, decide_false, Bool.false_eq_true]
  rw [last_is a c d ha ha' (by omega) (by omega) (by omega), last_is b c e hb hb' (by omega) (by omega) (by omega)]
  cases farB a c (d - 1) <;> cases farB b c (e - 1) <;> rfl

theorem check_any (a b c d e : Int) (ha : -9223372036854775808 ≤ a) (ha' : a ≤ 9223372036854775807) (hb : -9223372036854775808 ≤ b) (hb' : b ≤ 9223372036854775807) (r : Int) (hr : want a b c d e = r) (w : World) :
    Calls Try.prog 11 #[.agg #[.int .i64 a, .int .i64 b, .int .i64 c, .int .i64 d, .int .i64 e]] w fun e w' => e = .returned (.int .i64 r) ∧ Below w.heap.size w w' :=
  grid_Grid_Check.calls 10 a b c d e r w (by rw [check_is 8 a b c d e ha ha' hb hb', hr])

theorem bel_alloc {w0 w : World} (h : Below w0.heap.size w0 w) (o : Obj) : Below w0.heap.size w0 (w.alloc o) := h.alloc h.size o
theorem bel_step {w0 w w' : World} (h : Below w0.heap.size w0 w) (k : Below w.heap.size w w') : Below w0.heap.size w0 w' := h.trans (k.mono h.size)

theorem bel_drewN {w0 w : World} (h : Below w0.heap.size w0 w) (n : Nat) : Below w0.heap.size w0 (w.drewN n) := ⟨h.os, h.tape, h.output, h.size, h.block⟩
set_option maxHeartbeats 1000000 in
theorem law_any (a b c d e : Int) (ha : -9223372036854775808 ≤ a) (ha' : a ≤ 9223372036854775807) (hb : -9223372036854775808 ≤ b) (hb' : b ≤ 9223372036854775807)
    (hd : d ≤ 9223372036854775807) (he : e ≤ 9223372036854775807) (w : World) :
    Calls Try.prog 3 #[.agg #[.int .i64 a, .int .i64 b, .int .i64 c, .int .i64 d, .int .i64 e]] w fun e w' => e = .returned (.bool true) ∧ Below w.heap.size w w' := by
  by_cases h1 : c < 1
  · have hr : want a b c d e = 3 := by unfold want; rw [if_pos (Or.inl h1)]
    have H := Lib.hid hr; clear hr
    go_enter Try.func3, Try.ntmps3
    go_wp2_with (first | (go_at_call 9; refine (fit_any _).mono ?_; rintro e w1 ⟨rfl, hb1⟩; obtain ⟨hc1, hf1⟩ := bcell hb1; have hz1 := hb1.size; simp at hz1) | (go_at_call 11; refine (check_any _ _ _ _ _ ha ha' hb hb' _ H.out _).mono ?_; rintro e w2 ⟨rfl, hb2⟩))
    go_ret
    exact ⟨rfl, bel_step (bel_alloc (bel_step (bel_alloc (Below.refl _ _) _) hb1) _) hb2⟩
  by_cases h2 : d < 1
  · have hr : want a b c d e = 3 := by unfold want; rw [if_pos (by omega)]
    have H := Lib.hid hr; clear hr
    go_enter Try.func3, Try.ntmps3
    go_wp2_with (first | (go_at_call 9; refine (fit_any _).mono ?_; rintro e w1 ⟨rfl, hb1⟩; obtain ⟨hc1, hf1⟩ := bcell hb1; have hz1 := hb1.size; simp at hz1) | (go_at_call 11; refine (check_any _ _ _ _ _ ha ha' hb hb' _ H.out _).mono ?_; rintro e w2 ⟨rfl, hb2⟩))
    go_ret
    exact ⟨rfl, bel_step (bel_alloc (bel_step (bel_alloc (Below.refl _ _) _) hb1) _) hb2⟩
  by_cases h3 : e < 1
  · have hr : want a b c d e = 3 := by unfold want; rw [if_pos (by omega)]
    have H := Lib.hid hr; clear hr
    go_enter Try.func3, Try.ntmps3
    go_wp2_with (first | (go_at_call 9; refine (fit_any _).mono ?_; rintro e w1 ⟨rfl, hb1⟩; obtain ⟨hc1, hf1⟩ := bcell hb1; have hz1 := hb1.size; simp at hz1) | (go_at_call 11; refine (check_any _ _ _ _ _ ha ha' hb hb' _ H.out _).mono ?_; rintro e w2 ⟨rfl, hb2⟩))
    go_ret
    exact ⟨rfl, bel_step (bel_alloc (bel_step (bel_alloc (Below.refl _ _) _) hb1) _) hb2⟩
  by_cases h4 : 40000 / e < d
  · have hr : want a b c d e = 5 := by unfold want; rw [if_neg (by omega), if_pos h4]
    have H := Lib.hid hr; clear hr
    have hq0 : 0 ≤ 40000 / e := Int.ediv_nonneg (by omega) (by omega)
    have hq1 : 40000 / e ≤ 40000 := Int.ediv_le_self _ (by omega)
    go_enter Try.func3, Try.ntmps3
    go_wp2_with (first | (go_at_call 9; refine (fit_any _).mono ?_; rintro e w1 ⟨rfl, hb1⟩; obtain ⟨hc1, hf1⟩ := bcell hb1; have hz1 := hb1.size; simp at hz1) | (go_at_call 11; refine (check_any _ _ _ _ _ ha ha' hb hb' _ H.out _).mono ?_; rintro e w2 ⟨rfl, hb2⟩))
    go_quiet (fail)
    go_wp2_with (first | (go_at_call 9; refine (fit_any _).mono ?_; rintro e w1 ⟨rfl, hb1⟩; obtain ⟨hc1, hf1⟩ := bcell hb1; have hz1 := hb1.size; simp at hz1) | (go_at_call 11; refine (check_any _ _ _ _ _ ha ha' hb hb' _ H.out _).mono ?_; rintro e w2 ⟨rfl, hb2⟩))
    go_ret
    exact ⟨rfl, bel_step (bel_drewN (bel_alloc (bel_step (bel_alloc (Below.refl _ _) _) hb1) _) _) hb2⟩
  have hq0 : 0 ≤ 40000 / e := Int.ediv_nonneg (by omega) (by omega)
  have hq1 : 40000 / e ≤ 40000 := Int.ediv_le_self _ (by omega)
  cases h5 : farB a c (d - 1) with
  | true =>
    have hr : want a b c d e = 4 := by unfold want; rw [if_neg (by omega), if_neg h4, if_pos (Or.inl h5)]
    have H := Lib.hid hr; clear hr
    have H5 := Lib.hid h5; clear h5
    go_enter Try.func3, Try.ntmps3
    go_wp2_with (first | (go_at_call 9; refine (fit_any _).mono ?_; rintro e w1 ⟨rfl, hb1⟩; obtain ⟨hc1, hf1⟩ := bcell hb1; have hz1 := hb1.size; simp at hz1) | (go_at_call 11; refine (check_any _ _ _ _ _ ha ha' hb hb' _ H.out _).mono ?_; rintro e w2 ⟨rfl, hb2⟩))
    go_quiet (fail)
    go_wp2_with (first | (go_at_call 9; refine (fit_any _).mono ?_; rintro e w1 ⟨rfl, hb1⟩; obtain ⟨hc1, hf1⟩ := bcell hb1; have hz1 := hb1.size; simp at hz1) | (go_at_call 11; refine (check_any _ _ _ _ _ ha ha' hb hb' _ H.out _).mono ?_; rintro e w2 ⟨rfl, hb2⟩))
    refine (far_any _ _ _ _).mono ?_; rw [H5.out]; rintro e w3 ⟨rfl, rfl⟩
    go_wp2_with (first | (go_at_call 9; refine (fit_any _).mono ?_; rintro e w1 ⟨rfl, hb1⟩; obtain ⟨hc1, hf1⟩ := bcell hb1; have hz1 := hb1.size; simp at hz1) | (go_at_call 11; refine (check_any _ _ _ _ _ ha ha' hb hb' _ H.out _).mono ?_; rintro e w2 ⟨rfl, hb2⟩))
    go_ret
    exact ⟨rfl, bel_step (bel_drewN (bel_alloc (bel_step (bel_alloc (Below.refl _ _) _) hb1) _) _) hb2⟩
  | false =>
    have H5 := Lib.hid h5
    cases h6 : farB b c (e - 1) with
    | true =>
      have hr : want a b c d e = 4 := by unfold want; rw [if_neg (by omega), if_neg h4, if_pos (Or.inr h6)]
      have H := Lib.hid hr; clear hr
      have H6 := Lib.hid h6; clear h6 h5
      go_enter Try.func3, Try.ntmps3
      go_wp2_with (first | (go_at_call 9; refine (fit_any _).mono ?_; rintro e w1 ⟨rfl, hb1⟩; obtain ⟨hc1, hf1⟩ := bcell hb1; have hz1 := hb1.size; simp at hz1) | (go_at_call 11; refine (check_any _ _ _ _ _ ha ha' hb hb' _ H.out _).mono ?_; rintro e w2 ⟨rfl, hb2⟩))
      go_quiet (fail)
      go_wp2_with (first | (go_at_call 9; refine (fit_any _).mono ?_; rintro e w1 ⟨rfl, hb1⟩; obtain ⟨hc1, hf1⟩ := bcell hb1; have hz1 := hb1.size; simp at hz1) | (go_at_call 11; refine (check_any _ _ _ _ _ ha ha' hb hb' _ H.out _).mono ?_; rintro e w2 ⟨rfl, hb2⟩))
      refine (far_any _ _ _ _).mono ?_; rw [H5.out]; rintro e w3 ⟨rfl, rfl⟩
      go_wp2_with (first | (go_at_call 9; refine (fit_any _).mono ?_; rintro e w1 ⟨rfl, hb1⟩; obtain ⟨hc1, hf1⟩ := bcell hb1; have hz1 := hb1.size; simp at hz1) | (go_at_call 11; refine (check_any _ _ _ _ _ ha ha' hb hb' _ H.out _).mono ?_; rintro e w2 ⟨rfl, hb2⟩))
      refine (far_any _ _ _ _).mono ?_; rw [H6.out]; rintro e w4 ⟨rfl, rfl⟩
      go_wp2_with (first | (go_at_call 9; refine (fit_any _).mono ?_; rintro e w1 ⟨rfl, hb1⟩; obtain ⟨hc1, hf1⟩ := bcell hb1; have hz1 := hb1.size; simp at hz1) | (go_at_call 11; refine (check_any _ _ _ _ _ ha ha' hb hb' _ H.out _).mono ?_; rintro e w2 ⟨rfl, hb2⟩))
      go_ret
      exact ⟨rfl, bel_step (bel_drewN (bel_alloc (bel_step (bel_alloc (Below.refl _ _) _) hb1) _) _) hb2⟩
    | false =>
      have hr : want a b c d e = 0 := by unfold want; rw [if_neg (by omega), if_neg h4, if_neg (by simp [h5, h6])]
      have H := Lib.hid hr; clear hr
      have H6 := Lib.hid h6; clear h6 h5
      go_enter Try.func3, Try.ntmps3
      go_wp2_with (first | (go_at_call 9; refine (fit_any _).mono ?_; rintro e w1 ⟨rfl, hb1⟩; obtain ⟨hc1, hf1⟩ := bcell hb1; have hz1 := hb1.size; simp at hz1) | (go_at_call 11; refine (check_any _ _ _ _ _ ha ha' hb hb' _ H.out _).mono ?_; rintro e w2 ⟨rfl, hb2⟩))
      go_quiet (fail)
      go_wp2_with (first | (go_at_call 9; refine (fit_any _).mono ?_; rintro e w1 ⟨rfl, hb1⟩; obtain ⟨hc1, hf1⟩ := bcell hb1; have hz1 := hb1.size; simp at hz1) | (go_at_call 11; refine (check_any _ _ _ _ _ ha ha' hb hb' _ H.out _).mono ?_; rintro e w2 ⟨rfl, hb2⟩))
      refine (far_any _ _ _ _).mono ?_; rw [H5.out]; rintro e w3 ⟨rfl, rfl⟩
      go_wp2_with (first | (go_at_call 9; refine (fit_any _).mono ?_; rintro e w1 ⟨rfl, hb1⟩; obtain ⟨hc1, hf1⟩ := bcell hb1; have hz1 := hb1.size; simp at hz1) | (go_at_call 11; refine (check_any _ _ _ _ _ ha ha' hb hb' _ H.out _).mono ?_; rintro e w2 ⟨rfl, hb2⟩))
      refine (far_any _ _ _ _).mono ?_; rw [H6.out]; rintro e w4 ⟨rfl, rfl⟩
      go_wp2_with (first | (go_at_call 9; refine (fit_any _).mono ?_; rintro e w1 ⟨rfl, hb1⟩; obtain ⟨hc1, hf1⟩ := bcell hb1; have hz1 := hb1.size; simp at hz1) | (go_at_call 11; refine (check_any _ _ _ _ _ ha ha' hb hb' _ H.out _).mono ?_; rintro e w2 ⟨rfl, hb2⟩))
      go_ret
      exact ⟨rfl, bel_step (bel_drewN (bel_alloc (bel_step (bel_alloc (Below.refl _ _) _) hb1) _) _) hb2⟩
end Gc
end Go.Proofs.Ytdihefgleefhmaa
