/- Whole numbers of 128 bits: sums, signs, determinants. -/
import Derived.Test.YtdihefgleefhmaaWd
import Derived.Laws.StructEq
namespace Go.Proofs.Ytdihefgleefhmaa
open Go.RowKit
namespace Wd
set_option maxRecDepth 100000 in
theorem eq88 (a b c d : Int) (w : World) : (Op.equalIn 10000 88 (.agg #[.int .u64 a, .int .u64 b]) (.agg #[.int .u64 c, .int .u64 d])).run Try.prog w = .ok (a == c && b == d) w := by
  have u3 := Try.underlying86
  have a3 := Try.isAgg86
  have z3 := Try.sizeOf86
  have hS : Try.prog.underlying 88 = some (.struct (Try.prog.fieldsOf 88)) := by kernel_rfl
  rw [show (10000 : Nat) = 9999 + 1 from rfl, run_equalIn_agg w 9999 88 _ _ hS (by kernel_rfl)]
  simp only [Program.fieldsOf, Try.underlying88]
  go_simp
  by_cases h1 : a = c <;> by_cases h2 : b = d <;> simp [h1, h2]
attribute [local go_sem] eq88
theorem sign_pos (n : Int) (h : Fits n) (h1 : 0 < n) : (hi n == 0) = false ∨ (hi n = 0 ∧ (lo n == 0) = false) := by
  unfold Fits at h
  unfold hi lo
  simp only [beq_eq_false_iff_ne]
  omega
set_option maxHeartbeats 1000000 in
theorem sign_wv (n : Int) (w : World) (h : Fits n) : Calls Try.prog 51 #[wv n] w fun e w' => e = .returned (.int .i64 n.sign) ∧ Below w.heap.size w w' := by
  have hm := fun w => minus_wv n h _ rfl w
  rcases Int.lt_trichotomy n 0 with h1 | h1 | h1
  · rw [decide_eq_true h1] at hm
    have HM := Lib.hid hm
    rw [Int.sign_eq_neg_one_of_neg h1]
    clear hm
    go_enter Try.func51, Try.ntmps51
    go_wp2_with (go_at_call 71; refine (HM.out _).mono ?_; rintro e w1 ⟨rfl, hb1⟩)
    go_ret
    exact ⟨rfl, bel_step (bel_alloc (bel_refl _) _) hb1⟩
  · subst h1
    have HM := Lib.hid hm
    have e1 : hi 0 = 0 := rfl
    have e2 : lo 0 = 0 := rfl
    simp only [wv, e1, e2] at HM ⊢
    clear hm e1 e2
    go_enter Try.func51, Try.ntmps51
    go_wp2_with (go_at_call 71; refine (HM.out _).mono ?_; rintro e w1 ⟨rfl, hb1⟩; obtain ⟨k0, k1, k2, k3⟩ := ((Blk.new w 88 #[.int .u64 0, .int .u64 0]).later hb1).two; have HB := Lib.hid hb1; clear hb1)
    go_ret
    exact ⟨rfl, bel_step (bel_alloc (bel_refl _) _) HB.out⟩
  · rw [decide_eq_false (by omega : ¬ n < 0)] at hm
    have HM := Lib.hid hm
    rw [Int.sign_eq_one_of_pos h1]
    clear hm
    rcases sign_pos n h h1 with hs | ⟨hs, ht⟩
    · go_enter Try.func51, Try.ntmps51
      go_wp2_with (go_at_call 71; refine (HM.out _).mono ?_; rintro e w1 ⟨rfl, hb1⟩; obtain ⟨k0, k1, k2, k3⟩ := ((Blk.new w 88 #[.int .u64 (hi n), .int .u64 (lo n)]).later hb1).two; have HB := Lib.hid hb1; clear hb1)
      go_ret
      exact ⟨rfl, bel_step (bel_alloc (bel_refl _) _) HB.out⟩
    · simp only [wv, hs] at HM ⊢
      clear hs
      go_enter Try.func51, Try.ntmps51
      go_wp2_with (go_at_call 71; refine (HM.out _).mono ?_; rintro e w1 ⟨rfl, hb1⟩; obtain ⟨k0, k1, k2, k3⟩ := ((Blk.new w 88 #[.int .u64 0, .int .u64 (lo n)]).later hb1).two; have HB := Lib.hid hb1; clear hb1)
      go_ret
      exact ⟨rfl, bel_step (bel_alloc (bel_refl _) _) HB.out⟩
set_option maxHeartbeats 1000000 in
theorem det_wv (a b c d : Int) (w : World) (a0 : -9223372036854775808 ≤ a) (a1 : a ≤ 9223372036854775807) (b0 : -9223372036854775808 ≤ b) (b1 : b ≤ 9223372036854775807) (c0 : -9223372036854775808 ≤ c) (c1 : c ≤ 9223372036854775807) (d0 : -9223372036854775808 ≤ d) (d1 : d ≤ 9223372036854775807)
    (h1 : Fits (a * d)) (h2 : Fits (b * c)) (h3 : Fits (a * d - b * c)) :
    Calls Try.prog 47 #[.int .i64 a, .int .i64 b, .int .i64 c, .int .i64 d] w fun e w' => e = .returned (wv (a * d - b * c)) ∧ Below w.heap.size w w' := by
  have m1 := fun w => mul_wv a d w a0 a1 d0 d1
  have m2 := fun w => mul_wv b c w b0 b1 c0 c1
  generalize a * d = x at *
  generalize b * c = y at *
  have m3 := fun w => sub_wv x y w h1 h2 h3
  generalize x - y = z at *
  have M1 := Lib.hid m1
  have M2 := Lib.hid m2
  have M3 := Lib.hid m3
  clear m1 m2 m3 h1 h2 h3 a0 a1 b0 b1 c0 c1 d0 d1
  go_enter Try.func47, Try.ntmps47
  go_wp2_with fail
  refine (M1.out _).mono ?_
  rintro e w1 ⟨rfl, hb1⟩
  have K1 := Lib.hid ((Blk.new w 88 #[.int .u64 0, .int .u64 0]).later hb1)
  have HB1 := Lib.hid (bel_step (bel_alloc (bel_refl w) _) hb1)
  clear hb1
  go_wp2_with fail
  refine (M2.out _).mono ?_
  rintro e w2 ⟨rfl, hb2⟩
  have K2 := Lib.hid (K1.out.later hb2)
  have HB2 := Lib.hid (bel_step HB1.out hb2)
  clear hb2
  go_wp2_with fail
  refine (M3.out _).mono ?_
  rintro e w3 ⟨rfl, hb3⟩
  have K3 := Lib.hid ((K2.out.later hb3).alloc (.cells #[.int .u64 (hi z), .int .u64 (lo z)] 88))
  have HB3 := Lib.hid (bel_step HB2.out hb3)
  obtain ⟨k0, k1, k2, k3⟩ := K3.out.two
  obtain ⟨n0, n1, _, _⟩ := K3.out.two_set (u := .int .u64 (hi z)) (v := .int .u64 (lo z))
  clear hb3
  go_wp2
  exact bodyPost_ret (v := wv z) (by simp [results, Try.results47, go_sem, n0, n1]) rfl ⟨rfl, bel_set (bel_set (bel_alloc HB3.out _) (Nat.le_refl _) _ _) (Nat.le_refl _) _ _⟩
end Wd
end Go.Proofs.Ytdihefgleefhmaa
