/- The quick test of four points on a circle. -/
import Derived.Test.YtdihefgleefhmaaWt
namespace Go.Proofs.Ytdihefgleefhmaa
open Go.RowKit
/-- the determinant of three rows (a, b, a² + b²). -/
def incDet (a b c d e f : Int) : Int := (c * f - d * e) * (a * a + b * b) + (e * b - f * a) * (c * c + d * d) + (a * d - b * c) * (e * e + f * f)
namespace Qk
open Wd
def small (x : Int) : Prop := -1073741824 ≤ x ∧ x ≤ 1073741824
theorem mul_bd {x y A B : Int} (hx0 : -A ≤ x) (hx : x ≤ A) (hy0 : -B ≤ y) (hy : y ≤ B) : -(A * B) ≤ x * y ∧ x * y ≤ A * B := by
 have h1 : x.natAbs ≤ A.natAbs := by omega
 have h2 : y.natAbs ≤ B.natAbs := by omega
 have h3 := Nat.mul_le_mul h1 h2
 rw [← Int.natAbs_mul, ← Int.natAbs_mul] at h3
 have h4 : ((A * B).natAbs : Int) = A * B := Int.natAbs_of_nonneg (Int.mul_nonneg (by omega) (by omega))
 omega
theorem sq_bd {x A : Int} (hx0 : -A ≤ x) (hx : x ≤ A) : 0 ≤ x * x ∧ x * x ≤ A * A := by
 have h1 : x.natAbs ≤ A.natAbs := by omega
 have h3 := Nat.mul_le_mul h1 h1
 rw [← Int.natAbs_mul, ← Int.natAbs_mul] at h3
 have h4 : ((A * A).natAbs : Int) = A * A := Int.natAbs_of_nonneg (Int.mul_nonneg (by omega) (by omega))
 have h5 : 0 ≤ x * x := by
  rcases Int.le_total 0 x with h | h
  ·exact Int.mul_nonneg h h
  ·exact Int.mul_nonneg_of_nonpos_of_nonpos h h
 omega
/-- one of the three products. -/
theorem term (a b c d e f : Int) (ha : small a) (hb : small b) (hc : small c) (hd : small d) (he : small e) (hf : small f) :
  (-1152921504606846976 ≤ c * f ∧ c * f ≤ 1152921504606846976) ∧ (-1152921504606846976 ≤ d * e ∧ d * e ≤ 1152921504606846976) ∧ (0 ≤ a * a ∧ a * a ≤ 1152921504606846976) ∧ (0 ≤ b * b ∧ b * b ≤ 1152921504606846976) ∧
  (-5316911983139663491615228241121378304 ≤ (c * f - d * e) * (a * a + b * b) ∧ (c * f - d * e) * (a * a + b * b) ≤ 5316911983139663491615228241121378304) := by
 unfold small at *
 have h1 := mul_bd (A := 1073741824) (B := 1073741824) hc.1 hc.2 hf.1 hf.2
 have h2 := mul_bd (A := 1073741824) (B := 1073741824) hd.1 hd.2 he.1 he.2
 have h3 := sq_bd (A := 1073741824) ha.1 ha.2
 have h4 := sq_bd (A := 1073741824) hb.1 hb.2
 have h5 := mul_bd (A := 2305843009213693952) (B := 2305843009213693952) (x := c * f - d * e) (y := a * a + b * b) (by omega) (by omega) (by omega) (by omega)
 refine ⟨by omega, by omega, by omega, by omega, by omega⟩
theorem wrap_in (x : Int) (h0 : -9223372036854775808 ≤ x) (h1 : x ≤ 9223372036854775807) : IntKind.i64.wrap x = x := IntWalk.i64_in x ⟨h0, h1⟩
set_option maxHeartbeats 2000000 in
set_option maxRecDepth 100000 in
theorem quick_any (a b c d e f : Int) (w : World) (ha : small a) (hb : small b) (hc : small c) (hd : small d) (he : small e) (hf : small f) :
  Calls Try.prog 41 #[.int .i64 a, .int .i64 b, .int .i64 c, .int .i64 d, .int .i64 e, .int .i64 f] w fun r w' => r = .returned (.int .i64 (incDet a b c d e f).sign) ∧ Below w.heap.size w w' := by
 obtain ⟨p1, p2, p3, p4, p5⟩ := term a b c d e f ha hb hc hd he hf
 obtain ⟨q1, q2, q3, q4, q5⟩ := term c d e f a b hc hd he hf ha hb
 obtain ⟨r1, r2, r3, r4, r5⟩ := term e f a b c d he hf ha hb hc hd
 unfold small at *
 have d1 := fun w => det_wv c d e f w (by omega) (by omega) (by omega) (by omega) (by omega) (by omega) (by omega) (by omega) (by unfold Fits; omega) (by unfold Fits; omega) (by unfold Fits; omega)
 have d2 := fun w => det_wv e f a b w (by omega) (by omega) (by omega) (by omega) (by omega) (by omega) (by omega) (by omega) (by unfold Fits; omega) (by unfold Fits; omega) (by unfold Fits; omega)
 have d3 := fun w => det_wv a b c d w (by omega) (by omega) (by omega) (by omega) (by omega) (by omega) (by omega) (by omega) (by unfold Fits; omega) (by unfold Fits; omega) (by unfold Fits; omega)
 have e1 : Fits (c * f - d * e) := by unfold Fits; omega
 have e2 : Fits (e * b - f * a) := by unfold Fits; omega
 have e3 : Fits (a * d - b * c) := by unfold Fits; omega
 have t1 := fun w => times_wv (c * f - d * e) (a * a + b * b) w e1 (by omega) (by omega) (by rw [← Int.natAbs_mul]; omega)
 have t2 := fun w => times_wv (e * b - f * a) (c * c + d * d) w e2 (by omega) (by omega) (by rw [← Int.natAbs_mul]; omega)
 have t3 := fun w => times_wv (a * d - b * c) (e * e + f * f) w e3 (by omega) (by omega) (by rw [← Int.natAbs_mul]; omega)
 have wab : IntKind.i64.wrap (a * a + b * b) = a * a + b * b := wrap_in _ (by omega) (by omega)
 have wcd : IntKind.i64.wrap (c * c + d * d) = c * c + d * d := wrap_in _ (by omega) (by omega)
 have wef : IntKind.i64.wrap (e * e + f * f) = e * e + f * f := wrap_in _ (by omega) (by omega)
 have wa := wrap_in (a * a) (by omega) (by omega)
 have wb := wrap_in (b * b) (by omega) (by omega)
 have wc := wrap_in (c * c) (by omega) (by omega)
 have wd := wrap_in (d * d) (by omega) (by omega)
 have we := wrap_in (e * e) (by omega) (by omega)
 have wf := wrap_in (f * f) (by omega) (by omega)
 have s1 := fun w => add_wv ((c * f - d * e) * (a * a + b * b)) ((e * b - f * a) * (c * c + d * d)) w (by unfold Fits; omega) (by unfold Fits; omega) (by unfold Fits; omega)
 have s2 := fun w => add_wv ((c * f - d * e) * (a * a + b * b) + (e * b - f * a) * (c * c + d * d)) ((a * d - b * c) * (e * e + f * f)) w (by unfold Fits; omega) (by unfold Fits; omega) (by unfold Fits; omega)
 have sg := fun w => sign_wv ((c * f - d * e) * (a * a + b * b) + (e * b - f * a) * (c * c + d * d) + (a * d - b * c) * (e * e + f * f)) w (by unfold Fits; omega)
 have hz : (incDet a b c d e f) = (c * f - d * e) * (a * a + b * b) + (e * b - f * a) * (c * c + d * d) + (a * d - b * c) * (e * e + f * f) := rfl
 rw [hz]
 clear hz p1 p2 p3 p4 p5 q1 q2 q3 q4 q5 r1 r2 r3 r4 r5 e1 e2 e3 ha hb hc hd he hf
 generalize (c * f - d * e) * (a * a + b * b) + (e * b - f * a) * (c * c + d * d) + (a * d - b * c) * (e * e + f * f) = z at d1 d2 d3 t1 t2 t3 s1 s2 sg ⊢
 generalize (c * f - d * e) * (a * a + b * b) + (e * b - f * a) * (c * c + d * d) = y at d1 d2 d3 t1 t2 t3 s1 s2 sg ⊢
 generalize (c * f - d * e) * (a * a + b * b) = y1 at d1 d2 d3 t1 t2 t3 s1 s2 sg ⊢
 generalize (e * b - f * a) * (c * c + d * d) = y2 at d1 d2 d3 t1 t2 t3 s1 s2 sg ⊢
 generalize (a * d - b * c) * (e * e + f * f) = y3 at d1 d2 d3 t1 t2 t3 s1 s2 sg ⊢
 generalize c * f - d * e = x1 at d1 d2 d3 t1 t2 t3 s1 s2 sg ⊢
 generalize e * b - f * a = x2 at d1 d2 d3 t1 t2 t3 s1 s2 sg ⊢
 generalize a * d - b * c = x3 at d1 d2 d3 t1 t2 t3 s1 s2 sg ⊢
 simp only [wv] at d1 d2 d3 t1 t2 t3 s1 s2 sg
 generalize z.sign = sz at d1 d2 d3 t1 t2 t3 s1 s2 sg ⊢
 generalize hi z = hz at d1 d2 d3 t1 t2 t3 s1 s2 sg ⊢
 generalize lo z = lz at d1 d2 d3 t1 t2 t3 s1 s2 sg ⊢
 generalize hi y = hy at d1 d2 d3 t1 t2 t3 s1 s2 sg ⊢
 generalize lo y = ly at d1 d2 d3 t1 t2 t3 s1 s2 sg ⊢
 generalize hi y1 = hy1 at d1 d2 d3 t1 t2 t3 s1 s2 sg ⊢
 generalize lo y1 = ly1 at d1 d2 d3 t1 t2 t3 s1 s2 sg ⊢
 generalize hi y2 = hy2 at d1 d2 d3 t1 t2 t3 s1 s2 sg ⊢
 generalize lo y2 = ly2 at d1 d2 d3 t1 t2 t3 s1 s2 sg ⊢
 generalize hi y3 = hy3 at d1 d2 d3 t1 t2 t3 s1 s2 sg ⊢
 generalize lo y3 = ly3 at d1 d2 d3 t1 t2 t3 s1 s2 sg ⊢
 generalize hi x1 = hx1 at d1 d2 d3 t1 t2 t3 s1 s2 sg ⊢
 generalize lo x1 = lx1 at d1 d2 d3 t1 t2 t3 s1 s2 sg ⊢
 generalize hi x2 = hx2 at d1 d2 d3 t1 t2 t3 s1 s2 sg ⊢
 generalize lo x2 = lx2 at d1 d2 d3 t1 t2 t3 s1 s2 sg ⊢
 generalize hi x3 = hx3 at d1 d2 d3 t1 t2 t3 s1 s2 sg ⊢
 generalize lo x3 = lx3 at d1 d2 d3 t1 t2 t3 s1 s2 sg ⊢
 have D1 := Lib.hid d1
 have D2 := Lib.hid d2
 have D3 := Lib.hid d3
 have T1 := Lib.hid t1
 have T2 := Lib.hid t2
 have T3 := Lib.hid t3
 have S1 := Lib.hid s1
 have S2 := Lib.hid s2
 have SG := Lib.hid sg
 clear d1 d2 d3 t1 t2 t3 s1 s2 sg
 go_enter Try.func41, Try.ntmps41
 go_upto_region 2 with (first | (go_at_call 47; refine (D1.out _).mono ?_; rintro e w1 ⟨rfl, hb1⟩; have HB1 := Lib.hid hb1; clear hb1) | (go_at_call 65; refine (T1.out _).mono ?_; rintro e w2 ⟨rfl, hb2⟩; have HB2 := Lib.hid (bel_step HB1.out hb2); clear hb2))
 have K1 := Lib.hid (Blk.new w2 88 #[.int .u64 hy1, .int .u64 ly1])
 have G1 := Lib.hid (bel_alloc HB2.out (.cells #[.int .u64 hy1, .int .u64 ly1] 88))
 have hn1 : w.heap.size ≤ w2.heap.size := HB2.out.size
 obtain ⟨W1, hW1⟩ : ∃ W, w2.alloc (.cells #[.int .u64 hy1, .int .u64 ly1] 88) = W := ⟨_, rfl⟩
 obtain ⟨B1, hB1⟩ : ∃ B, w2.heap.size = B := ⟨_, rfl⟩
 rw [hW1] at K1 G1 ⊢
 rw [hB1] at K1 hn1 ⊢
 clear hW1 hB1
 go_upto_region 3 with (first | (go_at_call 47; refine (D2.out _).mono ?_; rintro e w3 ⟨rfl, hb1⟩; have HB3 := Lib.hid hb1; clear hb1) | (go_at_call 65; refine (T2.out _).mono ?_; rintro e w4 ⟨rfl, hb2⟩; have HB4 := Lib.hid (bel_step HB3.out hb2); clear hb2))
 have K2 := Lib.hid (Blk.new w4 88 #[.int .u64 hy2, .int .u64 ly2])
 have HA4 := Lib.hid (bel_alloc HB4.out (.cells #[.int .u64 hy2, .int .u64 ly2] 88))
 obtain ⟨W2, hW2⟩ : ∃ W, w4.alloc (.cells #[.int .u64 hy2, .int .u64 ly2] 88) = W := ⟨_, rfl⟩
 have hlt : B1 < w4.heap.size := Nat.lt_of_lt_of_le K1.out.lt HB4.out.size
 obtain ⟨B2, hB2⟩ : ∃ B, w4.heap.size = B := ⟨_, rfl⟩
 rw [hW2] at K2 HA4 ⊢
 rw [hB2] at K2 hlt ⊢
 have G2 := Lib.hid (bel_step G1.out HA4.out)
 have K1' := Lib.hid (K1.out.later HA4.out)
 clear hW2 hB2
 go_upto_region 4 with (first | (go_at_call 47; refine (D3.out _).mono ?_; rintro e w5 ⟨rfl, hb1⟩; have HB5 := Lib.hid hb1; clear hb1) | (go_at_call 65; refine (T3.out _).mono ?_; rintro e w6 ⟨rfl, hb2⟩; have HB6 := Lib.hid (bel_step HB5.out hb2); clear hb2))
 have K3 := Lib.hid (Blk.new w6 88 #[.int .u64 hy3, .int .u64 ly3])
 have HA6 := Lib.hid (bel_alloc HB6.out (.cells #[.int .u64 hy3, .int .u64 ly3] 88))
 obtain ⟨W3, hW3⟩ : ∃ W, w6.alloc (.cells #[.int .u64 hy3, .int .u64 ly3] 88) = W := ⟨_, rfl⟩
 have hlt3 : B2 < w6.heap.size := Nat.lt_of_lt_of_le K2.out.lt HB6.out.size
 obtain ⟨B3, hB3⟩ : ∃ B, w6.heap.size = B := ⟨_, rfl⟩
 rw [hW3] at K3 HA6 ⊢
 rw [hB3] at K3 hlt3 ⊢
 have G3 := Lib.hid (bel_step G2.out HA6.out)
 have L1 := Lib.hid (K1'.out.later HA6.out)
 have L2 := Lib.hid (K2.out.later HA6.out)
 clear hW3 hB3
 obtain ⟨a0, a1, _, _⟩ := L1.out.two
 obtain ⟨a2, a3, _, _⟩ := L2.out.two
 go_upto_region 5 with (go_at_call 66; refine (S1.out _).mono ?_; rintro e w7 ⟨rfl, hb1⟩; have M1 := Lib.hid (L1.out.later hb1); have M3 := Lib.hid (K3.out.later hb1); have G4 := Lib.hid (bel_step G3.out hb1); clear hb1 a0 a1 a2 a3; obtain ⟨b0, b1, b2, b3⟩ := M1.out.two; obtain ⟨c0, c1, c2, c3⟩ := M1.out.two_set (u := .int .u64 hy) (v := .int .u64 ly))
 have N1 := Lib.hid ((M1.out.set 0 (.int .u64 hy)).set 1 (.int .u64 ly))
 have N3 := Lib.hid ((M3.out.other (c := B1) (by omega) 0 (.int .u64 hy)).other (c := B1) (by omega) 1 (.int .u64 ly))
 have G5 := Lib.hid (bel_set (bel_set G4.out hn1 0 (.int .u64 hy)) hn1 1 (.int .u64 ly))
 obtain ⟨W4, hW4⟩ : ∃ W, (w7.setCell ⟨B1, 0, none⟩ (.int .u64 hy)).setCell ⟨B1, 1, none⟩ (.int .u64 ly) = W := ⟨_, rfl⟩
 rw [hW4] at N1 N3 G5 ⊢
 clear hW4 b0 b1 b2 b3 c0 c1 c2 c3
 obtain ⟨a0, a1, _, _⟩ := Blk.two (x := .int .u64 hy) (y := .int .u64 ly) N1.out
 obtain ⟨a2, a3, _, _⟩ := N3.out.two
 go_upto_region 6 with (go_at_call 66; refine (S2.out _).mono ?_; rintro e w8 ⟨rfl, hb1⟩; have M1' := Lib.hid (Blk.later (cs := #[.int .u64 hy, .int .u64 ly]) N1.out hb1); have G6 := Lib.hid (bel_step G5.out hb1); clear hb1 a0 a1 a2 a3; obtain ⟨b0, b1, b2, b3⟩ := M1'.out.two; obtain ⟨c0, c1, c2, c3⟩ := M1'.out.two_set (u := .int .u64 hz) (v := .int .u64 lz))
 have G7 := Lib.hid (bel_set (bel_set G6.out hn1 0 (.int .u64 hz)) hn1 1 (.int .u64 lz))
 go_wp2_with (go_at_call 51; refine (SG.out _).mono ?_; rintro e w9 ⟨rfl, hb1⟩; have G8 := Lib.hid (bel_step G7.out hb1); clear hb1)
 go_ret
 exact ⟨rfl, G8.out⟩
end Qk
end Go.Proofs.Ytdihefgleefhmaa
