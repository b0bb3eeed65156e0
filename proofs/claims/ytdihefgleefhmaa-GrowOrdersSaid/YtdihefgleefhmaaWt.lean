/- Whole numbers of 128 bits: a product with a number of 64 bits. -/
import Derived.Test.YtdihefgleefhmaaWf
import Derived.Test.YtdihefgleefhmaaGq
namespace Go.Proofs.Ytdihefgleefhmaa
open Go.RowKit
namespace Wd
attribute [local go_sem] eq88
/-- the words of a product of a number of two words and one of one word. -/
theorem times_words (a k : Nat) (hp : a * k ≤ 170141183460469231731687303715884105727) :
  (a / 18446744073709551616 * k / 18446744073709551616 = 0) ∧
  (a / 18446744073709551616 * k % 18446744073709551616 + a % 18446744073709551616 * k / 18446744073709551616 + 0) / 18446744073709551616 = 0 ∧
  (a / 18446744073709551616 * k % 18446744073709551616 + a % 18446744073709551616 * k / 18446744073709551616 + 0) % 18446744073709551616 = a * k / 18446744073709551616 % 18446744073709551616 ∧
  a % 18446744073709551616 * k % 18446744073709551616 = a * k % 18446744073709551616 := by
 obtain ⟨h, l, e, hl⟩ : ∃ h l, a = h * 18446744073709551616 + l ∧ l < 18446744073709551616 := ⟨a / 18446744073709551616, a % 18446744073709551616, by omega, by omega⟩
 have e1 : a / 18446744073709551616 = h := by omega
 have e2 : a % 18446744073709551616 = l := by omega
 rw [e1, e2]
 have e3 : a * k = (h * k) * 18446744073709551616 + l * k := by rw [e, Nat.add_mul]; congr 1; rw [Nat.mul_right_comm]
 rw [e3] at hp ⊢
 generalize h * k = x at hp ⊢
 generalize l * k = y at hp ⊢
 omega
/-- what the two word products and their sum are. -/
theorem times_steps (a k : Nat) (hp : a * k ≤ 170141183460469231731687303715884105727) (ha : a ≤ 170141183460469231731687303715884105728) (hk : k ≤ 9223372036854775808) :
  ∃ P2 P3 : Int, (∀ w, Calls Try.prog 73 #[.int .u64 (hi (a : Int)), .int .u64 (k : Int)] w fun e w' => e = .returned (.tuple #[.int .u64 0, .int .u64 P2]) ∧ w = w') ∧
   (∀ w, Calls Try.prog 73 #[.int .u64 (lo (a : Int)), .int .u64 (k : Int)] w fun e w' => e = .returned (.tuple #[.int .u64 P3, .int .u64 (lo ((a * k : Nat) : Int))]) ∧ w = w') ∧
   (∀ w, (callFunc 88 #[.int .u64 P2, .int .u64 P3, .int .u64 0]).run Try.prog w = .ok (.value (.tuple #[.int .u64 (hi ((a * k : Nat) : Int)), .int .u64 0])) w) := by
 obtain ⟨h1, h2, h3, h4⟩ := times_words a k hp
 have e1 : hi (a : Int) = ((a / 18446744073709551616 : Nat) : Int) := by unfold hi; omega
 have e2 : lo (a : Int) = ((a % 18446744073709551616 : Nat) : Int) := by unfold lo; omega
 have e3 : hi ((a * k : Nat) : Int) = ((a * k / 18446744073709551616 % 18446744073709551616 : Nat) : Int) := by unfold hi; generalize a * k = p; omega
 have e4 : lo ((a * k : Nat) : Int) = ((a * k % 18446744073709551616 : Nat) : Int) := by unfold lo; generalize a * k = p; omega
 have m1 := mul64_all (a / 18446744073709551616) k (by omega) (by omega)
 have m2 := mul64_all (a % 18446744073709551616) k (by omega) (by omega)
 rw [h1] at m1
 rw [h4] at m2
 rw [e1, e2, e3, e4]
 refine ⟨_, _, m1, m2, fun w => add64' _ _ 0 _ 0 (by omega) (by omega) (by omega) (by omega) ?_ ?_ w⟩
 ·rw [← h3]; omega
 ·omega
structure Tl (w W : World) (x y : Int) : Prop where
 a : Blk W w.heap.size 88 #[.int .u64 x, .int .u64 y]
 r : Blk W (w.heap.size + 1) 88 #[.int .u64 0, .int .u64 0]
 bel : Below w.heap.size w W
theorem Tl.later {w W W' : World} {x y : Int} (h : Tl w W x y) (hb : Below W.heap.size W W') : Tl w W' x y := ⟨h.a.later hb, h.r.later hb, bel_step h.bel hb⟩
theorem Tl.store {w W : World} {x y : Int} (h : Tl w W x y) (x' y' : Int) : Tl w ((W.setCell ⟨w.heap.size, 0, none⟩ (.int .u64 x')).setCell ⟨w.heap.size, 1, none⟩ (.int .u64 y')) x' y' :=
 ⟨(h.a.set 0 _).set 1 _, (h.r.other (by omega) _ _).other (by omega) _ _, bel_set (bel_set h.bel (Nat.le_refl _) _ _) (Nat.le_refl _) _ _⟩
theorem Tl.put {w W : World} {x y : Int} {B : Nat} (h : Tl w W x y) (hB : w.heap.size + 2 ≤ B) (u v : Value) : Tl w ((W.setCell ⟨B, 0, none⟩ u).setCell ⟨B, 1, none⟩ v) x y :=
 ⟨(h.a.other (by omega) _ _).other (by omega) _ _, (h.r.other (by omega) _ _).other (by omega) _ _, bel_set (bel_set h.bel (by omega) _ _) (by omega) _ _⟩
theorem tl_new (w : World) (x y : Int) : Tl w ((w.alloc (.cells #[.int .u64 x, .int .u64 y] 88)).alloc (.cells #[.int .u64 0, .int .u64 0] 88)) x y :=
 ⟨(Blk.new w 88 _).alloc _, Blk.new' _ 88 _ (by simp), bel_alloc (bel_alloc (bel_refl w) _) _⟩
set_option maxHeartbeats 2000000 in
set_option maxRecDepth 100000 in
theorem times_wv (n m : Int) (w : World) (hn : Fits n) (m0 : -9223372036854775808 ≤ m) (m1 : m ≤ 9223372036854775807) (hp : n.natAbs * m.natAbs ≤ 170141183460469231731687303715884105727) :
  Calls Try.prog 65 #[wv n, .int .i64 m] w fun e w' => e = .returned (.tuple #[wv (n * m), .bool true]) ∧ Below w.heap.size w w' := by
 have hb : n.natAbs ≤ 170141183460469231731687303715884105728 := by unfold Fits at hn; omega
 obtain ⟨P2, P3, hM1, hM2, hA⟩ := times_steps n.natAbs m.natAbs hp hb (by omega)
 have hAB := fun w => abs_any m w m0 m1
 have hcase := natAbs_mul_cases n m
 have h71 := fun w => minus_wv n hn _ rfl w
 have h72 := fun w => turn_wv n w
 obtain ⟨k, hk⟩ : ∃ k : Int, (m.natAbs : Int) = k := ⟨_, rfl⟩
 rw [hk] at hM1 hM2 hAB
 generalize hpe : n.natAbs * m.natAbs = p at *
 have hfp : Fits (p : Int) := by unfold Fits; omega
 have hfn : Fits (-(p : Int)) := by unfold Fits; omega
 have hMP := fun w => minus_wv (p : Int) hfp false (by simp) w
 have HM1 := Lib.hid hM1
 have HM2 := Lib.hid hM2
 have HAB := Lib.hid hAB
 have HMP := Lib.hid hMP
 have HPK := Lib.hid (fun w => pick_wv (p : Int) w)
 have HPN := Lib.hid (fun w => pick_wv (-(p : Int)) w)
 have HMN := Lib.hid (fun w => minus_wv (-(p : Int)) hfn _ rfl w)
 have HTP := Lib.hid (fun w => turn_wv (p : Int) w)
 have HL0 := Lib.hid (tl_new w (hi n) (lo n))
 clear hM1 hM2 hAB hMP hpe hk m0 m1 hp hb
 rcases hcase with ⟨hs, he⟩ | ⟨hs, he⟩
 ·rw [he]
  clear he
  cases hsn : decide (n < 0) <;> cases hsm : decide (m < 0) <;> simp [hsn, hsm] at hs
  ·rw [hsn] at h71
   have e : (n.natAbs : Int) = n := by have := of_decide_eq_false hsn; omega
   rw [e] at HM1 HM2
   have H71 := Lib.hid h71
   have H72 := Lib.hid h72
   clear h71 h72 hsn e hn hfp hfn
   have hz : decide (-(p : Int) < 0) = false → hi (-(p : Int)) = 0 ∧ lo (-(p : Int)) = 0 := by
    intro h
    have : p = 0 := by have := of_decide_eq_false h; omega
    subst this
    exact ⟨rfl, rfl⟩
   have HZ := Lib.hid hz
   clear hz
   generalize decide (-(p : Int) < 0) = q at *
   simp only [wv] at *
   generalize hi n = X at *
   generalize lo n = Y at *
   generalize hi (-(p : Int)) = U2 at *
   generalize lo (-(p : Int)) = V2 at *
   generalize hi (p : Int) = U at *
   generalize lo (p : Int) = V at *
   go_enter Try.func65, Try.ntmps65
   go_upto_region 1 with (fail)
   obtain ⟨W, hW⟩ : ∃ W, (w.alloc (.cells #[.int .u64 X, .int .u64 Y] 88)).alloc (.cells #[.int .u64 0, .int .u64 0] 88) = W := ⟨_, rfl⟩
   rw [hW] at HL0 ⊢
   clear hW
   obtain ⟨a0, a1, a2, a3⟩ := HL0.out.a.two
   go_upto_region 2 with (go_at_call 71; refine (H71.out _).mono ?_; rintro e w1 ⟨rfl, hb1⟩; have HL1 := Lib.hid (HL0.out.later hb1); clear hb1 a0 a1 a2 a3)
   obtain ⟨a0, a1, a2, a3⟩ := HL1.out.a.two
   go_upto_region 4 with (go_at_call 71; refine (H71.out _).mono ?_; rintro e w2' ⟨rfl, hb1⟩; have HL2 := Lib.hid (HL1.out.later hb1); clear hb1 a0 a1 a2 a3)
   obtain ⟨a0, a1, _, _⟩ := HL2.out.a.two
   go_upto_region 6 with (first | (go_at_call 74; refine (HAB.out _).mono ?_; rintro e w3 ⟨rfl, rfl⟩) | (go_at_call 73; refine (HM1.out _).mono ?_; rintro e w3 ⟨rfl, rfl⟩))
   go_upto_region 7 with (go_at_call 73; refine (HM2.out _).mono ?_; rintro e w3 ⟨rfl, rfl⟩)
   go_upto_region 12 with (fail)
   have HL3 := Lib.hid (HL2.out.later (bel_alloc (bel_refl w2') (.cells #[.int .u64 U, .int .u64 V] 88)))
   have hX := Blk.new w2' 88 #[.int .u64 U, .int .u64 V]
   have hge : w.heap.size + 2 ≤ w2'.heap.size := by have := HL2.out.r.lt; omega
   obtain ⟨W3, hW3⟩ : ∃ W, w2'.alloc (.cells #[.int .u64 U, .int .u64 V] 88) = W := ⟨_, rfl⟩
   obtain ⟨B, hB⟩ : ∃ B, w2'.heap.size = B := ⟨_, rfl⟩
   rw [hW3] at HL3 hX ⊢
   rw [hB] at hX hge ⊢
   clear hW3 a0 a1 hB
   obtain ⟨y0, y1, _, _⟩ := hX.two
   have HX := Lib.hid hX
   clear hX
   go_upto_region 13 with (go_at_call 72; refine (HTP.out _).mono ?_; rintro e w4 ⟨rfl, hb1⟩; have HLq := Lib.hid (HL3.out.later hb1); have HXq := Lib.hid (HX.out.later hb1); obtain ⟨a4, a5, a6, a7⟩ := HXq.out.two; obtain ⟨b4, b5, b6, b7⟩ := HXq.out.two_set (u := .int .u64 U2) (v := .int .u64 V2); clear hb1 y0 y1)
   have HL5 := Lib.hid (HLq.out.put hge (.int .u64 U2) (.int .u64 V2))
   have hX := (HXq.out.set 0 (.int .u64 U2)).set 1 (.int .u64 V2)
   obtain ⟨W5, hW5⟩ : ∃ W, (w4.setCell ⟨B, 0, none⟩ (.int .u64 U2)).setCell ⟨B, 1, none⟩ (.int .u64 V2) = W := ⟨_, rfl⟩
   rw [hW5] at HL5 hX ⊢
   clear hW5 a4 a5 a6 a7 b4 b5 b6 b7
   have y0 := hX.cells 0 (.int .u64 U2) rfl
   have y1 := hX.cells 1 (.int .u64 V2) rfl
   clear hX
   refine Go.Gq.region_tail 11 (by kernel_rfl) (by kernel_rfl) ?_
   simp only [List.take_succ_cons, List.take_zero, List.drop_succ_cons, List.drop_zero]
   cases q
   ·obtain ⟨rfl, rfl⟩ := HZ.out rfl
    repeat (go_big_quiet_step ((first | (go_at_call 71; exact Gq.call (HMN.out _)) | (go_at_call 89; exact Gq.call (HPN.out _)))))
    refine wpQuiet_nil ?_
    intro wx hw'
    have HL4 := Lib.hid (HL5.out.later (Go.Gq.later_bel hw'))
    clear hw' y0 y1
    obtain ⟨c0, c1, c2, c3⟩ := HL4.out.r.two
    obtain ⟨n0, n1, n2, n3⟩ := HL4.out.r.two_set (u := .int .u64 0) (v := .int .u64 0)
    go_wp2
    exact bodyPost_ret (v := .tuple #[.agg #[.int .u64 0, .int .u64 0], .bool true]) (by simp [results, Try.results65, go_sem, n0, n1]) rfl ⟨rfl, bel_set (bel_set HL4.out.bel (by omega) _ _) (by omega) _ _⟩
   ·repeat (go_big_quiet_step ((first | (go_at_call 71; exact Gq.call (HMN.out _)) | (go_at_call 89; exact Gq.call (HPN.out _)))))
    refine wpQuiet_nil ?_
    intro wx hw'
    have HL4 := Lib.hid (HL5.out.later (Go.Gq.later_bel hw'))
    clear hw' y0 y1
    obtain ⟨c0, c1, c2, c3⟩ := HL4.out.r.two
    obtain ⟨n0, n1, n2, n3⟩ := HL4.out.r.two_set (u := .int .u64 U2) (v := .int .u64 V2)
    go_wp2
    exact bodyPost_ret (v := .tuple #[.agg #[.int .u64 U2, .int .u64 V2], .bool true]) (by simp [results, Try.results65, go_sem, n0, n1]) rfl ⟨rfl, bel_set (bel_set HL4.out.bel (by omega) _ _) (by omega) _ _⟩
  ·rw [hsn] at h71
   have e : (n.natAbs : Int) = -n := by have := of_decide_eq_true hsn; omega
   rw [e] at HM1 HM2
   have H71 := Lib.hid h71
   have H72 := Lib.hid h72
   clear h71 h72 hsn e hn hfp hfn
   have hz : decide (-(p : Int) < 0) = false → hi (-(p : Int)) = 0 ∧ lo (-(p : Int)) = 0 := by
    intro h
    have : p = 0 := by have := of_decide_eq_false h; omega
    subst this
    exact ⟨rfl, rfl⟩
   have HZ := Lib.hid hz
   clear hz
   generalize decide (-(p : Int) < 0) = q at *
   simp only [wv] at *
   generalize hi n = X at *
   generalize lo n = Y at *
   generalize hi (-n) = X2 at *
   generalize lo (-n) = Y2 at *
   generalize hi (-(p : Int)) = U2 at *
   generalize lo (-(p : Int)) = V2 at *
   generalize hi (p : Int) = U at *
   generalize lo (p : Int) = V at *
   go_enter Try.func65, Try.ntmps65
   go_upto_region 1 with (fail)
   obtain ⟨W, hW⟩ : ∃ W, (w.alloc (.cells #[.int .u64 X, .int .u64 Y] 88)).alloc (.cells #[.int .u64 0, .int .u64 0] 88) = W := ⟨_, rfl⟩
   rw [hW] at HL0 ⊢
   clear hW
   obtain ⟨a0, a1, a2, a3⟩ := HL0.out.a.two
   go_upto_region 2 with (go_at_call 71; refine (H71.out _).mono ?_; rintro e w1 ⟨rfl, hb1⟩; have HL1 := Lib.hid (HL0.out.later hb1); clear hb1 a0 a1 a2 a3)
   obtain ⟨a0, a1, a2, a3⟩ := HL1.out.a.two
   go_upto_region 3 with (go_at_call 71; refine (H71.out _).mono ?_; rintro e w2 ⟨rfl, hb1⟩; have HLt := Lib.hid (HL1.out.later hb1); clear hb1 a0 a1 a2 a3)
   obtain ⟨a0, a1, a2, a3⟩ := HLt.out.a.two
   go_upto_region 4 with (go_at_call 72; refine (H72.out _).mono ?_; rintro e w3 ⟨rfl, hb1⟩; have HLs := Lib.hid (HLt.out.later hb1); obtain ⟨a4, a5, a6, a7⟩ := HLs.out.a.two; obtain ⟨b4, b5, b6, b7⟩ := HLs.out.a.two_set (u := .int .u64 X2) (v := .int .u64 Y2); clear hb1 a0 a1 a2 a3)
   have HL2 := Lib.hid (HLs.out.store X2 Y2)
   obtain ⟨w2', hw2⟩ : ∃ W, (w3.setCell ⟨w.heap.size, 0, none⟩ (.int .u64 X2)).setCell ⟨w.heap.size, 1, none⟩ (.int .u64 Y2) = W := ⟨_, rfl⟩
   rw [hw2] at HL2 ⊢
   clear hw2 a4 a5 a6 a7 b4 b5 b6 b7
   obtain ⟨a0, a1, _, _⟩ := HL2.out.a.two
   go_upto_region 6 with (first | (go_at_call 74; refine (HAB.out _).mono ?_; rintro e w3 ⟨rfl, rfl⟩) | (go_at_call 73; refine (HM1.out _).mono ?_; rintro e w3 ⟨rfl, rfl⟩))
   go_upto_region 7 with (go_at_call 73; refine (HM2.out _).mono ?_; rintro e w3 ⟨rfl, rfl⟩)
   go_upto_region 12 with (fail)
   have HL3 := Lib.hid (HL2.out.later (bel_alloc (bel_refl w2') (.cells #[.int .u64 U, .int .u64 V] 88)))
   have hX := Blk.new w2' 88 #[.int .u64 U, .int .u64 V]
   have hge : w.heap.size + 2 ≤ w2'.heap.size := by have := HL2.out.r.lt; omega
   obtain ⟨W3, hW3⟩ : ∃ W, w2'.alloc (.cells #[.int .u64 U, .int .u64 V] 88) = W := ⟨_, rfl⟩
   obtain ⟨B, hB⟩ : ∃ B, w2'.heap.size = B := ⟨_, rfl⟩
   rw [hW3] at HL3 hX ⊢
   rw [hB] at hX hge ⊢
   clear hW3 a0 a1 hB
   obtain ⟨y0, y1, _, _⟩ := hX.two
   have HX := Lib.hid hX
   clear hX
   go_upto_region 13 with (go_at_call 72; refine (HTP.out _).mono ?_; rintro e w4 ⟨rfl, hb1⟩; have HLq := Lib.hid (HL3.out.later hb1); have HXq := Lib.hid (HX.out.later hb1); obtain ⟨a4, a5, a6, a7⟩ := HXq.out.two; obtain ⟨b4, b5, b6, b7⟩ := HXq.out.two_set (u := .int .u64 U2) (v := .int .u64 V2); clear hb1 y0 y1)
   have HL5 := Lib.hid (HLq.out.put hge (.int .u64 U2) (.int .u64 V2))
   have hX := (HXq.out.set 0 (.int .u64 U2)).set 1 (.int .u64 V2)
   obtain ⟨W5, hW5⟩ : ∃ W, (w4.setCell ⟨B, 0, none⟩ (.int .u64 U2)).setCell ⟨B, 1, none⟩ (.int .u64 V2) = W := ⟨_, rfl⟩
   rw [hW5] at HL5 hX ⊢
   clear hW5 a4 a5 a6 a7 b4 b5 b6 b7
   have y0 := hX.cells 0 (.int .u64 U2) rfl
   have y1 := hX.cells 1 (.int .u64 V2) rfl
   clear hX
   refine Go.Gq.region_tail 11 (by kernel_rfl) (by kernel_rfl) ?_
   simp only [List.take_succ_cons, List.take_zero, List.drop_succ_cons, List.drop_zero]
   cases q
   ·obtain ⟨rfl, rfl⟩ := HZ.out rfl
    repeat (go_big_quiet_step ((first | (go_at_call 71; exact Gq.call (HMN.out _)) | (go_at_call 89; exact Gq.call (HPN.out _)))))
    refine wpQuiet_nil ?_
    intro wx hw'
    have HL4 := Lib.hid (HL5.out.later (Go.Gq.later_bel hw'))
    clear hw' y0 y1
    obtain ⟨c0, c1, c2, c3⟩ := HL4.out.r.two
    obtain ⟨n0, n1, n2, n3⟩ := HL4.out.r.two_set (u := .int .u64 0) (v := .int .u64 0)
    go_wp2
    exact bodyPost_ret (v := .tuple #[.agg #[.int .u64 0, .int .u64 0], .bool true]) (by simp [results, Try.results65, go_sem, n0, n1]) rfl ⟨rfl, bel_set (bel_set HL4.out.bel (by omega) _ _) (by omega) _ _⟩
   ·repeat (go_big_quiet_step ((first | (go_at_call 71; exact Gq.call (HMN.out _)) | (go_at_call 89; exact Gq.call (HPN.out _)))))
    refine wpQuiet_nil ?_
    intro wx hw'
    have HL4 := Lib.hid (HL5.out.later (Go.Gq.later_bel hw'))
    clear hw' y0 y1
    obtain ⟨c0, c1, c2, c3⟩ := HL4.out.r.two
    obtain ⟨n0, n1, n2, n3⟩ := HL4.out.r.two_set (u := .int .u64 U2) (v := .int .u64 V2)
    go_wp2
    exact bodyPost_ret (v := .tuple #[.agg #[.int .u64 U2, .int .u64 V2], .bool true]) (by simp [results, Try.results65, go_sem, n0, n1]) rfl ⟨rfl, bel_set (bel_set HL4.out.bel (by omega) _ _) (by omega) _ _⟩
 ·rw [he]
  clear he
  cases hsn : decide (n < 0) <;> cases hsm : decide (m < 0) <;> simp [hsn, hsm] at hs
  ·rw [hsn] at h71
   have e : (n.natAbs : Int) = n := by have := of_decide_eq_false hsn; omega
   rw [e] at HM1 HM2
   have H71 := Lib.hid h71
   have H72 := Lib.hid h72
   clear h71 h72 hsn e hn hfp hfn
   simp only [wv] at *
   generalize hi n = X at *
   generalize lo n = Y at *
   generalize hi (p : Int) = U at *
   generalize lo (p : Int) = V at *
   go_enter Try.func65, Try.ntmps65
   go_upto_region 1 with (fail)
   obtain ⟨W, hW⟩ : ∃ W, (w.alloc (.cells #[.int .u64 X, .int .u64 Y] 88)).alloc (.cells #[.int .u64 0, .int .u64 0] 88) = W := ⟨_, rfl⟩
   rw [hW] at HL0 ⊢
   clear hW
   obtain ⟨a0, a1, a2, a3⟩ := HL0.out.a.two
   go_upto_region 2 with (go_at_call 71; refine (H71.out _).mono ?_; rintro e w1 ⟨rfl, hb1⟩; have HL1 := Lib.hid (HL0.out.later hb1); clear hb1 a0 a1 a2 a3)
   obtain ⟨a0, a1, a2, a3⟩ := HL1.out.a.two
   go_upto_region 4 with (go_at_call 71; refine (H71.out _).mono ?_; rintro e w2' ⟨rfl, hb1⟩; have HL2 := Lib.hid (HL1.out.later hb1); clear hb1 a0 a1 a2 a3)
   obtain ⟨a0, a1, _, _⟩ := HL2.out.a.two
   go_upto_region 6 with (first | (go_at_call 74; refine (HAB.out _).mono ?_; rintro e w3 ⟨rfl, rfl⟩) | (go_at_call 73; refine (HM1.out _).mono ?_; rintro e w3 ⟨rfl, rfl⟩))
   go_upto_region 7 with (go_at_call 73; refine (HM2.out _).mono ?_; rintro e w3 ⟨rfl, rfl⟩)
   go_upto_region 14 with (fail)
   have HL3 := Lib.hid (HL2.out.later (bel_alloc (bel_refl w2') (.cells #[.int .u64 U, .int .u64 V] 88)))
   have hX := Blk.new w2' 88 #[.int .u64 U, .int .u64 V]
   have hge : w.heap.size + 2 ≤ w2'.heap.size := by have := HL2.out.r.lt; omega
   obtain ⟨W3, hW3⟩ : ∃ W, w2'.alloc (.cells #[.int .u64 U, .int .u64 V] 88) = W := ⟨_, rfl⟩
   obtain ⟨B, hB⟩ : ∃ B, w2'.heap.size = B := ⟨_, rfl⟩
   rw [hW3] at HL3 hX ⊢
   rw [hB] at hX hge ⊢
   clear hW3 a0 a1 hB
   have y0 := hX.cells 0 (.int .u64 U) rfl
   have y1 := hX.cells 1 (.int .u64 V) rfl
   clear hX
   refine Go.Gq.region_tail 7 (by kernel_rfl) (by kernel_rfl) ?_
   simp only [List.take_succ_cons, List.take_zero, List.drop_succ_cons, List.drop_zero]
   repeat (go_big_quiet_step ((first | (go_at_call 71; exact Gq.call (HMP.out _)) | (go_at_call 89; exact Gq.call (HPK.out _)))))
   refine wpQuiet_nil ?_
   intro wx hw'
   have HL4 := Lib.hid (HL3.out.later (Go.Gq.later_bel hw'))
   clear hw' y0 y1
   obtain ⟨c0, c1, c2, c3⟩ := HL4.out.r.two
   obtain ⟨n0, n1, n2, n3⟩ := HL4.out.r.two_set (u := .int .u64 U) (v := .int .u64 V)
   go_wp2
   exact bodyPost_ret (v := .tuple #[.agg #[.int .u64 U, .int .u64 V], .bool true]) (by simp [results, Try.results65, go_sem, n0, n1]) rfl ⟨rfl, bel_set (bel_set HL4.out.bel (by omega) _ _) (by omega) _ _⟩
  ·rw [hsn] at h71
   have e : (n.natAbs : Int) = -n := by have := of_decide_eq_true hsn; omega
   rw [e] at HM1 HM2
   have H71 := Lib.hid h71
   have H72 := Lib.hid h72
   clear h71 h72 hsn e hn hfp hfn
   simp only [wv] at *
   generalize hi n = X at *
   generalize lo n = Y at *
   generalize hi (-n) = X2 at *
   generalize lo (-n) = Y2 at *
   generalize hi (p : Int) = U at *
   generalize lo (p : Int) = V at *
   go_enter Try.func65, Try.ntmps65
   go_upto_region 1 with (fail)
   obtain ⟨W, hW⟩ : ∃ W, (w.alloc (.cells #[.int .u64 X, .int .u64 Y] 88)).alloc (.cells #[.int .u64 0, .int .u64 0] 88) = W := ⟨_, rfl⟩
   rw [hW] at HL0 ⊢
   clear hW
   obtain ⟨a0, a1, a2, a3⟩ := HL0.out.a.two
   go_upto_region 2 with (go_at_call 71; refine (H71.out _).mono ?_; rintro e w1 ⟨rfl, hb1⟩; have HL1 := Lib.hid (HL0.out.later hb1); clear hb1 a0 a1 a2 a3)
   obtain ⟨a0, a1, a2, a3⟩ := HL1.out.a.two
   go_upto_region 3 with (go_at_call 71; refine (H71.out _).mono ?_; rintro e w2 ⟨rfl, hb1⟩; have HLt := Lib.hid (HL1.out.later hb1); clear hb1 a0 a1 a2 a3)
   obtain ⟨a0, a1, a2, a3⟩ := HLt.out.a.two
   go_upto_region 4 with (go_at_call 72; refine (H72.out _).mono ?_; rintro e w3 ⟨rfl, hb1⟩; have HLs := Lib.hid (HLt.out.later hb1); obtain ⟨a4, a5, a6, a7⟩ := HLs.out.a.two; obtain ⟨b4, b5, b6, b7⟩ := HLs.out.a.two_set (u := .int .u64 X2) (v := .int .u64 Y2); clear hb1 a0 a1 a2 a3)
   have HL2 := Lib.hid (HLs.out.store X2 Y2)
   obtain ⟨w2', hw2⟩ : ∃ W, (w3.setCell ⟨w.heap.size, 0, none⟩ (.int .u64 X2)).setCell ⟨w.heap.size, 1, none⟩ (.int .u64 Y2) = W := ⟨_, rfl⟩
   rw [hw2] at HL2 ⊢
   clear hw2 a4 a5 a6 a7 b4 b5 b6 b7
   obtain ⟨a0, a1, _, _⟩ := HL2.out.a.two
   go_upto_region 6 with (first | (go_at_call 74; refine (HAB.out _).mono ?_; rintro e w3 ⟨rfl, rfl⟩) | (go_at_call 73; refine (HM1.out _).mono ?_; rintro e w3 ⟨rfl, rfl⟩))
   go_upto_region 7 with (go_at_call 73; refine (HM2.out _).mono ?_; rintro e w3 ⟨rfl, rfl⟩)
   go_upto_region 14 with (fail)
   have HL3 := Lib.hid (HL2.out.later (bel_alloc (bel_refl w2') (.cells #[.int .u64 U, .int .u64 V] 88)))
   have hX := Blk.new w2' 88 #[.int .u64 U, .int .u64 V]
   have hge : w.heap.size + 2 ≤ w2'.heap.size := by have := HL2.out.r.lt; omega
   obtain ⟨W3, hW3⟩ : ∃ W, w2'.alloc (.cells #[.int .u64 U, .int .u64 V] 88) = W := ⟨_, rfl⟩
   obtain ⟨B, hB⟩ : ∃ B, w2'.heap.size = B := ⟨_, rfl⟩
   rw [hW3] at HL3 hX ⊢
   rw [hB] at hX hge ⊢
   clear hW3 a0 a1 hB
   have y0 := hX.cells 0 (.int .u64 U) rfl
   have y1 := hX.cells 1 (.int .u64 V) rfl
   clear hX
   refine Go.Gq.region_tail 7 (by kernel_rfl) (by kernel_rfl) ?_
   simp only [List.take_succ_cons, List.take_zero, List.drop_succ_cons, List.drop_zero]
   repeat (go_big_quiet_step ((first | (go_at_call 71; exact Gq.call (HMP.out _)) | (go_at_call 89; exact Gq.call (HPK.out _)))))
   refine wpQuiet_nil ?_
   intro wx hw'
   have HL4 := Lib.hid (HL3.out.later (Go.Gq.later_bel hw'))
   clear hw' y0 y1
   obtain ⟨c0, c1, c2, c3⟩ := HL4.out.r.two
   obtain ⟨n0, n1, n2, n3⟩ := HL4.out.r.two_set (u := .int .u64 U) (v := .int .u64 V)
   go_wp2
   exact bodyPost_ret (v := .tuple #[.agg #[.int .u64 U, .int .u64 V], .bool true]) (by simp [results, Try.results65, go_sem, n0, n1]) rfl ⟨rfl, bel_set (bel_set HL4.out.bel (by omega) _ _) (by omega) _ _⟩
end Wd
end Go.Proofs.Ytdihefgleefhmaa
