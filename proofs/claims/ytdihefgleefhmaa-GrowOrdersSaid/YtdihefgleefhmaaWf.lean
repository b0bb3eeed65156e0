/- Whole numbers of 128 bits: sums and products. -/
import Derived.Test.YtdihefgleefhmaaWd
namespace Go.Proofs.Ytdihefgleefhmaa
open Go.RowKit
namespace Wd
attribute [local go_sem] eq88
set_option maxHeartbeats 1000000 in
set_option maxRecDepth 100000 in
theorem add_wv (a b : Int) (w : World) (ha : Fits a) (hb : Fits b) (hab : Fits (a + b)) : Calls Try.prog 66 #[wv a, wv b] w fun e w' => e = .returned (.tuple #[wv (a + b), .bool true]) ∧ Below w.heap.size w w' := by
 obtain ⟨h1, h2⟩ := add_words a b
 have s1 := fun w => add64' (lo a) (lo b) 0 (lo (a + b)) ((lo a + lo b + 0) / 18446744073709551616) (lo_0 a) (lo_0 b) (by omega) (by omega) h1 rfl w
 have k0 : 0 ≤ (lo a + lo b + 0) / 18446744073709551616 := by have := lo_0 a; have := lo_0 b; omega
 have k1 : (lo a + lo b + 0) / 18446744073709551616 ≤ 1 := by have := lo_1 a; have := lo_1 b; omega
 generalize (lo a + lo b + 0) / 18446744073709551616 = k at s1 k0 k1 h2
 obtain ⟨m, hm⟩ : ∃ m : Int, m = (hi a + hi b + k) / 18446744073709551616 := ⟨_, rfl⟩
 have s2 := fun w => add64' (hi a) (hi b) k (hi (a + b)) m (hi_0 a) (hi_0 b) k0 k1 h2 hm w
 have ma := fun w => minus_wv a ha _ rfl w
 have mb := fun w => minus_wv b hb _ rfl w
 have mab := fun w => minus_wv (a + b) hab _ rfl w
 have hg : (decide (a < 0) == decide (b < 0)) = true → (decide (a + b < 0) != decide (a < 0)) = false := by
  intro h
  by_cases h3 : a < 0 <;> by_cases h4 : b < 0 <;> simp [h3, h4] at h ⊢ <;> omega
 generalize decide (a < 0) = sa at ma hg
 generalize decide (b < 0) = sb at mb hg
 generalize decide (a + b < 0) = sab at mab hg
 generalize a + b = d at s1 s2 mab ⊢
 have MA := Lib.hid ma
 have MB := Lib.hid mb
 have MD := Lib.hid mab
 clear ma mb mab h1 h2 k0 k1 hm ha hb hab
 go_enter Try.func66, Try.ntmps66
 go_upto_region 4 with (fail)
 have B0 := (((Blk.new w 88 #[.int .u64 (hi a), .int .u64 (lo a)]).alloc (.cells #[.int .u64 (hi b), .int .u64 (lo b)] 88)).alloc (.cells #[.int .u64 0, .int .u64 0] 88)).alloc (.cells #[.int .u64 (hi d), .int .u64 (lo d)] 88)
 have B1 := ((Blk.new' (n := w.heap.size + 1) (w.alloc (.cells #[.int .u64 (hi a), .int .u64 (lo a)] 88)) 88 #[.int .u64 (hi b), .int .u64 (lo b)] (by simp)).alloc (.cells #[.int .u64 0, .int .u64 0] 88)).alloc (.cells #[.int .u64 (hi d), .int .u64 (lo d)] 88)
 have B2 := (Blk.new' (n := w.heap.size + 1 + 1) ((w.alloc (.cells #[.int .u64 (hi a), .int .u64 (lo a)] 88)).alloc (.cells #[.int .u64 (hi b), .int .u64 (lo b)] 88)) 88 #[.int .u64 0, .int .u64 0] (by simp)).alloc (.cells #[.int .u64 (hi d), .int .u64 (lo d)] 88)
 have B3 := Blk.new' (n := w.heap.size + 1 + 1 + 1) (((w.alloc (.cells #[.int .u64 (hi a), .int .u64 (lo a)] 88)).alloc (.cells #[.int .u64 (hi b), .int .u64 (lo b)] 88)).alloc (.cells #[.int .u64 0, .int .u64 0] 88)) 88 #[.int .u64 (hi d), .int .u64 (lo d)] (by simp)
 have HB := Lib.hid (bel_alloc (bel_alloc (bel_alloc (bel_alloc (bel_refl w) (.cells #[.int .u64 (hi a), .int .u64 (lo a)] 88)) (.cells #[.int .u64 (hi b), .int .u64 (lo b)] 88)) (.cells #[.int .u64 0, .int .u64 0] 88)) (.cells #[.int .u64 (hi d), .int .u64 (lo d)] 88))
 generalize (((w.alloc (.cells #[.int .u64 (hi a), .int .u64 (lo a)] 88)).alloc (.cells #[.int .u64 (hi b), .int .u64 (lo b)] 88)).alloc (.cells #[.int .u64 0, .int .u64 0] 88)).alloc (.cells #[.int .u64 (hi d), .int .u64 (lo d)] 88) = W at B0 B1 B2 B3 HB ⊢
 have l0 := B0.cells 0 _ rfl
 have l1 := B0.cells 1 _ rfl
 have l2 := B1.cells 0 _ rfl
 have l3 := B1.cells 1 _ rfl
 have l4 := B3.cells 0 _ rfl
 have l5 := B3.cells 1 _ rfl
 have H0 := Lib.hid B0
 have H2 := Lib.hid B2
 have H3 := Lib.hid B3
 clear B0 B1 B2 B3
 cases sa <;> cases sb <;> cases sab <;> simp at hg
 all_goals
  refine Go.Gq.region (by kernel_rfl) (by kernel_rfl) ?_
  repeat (go_big_quiet_step ((first | (go_at_call 71; exact Gq.call (MA.out _)) | (go_at_call 71; exact Gq.call (MB.out _)) | (go_at_call 71; exact Gq.call (MD.out _)))))
  refine wpQuiet_nil ?_
  intro wx hw'
  have hwx := Go.Gq.later_bel hw'
  clear hw' l0 l1 l2 l3 l4 l5
  obtain ⟨k0, k1, _, _⟩ := (H3.out.later hwx).two
  obtain ⟨n0, n1, n2, n3⟩ := (H2.out.later hwx).two
  have HX := Lib.hid hwx
  obtain ⟨m0, m1, m2, m3⟩ := (H2.out.later hwx).two_set (u := .int .u64 (hi d)) (v := .int .u64 (lo d))
  clear hwx
  go_wp2
  exact bodyPost_ret (v := .tuple #[wv d, .bool true]) (by simp [results, Try.results66, go_sem, m0, m1]) rfl ⟨rfl, bel_set (bel_set (bel_step HB.out HX.out) (by omega) _ _) (by omega) _ _⟩

/-- **wide.pick**. -/
theorem pick_wv (n : Int) (w : World) : Calls Try.prog 89 #[wv n, .bool true] w fun e w' => e = .returned (.tuple #[wv n, .bool true]) ∧ Below w.heap.size w w' := by
 go_enter Try.func89, Try.ntmps89
 go_wp2
 exact bodyPost_ret (v := .tuple #[wv n, .bool true]) (by simp [results, Try.results89, go_sem]) rfl ⟨rfl, bel_alloc (bel_alloc (bel_refl w) _) _⟩
theorem mul64_all (x y : Nat) (hx : x ≤ 18446744073709551615) (hy : y ≤ 18446744073709551615) (w : World) : Calls Try.prog 73 #[.int .u64 x, .int .u64 y] w fun e w' => e = .returned (.tuple #[.int .u64 ((x * y / 18446744073709551616 : Nat) : Int), .int .u64 ((x * y % 18446744073709551616 : Nat) : Int)]) ∧ w = w' := by
 refine (Try.bits_Mul64 x y (by omega) (by omega) w).mono fun e w' h => ?_
 rw [h.1, h.2]
 exact ⟨rfl, rfl⟩
end Wd
end Go.Proofs.Ytdihefgleefhmaa
