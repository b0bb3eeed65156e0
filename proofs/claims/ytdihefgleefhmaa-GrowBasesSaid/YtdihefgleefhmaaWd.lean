/- Whole numbers of 128 bits: what the functions of the package wide answer, as integers. -/
import Derived.Test.YtdihefgleefhmaaBk
import Derived.Test.YtdihefgleefhmaaShelf
import Derived.Laws.Externs
import Derived.Shelf.Spec.BitsCarry
namespace Go.Proofs.Ytdihefgleefhmaa
open Go.RowKit
namespace Wd
theorem add64' (x y c s k : Int) (hx : 0 ≤ x) (hy : 0 ≤ y) (hc0 : 0 ≤ c) (hc : c ≤ 1) (hs : s = (x + y + c) % 18446744073709551616) (hk : k = (x + y + c) / 18446744073709551616) (w : World) :
    (callFunc 88 #[.int .u64 x, .int .u64 y, .int .u64 c]).run Try.prog w = .ok (.value (.tuple #[.int .u64 s, .int .u64 k])) w := by
  rw [run_callFunc_extern Try.func88 (by kernel_rfl) (by kernel_rfl) (by kernel_rfl) (e := add64Entry) (by kernel_rfl), run_add64 x y c hx hy hc0 hc, hs, hk]
  rfl
theorem sub64' (x y c s k : Int) (hx : 0 ≤ x) (hx1 : x ≤ 18446744073709551615) (hy : 0 ≤ y) (hy1 : y ≤ 18446744073709551615) (hc0 : 0 ≤ c) (hc : c ≤ 1) (hs : s = (x - y - c) % 18446744073709551616) (hk : k = if x < y + c then 1 else 0) (w : World) :
    (callFunc 91 #[.int .u64 x, .int .u64 y, .int .u64 c]).run Try.prog w = .ok (.value (.tuple #[.int .u64 s, .int .u64 k])) w := by
  obtain ⟨x, rfl⟩ := Int.eq_ofNat_of_zero_le hx
  obtain ⟨y, rfl⟩ := Int.eq_ofNat_of_zero_le hy
  obtain ⟨c, rfl⟩ := Int.eq_ofNat_of_zero_le hc0
  have e1 : (((x + 18446744073709551616 - y - c) % 18446744073709551616 : Nat) : Int) = s := by omega
  have e2 : ((if x < y + c then 1 else 0 : Nat) : Int) = k := by rw [hk]; split <;> split <;> omega
  rw [run_callFunc_extern Try.func91 (by kernel_rfl) (by kernel_rfl) (by kernel_rfl) (e := sub64Entry) (by kernel_rfl), run_sub64 x y c (by omega), e1, e2]
  rfl
theorem not64 (l : Int) (h0 : 0 ≤ l) (h1 : l ≤ 18446744073709551615) : bits BinOp.xor IntKind.u64 IntKind.u64.max l = 18446744073709551615 - l := by
  obtain ⟨n, rfl⟩ := Int.eq_ofNat_of_zero_le h0
  have e : bits BinOp.xor IntKind.u64 IntKind.u64.max (n : Int) = IntKind.u64.wrap ((BitVec.ofInt 64 IntKind.u64.max ^^^ BitVec.ofInt 64 (n : Int)).toNat : Int) := rfl
  have e1 : BitVec.ofInt 64 IntKind.u64.max = BitVec.allOnes 64 := by decide
  have e2 : (BitVec.allOnes 64 ^^^ BitVec.ofInt 64 (n : Int)) = ~~~ BitVec.ofInt 64 (n : Int) := by rw [BitVec.allOnes_xor]
  rw [e, e1, e2, BitVec.toNat_not]
  simp [IntKind.wrap, IntKind.bits, IntKind.signed]
  omega
theorem signed_u64 : IntKind.u64.signed = false := rfl
attribute [local go_sem] signed_u64
/-- the upper, and the lower, word of a number. -/
def hi (n : Int) : Int := n / 18446744073709551616 % 18446744073709551616
def lo (n : Int) : Int := n % 18446744073709551616
theorem hi_0 (n : Int) : 0 ≤ hi n := by unfold hi; omega
theorem hi_1 (n : Int) : hi n ≤ 18446744073709551615 := by unfold hi; omega
theorem lo_0 (n : Int) : 0 ≤ lo n := by unfold lo; omega
theorem lo_1 (n : Int) : lo n ≤ 18446744073709551615 := by unfold lo; omega
abbrev wv (n : Int) : Value := .agg #[.int .u64 (hi n), .int .u64 (lo n)]
/-- is it one of 128 bits? -/
def Fits (n : Int) : Prop := -170141183460469231731687303715884105728 ≤ n ∧ n ≤ 170141183460469231731687303715884105727
set_option maxHeartbeats 1000000 in
theorem minus_any (h l : Int) (w : World) : Calls Try.prog 71 #[.agg #[.int .u64 h, .int .u64 l]] w fun e w' => e = .returned (.bool (h / 9223372036854775808 == 1)) ∧ Below w.heap.size w w' := by
  go_enter Try.func71, Try.ntmps71
  go_wp2
  go_ret
  exact ⟨rfl, (Below.refl _ _).alloc (Nat.le_refl _) _⟩
theorem hi_minus (n : Int) (h : Fits n) : (hi n / 9223372036854775808 == 1) = decide (n < 0) := by
  unfold Fits at h
  unfold hi
  rw [Bool.eq_iff_iff]
  simp only [beq_iff_eq, decide_eq_true_eq]
  omega
theorem minus_wv (n : Int) (h : Fits n) (b : Bool) (hb : decide (n < 0) = b) (w : World) : Calls Try.prog 71 #[wv n] w fun e w' => e = .returned (.bool b) ∧ Below w.heap.size w w' := by
  rw [← hb, ← hi_minus n h]; exact minus_any _ _ w
set_option maxHeartbeats 1000000 in
set_option maxRecDepth 100000 in
theorem turn_any (h l h' l' : Int) (w : World) (h0 : 0 ≤ h) (h1 : h ≤ 18446744073709551615) (l0 : 0 ≤ l) (l1 : l ≤ 18446744073709551615) (k : Int) (hk : k = (18446744073709551616 - l) / 18446744073709551616) (hl : l' = (18446744073709551616 - l) % 18446744073709551616) (hh : h' = (18446744073709551615 - h + k) % 18446744073709551616) :
    Calls Try.prog 72 #[.agg #[.int .u64 h, .int .u64 l]] w fun e w' => e = .returned (.agg #[.int .u64 h', .int .u64 l']) ∧ Below w.heap.size w w' := by
  have x1 := not64 l l0 l1
  have x2 := not64 h h0 h1
  have c1 : 0 ≤ k := by omega
  have c2 : k ≤ 1 := by omega
  have a1 := fun w => add64' (18446744073709551615 - l) 1 0 l' k (by omega) (by omega) (by omega) (by omega) (by omega) (by omega) w
  obtain ⟨m, hm⟩ : ∃ m : Int, m = (18446744073709551615 - h + 0 + k) / 18446744073709551616 := ⟨_, rfl⟩
  have a2 := fun w => add64' (18446744073709551615 - h) 0 k h' m (by omega) (by omega) c1 c2 (by omega) hm w
  clear c1 c2 hk hm hl hh
  go_enter Try.func72, Try.ntmps72
  go_wp2
  exact bodyPost_ret (v := .agg #[.int .u64 h', .int .u64 l']) (by simp [results, Try.results72, go_sem]) rfl ⟨rfl, ((Below.refl _ _).alloc (Nat.le_refl _) _).alloc (by simp) _⟩
theorem turn_wv (n : Int) (w : World) : Calls Try.prog 72 #[wv n] w fun e w' => e = .returned (wv (-n)) ∧ Below w.heap.size w w' :=
  turn_any (hi n) (lo n) (hi (-n)) (lo (-n)) w (hi_0 n) (hi_1 n) (lo_0 n) (lo_1 n) _ rfl (by unfold lo; omega) (by unfold hi lo; omega)
theorem wrap_u64 (n : Int) : IntKind.u64.wrap n = n % 18446744073709551616 := by simp [IntKind.wrap, IntKind.bits, IntKind.signed]
set_option maxHeartbeats 1000000 in
theorem abs_any (n : Int) (w : World) (h0 : -9223372036854775808 ≤ n) (h1 : n ≤ 9223372036854775807) : Calls Try.prog 74 #[.int .i64 n] w fun e w' => e = .returned (.int .u64 (n.natAbs : Int)) ∧ w = w' := by
  by_cases hn : n < 0
  · have e : IntKind.u64.wrap (-IntKind.u64.wrap n) = n.natAbs := by rw [wrap_u64, wrap_u64]; omega
    have E := Lib.hid e
    clear e
    go_enter Try.func74, Try.ntmps74
    go_wp2
    go_ret
    rw [← E.out]
    exact ⟨rfl, rfl⟩
  · have e : (n.natAbs : Int) = n := by omega
    rw [e]; clear e
    go_enter Try.func74, Try.ntmps74
    go_wp2
    go_ret
    exact ⟨rfl, rfl⟩
theorem natAbs_mul_cases (a b : Int) : (decide (a < 0) ≠ decide (b < 0) ∧ a * b = -((a.natAbs * b.natAbs : Nat) : Int)) ∨ (decide (a < 0) = decide (b < 0) ∧ a * b = ((a.natAbs * b.natAbs : Nat) : Int)) := by
  by_cases ha : a < 0 <;> by_cases hb : b < 0
  · right
    refine ⟨by simp [ha, hb], ?_⟩
    rw [Int.natCast_mul, show (a.natAbs : Int) = -a by omega, show (b.natAbs : Int) = -b by omega, Int.neg_mul_neg]
  · left
    refine ⟨by simp [ha, hb], ?_⟩
    rw [Int.natCast_mul, show (a.natAbs : Int) = -a by omega, show (b.natAbs : Int) = b by omega, Int.neg_mul, Int.neg_neg]
  · left
    refine ⟨by simp [ha, hb], ?_⟩
    rw [Int.natCast_mul, show (a.natAbs : Int) = a by omega, show (b.natAbs : Int) = -b by omega, Int.mul_neg, Int.neg_neg]
  · right
    refine ⟨by simp [ha, hb], ?_⟩
    rw [Int.natCast_mul, show (a.natAbs : Int) = a by omega, show (b.natAbs : Int) = b by omega]
theorem mul64_any (x y : Nat) (hx : x ≤ 9223372036854775808) (hy : y ≤ 9223372036854775808) (w : World) : Calls Try.prog 73 #[.int .u64 x, .int .u64 y] w fun e w' => e = .returned (.tuple #[.int .u64 (hi ((x * y : Nat) : Int)), .int .u64 (lo ((x * y : Nat) : Int))]) ∧ w = w' := by
  refine (Try.bits_Mul64 x y (by omega) (by omega) w).mono fun e w' h => ?_
  have hp : x * y ≤ 9223372036854775808 * 9223372036854775808 := Nat.mul_le_mul hx hy
  rw [h.1, h.2]
  refine ⟨?_, rfl⟩
  have e1 : ((x * y / 18446744073709551616 : Nat) : Int) = hi ((x * y : Nat) : Int) := by
    unfold hi
    generalize x * y = p at hp ⊢
    omega
  have e2 : ((x * y % 18446744073709551616 : Nat) : Int) = lo ((x * y : Nat) : Int) := by
    unfold lo
    generalize x * y = p
    omega
  rw [e1, e2]
set_option maxHeartbeats 1000000 in
theorem mul_wv (a b : Int) (w : World) (a0 : -9223372036854775808 ≤ a) (a1 : a ≤ 9223372036854775807) (b0 : -9223372036854775808 ≤ b) (b1 : b ≤ 9223372036854775807) :
    Calls Try.prog 45 #[.int .i64 a, .int .i64 b] w fun e w' => e = .returned (wv (a * b)) ∧ Below w.heap.size w w' := by
  have hM := mul64_any a.natAbs b.natAbs (by omega) (by omega)
  rcases natAbs_mul_cases a b with ⟨hs, he⟩ | ⟨hs, he⟩
  · rw [he]
    clear he
    generalize a.natAbs * b.natAbs = p at hM ⊢
    have hT := turn_wv (p : Int)
    have HM := Lib.hid hM
    have HT := Lib.hid hT
    clear hM hT
    cases ha : decide (a < 0) <;> cases hb : decide (b < 0) <;> simp [ha, hb] at hs
    all_goals
      go_enter Try.func45, Try.ntmps45
      go_wp2_with (first | (go_at_call 74; refine (abs_any _ _ (by omega) (by omega)).mono ?_; rintro e w1 ⟨rfl, rfl⟩) | (go_at_call 73; refine (HM.out _).mono ?_; rintro e w1 ⟨rfl, rfl⟩) | (go_at_call 72; refine (HT.out _).mono ?_; rintro e w1 ⟨rfl, hb1⟩; have HB := Lib.hid hb1; have k := ((Blk.new w 88 #[.int .u64 0, .int .u64 0]).alloc (.cells #[.int .u64 (hi p), .int .u64 (lo p)] 88)).later hb1; obtain ⟨k0, k1, k2, k3⟩ := k.two; obtain ⟨m0, m1, m2, m3⟩ := k.two_set (u := .int .u64 (hi (-p))) (v := .int .u64 (lo (-p))); clear k hb1))
      exact bodyPost_ret (v := wv (-(p : Int))) (by simp [results, Try.results45, go_sem, m0, m1]) rfl ⟨rfl, ((bel_step (bel_alloc (bel_alloc (Below.refl _ _) _) _) HB.out).setCell (by simp) _).setCell (by simp) _⟩
  · rw [he]
    clear he
    generalize a.natAbs * b.natAbs = p at hM ⊢
    have HM := Lib.hid hM
    clear hM
    cases ha : decide (a < 0) <;> cases hb : decide (b < 0) <;> simp [ha, hb] at hs
    all_goals
      go_enter Try.func45, Try.ntmps45
      go_wp2_with (first | (go_at_call 74; refine (abs_any _ _ (by omega) (by omega)).mono ?_; rintro e w1 ⟨rfl, rfl⟩) | (go_at_call 73; refine (HM.out _).mono ?_; rintro e w1 ⟨rfl, rfl⟩))
      exact bodyPost_ret (v := wv (p : Int)) (by simp [results, Try.results45, go_sem]) rfl ⟨rfl, bel_alloc (bel_alloc (Below.refl _ _) _) _⟩
/-- a - b, where both and the difference are of 128 bits. -/
theorem sub_words (a b : Int) : lo (a - b) = (lo a - lo b - 0) % 18446744073709551616 ∧ hi (a - b) = (hi a - hi b - (if lo a < lo b + 0 then 1 else 0)) % 18446744073709551616 := by
  unfold hi lo
  refine ⟨by omega, ?_⟩
  split <;> omega
theorem add_words (a b : Int) : lo (a + b) = (lo a + lo b + 0) % 18446744073709551616 ∧ hi (a + b) = (hi a + hi b + (lo a + lo b + 0) / 18446744073709551616) % 18446744073709551616 := by
  unfold hi lo
  omega
set_option maxHeartbeats 1000000 in
set_option maxRecDepth 100000 in
theorem sub_wv (a b : Int) (w : World) (ha : Fits a) (hb : Fits b) (hab : Fits (a - b)) : Calls Try.prog 75 #[wv a, wv b] w fun e w' => e = .returned (.tuple #[wv (a - b), .bool true]) ∧ Below w.heap.size w w' := by
  obtain ⟨h1, h2⟩ := sub_words a b
  have s1 := fun w => sub64' (lo a) (lo b) 0 (lo (a - b)) (if lo a < lo b + 0 then 1 else 0) (lo_0 a) (lo_1 a) (lo_0 b) (lo_1 b) (by omega) (by omega) h1 rfl w
  have k0 : 0 ≤ (if lo a < lo b + 0 then 1 else 0 : Int) := by split <;> omega
  have k1 : (if lo a < lo b + 0 then 1 else 0 : Int) ≤ 1 := by split <;> omega
  generalize (if lo a < lo b + 0 then 1 else 0 : Int) = k at s1 k0 k1 h2
  obtain ⟨m, hm⟩ : ∃ m : Int, m = if hi a < hi b + k then 1 else 0 := ⟨_, rfl⟩
  have s2 := fun w => sub64' (hi a) (hi b) k (hi (a - b)) m (hi_0 a) (hi_1 a) (hi_0 b) (hi_1 b) k0 k1 h2 hm w
  have ma := fun w => minus_wv a ha _ rfl w
  have mb := fun w => minus_wv b hb _ rfl w
  have mab := fun w => minus_wv (a - b) hab _ rfl w
  have hg : (decide (a < 0) != decide (b < 0)) = true → (decide (a - b < 0) != decide (a < 0)) = false := by
    intro h
    by_cases h3 : a < 0 <;> by_cases h4 : b < 0 <;> simp [h3, h4] at h ⊢ <;> omega
  generalize decide (a < 0) = sa at ma hg
  generalize decide (b < 0) = sb at mb hg
  generalize decide (a - b < 0) = sab at mab hg
  generalize a - b = d at s1 s2 mab ⊢
  have MA := Lib.hid ma
  have MB := Lib.hid mb
  have MD := Lib.hid mab
  clear ma mb mab h1 h2 k0 k1 hm ha hb hab
  go_enter Try.func75, Try.ntmps75
  go_upto_region 4 with (fail)
  have B0 := (((Blk.new w 88 #[.int .u64 (hi a), .int .u64 (lo a)]).alloc (.cells #[.int .u64 (hi b), .int .u64 (lo b)] 88)).alloc (.cells #[.int .u64 0, .int .u64 0] 88)).alloc (.cells #[.int .u64 (hi d), .int .u64 (lo d)] 88)
  have B1 := ((Blk.new' (n := w.heap.size + 1) (w.alloc (.cells #[.int .u64 (hi a), .int .u64 (lo a)] 88)) 88 #[.int .u64 (hi b), .int .u64 (lo b)] (by simp)).alloc (.cells #[.int .u64 0, .int .u64 0] 88)).alloc (.cells #[.int .u64 (hi d), .int .u64 (lo d)] 88)
  have B2 := (Blk.new' (n := w.heap.size + 1 + 1) ((w.alloc (.cells #[.int .u64 (hi a), .int .u64 (lo a)] 88)).alloc (.cells #[.int .u64 (hi b), .int .u64 (lo b)] 88)) 88 #[.int .u64 0, .int .u64 0] (by simp)).alloc (.cells #[.int .u64 (hi d), .int .u64 (lo d)] 88)
  have B3 := Blk.new' (n := w.heap.size + 1 + 1 + 1) (((w.alloc (.cells #[.int .u64 (hi a), .int .u64 (lo a)] 88)).alloc (.cells #[.int .u64 (hi b), .int .u64 (lo b)] 88)).alloc (.cells #[.int .u64 0, .int .u64 0] 88)) 88 #[.int .u64 (hi d), .int .u64 (lo d)] (by simp)
  have HB := Lib.hid (bel_alloc (bel_alloc (bel_alloc (bel_alloc (bel_refl w) (.cells #[.int .u64 (hi a), .int .u64 (lo a)] 88)) (.cells #[.int .u64 (hi b), .int .u64 (lo b)] 88)) (.cells #[.int .u64 0, .int .u64 0] 88)) (.cells #[.int .u64 (hi d), .int .u64 (lo d)] 88))
  generalize (((w.alloc (.cells #[.int .u64 (hi a), .int .u64 (lo a)] 88)).alloc (.cells #[.int .u64 (hi b), .int .u64 (lo b)] 88)).alloc (.cells #[.int .u64 0, .int .u64 0] 88)).alloc (.cells #[.int .u64 (hi d), .int .u64 (lo d)] 88) = W at B0 B1 B2 B3 HB ⊢
  have l0 := B0.cells 0 _ rfl
  have l1 := B0.cells 1 _ rfl
  have l2 := B1.cells 0 _ rfl
  have l3 := B1.cells 1 _ rfl
  have l4 := B3.cells 0 _ rfl
  have l5 := B3.cells 1 _ rfl
  have H0 := Lib.hid B0
  have H2 := Lib.hid B2
  have H3 := Lib.hid B3
  clear B0 B1 B2 B3
  cases sa <;> cases sb <;> cases sab <;> simp at hg
  all_goals
    refine Go.Gq.region (by kernel_rfl) (by kernel_rfl) ?_
    repeat (go_big_quiet_step ((first | (go_at_call 71; exact Gq.call (MA.out _)) | (go_at_call 71; exact Gq.call (MB.out _)) | (go_at_call 71; exact Gq.call (MD.out _)))))
    refine wpQuiet_nil ?_
    intro wx hw'
    have hwx := Go.Gq.later_bel hw'
    clear hw' l0 l1 l2 l3 l4 l5
    obtain ⟨k0, k1, _, _⟩ := (H3.out.later hwx).two
    obtain ⟨n0, n1, n2, n3⟩ := (H2.out.later hwx).two
    have HX := Lib.hid hwx
    obtain ⟨m0, m1, m2, m3⟩ := (H2.out.later hwx).two_set (u := .int .u64 (hi d)) (v := .int .u64 (lo d))
    clear hwx
    go_wp2
    exact bodyPost_ret (v := .tuple #[wv d, .bool true]) (by simp [results, Try.results75, go_sem, m0, m1]) rfl ⟨rfl, bel_set (bel_set (bel_step HB.out HX.out) (by omega) _ _) (by omega) _ _⟩
end Wd
end Go.Proofs.Ytdihefgleefhmaa
