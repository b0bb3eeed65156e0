/- Numbers that are alike: num.Cmp. -/
import Derived.Test.YtdihefgleefhmaaNu
import Derived.Test.YtdihefgleefhmaaShelf
import Derived.Deep.DeepCutAuto
namespace Go.Proofs.Ytdihefgleefhmaa
open Go.RowKit
namespace Nc
open Mg Nu
theorem sum_lt (f : Nat → Nat) : ∀ n, (∀ i, i < n → f i < 18446744073709551616) → sumTo f n < 18446744073709551616 ^ n
  | 0, _ => by simp [sumTo]
  | n + 1, h => by
    have h1 := sum_lt f n (fun i hi => h i (by omega))
    have h2 := h n (by omega)
    show sumTo f n + f n * 18446744073709551616 ^ n < _
    have h3 : (f n + 1) * 18446744073709551616 ^ n ≤ 18446744073709551616 * 18446744073709551616 ^ n := Nat.mul_le_mul_right _ (by omega)
    rw [Nat.add_mul, Nat.one_mul] at h3
    rw [Nat.pow_succ, Nat.mul_comm _ 18446744073709551616]
    omega
theorem sum_inj (f h : Nat → Nat) : ∀ n, (∀ i, i < n → f i < 18446744073709551616) → (∀ i, i < n → h i < 18446744073709551616) → sumTo f n = sumTo h n → ∀ i, i < n → f i = h i
  | 0, _, _, _, i, hi => by omega
  | n + 1, hf, hh, e, i, hi => by
    have a1 := sum_lt f n (fun i hi => hf i (by omega))
    have a2 := sum_lt h n (fun i hi => hh i (by omega))
    have e' : sumTo f n + f n * 18446744073709551616 ^ n = sumTo h n + h n * 18446744073709551616 ^ n := e
    have pos : 0 < 18446744073709551616 ^ n := Nat.pow_pos (by omega)
    generalize 18446744073709551616 ^ n = P at *
    have q1 : (sumTo f n + f n * P) / P = f n := by rw [Nat.add_mul_div_right _ _ pos, Nat.div_eq_of_lt a1, Nat.zero_add]
    have q2 : (sumTo h n + h n * P) / P = h n := by rw [Nat.add_mul_div_right _ _ pos, Nat.div_eq_of_lt a2, Nat.zero_add]
    have q3 : f n = h n := by rw [← q1, ← q2, e']
    by_cases hin : i = n
    · rw [hin]; exact q3
    · rw [q3] at e'
      exact sum_inj f h n (fun i hi => hf i (by omega)) (fun i hi => hh i (by omega)) (by omega) i (by omega)
theorem sum_big (f : Nat → Nat) (n j : Nat) (h : n = j + 1) (h0 : f j ≠ 0) : 18446744073709551616 ^ j ≤ sumTo f n := by
  subst h
  show _ ≤ sumTo f j + f j * 18446744073709551616 ^ j
  have : 18446744073709551616 ^ j ≤ f j * 18446744073709551616 ^ j := Nat.le_mul_of_pos_left _ (by omega)
  omega
theorem len_le (f h : Nat → Nat) (n m : Nat) (hf : ∀ i, i < n → f i < 18446744073709551616) (hm : ∀ j, m = j + 1 → h j ≠ 0) (e : sumTo f n = sumTo h m) : m ≤ n := by
  cases m with
  | zero => omega
  | succ j =>
    have h1 := sum_lt f n hf
    have h2 := sum_big h (j + 1) j rfl (hm j rfl)
    have h3 : 18446744073709551616 ^ j < 18446744073709551616 ^ n := by omega
    have := (Nat.pow_lt_pow_iff_right (by omega)).1 h3
    omega
/-- magnitudes of one number, without noughts at the end, are the same words. -/
theorem same (W : World) (p q : Option Addr) (n c m d N : Nat) (ha : MagN W p n c N) (hb : MagN W q m d N) : n = m ∧ ∃ f, MagP W p n c f ∧ MagP W q n d f ∧ ∀ j, n = j + 1 → f j ≠ 0 := by
  obtain ⟨f, f1, f2, f3⟩ := ha
  obtain ⟨h, h1, h2, h3⟩ := hb
  have l1 := len_le f h n m f1.words h3 (f2.trans h2.symm)
  have l2 := len_le h f m n h1.words f3 (h2.trans f2.symm)
  obtain rfl : n = m := by omega
  have hi := sum_inj f h n f1.words h1.words (f2.trans h2.symm)
  refine ⟨rfl, f, f1, ⟨f1.words, h1.le, h1.big, fun h0 => ?_⟩, f3⟩
  obtain ⟨g, hg, hc⟩ := h1.at_ h0
  exact ⟨g, hg, fun i h => by rw [hi i h]; exact hc i h⟩
set_option maxRecDepth 100000 in
theorem cmp_mag (p q : Option Addr) (n c d : Nat) (f : Nat → Nat) (w : World) (ha : MagP w p n c f) (hb : MagP w q n d f) (h0 : ∀ j, n = j + 1 → f j ≠ 0) :
    Calls Try.prog 69 #[.slice p n c, .slice q n d] w fun e w' => e = .returned (.int .i64 0) ∧ Below w.heap.size w w' := by
  have r1 := fun u (hu : Below w.heap.size w u) => right_any p n c f u (ha.later hu)
  have r2 := fun u (hu : Below w.heap.size w u) => right_any q n d f u (hb.later hu)
  rw [trim_same f n h0] at r1 r2
  have R1 := Lib.hid r1
  have R2 := Lib.hid r2
  have HA := Lib.hid ha
  have HB := Lib.hid hb
  have hn := ha.big
  clear r1 r2 ha hb h0
  go_enter Try.func69, Try.ntmps69
  go_wp2_with fail
  refine (R1.out _ (bel_refl _)).mono ?_
  rintro e w1 ⟨rfl, hb1⟩
  have HB1 := Lib.hid hb1
  clear hb1
  go_wp2_with fail
  refine (R2.out _ HB1.out).mono ?_
  rintro e w2 ⟨rfl, hb2⟩
  have HB2 := Lib.hid (bel_step HB1.out hb2)
  clear hb2
  have wn : IntKind.i64.wrap ((n : Int) - 1) = (n : Int) - 1 := IntWalk.i64_in _ (by omega)
  go_wp2
  go_loopw [5] (fun v wr => ∃ k : Nat, v = .int .i64 ((k : Int) - 1) ∧ k ≤ n ∧ Hid (Below w.heap.size w wr)) (fun v _ => (intOf v + 1).toNat)
  case atStart => exact ⟨n, rfl, Nat.le_refl _, HB2⟩
  case round =>
    obtain ⟨k, rfl, hk, HK⟩ := hrel
    cases k with
    | zero =>
      go_wp2
      go_ret
      exact ⟨rfl, HK.out⟩
    | succ k =>
      have e1 : (((k + 1 : Nat) : Int) - 1) = (k : Int) := by omega
      rw [e1]
      obtain ⟨g, rfl, hg⟩ := HA.out.at_ (by omega)
      obtain ⟨g', rfl, hg'⟩ := HB.out.at_ (by omega)
      have y1 := cell_later (hg k (by omega)) HK.out
      have y2 := cell_later (hg' k (by omega)) HK.out
      have x1 : ∀ u : Gq.Later wr, u.w.cell? ⟨g, k, none⟩ = some (.int .u64 (f k : Nat)) := fun u => cell_later y1 u.bel
      have x2 : ∀ u : Gq.Later wr, u.w.cell? ⟨g', k, none⟩ = some (.int .u64 (f k : Nat)) := fun u => cell_later y2 u.bel
      clear y1 y2
      have i1 : (k : Int) < (n : Int) := by omega
      have i0 : (0 : Int) ≤ (k : Int) := by omega
      have wk : IntKind.i64.wrap ((k : Int) - 1) = (k : Int) - 1 := IntWalk.i64_in _ (by omega)
      clear hg hg'
      generalize f k = a at *
      go_wp2
      refine Go.Gq.region (by kernel_rfl) (by kernel_rfl) ?_
      repeat (go_big_quiet_step (fail))
      refine wpQuiet_nil ?_
      intro wx hw'
      have HX := Lib.hid (bel_step HK.out (Go.Gq.later_bel hw'))
      clear hw' x1 x2
      have ea : ((a : Int) != (a : Int)) = false := by simp
      go_wp2
      go_roundw
      case rel => exact ⟨k, rfl, by omega, HX⟩
      case measure => simp [intOf]
theorem aux_le : ∀ f x, Lib.bitLenAux f x ≤ f
  | 0, _ => Nat.le_refl _
  | f + 1, x => by
    unfold Lib.bitLenAux
    split
    · omega
    · have := aux_le f (x / 2); omega
theorem bit_bounds (a : Nat) (h : a ≠ 0) : 1 ≤ Lib.bitLen a ∧ Lib.bitLen a ≤ 64 := by
  refine ⟨?_, aux_le 64 a⟩
  unfold Lib.bitLen Lib.bitLenAux
  rw [if_neg h]
  omega
set_option maxRecDepth 100000 in
theorem len_any (p : Option Addr) (n c : Nat) (f : Nat → Nat) (w : World) (ha : MagP w p n c f) (h0 : ∀ j, n = j + 1 → f j ≠ 0) :
    Calls Try.prog 76 #[.slice p n c] w fun e w' => (∃ L : Int, e = .returned (.int .i64 L) ∧ (L == 0) = (n == 0)) ∧ Below w.heap.size w w' := by
  have r1 := fun u (hu : Below w.heap.size w u) => right_any p n c f u (ha.later hu)
  rw [trim_same f n h0] at r1
  have R1 := Lib.hid r1
  have HA := Lib.hid ha
  have hn := ha.big
  have H0 := Lib.hid h0
  clear r1 ha h0
  cases n with
  | zero =>
    go_enter Try.func76, Try.ntmps76
    go_wp2_with (go_at_call 90; refine (R1.out _ (bel_refl _)).mono ?_; rintro e w1 ⟨rfl, hb1⟩; have HB1 := Lib.hid hb1; clear hb1)
    go_ret
    exact ⟨⟨0, rfl, rfl⟩, HB1.out⟩
  | succ k =>
    obtain ⟨g, rfl, hg⟩ := HA.out.at_ (by omega)
    have hx := hg k (by omega)
    have hw := HA.out.words k (by omega)
    have hz := H0.out k rfl
    clear hg
    generalize f k = a at *
    have hb64 := fun w => Try.bits_Len64 (a : Int) w (by omega) (by omega)
    rw [Int.toNat_natCast] at hb64
    have hbb := bit_bounds a hz
    generalize Lib.bitLen a = b at *
    have wk : IntKind.i64.wrap (((k + 1 : Nat) : Int) - 1) = (k : Int) := by rw [IntWalk.i64_in _ (by omega)]; omega
    have wk2 : IntKind.i64.wrap (64 * (k : Int)) = 64 * (k : Int) := IntWalk.i64_in _ (by omega)
    have wk3 : IntKind.i64.wrap (64 * (k : Int) + (b : Int)) = 64 * (k : Int) + (b : Int) := IntWalk.i64_in _ (by omega)
    have wne : (((k + 1 : Nat) : Int) == 0) = false := by simp; omega
    have i1 : (k : Int) < ((k + 1 : Nat) : Int) := by omega
    have i0 : (0 : Int) ≤ (k : Int) := by omega
    go_enter Try.func76, Try.ntmps76
    go_wp2_with (first | (go_at_call 90; refine (R1.out _ (bel_refl _)).mono ?_; rintro e w1 ⟨rfl, hb1⟩; have HB1 := Lib.hid hb1; have hx1 := cell_later hx hb1; clear hb1) | (go_at_call 92; refine (hb64 _).mono ?_; rintro e w2 ⟨rfl, rfl⟩))
    go_ret
    refine ⟨⟨_, rfl, ?_⟩, HB1.out⟩
    have : ¬ 64 * (k : Int) + (b : Int) = 0 := by omega
    simp [this]
set_option maxRecDepth 100000 in
theorem sign_any (p : Option Addr) (n c : Nat) (f : Nat → Nat) (w : World) (ha : MagP w p n c f) (h0 : ∀ j, n = j + 1 → f j ≠ 0) :
    Calls Try.prog 48 #[nv p n c] w fun e w' => e = .returned (.int .i64 (if n = 0 then 0 else 1)) ∧ Below w.heap.size w w' := by
  have hL := fun u (hu : Below w.heap.size w u) => len_any p n c f u (ha.later hu) h0
  have HL := Lib.hid hL
  clear hL ha h0
  cases hq : (n == 0)
  · have hn : n ≠ 0 := by simpa using hq
    rw [if_neg hn]
    rw [hq] at HL
    clear hn hq
    go_enter Try.func48, Try.ntmps48
    go_wp2_with (go_at_call 76; refine (HL.out _ (bel_alloc (bel_refl w) _)).mono ?_; rintro e w1 ⟨⟨L, rfl, hLz⟩, hb1⟩; have HB := Lib.hid (bel_step (bel_alloc (bel_refl w) _) hb1); obtain ⟨k0, k1, _, _⟩ := ((Blk.new w 83 #[.bool false, .slice p n c]).later hb1).two; clear hb1)
    go_ret
    exact ⟨rfl, HB.out⟩
  · have hn : n = 0 := by simpa using hq
    rw [if_pos hn]
    rw [hq] at HL
    clear hn hq
    go_enter Try.func48, Try.ntmps48
    go_wp2_with (go_at_call 76; refine (HL.out _ (bel_alloc (bel_refl w) _)).mono ?_; rintro e w1 ⟨⟨L, rfl, hLz⟩, hb1⟩; have HB := Lib.hid (bel_step (bel_alloc (bel_refl w) _) hb1); obtain ⟨k0, k1, _, _⟩ := ((Blk.new w 83 #[.bool false, .slice p n c]).later hb1).two; clear hb1)
    go_ret
    exact ⟨rfl, HB.out⟩
set_option maxRecDepth 100000 in
theorem cmp_any (p q : Option Addr) (n m c d N : Nat) (w : World) (ha : MagN w p n c N) (hb : MagN w q m d N) :
    Calls Try.prog 64 #[nv p n c, nv q m d] w fun e w' => e = .returned (.int .i64 0) ∧ Below w.heap.size w w' := by
  obtain ⟨rfl, f, f1, f2, f3⟩ := same w p q n c m d N ha hb
  have s1 : ∀ p' c', (p' = p ∧ c' = c) ∨ (p' = q ∧ c' = d) → ∀ u, Below w.heap.size w u → Calls Try.prog 48 #[nv p' n c'] u fun e w' => e = .returned (.int .i64 (if n = 0 then 0 else 1)) ∧ Below u.heap.size u w' := by
    rintro p' c' (⟨rfl, rfl⟩ | ⟨rfl, rfl⟩) u hu
    · exact sign_any _ n _ f u (f1.later hu) f3
    · exact sign_any _ n _ f u (f2.later hu) f3
  have s3 := fun u (hu : Below w.heap.size w u) => cmp_mag p q n c d f u (f1.later hu) (f2.later hu) f3
  obtain ⟨s, hs⟩ : ∃ s : Int, (if n = 0 then 0 else 1) = s := ⟨_, rfl⟩
  rw [hs] at s1
  have S1 := Lib.hid s1
  have S3 := Lib.hid s3
  clear ha hb f1 f2 f3 s1 s3 hs
  go_enter Try.func64, Try.ntmps64
  go_wp2_with fail
  have b0 := (Blk.new w 83 #[.bool false, .slice p n c]).alloc (.cells #[.bool false, .slice q n d] 83)
  have b1 := (Blk.new' (n := w.heap.size + 1) (w.alloc (.cells #[.bool false, .slice p n c] 83)) 83 #[.bool false, .slice q n d] (by simp))
  have hb := bel_alloc (bel_alloc (bel_refl w) (.cells #[.bool false, .slice p n c] 83)) (.cells #[.bool false, .slice q n d] 83)
  generalize (w.alloc (.cells #[.bool false, .slice p n c] 83)).alloc (.cells #[.bool false, .slice q n d] 83) = W at *
  have HW := Lib.hid hb
  have B0 := Lib.hid b0
  have B1 := Lib.hid b1
  have hlb : Below w.heap.size W W.drew := (Below.refl _ W).drew
  clear b0 b1 hb hlb
  go_cut [5, 6] (fun v5 v6 wx => v5 = .int .i64 s ∧ v6 = .int .i64 s ∧ Hid (Below W.heap.size W wx))
  case first =>
    have l0 : ∀ u, Below W.heap.size W u → u.cell? ⟨w.heap.size, 0, none⟩ = some (.bool false) := fun u hu => (B0.out.later hu).two.1
    have l1 : ∀ u, Below W.heap.size W u → u.cell? ⟨w.heap.size, 1, none⟩ = some (.slice p n c) := fun u hu => (B0.out.later hu).two.2.1
    have l2 : ∀ u, Below W.heap.size W u → u.cell? ⟨w.heap.size + 1, 0, none⟩ = some (.bool false) := fun u hu => (B1.out.later hu).two.1
    have l3 : ∀ u, Below W.heap.size W u → u.cell? ⟨w.heap.size + 1, 1, none⟩ = some (.slice q n d) := fun u hu => (B1.out.later hu).two.2.1
    go_region_held3 (fun w' => Below W.heap.size W w') (first | exact bel_drew (bel_refl _) | assumption | exact bel_step (by assumption) (by assumption)) ((go_at_call 48; refine (S1.out _ _ (by first | exact .inl ⟨rfl, rfl⟩ | exact .inr ⟨rfl, rfl⟩) _ (HW.out.trans ((show Below W.heap.size W _ by assumption).mono HW.out.size))).mono ?_; rintro e w2 ⟨rfl, hb2⟩))
    all_goals go_wp2
    all_goals go_meet
    all_goals exact ⟨rfl, rfl, Lib.hid (by assumption)⟩
  case rest =>
    obtain ⟨rfl, rfl, HX⟩ := hcut
    have ss : ¬ s < s := Int.lt_irrefl s
    have ss2 : ¬ s > s := Int.lt_irrefl s
    have sz : IntKind.i64.wrap (s * 0) = 0 := by rw [Int.mul_zero]; decide
    have K0 := (B0.out.later HX.out).two.2.1
    have K1 := (B1.out.later HX.out).two.2.1
    go_wp2_with (go_at_call 69; refine (S3.out _ (HW.out.trans (HX.out.mono HW.out.size))).mono ?_; rintro e w3 ⟨rfl, hb3⟩; have HB3 := Lib.hid hb3; clear hb3)
    go_ret
    exact ⟨rfl, bel_step (HW.out.trans (HX.out.mono HW.out.size)) HB3.out⟩
end Nc
end Go.Proofs.Ytdihefgleefhmaa
