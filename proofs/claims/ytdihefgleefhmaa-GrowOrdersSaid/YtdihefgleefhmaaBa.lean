/- Three points that don't lie on a line: what Base answers. -/
import Derived.Test.YtdihefgleefhmaaFl
namespace Go.Proofs.Ytdihefgleefhmaa
open Go.RowKit
/-- from the point i on, b being the first one that lies elsewhere than the first (0: none yet). -/
def baseGo (l : List Pt) : Nat → Nat → Nat → Option (Nat × Nat)
 | 0, _, _ => none
 | f + 1, i, b => if b = 0 then (if pat l i = pat l 0 then baseGo l f (i + 1) 0 else baseGo l f (i + 1) i) else (if ori (pat l 0) (pat l b) (pat l i) = 0 then baseGo l f (i + 1) b else some (b, i))
def baseOf (l : List Pt) : Option (Nat × Nat) := baseGo l l.length 0 0
def baseV : Option (Nat × Nat) → Value
 | none => .tuple #[.agg #[.int .i64 0, .int .i64 0, .int .i64 0], .bool false]
 | some (b, i) => .tuple #[.agg #[.int .i64 0, .int .i64 b, .int .i64 i], .bool true]
namespace Ba
open Wd Pr
attribute [local go_sem high] run_eql32 run_neq32
theorem go_succ (l : List Pt) (i b : Nat) (hi : i < l.length) : baseGo l (l.length - i) i b = if b = 0 then (if pat l i = pat l 0 then baseGo l (l.length - (i + 1)) (i + 1) 0 else baseGo l (l.length - (i + 1)) (i + 1) i) else (if ori (pat l 0) (pat l b) (pat l i) = 0 then baseGo l (l.length - (i + 1)) (i + 1) b else some (b, i)) := by
 have : l.length - i = (l.length - (i + 1)) + 1 := by omega
 rw [this]
 rfl
theorem go_end (l : List Pt) (i b : Nat) (hi : ¬ i < l.length) : baseGo l (l.length - i) i b = none := by
 have : l.length - i = 0 := by omega
 rw [this]
 rfl
set_option maxHeartbeats 2000000 in
theorem base_at (g c : Nat) (l : List Pt) (w : World) (hP : PtsAt w g l) (hn : nearAll l) :
  Calls Try.prog 27 #[.slice (some ⟨g, 0, none⟩) l.length c] w fun e w' => e = .returned (baseV (baseOf l)) ∧ Below w.heap.size w w' := by
 have hlen := hP.1
 have HP := Lib.hid hP
 have HN := Lib.hid hn
 obtain ⟨r, hr⟩ : ∃ r, baseOf l = r := ⟨_, rfl⟩
 have HR := Lib.hid hr
 rw [hr]
 clear hP hn hr
 go_enter Try.func27, Try.ntmps27
 go_wp2
 go_loopw [9, 4] (fun p q wr => ∃ i b : Nat, p = .int .i64 i ∧ q = .int .i64 b ∧ i ≤ l.length ∧ b ≤ i ∧ Hid (baseGo l (l.length - i) i b = r) ∧ Hid (Below w.heap.size w wr) ∧ Hid (Blk wr w.heap.size 58 #[.int .i64 0, .int .i64 0, .int .i64 0])) (fun p _ _ => l.length - (intOf p).toNat)
 case atStart => exact ⟨0, 0, rfl, rfl, Nat.zero_le _, Nat.le_refl _, HR, Lib.hid (bel_alloc (bel_refl w) _), Lib.hid (Blk.new _ _ _)⟩
 case round =>
  obtain ⟨i, b, rfl, rfl, hi, hbi, HG, HB, HK⟩ := hrel
  by_cases hlt : i < l.length
  ·have hstep := go_succ l i b hlt
   have hP := HP.out.later (Lib.hid HB.out).out
   obtain ⟨p0, p1⟩ := hP.2 i hlt
   have he := ptEq_iff (pat l i) (pat l 0)
   by_cases hb0 : b = 0
   ·have hbz : ((b : Int) == 0) = true := by simp; omega
    have hbg : decide (0 < b) = false := by simp; omega
    rw [if_pos hb0] at hstep
    by_cases hz : pat l i = pat l 0
    ·rw [decide_eq_true hz] at he
     have HS : Hid (baseGo l (l.length - (i + 1)) (i + 1) b = r) := Lib.hid (by have h := HG.out; rw [hstep, if_pos hz] at h; rw [hb0]; exact h)
     clear hstep hz hP hb0
     go_upto_region 5 with (fail)
     have hP1 := HP.out.later (bel_alloc HB.out (.cells #[.int .i64 (pat l i).x, .int .i64 (pat l i).y] 32))
     have B1 := Blk.new wr 32 #[.int .i64 (pat l i).x, .int .i64 (pat l i).y]
     have HB1 := Lib.hid (bel_alloc HB.out (.cells #[.int .i64 (pat l i).x, .int .i64 (pat l i).y] 32))
     have HK1 := Lib.hid (HK.out.alloc (.cells #[.int .i64 (pat l i).x, .int .i64 (pat l i).y] 32))
     obtain ⟨W, hW⟩ : ∃ W, wr.alloc (.cells #[.int .i64 (pat l i).x, .int .i64 (pat l i).y] 32) = W := ⟨_, rfl⟩
     rw [hW] at hP1 B1 HB1 HK1 ⊢
     clear hW p0 p1
     obtain ⟨l0, l1⟩ := hP1.cells 0 (by omega)
     have l4 := B1.cells 0 _ rfl
     have l5 := B1.cells 1 _ rfl
     have HP1 := Lib.hid hP1
     have HQ1 := Lib.hid B1
     clear hP1 B1
     refine Go.Gq.region (by kernel_rfl) (by kernel_rfl) ?_
     repeat (go_big_quiet_step ((fail)))
     refine wpQuiet_nil ?_
     intro wx hw'
     have HX := Lib.hid (Go.Gq.later_bel hw')
     clear hw' l0 l1 l4 l5
     go_upto_region 7 with (fail)
     have HP2 := Lib.hid (HP1.out.later HX.out)
     obtain ⟨l0, l1⟩ := HP2.out.cells 0 (by omega)
     obtain ⟨l2, l3⟩ := HP2.out.cells b (by omega)
     have l4 := (HQ1.out.later HX.out).cells 0 _ rfl
     have l5 := (HQ1.out.later HX.out).cells 1 _ rfl
     refine Go.Gq.region (by kernel_rfl) (by kernel_rfl) ?_
     repeat (go_big_quiet_step ((fail)))
     refine wpQuiet_nil ?_
     intro wy hw'
     have HY := Lib.hid (Go.Gq.later_bel hw')
     clear hw' l0 l1 l2 l3 l4 l5
     go_wp2
     go_roundw
     case rel => exact ⟨i + 1, b, by go_num, rfl, by omega, by omega, HS, Lib.hid (bel_step (bel_step HB1.out HX.out) HY.out), Lib.hid ((HK1.out.later HX.out).later HY.out)⟩
     case measure => simp [intOf]; omega
    ·rw [decide_eq_false hz] at he
     have HS : Hid (baseGo l (l.length - (i + 1)) (i + 1) i = r) := Lib.hid (by have h := HG.out; rw [hstep, if_neg hz] at h; exact h)
     clear hstep hz hP hb0
     go_upto_region 5 with (fail)
     have hP1 := HP.out.later (bel_alloc HB.out (.cells #[.int .i64 (pat l i).x, .int .i64 (pat l i).y] 32))
     have B1 := Blk.new wr 32 #[.int .i64 (pat l i).x, .int .i64 (pat l i).y]
     have HB1 := Lib.hid (bel_alloc HB.out (.cells #[.int .i64 (pat l i).x, .int .i64 (pat l i).y] 32))
     have HK1 := Lib.hid (HK.out.alloc (.cells #[.int .i64 (pat l i).x, .int .i64 (pat l i).y] 32))
     obtain ⟨W, hW⟩ : ∃ W, wr.alloc (.cells #[.int .i64 (pat l i).x, .int .i64 (pat l i).y] 32) = W := ⟨_, rfl⟩
     rw [hW] at hP1 B1 HB1 HK1 ⊢
     clear hW p0 p1
     obtain ⟨l0, l1⟩ := hP1.cells 0 (by omega)
     have l4 := B1.cells 0 _ rfl
     have l5 := B1.cells 1 _ rfl
     have HP1 := Lib.hid hP1
     have HQ1 := Lib.hid B1
     clear hP1 B1
     refine Go.Gq.region (by kernel_rfl) (by kernel_rfl) ?_
     repeat (go_big_quiet_step ((fail)))
     refine wpQuiet_nil ?_
     intro wx hw'
     have HX := Lib.hid (Go.Gq.later_bel hw')
     clear hw' l0 l1 l4 l5
     go_wp2
     go_roundw
     case rel => exact ⟨i + 1, i, by go_num, rfl, by omega, by omega, HS, Lib.hid (bel_step HB1.out HX.out), Lib.hid (HK1.out.later HX.out)⟩
     case measure => simp [intOf]; omega
   ·have hbz : ((b : Int) == 0) = false := by simp; omega
    have hbg : decide (0 < b) = true := by simp; omega
    rw [if_neg hb0] at hstep
    have hS := sign_eq0 (ori (pat l 0) (pat l b) (pat l i))
    have hO := Lib.hid (fun w => orient_any (pat l 0) (pat l b) (pat l i) w (HN.out 0) (HN.out b) (HN.out i))
    by_cases hz : ori (pat l 0) (pat l b) (pat l i) = 0
    ·rw [decide_eq_true hz] at hS
     have HS : Hid (baseGo l (l.length - (i + 1)) (i + 1) b = r) := Lib.hid (by rw [← HG.out, hstep, if_pos hz])
     clear hstep hz hP hb0 he
     generalize (ori (pat l 0) (pat l b) (pat l i)).sign = s at *
     have hS2 : (s != 0) = false := by simpa using hS
     go_upto_region 5 with (fail)
     have hP1 := HP.out.later (bel_alloc HB.out (.cells #[.int .i64 (pat l i).x, .int .i64 (pat l i).y] 32))
     have B1 := Blk.new wr 32 #[.int .i64 (pat l i).x, .int .i64 (pat l i).y]
     have HB1 := Lib.hid (bel_alloc HB.out (.cells #[.int .i64 (pat l i).x, .int .i64 (pat l i).y] 32))
     have HK1 := Lib.hid (HK.out.alloc (.cells #[.int .i64 (pat l i).x, .int .i64 (pat l i).y] 32))
     obtain ⟨W, hW⟩ : ∃ W, wr.alloc (.cells #[.int .i64 (pat l i).x, .int .i64 (pat l i).y] 32) = W := ⟨_, rfl⟩
     rw [hW] at hP1 B1 HB1 HK1 ⊢
     clear hW p0 p1
     obtain ⟨l0, l1⟩ := hP1.cells 0 (by omega)
     have l4 := B1.cells 0 _ rfl
     have l5 := B1.cells 1 _ rfl
     have HP1 := Lib.hid hP1
     have HQ1 := Lib.hid B1
     clear hP1 B1
     refine Go.Gq.region (by kernel_rfl) (by kernel_rfl) ?_
     repeat (go_big_quiet_step ((fail)))
     refine wpQuiet_nil ?_
     intro wx hw'
     have HX := Lib.hid (Go.Gq.later_bel hw')
     clear hw' l0 l1 l4 l5
     go_upto_region 7 with (fail)
     have HP2 := Lib.hid (HP1.out.later HX.out)
     obtain ⟨l0, l1⟩ := HP2.out.cells 0 (by omega)
     obtain ⟨l2, l3⟩ := HP2.out.cells b (by omega)
     have l4 := (HQ1.out.later HX.out).cells 0 _ rfl
     have l5 := (HQ1.out.later HX.out).cells 1 _ rfl
     refine Go.Gq.region (by kernel_rfl) (by kernel_rfl) ?_
     repeat (go_big_quiet_step ((go_at_call 28; exact Gq.call (hO.out _))))
     refine wpQuiet_nil ?_
     intro wy hw'
     have HY := Lib.hid (Go.Gq.later_bel hw')
     clear hw' l0 l1 l2 l3 l4 l5
     go_wp2
     go_roundw
     case rel => exact ⟨i + 1, b, by go_num, rfl, by omega, by omega, HS, Lib.hid (bel_step (bel_step HB1.out HX.out) HY.out), Lib.hid ((HK1.out.later HX.out).later HY.out)⟩
     case measure => simp [intOf]; omega
    ·rw [decide_eq_false hz] at hS
     have HS : Hid (some (b, i) = r) := Lib.hid (by rw [← HG.out, hstep, if_neg hz])
     clear hstep hz hP hb0 he
     generalize (ori (pat l 0) (pat l b) (pat l i)).sign = s at *
     have hS2 : (s != 0) = true := by simpa using hS
     go_upto_region 5 with (fail)
     have hP1 := HP.out.later (bel_alloc HB.out (.cells #[.int .i64 (pat l i).x, .int .i64 (pat l i).y] 32))
     have B1 := Blk.new wr 32 #[.int .i64 (pat l i).x, .int .i64 (pat l i).y]
     have HB1 := Lib.hid (bel_alloc HB.out (.cells #[.int .i64 (pat l i).x, .int .i64 (pat l i).y] 32))
     have HK1 := Lib.hid (HK.out.alloc (.cells #[.int .i64 (pat l i).x, .int .i64 (pat l i).y] 32))
     obtain ⟨W, hW⟩ : ∃ W, wr.alloc (.cells #[.int .i64 (pat l i).x, .int .i64 (pat l i).y] 32) = W := ⟨_, rfl⟩
     rw [hW] at hP1 B1 HB1 HK1 ⊢
     clear hW p0 p1
     obtain ⟨l0, l1⟩ := hP1.cells 0 (by omega)
     have l4 := B1.cells 0 _ rfl
     have l5 := B1.cells 1 _ rfl
     have HP1 := Lib.hid hP1
     have HQ1 := Lib.hid B1
     clear hP1 B1
     refine Go.Gq.region (by kernel_rfl) (by kernel_rfl) ?_
     repeat (go_big_quiet_step ((fail)))
     refine wpQuiet_nil ?_
     intro wx hw'
     have HX := Lib.hid (Go.Gq.later_bel hw')
     clear hw' l0 l1 l4 l5
     go_upto_region 7 with (fail)
     have HP2 := Lib.hid (HP1.out.later HX.out)
     obtain ⟨l0, l1⟩ := HP2.out.cells 0 (by omega)
     obtain ⟨l2, l3⟩ := HP2.out.cells b (by omega)
     have l4 := (HQ1.out.later HX.out).cells 0 _ rfl
     have l5 := (HQ1.out.later HX.out).cells 1 _ rfl
     refine Go.Gq.region (by kernel_rfl) (by kernel_rfl) ?_
     repeat (go_big_quiet_step ((go_at_call 28; exact Gq.call (hO.out _))))
     refine wpQuiet_nil ?_
     intro wy hw'
     have HY := Lib.hid (Go.Gq.later_bel hw')
     clear hw' l0 l1 l2 l3 l4 l5
     have HK3 := Lib.hid ((HK1.out.later HX.out).later HY.out)
     obtain ⟨k0, k1, k2, k3, k4, k5⟩ := HK3.out.three
     obtain ⟨m0, m1, m2⟩ := HK3.out.three_set (u := .int .i64 0) (v := .int .i64 b) (s := .int .i64 i)
     go_wp2
     rw [← HS.out]
     exact bodyPost_ret (v := baseV (some (b, i))) (by simp [results, Try.results27, go_sem, m0, m1, m2, baseV]) rfl ⟨rfl, bel_set (bel_set (bel_set (bel_step (bel_step HB1.out HX.out) HY.out) (Nat.le_refl _) _ _) (Nat.le_refl _) _ _) (Nat.le_refl _) _ _⟩
  ·have hE := Lib.hid ((go_end l i b hlt).symm.trans HG.out)
   obtain ⟨k0, k1, k2, k3, k4, k5⟩ := HK.out.three
   obtain ⟨m0, m1, m2⟩ := HK.out.three_set (u := .int .i64 0) (v := .int .i64 0) (s := .int .i64 0)
   go_wp2
   rw [← hE.out]
   exact bodyPost_ret (v := baseV none) (by simp [results, Try.results27, go_sem, m0, m1, m2, baseV]) rfl ⟨rfl, bel_set (bel_set (bel_set HB.out (Nat.le_refl _) _ _) (Nat.le_refl _) _ _) (Nat.le_refl _) _ _⟩
end Ba
end Go.Proofs.Ytdihefgleefhmaa
/- Base and Flat, in plain words: three points off a line are found just if there are some; and both at no points. -/
namespace Go.Proofs.Ytdihefgleefhmaa
open Go.RowKit
namespace Bp
/-- what Base's walk keeps: from i on, b the first point elsewhere. -/
theorem go_spec (l : List Pt) : ∀ (f i b : Nat), i + f = l.length → (∀ j, j < (if b = 0 then i else b) → pat l j = pat l 0) → (b ≠ 0 → b < i ∧ pat l b ≠ pat l 0 ∧ ∀ j, j < i → ori (pat l 0) (pat l b) (pat l j) = 0) →
  (∀ c d, baseGo l f i b = some (c, d) → 0 < c ∧ c < d ∧ d < l.length ∧ (∀ j, j < c → pat l j = pat l 0) ∧ pat l c ≠ pat l 0 ∧ (∀ j, j < d → ori (pat l 0) (pat l c) (pat l j) = 0) ∧ ori (pat l 0) (pat l c) (pat l d) ≠ 0) ∧
  (baseGo l f i b = none → (∀ j, j < l.length → pat l j = pat l 0) ∨ ∃ c, c < l.length ∧ pat l c ≠ pat l 0 ∧ ∀ j, j < l.length → ori (pat l 0) (pat l c) (pat l j) = 0)
 | 0, i, b, hf, h1, h2 => by
  refine ⟨fun c d h => by simp [baseGo] at h, fun _ => ?_⟩
  by_cases hb : b = 0
  ·rw [if_pos hb] at h1
   exact .inl fun j hj => h1 j (by omega)
  ·obtain ⟨h3, h4, h5⟩ := h2 hb
   exact .inr ⟨b, by omega, h4, fun j hj => h5 j (by omega)⟩
 | f + 1, i, b, hf, h1, h2 => by
  unfold baseGo
  by_cases hb : b = 0
  ·rw [if_pos hb] at h1 ⊢
   subst hb
   by_cases he : pat l i = pat l 0
   ·rw [if_pos he]
    refine go_spec l f (i + 1) 0 (by omega) (fun j hj => ?_) (fun h => absurd rfl h)
    rw [if_pos rfl] at hj
    rcases Nat.lt_succ_iff_lt_or_eq.1 hj with hj | hj
    ·exact h1 j hj
    ·rw [hj]; exact he
   ·rw [if_neg he]
    have hi0 : i ≠ 0 := fun e => he (by rw [e])
    refine go_spec l f (i + 1) i (by omega) (fun j hj => ?_) (fun _ => ⟨by omega, he, fun j hj => ?_⟩)
    ·rw [if_neg hi0] at hj
     exact h1 j hj
    ·rcases Nat.lt_succ_iff_lt_or_eq.1 hj with hj | hj
     ·rw [h1 j hj]; unfold ori; simp
     ·rw [hj]; unfold ori; rw [Int.mul_comm]; omega
  ·rw [if_neg hb] at h1 ⊢
   obtain ⟨h3, h4, h5⟩ := h2 hb
   by_cases ho : ori (pat l 0) (pat l b) (pat l i) = 0
   ·rw [if_pos ho]
    refine go_spec l f (i + 1) b (by omega) (fun j hj => ?_) (fun _ => ⟨by omega, h4, fun j hj => ?_⟩)
    ·rw [if_neg hb] at hj
     exact h1 j hj
    ·rcases Nat.lt_succ_iff_lt_or_eq.1 hj with hj | hj
     ·exact h5 j hj
     ·rw [hj]; exact ho
   ·rw [if_neg ho]
    refine ⟨fun c d h => ?_, fun h => by cases h⟩
    simp only [Option.some.injEq, Prod.mk.injEq] at h
    obtain ⟨rfl, rfl⟩ := h
    exact ⟨by omega, h3, by omega, h1, h4, h5, ho⟩
theorem spec (l : List Pt) : (∀ c d, baseOf l = some (c, d) → 0 < c ∧ c < d ∧ d < l.length ∧ (∀ j, j < c → pat l j = pat l 0) ∧ pat l c ≠ pat l 0 ∧ (∀ j, j < d → ori (pat l 0) (pat l c) (pat l j) = 0) ∧ ori (pat l 0) (pat l c) (pat l d) ≠ 0) ∧
  (baseOf l = none → (∀ j, j < l.length → pat l j = pat l 0) ∨ ∃ c, c < l.length ∧ pat l c ≠ pat l 0 ∧ ∀ j, j < l.length → ori (pat l 0) (pat l c) (pat l j) = 0) :=
 go_spec l l.length 0 0 (by omega) (fun j hj => by simp at hj) (fun h => absurd rfl h)
/-- what lies along one way, from one point on, lies on a line. -/
theorem line (u1 u2 x1 x2 y1 y2 z1 z2 : Int) (hu : u1 ≠ 0 ∨ u2 ≠ 0) (hx : u1 * x2 - u2 * x1 = 0) (hy : u1 * y2 - u2 * y1 = 0) (hz : u1 * z2 - u2 * z1 = 0) : (y1 - x1) * (z2 - x2) - (y2 - x2) * (z1 - x1) = 0 := by
 have e1 : u1 * ((y1 - x1) * (z2 - x2) - (y2 - x2) * (z1 - x1)) = 0 := by
  have : u1 * ((y1 - x1) * (z2 - x2) - (y2 - x2) * (z1 - x1)) = (y1 - x1) * ((u1 * z2 - u2 * z1) - (u1 * x2 - u2 * x1)) - (z1 - x1) * ((u1 * y2 - u2 * y1) - (u1 * x2 - u2 * x1)) := by grind
  rw [this, hx, hy, hz]; simp
 have e2 : u2 * ((y1 - x1) * (z2 - x2) - (y2 - x2) * (z1 - x1)) = 0 := by
  have : u2 * ((y1 - x1) * (z2 - x2) - (y2 - x2) * (z1 - x1)) = (y2 - x2) * ((u1 * z2 - u2 * z1) - (u1 * x2 - u2 * x1)) - (z2 - x2) * ((u1 * y2 - u2 * y1) - (u1 * x2 - u2 * x1)) := by grind
  rw [this, hx, hy, hz]; simp
 rcases hu with hu | hu
 ·exact (Int.mul_eq_zero.1 e1).resolve_left hu
 ·exact (Int.mul_eq_zero.1 e2).resolve_left hu
theorem none_flat (l : List Pt) (h : baseOf l = none) : Flat l := by
 intro i hi k hk j hj
 rcases (spec l).2 h with h1 | ⟨c, hc, hne, h1⟩
 ·rw [h1 i hi, h1 k (by omega), h1 j (by omega)]
  unfold ori
  simp
 ·have ei := h1 i hi
  have ek := h1 k (by omega)
  have ej := h1 j (by omega)
  generalize pat l i = I at *
  generalize pat l k = K at *
  generalize pat l j = J at *
  generalize pat l 0 = O at *
  generalize pat l c = C at *
  unfold ori at *
  have hu : C.x - O.x ≠ 0 ∨ C.y - O.y ≠ 0 := by
   rcases Int.decEq (C.x - O.x) 0 with hx | hx
   ·exact .inl hx
   ·refine .inr fun hy => hne ?_
    obtain ⟨cx, cy⟩ := C
    obtain ⟨ox, oy⟩ := O
    simp only at hx hy
    have e1 : cx = ox := by omega
    have e2 : cy = oy := by omega
    rw [e1, e2]
  have := line (C.x - O.x) (C.y - O.y) (I.x - O.x) (I.y - O.y) (K.x - O.x) (K.y - O.y) (J.x - O.x) (J.y - O.y) hu ei ek ej
  have e : (K.x - O.x - (I.x - O.x)) * (J.y - O.y - (I.y - O.y)) - (K.y - O.y - (I.y - O.y)) * (J.x - O.x - (I.x - O.x)) = (K.x - I.x) * (J.y - I.y) - (K.y - I.y) * (J.x - I.x) := by grind
  rw [e] at this
  exact this
theorem some_flat (l : List Pt) (c d : Nat) (h : baseOf l = some (c, d)) : ¬ Flat l := by
 obtain ⟨h1, h2, h3, _, _, _, h7⟩ := (spec l).1 c d h
 intro hf
 have := hf d h3 c h2 0 h1
 refine h7 ?_
 generalize pat l d = D at *
 generalize pat l c = C at *
 generalize pat l 0 = O at *
 unfold ori at *
 have e : (C.x - O.x) * (D.y - O.y) - (C.y - O.y) * (D.x - O.x) = -((C.x - D.x) * (O.y - D.y) - (C.y - D.y) * (O.x - D.x)) := by grind
 rw [e, this]
 rfl
theorem flat_iff (l : List Pt) : (baseOf l).isNone = true ↔ Flat l := by
 cases h : baseOf l with
 | none => exact ⟨fun _ => none_flat l h, fun _ => rfl⟩
 | some x => exact ⟨fun h' => by simp at h', fun hf => absurd hf (some_flat l x.1 x.2 h)⟩
set_option maxRecDepth 100000 in
theorem base_nil (w : World) : Calls Try.prog 27 #[.slice none 0 0] w fun e w' => e = .returned (baseV none) ∧ Below w.heap.size w w' := by
 go_enter Try.func27, Try.ntmps27
 go_wp2
 refine wp_loop_rounds 1 ?_
 rw [rounds_succ]
 go_wp2
 refine bodyPost_ret (v := baseV none) (by simp [results, Try.results27, go_sem, baseV]) rfl ⟨rfl, bel_alloc (bel_refl w) _⟩
set_option maxRecDepth 100000 in
theorem flat_nil (w : World) : Calls Try.prog 21 #[.slice none 0 0] w fun e w' => e = .returned (.bool true) ∧ Below w.heap.size w w' := by
 go_enter Try.func21, Try.ntmps21
 go_wp2
 refine wp_loop_rounds 1 ?_
 rw [rounds_succ]
 go_wp2
 go_ret
 exact ⟨rfl, bel_refl w⟩
end Bp
end Go.Proofs.Ytdihefgleefhmaa
