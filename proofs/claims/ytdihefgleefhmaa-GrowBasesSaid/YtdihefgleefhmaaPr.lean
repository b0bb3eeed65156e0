/- How points lie to each other: what area2, Orient, On, Between and Tame answer. -/
import Derived.Test.YtdihefgleefhmaaWe
namespace Go.Proofs.Ytdihefgleefhmaa
open Go.RowKit
/-- a point. -/
structure Pt where
  x : Int
  y : Int
deriving DecidableEq
def Pt.near (p : Pt) : Prop := -2147483648 ≤ p.x ∧ p.x ≤ 2147483648 ∧ -2147483648 ≤ p.y ∧ p.y ≤ 2147483648
abbrev pv (p : Pt) : Value := .agg #[.int .i64 p.x, .int .i64 p.y]
/-- twice the area of three points. -/
def ori (a b c : Pt) : Int := (b.x - a.x) * (c.y - a.y) - (b.y - a.y) * (c.x - a.x)
namespace Pr
open Wd
theorem eq32 (a b c d : Int) (w : World) : (Op.equalIn 10000 32 (.agg #[.int .i64 a, .int .i64 b]) (.agg #[.int .i64 c, .int .i64 d])).run Try.prog w = .ok (a == c && b == d) w := by
  have u3 := Try.underlying3
  have a3 := Try.isAgg3
  have z3 := Try.sizeOf3
  have hS : Try.prog.underlying 32 = some (.struct (Try.prog.fieldsOf 32)) := by kernel_rfl
  rw [show (10000 : Nat) = 9999 + 1 from rfl, run_equalIn_agg w 9999 32 _ _ hS (by kernel_rfl)]
  simp only [Program.fieldsOf, Try.underlying32]
  go_simp
  by_cases h1 : a = c <;> by_cases h2 : b = d <;> simp [h1, h2]
/-- are two points the same, by their numbers? -/
def ptEq (a b c d : Int) : Bool := decide (a = c ∧ b = d)
theorem ptEq_iff (p q : Pt) : ptEq p.x p.y q.x q.y = decide (p = q) := by
  unfold ptEq
  rw [Bool.eq_iff_iff]
  cases p; cases q
  simp
theorem eqP32 (a b c d : Int) (w : World) : (Op.equalIn 10000 32 (.agg #[.int .i64 a, .int .i64 b]) (.agg #[.int .i64 c, .int .i64 d])).run Try.prog w = .ok (ptEq a b c d) w := by
  rw [eq32]
  congr 1
  unfold ptEq
  rw [Bool.eq_iff_iff]
  simp
theorem run_eql32 (a b c d : Int) (w : World) : (binOp .eql 32 (.agg #[.int .i64 a, .int .i64 b]) (.agg #[.int .i64 c, .int .i64 d])).run Try.prog w = .ok (.bool (ptEq a b c d)) w := by
  simp only [binOp]
  simp [Op.equal, Op.maxDepth, eqP32 a b c d w]
theorem run_neq32 (a b c d : Int) (w : World) : (binOp .neq 32 (.agg #[.int .i64 a, .int .i64 b]) (.agg #[.int .i64 c, .int .i64 d])).run Try.prog w = .ok (.bool (!ptEq a b c d)) w := by
  simp only [binOp]
  simp [Op.equal, Op.maxDepth, eqP32 a b c d w]
theorem mul_bd (a b : Int) (a0 : -4294967296 ≤ a) (a1 : a ≤ 4294967296) (b0 : -4294967296 ≤ b) (b1 : b ≤ 4294967296) : -18446744073709551616 ≤ a * b ∧ a * b ≤ 18446744073709551616 := by
  have h1 : a.natAbs * b.natAbs ≤ 4294967296 * 4294967296 := Nat.mul_le_mul (by omega) (by omega)
  rw [← Int.natAbs_mul] at h1
  omega
theorem area2_any (a b c : Pt) (w : World) (ha : a.near) (hb : b.near) (hc : c.near) :
    Calls Try.prog 52 #[pv a, pv b, pv c] w fun e w' => e = .returned (wv (ori a b c)) ∧ Below w.heap.size w w' := by
  obtain ⟨ax, ay⟩ := a
  obtain ⟨bx, bY⟩ := b
  obtain ⟨cx, cy⟩ := c
  obtain ⟨p1, p2, p3, p4⟩ := ha
  obtain ⟨p5, p6, p7, p8⟩ := hb
  obtain ⟨p9, p10, p11, p12⟩ := hc
  simp only [ori] at *
  have h1 := mul_bd (bx - ax) (cy - ay) (by omega) (by omega) (by omega) (by omega)
  have h2 := mul_bd (bY - ay) (cx - ax) (by omega) (by omega) (by omega) (by omega)
  have hd := fun w => det_wv (bx - ax) (bY - ay) (cx - ax) (cy - ay) w (by omega) (by omega) (by omega) (by omega) (by omega) (by omega) (by omega) (by omega) (by unfold Fits; omega) (by unfold Fits; omega) (by unfold Fits; omega)
  clear h1 h2
  generalize (bx - ax) * (cy - ay) - (bY - ay) * (cx - ax) = d at *
  have HD := Lib.hid hd
  clear hd
  go_enter Try.func52, Try.ntmps52
  go_wp2_with fail
  refine (HD.out _).mono ?_
  rintro e w1 ⟨rfl, hb1⟩
  have K := ((Blk.new' (n := w.heap.size + 1 + 1 + 1) (((w.alloc (.cells #[.int .i64 ax, .int .i64 ay] 32)).alloc (.cells #[.int .i64 bx, .int .i64 bY] 32)).alloc (.cells #[.int .i64 cx, .int .i64 cy] 32)) 88 #[.int .u64 0, .int .u64 0] (by simp)).later hb1)
  have HB := Lib.hid (bel_step (bel_alloc (bel_alloc (bel_alloc (bel_alloc (bel_refl w) _) _) _) _) hb1)
  obtain ⟨k0, k1, k2, k3⟩ := K.two
  obtain ⟨n0, n1, _, _⟩ := K.two_set (u := .int .u64 (hi d)) (v := .int .u64 (lo d))
  clear K hb1
  go_wp2
  exact bodyPost_ret (v := wv d) (by simp [results, Try.results52, go_sem, n0, n1]) rfl ⟨rfl, bel_set (bel_set HB.out (by omega) _ _) (by omega) _ _⟩
theorem ori_fits (a b c : Pt) (ha : a.near) (hb : b.near) (hc : c.near) : Fits (ori a b c) := by
  obtain ⟨p1, p2, p3, p4⟩ := ha
  obtain ⟨p5, p6, p7, p8⟩ := hb
  obtain ⟨p9, p10, p11, p12⟩ := hc
  have h1 := mul_bd (b.x - a.x) (c.y - a.y) (by omega) (by omega) (by omega) (by omega)
  have h2 := mul_bd (b.y - a.y) (c.x - a.x) (by omega) (by omega) (by omega) (by omega)
  unfold ori Fits
  omega
theorem orient_any (a b c : Pt) (w : World) (ha : a.near) (hb : b.near) (hc : c.near) :
    Calls Try.prog 28 #[pv a, pv b, pv c] w fun e w' => e = .returned (.int .i64 (ori a b c).sign) ∧ Below w.heap.size w w' := by
  have h1 := Lib.hid (fun w => area2_any a b c w ha hb hc)
  have h2 := Lib.hid (fun w => sign_wv (ori a b c) w (ori_fits a b c ha hb hc))
  clear ha hb hc
  go_enter Try.func28, Try.ntmps28
  go_wp2_with fail
  refine (h1.out _).mono ?_
  rintro e w1 ⟨rfl, hb1⟩
  have HB := Lib.hid (bel_step (bel_alloc (bel_alloc (bel_alloc (bel_refl w) _) _) _) hb1)
  clear hb1
  go_wp2_with fail
  refine (h2.out _).mono ?_
  rintro e w2 ⟨rfl, hb2⟩
  have HB2 := Lib.hid (bel_step HB.out hb2)
  clear hb2
  go_wp2
  go_ret
  exact ⟨rfl, HB2.out⟩
/-- a point that may be, like a raw one. -/
def tame (p : Pt) : Pt := ⟨min (max p.x (-2147483648)) 2147483648, min (max p.y (-2147483648)) 2147483648⟩
theorem tame_near (p : Pt) : (tame p).near := by unfold tame Pt.near; dsimp only; omega
theorem run_maxI (P : Program) (ts : Array TypeId) (t : TypeId) (k k' : IntKind) (x y : Int) (w : World) : (Builtin.max_ ts t #[.int k x, .int k' y]).run P w = .ok (.int k (max x y)) w := by
  rw [run_max_int2]; congr 2; split <;> omega
theorem run_minI (P : Program) (ts : Array TypeId) (t : TypeId) (k k' : IntKind) (x y : Int) (w : World) : (Builtin.min_ ts t #[.int k x, .int k' y]).run P w = .ok (.int k (min x y)) w := by
  rw [run_min_int2]; congr 2; split <;> omega
attribute [local go_sem high] run_maxI run_minI
theorem tame_any (p : Pt) (w : World) : Calls Try.prog 12 #[pv p] w fun e w' => e = .returned (pv (tame p)) ∧ Below w.heap.size w w' := by
  obtain ⟨x, y⟩ := p
  simp only [tame]
  go_enter Try.func12, Try.ntmps12
  go_wp2
  exact bodyPost_ret (v := pv ⟨min (max x (-2147483648)) 2147483648, min (max y (-2147483648)) 2147483648⟩) (by simp [results, Try.results12, go_sem]) rfl ⟨rfl, bel_alloc (bel_alloc (bel_refl w) _) _⟩
/-- does a point lie on a line, or at one of its ends? -/
def onB (p a b : Pt) : Bool := decide (ori a b p = 0) && decide (min a.x b.x ≤ p.x) && decide (p.x ≤ max a.x b.x) && decide (min a.y b.y ≤ p.y) && decide (p.y ≤ max a.y b.y)
theorem sign_eq0 (n : Int) : (n.sign == 0) = decide (n = 0) := by
  rw [Bool.eq_iff_iff]; simp [Int.sign_eq_zero_iff_zero]
set_option maxHeartbeats 1000000 in
theorem on_any (p a b : Pt) (w : World) (hp : p.near) (ha : a.near) (hb : b.near) :
    Calls Try.prog 99 #[pv p, pv a, pv b] w fun e w' => e = .returned (.bool (onB p a b)) ∧ Below w.heap.size w w' := by
  have h1 := Lib.hid (fun w => orient_any a b p w ha hb hp)
  clear ha hb hp
  obtain ⟨px, py⟩ := p
  obtain ⟨ax, ay⟩ := a
  obtain ⟨bx, bY⟩ := b
  unfold onB
  have hs := sign_eq0 (ori ⟨ax, ay⟩ ⟨bx, bY⟩ ⟨px, py⟩)
  generalize ori ⟨ax, ay⟩ ⟨bx, bY⟩ ⟨px, py⟩ = d at *
  generalize d.sign = s at *
  dsimp only
  cases c1 : decide (d = 0)
  · rw [c1] at hs
    clear c1
    go_enter Try.func99, Try.ntmps99
    go_wp2_with (go_at_call 28; refine (h1.out _).mono ?_; rintro e w1 ⟨rfl, hb1⟩; have HB := Lib.hid (bel_step (bel_alloc (bel_alloc (bel_alloc (bel_refl w) _) _) _) hb1); clear hb1)
    go_ret
    exact ⟨rfl, HB.out⟩
  rw [c1] at hs
  clear c1
  cases c2 : decide (min ax bx ≤ px)
  · go_enter Try.func99, Try.ntmps99
    go_wp2_with (go_at_call 28; refine (h1.out _).mono ?_; rintro e w1 ⟨rfl, hb1⟩; have HB := Lib.hid (bel_step (bel_alloc (bel_alloc (bel_alloc (bel_refl w) _) _) _) hb1); obtain ⟨k0, k1, _, _⟩ := (((Blk.new w 32 #[.int .i64 px, .int .i64 py]).alloc (.cells #[.int .i64 ax, .int .i64 ay] 32)).alloc (.cells #[.int .i64 bx, .int .i64 bY] 32)).later hb1 |>.two; obtain ⟨k2, k3, _, _⟩ := ((Blk.new' (n := w.heap.size + 1) (w.alloc (.cells #[.int .i64 px, .int .i64 py] 32)) 32 #[.int .i64 ax, .int .i64 ay] (by simp)).alloc (.cells #[.int .i64 bx, .int .i64 bY] 32)).later hb1 |>.two; obtain ⟨k4, k5, _, _⟩ := (Blk.new' (n := w.heap.size + 1 + 1) ((w.alloc (.cells #[.int .i64 px, .int .i64 py] 32)).alloc (.cells #[.int .i64 ax, .int .i64 ay] 32)) 32 #[.int .i64 bx, .int .i64 bY] (by simp)).later hb1 |>.two; clear hb1)
    go_ret
    exact ⟨rfl, HB.out⟩
  cases c3 : decide (px ≤ max ax bx)
  · go_enter Try.func99, Try.ntmps99
    go_wp2_with (go_at_call 28; refine (h1.out _).mono ?_; rintro e w1 ⟨rfl, hb1⟩; have HB := Lib.hid (bel_step (bel_alloc (bel_alloc (bel_alloc (bel_refl w) _) _) _) hb1); obtain ⟨k0, k1, _, _⟩ := (((Blk.new w 32 #[.int .i64 px, .int .i64 py]).alloc (.cells #[.int .i64 ax, .int .i64 ay] 32)).alloc (.cells #[.int .i64 bx, .int .i64 bY] 32)).later hb1 |>.two; obtain ⟨k2, k3, _, _⟩ := ((Blk.new' (n := w.heap.size + 1) (w.alloc (.cells #[.int .i64 px, .int .i64 py] 32)) 32 #[.int .i64 ax, .int .i64 ay] (by simp)).alloc (.cells #[.int .i64 bx, .int .i64 bY] 32)).later hb1 |>.two; obtain ⟨k4, k5, _, _⟩ := (Blk.new' (n := w.heap.size + 1 + 1) ((w.alloc (.cells #[.int .i64 px, .int .i64 py] 32)).alloc (.cells #[.int .i64 ax, .int .i64 ay] 32)) 32 #[.int .i64 bx, .int .i64 bY] (by simp)).later hb1 |>.two; clear hb1)
    go_ret
    exact ⟨rfl, HB.out⟩
  cases c4 : decide (min ay bY ≤ py)
  · go_enter Try.func99, Try.ntmps99
    go_wp2_with (go_at_call 28; refine (h1.out _).mono ?_; rintro e w1 ⟨rfl, hb1⟩; have HB := Lib.hid (bel_step (bel_alloc (bel_alloc (bel_alloc (bel_refl w) _) _) _) hb1); obtain ⟨k0, k1, _, _⟩ := (((Blk.new w 32 #[.int .i64 px, .int .i64 py]).alloc (.cells #[.int .i64 ax, .int .i64 ay] 32)).alloc (.cells #[.int .i64 bx, .int .i64 bY] 32)).later hb1 |>.two; obtain ⟨k2, k3, _, _⟩ := ((Blk.new' (n := w.heap.size + 1) (w.alloc (.cells #[.int .i64 px, .int .i64 py] 32)) 32 #[.int .i64 ax, .int .i64 ay] (by simp)).alloc (.cells #[.int .i64 bx, .int .i64 bY] 32)).later hb1 |>.two; obtain ⟨k4, k5, _, _⟩ := (Blk.new' (n := w.heap.size + 1 + 1) ((w.alloc (.cells #[.int .i64 px, .int .i64 py] 32)).alloc (.cells #[.int .i64 ax, .int .i64 ay] 32)) 32 #[.int .i64 bx, .int .i64 bY] (by simp)).later hb1 |>.two; clear hb1)
    go_ret
    exact ⟨rfl, HB.out⟩
  cases c5 : decide (py ≤ max ay bY)
  · go_enter Try.func99, Try.ntmps99
    go_wp2_with (go_at_call 28; refine (h1.out _).mono ?_; rintro e w1 ⟨rfl, hb1⟩; have HB := Lib.hid (bel_step (bel_alloc (bel_alloc (bel_alloc (bel_refl w) _) _) _) hb1); obtain ⟨k0, k1, _, _⟩ := (((Blk.new w 32 #[.int .i64 px, .int .i64 py]).alloc (.cells #[.int .i64 ax, .int .i64 ay] 32)).alloc (.cells #[.int .i64 bx, .int .i64 bY] 32)).later hb1 |>.two; obtain ⟨k2, k3, _, _⟩ := ((Blk.new' (n := w.heap.size + 1) (w.alloc (.cells #[.int .i64 px, .int .i64 py] 32)) 32 #[.int .i64 ax, .int .i64 ay] (by simp)).alloc (.cells #[.int .i64 bx, .int .i64 bY] 32)).later hb1 |>.two; obtain ⟨k4, k5, _, _⟩ := (Blk.new' (n := w.heap.size + 1 + 1) ((w.alloc (.cells #[.int .i64 px, .int .i64 py] 32)).alloc (.cells #[.int .i64 ax, .int .i64 ay] 32)) 32 #[.int .i64 bx, .int .i64 bY] (by simp)).later hb1 |>.two; clear hb1)
    go_ret
    exact ⟨rfl, HB.out⟩
  go_enter Try.func99, Try.ntmps99
  go_wp2_with (go_at_call 28; refine (h1.out _).mono ?_; rintro e w1 ⟨rfl, hb1⟩; have HB := Lib.hid (bel_step (bel_alloc (bel_alloc (bel_alloc (bel_refl w) _) _) _) hb1); obtain ⟨k0, k1, _, _⟩ := (((Blk.new w 32 #[.int .i64 px, .int .i64 py]).alloc (.cells #[.int .i64 ax, .int .i64 ay] 32)).alloc (.cells #[.int .i64 bx, .int .i64 bY] 32)).later hb1 |>.two; obtain ⟨k2, k3, _, _⟩ := ((Blk.new' (n := w.heap.size + 1) (w.alloc (.cells #[.int .i64 px, .int .i64 py] 32)) 32 #[.int .i64 ax, .int .i64 ay] (by simp)).alloc (.cells #[.int .i64 bx, .int .i64 bY] 32)).later hb1 |>.two; obtain ⟨k4, k5, _, _⟩ := (Blk.new' (n := w.heap.size + 1 + 1) ((w.alloc (.cells #[.int .i64 px, .int .i64 py] 32)).alloc (.cells #[.int .i64 ax, .int .i64 ay] 32)) 32 #[.int .i64 bx, .int .i64 bY] (by simp)).later hb1 |>.two; clear hb1)
  go_ret
  exact ⟨rfl, HB.out⟩
/-- the same, at neither end. -/
def betB (p a b : Pt) : Bool := decide (p ≠ a) && decide (p ≠ b) && onB p a b
attribute [local go_sem high] run_eql32 run_neq32
set_option maxRecDepth 100000 in
set_option maxHeartbeats 1000000 in
theorem between_any (p a b : Pt) (w : World) (hp : p.near) (ha : a.near) (hb : b.near) :
    Calls Try.prog 95 #[pv p, pv a, pv b] w fun e w' => e = .returned (.bool (betB p a b)) ∧ Below w.heap.size w w' := by
  have h1 := Lib.hid (fun w => on_any p a b w hp ha hb)
  clear ha hb hp
  unfold betB
  have e1 := ptEq_iff p a
  have e2 := ptEq_iff p b
  rw [decide_not, decide_not, ← e1, ← e2]
  clear e1 e2
  obtain ⟨px, py⟩ := p
  obtain ⟨ax, ay⟩ := a
  obtain ⟨bx, bY⟩ := b
  generalize onB ⟨px, py⟩ ⟨ax, ay⟩ ⟨bx, bY⟩ = d at *
  dsimp only
  cases c1 : ptEq px py ax ay
  · cases c2 : ptEq px py bx bY
    · go_enter Try.func95, Try.ntmps95
      go_wp2_with (go_at_call 99; refine (h1.out _).mono ?_; rintro e w1 ⟨rfl, hb1⟩; have HB := Lib.hid (bel_step (bel_alloc (bel_alloc (bel_alloc (bel_refl w) _) _) _) hb1); clear hb1)
      go_ret
      exact ⟨by simp, HB.out⟩
    · go_enter Try.func95, Try.ntmps95
      go_wp2
      go_ret
      exact ⟨by simp, bel_alloc (bel_alloc (bel_alloc (bel_refl w) _) _) _⟩
  · go_enter Try.func95, Try.ntmps95
    go_wp2
    go_ret
    exact ⟨by simp, bel_alloc (bel_alloc (bel_alloc (bel_refl w) _) _) _⟩
end Pr
end Go.Proofs.Ytdihefgleefhmaa
