/- The walk of grid.Index and of the snake over all nodes, an iterator. -/
import Derived.Test.YtdihefgleefhmaaGcw
import Derived.RangeFuncNested
import Derived.RangeFuncLeaves
import Derived.Shelf.Abstract
import Derived.WalkKit
import Derived.OwnWalkIn
import Derived.TacticsInMore
import Derived.LoopNIn
import Derived.LoopIn
import Derived.LoopTactic
namespace Go.Proofs.Ytdihefgleefhmaa
open Go.RowKit Go.Shelf Go.Proofs.Ytdihefgleefhmaa.PGridArounds Go.Proofs.YtdihefgleefhmaaW.PrintWords Go.Proofs.YtdihefgleefhmaaW.PrintLast Go.Proofs.YtdihefgleefhmaaW.PrintMore
attribute [local go_sem] Oper.semAt_some
namespace Gn
open Gc
structure G where
  x : Int
  y : Int
  c : Int
  M : Nat
  R : Nat
def G.ok (g : G) : Prop := 0 ≤ g.x ∧ g.x ≤ 65535 ∧ 0 ≤ g.y ∧ g.y ≤ 65535 ∧ 1 ≤ g.c ∧ g.c ≤ 256 ∧ 1 ≤ g.M ∧ g.M ≤ 20 ∧ 1 ≤ g.R ∧ g.R ≤ 20
abbrev G.v (g : G) : Value := .agg #[.int .i64 g.x, .int .i64 g.y, .int .i64 g.c, .int .i64 g.M, .int .i64 g.R]
theorem later {J : World → Prop} {B : Nat} (hJ : AbidesFrom B (fun (_ : Unit) => J)) {W W' : World} (h : J W) (hb : Below W.heap.size W W') : J W' :=
  hJ () W W' none h ⟨hb.os, hb.tape, hb.output, hb.size, fun k hk _ => hb.block k hk⟩ (fun r e => by cases e)

set_option maxHeartbeats 1000000 in
theorem index_out (g : G) (i j : Int) (w : World) (h : i < 0 ∨ j < 0 ∨ (g.M : Int) ≤ i ∨ (g.R : Int) ≤ j) :
    Calls Try.prog 15 #[g.v, .int .i64 i, .int .i64 j] w fun e w' => e = .returned (.int .i64 (-1)) ∧ Below w.heap.size w w' := by
  have HB := Aside0.mk (Below.refl w.heap.size w)
  by_cases h1 : i < 0
  · clear h
    go_enter Try.func15, Try.ntmps15
    go_wp2
    go_ret
    exact ⟨rfl, bel_alloc HB.out _⟩
  by_cases h2 : j < 0
  · clear h
    go_enter Try.func15, Try.ntmps15
    go_wp2
    go_ret
    exact ⟨rfl, bel_alloc HB.out _⟩
  by_cases h3 : (g.M : Int) ≤ i
  · clear h
    go_enter Try.func15, Try.ntmps15
    go_wp2
    go_ret
    exact ⟨rfl, bel_alloc HB.out _⟩
  · have h4 : (g.R : Int) ≤ j := by omega
    clear h
    go_enter Try.func15, Try.ntmps15
    go_wp2
    go_ret
    exact ⟨rfl, bel_alloc HB.out _⟩
set_option maxHeartbeats 1000000 in
theorem index_in (g : G) (i j : Nat) (w : World) (hi : i < g.M) (hj : j < g.R) (hM : g.M ≤ 20) (hR : g.R ≤ 20) (r : Int) (hr : r = (j : Int) * g.M + i) :
    Calls Try.prog 15 #[g.v, .int .i64 i, .int .i64 j] w fun e w' => e = .returned (.int .i64 r) ∧ Below w.heap.size w w' := by
  have HB := Aside0.mk (Below.refl w.heap.size w)
  have h1 : ¬ ((i : Int) < 0) := by omega
  have h2 : ¬ ((j : Int) < 0) := by omega
  have h3 : ¬ ((g.M : Int) ≤ i) := by omega
  have h4 : ¬ ((g.R : Int) ≤ j) := by omega
  have hp : (j : Int) * g.M ≤ 20 * 20 := Int.mul_le_mul (by omega) (by omega) (by omega) (by omega)
  have hq : 0 ≤ (j : Int) * g.M := Int.mul_nonneg (by omega) (by omega)
  have e1 : wrap64 ((j : Int) * g.M) = (j : Int) * g.M := w64 (by omega) (by omega)
  have e2 : wrap64 ((j : Int) * g.M + i) = (j : Int) * g.M + i := w64 (by omega) (by omega)
  have HR := Lib.hid hr
  clear hr hp hq
  go_enter Try.func15, Try.ntmps15
  go_wp2
  go_ret
  exact ⟨by rw [HR.out]; rfl, bel_alloc HB.out _⟩
theorem at_any (g : G) (hg : g.ok) (i j : Nat) (w : World) (hi : i < g.M) (hj : j < g.R) (k : Int) (hk : k = (j : Int) * g.M + i) :
    Calls Try.prog 16 #[g.v, .int .i64 k] w fun e w' => e = .returned (.agg #[.int .i64 (g.x + i * g.c), .int .i64 (g.y + j * g.c)]) ∧ Below w.heap.size w w' := by
  obtain ⟨a1, a2, a3, a4, a5, a6, a7, a8, a9, a10⟩ := hg
  refine grid_Grid_At.calls g.x g.y g.c g.M g.R k _ _ w ?_
  have hp : (i : Int) * g.c ≤ 20 * 256 := Int.mul_le_mul (by omega) (by omega) (by omega) (by omega)
  have hq : 0 ≤ (i : Int) * g.c := Int.mul_nonneg (by omega) (by omega)
  have hp2 : (j : Int) * g.c ≤ 20 * 256 := Int.mul_le_mul (by omega) (by omega) (by omega) (by omega)
  have hq2 : 0 ≤ (j : Int) * g.c := Int.mul_nonneg (by omega) (by omega)
  have hk0 : k = ((j * g.M + i : Nat) : Int) := by rw [hk]; push_cast; rfl
  have hm : Int.tmod k g.M = i := by
    rw [hk0, Int.tmod_eq_emod_of_nonneg (by omega), ← Int.natCast_emod, Nat.mul_comm, Nat.mul_add_mod, Nat.mod_eq_of_lt hi]
  have hd : Int.tdiv k g.M = j := by
    rw [hk0, Int.tdiv_eq_ediv_of_nonneg (by omega), ← Int.natCast_ediv, Nat.mul_comm, Nat.mul_add_div (by omega), Nat.div_eq_of_lt hi]; simp
  unfold grid_Grid_At.f
  rw [if_neg (by omega), hm, hd, w64 (x := (i : Int) * g.c) (by omega) (by omega), w64 (x := (j : Int)) (by omega) (by omega), w64 (x := (j : Int) * g.c) (by omega) (by omega),
    w64 (x := g.x + (i : Int) * g.c) (by omega) (by omega), w64 (x := g.y + (j : Int) * g.c) (by omega) (by omega)]
theorem index_at (g : G) (i j : Int) (w : World) (hi0 : 0 ≤ i) (hi : i < g.M) (hj0 : 0 ≤ j) (hj : j < g.R) (hM : g.M ≤ 20) (hR : g.R ≤ 20) :
    Calls Try.prog 15 #[g.v, .int .i64 i, .int .i64 j] w fun e w' => e = .returned (.int .i64 (j * g.M + i)) ∧ Below w.heap.size w w' := by
  obtain ⟨i', rfl⟩ := Int.eq_ofNat_of_zero_le hi0
  obtain ⟨j', rfl⟩ := Int.eq_ofNat_of_zero_le hj0
  exact index_in g i' j' w (by omega) (by omega) hM hR _ rfl
theorem at_at (g : G) (hg : g.ok) (i j : Int) (w : World) (hi0 : 0 ≤ i) (hi : i < g.M) (hj0 : 0 ≤ j) (hj : j < g.R) :
    Calls Try.prog 16 #[g.v, .int .i64 (j * g.M + i)] w fun e w' => e = .returned (.agg #[.int .i64 (g.x + i * g.c), .int .i64 (g.y + j * g.c)]) ∧ Below w.heap.size w w' := by
  obtain ⟨i', rfl⟩ := Int.eq_ofNat_of_zero_le hi0
  obtain ⟨j', rfl⟩ := Int.eq_ofNat_of_zero_le hj0
  exact at_any g hg i' j' w (by omega) (by omega) _ rfl
def sC (M k : Nat) : Int := if k / M % 2 = 1 then (M : Int) - 1 - (k % M : Nat) else (k % M : Nat)
def sI (g : G) (k : Nat) : Int := (k / g.M : Nat) * g.M + sC g.M k
def sX (g : G) (k : Nat) : Int := g.x + sC g.M k * g.c
def sY (g : G) (k : Nat) : Int := g.y + (k / g.M : Nat) * g.c
def enc (g : G) (k : Nat) : Array Value := #[.int .i64 (sI g k), .agg #[.int .i64 (sX g k), .int .i64 (sY g k)]]
theorem div_mul_add {M j t : Nat} (ht : t < M) : (j * M + t) / M = j ∧ (j * M + t) % M = t := by
  constructor
  · rw [Nat.mul_comm, Nat.mul_add_div (by omega), Nat.div_eq_of_lt ht]; rfl
  · rw [Nat.mul_comm, Nat.mul_add_mod, Nat.mod_eq_of_lt ht]
theorem enc_odd (g : G) (j t : Nat) (ht : t < g.M) (h : j % 2 = 1) : enc g (j * g.M + t) = #[.int .i64 ((j : Int) * g.M + ((g.M : Int) - 1 - t)), .agg #[.int .i64 (g.x + ((g.M : Int) - 1 - t) * g.c), .int .i64 (g.y + (j : Int) * g.c)]] := by
  obtain ⟨e1, e2⟩ := div_mul_add (j := j) ht
  unfold enc sI sX sY sC
  rw [e1, e2, if_pos h]
theorem enc_even (g : G) (j t : Nat) (ht : t < g.M) (h : ¬ j % 2 = 1) : enc g (j * g.M + t) = #[.int .i64 ((j : Int) * g.M + (t : Int)), .agg #[.int .i64 (g.x + (t : Int) * g.c), .int .i64 (g.y + (j : Int) * g.c)]] := by
  obtain ⟨e1, e2⟩ := div_mul_add (j := j) ht
  unfold enc sI sX sY sC
  rw [e1, e2, if_neg h]
theorem wide_fn (f : FuncId) : Fence.wide.fn f ↔ True := Iff.rfl
theorem wide_depth : Fence.wide.depth = none := rfl
attribute [local go_sem] wide_fn wide_depth
theorem range_part {k N : Nat} (h : k < N) : List.range k ++ [k] <+: List.range N := by
  obtain ⟨d, rfl⟩ : ∃ d, N = (k + 1) + d := ⟨N - (k + 1), by omega⟩
  rw [← List.range_succ, List.range_add]
  exact List.prefix_append _ _
/-- block Bn holds the grid. -/
def Holds (g : G) (Bn : Nat) (W : World) : Prop := W.heap[Bn]? = some (.cells #[.int .i64 g.x, .int .i64 g.y, .int .i64 g.c, .int .i64 g.M, .int .i64 g.R] 25 (0, 0))
theorem Holds.later {g : G} {Bn : Nat} {W W' : World} (h : Holds g Bn W) (hb : Below W.heap.size W W') : Holds g Bn W' := (hb.block Bn (Array.getElem?_eq_some_iff.1 h).1).trans h
theorem Holds.cells {g : G} {Bn : Nat} {W : World} (h : Holds g Bn W) : W.cell? ⟨Bn, 0, none⟩ = some (.int .i64 g.x) ∧ W.cell? ⟨Bn, 1, none⟩ = some (.int .i64 g.y) ∧ W.cell? ⟨Bn, 2, none⟩ = some (.int .i64 g.c) ∧ W.cell? ⟨Bn, 3, none⟩ = some (.int .i64 g.M) ∧ W.cell? ⟨Bn, 4, none⟩ = some (.int .i64 g.R) := by
  unfold Holds at h
  refine ⟨?_, ?_, ?_, ?_, ?_⟩ <;> simp [World.cell?, h]
/-- what a round keeps. -/
def Kp (Bn : Nat) (A B : World) : Prop := B.heap[Bn]? = A.heap[Bn]?
set_option maxRecDepth 100000 in
set_option maxHeartbeats 2000000 in
theorem snake1 (g : G) (hg : g.ok) (n : Nat) (l Bn : Nat) (J Jx : List Nat → World → Prop)
    (hY : ∀ x W, x < g.R * g.M → J (List.range x) W → YieldAt Fence.wide (n - 1) Try.prog l (enc g x) W fun e W' =>
      (e = .returned (.bool true) ∧ J (List.range x ++ [x]) W' ∧ Kp Bn W W') ∨ (e = .returned (.bool false) ∧ Jx (List.range x ++ [x]) W'))
    (W : World) (hJ : AbidesFrom W.heap.size J)
    (hc0 : Holds g Bn W) (h0 : J [] W) :
    CallsIn Fence.wide n Try.prog 31 #[.func (.yield l) #[] #[], .pointer (some ⟨Bn, 0, none⟩)] W fun e W' => (∃ v, e = .returned v) ∧
      ((∃ ys, ys = List.range (g.R * g.M) ∧ J ys W') ∨ (∃ pre, pre <+: List.range (g.R * g.M) ∧ Jx pre W')) := by
  have hg' := hg
  obtain ⟨a1, a2, a3, a4, a5, a6, a7, a8, a9, a10⟩ := hg'
  have HY := Lib.hid hY
  have HJ := Lib.hid hJ
  clear hY hJ
  have HW := Aside0.mk hc0
  clear hc0
  refine callsIn_of_wp Try.func31 rfl trivial ?_ rfl
  simp only [Try.ntmps31, List.size_toArray, List.length_cons, List.length_nil, Nat.reduceAdd, Nat.reduceSub, Array.replicate_succ, Array.replicate_zero, List.push_toArray, List.append_toArray, List.nil_append, List.cons_append]
  obtain ⟨c0, c1, c2, c3, c4⟩ := HW.out.cells
  gi_wp2
  gi_loopw [8] (fun p wr => ∃ j : Nat, p = .int .i64 j ∧ j ≤ g.R ∧ Aside0 (Holds g Bn wr) ∧ Aside0 (J (List.range (j * g.M)) wr))
    (fun p wr => g.R - (intOf p).toNat)
  case atStart => exact ⟨0, rfl, Nat.zero_le _, HW, ⟨by simpa using h0⟩⟩
  case round =>
    obtain ⟨j, rfl, hj, HB, HS⟩ := hrel
    by_cases hlt : j < g.R
    · obtain ⟨k0, k1, k2, k3, k4⟩ := HB.out.cells
      have i1 : (j : Int) < (g.R : Int) := by omega
      gi_wp2
      gi_loopw [13] (fun p wr => ∃ t : Nat, p = .int .i64 t ∧ t ≤ g.M ∧ Aside0 (Holds g Bn wr) ∧ Aside0 (J (List.range (j * g.M + t)) wr))
        (fun p wr => g.M - (intOf p).toNat)
      case atStart => exact ⟨0, rfl, Nat.zero_le _, HB, HS⟩
      case round =>
        obtain ⟨t, rfl, ht, HB2, HS2⟩ := hrel
        by_cases hlt2 : t < g.M
        · obtain ⟨k0, k1, k2, k3, k4⟩ := HB2.out.cells
          have i2 : (t : Int) < (g.M : Int) := by omega
          have hlen : (List.range (j * g.M + t)).length < g.R * g.M := by
            rw [List.length_range]
            have : (j + 1) * g.M ≤ g.R * g.M := Nat.mul_le_mul_right _ hlt
            rw [Nat.add_mul] at this; omega
          by_cases hodd : j % 2 = 1
          · have hb : ((j : Int) % 2 == 1) = true := by simp; omega
            have e1 : wrap64 ((g.M : Int) - 1) = (g.M : Int) - 1 := w64 (by omega) (by omega)
            have e2 : wrap64 ((g.M : Int) - 1 - t) = (g.M : Int) - 1 - t := w64 (by omega) (by omega)
            gi_wp2_with (first | (gi_at_call 15; refine (callsIn_wide.2 (index_at g _ _ _ (by omega) (by omega) (by omega) (by omega) a8 a10)).mono ?_; rintro e w2 ⟨rfl, hb2⟩; have HB3 := Aside0.mk (HB2.out.later hb2); have HS3 := Aside0.mk (later (J := J (List.range (j * g.M + t))) (B := W.heap.size) (fun _ A B row => HJ.out _ A B row) HS2.out hb2); obtain ⟨m0, m1, m2, m3, m4⟩ := HB3.out.cells; clear hb2) | (gi_at_call 16; refine (callsIn_wide.2 (at_at g hg _ _ _ (by omega) (by omega) (by omega) (by omega))).mono ?_; rintro e w3 ⟨rfl, hb3⟩; have HB4 := Aside0.mk (HB3.out.later hb3); obtain ⟨fn, tmps, assign, body, hy, hR⟩ := HY.out (j * g.M + t) w3 (by rw [List.length_range] at hlen; exact hlen) (later (J := J (List.range (j * g.M + t))) (B := W.heap.size) (fun _ A B row => HJ.out _ A B row) HS3.out hb3); rw [enc_odd g j t hlt2 hodd] at hy; have HR := Lib.hid hR; clear hR hb3))
            refine HR.out.mono ?_
            rintro e W3 (⟨rfl, hJ3, hk3⟩ | ⟨rfl, hJx3⟩)
            · have HB5 := Aside0.mk (show Holds g Bn W3 from Eq.trans hk3 HB4.out)
              have HJ3 := Aside0.mk hJ3
              clear hJ3 hk3
              gi_wp2
              go_roundw
              case rel => exact ⟨t + 1, by go_num, by omega, HB5, ⟨by rw [← Nat.add_assoc, List.range_succ]; exact HJ3.out⟩⟩
              case measure => simp [intOf]; omega
            · have HJ3 := Aside0.mk hJx3
              clear hJx3
              gi_wp2
              refine bodyPost_ret (results_none rfl _ _ _) rfl ?_
              exact ⟨⟨_, rfl⟩, .inr ⟨_, range_part (by rw [List.length_range] at hlen; exact hlen), HJ3.out⟩⟩
          · have hb : ((j : Int) % 2 == 1) = false := by simp; omega
            gi_wp2_with (first | (gi_at_call 15; refine (callsIn_wide.2 (index_at g _ _ _ (by omega) (by omega) (by omega) (by omega) a8 a10)).mono ?_; rintro e w2 ⟨rfl, hb2⟩; have HB3 := Aside0.mk (HB2.out.later hb2); have HS3 := Aside0.mk (later (J := J (List.range (j * g.M + t))) (B := W.heap.size) (fun _ A B row => HJ.out _ A B row) HS2.out hb2); obtain ⟨m0, m1, m2, m3, m4⟩ := HB3.out.cells; clear hb2) | (gi_at_call 16; refine (callsIn_wide.2 (at_at g hg _ _ _ (by omega) (by omega) (by omega) (by omega))).mono ?_; rintro e w3 ⟨rfl, hb3⟩; have HB4 := Aside0.mk (HB3.out.later hb3); obtain ⟨fn, tmps, assign, body, hy, hR⟩ := HY.out (j * g.M + t) w3 (by rw [List.length_range] at hlen; exact hlen) (later (J := J (List.range (j * g.M + t))) (B := W.heap.size) (fun _ A B row => HJ.out _ A B row) HS3.out hb3); rw [enc_even g j t hlt2 hodd] at hy; have HR := Lib.hid hR; clear hR hb3))
            refine HR.out.mono ?_
            rintro e W3 (⟨rfl, hJ3, hk3⟩ | ⟨rfl, hJx3⟩)
            · have HB5 := Aside0.mk (show Holds g Bn W3 from Eq.trans hk3 HB4.out)
              have HJ3 := Aside0.mk hJ3
              clear hJ3 hk3
              gi_wp2
              go_roundw
              case rel => exact ⟨t + 1, by go_num, by omega, HB5, ⟨by rw [← Nat.add_assoc, List.range_succ]; exact HJ3.out⟩⟩
              case measure => simp [intOf]; omega
            · have HJ3 := Aside0.mk hJx3
              clear hJx3
              gi_wp2
              refine bodyPost_ret (results_none rfl _ _ _) rfl ?_
              exact ⟨⟨_, rfl⟩, .inr ⟨_, range_part (by rw [List.length_range] at hlen; exact hlen), HJ3.out⟩⟩
        · have i2 : ¬ (t : Int) < (g.M : Int) := by omega
          have ht' : t = g.M := by omega
          gi_wp2
          go_roundw
          case rel => exact ⟨j + 1, by go_num, by omega, HB2, ⟨by rw [show (j + 1) * g.M = j * g.M + t by rw [ht', Nat.add_mul]; omega]; exact HS2.out⟩⟩
          case measure => simp [intOf]; omega
    · have i1 : ¬ (j : Int) < (g.R : Int) := by omega
      have hj' : j = g.R := by omega
      gi_wp2
      go_end0
      exact ⟨⟨_, rfl⟩, .inl (by rw [← hj']; exact HS.out)⟩
set_option maxHeartbeats 1000000 in
/-- **g.Snake()**: the receiver is boxed; the function value captures the box. -/
theorem snake_in (g : G) (n : Nat) (w : World) :
    CallsIn Fence.wide n Try.prog 17 #[g.v] w fun e w' => e = .returned (.func (.func 31) #[] #[.pointer (some ⟨w.heap.size, 0, none⟩)]) ∧ w' = w.alloc (.cells #[.int .i64 g.x, .int .i64 g.y, .int .i64 g.c, .int .i64 g.M, .int .i64 g.R] 25) := by
  refine callsIn_of_wp Try.func17 rfl trivial ?_ rfl
  simp only [Try.ntmps17, List.size_toArray, List.length_cons, List.length_nil, Nat.reduceAdd, Nat.reduceSub, Array.replicate_succ, Array.replicate_zero, List.push_toArray, List.append_toArray, List.nil_append, List.cons_append]
  gi_wp2
  go_ret
  exact ⟨rfl, rfl⟩
theorem kp_t (Bn : Nat) {A B C : World} (h : Kp Bn A B) (k : Kp Bn B C) : Kp Bn A C := Eq.trans k h
theorem kp_b {Bn : Nat} {w : World} (hB : Bn < w.heap.size) (W : World) (l : Nat) (o o' : Obj) (hl : w.heap.size ≤ l) (_ : W.heap[l]? = some o) (_ : o.isCells = false) (_ : o.isWalk = false) : Kp Bn W (W.putObj l o') :=
  World.putObj_heap_other (by omega)
end Gn
end Go.Proofs.Ytdihefgleefhmaa
