/- The walk of the law GridArounds, out of printed contracts of what it calls: small lemmas, and the ways that end early. -/
import Derived.Test.YtdihefgleefhmaaGap
import Derived.LoopTactic
import Derived.Test.YtdihefgleefhmaaRg
namespace Go.Proofs.Ytdihefgleefhmaa
open Go.RowKit Go.Proofs.Ytdihefgleefhmaa.PGridArounds Go.Proofs.YtdihefgleefhmaaW.PrintWords Go.Proofs.YtdihefgleefhmaaW.PrintLast Go.Proofs.YtdihefgleefhmaaW.PrintMore
attribute [local go_sem] max2_int min2_int max_two min_two max_three min_three max_four min_four
namespace Ga
open Gc
def clamp (x : Int) : Int := if x < -2147483648 then -2147483648 else if 2147483648 < x then 2147483648 else x
def tame (p : S32) : S32 := ⟨clamp p.f0, clamp p.f1⟩
theorem tame_any (p : S32) (w : World) : Calls Try.prog 12 #[.agg #[.int .i64 p.f0, .int .i64 p.f1]] w fun e w' => e = .returned (.agg #[.int .i64 (tame p).f0, .int .i64 (tame p).f1]) ∧ Below w.heap.size w w' :=
  isohyetlaw06_Tame.calls p.f0 p.f1 _ _ w (by
    unfold isohyetlaw06_Tame.f tame clamp mn mx
    simp only [Option.some.injEq, Prod.mk.injEq]
    constructor <;> (repeat' split) <;> omega)
set_option maxHeartbeats 1000000 in
set_option maxRecDepth 100000 in
theorem a_long (A0 : Option Addr) (c0 : Nat) (l : List S32) (a1 : Int) (w : World) (hl : 30 < l.length) :
    Calls Try.prog 4 #[.slice A0 l.length c0, .int .i64 a1] w fun e w' => e = .returned (.bool true) ∧ Below w.heap.size w w' := by
  have hl' : (30 : Int) < (l.length : Int) := by omega
  go_enter Try.func4, Try.ntmps4
  go_wp2_with (go_at_call 9; refine (fit_any _).mono ?_; rintro e w1 ⟨rfl, hb1⟩; have HB1 := Aside0.mk hb1; clear hb1)
  go_ret
  exact ⟨rfl, HB1.out⟩
theorem take_tame {l : List S32} {k : Nat} (h : k < l.length) : (l.take (k + 1)).map tame = (l.take k).map tame ++ [tame (rd_T32 l k)] := by
  rw [List.take_succ_eq_append_getElem h, List.map_append, List.map_singleton, rd_at h]
theorem near_tame (p : S32) : Near (tame p) := by
  unfold Near tame clamp; dsimp only
  refine ⟨?_, ?_, ?_, ?_⟩ <;> (repeat' split) <;> omega
theorem near_all (l : List S32) : ∀ q ∈ l.map tame, Near q := by
  intro q hq; obtain ⟨p, _, rfl⟩ := List.mem_map.1 hq; exact near_tame p
theorem around_any (A : Option Addr) (c : Nat) (T : List S32) (a1 r1 r2 r3 r4 r5 r6 : Int) (w : World) (hC : Kd.C k32 w A T.length T) (hc : T.length ≤ c) (hr : (r1, r2, r3, r4, r5, r6) = ans T a1) (hT : ∀ q ∈ T, Near q) (hl : T.length ≤ 40) :
    Calls Try.prog 13 #[.slice A T.length c, .int .i64 a1] w fun e w' => e = .returned (.tuple #[.agg #[.int .i64 r1, .int .i64 r2, .int .i64 r3, .int .i64 r4, .int .i64 r5], .int .i64 r6]) ∧ Below w.heap.size w w' :=
  grid_Around.calls 60 A c T a1 r1 r2 r3 r4 r5 r6 w hC hc (by rw [hr]; exact around_is T a1 hT hl)
theorem blk_one (W : World) (o1 o2 : Obj) : ((W.alloc o1).alloc o2).heap[W.heap.size]? = some o1 := (Below.heap_alloc _ _ _ (by simp)).trans (heap_alloc_new W _)
theorem blk_two (W : World) (o1 o2 : Obj) : ((W.alloc o1).alloc o2).heap[W.heap.size + 1]? = some o2 := by
  have := heap_alloc_new (W.alloc o1) o2; rwa [World.size_alloc] at this
theorem bel_two (W : World) (o1 o2 : Obj) : Below W.heap.size W ((W.alloc o1).alloc o2) := bel_alloc (bel_alloc (Below.refl _ _) _) _
theorem cell_in {w : World} {b : Nat} {cs : Array Value} {t : TypeId} {fr : Nat × Nat} (h : w.heap[b]? = some (.cells cs t fr)) (i : Nat) : w.cell? ⟨b, i, none⟩ = cs[i]? := by simp [World.cell?, h]
theorem frozen_in {w : World} {b : Nat} {cs : Array Value} {t : TypeId} (h : w.heap[b]? = some (.cells cs t (0, 0))) (i : Nat) : w.frozen? ⟨b, i, none⟩ = false := by simp [World.frozen?, h]
theorem cell_far {w : World} {b c i j : Nat} {v u : Value} (h : c ≠ b) (k : w.cell? ⟨c, j, none⟩ = some u) : (w.setCell ⟨b, i, none⟩ v).cell? ⟨c, j, none⟩ = some u :=
  (World.cell?_of_block (Below.heap_setCell w ⟨b, i, none⟩ v c h)).trans k
theorem frozen_far {w : World} {b c i j : Nat} {v : Value} (h : c ≠ b) (k : w.frozen? ⟨c, j, none⟩ = false) : (w.setCell ⟨b, i, none⟩ v).frozen? ⟨c, j, none⟩ = false :=
  (World.frozen?_of_block (Below.heap_setCell w ⟨b, i, none⟩ v c h)).trans k
theorem set_in {w : World} {b : Nat} {cs : Array Value} {t : TypeId} {fr : Nat × Nat} (h : w.heap[b]? = some (.cells cs t fr)) (i : Nat) (v : Value) :
    (w.setCell ⟨b, i, none⟩ v).heap[b]? = some (.cells (cs.setIfInBounds i v) t fr) := by
  simp [World.setCell, Array.getElem?_modify, h]
theorem heap_far {w : World} {b c i : Nat} {v : Value} {o : Option Obj} (h : c ≠ b) (k : w.heap[c]? = o) : (w.setCell ⟨b, i, none⟩ v).heap[c]? = o :=
  (Below.heap_setCell w ⟨b, i, none⟩ v c h).trans k
/-- two blocks hold the least and the greatest coordinates. -/
def HoldsBox (w : World) (b c : Nat) (x : Box) : Prop :=
  w.heap[b]? = some (.cells #[.int .i64 x.a, .int .i64 x.b] 32 (0, 0)) ∧ w.heap[c]? = some (.cells #[.int .i64 x.c, .int .i64 x.d] 32 (0, 0))
theorem not_yet {ops : Array Oper} {L : Array Bool} {s i : Nat} (hsh : Go.Rg.Shut .any ops L) (hw : Go.Rg.Waits .any ops s i) (hi : L.getD i false = false) : L.getD s false = false := by
  cases hq : L.getD s false with
  | false => rfl
  | true => rw [hsh s i hw hq] at hi; exact hi
def putBox (V : World) (b10 b11 : Nat) (x : Box) (q : S32) : World :=
  (((V.drew.setCell ⟨b10, 0, none⟩ (.int .i64 (mn x.a q.f0))).setCell ⟨b10, 1, none⟩ (.int .i64 (mn x.b q.f1))).setCell ⟨b11, 0, none⟩ (.int .i64 (mx x.c q.f0))).setCell ⟨b11, 1, none⟩ (.int .i64 (mx x.d q.f1))
theorem put_box {V : World} {b10 b11 : Nat} {x : Box} (hne : b10 ≠ b11) (h : HoldsBox V b10 b11 x) (q : S32) : HoldsBox (putBox V b10 b11 x q) b10 b11 (x.add q) := by
  obtain ⟨h1, h2⟩ := h
  have h1 : V.drew.heap[b10]? = some (.cells #[.int .i64 x.a, .int .i64 x.b] 32 (0, 0)) := h1
  have h2 : V.drew.heap[b11]? = some (.cells #[.int .i64 x.c, .int .i64 x.d] 32 (0, 0)) := h2
  exact ⟨heap_far hne (heap_far hne (set_in (set_in h1 0 _) 1 _)), set_in (set_in (heap_far (Ne.symm hne) (heap_far (Ne.symm hne) h2)) 0 _) 1 _⟩
theorem put_below {B V : World} {b10 b11 : Nat} {x : Box} {q : S32} (h0 : B.heap.size ≤ b10) (h1 : B.heap.size ≤ b11) (h : Below B.heap.size B V) : Below B.heap.size B (putBox V b10 b11 x q) :=
  (((h.drew.setCell (p := ⟨b10, 0, none⟩) h0 _).setCell (p := ⟨b10, 1, none⟩) h0 _).setCell (p := ⟨b11, 0, none⟩) h1 _).setCell (p := ⟨b11, 1, none⟩) h1 _
theorem take_box {T : List S32} {x : Box} {k : Nat} (h : k < T.length) : x.all (T.take (k + 1)) = (x.all (T.take k)).add (rd_T32 T k) := by
  rw [rd_at h]; unfold Box.all; rw [List.take_succ_eq_append_getElem h, List.foldl_append]; rfl
set_option maxHeartbeats 1000000 in
set_option maxRecDepth 100000 in
theorem a_low (A0 : Option Addr) (c0 : Nat) (l : List S32) (a1 : Int) (w : World) (hl : l.length ≤ 30) (hr : Kd.C k32 w A0 l.length l) (hlow : (((l.length : Int) == 0) || decide (a1 < 1)) = true) (hans : (0, 0, 0, 0, 0, 3) = ans (l.map tame) a1) :
    Calls Try.prog 4 #[.slice A0 l.length c0, .int .i64 a1] w fun e w' => e = .returned (.bool true) ∧ Below w.heap.size w w' := by
  have HA := Aside0.mk hans
  clear hans
  have hl' : (l.length : Int) ≤ 30 := by omega
  have hu30 := Try.underlying30
  have hu32 := Try.underlying32
  have HC := Aside0.mk hr
  clear hr
  go_enter Try.func4, Try.ntmps4
  go_wp2_with (go_at_call 9; refine (fit_any _).mono ?_; rintro e w1 ⟨rfl, hb1⟩; have HB1 := Aside0.mk hb1; clear hb1)
  go_loopw [25, 5] (fun i v wr => ∃ (k : Nat) (vp : Value), k ≤ l.length ∧ i = .int .i64 k ∧ vp = v ∧ Aside0 (Kd.R k32 32 wr w.heap.size (fun _ => True) vp ((l.take k).map tame)) ∧ Aside0 (Below w.heap.size w wr)) (fun i _ _ => l.length - (intOf i).toNat)
  case atStart => exact ⟨0, _, Nat.zero_le _, rfl, rfl, ⟨Kd.R_nil _ _ _ _ _⟩, HB1⟩
  case round =>
    obtain ⟨k, vp, hk, rfl, rfl, HR, HB⟩ := hrel
    by_cases hlt : k < l.length
    · obtain ⟨ad, hA, hx0, hx1⟩ := at_T32 (Kd.C_below HC.out HB.out) (k : Int) (by omega) (by omega)
      subst hA
      simp only [Int.toNat_natCast] at hx0 hx1
      have i1 : (k : Int) < (l.length : Int) := by omega
      have hlen : ((l.take k).map tame).length = k := by simp; omega
      have hz := HB.out.size
      go_wp2_with (first | (go_at_call 12; refine (tame_any _ _).mono ?_; rintro e w2 ⟨rfl, hb2⟩; have HB2 := Aside0.mk (bel_step (bel_alloc HB.out _) hb2); have HR2 := Aside0.mk (Kd.R_below (Kd.R_below HR.out ((Below.refl _ _).alloc (Nat.le_refl _) _)) hb2); clear hb2) | (at_builtin; refine Kd.R_append k32 (w0 := w) w.heap.size rfl (.tmp 29) (.tmp 32) 30 32 (.agg #[.int .i64 0, .int .i64 0]) 16 rfl Try.underlying30 info32 rfl (by decide) (by omega) vp ((l.take k).map tame) (tame (rd_T32 l k)) [.int .i64 _, .int .i64 _] (fun _ => True) (fun _ => False) rfl rfl ?aP (fun _ hk => hk.elim) (fun _ _ => trivial) ?aO ?aB ?aS ?aL ?_; (case aP => exact k32_mkM _ _ _ _); (case aO => exact HR2.out); (case aB => exact HB2.out); (case aS => exact HB2.out.size); (case aL => rw [hlen]; omega); intro v3 w3 hr3 hb3 hg3 hat3; have HR3 := Aside0.mk hr3; have HB3 := Aside0.mk hb3; clear hr3 hb3 hg3 hat3))
      go_roundw
      case rel => exact ⟨k + 1, _, by omega, by go_num, rfl, ⟨by rw [take_tame hlt]; exact HR3.out⟩, HB3⟩
      case measure => simp [intOf]; omega
    · have hk' : k = l.length := by omega
      subst hk'
      rw [List.take_length] at HR
      obtain ⟨A2, c2, rfl, hc2, hC2⟩ := Kd.R_reads HR.out
      have HC2 := Aside0.mk hC2
      clear hC2
      have hz := HB.out.size
      have hlen : (l.map tame).length = l.length := by simp
      rw [hlen] at hc2
      have HAR := around_any A2 c2 (l.map tame) a1 0 0 0 0 0 3 wr HC2.out (by rw [hlen]; exact hc2) HA.out (near_all l) (by rw [hlen]; omega)
      rw [hlen] at HAR
      have HAR2 := Lib.hid HAR
      clear HAR
      by_cases hn : ((l.length : Int) == 0) = true
      · go_wp2_with (go_at_call 13; refine HAR2.out.mono ?_; rintro e w4 ⟨rfl, hb4⟩; have HB4 := Aside0.mk (bel_step HB.out hb4); clear hb4)
        go_ret
        exact ⟨rfl, bel_alloc HB4.out _⟩
      · have hn' : ((l.length : Int) == 0) = false := by simpa using hn
        have h1 : a1 < 1 := by simpa [hn'] using hlow
        clear hn hlow
        go_wp2_with (go_at_call 13; refine HAR2.out.mono ?_; rintro e w4 ⟨rfl, hb4⟩; have HB4 := Aside0.mk (bel_step HB.out hb4); clear hb4)
        go_ret
        exact ⟨rfl, bel_alloc HB4.out _⟩
theorem nd_more {far cell : Int} (h : far / cell * cell < far) : nd far cell - 1 = far / cell + 1 := by
  have e := Int.mul_ediv_add_emod far cell
  rw [Int.mul_comm] at e
  unfold nd; rw [if_pos (by omega)]; omega
theorem nd_less {far cell : Int} (h : ¬ far / cell * cell < far) : nd far cell - 1 = far / cell := by
  have e := Int.mul_ediv_add_emod far cell
  rw [Int.mul_comm] at e
  unfold nd; rw [if_neg (by omega)]; omega
theorem nd_bounds {far cell : Int} (h0 : 0 ≤ far) (h1 : far ≤ 4294967296) (hc : 1 ≤ cell) : 1 ≤ nd far cell ∧ nd far cell ≤ 4294967298 := by
  obtain ⟨e1, e2, _⟩ := quo_bounds h0 h1 hc
  unfold nd; split <;> omega
theorem ans_main (l : List S32) (a1 : Int) (h : 0 < (l.map tame).length) (h1 : 1 ≤ a1) : ans (l.map tame) a1 = fin ((Box.one (rd_T32 (l.map tame) 0)).all (l.map tame)) a1 := by
  rw [show (0 : Int) = ((0 : Nat) : Int) from rfl, rd_at h]
  generalize l.map tame = T at *
  cases T with
  | nil => simp at h
  | cons q r => show (if a1 < 1 then _ else _) = _; rw [if_neg (by omega)]; rfl
end Ga
end Go.Proofs.Ytdihefgleefhmaa
