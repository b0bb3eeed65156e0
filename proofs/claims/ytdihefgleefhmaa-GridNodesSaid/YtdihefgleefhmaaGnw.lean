/- The walk of the law GridNodes. -/
import Derived.Test.YtdihefgleefhmaaGnb
namespace Go.Proofs.Ytdihefgleefhmaa
open Go.RowKit Go.Shelf Go.Proofs.Ytdihefgleefhmaa.PGridArounds Go.Proofs.YtdihefgleefhmaaW.PrintWords Go.Proofs.YtdihefgleefhmaaW.PrintLast Go.Proofs.YtdihefgleefhmaaW.PrintMore
attribute [local go_sem] max2_int min2_int max_two min_two max_three min_three max_four min_four
attribute [local go_sem] Oper.semAt_some
namespace Gn
attribute [local go_sem] Gn.wide_fn Gn.wide_depth
open Gc
/-- only the normal way on. -/
def only (Q : Exit → Act → World → Prop) : Exit → Act → World → Prop
  | .normal, a, w => Q .normal a w
  | _, _, _ => False
theorem wp_only {P : Program} {c : Code} {Q : Exit → Act → World → Prop} {a : Act} {w : World} (h : c.wp P (only Q) a w) : c.wp P Q a w :=
  Code.wp_mono (fun e a w h => by cases e <;> first | exact h | exact h.elim) h
set_option maxRecDepth 100000 in
set_option maxHeartbeats 2000000 in
theorem law (x y u v t : Int) (w : World) (hu : 0 ≤ u) (hu2 : u ≤ 255) (hv : 0 ≤ v) (hv2 : v ≤ 255) (ht : 0 ≤ t) (ht2 : t ≤ 255) :
    Calls Try.prog 5 #[.int .i64 x, .int .i64 y, .agg #[.int .u8 u, .int .u8 v, .int .u8 t]] w fun e w' => e = .returned (.bool true) ∧ Below w.heap.size w w' := by
  have HB := Aside0.mk (Below.refl w.heap.size w)
  obtain ⟨g, hg, e1, e2, e3, e4, e5⟩ := the_grid x y u v t hu hu2
  have hg' := hg
  obtain ⟨a1, a2, a3, a4, a5, a6, a7, a8, a9, a10⟩ := hg'
  refine (callsIn_wide (n := 9)).1 (callsIn_of_wp_marks Try.func5 rfl trivial (wpIn_wide.2 ?_) rfl)
  simp only [Try.ntmps5, List.size_toArray, List.length_cons, List.length_nil, Nat.reduceAdd, Nat.reduceSub, Array.replicate_succ, Array.replicate_zero, List.push_toArray, List.append_toArray, List.nil_append, List.cons_append]
  go_upto_region 4 with (go_at_call 9; refine (fit_any _).mono ?_; rintro e w1 ⟨rfl, hb1⟩; have HF := Aside0.mk hb1; obtain ⟨hc1, hf1⟩ := bcell hb1; have hz1 := hb1.size; simp at hz1; have HB1 := Aside0.mk (bel_step (bel_alloc (bel_alloc HB.out _) _) hb1); clear hb1)
  have f7 : Holds g w1.heap.size (w1.alloc (.cells #[.int .i64 g.x, .int .i64 g.y, .int .i64 g.c, .int .i64 g.M, .int .i64 g.R] 25)) := World.alloc_heap_new _ _
  have f6 : Boxed (w1.alloc (.cells #[.int .i64 g.x, .int .i64 g.y, .int .i64 g.c, .int .i64 g.M, .int .i64 g.R] 25)) (w.heap.size + 1) 4 (.bool false) :=
    Boxed.alloc (show w1.heap[w.heap.size + 1]? = _ from (HF.out.block _ (by simp)).trans (by have := heap_alloc_new (w.alloc (.cells #[.int .u8 u, .int .u8 v, .int .u8 t] 37)) (.cells #[.bool false] 4); rwa [World.size_alloc] at this)) _
  obtain ⟨W4, hW4⟩ : ∃ W4, w1.alloc (.cells #[.int .i64 g.x, .int .i64 g.y, .int .i64 g.c, .int .i64 g.M, .int .i64 g.R] 25) = W4 := ⟨_, rfl⟩
  have HB4 := Aside0.mk (hW4 ▸ bel_alloc HB1.out _)
  rw [hW4] at f7 f6 ⊢
  clear hW4
  have H6 := Aside0.mk f6
  have H7 := Aside0.mk f7
  obtain ⟨l0, l1, l2, l3, l4⟩ := f7.cells'
  clear f6 f7
  obtain ⟨N, hN, hN0, hN1⟩ : ∃ N : Int, (g.M : Int) * g.R = N ∧ 0 ≤ N ∧ N ≤ 400 := ⟨_, rfl, Int.mul_nonneg (by omega) (by omega), Int.mul_le_mul (a := (g.M : Int)) (b := (g.R : Int)) (c := 20) (d := 20) (by omega) (by omega) (by omega) (by omega)⟩
  have hlen := fun w' => len_ok g hg w'
  rw [hN] at hlen
  have HL := Lib.hid hlen
  clear hlen
  refine Go.Gq.region (by kernel_rfl) (by kernel_rfl) ?_
  repeat (go_big_quiet_step ((first | (go_at_call 11; exact Gq.call (check_ok g hg _)) | (go_at_call 14; exact Gq.call (HL.out _)))))
  refine wpQuiet_nil ?_
  intro wx hw'
  have hwx := Go.Gq.later_bel hw'
  clear hw'
  have HBx := Aside0.mk (bel_step HB4.out hwx)
  have H7x := Aside0.mk (H7.out.later hwx)
  have H6x := Aside0.mk (show Boxed wx _ _ _ from (hwx.block _ H6.out.lt).trans H6.out)
  clear l0 l1 l2 l3 l4 HB4 H7 H6 hwx
  go_wp2
  go_loopw [8] (fun p wr => ∃ j : Int, p = .int .i64 j ∧ -1 ≤ j ∧ j ≤ (g.R : Int) + 1 ∧ Aside0 (Below wx.heap.size wx wr)) (fun p _ => ((g.R : Int) + 1 - intOf p).toNat)
  case atStart => exact ⟨-1, rfl, by omega, by omega, ⟨Below.refl _ _⟩⟩
  case round =>
    obtain ⟨j, rfl, j0, j1, HJ⟩ := hrel
    obtain ⟨k0, k1, k2, k3, k4⟩ := (H7x.out.later HJ.out).cells
    by_cases hj : j ≤ (g.R : Int)
    · go_wp2
      go_loopw [9] (fun p wr => ∃ i : Int, p = .int .i64 i ∧ -1 ≤ i ∧ i ≤ (g.M : Int) + 1 ∧ Aside0 (Below wx.heap.size wx wr)) (fun p _ => ((g.M : Int) + 1 - intOf p).toNat)
      case atStart => exact ⟨-1, rfl, by omega, by omega, HJ⟩
      case round =>
        obtain ⟨i, rfl, i0, i1, HI⟩ := hrel
        have H7i := Aside0.mk (H7x.out.later HI.out)
        obtain ⟨k0, k1, k2, k3, k4⟩ := H7i.out.cells
        by_cases hi : i ≤ (g.M : Int)
        · by_cases hin : 0 ≤ i ∧ i < g.M ∧ 0 ≤ j ∧ j < g.R
          · obtain ⟨q1, q2, q3, q4⟩ := hin
            have b1 : ¬ i < 0 := by omega
            have b2 : ¬ j < 0 := by omega
            have b3 : (i == (g.M : Int)) = false := by simp; omega
            have b4 : (j == (g.R : Int)) = false := by simp; omega
            obtain ⟨jM, hjM, p2, p1⟩ : ∃ z : Int, j * (g.M : Int) = z ∧ 0 ≤ z ∧ z ≤ 400 := ⟨_, rfl, Int.mul_nonneg (by omega) (by omega), Int.mul_le_mul (a := j) (b := (g.M : Int)) (c := 20) (d := 20) (by omega) (by omega) (by omega) (by omega)⟩
            obtain ⟨ic, hic, p4, p3⟩ : ∃ z : Int, i * g.c = z ∧ 0 ≤ z ∧ z ≤ 5120 := ⟨_, rfl, Int.mul_nonneg (by omega) (by omega), Int.mul_le_mul (a := i) (b := g.c) (c := 20) (d := 256) (by omega) (by omega) (by omega) (by omega)⟩
            obtain ⟨jc, hjc, p6, p5⟩ : ∃ z : Int, j * g.c = z ∧ 0 ≤ z ∧ z ≤ 5120 := ⟨_, rfl, Int.mul_nonneg (by omega) (by omega), Int.mul_le_mul (a := j) (b := g.c) (c := 20) (d := 256) (by omega) (by omega) (by omega) (by omega)⟩
            have hat := fun w' => at_at g hg i j w' (by omega) (by omega) (by omega) (by omega)
            rw [hjM, hic, hjc] at hat
            have HAT := Lib.hid hat
            clear hat
            have hix := fun w' => index_at g i j w' (by omega) (by omega) (by omega) (by omega) a8 a10
            rw [hjM] at hix
            have HIX := Lib.hid hix
            clear hix
            go_upto_region 16 with (go_at_call 15; refine (HIX.out _).mono ?_; rintro e w2 ⟨rfl, hb2⟩; have HI2 := Aside0.mk (bel_step HI.out hb2); obtain ⟨m0, m1, m2, m3, m4⟩ := (H7i.out.later hb2).cells; obtain ⟨l0, l1, l2, l3, l4⟩ := (H7i.out.later hb2).cells'; clear hb2)
            refine Go.Gq.region (by kernel_rfl) (by kernel_rfl) ?_
            repeat (go_big_quiet_step ((first | (go_at_call 16; exact Gq.call (HAT.out _)))))
            refine wpQuiet_nil ?_
            intro wx hw'
            have hwx := Go.Gq.later_bel hw'
            clear hw'
            have HI3 := Aside0.mk (bel_step HI2.out hwx)
            clear l0 l1 l2 l3 l4 hwx
            go_wp2
            go_roundw
            case rel => exact ⟨i + 1, by go_num, by omega, by omega, HI3⟩
            case measure => simp [intOf]; omega
          · have out : i < 0 ∨ j < 0 ∨ (g.M : Int) ≤ i ∨ (g.R : Int) ≤ j := by omega
            have OUT := Lib.hid out
            clear out hin
            by_cases b1 : i < 0
            · go_wp2_with (go_at_call 15; refine (index_out g _ _ _ OUT.out).mono ?_; rintro e w2 ⟨rfl, hb2⟩; have HI2 := Aside0.mk (bel_step HI.out hb2); obtain ⟨m0, m1, m2, m3, m4⟩ := (H7i.out.later hb2).cells; clear hb2)
              go_roundw
              case rel => exact ⟨i + 1, by go_num, by omega, by omega, HI2⟩
              case measure => simp [intOf]; omega
            · by_cases b2 : j < 0
              · go_wp2_with (go_at_call 15; refine (index_out g _ _ _ OUT.out).mono ?_; rintro e w2 ⟨rfl, hb2⟩; have HI2 := Aside0.mk (bel_step HI.out hb2); obtain ⟨m0, m1, m2, m3, m4⟩ := (H7i.out.later hb2).cells; clear hb2)
                go_roundw
                case rel => exact ⟨i + 1, by go_num, by omega, by omega, HI2⟩
                case measure => simp [intOf]; omega
              · by_cases b3 : (g.M : Int) ≤ i
                · have b3' : (i == (g.M : Int)) = true := by simp; omega
                  go_wp2_with (go_at_call 15; refine (index_out g _ _ _ OUT.out).mono ?_; rintro e w2 ⟨rfl, hb2⟩; have HI2 := Aside0.mk (bel_step HI.out hb2); obtain ⟨m0, m1, m2, m3, m4⟩ := (H7i.out.later hb2).cells; clear hb2)
                  go_roundw
                  case rel => exact ⟨i + 1, by go_num, by omega, by omega, HI2⟩
                  case measure => simp [intOf]; omega
                · have b3' : (i == (g.M : Int)) = false := by simp; omega
                  have b4' : (j == (g.R : Int)) = true := by have := OUT.out; simp; omega
                  go_wp2_with (go_at_call 15; refine (index_out g _ _ _ OUT.out).mono ?_; rintro e w2 ⟨rfl, hb2⟩; have HI2 := Aside0.mk (bel_step HI.out hb2); obtain ⟨m0, m1, m2, m3, m4⟩ := (H7i.out.later hb2).cells; clear hb2)
                  go_roundw
                  case rel => exact ⟨i + 1, by go_num, by omega, by omega, HI2⟩
                  case measure => simp [intOf]; omega
        · go_wp2
          go_roundw
          case rel => exact ⟨j + 1, by go_num, by omega, by omega, HI⟩
          case measure => simp [intOf]; omega
    · have H7r := Aside0.mk (H7x.out.later HJ.out)
      have H6r := Aside0.mk (show Boxed wr _ _ _ from (HJ.out.block _ H6x.out.lt).trans H6x.out)
      have HBr := Aside0.mk (bel_step HBx.out HJ.out)
      clear HJ H7x H6x HBx
      obtain ⟨r0, r1, r2, r3, r4⟩ := H7r.out.cells1
      obtain ⟨s0, s1, s2, s3, s4⟩ := H7r.out.cells2
      have t7 : wrap64 (g.x - g.c) = g.x - g.c := w64 (by omega) (by omega)
      go_wp2_with (go_at_call 17; refine (callsIn_wide.1 (snake_in g 9 _)).mono ?_; rintro e w5 ⟨rfl, rfl⟩)
      have hL := Below.refl wr.heap.size wr
      have z6 := H6r.out.lt
      have z7 := (Array.getElem?_eq_some_iff.1 H7r.out).1
      have i6 := ((H6r.out.alloc (.cells #[.int .i64 0] 3)).alloc (.cells #[.int .i64 (g.x - g.c), .int .i64 g.y] 32)).alloc (.cells #[.int .i64 g.x, .int .i64 g.y, .int .i64 g.c, .int .i64 g.M, .int .i64 g.R] 25)
      have i7 := H7r.out.later (((hL.alloc (Nat.le_refl _) (.cells #[.int .i64 0] 3)).alloc (by simp) (.cells #[.int .i64 (g.x - g.c), .int .i64 g.y] 32)).alloc (by simp; omega) (.cells #[.int .i64 g.x, .int .i64 g.y, .int .i64 g.c, .int .i64 g.M, .int .i64 g.R] 25))
      have iN := ((Boxed.new wr 3 (.int .i64 0)).alloc (.cells #[.int .i64 (g.x - g.c), .int .i64 g.y] 32)).alloc (.cells #[.int .i64 g.x, .int .i64 g.y, .int .i64 g.c, .int .i64 g.M, .int .i64 g.R] 25)
      have iW : Two (((wr.alloc (.cells #[.int .i64 0] 3)).alloc (.cells #[.int .i64 (g.x - g.c), .int .i64 g.y] 32)).alloc (.cells #[.int .i64 g.x, .int .i64 g.y, .int .i64 g.c, .int .i64 g.M, .int .i64 g.R] 25)) (wr.heap.size + 1) (g.x - g.c) g.y := by
        have := World.alloc_heap_new (wr.alloc (.cells #[.int .i64 0] 3)) (.cells #[.int .i64 (g.x - g.c), .int .i64 g.y] 32)
        rw [World.size_alloc] at this
        exact (Below.heap_alloc _ _ _ (by simp)).trans this
      have iS : Holds g (wr.heap.size + 1 + 1) (((wr.alloc (.cells #[.int .i64 0] 3)).alloc (.cells #[.int .i64 (g.x - g.c), .int .i64 g.y] 32)).alloc (.cells #[.int .i64 g.x, .int .i64 g.y, .int .i64 g.c, .int .i64 g.M, .int .i64 g.R] 25)) := by
        have := World.alloc_heap_new ((wr.alloc (.cells #[.int .i64 0] 3)).alloc (.cells #[.int .i64 (g.x - g.c), .int .i64 g.y] 32)) (.cells #[.int .i64 g.x, .int .i64 g.y, .int .i64 g.c, .int .i64 g.M, .int .i64 g.R] 25)
        simp only [World.size_alloc] at this
        exact this
      have iB := bel_alloc (bel_alloc (bel_alloc HBr.out (.cells #[.int .i64 0] 3)) (.cells #[.int .i64 (g.x - g.c), .int .i64 g.y] 32)) (.cells #[.int .i64 g.x, .int .i64 g.y, .int .i64 g.c, .int .i64 g.M, .int .i64 g.R] 25)
      have hzw := HBr.out.size
      have hsz : (((wr.alloc (.cells #[.int .i64 0] 3)).alloc (.cells #[.int .i64 (g.x - g.c), .int .i64 g.y] 32)).alloc (.cells #[.int .i64 g.x, .int .i64 g.y, .int .i64 g.c, .int .i64 g.M, .int .i64 g.R] 25)).heap.size = wr.heap.size + 3 := by simp
      obtain ⟨W5, hW5⟩ : ∃ W5, ((wr.alloc (.cells #[.int .i64 0] 3)).alloc (.cells #[.int .i64 (g.x - g.c), .int .i64 g.y] 32)).alloc (.cells #[.int .i64 g.x, .int .i64 g.y, .int .i64 g.c, .int .i64 g.M, .int .i64 g.R] 25) = W5 := ⟨_, rfl⟩
      rw [hW5] at i6 i7 iN iW iS iB hsz ⊢
      clear hW5 r0 r1 r2 r3 r4 s0 s1 s2 s3 s4 H7r H6r HBr t7
      have hin : Inv g (w.heap.size + 1) w1.heap.size wr.heap.size (wr.heap.size + 1) w [] W5 := ⟨i6, i7, iN, iW, iB⟩
      refine range_set (n := 9) (by omega) (gf := 31) (lb := #[.pointer (some ⟨wr.heap.size + 1 + 1, 0, none⟩)]) rfl (enters_of Try.func31 (by kernel_rfl) rfl) (snake_pos g hg 8 (wr.heap.size + 1 + 1) W5 iS) (kp_t _) (kp_b (by omega)) (fun _ => rfl)
        (fun pre W => Inv g (w.heap.size + 1) w1.heap.size wr.heap.size (wr.heap.size + 1) w pre W ∧ Holds g (wr.heap.size + 1 + 1) W)
        (fun _ pre _ => ¬ pre.map (·.1) <+: List.range (g.R * g.M))
        (OwnFrom.and (Inv.own (by omega)) (fun _ A B row h hg' hr => blk_kept h hg' (fun r e => (hr r e).2))) (fun _ _ _ _ _ h _ _ => h) ⟨hin, iS⟩
        (fun x Bx W => wr.heap.size + 1 < Bx ∧ Two W Bx (sX g x.1) (sY g x.1))
        (fun x Bx _ A B row h hg' hr => ⟨h.1, blk_kept h.2 hg' (fun r e => (hr r e).2)⟩)
        (fun x Bx t => (((t.setIfInBounds 124 (.int .i64 (sI g x.1))).setIfInBounds 125 (.agg #[.int .i64 (sX g x.1), .int .i64 (sY g x.1)])).setIfInBounds 13 (.int .i64 (sI g x.1))).setIfInBounds 14 (.pointer (some ⟨Bx, 0, none⟩)))
        ?assign ?body ?done ?stop
      case assign =>
        intro l pre x W K ⟨hi, hS⟩ hK
        have bel := (Below.refl W.heap.size W).alloc (Nat.le_refl _) (.cells #[.int .i64 (sX g x.1), .int .i64 (sY g x.1)] 32)
        have hlt : wr.heap.size + 1 < W.heap.size := (Array.getElem?_eq_some_iff.1 hi.was).1
        have HI := Aside0.mk hi
        have HS := Aside0.mk hS
        clear hi hS
        simp only [enc]
        gi_wp2
        exact hK _ _ (keeps_later bel) ((HS.out.later bel).trans HS.out.symm) ⟨HI.out.later bel, HS.out.later bel⟩ ⟨W.heap.size, ⟨hlt, World.alloc_heap_new _ _⟩, by simp only [List.setIfInBounds_toArray, List.set_cons_succ, List.set_cons_zero]⟩
      case body =>
        rintro l pre x Bx W ⟨hi, hS⟩ ⟨hBx, hx⟩ hlen
        simp only [List.setIfInBounds_toArray, List.set_cons_succ, List.set_cons_zero]
        have hlen' : (pre.length : Int) < 400 := by
          have : g.R * g.M ≤ 20 * 20 := Nat.mul_le_mul (by omega) (by omega)
          omega
        have hq : w.heap.size + 1 < w1.heap.size ∧ w1.heap.size < wr.heap.size ∧ wr.heap.size < wr.heap.size + 1 ∧ wr.heap.size + 1 < wr.heap.size + 1 + 1 ∧ w.heap.size ≤ w.heap.size + 1 := by omega
        have hX := And.intro hBx (And.intro hx hlen')
        clear hlen hlen'
        by_cases c1 : (pre.length : Int) < (g.M : Int)
        · by_cases c2 : sI g x.1 = (pre.length : Int)
          · have hc2 : (sI g x.1 == (pre.length : Int)) = true ∧ (sI g x.1 != (pre.length : Int)) = false := ⟨beq_iff_eq.2 c2, by simp [c2]⟩
            by_cases hlt : sX g x.1 - wasX g pre < wasX g pre - sX g x.1
            · by_cases hd : wasX g pre - sX g x.1 + sY g x.1 - wasY g pre = g.c
              · exact arm_ylok _ _ _ _ _ _ _ _ _ _ _ _ _ _ _ _ _ _ _ _ _ _ _ _ _ _ _ _ _ _ _ _ _ _ _ _ _ _ _ _ _ _ _ _ _ _ _ _ _ _ _ _ _ _ _ _ _ _ _ _ _ _ _ _ _ _ _ _ _ _ _ _ _ _ _ _ _ _ _ _ _ _ _ _ _ _ _ _ _ _ _ _ _ _ _ _ _ _ _ _ _ _ _ _ _ _ _ _ _ _ _ _ _ _ _ _ _ _ _ _ _ _ _ _ _ _ _ _ _ _ _ _ _ _ _ _ _ _ _ _ _ _ _ _ _ _ _ _ _ _ _ _ _ _ _ _ _ _ _ _ _ _ _ _ _ _ _ _ _ _ rfl g hg _ _ _ _ _ _ _ _ _ _ hq _ _ hi hS hX c1 hc2 hlt ⟨beq_iff_eq.2 hd, by simp [hd]⟩
              · exact arm_ylbad _ _ _ _ _ _ _ _ _ _ _ _ _ _ _ _ _ _ _ _ _ _ _ _ _ _ _ _ _ _ _ _ _ _ _ _ _ _ _ _ _ _ _ _ _ _ _ _ _ _ _ _ _ _ _ _ _ _ _ _ _ _ _ _ _ _ _ _ _ _ _ _ _ _ _ _ _ _ _ _ _ _ _ _ _ _ _ _ _ _ _ _ _ _ _ _ _ _ _ _ _ _ _ _ _ _ _ _ _ _ _ _ _ _ _ _ _ _ _ _ _ _ _ _ _ _ _ _ _ _ _ _ _ _ _ _ _ _ _ _ _ _ _ _ _ _ _ _ _ _ _ _ _ _ _ _ _ _ _ _ _ _ _ _ _ _ _ _ _ _ rfl g hg _ _ _ _ _ _ _ _ _ _ hq _ _ hi hS hX c1 hc2 hlt ⟨beq_eq_false_iff_ne.2 hd, bne_iff_ne.2 hd⟩ (Lib.hid fun h => hd (by have := (snake_law g hg pre x h).2; unfold far2 at this; rw [if_pos hlt] at this; exact this))
            · by_cases hd : sX g x.1 - wasX g pre + sY g x.1 - wasY g pre = g.c
              · exact arm_ygok _ _ _ _ _ _ _ _ _ _ _ _ _ _ _ _ _ _ _ _ _ _ _ _ _ _ _ _ _ _ _ _ _ _ _ _ _ _ _ _ _ _ _ _ _ _ _ _ _ _ _ _ _ _ _ _ _ _ _ _ _ _ _ _ _ _ _ _ _ _ _ _ _ _ _ _ _ _ _ _ _ _ _ _ _ _ _ _ _ _ _ _ _ _ _ _ _ _ _ _ _ _ _ _ _ _ _ _ _ _ _ _ _ _ _ _ _ _ _ _ _ _ _ _ _ _ _ _ _ _ _ _ _ _ _ _ _ _ _ _ _ _ _ _ _ _ _ _ _ _ _ _ _ _ _ _ _ _ _ _ _ _ _ _ _ _ _ _ _ _ rfl g hg _ _ _ _ _ _ _ _ _ _ hq _ _ hi hS hX c1 hc2 hlt ⟨beq_iff_eq.2 hd, by simp [hd]⟩
              · exact arm_ygbad _ _ _ _ _ _ _ _ _ _ _ _ _ _ _ _ _ _ _ _ _ _ _ _ _ _ _ _ _ _ _ _ _ _ _ _ _ _ _ _ _ _ _ _ _ _ _ _ _ _ _ _ _ _ _ _ _ _ _ _ _ _ _ _ _ _ _ _ _ _ _ _ _ _ _ _ _ _ _ _ _ _ _ _ _ _ _ _ _ _ _ _ _ _ _ _ _ _ _ _ _ _ _ _ _ _ _ _ _ _ _ _ _ _ _ _ _ _ _ _ _ _ _ _ _ _ _ _ _ _ _ _ _ _ _ _ _ _ _ _ _ _ _ _ _ _ _ _ _ _ _ _ _ _ _ _ _ _ _ _ _ _ _ _ _ _ _ _ _ _ rfl g hg _ _ _ _ _ _ _ _ _ _ hq _ _ hi hS hX c1 hc2 hlt ⟨beq_eq_false_iff_ne.2 hd, bne_iff_ne.2 hd⟩ (Lib.hid fun h => hd (by have := (snake_law g hg pre x h).2; unfold far2 at this; rw [if_neg hlt] at this; exact this))
          · exact arm_y_bad _ _ _ _ _ _ _ _ _ _ _ _ _ _ _ _ _ _ _ _ _ _ _ _ _ _ _ _ _ _ _ _ _ _ _ _ _ _ _ _ _ _ _ _ _ _ _ _ _ _ _ _ _ _ _ _ _ _ _ _ _ _ _ _ _ _ _ _ _ _ _ _ _ _ _ _ _ _ _ _ _ _ _ _ _ _ _ _ _ _ _ _ _ _ _ _ _ _ _ _ _ _ _ _ _ _ _ _ _ _ _ _ _ _ _ _ _ _ _ _ _ _ _ _ _ _ _ _ _ _ _ _ _ _ _ _ _ _ _ _ _ _ _ _ _ _ _ _ _ _ _ _ _ _ _ _ _ _ _ _ _ _ _ _ _ _ _ _ _ _ rfl g hg _ _ _ _ _ _ _ _ _ _ hq _ _ hi hS hX c1 ⟨beq_eq_false_iff_ne.2 c2, bne_iff_ne.2 c2⟩ (Lib.hid fun h => c2 ((snake_law g hg pre x h).1 c1))
        · by_cases hlt : sX g x.1 - wasX g pre < wasX g pre - sX g x.1
          · by_cases hd : wasX g pre - sX g x.1 + sY g x.1 - wasY g pre = g.c
            · exact arm_nlok _ _ _ _ _ _ _ _ _ _ _ _ _ _ _ _ _ _ _ _ _ _ _ _ _ _ _ _ _ _ _ _ _ _ _ _ _ _ _ _ _ _ _ _ _ _ _ _ _ _ _ _ _ _ _ _ _ _ _ _ _ _ _ _ _ _ _ _ _ _ _ _ _ _ _ _ _ _ _ _ _ _ _ _ _ _ _ _ _ _ _ _ _ _ _ _ _ _ _ _ _ _ _ _ _ _ _ _ _ _ _ _ _ _ _ _ _ _ _ _ _ _ _ _ _ _ _ _ _ _ _ _ _ _ _ _ _ _ _ _ _ _ _ _ _ _ _ _ _ _ _ _ _ _ _ _ _ _ _ _ _ _ _ _ _ _ _ _ _ _ rfl g hg _ _ _ _ _ _ _ _ _ _ hq _ _ hi hS hX c1 hlt ⟨beq_iff_eq.2 hd, by simp [hd]⟩
            · exact arm_nlbad _ _ _ _ _ _ _ _ _ _ _ _ _ _ _ _ _ _ _ _ _ _ _ _ _ _ _ _ _ _ _ _ _ _ _ _ _ _ _ _ _ _ _ _ _ _ _ _ _ _ _ _ _ _ _ _ _ _ _ _ _ _ _ _ _ _ _ _ _ _ _ _ _ _ _ _ _ _ _ _ _ _ _ _ _ _ _ _ _ _ _ _ _ _ _ _ _ _ _ _ _ _ _ _ _ _ _ _ _ _ _ _ _ _ _ _ _ _ _ _ _ _ _ _ _ _ _ _ _ _ _ _ _ _ _ _ _ _ _ _ _ _ _ _ _ _ _ _ _ _ _ _ _ _ _ _ _ _ _ _ _ _ _ _ _ _ _ _ _ _ rfl g hg _ _ _ _ _ _ _ _ _ _ hq _ _ hi hS hX c1 hlt ⟨beq_eq_false_iff_ne.2 hd, bne_iff_ne.2 hd⟩ (Lib.hid fun h => hd (by have := (snake_law g hg pre x h).2; unfold far2 at this; rw [if_pos hlt] at this; exact this))
          · by_cases hd : sX g x.1 - wasX g pre + sY g x.1 - wasY g pre = g.c
            · exact arm_ngok _ _ _ _ _ _ _ _ _ _ _ _ _ _ _ _ _ _ _ _ _ _ _ _ _ _ _ _ _ _ _ _ _ _ _ _ _ _ _ _ _ _ _ _ _ _ _ _ _ _ _ _ _ _ _ _ _ _ _ _ _ _ _ _ _ _ _ _ _ _ _ _ _ _ _ _ _ _ _ _ _ _ _ _ _ _ _ _ _ _ _ _ _ _ _ _ _ _ _ _ _ _ _ _ _ _ _ _ _ _ _ _ _ _ _ _ _ _ _ _ _ _ _ _ _ _ _ _ _ _ _ _ _ _ _ _ _ _ _ _ _ _ _ _ _ _ _ _ _ _ _ _ _ _ _ _ _ _ _ _ _ _ _ _ _ _ _ _ _ _ rfl g hg _ _ _ _ _ _ _ _ _ _ hq _ _ hi hS hX c1 hlt ⟨beq_iff_eq.2 hd, by simp [hd]⟩
            · exact arm_ngbad _ _ _ _ _ _ _ _ _ _ _ _ _ _ _ _ _ _ _ _ _ _ _ _ _ _ _ _ _ _ _ _ _ _ _ _ _ _ _ _ _ _ _ _ _ _ _ _ _ _ _ _ _ _ _ _ _ _ _ _ _ _ _ _ _ _ _ _ _ _ _ _ _ _ _ _ _ _ _ _ _ _ _ _ _ _ _ _ _ _ _ _ _ _ _ _ _ _ _ _ _ _ _ _ _ _ _ _ _ _ _ _ _ _ _ _ _ _ _ _ _ _ _ _ _ _ _ _ _ _ _ _ _ _ _ _ _ _ _ _ _ _ _ _ _ _ _ _ _ _ _ _ _ _ _ _ _ _ _ _ _ _ _ _ _ _ _ _ _ _ rfl g hg _ _ _ _ _ _ _ _ _ _ hq _ _ hi hS hX c1 hlt ⟨beq_eq_false_iff_ne.2 hd, bne_iff_ne.2 hd⟩ (Lib.hid fun h => hd (by have := (snake_law g hg pre x h).2; unfold far2 at this; rw [if_neg hlt] at this; exact this))
      case done =>
        rintro D ys W hD hys ⟨hi, hS⟩ hK
        have hl : (ys.length : Int) = N := by
          have := congrArg List.length hys
          simp at this
          rw [this, ← hN]; push_cast; exact Int.mul_comm _ _
        obtain ⟨r0, r1, r2, r3, r4⟩ := hi.seven.cells1
        obtain ⟨s0, s1, s2, s3, s4⟩ := hi.seven.cells
        have HI := Aside0.mk hi
        have HS := Aside0.mk hS
        have HK := Aside0.mk hK
        clear hi hS hK
        go_wp2_with (go_at_call 17; refine (callsIn_wide.1 (snake_in g 9 _)).mono ?_; rintro e w5 ⟨rfl, rfl⟩)
        have hbel := (Below.refl W.heap.size W).alloc (Nat.le_refl _) (.cells #[.int .i64 g.x, .int .i64 g.y, .int .i64 g.c, .int .i64 g.M, .int .i64 g.R] 25)
        have iS2 : Holds g W.heap.size (W.alloc (.cells #[.int .i64 g.x, .int .i64 g.y, .int .i64 g.c, .int .i64 g.M, .int .i64 g.R] 25)) := World.alloc_heap_new _ _
        have iI2 := HI.out.later hbel
        have hDlt : D < W.heap.size := (Array.getElem?_eq_some_iff.1 HK.out).1
        have iK2 := (hbel.block D hDlt).trans HK.out
        have hz2 : (W.alloc (.cells #[.int .i64 g.x, .int .i64 g.y, .int .i64 g.c, .int .i64 g.M, .int .i64 g.R] 25)).heap.size = W.heap.size + 1 := by simp
        have hzw2 := HI.out.bel.size
        obtain ⟨W6, hW6⟩ : ∃ W6, W.alloc (.cells #[.int .i64 g.x, .int .i64 g.y, .int .i64 g.c, .int .i64 g.M, .int .i64 g.R] 25) = W6 := ⟨_, rfl⟩
        rw [hW6] at iS2 iI2 iK2 hz2 ⊢
        clear hW6 hbel r0 r1 r2 r3 r4 s0 s1 s2 s3 s4
        refine range_set (n := 9) (by omega) (gf := 31) (lb := #[.pointer (some ⟨W.heap.size, 0, none⟩)]) rfl (enters_of Try.func31 (by kernel_rfl) rfl) (snake_pos g hg 8 W.heap.size W6 iS2) (kp_t _) (kp_b (by omega)) (fun _ => rfl)
          (fun pre V => pre = [] ∧ Inv g (w.heap.size + 1) w1.heap.size wr.heap.size (wr.heap.size + 1) w ys V ∧ V.heap[D]? = some (.deferred (some [])))
          (fun c _ V => c = .exit 6 ∧ Inv g (w.heap.size + 1) w1.heap.size wr.heap.size (wr.heap.size + 1) w ys V ∧ V.heap[D]? = some (.deferred (some [])))
          (fun _ A B row h hg' hr => ⟨h.1, Inv.own (B := W6.heap.size) (by omega) _ A B row h.2.1 hg' hr, (hg'.block D (Array.getElem?_eq_some_iff.1 h.2.2).1 (fun e => by have := (hr D e.symm).1; omega)).trans h.2.2⟩)
          (fun _ _ A B row h hg' hr => ⟨h.1, Inv.own (B := W6.heap.size) (by omega) _ A B row h.2.1 hg' hr, (hg'.block D (Array.getElem?_eq_some_iff.1 h.2.2).1 (fun e => by have := (hr D e.symm).1; omega)).trans h.2.2⟩)
          ⟨rfl, iI2, iK2⟩
          (fun _ _ _ => True)
          (fun _ _ _ _ _ _ _ _ _ => trivial)
          (fun x Bx t => (t.setIfInBounds 169 (.int .i64 (sI g x.1))).setIfInBounds 170 (.agg #[.int .i64 (sX g x.1), .int .i64 (sY g x.1)]))
          ?assign2 ?body2 ?done2 ?stop2
        case assign2 =>
          intro l pre x V K hi hK2
          simp only [enc]
          gi_wp2
          exact hK2 _ _ (keeps_later (Below.refl _ _)) rfl hi ⟨0, trivial, by simp only [List.setIfInBounds_toArray, List.set_cons_succ, List.set_cons_zero]⟩
        case body2 =>
          intro l pre x Bx V hi _ _
          simp only [List.setIfInBounds_toArray, List.set_cons_succ, List.set_cons_zero]
          gi_wp2
          exact ⟨keeps_later (Below.refl _ _), rfl, hi.2⟩
        case done2 =>
          rintro D2 zs V _ hz ⟨rfl, _, _⟩ _
          have := congrArg List.length hz
          have h1 : 1 * 1 ≤ g.R * g.M := Nat.mul_le_mul (by omega) (by omega)
          simp at this
          omega
        case stop2 =>
          rintro D2 c pre V hD2 hp ⟨rfl, hi2, hk2⟩ hK2
          refine wpIn_wide.2 ?_
          have HI3 := Aside0.mk hi2
          have HK1 := Aside0.mk hk2
          have HK2 := Aside0.mk hK2
          clear hi2 hk2 hK2 HI HS HK
          obtain ⟨k0, k1, k2, k3, k4⟩ := HI3.out.seven.cells
          have c0 := HI3.out.n.cell
          have c1 := HI3.out.six.cell
          have c2 := HI3.out.six.frozen
          go_wp2
          refine wp_only ?_
          go_region_with (go_at_call 14; refine (HL.out _).mono ?_; rintro e wz ⟨rfl, hbz⟩; have hbz' : Below V.heap.size V wz := ((Below.refl _ V).drew).trans hbz; have i4 := HI3.out.later hbz'; have z0 := i4.n.cell; have z1 := i4.six.cell; have z2 := i4.six.frozen; have HI4 := Aside0.mk i4; have HBZ := Aside0.mk hbz'; clear hbz hbz' i4)
          all_goals (unfold only; go_wp2)
          all_goals
            have hVD : D < V.heap.size := (Array.getElem?_eq_some_iff.1 HK1.out).1
            have hVD2 : D2 < V.heap.size := (Array.getElem?_eq_some_iff.1 HK2.out).1
            have fD2 : (wz.setCell ⟨w.heap.size + 1, 0, none⟩ (.bool true)).heap[D2]? = some (.deferred (some [])) := (Below.heap_setCell _ _ _ _ (by simp; omega)).trans ((HBZ.out.block _ hVD2).trans HK2.out)
            have fD : (wz.setCell ⟨w.heap.size + 1, 0, none⟩ (.bool true)).heap[D]? = some (.deferred (some [])) := (Below.heap_setCell _ _ _ _ (by simp; omega)).trans ((HBZ.out.block _ hVD).trans HK1.out)
            have fD' : ((wz.setCell ⟨w.heap.size + 1, 0, none⟩ (.bool true)).putObj D2 (.deferred none)).heap[D]? = some (.deferred (some [])) := (World.putObj_heap_other (by omega)).trans fD
            refine ⟨by simp, .inl ⟨_, _, rfl, run_takeDeferred fD2, ?_⟩⟩
            refine ⟨by simp, .inl ⟨_, _, rfl, run_takeDeferred fD', ?_⟩⟩
            have cF : (((wz.setCell ⟨w.heap.size + 1, 0, none⟩ (.bool true)).putObj D2 (.deferred none)).putObj D (.deferred none)).cell? ⟨w.heap.size + 1, 0, none⟩ = some (.bool true) := by
              have b1 : Boxed (wz.setCell ⟨w.heap.size + 1, 0, none⟩ (.bool true)) (w.heap.size + 1) 4 (.bool true) := HI4.out.six.set _
              have b2 : Boxed ((wz.setCell ⟨w.heap.size + 1, 0, none⟩ (.bool true)).putObj D2 (.deferred none)) (w.heap.size + 1) 4 (.bool true) := (World.putObj_heap_other (by omega)).trans b1
              have b3 : Boxed (((wz.setCell ⟨w.heap.size + 1, 0, none⟩ (.bool true)).putObj D2 (.deferred none)).putObj D (.deferred none)) (w.heap.size + 1) 4 (.bool true) := (World.putObj_heap_other (by omega)).trans b2
              exact b3.cell
            refine ⟨.bool true, ?_, rfl, ?_⟩
            · simp [results, Try.f5, go_sem, cF]
              done
            · exact belowK_b (w := w) (Nat.le_refl _) _ D _ _ (by omega) fD' rfl rfl |> (Below.trans (belowK_b (w := w) (Nat.le_refl _) _ D2 _ _ (by omega) fD2 rfl rfl |> (Below.trans (HI4.out.bel.setCell (p := ⟨w.heap.size + 1, 0, none⟩) (by simp) _))))
      case stop =>
        intro D c pre W _ hp hn _
        exact absurd hp hn
end Gn
end Go.Proofs.Ytdihefgleefhmaa
