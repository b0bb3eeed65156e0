/- The walk of the law GridArounds, out of printed contracts of what it calls: the main way. -/
import Derived.Test.YtdihefgleefhmaaGaw
namespace Go.Proofs.Ytdihefgleefhmaa
open Go.RowKit Go.Proofs.Ytdihefgleefhmaa.PGridArounds Go.Proofs.YtdihefgleefhmaaW.PrintWords Go.Proofs.YtdihefgleefhmaaW.PrintLast Go.Proofs.YtdihefgleefhmaaW.PrintMore
attribute [local go_sem] max2_int min2_int max_two min_two max_three min_three max_four min_four
namespace Ga
open Gc
set_option maxHeartbeats 4000000 in
set_option maxRecDepth 100000 in
set_option linter.unusedSimpArgs false in
theorem a_main (A0 : Option Addr) (c0 : Nat) (l : List S32) (a1 : Int) (w : World) (hl : l.length ≤ 30) (hr : Kd.C k32 w A0 l.length l) (h0 : 0 < l.length) (h1 : 1 ≤ a1) (r1 r2 r3 r4 r5 r6 : Int) (hans : (r1, r2, r3, r4, r5, r6) = ans (l.map tame) a1) :
    Calls Try.prog 4 #[.slice A0 l.length c0, .int .i64 a1] w fun e w' => e = .returned (.bool true) ∧ Below w.heap.size w w' := by
  have HA := Aside0.mk hans
  clear hans
  have hl' : (l.length : Int) ≤ 30 := by omega
  have hu30 := Try.underlying30
  have hu32 := Try.underlying32
  have HC := Aside0.mk hr
  clear hr
  go_enter Try.func4, Try.ntmps4
  go_wp2_with (go_at_call 9; refine (fit_any _).mono ?_; rintro e w1 ⟨rfl, hb1⟩; have HB1 := Aside0.mk hb1; clear hb1)
  go_loopw [25, 5] (fun i v wr => ∃ (k : Nat) (vp : Value), k ≤ l.length ∧ i = .int .i64 k ∧ vp = v ∧ Aside0 (Kd.R k32 32 wr w.heap.size (fun _ => True) vp ((l.take k).map tame)) ∧ Aside0 (Below w.heap.size w wr)) (fun i _ _ => l.length - (intOf i).toNat)
  case atStart => exact ⟨0, _, Nat.zero_le _, rfl, rfl, ⟨Kd.R_nil _ _ _ _ _⟩, HB1⟩
  case round =>
    obtain ⟨k, vp, hk, rfl, rfl, HR, HB⟩ := hrel
    by_cases hlt : k < l.length
    · obtain ⟨ad, hA, hx0, hx1⟩ := at_T32 (Kd.C_below HC.out HB.out) (k : Int) (by omega) (by omega)
      subst hA
      simp only [Int.toNat_natCast] at hx0 hx1
      have i1 : (k : Int) < (l.length : Int) := by omega
      have hlen : ((l.take k).map tame).length = k := by simp; omega
      have hz := HB.out.size
      go_wp2_with (first | (go_at_call 12; refine (tame_any _ _).mono ?_; rintro e w2 ⟨rfl, hb2⟩; have HB2 := Aside0.mk (bel_step (bel_alloc HB.out _) hb2); have HR2 := Aside0.mk (Kd.R_below (Kd.R_below HR.out ((Below.refl _ _).alloc (Nat.le_refl _) _)) hb2); clear hb2) | (at_builtin; refine Kd.R_append k32 (w0 := w) w.heap.size rfl (.tmp 29) (.tmp 32) 30 32 (.agg #[.int .i64 0, .int .i64 0]) 16 rfl Try.underlying30 info32 rfl (by decide) (by omega) vp ((l.take k).map tame) (tame (rd_T32 l k)) [.int .i64 _, .int .i64 _] (fun _ => True) (fun _ => False) rfl rfl ?aP (fun _ hk => hk.elim) (fun _ _ => trivial) ?aO ?aB ?aS ?aL ?_; (case aP => exact k32_mkM _ _ _ _); (case aO => exact HR2.out); (case aB => exact HB2.out); (case aS => exact HB2.out.size); (case aL => rw [hlen]; omega); intro v3 w3 hr3 hb3 hg3 hat3; have HR3 := Aside0.mk hr3; have HB3 := Aside0.mk hb3; clear hr3 hb3 hg3 hat3))
      go_roundw
      case rel => exact ⟨k + 1, _, by omega, by go_num, rfl, ⟨by rw [take_tame hlt]; exact HR3.out⟩, HB3⟩
      case measure => simp [intOf]; omega
    · have hk' : k = l.length := by omega
      subst hk'
      rw [List.take_length] at HR
      obtain ⟨A2, c2, rfl, hc2, hC2⟩ := Kd.R_reads HR.out
      have HC2 := Aside0.mk hC2
      clear hC2
      have hz := HB.out.size
      have hlen : (l.map tame).length = l.length := by simp
      rw [hlen] at hc2
      have HAR := around_any A2 c2 (l.map tame) a1 r1 r2 r3 r4 r5 r6 wr HC2.out (by rw [hlen]; exact hc2) HA.out (near_all l) (by rw [hlen]; omega)
      rw [hlen] at HAR
      have HAR2 := Lib.hid HAR
      clear HAR
      have hn' : ((l.length : Int) == 0) = false := by simp; intro h; subst h; simp at h0
      have h1' : ¬ a1 < 1 := by omega
      have h0' : (0 : Int) < (l.length : Int) := by omega
      have hT0 : 0 < (l.map tame).length := by omega
      obtain ⟨ad, hA2, hx0, hx1⟩ := at_T32 HC2.out 0 (by omega) (by omega)
      subst hA2
      simp only [Int.toNat_zero, Nat.zero_mul] at hx0 hx1
      go_upto_region 14 with (go_at_call 13; refine HAR2.out.mono ?_; rintro e w4 ⟨rfl, hb4⟩; have HB4 := Aside0.mk (bel_step HB.out hb4); have HC4 := Aside0.mk (Kd.C_below HC2.out hb4); have hy0 := (hb4.cell (World.block_lt_of_cell? _ _ hx0)).trans hx0; have hy1 := (hb4.cell (World.block_lt_of_cell? _ _ hx1)).trans hx1; clear hb4)
      have hz0 : (w4.alloc (.cells #[.int .i64 r1, .int .i64 r2, .int .i64 r3, .int .i64 r4, .int .i64 r5] 25)).cell? ad = some (.int .i64 (rd_T32 (l.map tame) 0).f0) := (((Below.refl _ w4).alloc (Nat.le_refl _) _).cell (World.block_lt_of_cell? _ _ hy0)).trans hy0
      have hz1 : (w4.alloc (.cells #[.int .i64 r1, .int .i64 r2, .int .i64 r3, .int .i64 r4, .int .i64 r5] 25)).cell? ⟨ad.block, ad.off + 1, none⟩ = some (.int .i64 (rd_T32 (l.map tame) 0).f1) := (((Below.refl _ w4).alloc (Nat.le_refl _) _).cell (World.block_lt_of_cell? _ _ hy1)).trans hy1
      have n0 := World.new_ne _ _ hz0
      have n1 := World.new_ne _ _ hz1
      generalize hW : (w4.alloc (.cells #[.int .i64 r1, .int .i64 r2, .int .i64 r3, .int .i64 r4, .int .i64 r5] 25)) = W at *
      have HW0 := Aside0.mk (show Below w.heap.size w W by rw [← hW]; exact bel_alloc HB4.out _)
      have HCW := Aside0.mk (show Kd.C k32 W (some ad) (l.map tame).length (l.map tame) by rw [← hW]; exact Kd.C_below HC4.out ((Below.refl _ w4).alloc (Nat.le_refl _) _))
      have HG8 := Aside0.mk (show W.heap[w4.heap.size]? = some (.cells #[.int .i64 r1, .int .i64 r2, .int .i64 r3, .int .i64 r4, .int .i64 r5] 25 (0, 0)) by rw [← hW]; exact heap_alloc_new _ _)
      clear hW HC4 HB4 HC2 HB HAR2
      go_cut [10, 11] (fun v10 v11 wx => ∃ b10 b11 : Nat, v10 = .pointer (some ⟨b10, 0, none⟩) ∧ v11 = .pointer (some ⟨b11, 0, none⟩) ∧ b10 ≠ b11 ∧ W.heap.size ≤ b10 ∧ W.heap.size ≤ b11 ∧
        Aside0 (wx.heap[b10]? = some (.cells #[.int .i64 (rd_T32 (l.map tame) 0).f0, .int .i64 (rd_T32 (l.map tame) 0).f1] 32 (0, 0))) ∧ Aside0 (wx.heap[b11]? = some (.cells #[.int .i64 (rd_T32 (l.map tame) 0).f0, .int .i64 (rd_T32 (l.map tame) 0).f1] 32 (0, 0))) ∧ Aside0 (Below W.heap.size W wx))
      case first =>
        go_region_held3 (fun w' => w'.cell? ad = some (.int .i64 (rd_T32 (l.map tame) 0).f0) ∧ w'.cell? ⟨ad.block, ad.off + 1, none⟩ = some (.int .i64 (rd_T32 (l.map tame) 0).f1)) (go_keep) (fail)
        · (go_wp2_with fail; go_meet; exact ⟨_, _, rfl, rfl, by omega, Nat.le_refl _, by omega, ⟨blk_one _ _ _⟩, ⟨blk_two _ _ _⟩, ⟨(bel_two _ _ _).drew⟩⟩)
        · (go_wp2_with fail; go_meet; exact ⟨_, _, rfl, rfl, by omega, by omega, Nat.le_refl _, ⟨blk_two _ _ _⟩, ⟨blk_one _ _ _⟩, ⟨(bel_two _ _ _).drew⟩⟩)
      case rest =>
        obtain ⟨b10, b11, rfl, rfl, hne, ge10, ge11, F10, F11, FB⟩ := hcut
        clear hz0 hz1 n0 n1 hx0 hx1 hy0 hy1
        go_wp2
        go_loopw [63] (fun i wr => ∃ k : Nat, k ≤ l.length ∧ i = .int .i64 k ∧ Aside0 (HoldsBox wr b10 b11 ((Box.one (rd_T32 (l.map tame) 0)).all ((l.map tame).take k))) ∧ Aside0 (Below W.heap.size W wr)) (fun i _ => l.length - (intOf i).toNat)
        case atStart => exact ⟨0, Nat.zero_le _, rfl, ⟨⟨F10.out, F11.out⟩⟩, FB⟩
        case round =>
          obtain ⟨k, hk, rfl, HX, HBW⟩ := hrel
          by_cases hlt : k < l.length
          · obtain ⟨ad', hA', hx0, hx1⟩ := at_T32 (Kd.C_below HCW.out HBW.out) (k : Int) (by omega) (by omega)
            obtain rfl := Option.some.inj hA'
            simp only [Int.toNat_natCast] at hx0 hx1
            have i1 : (k : Int) < (l.length : Int) := by omega
            have hx := HX.out
            generalize hB : (Box.one (rd_T32 (l.map tame) 0)).all ((l.map tame).take k) = x at *
            have c0 := cell_in hx.1 0
            have c1 := cell_in hx.1 1
            have c2 := cell_in hx.2 0
            have c3 := cell_in hx.2 1
            have f0 := frozen_in hx.1
            have f1 := frozen_in hx.2
            simp only [List.getElem?_toArray, List.getElem?_cons_zero, List.getElem?_cons_succ] at c0 c1 c2 c3
            have l10 := (Array.getElem?_eq_some_iff.1 hx.1).1
            have l11 := (Array.getElem?_eq_some_iff.1 hx.2).1
            have HB' := Lib.hid hB
            clear hx hB
            go_upto_region 18 with fail
            obtain ⟨V, hV⟩ : ∃ V, (wr.alloc (.cells #[.int .i64 (rd_T32 (l.map tame) (k : Int)).f0, .int .i64 (rd_T32 (l.map tame) (k : Int)).f1] 32)) = V := ⟨_, rfl⟩
            have bV : Below wr.heap.size wr V := by rw [← hV]; exact (Below.refl _ wr).alloc (Nat.le_refl _) _
            have vV : V.heap[wr.heap.size]? = some (.cells #[.int .i64 (rd_T32 (l.map tame) (k : Int)).f0, .int .i64 (rd_T32 (l.map tame) (k : Int)).f1] 32 (0, 0)) := by rw [← hV]; exact heap_alloc_new _ _
            rw [hV]
            have d0 := (bV.cell (p := ⟨b10, 0, none⟩) l10).trans c0
            have d1 := (bV.cell (p := ⟨b10, 1, none⟩) l10).trans c1
            have d2 := (bV.cell (p := ⟨b11, 0, none⟩) l11).trans c2
            have d3 := (bV.cell (p := ⟨b11, 1, none⟩) l11).trans c3
            have d4 := cell_in vV 0
            have d5 := cell_in vV 1
            simp only [List.getElem?_toArray, List.getElem?_cons_zero, List.getElem?_cons_succ] at d4 d5
            have g0 : ∀ i, V.frozen? ⟨b10, i, none⟩ = false := fun i => (bV.frozen (p := ⟨b10, i, none⟩) l10).trans (f0 i)
            have g1 : ∀ i, V.frozen? ⟨b11, i, none⟩ = false := fun i => (bV.frozen (p := ⟨b11, i, none⟩) l11).trans (f1 i)
            have HV := Aside0.mk (And.intro ((bV.block b10 l10).trans HX.out.1) ((bV.block b11 l11).trans HX.out.2))
            have HBV := Aside0.mk (bel_step HBW.out bV)
            clear c0 c1 c2 c3 f0 f1 hV bV vV hx0 hx1
            refine Go.Rg.wp_region_T (S := fun L w' => (L.getD 22 false = false → (w'.cell? ⟨b10, 0, none⟩ = some (.int .i64 x.a) ∧ w'.cell? ⟨b10, 1, none⟩ = some (.int .i64 x.b))) ∧ (L.getD 23 false = false → (w'.cell? ⟨b11, 0, none⟩ = some (.int .i64 x.c) ∧ w'.cell? ⟨b11, 1, none⟩ = some (.int .i64 x.d) ∧ w'.cell? ⟨wr.heap.size, 0, none⟩ = some (.int .i64 (rd_T32 (l.map tame) (k : Int)).f0) ∧ w'.cell? ⟨wr.heap.size, 1, none⟩ = some (.int .i64 (rd_T32 (l.map tame) (k : Int)).f1)))) rfl ?_
            refine Go.Rg.wpAnyT_take (fun _ => True) (i := 0) (v := ?v0) rfl (by kernel_rfl) (by kernel_rfl) (by kernel_rfl) (by kernel_rfl) (fun _ _ _ h => h) (fun L w => by rw [getD_set_ne false (show 0 ≠ 22 by decide), getD_set_ne false (show 0 ≠ 23 by decide)]) (fun _ _ _ _ _ => trivial) ⟨fun _ => ⟨d0, d1⟩, fun _ => ⟨d2, d3, d4, d5⟩⟩ (Or.inl ⟨by rfl, ?hy0⟩) ?rest0
            case hy0 => intro w hSw; (try dsimp only at hSw); go_simp; try with_reducible rfl
            simp only [Act.put, List.setIfInBounds_toArray, List.set_cons_zero, List.set_cons_succ]
            refine Go.Rg.wpAnyT_take (fun w' => (w'.cell? ⟨b10, 0, none⟩ = some (.int .i64 x.a) ∧ w'.cell? ⟨b10, 1, none⟩ = some (.int .i64 x.b))) (i := 1) (v := ?v1) rfl (by kernel_rfl) (by kernel_rfl) (by kernel_rfl) (by kernel_rfl) (fun _ _ _ h => h) (fun L w => by rw [getD_set_ne false (show 1 ≠ 22 by decide), getD_set_ne false (show 1 ≠ 23 by decide)]) (fun L w hsh hi h => h.1 (not_yet hsh ⟨_, rfl, { on := 1, ground := .phase }, by simp, rfl, rfl⟩ hi)) ⟨fun _ => ⟨d0, d1⟩, fun _ => ⟨d2, d3, d4, d5⟩⟩ (Or.inl ⟨by rfl, ?hy1⟩) ?rest1
            case hy1 => intro w hSw; (try dsimp only at hSw); go_simp; try with_reducible rfl
            simp only [Act.put, List.setIfInBounds_toArray, List.set_cons_zero, List.set_cons_succ]
            refine Go.Rg.wpAnyT_take (fun _ => True) (i := 2) (v := ?v2) rfl (by kernel_rfl) (by kernel_rfl) (by kernel_rfl) (by kernel_rfl) (fun _ _ _ h => h) (fun L w => by rw [getD_set_ne false (show 2 ≠ 22 by decide), getD_set_ne false (show 2 ≠ 23 by decide)]) (fun _ _ _ _ _ => trivial) ⟨fun _ => ⟨d0, d1⟩, fun _ => ⟨d2, d3, d4, d5⟩⟩ (Or.inl ⟨by rfl, ?hy2⟩) ?rest2
            case hy2 => intro w hSw; (try dsimp only at hSw); go_simp; try with_reducible rfl
            simp only [Act.put, List.setIfInBounds_toArray, List.set_cons_zero, List.set_cons_succ]
            refine Go.Rg.wpAnyT_take (fun w' => (w'.cell? ⟨b11, 0, none⟩ = some (.int .i64 x.c) ∧ w'.cell? ⟨b11, 1, none⟩ = some (.int .i64 x.d) ∧ w'.cell? ⟨wr.heap.size, 0, none⟩ = some (.int .i64 (rd_T32 (l.map tame) (k : Int)).f0) ∧ w'.cell? ⟨wr.heap.size, 1, none⟩ = some (.int .i64 (rd_T32 (l.map tame) (k : Int)).f1))) (i := 3) (v := ?v3) rfl (by kernel_rfl) (by kernel_rfl) (by kernel_rfl) (by kernel_rfl) (fun _ _ _ h => h) (fun L w => by rw [getD_set_ne false (show 3 ≠ 22 by decide), getD_set_ne false (show 3 ≠ 23 by decide)]) (fun L w hsh hi h => h.2 (not_yet hsh ⟨_, rfl, { on := 3, ground := .phase }, by simp, rfl, rfl⟩ hi)) ⟨fun _ => ⟨d0, d1⟩, fun _ => ⟨d2, d3, d4, d5⟩⟩ (Or.inl ⟨by rfl, ?hy3⟩) ?rest3
            case hy3 => intro w hSw; (try dsimp only at hSw); go_simp; try with_reducible rfl
            simp only [Act.put, List.setIfInBounds_toArray, List.set_cons_zero, List.set_cons_succ]
            refine Go.Rg.wpAnyT_take (fun _ => True) (i := 4) (v := ?v4) rfl (by kernel_rfl) (by kernel_rfl) (by kernel_rfl) (by kernel_rfl) (fun _ _ _ h => h) (fun L w => by rw [getD_set_ne false (show 4 ≠ 22 by decide), getD_set_ne false (show 4 ≠ 23 by decide)]) (fun _ _ _ _ _ => trivial) ⟨fun _ => ⟨d0, d1⟩, fun _ => ⟨d2, d3, d4, d5⟩⟩ (Or.inl ⟨by rfl, ?hy4⟩) ?rest4
            case hy4 => intro w hSw; (try dsimp only at hSw); go_simp; try with_reducible rfl
            simp only [Act.put, List.setIfInBounds_toArray, List.set_cons_zero, List.set_cons_succ]
            refine Go.Rg.wpAnyT_take (fun _ => True) (i := 5) (v := ?v5) rfl (by kernel_rfl) (by kernel_rfl) (by kernel_rfl) (by kernel_rfl) (fun _ _ _ h => h) (fun L w => by rw [getD_set_ne false (show 5 ≠ 22 by decide), getD_set_ne false (show 5 ≠ 23 by decide)]) (fun _ _ _ _ _ => trivial) ⟨fun _ => ⟨d0, d1⟩, fun _ => ⟨d2, d3, d4, d5⟩⟩ (Or.inl ⟨by rfl, ?hy5⟩) ?rest5
            case hy5 => intro w hSw; (try dsimp only at hSw); go_simp; try with_reducible rfl
            simp only [Act.put, List.setIfInBounds_toArray, List.set_cons_zero, List.set_cons_succ]
            refine Go.Rg.wpAnyT_take (fun w' => (w'.cell? ⟨b10, 0, none⟩ = some (.int .i64 x.a) ∧ w'.cell? ⟨b10, 1, none⟩ = some (.int .i64 x.b))) (i := 6) (v := ?v6) rfl (by kernel_rfl) (by kernel_rfl) (by kernel_rfl) (by kernel_rfl) (fun _ _ _ h => h) (fun L w => by rw [getD_set_ne false (show 6 ≠ 22 by decide), getD_set_ne false (show 6 ≠ 23 by decide)]) (fun L w hsh hi h => h.1 (not_yet hsh ⟨_, rfl, { on := 6, ground := .phase }, by simp, rfl, rfl⟩ hi)) ⟨fun _ => ⟨d0, d1⟩, fun _ => ⟨d2, d3, d4, d5⟩⟩ (Or.inl ⟨by rfl, ?hy6⟩) ?rest6
            case hy6 => intro w hSw; (try dsimp only at hSw); go_simp; try with_reducible rfl
            simp only [Act.put, List.setIfInBounds_toArray, List.set_cons_zero, List.set_cons_succ]
            refine Go.Rg.wpAnyT_take (fun _ => True) (i := 7) (v := ?v7) rfl (by kernel_rfl) (by kernel_rfl) (by kernel_rfl) (by kernel_rfl) (fun _ _ _ h => h) (fun L w => by rw [getD_set_ne false (show 7 ≠ 22 by decide), getD_set_ne false (show 7 ≠ 23 by decide)]) (fun _ _ _ _ _ => trivial) ⟨fun _ => ⟨d0, d1⟩, fun _ => ⟨d2, d3, d4, d5⟩⟩ (Or.inl ⟨by rfl, ?hy7⟩) ?rest7
            case hy7 => intro w hSw; (try dsimp only at hSw); go_simp; try with_reducible rfl
            simp only [Act.put, List.setIfInBounds_toArray, List.set_cons_zero, List.set_cons_succ]
            refine Go.Rg.wpAnyT_take (fun w' => (w'.cell? ⟨b11, 0, none⟩ = some (.int .i64 x.c) ∧ w'.cell? ⟨b11, 1, none⟩ = some (.int .i64 x.d) ∧ w'.cell? ⟨wr.heap.size, 0, none⟩ = some (.int .i64 (rd_T32 (l.map tame) (k : Int)).f0) ∧ w'.cell? ⟨wr.heap.size, 1, none⟩ = some (.int .i64 (rd_T32 (l.map tame) (k : Int)).f1))) (i := 8) (v := ?v8) rfl (by kernel_rfl) (by kernel_rfl) (by kernel_rfl) (by kernel_rfl) (fun _ _ _ h => h) (fun L w => by rw [getD_set_ne false (show 8 ≠ 22 by decide), getD_set_ne false (show 8 ≠ 23 by decide)]) (fun L w hsh hi h => h.2 (not_yet hsh ⟨_, rfl, { on := 8, ground := .phase }, by simp, rfl, rfl⟩ hi)) ⟨fun _ => ⟨d0, d1⟩, fun _ => ⟨d2, d3, d4, d5⟩⟩ (Or.inl ⟨by rfl, ?hy8⟩) ?rest8
            case hy8 => intro w hSw; (try dsimp only at hSw); go_simp; try with_reducible rfl
            simp only [Act.put, List.setIfInBounds_toArray, List.set_cons_zero, List.set_cons_succ]
            refine Go.Rg.wpAnyT_take (fun _ => True) (i := 9) (v := ?v9) rfl (by kernel_rfl) (by kernel_rfl) (by kernel_rfl) (by kernel_rfl) (fun _ _ _ h => h) (fun L w => by rw [getD_set_ne false (show 9 ≠ 22 by decide), getD_set_ne false (show 9 ≠ 23 by decide)]) (fun _ _ _ _ _ => trivial) ⟨fun _ => ⟨d0, d1⟩, fun _ => ⟨d2, d3, d4, d5⟩⟩ (Or.inl ⟨by rfl, ?hy9⟩) ?rest9
            case hy9 => intro w hSw; (try dsimp only at hSw); go_simp; try with_reducible rfl
            simp only [Act.put, List.setIfInBounds_toArray, List.set_cons_zero, List.set_cons_succ]
            refine Go.Rg.wpAnyT_take (fun _ => True) (i := 10) (v := ?v10) rfl (by kernel_rfl) (by kernel_rfl) (by kernel_rfl) (by kernel_rfl) (fun _ _ _ h => h) (fun L w => by rw [getD_set_ne false (show 10 ≠ 22 by decide), getD_set_ne false (show 10 ≠ 23 by decide)]) (fun _ _ _ _ _ => trivial) ⟨fun _ => ⟨d0, d1⟩, fun _ => ⟨d2, d3, d4, d5⟩⟩ (Or.inl ⟨by rfl, ?hy10⟩) ?rest10
            case hy10 => intro w hSw; (try dsimp only at hSw); go_simp; try with_reducible rfl
            simp only [Act.put, List.setIfInBounds_toArray, List.set_cons_zero, List.set_cons_succ]
            refine Go.Rg.wpAnyT_take (fun _ => True) (i := 11) (v := ?v11) rfl (by kernel_rfl) (by kernel_rfl) (by kernel_rfl) (by kernel_rfl) (fun _ _ _ h => h) (fun L w => by rw [getD_set_ne false (show 11 ≠ 22 by decide), getD_set_ne false (show 11 ≠ 23 by decide)]) (fun _ _ _ _ _ => trivial) ⟨fun _ => ⟨d0, d1⟩, fun _ => ⟨d2, d3, d4, d5⟩⟩ (Or.inl ⟨by rfl, ?hy11⟩) ?rest11
            case hy11 => intro w hSw; (try dsimp only at hSw); go_simp; try with_reducible rfl
            simp only [Act.put, List.setIfInBounds_toArray, List.set_cons_zero, List.set_cons_succ]
            refine Go.Rg.wpAnyT_take (fun w' => (w'.cell? ⟨b11, 0, none⟩ = some (.int .i64 x.c) ∧ w'.cell? ⟨b11, 1, none⟩ = some (.int .i64 x.d) ∧ w'.cell? ⟨wr.heap.size, 0, none⟩ = some (.int .i64 (rd_T32 (l.map tame) (k : Int)).f0) ∧ w'.cell? ⟨wr.heap.size, 1, none⟩ = some (.int .i64 (rd_T32 (l.map tame) (k : Int)).f1))) (i := 12) (v := ?v12) rfl (by kernel_rfl) (by kernel_rfl) (by kernel_rfl) (by kernel_rfl) (fun _ _ _ h => h) (fun L w => by rw [getD_set_ne false (show 12 ≠ 22 by decide), getD_set_ne false (show 12 ≠ 23 by decide)]) (fun L w hsh hi h => h.2 (not_yet hsh ⟨_, rfl, { on := 12, ground := .phase }, by simp, rfl, rfl⟩ hi)) ⟨fun _ => ⟨d0, d1⟩, fun _ => ⟨d2, d3, d4, d5⟩⟩ (Or.inl ⟨by rfl, ?hy12⟩) ?rest12
            case hy12 => intro w hSw; (try dsimp only at hSw); go_simp; try with_reducible rfl
            simp only [Act.put, List.setIfInBounds_toArray, List.set_cons_zero, List.set_cons_succ]
            refine Go.Rg.wpAnyT_take (fun _ => True) (i := 13) (v := ?v13) rfl (by kernel_rfl) (by kernel_rfl) (by kernel_rfl) (by kernel_rfl) (fun _ _ _ h => h) (fun L w => by rw [getD_set_ne false (show 13 ≠ 22 by decide), getD_set_ne false (show 13 ≠ 23 by decide)]) (fun _ _ _ _ _ => trivial) ⟨fun _ => ⟨d0, d1⟩, fun _ => ⟨d2, d3, d4, d5⟩⟩ (Or.inl ⟨by rfl, ?hy13⟩) ?rest13
            case hy13 => intro w hSw; (try dsimp only at hSw); go_simp; try with_reducible rfl
            simp only [Act.put, List.setIfInBounds_toArray, List.set_cons_zero, List.set_cons_succ]
            refine Go.Rg.wpAnyT_take (fun w' => (w'.cell? ⟨b11, 0, none⟩ = some (.int .i64 x.c) ∧ w'.cell? ⟨b11, 1, none⟩ = some (.int .i64 x.d) ∧ w'.cell? ⟨wr.heap.size, 0, none⟩ = some (.int .i64 (rd_T32 (l.map tame) (k : Int)).f0) ∧ w'.cell? ⟨wr.heap.size, 1, none⟩ = some (.int .i64 (rd_T32 (l.map tame) (k : Int)).f1))) (i := 14) (v := ?v14) rfl (by kernel_rfl) (by kernel_rfl) (by kernel_rfl) (by kernel_rfl) (fun _ _ _ h => h) (fun L w => by rw [getD_set_ne false (show 14 ≠ 22 by decide), getD_set_ne false (show 14 ≠ 23 by decide)]) (fun L w hsh hi h => h.2 (not_yet hsh ⟨_, rfl, { on := 14, ground := .phase }, by simp, rfl, rfl⟩ hi)) ⟨fun _ => ⟨d0, d1⟩, fun _ => ⟨d2, d3, d4, d5⟩⟩ (Or.inl ⟨by rfl, ?hy14⟩) ?rest14
            case hy14 => intro w hSw; (try dsimp only at hSw); go_simp; try with_reducible rfl
            simp only [Act.put, List.setIfInBounds_toArray, List.set_cons_zero, List.set_cons_succ]
            refine Go.Rg.wpAnyT_take (fun _ => True) (i := 15) (v := ?v15) rfl (by kernel_rfl) (by kernel_rfl) (by kernel_rfl) (by kernel_rfl) (fun _ _ _ h => h) (fun L w => by rw [getD_set_ne false (show 15 ≠ 22 by decide), getD_set_ne false (show 15 ≠ 23 by decide)]) (fun _ _ _ _ _ => trivial) ⟨fun _ => ⟨d0, d1⟩, fun _ => ⟨d2, d3, d4, d5⟩⟩ (Or.inl ⟨by rfl, ?hy15⟩) ?rest15
            case hy15 => intro w hSw; (try dsimp only at hSw); go_simp; try with_reducible rfl
            simp only [Act.put, List.setIfInBounds_toArray, List.set_cons_zero, List.set_cons_succ]
            refine Go.Rg.wpAnyT_take (fun _ => True) (i := 16) (v := ?v16) rfl (by kernel_rfl) (by kernel_rfl) (by kernel_rfl) (by kernel_rfl) (fun _ _ _ h => h) (fun L w => by rw [getD_set_ne false (show 16 ≠ 22 by decide), getD_set_ne false (show 16 ≠ 23 by decide)]) (fun _ _ _ _ _ => trivial) ⟨fun _ => ⟨d0, d1⟩, fun _ => ⟨d2, d3, d4, d5⟩⟩ (Or.inl ⟨by rfl, ?hy16⟩) ?rest16
            case hy16 => intro w hSw; (try dsimp only at hSw); go_simp; try with_reducible rfl
            simp only [Act.put, List.setIfInBounds_toArray, List.set_cons_zero, List.set_cons_succ]
            refine Go.Rg.wpAnyT_take (fun w' => (w'.cell? ⟨b11, 0, none⟩ = some (.int .i64 x.c) ∧ w'.cell? ⟨b11, 1, none⟩ = some (.int .i64 x.d) ∧ w'.cell? ⟨wr.heap.size, 0, none⟩ = some (.int .i64 (rd_T32 (l.map tame) (k : Int)).f0) ∧ w'.cell? ⟨wr.heap.size, 1, none⟩ = some (.int .i64 (rd_T32 (l.map tame) (k : Int)).f1))) (i := 17) (v := ?v17) rfl (by kernel_rfl) (by kernel_rfl) (by kernel_rfl) (by kernel_rfl) (fun _ _ _ h => h) (fun L w => by rw [getD_set_ne false (show 17 ≠ 22 by decide), getD_set_ne false (show 17 ≠ 23 by decide)]) (fun L w hsh hi h => h.2 (not_yet hsh ⟨_, rfl, { on := 17, ground := .phase }, by simp, rfl, rfl⟩ hi)) ⟨fun _ => ⟨d0, d1⟩, fun _ => ⟨d2, d3, d4, d5⟩⟩ (Or.inl ⟨by rfl, ?hy17⟩) ?rest17
            case hy17 => intro w hSw; (try dsimp only at hSw); go_simp; try with_reducible rfl
            simp only [Act.put, List.setIfInBounds_toArray, List.set_cons_zero, List.set_cons_succ]
            refine Go.Rg.wpAnyT_take (fun _ => True) (i := 18) (v := ?v18) rfl (by kernel_rfl) (by kernel_rfl) (by kernel_rfl) (by kernel_rfl) (fun _ _ _ h => h) (fun L w => by rw [getD_set_ne false (show 18 ≠ 22 by decide), getD_set_ne false (show 18 ≠ 23 by decide)]) (fun _ _ _ _ _ => trivial) ⟨fun _ => ⟨d0, d1⟩, fun _ => ⟨d2, d3, d4, d5⟩⟩ (Or.inl ⟨by rfl, ?hy18⟩) ?rest18
            case hy18 => intro w hSw; (try dsimp only at hSw); go_simp; try with_reducible rfl
            simp only [Act.put, List.setIfInBounds_toArray, List.set_cons_zero, List.set_cons_succ]
            refine Go.Rg.wpAnyT_take (fun w' => (w'.cell? ⟨b11, 0, none⟩ = some (.int .i64 x.c) ∧ w'.cell? ⟨b11, 1, none⟩ = some (.int .i64 x.d) ∧ w'.cell? ⟨wr.heap.size, 0, none⟩ = some (.int .i64 (rd_T32 (l.map tame) (k : Int)).f0) ∧ w'.cell? ⟨wr.heap.size, 1, none⟩ = some (.int .i64 (rd_T32 (l.map tame) (k : Int)).f1))) (i := 19) (v := ?v19) rfl (by kernel_rfl) (by kernel_rfl) (by kernel_rfl) (by kernel_rfl) (fun _ _ _ h => h) (fun L w => by rw [getD_set_ne false (show 19 ≠ 22 by decide), getD_set_ne false (show 19 ≠ 23 by decide)]) (fun L w hsh hi h => h.2 (not_yet hsh ⟨_, rfl, { on := 19, ground := .phase }, by simp, rfl, rfl⟩ hi)) ⟨fun _ => ⟨d0, d1⟩, fun _ => ⟨d2, d3, d4, d5⟩⟩ (Or.inl ⟨by rfl, ?hy19⟩) ?rest19
            case hy19 => intro w hSw; (try dsimp only at hSw); go_simp; try with_reducible rfl
            simp only [Act.put, List.setIfInBounds_toArray, List.set_cons_zero, List.set_cons_succ]
            refine Go.Rg.wpAnyT_take (fun _ => True) (i := 20) (v := ?v20) rfl (by kernel_rfl) (by kernel_rfl) (by kernel_rfl) (by kernel_rfl) (fun _ _ _ h => h) (fun L w => by rw [getD_set_ne false (show 20 ≠ 22 by decide), getD_set_ne false (show 20 ≠ 23 by decide)]) (fun _ _ _ _ _ => trivial) ⟨fun _ => ⟨d0, d1⟩, fun _ => ⟨d2, d3, d4, d5⟩⟩ (Or.inl ⟨by rfl, ?hy20⟩) ?rest20
            case hy20 => intro w hSw; (try dsimp only at hSw); go_simp; try with_reducible rfl
            simp only [Act.put, List.setIfInBounds_toArray, List.set_cons_zero, List.set_cons_succ]
            refine Go.Rg.wpAnyT_take (fun _ => True) (i := 21) (v := ?v21) rfl (by kernel_rfl) (by kernel_rfl) (by kernel_rfl) (by kernel_rfl) (fun _ _ _ h => h) (fun L w => by rw [getD_set_ne false (show 21 ≠ 22 by decide), getD_set_ne false (show 21 ≠ 23 by decide)]) (fun _ _ _ _ _ => trivial) ⟨fun _ => ⟨d0, d1⟩, fun _ => ⟨d2, d3, d4, d5⟩⟩ (Or.inl ⟨by rfl, ?hy21⟩) ?rest21
            case hy21 => intro w hSw; (try dsimp only at hSw); go_simp; try with_reducible rfl
            simp only [Act.put, List.setIfInBounds_toArray, List.set_cons_zero, List.set_cons_succ]
            refine Go.Rg.wpAnyT_one (i := 22) (by kernel_rfl) ?_
            refine Go.Rg.wpOp_skip (w' := ?w22) rfl (by rfl) ?hr22 ?st22
            case hr22 => go_simp; rfl
            have t2 : ∀ {j u} (c : Nat), c ≠ b10 → V.cell? ⟨c, j, none⟩ = some u → ((V.setCell ⟨b10, 0, none⟩ (.int .i64 (mn x.a (rd_T32 (l.map tame) (k : Int)).f0))).setCell ⟨b10, 1, none⟩ (.int .i64 (mn x.b (rd_T32 (l.map tame) (k : Int)).f1))).cell? ⟨c, j, none⟩ = some u := fun c hc h => cell_far hc (cell_far hc h)
            have u2 := t2 b11 (Ne.symm hne) d2
            have u3 := t2 b11 (Ne.symm hne) d3
            have u4 := t2 wr.heap.size (by omega) d4
            have u5 := t2 wr.heap.size (by omega) d5
            have v1 : ∀ i, ((V.setCell ⟨b10, 0, none⟩ (.int .i64 (mn x.a (rd_T32 (l.map tame) (k : Int)).f0))).setCell ⟨b10, 1, none⟩ (.int .i64 (mn x.b (rd_T32 (l.map tame) (k : Int)).f1))).frozen? ⟨b11, i, none⟩ = false := fun i => frozen_far (Ne.symm hne) (frozen_far (Ne.symm hne) (g1 i))
            refine ⟨⟨fun h => absurd h (by decide), fun _ => ⟨u2, u3, u4, u5⟩⟩, ?_⟩
            refine Go.Rg.wpAnyT_one (i := 23) (by kernel_rfl) ?_
            refine Go.Rg.wpOp_skip (w' := ?w23) rfl (by rfl) ?hr23 ?st23
            case hr23 => go_simp; rfl
            refine ⟨⟨fun h => absurd h (by decide), fun h => absurd h (by decide)⟩, ?_⟩
            refine Go.Rg.wpAnyT_done (by kernel_rfl) ?_
            simp only [Act.put]
            have HN := Aside0.mk (put_box hne HV.out (rd_T32 (l.map tame) (k : Int)))
            have HBN := Aside0.mk (put_below (B := W) ge10 ge11 HBV.out (x := x) (q := rd_T32 (l.map tame) (k : Int)))
            clear u2 u3 u4 u5 v1 t2 d0 d1 d2 d3 d4 d5 g0 g1
            go_wp2_with fail
            go_roundw
            case rel => exact ⟨k + 1, by omega, by go_num, ⟨by rw [take_box (by omega : k < (l.map tame).length), HB'.out]; exact HN.out⟩, HBN⟩
            case measure => simp [intOf]; omega
          · have hk' : k = l.length := by omega
            subst hk'
            have htl : (l.map tame).take l.length = l.map tame := List.take_of_length_le (by omega)
            rw [htl] at HX
            have hx := HX.out
            have hok : ((Box.one (rd_T32 (l.map tame) 0)).all (l.map tame)).ok := Box.ok_all (Box.ok_one (by rw [show (0 : Int) = ((0 : Nat) : Int) from rfl, rd_at hT0]; exact near_all l _ (List.getElem_mem hT0))) (near_all l)
            obtain ⟨x, hB⟩ : ∃ x, x = (Box.one (rd_T32 (l.map tame) 0)).all (l.map tame) := ⟨_, rfl⟩
            have HF := Aside0.mk (show (r1, r2, r3, r4, r5, r6) = fin x a1 by rw [hB, HA.out]; exact ans_main l a1 hT0 h1)
            rw [← hB] at hx hok
            clear hB HX HA
            have c0 := cell_in hx.1 0
            have c1 := cell_in hx.1 1
            have c2 := cell_in hx.2 0
            have c3 := cell_in hx.2 1
            simp only [List.getElem?_toArray, List.getElem?_cons_zero, List.getElem?_cons_succ] at c0 c1 c2 c3
            have hg8 := (HBW.out.block _ (Array.getElem?_eq_some_iff.1 HG8.out).1).trans HG8.out
            have p0 := cell_in hg8 0
            have p1 := cell_in hg8 1
            have p2 := cell_in hg8 2
            have p3 := cell_in hg8 3
            have p4 := cell_in hg8 4
            simp only [List.getElem?_toArray, List.getElem?_cons_zero, List.getElem?_cons_succ] at p0 p1 p2 p3 p4
            have HX := Aside0.mk hx
            clear hx hg8
            unfold Box.ok at hok
            obtain ⟨q1, q2, q3, q4, q5, q6⟩ := hok
            have e1 : 0 ≤ x.c - x.a := by omega
            have e2 : x.c - x.a ≤ 4294967296 := by omega
            have e3 : 0 ≤ x.d - x.b := by omega
            have e4 : x.d - x.b ≤ 4294967296 := by omega
            obtain ⟨s1, s2, s3⟩ := quo_bounds e1 e2 h1
            obtain ⟨s4, s5, s6⟩ := quo_bounds e3 e4 h1
            go_upto_region 20 with fail
            go_quiet (fail)
            have m1 : 0 ≤ (x.c - x.a) / a1 * a1 := Int.mul_nonneg s1 (by omega)
            have m2 : (x.c - x.a) / a1 * a1 ≤ x.c - x.a := Int.ediv_mul_le _ (by omega)
            have m3 : 0 ≤ (x.d - x.b) / a1 * a1 := Int.mul_nonneg s4 (by omega)
            have m4 : (x.d - x.b) / a1 * a1 ≤ x.d - x.b := Int.ediv_mul_le _ (by omega)
            have HX1 := Aside0.mk (show HoldsBox (wr.drewN nq) b10 b11 x from HX.out)
            go_upto_if 112 with fail
            go_cut [14] (fun v14 wx => v14 = .int .i64 (nd (x.c - x.a) a1 - 1) ∧ wx = wr.drewN nq)
            case first =>
              by_cases px : (x.c - x.a) / a1 * a1 < x.c - x.a
              · have n1 := nd_more px
                go_wp2_with fail
                go_meet
                exact ⟨by rw [n1], rfl⟩
              · have n1 := nd_less px
                go_wp2_with fail
                go_meet
                exact ⟨by rw [n1], rfl⟩
            case rest =>
              obtain ⟨rfl, rfl⟩ := hcut
              go_upto_if 123 with fail
              go_cut [15] (fun v15 wx => v15 = .int .i64 (nd (x.d - x.b) a1 - 1) ∧ Aside0 (HoldsBox wx b10 b11 x) ∧ Aside0 (Below W.heap.size W wx))
              case first =>
                by_cases px : (x.d - x.b) / a1 * a1 < x.d - x.b
                · have n1 := nd_more px
                  go_wp2_with fail
                  go_meet
                  exact ⟨by rw [n1], HX1, ⟨bel_drewN HBW.out _⟩⟩
                · have n1 := nd_less px
                  go_wp2_with fail
                  go_meet
                  exact ⟨by rw [n1], HX1, ⟨bel_drewN HBW.out _⟩⟩
              case rest =>
                rename_i wz
                obtain ⟨rfl, HXz, HBz⟩ := hcut
                clear c0 c1 c2 c3 p0 p1 p2 p3 p4
                have hx := HXz.out
                have c0 := cell_in hx.1 0
                have c1 := cell_in hx.1 1
                have c2 := cell_in hx.2 0
                have c3 := cell_in hx.2 1
                simp only [List.getElem?_toArray, List.getElem?_cons_zero, List.getElem?_cons_succ] at c0 c1 c2 c3
                have hg8 := (HBz.out.block _ (Array.getElem?_eq_some_iff.1 HG8.out).1).trans HG8.out
                have p0 := cell_in hg8 0
                have p1 := cell_in hg8 1
                have p2 := cell_in hg8 2
                have p3 := cell_in hg8 3
                have p4 := cell_in hg8 4
                have hl8 := (Array.getElem?_eq_some_iff.1 hg8).1
                simp only [List.getElem?_toArray, List.getElem?_cons_zero, List.getElem?_cons_succ] at p0 p1 p2 p3 p4
                clear hx hg8
                obtain ⟨n, hn⟩ : ∃ n, n = nd (x.c - x.a) a1 - 1 := ⟨_, rfl⟩
                obtain ⟨m, hm⟩ : ∃ m, m = nd (x.d - x.b) a1 - 1 := ⟨_, rfl⟩
                have N1 := nd_bounds e1 e2 h1
                have N2 := nd_bounds e3 e4 h1
                have b1 : 0 ≤ n := by omega
                have b2 : n ≤ 4294967297 := by omega
                have b3 : 0 ≤ m := by omega
                have b4 : m ≤ 4294967297 := by omega
                have HN := Aside0.mk (And.intro (show nd (x.c - x.a) a1 = n + 1 by omega) (show nd (x.d - x.b) a1 = m + 1 by omega))
                clear N1 N2 m1 m2 m3 m4 s1 s2 s3 s4 s5 s6
                rw [← hn, ← hm]
                clear hn hm
                have HBE := Aside0.mk (bel_step HW0.out HBz.out)
                by_cases he : want x.a x.b a1 (n + 1) (m + 1) = 0
                · have hf := HF.out
                  unfold fin at hf
                  rw [HN.out.1, HN.out.2] at hf
                  simp only [he, if_true, Prod.mk.injEq] at hf
                  obtain ⟨rfl, rfl, rfl, rfl, rfl, rfl⟩ := hf
                  have HE := Lib.hid he
                  clear he
                  go_wp2_with (go_at_call 11; refine (check_any _ _ _ _ _ (by omega) (by omega) (by omega) (by omega) _ HE.out _).mono ?_; rintro e w5 ⟨rfl, hb5⟩; have HB5 := Aside0.mk (bel_step (bel_alloc HBE.out _) hb5); have HK5 := bcell hb5; clear hb5)
                  go_ret
                  exact ⟨rfl, HB5.out⟩
                · have hf := HF.out
                  unfold fin at hf
                  rw [HN.out.1, HN.out.2] at hf
                  simp only [he, if_false, Prod.mk.injEq] at hf
                  obtain ⟨rfl, rfl, rfl, rfl, rfl, rfl⟩ := hf
                  obtain ⟨ev, hev⟩ : ∃ ev, want x.a x.b a1 (n + 1) (m + 1) = ev := ⟨_, rfl⟩
                  rw [hev] at he
                  simp only [hev]
                  have he1 : (ev == 0) = false := by simpa using he
                  have he2 : (ev != 0) = true := by simpa using he
                  have HE := Lib.hid hev
                  clear he hev HF
                  go_wp2_with (go_at_call 11; refine (check_any _ _ _ _ _ (by omega) (by omega) (by omega) (by omega) _ HE.out _).mono ?_; rintro e w5 ⟨rfl, hb5⟩; have HB5 := Aside0.mk (bel_step (bel_alloc HBE.out _) hb5); have HK5 := bcell hb5; clear hb5)
                  go_ret
                  exact ⟨rfl, HB5.out⟩
end Ga
end Go.Proofs.Ytdihefgleefhmaa
