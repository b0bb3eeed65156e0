/- GrowBases: the law's code answers true, at whatever points. -/
import Derived.Test.YtdihefgleefhmaaFt
import Derived.Test.YtdihefgleefhmaaBa
namespace Go.Proofs.Ytdihefgleefhmaa
open Go.RowKit
/-- points that came in: a slice of them. -/
def ArgAt (W : World) (a : Option Addr) (l : List Pt) : Prop := 0 < l.length → ∃ ad : Addr, a = some ad ∧ ∀ i, i < l.length → W.cell? (ad.add (i * 2)) = some (.int .i64 (pat l i).x) ∧ W.cell? ⟨(ad.add (i * 2)).block, (ad.add (i * 2)).off + 1, none⟩ = some (.int .i64 (pat l i).y)
namespace Gb
open Wd Pr Ft
/-- the three numbers, and the points. -/
structure GbS (w W : World) (kb gg : Nat) (T : List Pt) (c d : Nat) : Prop where
 kB : Blk W kb 58 #[.int .i64 0, .int .i64 c, .int .i64 d]
 pts : PtsAt W gg T
 bel : Below w.heap.size w W
theorem GbS.later {w W W' : World} {kb gg : Nat} {T : List Pt} {c d : Nat} (h : GbS w W kb gg T c d) (hb : Below W.heap.size W W') : GbS w W' kb gg T c d := ⟨h.kB.later hb, h.pts.later hb, bel_step h.bel hb⟩
attribute [local go_sem high] run_eql32 run_neq32
/-- what an append to a row of the call's own has left alone. -/
theorem grown_below {W W' : World} {B B' e s n : Nat} {v : Value} {xs : List Value} {o : Obj} (hg : (W.alloc o).grownBy W' v.ownBlock) (h : W.ownsRow B' e s v n xs) (hs : B' ≤ W.heap.size) (hB : B ≤ B' := by exact Nat.le_refl _) : Below B W W' := by
 refine ⟨hg.os, hg.tape, hg.output, Nat.le_trans (by simp) hg.size, fun k hk => ?_⟩
 refine (hg.block k (by simp; omega) (fun e => ?_)).trans (Below.heap_alloc _ _ _ (by omega))
 have := (h.lt k e.symm).1
 omega
set_option maxHeartbeats 4000000 in
set_option maxRecDepth 100000 in
theorem law_any (ha : areaOk M1) (a : Option Addr) (c0 : Nat) (l : List Pt) (w : World) (hl : ArgAt w a l) : Calls Try.prog 8 #[.slice a l.length c0] w fun e w' => e = .returned (.bool true) ∧ Below w.heap.size w w' := by
 have hft := Ff.fit_any ha w
 have HFT := Lib.hid hft
 have HA := Lib.hid hl
 obtain ⟨n, hn⟩ : ∃ n, l.length = n := ⟨_, rfl⟩
 have HN := Lib.hid hn
 rw [hn]
 clear hft ha hl hn
 by_cases h12 : 12 < n
 ·have i12 : (12 : Int) < (n : Int) := by omega
  go_enter Try.func8, Try.ntmps8
  go_wp2_with (go_at_call 18; refine HFT.out.mono ?_; rintro e w1 ⟨rfl, hb1⟩; have HB1 := Lib.hid hb1; clear hb1)
  go_ret
  exact ⟨rfl, HB1.out⟩
 ·have i12 : ¬ (12 : Int) < (n : Int) := by omega
  go_enter Try.func8, Try.ntmps8
  go_wp2_with (go_at_call 18; refine HFT.out.mono ?_; rintro e w1 ⟨rfl, hb1⟩; have HB1 := Lib.hid hb1; clear hb1)
  go_loopw [3, 17] (fun v0 q wr => ∃ (k : Nat) (v : Value), q = .int .i64 k ∧ v = v0 ∧ k ≤ n ∧ Hid (wr.ownsRow w.heap.size 32 2 v k (((l.map tame).take k).flatMap Pt.cs)) ∧ Hid (Below w.heap.size w wr)) (fun _ q _ => n - (intOf q).toNat)
  case atStart => exact ⟨0, _, rfl, rfl, Nat.zero_le _, Lib.hid ⟨rfl, .inl ⟨rfl, rfl⟩⟩, HB1⟩
  case round =>
   obtain ⟨k, v, rfl, rfl, hk, HO, HB⟩ := hrel
   by_cases hlt : k < n
   ·obtain ⟨ad, rfl, hc⟩ := HA.out (by have := HN.out; omega)
    obtain ⟨x0, x1⟩ := hc k (by have := HN.out; omega)
    have y0 := cell_later x0 HB.out
    have y1 := cell_later x1 HB.out
    have i0 : (0 : Int) ≤ (k : Int) := by omega
    have i1 : (k : Int) < (n : Int) := by omega
    clear hc x0 x1
    go_upto_region 9 with (fail)
    have hbk := bel_alloc HB.out (.cells #[.int .i64 (pat l k).x, .int .i64 (pat l k).y] 32)
    have hbl := Blk.new wr 32 #[.int .i64 (pat l k).x, .int .i64 (pat l k).y]
    have hoo := own_later HO.out (bel_alloc (bel_refl wr) (.cells #[.int .i64 (pat l k).x, .int .i64 (pat l k).y] 32))
    have hft : (l.map tame).take (k + 1) = (l.map tame).take k ++ [tame (pat l k)] := by
     rw [List.take_add_one, List.getElem?_map, pat_get (by have := HN.out; omega)]
     rfl
    have HTK := Lib.hid hft
    clear hft y0 y1
    generalize wr.alloc (.cells #[.int .i64 (pat l k).x, .int .i64 (pat l k).y] 32) = W2 at *
    obtain ⟨z0, z1, _, _⟩ := hbl.two
    have HBK := Lib.hid hbk
    have HOO := Lib.hid hoo
    obtain ⟨A3, c3, rfl⟩ := own_slice hoo
    obtain ⟨tp, htp⟩ : ∃ tp, tame (pat l k) = tp := ⟨_, rfl⟩
    have htm := tame_any (pat l k) W2
    rw [htp] at htm
    have HTP := Lib.hid htp
    have HTM := Lib.hid htm
    obtain ⟨j0, hj', hz0, hz1, hz2⟩ := info_parts Nw.Try.info32'
    clear hbk hbl hoo htp htm
    go_wp2_with (first
     | (go_at_call 12; refine HTM.out.mono ?_; rintro e w4 ⟨rfl, hb4⟩; have HB4 := Lib.hid (bel_step HBK.out hb4); have HO4 := Lib.hid (own_later HOO.out hb4); clear hb4)
     | (at_builtin; refine wpList_append_own_at _ rfl _ _ 30 rfl w.heap.size 32 j0 (.agg #[.int .i64 0, .int .i64 0]) 2 16 Try.underlying30 hj' hz0 hz1 hz2 rfl (by decide) (.slice A3 k c3) k (((l.map tame).take k).flatMap Pt.cs) rfl (HO4.out.alloc _) ⟨w4.heap.size, 0, none⟩ 1 1 tp.cs rfl rfl (World.news_of_block (cs := #[.int .i64 tp.x, .int .i64 tp.y]) (heap_alloc_new _ _)) (by simp [Value.oneCell']) (by unfold maxLen; omega) (by omega) (by have := HB4.out.size; simp; omega) ?_; intro v5 w5 hown5 hgrow _ hat5; have HO5 := Lib.hid hown5; have HB5 := Lib.hid (HB4.out.trans (grown_below hgrow HO4.out HB4.out.size)); clear hown5 hgrow hat5))
    go_roundw
    case rel => exact ⟨k + 1, _, by go_num, rfl, by omega, Lib.hid (by rw [HTK.out, List.flatMap_append, HTP.out]; simpa using HO5.out), HB5⟩
    case measure => simp [intOf]; omega
   ·have hkn : k = n := by omega
    subst hkn
    obtain ⟨T, hT⟩ : ∃ T, l.map tame = T := ⟨_, rfl⟩
    have hTl : T.length = k := by rw [← hT, List.length_map, HN.out]
    have hTn : nearAll T := by
     intro i
     rw [← hT]
     unfold pat
     rw [List.getD_eq_getElem?_getD, List.getElem?_map]
     cases l[i]? with
     | none => exact zero_near
     | some q => exact tame_near q
    have hO := HO.out
    rw [hT, List.take_of_length_le (by omega)] at hO
    have hcon : (∀ u, Below wr.heap.size wr u → Calls Try.prog 27 #[v] u fun e w' => e = .returned (baseV (baseOf T)) ∧ Below u.heap.size u w') ∧ (∀ u, Below wr.heap.size wr u → Calls Try.prog 21 #[v] u fun e w' => e = .returned (.bool (baseOf T).isNone) ∧ Below u.heap.size u w') ∧
      (0 < k → ∃ g c, v = .slice (some ⟨g, 0, none⟩) k c ∧ PtsAt wr g T) := by
     obtain ⟨h1, ⟨rfl, h0⟩ | ⟨g, c, cur, rfl, hr⟩⟩ := hO
     ·have hTe : T = [] := List.eq_nil_of_length_eq_zero (by omega)
      subst hTe
      exact ⟨fun u _ => Bp.base_nil u, fun u _ => Bp.flat_nil u, fun h => by omega⟩
     ·have hO2 : wr.ownsRow w.heap.size 32 2 (.slice (some ⟨g, 0, none⟩) k c) k (T.flatMap Pt.cs) := ⟨h1, .inr ⟨g, c, cur, rfl, hr⟩⟩
      have hP : PtsAt wr g T := by
       refine ⟨by omega, fun i hi => ?_⟩
       have kk := fun j (hj : j < 2) => (hO2.cellAt (i * 2 + j) (by omega)).trans ((flat_get Pt.cs 2 (fun _ => rfl) T i j hj).trans (by rw [pat_get hi]))
       exact ⟨kk 0 (by omega), kk 1 (by omega)⟩
      refine ⟨fun u hu => ?_, fun u hu => ?_, fun _ => ⟨g, c, rfl, hP⟩⟩
      ·have := Ba.base_at g c T u (hP.later hu) hTn
       rw [hTl] at this
       exact this
      ·have := Fl.flat_no g c T u (hP.later hu) hTn _ (Bp.flat_iff T)
       rw [hTl] at this
       exact this
    obtain ⟨hBA, hFL, hPP⟩ := hcon
    have HBA := Lib.hid hBA
    have HFL := Lib.hid hFL
    have HPP := Lib.hid hPP
    have HTN := Lib.hid hTn
    have HTL := Lib.hid hTl
    clear hO hBA hFL hPP hTn hTl hT
    cases hb : baseOf T with
    | none =>
     have h27 := HBA.out wr (bel_refl wr)
     rw [hb] at h27
     simp only [baseV] at h27
     have h21 := HFL.out
     rw [hb] at h21
     simp only [Option.isNone_none] at h21
     have H27 := Lib.hid h27
     have H21 := Lib.hid h21
     have eq58 : ∀ u, (binOp .eql 58 (.agg #[.int .i64 0, .int .i64 0, .int .i64 0]) (.agg #[.int .i64 0, .int .i64 0, .int .i64 0])).run Try.prog u = .ok (.bool true) u := fun u => by kernel_rfl
     clear h27 h21 hb HBA HFL HPP
     go_wp2_with (first
      | (go_at_call 27; refine H27.out.mono ?_; rintro e w2 ⟨rfl, hb2⟩; have HB2 := Lib.hid hb2; clear hb2)
      | (go_at_call 21; refine (H21.out _ (bel_alloc HB2.out _)).mono ?_; rintro e w3 ⟨rfl, hb3⟩; have q0 := cell_later ((Blk.new w2 58 #[.int .i64 0, .int .i64 0, .int .i64 0]).cell 0 _ rfl) hb3; have q1 := cell_later ((Blk.new w2 58 #[.int .i64 0, .int .i64 0, .int .i64 0]).cell 1 _ rfl) hb3; have q2 := cell_later ((Blk.new w2 58 #[.int .i64 0, .int .i64 0, .int .i64 0]).cell 2 _ rfl) hb3; have HB3 := Lib.hid (bel_step (bel_alloc (bel_step HB.out HB2.out) _) hb3); clear hb3))
     go_ret
     exact ⟨rfl, HB3.out⟩
    | some x =>
     obtain ⟨c, d⟩ := x
     obtain ⟨g1, g2, g3, g4, g5, g6, g7⟩ := (Bp.spec T).1 c d hb
     obtain ⟨gg, cc, rfl, hP⟩ := HPP.out (by have := HTL.out; omega)
     have h27 := HBA.out wr (bel_refl wr)
     rw [hb] at h27
     simp only [baseV] at h27
     have h21 := HFL.out
     rw [hb] at h21
     simp only [Option.isNone_some] at h21
     have H27 := Lib.hid h27
     have H21 := Lib.hid h21
     have HP := Lib.hid hP
     have G4 := Lib.hid g4
     have G5 := Lib.hid g5
     have G6 := Lib.hid g6
     have G7 := Lib.hid g7
     rw [HTL.out] at g3
     clear h27 h21 hb HBA HFL HPP hP g4 g5 g6 g7
     go_upto_region 16 with (first
      | (go_at_call 27; refine H27.out.mono ?_; rintro e w2 ⟨rfl, hb2⟩; have HB2 := Lib.hid hb2; clear hb2)
      | (go_at_call 21; refine (H21.out _ (bel_alloc HB2.out _)).mono ?_; rintro e w3 ⟨rfl, hb3⟩; have HKK := Lib.hid ((Blk.new w2 58 #[.int .i64 0, .int .i64 c, .int .i64 d]).later hb3); have HB3 := Lib.hid (bel_step (bel_alloc (bel_step HB.out HB2.out) _) hb3); have HP3 := Lib.hid (HP.out.later (bel_step (bel_alloc HB2.out _) hb3)); clear hb3))
     have hS : GbS w w3 w2.heap.size gg T c d := ⟨HKK.out, HP3.out, HB3.out⟩
     have HS := Lib.hid hS
     obtain ⟨kb, hkb⟩ : ∃ kb, w2.heap.size = kb := ⟨_, rfl⟩
     rw [hkb] at HS hS ⊢
     obtain ⟨_, k1, k2, _, _, _⟩ := hS.kB.three
     have hk0 : 0 < T.length := by have := HTL.out; omega
     have i00 : (0 : Int) < (k : Int) := by omega
     have HK0 := Lib.hid hk0
     clear hS hkb HKK HP3 HB3 HB2 H27 H21 HP hk0
     go_wp2
     go_loopw [43] (fun q wr => ∃ i : Nat, q = .int .i64 i ∧ i ≤ c ∧ Hid (GbS w wr kb gg T c d)) (fun q _ => c - (intOf q).toNat)
     case atStart => exact ⟨0, rfl, Nat.zero_le _, HS⟩
     case round =>
      obtain ⟨i, rfl, hi, HI⟩ := hrel
      by_cases hlt2 : i < c
      ·obtain ⟨x0, x1⟩ := HI.out.pts.cells i (by have := HTL.out; omega)
       obtain ⟨y0, y1⟩ := HI.out.pts.cells 0 HK0.out
       have he := ptEq_iff (pat T i) (pat T 0)
       rw [decide_eq_true (G4.out i hlt2)] at he
       have i0 : (0 : Int) ≤ (i : Int) := by omega
       have i1 : (i : Int) < (k : Int) := by omega
       have i2 : (i : Int) < (c : Int) := by omega
       have i9 : (i : Int) ≤ 12 := by omega
       generalize pat T i = P at *
       generalize pat T 0 = O at *
       go_upto_region 19 with (fail)
       refine Go.Gq.region (by kernel_rfl) (by kernel_rfl) ?_
       repeat (go_big_quiet_step (fail))
       refine wpQuiet_nil ?_
       intro wx hw'
       have HX := Lib.hid (HI.out.later (Go.Gq.later_bel hw'))
       clear hw' x0 x1 y0 y1 he
       go_wp2
       go_roundw
       case rel => exact ⟨i + 1, by go_num, by omega, HX⟩
       case measure => simp [intOf]; omega
      ·obtain ⟨_, k1, k2, _, _, _⟩ := HI.out.kB.three
       have i2 : ¬ (i : Int) < (c : Int) := by omega
       clear HS
       go_wp2
       go_loopw [57] (fun q wz => ∃ j : Nat, q = .int .i64 j ∧ j ≤ d ∧ Hid (GbS w wz kb gg T c d)) (fun q _ => d - (intOf q).toNat)
       case atStart => exact ⟨0, rfl, Nat.zero_le _, HI⟩
       case round =>
        obtain ⟨j, rfl, hj, HJ⟩ := hrel
        obtain ⟨y0, y1⟩ := HJ.out.pts.cells 0 HK0.out
        obtain ⟨z0, z1⟩ := HJ.out.pts.cells c (by have := HTL.out; omega)
        have kc1 := HJ.out.kB.cells 1 (.int .i64 c) rfl
        have c0' : (0 : Int) ≤ (c : Int) := by omega
        have c1' : (c : Int) < (k : Int) := by omega
        by_cases hlt3 : j < d
        ·obtain ⟨x0, x1⟩ := HJ.out.pts.cells j (by have := HTL.out; omega)
         have hor := fun u => orient_any (pat T 0) (pat T c) (pat T j) u (HTN.out 0) (HTN.out c) (HTN.out j)
         rw [show (ori (pat T 0) (pat T c) (pat T j)).sign = 0 by rw [G6.out j hlt3]; rfl] at hor
         have HOR := Lib.hid hor
         have j0 : (0 : Int) ≤ (j : Int) := by omega
         have j1 : (j : Int) < (k : Int) := by omega
         have j2 : (j : Int) < (d : Int) := by omega
         generalize pat T j = P at *
         generalize pat T 0 = O at *
         generalize pat T c = Q at *
         clear hor
         go_upto_region 25 with (fail)
         refine Go.Gq.region (by kernel_rfl) (by kernel_rfl) ?_
         repeat (go_big_quiet_step ((go_at_call 28; exact Gq.call (HOR.out _))))
         refine wpQuiet_nil ?_
         intro wx hw'
         have HX := Lib.hid (HJ.out.later (Go.Gq.later_bel hw'))
         clear hw' x0 x1 y0 y1 z0 z1 kc1
         go_wp2
         go_roundw
         case rel => exact ⟨j + 1, by go_num, by omega, HX⟩
         case measure => simp [intOf]; omega
        ·obtain ⟨x0, x1⟩ := HJ.out.pts.cells d (by have := HTL.out; omega)
         have kc0 := HJ.out.kB.cells 0 (.int .i64 0) rfl
         have kc2 := HJ.out.kB.cells 2 (.int .i64 d) rfl
         have hor := fun u => orient_any (pat T 0) (pat T c) (pat T d) u (HTN.out 0) (HTN.out c) (HTN.out d)
         have hne : (ori (pat T 0) (pat T c) (pat T d)).sign ≠ 0 := fun e => G7.out (Int.sign_eq_zero_iff_zero.1 e)
         have he := ptEq_iff (pat T c) (pat T 0)
         rw [decide_eq_false G5.out] at he
         generalize (ori (pat T 0) (pat T c) (pat T d)).sign = sg at *
         have hsg : (sg != 0) = true := by simpa using hne
         have HOR := Lib.hid hor
         have d0 : (0 : Int) ≤ (d : Int) := by omega
         have d1 : (d : Int) < (k : Int) := by omega
         have j2 : ¬ (j : Int) < (d : Int) := by omega
         generalize pat T d = P at *
         generalize pat T 0 = O at *
         generalize pat T c = Q at *
         clear hor hne
         go_upto_region 28 with (fail)
         refine Go.Gq.region (by kernel_rfl) (by kernel_rfl) ?_
         repeat (go_big_quiet_step ((go_at_call 28; exact Gq.call (HOR.out _))))
         refine wpQuiet_nil ?_
         intro wx hw'
         have HX := Lib.hid (HJ.out.later (Go.Gq.later_bel hw'))
         clear hw' x0 x1 y0 y1 z0 z1 kc0 kc1 kc2
         go_wp2
         go_ret
         exact ⟨rfl, HX.out.bel⟩
end Gb
end Go.Proofs.Ytdihefgleefhmaa
