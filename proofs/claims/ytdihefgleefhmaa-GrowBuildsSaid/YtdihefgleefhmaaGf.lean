/- GrowBuilds: the law's code answers true, at whatever points. -/
import Derived.Test.YtdihefgleefhmaaAk
import Derived.Test.YtdihefgleefhmaaGw
import Derived.Test.YtdihefgleefhmaaIt
namespace Go.Proofs.Ytdihefgleefhmaa
open Go.RowKit Go.Shelf
namespace Gf
open Wd Pr Ft
attribute [local go_sem] It.wide_fn It.wide_depth Oper.semAt_some
attribute [local go_sem high] run_eql32 run_neq32

set_option maxHeartbeats 2000000 in
set_option maxRecDepth 100000 in
theorem build_no (A : Option Addr) (n c : Nat) (w : World) (h1 : Calls Try.prog 27 #[.slice A n c] w fun e w' => e = .returned (baseV none) ∧ Below w.heap.size w w') :
  Calls Try.prog 20 #[.slice A n c] w fun e w' => e = .returned (.tuple #[.pointer none, .bool false]) ∧ Below w.heap.size w w' := by
 simp only [baseV] at h1
 have H1 := Lib.hid h1
 clear h1
 go_enter Try.func20, Try.ntmps20
 go_wp2_with (go_at_call 27; refine H1.out.mono ?_; rintro e w1 ⟨rfl, hb1⟩; have HB1 := Lib.hid hb1; clear hb1)
 refine bodyPost_ret (v := .tuple #[.pointer none, .bool false]) (by simp [results, Try.results20, go_sem]) rfl ⟨rfl, bel_alloc HB1.out _⟩
/-- what lies in memory while the mesh is looked at. -/
structure GfS (w W : World) (lb gg mb gp cp gt ct ga ca : Nat) (fV : Value) (c3 : Nat) (T : List Pt) (M : Mesh) : Prop where
 res : Blk W w.heap.size 4 #[.bool false]
 sl : Blk W lb 30 #[.slice (some ⟨gg, 0, none⟩) T.length c3]
 pts : PtsAt W gg T
 m : MR W mb M gp cp gt ct ga ca fV
 bel : Below w.heap.size w W
theorem GfS.later {w W W' : World} {lb gg mb gp cp gt ct ga ca : Nat} {fV : Value} {c3 : Nat} {T : List Pt} {M : Mesh} (h : GfS w W lb gg mb gp cp gt ct ga ca fV c3 T M) (hb : Below W.heap.size W W') : GfS w W' lb gg mb gp cp gt ct ga ca fV c3 T M :=
 ⟨h.res.later hb, h.sl.later hb, h.pts.later hb, h.m.later hb, bel_step h.bel hb⟩
set_option maxHeartbeats 4000000 in
set_option maxRecDepth 100000 in
theorem law_any (ha : areaOk M1) (a : Option Addr) (c0 : Nat) (l : List Pt) (w : World) (hl : ArgAt w a l) (hc : l.length ≤ c0) (hn : a = none → l = []) : Calls Try.prog 6 #[.slice a l.length c0] w fun e w' => e = .returned (.bool true) ∧ Below w.heap.size w w' := by
 have hft := Ff.fit_any ha
 have HFT := Lib.hid hft
 have hap := fun u (hb : Below w.heap.size w u) => Ap.apart_any a c0 l u (fun h => by
  obtain ⟨ad, e, hh⟩ := hl h
  exact ⟨ad, e, fun i hi => ⟨cell_later (hh i hi).1 hb, cell_later (hh i hi).2 hb⟩⟩) hc hn
 obtain ⟨T, hT⟩ : ∃ T, apartL (l.take 14) = T := ⟨_, rfl⟩
 have hTn : nearAll T := hT ▸ Ap.apart_near _
 have hTd : ∀ i j, i < T.length → j < T.length → i ≠ j → pat T i ≠ pat T j := hT ▸ Ap.apart_dist _
 have hTl : T.length ≤ 14 := hT ▸ Ap.apart_len _
 rw [hT] at hap
 have HAP := Lib.hid hap
 have HTN := Lib.hid hTn
 have HTD := Lib.hid hTd
 obtain ⟨n, hnn⟩ : ∃ n, l.length = n := ⟨_, rfl⟩
 rw [hnn] at HAP ⊢
 clear hft hap hTn hTd hT hl hc hn hnn ha
 refine (callsIn_wide (n := 9)).1 (callsIn_of_wp_marks Try.func6 rfl trivial (wpIn_wide.2 ?_) rfl)
 simp only [Try.ntmps6, List.size_toArray, List.length_cons, List.length_nil, Nat.reduceAdd, Nat.reduceSub, Array.replicate_succ, Array.replicate_zero, List.push_toArray, List.append_toArray, List.nil_append, List.cons_append]
 go_upto_region 4 with (first
  | (go_at_call 18; refine (HFT.out _).mono ?_; rintro e w1 ⟨rfl, hb1⟩; have HB1 := Lib.hid (bel_step (bel_alloc (bel_refl w) _) hb1); have HR1 := Lib.hid ((Blk.new w 4 #[.bool false]).later hb1); clear hb1)
  | (go_at_call 19; refine (HAP.out _ HB1.out).mono ?_; rintro e w2 ⟨v, rfl, hv, hb2⟩; obtain ⟨A3, c3, rfl⟩ := own_slice hv; have HV := Lib.hid hv; have HB2 := Lib.hid (bel_step HB1.out hb2); have HR2 := Lib.hid (HR1.out.later hb2); clear hb2 hv))
 have hB3 := bel_alloc HB2.out (.cells #[.slice A3 T.length c3] 30)
 have hV3 := own_later HV.out (bel_alloc (bel_refl w2) (.cells #[.slice A3 T.length c3] 30))
 have hL3 := Blk.new w2 30 #[.slice A3 T.length c3]
 have hR3 := HR2.out.later (bel_alloc (bel_refl w2) (.cells #[.slice A3 T.length c3] 30))
 have hsz := HB1.out.size
 generalize w2.alloc (.cells #[.slice A3 T.length c3] 30) = W at *
 generalize w2.heap.size = lb at *
 have hcon : (∀ u, Below W.heap.size W u → Calls Try.prog 27 #[.slice A3 T.length c3] u fun e w' => e = .returned (baseV (baseOf T)) ∧ Below u.heap.size u w') ∧ (∀ u, Below W.heap.size W u → Calls Try.prog 21 #[.slice A3 T.length c3] u fun e w' => e = .returned (.bool (baseOf T).isNone) ∧ Below u.heap.size u w') ∧
   (0 < T.length → ∃ g, A3 = some ⟨g, 0, none⟩ ∧ PtsAt W g T) := by
  obtain ⟨h1, ⟨h2, h0⟩ | ⟨g, c, cur, h2, hr⟩⟩ := id hV3
  ·have hTe : T = [] := List.eq_nil_of_length_eq_zero h0
   subst hTe
   simp only [Value.slice.injEq] at h2
   obtain ⟨rfl, _, rfl⟩ := h2
   exact ⟨fun u _ => Bp.base_nil u, fun u _ => Bp.flat_nil u, fun h => by simp at h⟩
  ·simp only [Value.slice.injEq] at h2
   obtain ⟨rfl, _, rfl⟩ := h2
   have hP : PtsAt W g T := by
    refine ⟨by omega, fun i hi => ?_⟩
    have kk := fun j (hj : j < 2) => (hV3.cellAt (i * 2 + j) (by omega)).trans ((flat_get Pt.cs 2 (fun _ => rfl) T i j hj).trans (by rw [pat_get hi]))
    exact ⟨kk 0 (by omega), kk 1 (by omega)⟩
   exact ⟨fun u hu => Ba.base_at g _ T u (hP.later hu) HTN.out, fun u hu => Fl.flat_no g _ T u (hP.later hu) HTN.out _ (Bp.flat_iff T), fun _ => ⟨g, rfl, hP⟩⟩
 obtain ⟨hBA, hFL, hPP⟩ := hcon
 have HBA := Lib.hid hBA
 have HFL := Lib.hid hFL
 have HPP := Lib.hid hPP
 have HB3 := Lib.hid hB3
 have HL3 := Lib.hid hL3
 have HR3 := Lib.hid hR3
 clear hBA hFL hPP hB3 hL3 hR3 hV3 HV HB1 HB2 HR1 HR2 HAP HFT
 cases hb : baseOf T with
 | none =>
  rw [hb] at HBA HFL
  have h20 := build_no A3 T.length c3 W (HBA.out W (bel_refl W))
  have H20 := Lib.hid h20
  have y0 := HL3.out.cell 0 (.slice A3 T.length c3) rfl
  simp only [Option.isNone_none] at HFL
  clear h20 hb
  go_wp2_with (first
   | (go_at_call 20; refine H20.out.mono ?_; rintro e w4 ⟨rfl, hb4⟩; have HB4 := Lib.hid (bel_step HB3.out hb4); have HX4 := Lib.hid hb4; have HR4 := Lib.hid (HR3.out.later hb4); have y4 := cell_later y0 hb4; clear hb4)
   | (go_at_call 21; refine (HFL.out _ HX4.out).mono ?_; rintro e w5 ⟨rfl, hb5⟩; have HB5 := Lib.hid (bel_step HB4.out hb5); have HR5 := Lib.hid (HR4.out.later hb5); have z0 := HR5.out.cell 0 (.bool false) rfl; have z1 := HR5.out.frozen 0; clear hb5))
  have k0 := (HR5.out.set 0 (.bool true)).cell 0 (.bool true) rfl
  exact ⟨.bool true, by simp [results, Try.results6, go_sem, k0], rfl, bel_set HB5.out (Nat.le_refl _) _ _⟩
 | some x =>
  obtain ⟨b, c⟩ := x
  obtain ⟨g1, g2, g3, g4, g5, g6, g7⟩ := (Bp.spec T).1 b c hb
  obtain ⟨gg, rfl, hP⟩ := HPP.out (by omega)
  obtain ⟨M, hF, hbd⟩ := Bg.build_full gg c3 T HTN.out (by omega) HTD.out b c hb
  have HF := Lib.hid hF
  have H20 := Lib.hid (hbd W hP)
  have H22 := Lib.hid (fun bb u (h : MeshR u bb M) => Bg.sound_any HF.out bb u h)
  rw [hb] at HFL
  simp only [Option.isNone_some] at HFL
  have HP := Lib.hid hP
  have y0 := HL3.out.cell 0 (.slice (some ⟨gg, 0, none⟩) T.length c3) rfl
  clear hbd hF hP hb g4 g5 g6 g7 HBA HPP
  go_upto_region 9 with (first
   | (go_at_call 20; refine H20.out.mono ?_; rintro e w4 ⟨mb, rfl, hm4, hb4⟩; have HM4 := Lib.hid hm4; have HB4 := Lib.hid (bel_step HB3.out hb4); have HX4 := Lib.hid hb4; have HR4 := Lib.hid (HR3.out.later hb4); have HL4 := Lib.hid (HL3.out.later hb4); have HP4 := Lib.hid (HP.out.later hb4); have y4 := cell_later y0 hb4; clear hb4 hm4)
   | (go_at_call 21; refine (HFL.out _ HX4.out).mono ?_; rintro e w5 ⟨rfl, hb5⟩; have HB5 := Lib.hid (bel_step HB4.out hb5); have HR5 := Lib.hid (HR4.out.later hb5); have HL5 := Lib.hid (HL4.out.later hb5); have HP5 := Lib.hid (HP4.out.later hb5); have HM5 := Lib.hid (HM4.out.later hb5); clear hb5))
  have hmr := Bg.reads HF.out HM5.out
  obtain ⟨gp, cp, gt, ct, ga, ca, fV, hR⟩ := id hmr
  have x0 := hR.head.cell 0 (.slice (some ⟨gp, 0, none⟩) M.pts.length cp) rfl
  have x1 := HL5.out.cell 0 (.slice (some ⟨gg, 0, none⟩) T.length c3) rfl
  rw [Bg.pts HF.out] at x0
  have l0 := Gq.Later.cell x0
  have l1 := Gq.Later.cell x1
  have HRR := Lib.hid hR
  have hs22 := fun u : Gq.Later w5 => H22.out mb u.w ⟨_, _, _, _, _, _, _, hR.later u.bel⟩
  have HS22 := Lib.hid hs22
  have nn : ((T.length : Int) != (T.length : Int)) = false := by simp
  clear hmr hR x0 x1 y0 y4 hs22
  refine Go.Gq.region (by kernel_rfl) (by kernel_rfl) ?_
  repeat (go_big_quiet_step ((go_at_call 22; exact Gq.call (HS22.out _))))
  refine wpQuiet_nil ?_
  intro wx hw'
  have HX := Lib.hid (Go.Gq.later_bel hw')
  clear hw' l0 l1 nn
  have hS0 : GfS w wx lb gg mb gp cp gt ct ga ca fV c3 T M := ⟨HR5.out.later HX.out, HL5.out.later HX.out, HP5.out.later HX.out, HRR.out.later HX.out, bel_step HB5.out HX.out⟩
  have HS0 := Lib.hid hS0
  have x1 := hS0.sl.cell 0 (.slice (some ⟨gg, 0, none⟩) T.length c3) rfl
  clear hS0 HR5 HL5 HP5 HRR HB5 HX HB4 HX4 HR4 HL4 HP4 HM4 HM5 HS22
  have HM0 := Lib.hid (Lm.nil w.heap.size wx)
  clear H20 H22 HFL HB3 HR3 HL3 hsz
  go_wp2
  refine wp_loop (fun a1 W1 => ∃ (u6 u7 u9 u43 u44 u45 u46 u47 u48 u49 u50 u51 u52 u53 u54 u55 u56 u57 u58 u59 u60 u61 u62 u63 u64 u65 u66 u67 u68 u69 u70 u71 u72 u73 u74 u75 u76 u77 u78 u79 u80 u81 u82 u83 u84 u85 u86 u87 : Value) (i : Nat) (Ds : List Nat), i ≤ T.length ∧ Hid (GfS w W1 lb gg mb gp cp gt ct ga ca fV c3 T M) ∧ Hid (Marks w.heap.size Ds W1) ∧ a1 = { tmps := List.toArray (.slice a n c0 :: undef :: .pointer (some ⟨w.heap.size, 0, none⟩) :: .pointer (some ⟨lb, 0, none⟩) :: .pointer (some ⟨mb, 0, none⟩) :: .bool true :: u6 :: u7 :: undef :: u9 :: .bool true :: .bool false :: .slice a n c0 :: .slice (some ⟨gg, 0, none⟩) T.length c3 :: .tuple #[.pointer (some ⟨mb, 0, none⟩), .bool true] :: .slice (some ⟨gg, 0, none⟩) T.length c3 :: .tuple #[.pointer (some ⟨mb, 0, none⟩), .bool true] :: .pointer (some ⟨mb, 0, none⟩) :: .bool true :: .bool true :: .slice (some ⟨gg, 0, none⟩) T.length c3 :: .bool false :: .bool false :: .bool true :: .bool false :: undef :: undef :: .pointer (some ⟨mb, 0, none⟩) :: .bool true :: .bool false :: .bool false :: .pointer (some ⟨mb, 0, none⟩) :: .pointer (some ⟨mb, 0, none⟩) :: .pointer (some ⟨mb, 0, none⟩) :: .slice (some ⟨gp, 0, none⟩) T.length cp :: .int .i64 T.length :: .slice (some ⟨gg, 0, none⟩) T.length c3 :: .int .i64 T.length :: .bool false :: .bool false :: .slice (some ⟨gg, 0, none⟩) T.length c3 :: .int .i64 T.length :: .int .i64 i :: u43 :: u44 :: u45 :: u46 :: u47 :: u48 :: u49 :: u50 :: u51 :: u52 :: u53 :: u54 :: u55 :: u56 :: u57 :: u58 :: u59 :: u60 :: u61 :: u62 :: u63 :: u64 :: u65 :: u66 :: u67 :: u68 :: u69 :: u70 :: u71 :: u72 :: u73 :: u74 :: u75 :: u76 :: u77 :: u78 :: u79 :: u80 :: u81 :: u82 :: u83 :: u84 :: u85 :: u86 :: u87 :: []), defers := Ds.map lmark }) (fun a1 _ => T.length - (intOf (a1.tmps.getD 42 undef)).toNat) ?start ?round
  case start => exact ⟨_, _, _, _, _, _, _, _, _, _, _, _, _, _, _, _, _, _, _, _, _, _, _, _, _, _, _, _, _, _, _, _, _, _, _, _, _, _, _, _, _, _, _, _, _, _, _, _, 0, [], Nat.zero_le _, HS0, HM0, rfl⟩
  case round =>
   rintro a1 W1 ⟨u6, u7, u9, u43, u44, u45, u46, u47, u48, u49, u50, u51, u52, u53, u54, u55, u56, u57, u58, u59, u60, u61, u62, u63, u64, u65, u66, u67, u68, u69, u70, u71, u72, u73, u74, u75, u76, u77, u78, u79, u80, u81, u82, u83, u84, u85, u86, u87, i, Ds, hi, HI, HD, rfl⟩
   clear x1 HS0 HM0
   by_cases hlt : i < T.length
   ·obtain ⟨t0, ht0⟩ := Bg.at_some HF.out hlt
    have hat : ∀ u : Gq.Later W1, Calls Try.prog 23 #[.pointer (some ⟨mb, 0, none⟩), .int .i64 i] u.w fun e w' => e = .returned (.int .i64 (t0 : Int)) ∧ Below u.w.heap.size u.w w' := fun u => by
     refine (Mr.at_any M mb i u.w ⟨_, _, _, _, _, _, _, HI.out.m.later u.bel⟩ (by rw [Bg.atl HF.out]; exact hlt)).mono ?_
     rintro e w' ⟨he, rfl⟩
     exact ⟨by rw [he, ht0], bel_refl _⟩
    have HAT := Lib.hid hat
    obtain ⟨c0', c1'⟩ := HI.out.pts.2 i hlt
    have i0 : (0 : Int) ≤ (i : Int) := by omega
    have i1 : (i : Int) < (T.length : Int) := by omega
    have x1 := HI.out.sl.cell 0 (.slice (some ⟨gg, 0, none⟩) T.length c3) rfl
    obtain ⟨P, hP⟩ : ∃ P, pat T i = P := ⟨_, rfl⟩
    rw [hP] at c0' c1'
    have HPI := Lib.hid hP
    clear hat ht0 hP
    go_upto_region 14 with (fail)
    have hbk := bel_alloc (bel_refl W1) (.cells #[.int .i64 P.x, .int .i64 P.y] 32)
    have HI2 := Lib.hid (HI.out.later hbk)
    have HD2 := Lib.hid (Lm.later HD.out hbk)
    have hpb := Blk.new W1 32 #[.int .i64 P.x, .int .i64 P.y]
    obtain ⟨pb, hpq⟩ : ∃ pb, W1.heap.size = pb := ⟨_, rfl⟩
    rw [hpq] at hpb ⊢
    have hpl : w.heap.size < pb := by have := HI.out.res.lt; omega
    generalize W1.alloc (.cells #[.int .i64 P.x, .int .i64 P.y] 32) = W2 at *
    have HPB := Lib.hid hpb
    have hat : ∀ u : Gq.Later W2, Calls Try.prog 23 #[.pointer (some ⟨mb, 0, none⟩), .int .i64 i] u.w fun e w' => e = .returned (.int .i64 (t0 : Int)) ∧ Below u.w.heap.size u.w w' := fun u => HAT.out ⟨u.w, bel_step hbk u.bel⟩
    have HAT2 := Lib.hid hat
    clear hat HAT c0' c1' x1 hbk HI HD
    have k0 := HI2.out.m.pts i (by rw [Bg.pts HF.out]; exact hlt)
    rw [Bg.pts HF.out, HPI.out] at k0
    have y0 := Gq.Later.cell k0.1
    have y1 := Gq.Later.cell k0.2
    have k1 := HI2.out.m.head.cell 0 (.slice (some ⟨gp, 0, none⟩) M.pts.length cp) rfl
    rw [Bg.pts HF.out] at k1
    have z0 := Gq.Later.cell k1
    have z1 := HPB.out.cells 0 (.int .i64 P.x) rfl
    have z2 := HPB.out.cells 1 (.int .i64 P.y) rfl
    have tn : ¬ ((t0 : Int) < 0) := by omega
    have he := ptEq_iff P P
    rw [decide_eq_true rfl] at he
    clear k0 k1
    refine Go.Gq.region (by kernel_rfl) (by kernel_rfl) ?_
    repeat (go_big_quiet_step ((go_at_call 23; exact Gq.call (HAT2.out _))))
    refine wpQuiet_nil ?_
    intro wx hw'
    have hbx := Go.Gq.later_bel hw'
    have HI3 := Lib.hid (HI2.out.later hbx)
    have HD3 := Lib.hid (Lm.later HD2.out hbx)
    have HP3 := Lib.hid (HPB.out.later hbx)
    clear hw' y0 y1 z0 z1 z2 tn he hbx HI2 HD2 HPB HAT2 hpq
    go_wp2_with (go_at_call 24; refine (callsIn_wide.1 (It.all_in mb 9 _)).mono ?_; rintro e w5 ⟨rfl, rfl⟩)
    have hbx := bel_alloc (bel_refl wx) (.cells #[.pointer (some ⟨mb, 0, none⟩)] 46)
    have HI4 := Lib.hid (HI3.out.later hbx)
    have HD4 := Lib.hid (Lm.later HD3.out hbx)
    have HP4 := Lib.hid (HP3.out.later hbx)
    have hX := Blk.new wx 46 #[.pointer (some ⟨mb, 0, none⟩)]
    obtain ⟨xb, hxb⟩ : ∃ xb, wx.heap.size = xb := ⟨_, rfl⟩
    rw [hxb] at hX ⊢
    generalize wx.alloc (.cells #[.pointer (some ⟨mb, 0, none⟩)] 46) = W3 at *
    have hM4 := HI4.out.m
    have hin : ∀ k ∈ xb :: mblocks mb gp gt ga, k < W3.heap.size := by
     intro k hk
     rcases List.mem_cons.1 hk with rfl | hk
     ·exact hX.lt
     ·exact hM4.lt (by rw [Bg.pts HF.out]; exact HF.out.some) (Bg.tris HF.out) (by rw [Bg.atl HF.out]; exact HF.out.some) k hk
    clear HI3 HD3 HP3 hbx hxb
    refine range_set (n := 9) (by omega) (gf := 38) (lb := #[.pointer (some ⟨xb, 0, none⟩)]) rfl (enters_of Try.func38 (by kernel_rfl) rfl)
     (It.all_pos M mb xb gp cp gt ct ga ca fV 8 (xb :: mblocks mb gp gt ga) W3 (by simp [mblocks]) (Bg.ok HF.out).tris hX hM4) Keep.trans (Keep.put hin) (fun _ => rfl)
     (fun (_ : List (It.RealOf M)) V => Below W3.heap.size W3 V)
     (fun _ _ _ => False)
     (fun _ A B row h hg' hr => h.grown hg' h.size (fun k e => by have := (hr k e).1; omega))
     (fun _ _ _ _ _ h _ _ => h)
     (bel_refl W3)
     (fun x Bx V => W3.heap.size ≤ Bx ∧ Blk V Bx 61 #[.int .i64 (tat M.tris x.1).v0, .int .i64 (tat M.tris x.1).v1, .int .i64 (tat M.tris x.1).v2, .int .i64 (tat M.tris x.1).n0, .int .i64 (tat M.tris x.1).n1, .int .i64 (tat M.tris x.1).n2, .bool (tat M.tris x.1).f0, .bool (tat M.tris x.1).f1, .bool (tat M.tris x.1).f2])
     (fun x Bx _ A B row h hg' hr => ⟨h.1, blk_kept h.2 hg' (fun r e => (hr r e).2)⟩)
     (fun x Bx t => ((t.setIfInBounds 64 (.int .i64 x.1)).setIfInBounds 65 (tv (tat M.tris x.1))).setIfInBounds 9 (.pointer (some ⟨Bx, 0, none⟩)))
     ?assign ?body ?done ?stop
    case assign =>
     intro l pre x V K hi hK2
     simp only [It.encT]
     gi_wp2
     refine hK2 _ _ (keeps_later (bel_alloc (bel_refl V) _)) (Keep.below (bel_alloc (bel_refl V) _) (fun k hk => Nat.lt_of_lt_of_le (hin k hk) hi.size)) (bel_step hi (bel_alloc (bel_refl V) _)) ⟨V.heap.size, ⟨hi.size, Blk.new _ _ _⟩, by simp only [List.setIfInBounds_toArray, List.set_cons_succ, List.set_cons_zero]⟩
    case body =>
     rintro l pre x Bx V hbV ⟨hBx, hbx⟩ _
     simp only [List.setIfInBounds_toArray, List.set_cons_succ, List.set_cons_zero]
     obtain ⟨f0, f1, f2, l0, l1, l2, e0, e1, e2, hinc⟩ := Bg.real HF.out x.2.2
     rw [e0, e1, e2] at hbx
     have hc := hinc i hlt
     have hGV := HI4.out.later hbV
     have hPV := HP4.out.later hbV
     have hsl := hGV.sl.cells 0 (.slice (some ⟨gg, 0, none⟩) T.length c3) rfl
     have b0 := hbx.cells 0 (.int .i64 (f0 : Int)) rfl
     have b1 := hbx.cells 1 (.int .i64 (f1 : Int)) rfl
     have b2 := hbx.cells 2 (.int .i64 (f2 : Int)) rfl
     obtain ⟨p0, q0⟩ := hGV.pts.cells f0 l0
     obtain ⟨p1, q1⟩ := hGV.pts.cells f1 l1
     obtain ⟨p2, q2⟩ := hGV.pts.cells f2 l2
     have pb0 := hPV.cells 0 (.int .i64 P.x) rfl
     have pb1 := hPV.cells 1 (.int .i64 P.y) rfl
     have m0 : (0 : Int) ≤ (f0 : Int) := by omega
     have m1 : (0 : Int) ≤ (f1 : Int) := by omega
     have m2 : (0 : Int) ≤ (f2 : Int) := by omega
     have n0 : (f0 : Int) < (T.length : Int) := by omega
     have n1 : (f1 : Int) < (T.length : Int) := by omega
     have n2 : (f2 : Int) < (T.length : Int) := by omega
     have hci : ∀ u : Gq.Later V, Calls Try.prog 25 #[pv (pat T f0), pv (pat T f1), pv (pat T f2), pv P] u.w fun e w' => e = .returned (.int .i64 (inc (pat T f0) (pat T f1) (pat T f2) P).sign) ∧ Below u.w.heap.size u.w w' := fun u =>
      Cg.circle_any _ _ _ _ u.w (HTN.out f0) (HTN.out f1) (HTN.out f2) (by rw [← HPI.out]; exact HTN.out i)
     rw [HPI.out] at hc
     obtain ⟨σ, hσ⟩ : ∃ σ, (inc (pat T f0) (pat T f1) (pat T f2) P).sign = σ := ⟨_, rfl⟩
     have sn : ¬ (0 < σ) := by
      rw [← hσ]
      intro h
      have := Int.sign_pos_iff.1 h
      omega
     rw [hσ] at hci
     clear hc hσ hinc e0 e1 e2
     have HCI := Lib.hid hci
     have HBV := Lib.hid hbV
     have HHIN := Lib.hid hin
     clear hci hbV hGV hPV hbx hin hX hM4
     generalize pat T f0 = P0 at *
     generalize pat T f1 = P1 at *
     generalize pat T f2 = P2 at *
     gi_wp2
     refine Go.Gq.region_in (by kernel_rfl) (by kernel_rfl) (by kernel_rfl) ?_
     repeat (go_big_quiet_step ((go_at_call 25; exact Gq.call (HCI.out _))))
     refine wpQuiet_nil ?_
     intro wy hw'
     have hby := Go.Gq.later_bel hw'
     clear hw' p0 q0 p1 q1 p2 q2 pb0 pb1 b0 b1 b2 hsl
     gi_wp2
     exact ⟨keeps_later hby, Keep.below hby (fun k hk => Nat.lt_of_lt_of_le (HHIN.out k hk) HBV.out.size), bel_step HBV.out hby⟩
    case done =>
     rintro D ys V hD hys hbV hK
     have HI5 := Lib.hid (HI4.out.later hbV)
     have HD5 := Lib.hid (Lm.more HD4.out hbV (D := D) (by have := HI4.out.res.lt; omega) hD hK)
     have wk : IntKind.i64.wrap ((i : Int) + 1) = ((i + 1 : Nat) : Int) := by rw [IntWalk.i64_in _ (by omega)]; omega
     clear HI4 HD4 HP4 hX hM4 hin hbV hK hys
     go_wp2
     rw [show (i : Int) + 1 = ((i + 1 : Nat) : Int) by omega]
     refine ⟨?_, ?_⟩
     ·repeat apply Exists.intro
      refine ⟨?_, HI5, HD5, rfl⟩
      omega
     ·simp [intOf]
      omega
    case stop =>
     rintro D c pre V hD hp hf hK
     exact hf.elim
   ·have x1 := HI.out.sl.cell 0 (.slice (some ⟨gg, 0, none⟩) T.length c3) rfl
    have i2 : ¬ ((i : Int) < (T.length : Int)) := by omega
    have r0 := HI.out.res.cell 0 (.bool false) rfl
    have r1 := HI.out.res.frozen 0
    go_wp2
    exact Lm.leave w (Nat.le_refl _) Ds _ (Lm.set HD.out 0 _) (HI.out.res.set 0 (.bool true)) (bel_set HI.out.bel (Nat.le_refl _) _ _) fun W' hc hb => ⟨.bool true, by simp [results, Try.results6, go_sem, hc.cell 0 (.bool true) rfl], rfl, hb⟩
end Gf
end Go.Proofs.Ytdihefgleefhmaa
