/- Keys that are points. -/
import Derived.Test.YtdihefgleefhmaaMu
import Derived.Test.YtdihefgleefhmaaWd
import Derived.Test.YtdihefgleefhmaaAg
namespace Go.Proofs.Ytdihefgleefhmaa
open Go.RowKit
theorem pt_row : 32 < Try.prog.types.size := Nat.le_of_ble_eq_true (by kernel_rfl)
theorem pt_law : Maps.Keyed Try.prog 32 := Maps.Keyed.of_law (deep_law_laid (by kernel_rfl) (m := 2) (by omega) pt_row (by kernel_rfl) (by kernel_rfl))
theorem pt_formed (p : Pt) : (pv p).formed Try.prog 32 = true := by kernel_rfl
theorem pt_type : Try.prog.keyType 32 = true := by kernel_rfl
theorem pt_cells : Try.prog.cellsOf 32 = 2 := by kernel_rfl
theorem pt_lits (d : Nat) (p : Pt) (h1 : (Lit.int .i64 p.x).wf = true) (h2 : (Lit.int .i64 p.y).wf = true) : Try.prog.keyLits (d + 2) 32 [.int .i64 p.x, .int .i64 p.y] = some [.int .i64 p.x, .int .i64 p.y] := by
 have e : ∀ (n : Int), (Lit.int .i64 n).wf = true → Try.prog.keyLits (d + 1) 3 [.int .i64 n] = some [.int .i64 n] := fun n hn => by
  unfold Program.keyLits
  simp [Try.underlying3, hn]
 unfold Program.keyLits
 simp [Try.underlying32, pt_cells, int_cells, e p.x h1, e p.y h2]
theorem int_wf (n : Int) (h0 : -2147483648 ≤ n) (h1 : n ≤ 2147483648) : (Lit.int .i64 n).wf = true := by
 simp [Lit.wf, IntKind.min, IntKind.max, IntKind.signed, IntKind.bits]
 omega
abbrev NPt := { p : Pt // p.near }
theorem pt_ok : KeyOk Try.prog 32 (fun p : NPt => pv p.1) := Mp.key_of pt_law (fun {a b} h => by
  simp only [pv, Value.agg.injEq, Array.mk.injEq, List.cons.injEq, Value.int.injEq, true_and, and_true] at h
  exact Subtype.ext (by cases ha : a.1; cases hb : b.1; rw [ha, hb] at h; simp at h; simp [h])) (fun a => by
 have hs : ∃ d, Try.prog.types.size + 1 = d + 2 := ⟨Try.prog.types.size - 1, by have := pt_row; omega⟩
 obtain ⟨d, hd⟩ := hs
 refine ⟨.string (keyBytes [.int .i64 a.1.x, .int .i64 a.1.y]), ?_⟩
 unfold keyOf
 simp only [Try.underlying32, pt_type, pt_formed, Bool.and_self, if_true, hd]
 show Option.map _ (Try.prog.keyLits (d + 2) 32 [.int .i64 a.1.x, .int .i64 a.1.y]) = _
 have hn := a.2
 unfold Pt.near at hn
 rw [pt_lits d a.1 (int_wf _ hn.1 hn.2.1) (int_wf _ hn.2.2.1 hn.2.2.2)]
 rfl)
end Go.Proofs.Ytdihefgleefhmaa
/- Apart: points that are tamed, each of them once. -/
namespace Go.Proofs.Ytdihefgleefhmaa
open Go.RowKit
/-- one more point, if it is a new one. -/
def ap1 (out : List Pt) (p : Pt) : List Pt := if Pr.tame p ∈ out then out else out ++ [Pr.tame p]
def apartL (l : List Pt) : List Pt := l.foldl ap1 []
namespace Ap
open Wd Pr Gb
/-- a point that is near, as a key. -/
def kp (p : Pt) : NPt := ⟨tame p, tame_near p⟩
/-- what lies in memory while points are told apart. -/
structure ApS (w W : World) (v : Value) (out : List Pt) (mb : Nat) : Prop where
 own : W.ownsRow w.heap.size 32 2 v out.length (out.flatMap Pt.cs)
 inn : ∃ seen : List (NPt × Int), MapAt (fun p : NPt => pv p.1) (Value.int .i64) W mb seen ∧ ∀ p : NPt, mget 0 p seen = if p.1 ∈ out then 1 else 0
 bel : Below w.heap.size w W
 mB : w.heap.size ≤ mb
theorem ApS.later {w W W' : World} {v : Value} {out : List Pt} {mb : Nat} (h : ApS w W v out mb) (hb : Below W.heap.size W W') : ApS w W' v out mb := by
 obtain ⟨s, h1, h2⟩ := h.inn
 exact ⟨own_later h.own hb, ⟨s, h1.later hb, h2⟩, bel_step h.bel hb, h.mB⟩
theorem get_put1 (p q : NPt) : ∀ l : List (NPt × Int), mget 0 q (mput p 1 l) = if p = q then 1 else mget 0 q l
 | [] => rfl
 | y :: l => by
  unfold mput
  by_cases hy : y.1 = p
  ·rw [if_pos hy]
   unfold mget
   by_cases hq : p = q
   ·simp [hq]
   ·simp [hq, hy]
  ·rw [if_neg hy]
   unfold mget
   rw [get_put1 p q l]
   by_cases hq : y.1 = q
   ·have : ¬ p = q := fun e => hy (hq.trans e.symm)
    simp [hq, this]
   ·simp [hq]
theorem ap_len (l : List Pt) : ∀ out : List Pt, (l.foldl ap1 out).length ≤ out.length + l.length := by
 induction l with
 | nil => intro out; simp
 | cons p l ih =>
  intro out
  have := ih (ap1 out p)
  simp only [List.foldl_cons, List.length_cons]
  have h2 : (ap1 out p).length ≤ out.length + 1 := by unfold ap1; split <;> simp
  omega
attribute [local go_sem high] Pr.run_maxI Pr.run_minI
set_option maxHeartbeats 4000000 in
set_option maxRecDepth 100000 in
theorem apart_gen (q : Nat) (hq : q ≤ 14) (a : Option Addr) (c0 : Nat) (l : List Pt) (w : World) (hl : ArgAt w a l) (hc : l.length ≤ c0) (ha : a = none → l = []) :
  Calls Try.prog 19 #[.slice a l.length c0, .int .i64 q] w fun e w' => ∃ v, e = .returned v ∧ w'.ownsRow w.heap.size 32 2 v (apartL (l.take q)).length ((apartL (l.take q)).flatMap Pt.cs) ∧ Below w.heap.size w w' := by
 obtain ⟨T, hT⟩ : ∃ T, l.take q = T := ⟨_, rfl⟩
 obtain ⟨n, hn⟩ : ∃ n, l.length = n := ⟨_, rfl⟩
 obtain ⟨m, hm⟩ : ∃ m, T.length = m := ⟨_, rfl⟩
 have hmn : m = min n q := by rw [← hm, ← hT, List.length_take, hn]; omega
 have hA : ArgAt w a T := fun h => by
  obtain ⟨ad, e, hh⟩ := hl (by rw [← hT, List.length_take] at h; omega)
  refine ⟨ad, e, fun i hi => ?_⟩
  have hi2 : i < l.length ∧ i < q := by rw [← hT, List.length_take] at hi; omega
  have : pat T i = pat l i := by rw [← hT]; unfold pat; rw [List.getD_eq_getElem?_getD, List.getD_eq_getElem?_getD, List.getElem?_take, if_pos hi2.2]
  rw [this]
  exact hh i hi2.1
 rw [hT, hn]
 rw [hn] at hc
 have HA := Lib.hid hA
 have HM := Lib.hid hm
 have hmm := @run_makeMap Try.prog
 have mn : min (n : Int) (q : Int) = (m : Int) := by omega
 have hT' := hT
 clear hl hT hm hA
 cases a with
 | none =>
  have hl0 := ha rfl
  rw [hl0] at hn hT'
  obtain rfl : n = 0 := hn.symm
  obtain rfl : T = [] := hT'.symm.trans List.take_nil
  have hi0 : (0 : Int) ≤ (c0 : Int) := by omega
  have hHS : ApS w (w.alloc (.map #[] 0)) (.slice none 0 0) [] w.heap.size := ⟨⟨rfl, .inl ⟨rfl, rfl⟩⟩, ⟨[], MapAt.new _ _ w, fun p => by simp [mget]⟩, bel_alloc (bel_refl w) _, Nat.le_refl _⟩
  have HS0 := Lib.hid hHS
  clear hHS
  go_enter Try.func19, Try.ntmps19
  go_wp2
  go_loopw [5, 18] (fun v q wr => v = .slice none 0 0 ∧ q = .int .i64 0 ∧ Hid (ApS w wr (.slice none 0 0) [] w.heap.size)) (fun _ _ _ => 0)
  case atStart => exact ⟨rfl, rfl, HS0⟩
  case round =>
   obtain ⟨rfl, rfl, HK⟩ := hrel
   go_wp2
   go_ret
   exact ⟨_, rfl, HK.out.own, HK.out.bel⟩
 | some ad =>
  go_enter Try.func19, Try.ntmps19
  go_upto_region 3 with (fail)
  have HS0 := Lib.hid (show ApS w (w.alloc (.map #[] 0)) (.slice none 0 0) [] w.heap.size from ⟨⟨rfl, .inl ⟨rfl, rfl⟩⟩, ⟨[], MapAt.new _ _ w, fun p => by simp [mget]⟩, bel_alloc (bel_refl w) _, Nat.le_refl _⟩)
  generalize w.alloc (.map #[] 0) = W at *
  have hi1 : (m : Int) ≤ (c0 : Int) := by omega
  have hi2 : (0 : Int) ≤ (m : Int) := by omega
  go_wp2
  go_loopw [5, 18] (fun v0 q wr => ∃ (k : Nat) (v : Value), q = .int .i64 k ∧ v = v0 ∧ k ≤ m ∧ Hid (ApS w wr v ((T.take k).foldl ap1 []) w.heap.size)) (fun _ q _ => m - (intOf q).toNat)
  case atStart => exact ⟨0, _, rfl, rfl, Nat.zero_le _, HS0⟩
  case round =>
   obtain ⟨k, v, rfl, rfl, hk, HK⟩ := hrel
   by_cases hlt : k < m
   ·obtain ⟨ad', e', hc'⟩ := HA.out (by have := HM.out; omega)
    cases e'
    obtain ⟨x0, x1⟩ := hc' k (by have := HM.out; omega)
    have y0 := cell_later x0 HK.out.bel
    have y1 := cell_later x1 HK.out.bel
    have i0 : (0 : Int) ≤ (k : Int) := by omega
    have i1 : (k : Int) < (m : Int) := by omega
    have wk : IntKind.i64.wrap ((k : Int) + 1) = ((k + 1 : Nat) : Int) := by rw [IntWalk.i64_in _ (by omega)]; omega
    have hft : (T.take (k + 1)).foldl ap1 [] = ap1 ((T.take k).foldl ap1 []) (pat T k) := by
     rw [List.take_add_one, pat_get (by have := HM.out; omega), List.foldl_append]
     rfl
    have HFT := Lib.hid hft
    clear hc' x0 x1 hft
    go_upto_region 6 with (fail)
    have hbk := bel_alloc (bel_refl wr) (.cells #[.int .i64 (pat T k).x, .int .i64 (pat T k).y] 32)
    have hbl := Blk.new wr 32 #[.int .i64 (pat T k).x, .int .i64 (pat T k).y]
    have HK2 := Lib.hid (HK.out.later hbk)
    have htm := fun u => tame_any (pat T k) u
    have HTM := Lib.hid htm
    clear hbk htm y0 y1
    generalize wr.alloc (.cells #[.int .i64 (pat T k).x, .int .i64 (pat T k).y] 32) = W2 at *
    obtain ⟨z0, z1, _, _⟩ := hbl.two
    obtain ⟨out, hout⟩ : ∃ out, (T.take k).foldl ap1 [] = out := ⟨_, rfl⟩
    rw [hout] at HK2 HFT
    have hol : out.length ≤ 14 := by
     have := ap_len (T.take k) []
     rw [hout, List.length_take] at this
     simp at this
     omega
    go_upto_region 7 with (go_at_call 12; refine (HTM.out _).mono ?_; rintro e w4 ⟨rfl, hb4⟩; have HK4 := Lib.hid (HK2.out.later hb4); clear hb4)
    have hb5 := bel_alloc (bel_refl w4) (.cells #[.int .i64 (tame (pat T k)).x, .int .i64 (tame (pat T k)).y] 32)
    have HK5 := Lib.hid (HK4.out.later hb5)
    have hb6 := Blk.new w4 32 #[.int .i64 (tame (pat T k)).x, .int .i64 (tame (pat T k)).y]
    obtain ⟨tp, htp⟩ : ∃ tp, tame (pat T k) = tp := ⟨_, rfl⟩
    have htn : tp.near := htp ▸ tame_near _
    rw [htp] at HK5 hb5 hb6 ⊢
    have hap : (T.take (k + 1)).foldl ap1 [] = if tp ∈ out then out else out ++ [tp] := by rw [HFT.out, ← htp]; rfl
    have HAP := Lib.hid hap
    clear hap htp HFT HK4 HK2 z0 z1 hb5
    generalize w4.alloc (.cells #[.int .i64 tp.x, .int .i64 tp.y] 32) = W5 at *
    obtain ⟨z0, z1, _, _⟩ := hb6.two
    obtain ⟨seen, hs, hu⟩ := HK5.out.inn
    have hlk := hs.look (t := 65) Try.underlying65 pt_ok (z := (0 : Int)) (by rfl) (⟨tp, htn⟩ : NPt)
    rw [hu] at hlk
    simp only at hlk
    have HU := Lib.hid hu
    have HSE := Lib.hid hs
    clear hu hs
    by_cases hin : tp ∈ out
    ·rw [if_pos hin] at hlk
     have hap2 := HAP.out
     rw [if_pos hin] at hap2
     have HA2 := Lib.hid hap2
     clear hin hap2
     go_wp2
     go_roundw
     case rel => exact ⟨k + 1, v, by go_num, rfl, by omega, Lib.hid (by rw [HA2.out]; exact HK5.out)⟩
     case measure => simp [intOf]; omega
    ·rw [if_neg hin] at hlk
     have hap2 := HAP.out
     rw [if_neg hin] at hap2
     have HA2 := Lib.hid hap2
     have HIN := Lib.hid hin
     clear hin hap2
     go_upto_region 9 with (at_mapUpdate; refine wpList_map_put _ rfl _ _ _ 65 rfl Try.underlying65 pt_ok w.heap.size rfl HSE.out (⟨tp, htn⟩ : NPt) (1 : Int) rfl rfl ?_; intro w1 hm1 hg1; have HM1 := Lib.hid hm1; have HG1 := Lib.hid hg1; clear hm1 hg1)
     have hmapb : ∃ es ck, W5.heap[w.heap.size]? = some (.map es ck) := by
      obtain ⟨es, ck, hh, _⟩ := HSE.out
      exact ⟨es, ck, hh⟩
     have hvm : v.ownBlock ≠ some w.heap.size := fun ho => by
      obtain ⟨es, ck, hh⟩ := hmapb
      obtain ⟨_, ⟨rfl, _⟩ | ⟨g', cap', cur, rfl, _, hc', _⟩⟩ := HK5.out.own
      ·cases ho
      ·obtain rfl : g' = w.heap.size := by simpa [Value.ownBlock] using ho
       rw [hh] at hc'
       cases hc'
     have hO1 := HK5.out.own.kept HG1.out (.inr hvm)
     have hZ1 := HSE.out.set HG1.out hb6
     obtain ⟨y0, y1, _, _⟩ := Blk.two hZ1
     obtain ⟨A3, c3, rfl⟩ := own_slice hO1
     have HO1 := Lib.hid hO1
     have hb1 : Below w.heap.size w w1 := ⟨HG1.out.os.trans HK5.out.bel.os, HG1.out.tape.trans HK5.out.bel.tape, HG1.out.output.trans HK5.out.bel.output, Nat.le_trans HK5.out.bel.size HG1.out.size, fun i hi => by
      have h5 := HK5.out.bel.size
      have hne : some i ≠ some w.heap.size := fun e => by have := HK5.out.mB; have := Option.some.inj e; omega
      exact (HG1.out.block i (Nat.lt_of_lt_of_le hi h5) hne).trans (HK5.out.bel.block i hi)⟩
     have HB1 := Lib.hid hb1
     have hsz := hb1.size
     obtain ⟨j0, hj', hz0, hz1, hz2⟩ := info_parts Nw.Try.info32'
     clear hO1 hZ1 hb1 z0 z1 hlk hb6 hmapb
     go_wp2_with (at_builtin; refine wpList_append_own_at _ rfl _ _ 30 rfl w.heap.size 32 j0 (.agg #[.int .i64 0, .int .i64 0]) 2 16 Try.underlying30 hj' hz0 hz1 hz2 rfl (by decide) (.slice A3 out.length c3) out.length (out.flatMap Pt.cs) rfl (HO1.out.alloc _) ⟨w1.heap.size, 0, none⟩ 1 1 tp.cs rfl rfl (World.news_of_block (cs := #[.int .i64 tp.x, .int .i64 tp.y]) (heap_alloc_new _ _)) (by simp [Value.oneCell']) (by unfold maxLen; omega) (by omega) (by simp; omega) ?_; intro v5 w5 hown5 hgrow _ hat5; have HO5 := Lib.hid hown5; have HGR := Lib.hid hgrow; clear hown5 hgrow hat5)
     go_roundw
     case rel =>
      have hmn5 : (Value.slice A3 out.length c3).ownBlock ≠ some w.heap.size := hvm
      have hM5 := (HM1.out.later (bel_alloc (bel_refl w1) _)).grown HGR.out (fun e => hmn5 e.symm)
      refine ⟨k + 1, v5, by go_num, rfl, by omega, Lib.hid ?_⟩
      rw [HA2.out]
      refine ⟨?_, ⟨_, hM5, fun p => ?_⟩, ?_, Nat.le_refl _⟩
      ·have := HO5.out
       simpa using this
      ·rw [get_put1, HU.out p]
       by_cases hp : (⟨tp, htn⟩ : NPt) = p
       ·subst hp; simp
       ·have : ¬ p.1 = tp := fun e => hp (Subtype.ext e.symm)
        simp [hp, this]
      ·exact HB1.out.trans (grown_below HGR.out HO1.out hsz)
     case measure => simp [intOf]; omega
   ·have hkm : k = m := by omega
    subst hkm
    have hTT : T.take k = T := List.take_of_length_le (by rw [HM.out]; exact Nat.le_refl _)
    rw [hTT] at HK
    go_wp2
    go_ret
    exact ⟨_, rfl, HK.out.own, HK.out.bel⟩
theorem apart_any (a : Option Addr) (c0 : Nat) (l : List Pt) (w : World) (hl : ArgAt w a l) (hc : l.length ≤ c0) (ha : a = none → l = []) :
  Calls Try.prog 19 #[.slice a l.length c0, .int .i64 14] w fun e w' => ∃ v, e = .returned v ∧ w'.ownsRow w.heap.size 32 2 v (apartL (l.take 14)).length ((apartL (l.take 14)).flatMap Pt.cs) ∧ Below w.heap.size w w' :=
 apart_gen 14 (by omega) a c0 l w hl hc ha
end Ap
end Go.Proofs.Ytdihefgleefhmaa
/- Points told apart: near, and each of them once. -/
namespace Go.Proofs.Ytdihefgleefhmaa
namespace Ap
open Pr
theorem fold_ok : ∀ (l out : List Pt), out.Nodup → (∀ p ∈ out, p.near) → (l.foldl ap1 out).Nodup ∧ ∀ p ∈ l.foldl ap1 out, p.near
 | [], _, h1, h2 => ⟨h1, h2⟩
 | p :: l, out, h1, h2 => by
  rw [List.foldl_cons]
  refine fold_ok l (ap1 out p) ?_ ?_
  ·unfold ap1
   split
   ·exact h1
   ·rename_i hn
    rw [List.nodup_append]
    exact ⟨h1, by simp, fun a ha b hb e => hn (by simp only [List.mem_singleton] at hb; rw [← hb, ← e]; exact ha)⟩
  ·intro q hq
   unfold ap1 at hq
   split at hq
   ·exact h2 q hq
   ·rcases List.mem_append.1 hq with hq | hq
    ·exact h2 q hq
    ·rw [List.mem_singleton.1 hq]; exact tame_near p
theorem apart_near (l : List Pt) : nearAll (apartL l) := fun i => by
 unfold pat
 rw [List.getD_eq_getElem?_getD]
 cases h : (apartL l)[i]? with
 | none => exact zero_near
 | some q => exact (fold_ok l [] (by simp) (by simp)).2 q (List.mem_of_getElem? h)
theorem apart_dist (l : List Pt) (i j : Nat) (hi : i < (apartL l).length) (hj : j < (apartL l).length) (hij : i ≠ j) : pat (apartL l) i ≠ pat (apartL l) j := fun e => by
 have hn := (fold_ok l [] (by simp) (by simp)).1
 have hi' := pat_get hi
 have hj' := pat_get hj
 rw [e, ← hj'] at hi'
 rw [List.getElem?_eq_getElem hi, List.getElem?_eq_getElem hj, Option.some.injEq] at hi'
 have hp := List.pairwise_iff_getElem.1 hn
 rcases Nat.lt_or_gt_of_ne hij with h | h
 ·exact hp i j hi hj h hi'
 ·exact hp j i hj hi h hi'.symm
theorem apart_len (l : List Pt) : (apartL (l.take 14)).length ≤ 14 := by
 have := ap_len (l.take 14) []
 rw [List.length_take] at this
 unfold apartL
 simp at this ⊢
 omega
end Ap
end Go.Proofs.Ytdihefgleefhmaa
