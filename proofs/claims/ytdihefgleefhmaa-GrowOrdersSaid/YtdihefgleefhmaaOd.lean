/- GrowOrders: the law's code answers true, at whatever points and number. -/
import Derived.Test.YtdihefgleefhmaaAk
import Derived.Test.YtdihefgleefhmaaOo
import Derived.Test.YtdihefgleefhmaaGq
import Derived.Test.YtdihefgleefhmaaIt
import Derived.Test.YtdihefgleefhmaaFt
import Derived.Deep.DeepCutAuto
import Derived.Deep.RegionLaw
import Derived.Deep.AppendLies
import Derived.Deep.Upon
namespace Go.Proofs.Ytdihefgleefhmaa
open Go.RowKit Go.Shelf
namespace Od
open Wd Pr Ft
attribute [local go_sem] It.wide_fn It.wide_depth Oper.semAt_some
attribute [local go_sem high] run_eql32 run_neq32
theorem bits_low (x : Int) : ∃ k : Nat, bits BinOp.and IntKind.i64 x 4095 = k ∧ k ≤ 4095 := by
 have h : ((BitVec.ofInt 64 x) &&& (BitVec.ofInt 64 4095)).toNat ≤ 4095 := by
  rw [BitVec.toNat_and]
  exact Nat.and_le_right
 have e : bits BinOp.and IntKind.i64 x 4095 = IntKind.i64.wrap (((BitVec.ofInt 64 x) &&& (BitVec.ofInt 64 4095)).toNat : Int) := rfl
 rw [e]
 generalize ((BitVec.ofInt 64 x) &&& (BitVec.ofInt 64 4095)).toNat = k at h
 exact ⟨k, by rw [IntWalk.i64_in _ (by omega)], h⟩
/-- nothing panics in it. -/
theorem calm {P : Program} {c : Code} {K : Act → World → Prop} {Q : Exit → Act → World → Prop} {a : Act} {w : World} (h : c.wp P (Exit.then K fun _ _ _ => False) a w) : c.wp P (Exit.then K Q) a w :=
 Code.wp_mono (fun e a w q => by cases e <;> first | exact q | exact q.elim) h
theorem calmB {P : Program} {c : Code} {id : Nat} {K : Act → World → Prop} {Q : Exit → Act → World → Prop} {a : Act} {w : World} (h : c.wp P (Exit.inBlock id (Exit.then K fun _ _ _ => False)) a w) : c.wp P (Exit.inBlock id (Exit.then K Q)) a w := by
 refine Code.wp_mono (fun e a w q => ?_) h
 cases e with
 | exit i =>
  unfold Exit.inBlock at q ⊢
  simp only at q ⊢
  split at q
  ·rename_i hi
   rw [if_pos hi]
   exact q
  ·exact q.elim
 | normal => exact q
 | _ => exact q.elim
theorem apart12 (l : List Pt) : (apartL (l.take 12)).length ≤ 12 := by
 have := Ap.ap_len (l.take 12) []
 unfold apartL
 simp at this ⊢
 omega
/-- so many values lie in a block, from its head on. -/
def RowOf (W : World) (g : Nat) (xs : List Value) : Prop := ∀ j, j < xs.length → W.cell? ⟨g, j, none⟩ = xs[j]?
theorem RowOf.later {W W' : World} {g : Nat} {xs : List Value} (h : RowOf W g xs) (hb : Below W.heap.size W W') : RowOf W' g xs := fun j hj => by
 have := h j hj
 rw [List.getElem?_eq_getElem hj] at this ⊢
 exact cell_later this hb
theorem flat_len2 (T : List Pt) : (T.flatMap Pt.cs).length = T.length * 2 := by
 induction T with
 | nil => rfl
 | cons p T ih => rw [List.flatMap_cons, List.length_append, ih]; simp [Pt.cs]; omega
theorem flat_drop (T : List Pt) : ∀ k, (T.drop k).flatMap Pt.cs = (T.flatMap Pt.cs).drop (k * 2) := by
 induction T with
 | nil => intro k; simp
 | cons p T ih =>
  intro k
  cases k with
  | zero => simp
  | succ k =>
   rw [List.drop_succ_cons, ih, List.flatMap_cons, show (k + 1) * 2 = (Pt.cs p).length + k * 2 by simp [Pt.cs]; omega, List.drop_append]
   simp
theorem flat_take (T : List Pt) : ∀ k, (T.take k).flatMap Pt.cs = (T.flatMap Pt.cs).take (k * 2) := by
 induction T with
 | nil => intro k; simp
 | cons p T ih =>
  intro k
  cases k with
  | zero => simp
  | succ k =>
   rw [List.take_succ_cons, List.flatMap_cons, List.flatMap_cons, ih, show (k + 1) * 2 = (Pt.cs p).length + k * 2 by simp [Pt.cs]; omega, List.take_append, List.take_of_length_le (l := Pt.cs p) (by omega)]
   simp
theorem add_at (g o j : Nat) : (⟨g, o, none⟩ : Addr).add j = ⟨g, o + j, none⟩ := by
 unfold Addr.add
 split <;> simp_all
theorem RowOf.drop {W : World} {g : Nat} {T : List Pt} (h : RowOf W g (T.flatMap Pt.cs)) (k : Nat) : ∀ j u, ((T.drop k).flatMap Pt.cs)[j]? = some u → W.cell? ((⟨g, k * 2, none⟩ : Addr).add j) = some u := fun j u hj => by
 rw [flat_drop, List.getElem?_drop] at hj
 rw [add_at, h _ (List.getElem?_eq_some_iff.1 hj).1, hj]
theorem RowOf.take {W : World} {g : Nat} {T : List Pt} (h : RowOf W g (T.flatMap Pt.cs)) (k : Nat) : ∀ j u, ((T.take k).flatMap Pt.cs)[j]? = some u → W.cell? ((⟨g, 0, none⟩ : Addr).add j) = some u := fun j u hj => by
 rw [flat_take, List.getElem?_take] at hj
 split at hj
 ·rw [add_at, Nat.zero_add, h _ (List.getElem?_eq_some_iff.1 hj).1, hj]
 ·cases hj
theorem bel_grown {W W' : World} {v : Value} (h : W.grownBy W' v.ownBlock) (hv : v.ownBlock = none) : Below W.heap.size W W' :=
 ⟨h.os, h.tape, h.output, h.size, fun i hi => h.block i hi (by rw [hv]; simp)⟩
/-- append of so many, none perhaps, to a row of the call's own, as one step of a region that draws. -/
theorem step_append_any {P : Program} {w : World} {ops : Array Oper} {o : Oper} {a : Act} {K : Act → World → Prop} {Q : Exit → Act → World → Prop} {E : Prop} (hgd : o.guard = none) (s x : Operand) (t : TypeId)
  (ho : o.op = .call { callee := .builtin .append, args := #[s, x], argTypes := #[t, t] })
  (base : Nat) (e : TypeId) (i : TypeInfo) (z : Value) (size bytes : Nat) (ht : P.underlying t = some (.slice e)) (hi : P.info? e = some i) (hz : i.zero = some z)
  (hsize : i.size = size) (hby : i.bytes = bytes) (hzs : z.cells.size = size) (hsz : 0 < size)
  (g n cap : Nat) (xs : List Value) (hs : a.eval s = .slice (some ⟨g, 0, none⟩) n cap) (hown : w.ownsRow base e size (.slice (some ⟨g, 0, none⟩) n cap) n xs)
  (ad : Addr) (m c : Nat) (news : List Value) (hx : a.eval x = .slice (some ad) m c) (hl : news.length = m * size) (hnews : ∀ j u, news[j]? = some u → w.cell? (ad.add j) = some u) (h1 : ∀ u ∈ news, u.oneCell' = true)
  (h63 : n + m ≤ maxLen) (hbytes : (n + m) * bytes ≤ 140737488355328) (hbase : base ≤ w.heap.size)
  (h : ∀ g' cap' w', w'.ownsRow base e size (.slice (some ⟨g', 0, none⟩) (n + m) cap') (n + m) (xs ++ news) → w.grownBy w' (some g) → (g' = g ∨ g' = w.heap.size) → K (a.put o.dst (.slice (some ⟨g', 0, none⟩) (n + m) cap')) w') :
  if Region.wanted o (yielded ops a.tmps) = true then Oper.wp P o a w K Q else E := by
 rcases Nat.eq_zero_or_pos m with rfl | hm
 ·have hnil : news = [] := List.eq_nil_of_length_eq_zero (by simpa using hl)
  subst hnil
  have hle : n ≤ cap := by
   obtain ⟨_, ⟨h2, _⟩ | ⟨g', c', cur, h2, hr⟩⟩ := id hown
   ·cases h2
   ·cases h2; exact hr.2.2.1
  have hrun := run_append_nothing (P := P) w t t o.type e i ht hi (some ⟨g, 0, none⟩) n cap hle (.slice (some ad) 0 c) (Src.ofSlice w ht ad 0 c [] (by simp) (fun j u hj => by simp at hj) (fun u hu => by simp at hu))
  have hw : Region.wanted o (yielded ops a.tmps) = true := by simp [Region.wanted, hgd]
  rw [if_pos hw]
  unfold Oper.wp
  simp [execOp, ho, resolve, invoke, builtin, hs, hx, hrun, Result.andThen]
  have := h g cap w (by simpa using hown) (World.grownBy.refl _ _) (.inl rfl)
  rw [Nat.add_zero] at this
  exact this
 ·refine step_append_lies w hgd s x t ho base e i z size bytes ht hi hz hsize hby hzs hsz _ n xs hs hown ad m c news hx hl hnews h1 hm h63 hbytes hbase _ rfl ?_
  intro g' cap' w' o1 o2 o3 _
  refine h g' cap' w' o1 o2 ?_
  rcases o3 with o3 | o3
  ·exact .inl (by simpa [Value.ownBlock] using o3.symm)
  ·exact .inr o3
theorem put2 (V : List Pt) (m : Nat) (P : Pt) : ((V.flatMap Pt.cs).set (m * 2) (.int .i64 P.x)).set (m * 2 + 1) (.int .i64 P.y) = (V.set m P).flatMap Pt.cs := by
 have h0 := flat_set Pt.cs 2 (fun _ => rfl) ⟨P.x, (pat V m).y⟩ (.int .i64 P.x) V m 0 (by omega) (fun a ha => by
  have : pat V m = a := by unfold pat; rw [List.getD_eq_getElem?_getD, ha]; rfl
  rw [this]; rfl)
 have h1 := flat_set Pt.cs 2 (fun _ => rfl) P (.int .i64 P.y) (V.set m ⟨P.x, (pat V m).y⟩) m 1 (by omega) (fun a ha => by
  rw [List.getElem?_set] at ha
  simp only [if_true] at ha
  split at ha
  ·cases ha; rfl
  ·cases ha)
 rw [Nat.add_zero] at h0
 rw [h0, h1, List.set_set]
theorem own_put {W : World} {base g n cap : Nat} {V : List Pt} (h : W.ownsRow base 32 2 (.slice (some ⟨g, 0, none⟩) n cap) n (V.flatMap Pt.cs)) (m : Nat) (P : Pt) :
  ((W.setCell ⟨g, m * 2, none⟩ (.int .i64 P.x)).setCell ⟨g, m * 2 + 1, none⟩ (.int .i64 P.y)).ownsRow base 32 2 (.slice (some ⟨g, 0, none⟩) n cap) n ((V.set m P).flatMap Pt.cs) := by
 have := ((h.stored (m * 2) (.int .i64 P.x)).1.stored (m * 2 + 1) (.int .i64 P.y)).1
 rw [put2] at this
 exact this
theorem swap_perm (V : List Pt) (i j : Nat) (hi : i < V.length) (hj : j < V.length) : ((V.set i (pat V j)).set j (pat V i)).Perm V := by
 have h := Array.swap_perm (xs := V.toArray) (i := i) (j := j) (by simpa using hi) (by simpa using hj)
 have h2 := h.toList
 have e : ∀ m (hm : m < V.length), pat V m = V[m] := fun m hm => by unfold pat; simp [List.getD_eq_getElem?_getD, List.getElem?_eq_getElem hm]
 rw [e i hi, e j hj]
 simpa [Array.swap] using h2
theorem realsTo_le (M : Mesh) (n : Nat) : (realsTo M n).length ≤ n := by
 unfold realsTo
 have := List.length_filter_le (fun k : Nat => Mr.realB M k) (List.range n)
 simpa using this
theorem own_some1 {W : World} {B e n : Nat} {v : Value} {xs : List Value} (h : W.ownsRow B e 1 v n xs) (hn : 0 < n) : ∃ g c, v = .slice (some ⟨g, 0, none⟩) n c ∧ RowOf W g xs := by
 obtain ⟨h1, ⟨_, h2⟩ | ⟨g, c, cur, rfl, hr⟩⟩ := id h
 ·omega
 ·exact ⟨g, c, rfl, fun j hj => h.cellAt j (by omega)⟩
theorem one_cell (T : List Pt) : ∀ u ∈ T.flatMap Pt.cs, u.oneCell' = true := fun u hu => by
 obtain ⟨p, _, hp⟩ := List.mem_flatMap.1 hu
 simp only [Pt.cs, List.mem_cons, List.not_mem_nil, or_false] at hp
 rcases hp with rfl | rfl <;> rfl
theorem pat_mem {l : List Pt} {i : Nat} (h : i < l.length) : pat l i ∈ l := by
 have : pat l i = l[i] := by unfold pat; simp [List.getD_eq_getElem?_getD, List.getElem?_eq_getElem h]
 rw [this]
 exact List.getElem_mem _
theorem mem_pat {l : List Pt} {p : Pt} (h : p ∈ l) : ∃ i, i < l.length ∧ pat l i = p := by
 obtain ⟨i, hi, e⟩ := List.getElem_of_mem h
 exact ⟨i, hi, by unfold pat; simp [List.getD_eq_getElem?_getD, List.getElem?_eq_getElem hi, e]⟩
theorem nodup_iff (l : List Pt) : l.Nodup ↔ ∀ i j, i < l.length → j < l.length → i ≠ j → pat l i ≠ pat l j := by
 have e : ∀ i (h : i < l.length), pat l i = l[i] := fun i h => by unfold pat; simp [List.getD_eq_getElem?_getD, List.getElem?_eq_getElem h]
 rw [List.nodup_iff_pairwise_ne, List.pairwise_iff_getElem]
 constructor
 ·intro h i j hi hj hij
  rw [e i hi, e j hj]
  rcases Nat.lt_or_gt_of_ne hij with h' | h'
  ·exact h i j hi hj h'
  ·exact (h j i hj hi h').symm
 ·intro h i j hi hj hij
  rw [← e i hi, ← e j hj]
  exact h i j hi hj (by omega)
theorem near_perm {T U : List Pt} (hp : U.Perm T) (h : nearAll T) : nearAll U := fun i => by
 rcases Nat.lt_or_ge i U.length with hi | hi
 ·obtain ⟨j, _, e⟩ := mem_pat (hp.mem_iff.1 (pat_mem hi))
  rw [← e]
  exact h j
 ·unfold pat
  rw [List.getD_eq_getElem?_getD, List.getElem?_eq_none hi]
  exact zero_near
theorem base_perm {T U : List Pt} (hp : U.Perm T) {b c : Nat} (hb : baseOf T = some (b, c)) : ∃ b' c', baseOf U = some (b', c') := by
 obtain ⟨g1, g2, g3, _, _, _, g7⟩ := (Bp.spec T).1 b c hb
 cases h : baseOf U with
 | some x => exact ⟨x.1, x.2, rfl⟩
 | none =>
  obtain ⟨i0, h0, e0⟩ := mem_pat (hp.mem_iff.2 (pat_mem (l := T) (i := 0) (by omega)))
  obtain ⟨i1, h1, e1⟩ := mem_pat (hp.mem_iff.2 (pat_mem (l := T) (i := b) (by omega)))
  obtain ⟨i2, h2, e2⟩ := mem_pat (hp.mem_iff.2 (pat_mem (l := T) (i := c) (by omega)))
  rw [← e0, ← e1, ← e2] at g7
  rcases (Bp.spec U).2 h with hs | ⟨d, _, hd, hs⟩
  ·rw [hs i0 h0, hs i1 h1] at g7
   exact absurd (by unfold ori; grind) g7
  ·exact absurd (Ki.flat_of _ _ _ _ _ (fun e => hd e.symm) (hs i0 h0) (hs i1 h1) (hs i2 h2)) g7
set_option maxHeartbeats 4000000 in
set_option maxRecDepth 100000 in
theorem law_any (ha : areaOk M1) (a : Option Addr) (c0 : Nat) (l : List Pt) (turn : Int) (w : World) (hl : ArgAt w a l) (hc : l.length ≤ c0) (hn : a = none → l = []) : Calls Try.prog 7 #[.slice a l.length c0, .int .i64 turn] w fun e w' => e = .returned (.bool true) ∧ Below w.heap.size w w' := by
 have hft := Ff.fit_any ha
 have HFT := Lib.hid hft
 have hap := fun u (hb : Below w.heap.size w u) => Ap.apart_gen 12 (by omega) a c0 l u (fun h => by
  obtain ⟨ad, e, hh⟩ := hl h
  exact ⟨ad, e, fun i hi => ⟨cell_later (hh i hi).1 hb, cell_later (hh i hi).2 hb⟩⟩) hc hn
 obtain ⟨T, hT⟩ : ∃ T, apartL (l.take 12) = T := ⟨_, rfl⟩
 have hTn : nearAll T := hT ▸ Ap.apart_near _
 have hTd : ∀ i j, i < T.length → j < T.length → i ≠ j → pat T i ≠ pat T j := hT ▸ Ap.apart_dist _
 have hTl : T.length ≤ 12 := hT ▸ apart12 l
 rw [hT] at hap
 have HAP := Lib.hid hap
 have HTN := Lib.hid hTn
 have HTD := Lib.hid hTd
 obtain ⟨n, hnn⟩ : ∃ n, l.length = n := ⟨_, rfl⟩
 rw [hnn] at HAP ⊢
 clear hft hap hTn hTd hT hl hc hn hnn ha
 refine (callsIn_wide (n := 9)).1 (callsIn_of_wp_marks Try.func7 rfl trivial (wpIn_wide.2 ?_) rfl)
 simp only [Try.ntmps7, List.size_toArray, List.length_cons, List.length_nil, Nat.reduceAdd, Nat.reduceSub, Array.replicate_succ, Array.replicate_zero, List.push_toArray, List.append_toArray, List.nil_append, List.cons_append]
 go_upto_region 4 with (first
  | (go_at_call 18; refine (HFT.out _).mono ?_; rintro e w1 ⟨rfl, hb1⟩; have HB1 := Lib.hid hb1; clear hb1)
  | (go_at_call 19; refine (HAP.out _ HB1.out).mono ?_; rintro e w2 ⟨v, rfl, hv, hb2⟩; obtain ⟨A3, c3, rfl⟩ := own_slice hv; have HV := Lib.hid hv; have HB2 := Lib.hid (bel_step HB1.out hb2); clear hb2 hv))
 have hcon : (∀ u, Below w2.heap.size w2 u → Calls Try.prog 21 #[.slice A3 T.length c3] u fun e w' => e = .returned (.bool (baseOf T).isNone) ∧ Below u.heap.size u w') ∧ (0 < T.length → ∃ g, A3 = some ⟨g, 0, none⟩ ∧ PtsAt w2 g T ∧ T.length ≤ c3 ∧ RowOf w2 g (T.flatMap Pt.cs)) := by
  obtain ⟨h1, ⟨h2, h0⟩ | ⟨g, c, cur, h2, hr⟩⟩ := id HV.out
  ·have hTe : T = [] := List.eq_nil_of_length_eq_zero h0
   subst hTe
   simp only [Value.slice.injEq] at h2
   obtain ⟨rfl, _, rfl⟩ := h2
   exact ⟨fun u _ => Bp.flat_nil u, fun h => by simp at h⟩
  ·simp only [Value.slice.injEq] at h2
   obtain ⟨rfl, _, rfl⟩ := h2
   have hP : PtsAt w2 g T := by
    refine ⟨by omega, fun i hi => ?_⟩
    have kk := fun j (hj : j < 2) => (HV.out.cellAt (i * 2 + j) (by omega)).trans ((flat_get Pt.cs 2 (fun _ => rfl) T i j hj).trans (by rw [pat_get hi]))
    exact ⟨kk 0 (by omega), kk 1 (by omega)⟩
   refine ⟨fun u hu => Fl.flat_no g _ T u (hP.later hu) HTN.out _ (Bp.flat_iff T), fun _ => ⟨g, rfl, hP, ?_⟩⟩
   exact ⟨hr.2.2.1, fun j hj => HV.out.cellAt j (by rw [flat_len2] at hj; exact hj)⟩
 obtain ⟨hFL, hPP⟩ := hcon
 have HFL := Lib.hid hFL
 have HPP := Lib.hid hPP
 clear hFL hPP HAP HFT HB1
 cases hb : baseOf T with
 | none =>
  rw [hb] at HFL
  simp only [Option.isNone_none] at HFL
  clear hb
  go_wp2_with (go_at_call 21; refine (HFL.out _ (bel_refl w2)).mono ?_; rintro e w4 ⟨rfl, hb4⟩; have HB4 := Lib.hid (bel_step HB2.out hb4); clear hb4)
  exact ⟨.bool true, by simp [results, Try.results7, go_sem], rfl, HB4.out⟩
 | some x =>
  obtain ⟨b, c⟩ := x
  obtain ⟨g1, g2, g3, g4, g5, g6, g7⟩ := (Bp.spec T).1 b c hb
  obtain ⟨gg, rfl, hP, hcap, hrow⟩ := HPP.out (by omega)
  have HROW := Lib.hid hrow
  have HP := Lib.hid hP
  rw [hb] at HFL
  simp only [Option.isNone_some] at HFL
  have HG := Lib.hid (And.intro hb (And.intro g1 (And.intro g2 g3)))
  have hT0 : 0 < T.length := by omega
  obtain ⟨kk, hkk, hk9⟩ := bits_low turn
  clear HPP hP hrow g1 g2 g3 g4 g5 g6 g7 hb HV
  go_upto_region 7 with (go_at_call 21; refine (HFL.out _ (bel_refl w2)).mono ?_; rintro e w4 ⟨rfl, hb4⟩; have HB4 := Lib.hid (bel_step HB2.out hb4); have HP4 := Lib.hid (HP.out.later hb4); have HR4 := Lib.hid (RowOf.later HROW.out hb4); clear hb4)
  obtain ⟨k, hkq, hkT⟩ : ∃ k : Nat, (kk : Int) % (T.length : Int) = k ∧ k < T.length := ⟨kk % T.length, rfl, Nat.mod_lt _ hT0⟩
  rw [hkq]
  have i0 : (0 : Int) ≤ (k : Int) := by omega
  have i1 : (k : Int) ≤ (T.length : Int) := by omega
  have i2 : (T.length : Int) ≤ (c3 : Int) := by omega
  have i3 : (k : Int) ≤ (c3 : Int) := by omega
  have hck : ¬ (c3 = k) := by omega
  have hd := (RowOf.later HR4.out (bel_drew (bel_refl w4))).drop k
  have HD := Lib.hid hd
  obtain ⟨j0, hj', hz0, hz1, hz2⟩ := info_parts Nw.Try.info32'
  clear hd
  have hr4 := RowOf.later HR4.out (bel_drew (bel_refl w4))
  have HR4' := Lib.hid hr4
  clear hr4
  refine calm ?_
  go_region_law (first
    | (refine step_append_lies _ (by rfl) (.const (.slice none 0 0)) (.tmp 36) _ (by rfl) w.heap.size 32 j0 (.agg #[.int .i64 0, .int .i64 0]) 2 16 Try.underlying30 hj' hz0 hz1 hz2 rfl (by decide) (.slice none 0 0) 0 [] (by rfl) ⟨rfl, .inl ⟨rfl, rfl⟩⟩ ⟨gg, k * 2, none⟩ (T.length - k) (c3 - k) ((T.drop k).flatMap Pt.cs) (by rfl) (by rw [flat_len2, List.length_drop]) HD.out (one_cell _) (by omega) (by unfold maxLen; omega) (by omega) (by have := HB4.out.size; simp; omega) _ rfl ?_; intro g1 p1 w5 ho1 hg1 hl1 _; simp only [Nat.zero_add, List.nil_append] at ho1; have HO1 := Lib.hid ho1; have hb5 := bel_grown hg1 rfl; have HB5 := Lib.hid (bel_step (bel_drew HB4.out) hb5); have HP5 := Lib.hid ((HP4.out.later (bel_drew (bel_refl w4))).later hb5); have HR5 := Lib.hid (RowOf.later HR4'.out hb5); have HD2 := Lib.hid (RowOf.take HR5.out k); have H1Q : Hid (g1 = w4.heap.size) := Lib.hid (hl1.resolve_left (by simp [Value.ownBlock])); have HB45 := Lib.hid (bel_step (bel_drew (bel_refl w4)) hb5); clear ho1 hg1 hb5 hl1)
    | (refine step_append_any (by rfl) (.tmp 37) (.tmp 40) _ (by rfl) w.heap.size 32 j0 (.agg #[.int .i64 0, .int .i64 0]) 2 16 Try.underlying30 hj' hz0 hz1 hz2 rfl (by decide) g1 (T.length - k) p1 ((T.drop k).flatMap Pt.cs) (by rfl) HO1.out ⟨gg, 0, none⟩ k c3 ((T.take k).flatMap Pt.cs) (by rfl) (by rw [flat_len2, List.length_take]; omega) HD2.out (one_cell _) (by unfold maxLen; omega) (by omega) (by have := HB5.out.size; omega) ?_; intro g2 p2 w6 ho2 hg2 hl2; have HO2 := Lib.hid ho2; have HG2 := Lib.hid hg2; clear ho2 hg2))
  have hlen : T.length - k + k = T.length := by omega
  have ho2 := HO2.out
  rw [hlen, ← List.flatMap_append] at ho2
  have hb6 : Below w4.heap.size w4 w6 := HB45.out.grown HG2.out HB45.out.size (fun j e => by have := Option.some.inj e; have := H1Q.out; omega)
  have hg2 : w4.heap.size ≤ g2 := by have := HB45.out.size; have := H1Q.out; omega
  have HO6 := Lib.hid ho2
  have HB6 := Lib.hid hb6
  have hUp : (T.drop k ++ T.take k).Perm T := (List.perm_append_comm).trans (by rw [List.take_append_drop])
  obtain ⟨U, hU⟩ : ∃ U, T.drop k ++ T.take k = U := ⟨_, rfl⟩
  rw [hU] at HO6 hUp
  have HUP := Lib.hid hUp
  clear ho2 hb6 hU hUp HO2 HG2 HB45 HD HR4' HR4 HO1 HB5 HP5 HR5 HD2 HROW hj' hz0 hz1 hz2 hck i0 i1 i2 i3 hl2 H1Q
  rw [hlen]
  clear hlen
  go_upto_if 45 with (fail)
  generalize (bits BinOp.and IntKind.i64 (turn / 4096) 1 == 1) = q
  generalize bits BinOp.and IntKind.i64 (turn / 4096) 1 = r1
  generalize turn / 4096 = r2
  rename_i K hK
  have hrest : ∀ (U : List Pt) (wz : World) (u8 u9 u46 u47 u48 u49 u50 u51 u52 u53 u54 u55 u56 u57 u58 u59 u60 u61 u62 u63 u64 u65 u66 u67 u68 u69 : Value), Hid (U.Perm T) → Hid (wz.ownsRow w.heap.size 32 2 (.slice (some ⟨g2, 0, none⟩) T.length p2) T.length (U.flatMap Pt.cs)) → Hid (Below w4.heap.size w4 wz) → K { tmps := List.toArray (.slice a n c0 :: .int .i64 turn :: undef :: undef :: .bool false :: .slice (some ⟨gg, 0, none⟩) T.length c3 :: .int .i64 k :: .slice (some ⟨g2, 0, none⟩) T.length p2 :: u8 :: u9 :: undef :: undef :: undef :: undef :: undef :: undef :: undef :: undef :: undef :: undef :: undef :: undef :: undef :: .bool true :: .bool false :: .slice a n c0 :: .slice (some ⟨gg, 0, none⟩) T.length c3 :: .slice (some ⟨gg, 0, none⟩) T.length c3 :: .bool false :: .int .i64 turn :: .int .i64 kk :: .slice (some ⟨gg, 0, none⟩) T.length c3 :: .int .i64 T.length :: .int .i64 k :: .slice (some ⟨gg, 0, none⟩) T.length c3 :: .int .i64 k :: .slice (some ⟨gg, k * 2, none⟩) (T.length - k) (c3 - k) :: .slice (some ⟨g1, 0, none⟩) (T.length - k) p1 :: .slice (some ⟨gg, 0, none⟩) T.length c3 :: .int .i64 k :: .slice (some ⟨gg, 0, none⟩) k c3 :: .slice (some ⟨g2, 0, none⟩) T.length p2 :: .int .i64 turn :: .int .i64 r2 :: .int .i64 r1 :: .bool q :: u46 :: u47 :: u48 :: u49 :: u50 :: u51 :: u52 :: u53 :: u54 :: u55 :: u56 :: u57 :: u58 :: u59 :: u60 :: u61 :: u62 :: u63 :: u64 :: u65 :: u66 :: u67 :: u68 :: u69 :: undef :: undef :: undef :: undef :: undef :: undef :: undef :: undef :: undef :: undef :: undef :: undef :: undef :: undef :: undef :: undef :: undef :: undef :: undef :: undef :: undef :: undef :: undef :: undef :: undef :: undef :: undef :: undef :: undef :: undef :: undef :: undef :: undef :: undef :: undef :: undef :: undef :: undef :: undef :: undef :: undef :: undef :: undef :: undef :: undef :: undef :: undef :: undef :: undef :: undef :: undef :: undef :: undef :: undef :: undef :: undef :: undef :: undef :: undef :: undef :: undef :: undef :: undef :: undef :: undef :: []), defers := [] } wz := by
   intro U wz u8 u9 u46 u47 u48 u49 u50 u51 u52 u53 u54 u55 u56 u57 u58 u59 u60 u61 u62 u63 u64 u65 u66 u67 u68 u69 HUP HO6 HB6
   have hUl : U.length = T.length := HUP.out.length_eq
   obtain ⟨b', c', hb'⟩ := base_perm HUP.out HG.out.1
   obtain ⟨M, hF, hbd⟩ := Bg.build_full gg c3 T HTN.out (by omega) HTD.out b c HG.out.1
   obtain ⟨N, kF, kbd⟩ := Bg.build_full g2 p2 U (near_perm HUP.out HTN.out) (by omega) ((nodup_iff U).1 (HUP.out.nodup_iff.2 ((nodup_iff T).2 HTD.out))) b' c' hb'
   have hPz := HP4.out.later HB6.out
   have kPz : PtsAt wz g2 U := by
    refine ⟨by omega, fun i hi => ?_⟩
    have kk := fun j (hj : j < 2) => (HO6.out.cellAt (i * 2 + j) (by omega)).trans ((flat_get Pt.cs 2 (fun _ => rfl) U i j hj).trans (by rw [pat_get hi]))
    exact ⟨kk 0 (by omega), kk 1 (by omega)⟩
   have H1 := Lib.hid (hbd wz hPz)
   have H2 := Lib.hid (fun u (hb : Below wz.heap.size wz u) => kbd u (kPz.later hb))
   have HF := Lib.hid hF
   have KF := Lib.hid kF
   have HPZ := Lib.hid hPz
   have KPZ := Lib.hid kPz
   have HUL := Lib.hid hUl
   have HBZ := Lib.hid (HB4.out.trans (HB6.out.mono HB4.out.size))
   rw [hUl] at H2
   clear hbd kbd hPz kPz hF kF hUl hb' HO6 HB6
   apply hK
   clear hK
   go_upto_region 14 with (go_at_call 20; refine H1.out.mono ?_; rintro e w7 ⟨mb, rfl, hm7, hb7⟩; have HM7 := Lib.hid hm7; have HB7 := Lib.hid hb7; clear hm7 hb7)
   go_upto_region 18 with (go_at_call 20; refine (H2.out _ HB7.out).mono ?_; rintro e w8 ⟨nb, rfl, hm8, hb8⟩; have HM8 := Lib.hid hm8; have HB8 := Lib.hid hb8; clear hm8 hb8)
   have hR0 := (Bg.reads HF.out HM7.out).later HB8.out
   have kR0 := Bg.reads KF.out HM8.out
   have hB9 := bel_alloc (bel_alloc (bel_refl w8) (.cells #[.int .i64 0] 3)) (.cells #[.int .i64 0] 3)
   have hC := (Blk.new w8 3 #[.int .i64 0]).alloc (.cells #[.int .i64 0] 3)
   have hE := Blk.new' (n := w8.heap.size + 1) (w8.alloc (.cells #[.int .i64 0] 3)) 3 #[.int .i64 0] (by simp)
   have hs9 : ((w8.alloc (.cells #[.int .i64 0] 3)).alloc (.cells #[.int .i64 0] 3)).heap.size = w8.heap.size + 2 := by simp
   generalize (w8.alloc (.cells #[.int .i64 0] 3)).alloc (.cells #[.int .i64 0] 3) = W at *
   have HR0 := Lib.hid hR0
   have KR0 := Lib.hid kR0
   have HB9 := Lib.hid hB9
   have HC := Lib.hid hC
   have HE := Lib.hid hE
   have HBW := Lib.hid (bel_step (bel_step HBZ.out HB7.out) HB8.out)
   have HP8 := Lib.hid ((HPZ.out.later HB7.out).later HB8.out)
   have KP8 := Lib.hid ((KPZ.out.later HB7.out).later HB8.out)
   clear hR0 kR0 hB9 hC hE HBZ HB7 HB8 HM7 HM8 HPZ KPZ H1 H2 HFL
   go_wp2_with (go_at_call 24; refine (callsIn_wide.1 (It.all_in mb 9 _)).mono ?_; rintro e w5 ⟨rfl, rfl⟩)
   obtain ⟨gp, cp, gt, ct, ga, ca, fV, hR⟩ := HR0.out
   have hR1 := (hR.later HB9.out).later (bel_alloc (bel_refl W) (.cells #[.pointer (some ⟨mb, 0, none⟩)] 46))
   have hX := Blk.new' (n := w8.heap.size + 2) W 46 #[.pointer (some ⟨mb, 0, none⟩)] hs9
   have hB10 := bel_step HB9.out (bel_alloc (bel_refl W) (.cells #[.pointer (some ⟨mb, 0, none⟩)] 46))
   have hC1 := HC.out.later (bel_alloc (bel_refl W) (.cells #[.pointer (some ⟨mb, 0, none⟩)] 46))
   have hE1 := HE.out.later (bel_alloc (bel_refl W) (.cells #[.pointer (some ⟨mb, 0, none⟩)] 46))
   have hs10 : (W.alloc (.cells #[.pointer (some ⟨mb, 0, none⟩)] 46)).heap.size = w8.heap.size + 3 := by simp; omega
   generalize W.alloc (.cells #[.pointer (some ⟨mb, 0, none⟩)] 46) = W1 at *
   have hin : ∀ j ∈ (w8.heap.size + 2) :: mblocks mb gp gt ga, j < W1.heap.size ∧ j ≠ w8.heap.size := by
    intro j hj
    rcases List.mem_cons.1 hj with rfl | hj
    ·omega
    ·have := hR.lt (by rw [Bg.pts HF.out]; exact HF.out.some) (Bg.tris HF.out) (by rw [Bg.atl HF.out]; exact HF.out.some) j hj
     omega
   have HBL := Lib.hid (Bg.ok HF.out).tris
   clear HC HE hs9 hR
   refine range_set (n := 9) (by omega) (gf := 38) (lb := #[.pointer (some ⟨w8.heap.size + 2, 0, none⟩)]) rfl (enters_of Try.func38 (by kernel_rfl) rfl)
    (It.all_pos M mb (w8.heap.size + 2) gp cp gt ct ga ca fV 8 ((w8.heap.size + 2) :: mblocks mb gp gt ga) W1 (by simp [mblocks]) HBL.out hX hR1) Keep.trans (Keep.put fun j hj => (hin j hj).1) (fun _ => rfl)
    (fun (pre : List (It.RealOf M)) V => Below w8.heap.size w8 V ∧ Blk V w8.heap.size 3 #[.int .i64 (pre.length : Int)] ∧ Blk V (w8.heap.size + 1) 3 #[.int .i64 0])
    (fun _ _ _ => False)
    (fun _ A B row h hg' hr => ⟨h.1.grown hg' h.1.size (fun k e => by have := (hr k e).1; omega), blk_kept h.2.1 hg' (fun r e => (hr r e).2), blk_kept h.2.2 hg' (fun r e => (hr r e).2)⟩)
    (fun _ _ _ _ _ h _ _ => h)
    ⟨hB10, hC1, hE1⟩
    (fun _ _ _ => True)
    (fun _ _ _ _ _ _ _ _ _ => trivial)
    (fun x Bx t => (t.setIfInBounds 84 (.int .i64 x.1)).setIfInBounds 85 (tv (tat M.tris x.1)))
    ?assign ?body ?done ?stop
   case assign =>
    intro l pre x V K hi hK2
    simp only [It.encT]
    gi_wp2
    exact hK2 _ _ (keeps_later (Below.refl _ _)) (Keep.refl _ _) hi ⟨0, trivial, by simp only [List.setIfInBounds_toArray, List.set_cons_succ, List.set_cons_zero]⟩
   case body =>
    rintro l pre x Bx V ⟨hb, hc, he⟩ _ hN
    simp only [List.setIfInBounds_toArray, List.set_cons_succ, List.set_cons_zero]
    have hlr := realsTo_le M M.tris.length
    have wk : IntKind.i64.wrap ((pre.length : Int) + 1) = ((pre ++ [x]).length : Int) := by rw [IntWalk.i64_in _ (by have := HBL.out; omega)]; simp
    have c0 := hc.cell 0 (.int .i64 (pre.length : Int)) rfl
    have c1 := hc.frozen 0
    have HBb := Lib.hid hb
    have HCc := Lib.hid hc
    have HEe := Lib.hid he
    have HIN := Lib.hid hin
    clear hb hc he hin hN hlr
    gi_wp2
    refine ⟨(KeepsOthers.setCell _ _ _).from _, fun j hj => Below.heap_setCell _ _ _ _ (by have := (HIN.out j hj).2; simp; omega), bel_set HBb.out (Nat.le_refl _) _ _, ?_, HEe.out.other (by omega) _ _⟩
    rw [show (((pre ++ [x]).length : Nat) : Int) = (pre.length : Int) + 1 by simp]
    exact HCc.out.set 0 _
   case done =>
    rintro D1 ys V1 hD1 hys ⟨hb1, hc1, he1⟩ hk1
    have hy1 : ys.length = (realsTo M M.tris.length).length := by rw [← hys, List.length_map]
    rw [hy1] at hc1
    obtain ⟨gp', cp', gt', ct', ga', ca', fV', hR8⟩ := KR0.out
    have hR' := hR8.later hb1
    have HB1 := Lib.hid hb1
    have HC1 := Lib.hid hc1
    have HE1 := Lib.hid he1
    have hD1l : D1 < V1.heap.size := by
     rcases Nat.lt_or_ge D1 V1.heap.size with h | h
     ·exact h
     ·rw [Array.getElem?_eq_none h] at hk1; cases hk1
    have HK1 := Lib.hid hk1
    have HY1 := Lib.hid hy1
    clear hb1 hc1 he1 hk1 hys hy1 hB10 hC1 hE1 hR1 hX hin HBL HB9
    obtain ⟨q1, q2, q3⟩ := Bg.orders HF.out KF.out HUP.out
    have HQ3 := Lib.hid q3
    clear q3
    generalize (realsTo M M.tris.length).length = ra at *
    have HQ1 := Lib.hid q1
    have HQ2 := Lib.hid q2
    clear q1 q2
    go_wp2_with (go_at_call 24; refine (callsIn_wide.1 (It.all_in nb 9 _)).mono ?_; rintro e w5 ⟨rfl, rfl⟩)
    have hR1 := hR'.later (bel_alloc (bel_refl V1) (.cells #[.pointer (some ⟨nb, 0, none⟩)] 46))
    have hX := Blk.new V1 46 #[.pointer (some ⟨nb, 0, none⟩)]
    have hB10 := bel_step HB1.out (bel_alloc (bel_refl V1) (.cells #[.pointer (some ⟨nb, 0, none⟩)] 46))
    have hC1 := HC1.out.later (bel_alloc (bel_refl V1) (.cells #[.pointer (some ⟨nb, 0, none⟩)] 46))
    have hE1 := HE1.out.later (bel_alloc (bel_refl V1) (.cells #[.pointer (some ⟨nb, 0, none⟩)] 46))
    have hK1 := ((bel_alloc (bel_refl V1) (.cells #[.pointer (some ⟨nb, 0, none⟩)] 46)).block D1 hD1l).trans HK1.out
    obtain ⟨xb, hxb⟩ : ∃ xb, V1.heap.size = xb := ⟨_, rfl⟩
    have hsv : w8.heap.size + 1 < xb := by rw [← hxb]; exact HE1.out.lt
    have hs12 : (V1.alloc (.cells #[.pointer (some ⟨nb, 0, none⟩)] 46)).heap.size = xb + 1 := by rw [← hxb]; simp
    rw [hxb] at hX hD1l ⊢
    generalize V1.alloc (.cells #[.pointer (some ⟨nb, 0, none⟩)] 46) = W2 at *
    have hin : ∀ j ∈ xb :: mblocks nb gp' gt' ga', j < W2.heap.size ∧ j ≠ w8.heap.size + 1 := by
     intro j hj
     rcases List.mem_cons.1 hj with rfl | hj
     ·omega
     ·have := hR8.lt (by rw [Bg.pts KF.out]; exact KF.out.some) (Bg.tris KF.out) (by rw [Bg.atl KF.out]; exact KF.out.some) j hj
      omega
    have HBL := Lib.hid (Bg.ok KF.out).tris
    have hD1s : w8.heap.size + 1 < D1 := by omega
    clear HC1 HE1 hR' hR8 HB1 HK1 hs10 hxb
    refine range_set (n := 9) (by omega) (gf := 38) (lb := #[.pointer (some ⟨xb, 0, none⟩)]) rfl (enters_of Try.func38 (by kernel_rfl) rfl)
     (It.all_pos N nb xb gp' cp' gt' ct' ga' ca' fV' 8 (xb :: mblocks nb gp' gt' ga') W2 (by simp [mblocks]) HBL.out hX hR1) Keep.trans (Keep.put fun j hj => (hin j hj).1) (fun _ => rfl)
     (fun (pre : List (It.RealOf N)) V => Below w8.heap.size w8 V ∧ Blk V w8.heap.size 3 #[.int .i64 (ra : Int)] ∧ Blk V (w8.heap.size + 1) 3 #[.int .i64 (pre.length : Int)] ∧ V.heap[D1]? = some (.deferred (some [])))
     (fun _ _ _ => False)
     (fun _ A B row h hg' hr => ⟨h.1.grown hg' h.1.size (fun k e => by have := (hr k e).1; omega), blk_kept h.2.1 hg' (fun r e => (hr r e).2), blk_kept h.2.2.1 hg' (fun r e => (hr r e).2), (hg'.block D1 (by
      rcases Nat.lt_or_ge D1 A.heap.size with h' | h'
      ·exact h'
      ·have := h.2.2.2; rw [Array.getElem?_eq_none h'] at this; cases this) (fun e => by have := (hr D1 e.symm).1; omega)).trans h.2.2.2⟩)
     (fun _ _ _ _ _ h _ _ => h)
     ⟨hB10, hC1, hE1, hK1⟩
     (fun _ _ _ => True)
     (fun _ _ _ _ _ _ _ _ _ => trivial)
     (fun x Bx t => (t.setIfInBounds 90 (.int .i64 x.1)).setIfInBounds 91 (tv (tat N.tris x.1)))
     ?assign2 ?body2 ?done2 ?stop2
    case assign2 =>
     intro l pre x V K hi hK2
     simp only [It.encT]
     gi_wp2
     exact hK2 _ _ (keeps_later (Below.refl _ _)) (Keep.refl _ _) hi ⟨0, trivial, by simp only [List.setIfInBounds_toArray, List.set_cons_succ, List.set_cons_zero]⟩
    case body2 =>
     rintro l pre x Bx V ⟨hb, hc, he, hd⟩ _ hN
     simp only [List.setIfInBounds_toArray, List.set_cons_succ, List.set_cons_zero]
     have hlr := realsTo_le N N.tris.length
     have wk : IntKind.i64.wrap ((pre.length : Int) + 1) = ((pre ++ [x]).length : Int) := by rw [IntWalk.i64_in _ (by have := HBL.out; omega)]; simp
     have c0 := he.cell 0 (.int .i64 (pre.length : Int)) rfl
     have c1 := he.frozen 0
     have HBb := Lib.hid hb
     have HCc := Lib.hid hc
     have HEe := Lib.hid he
     have HIN := Lib.hid hin
     have HDd := Lib.hid hd
     clear hb hc he hin hN hlr hd
     gi_wp2
     refine ⟨(KeepsOthers.setCell _ _ _).from _, fun j hj => Below.heap_setCell _ _ _ _ (by have := (HIN.out j hj).2; simp; omega), bel_set HBb.out (by omega) _ _, HCc.out.other (by omega) _ _, ?_, (Below.heap_setCell _ _ _ _ (by simp; omega)).trans HDd.out⟩
     rw [show (((pre ++ [x]).length : Nat) : Int) = (pre.length : Int) + 1 by simp]
     exact HEe.out.set 0 _
    case done2 =>
     rintro D2 zs V2 hD2 hzs ⟨hb2, hc2, he2, hk1⟩ hk2
     have hz1 : zs.length = (realsTo N N.tris.length).length := by rw [← hzs, List.length_map]
     rw [hz1] at he2
     rw [← HQ1.out] at he2
     have hM2 := HR0.out.later hb2
     have kM2 := KR0.out.later hb2
     have hh : ∀ (x : Nat) (X : List Int), ((x = mb ∧ X = hull M) ∨ (x = nb ∧ X = hull N)) → ∀ u, Below V2.heap.size V2 u → Calls Try.prog 26 #[.pointer (some ⟨x, 0, none⟩)] u fun e w' => ∃ v, e = .returned v ∧ w'.ownsRow u.heap.size 3 1 v X.length (X.map (Value.int .i64)) ∧ Below u.heap.size u w' := by
      rintro x X (⟨rfl, rfl⟩ | ⟨rfl, rfl⟩) u hu
      ·exact Bg.hull_any HF.out _ u (hM2.later hu)
      ·exact Bg.hull_any KF.out _ u (kM2.later hu)
     have hmk : Marks w8.heap.size [D2, D1] V2 := ⟨by simp; omega, fun D hD => by
      simp only [List.mem_cons, List.not_mem_nil, or_false] at hD
      rcases hD with rfl | rfl
      ·exact ⟨by omega, hk2⟩
      ·exact ⟨by omega, hk1⟩⟩
     have c0 := hc2.cell 0 (.int .i64 (ra : Int)) rfl
     have c1 := he2.cell 0 (.int .i64 (ra : Int)) rfl
     have HH := Lib.hid hh
     have HMK := Lib.hid hmk
     have HB2' := Lib.hid hb2
     have HC2 := Lib.hid hc2
     have HE2 := Lib.hid he2
     clear hh hmk hb2 hc2 he2 hk1 hk2 hM2 kM2 hzs hz1 hX hR1 hB10 hC1 hE1 hK1 hin HBL hD1l hD1s hD1 hD2
     clear c0 c1
     have HLX := Lib.hid (Bg.hull_pos HF.out)
     go_upto_region 25 with (first
      | (go_at_call 26; refine (HH.out _ _ (by exact .inl ⟨rfl, rfl⟩) _ (by exact bel_refl _)).mono ?_; rintro e w9 ⟨v, rfl, hv, hb9⟩; obtain ⟨hx, cX, rfl, hrx⟩ := own_some1 hv HLX.out; have HX := Lib.hid hrx; have HB9' := Lib.hid hb9; clear hv hb9 hrx)
      | (go_at_call 26; refine (HH.out _ _ (by exact .inr ⟨rfl, rfl⟩) _ (by exact HB9'.out)).mono ?_; rintro e w10 ⟨v, rfl, hv, hb9⟩; rw [← HQ2.out] at hv; obtain ⟨hy, cY, rfl, hry⟩ := own_some1 hv HLX.out; have HY := Lib.hid hry; have HB10' := Lib.hid hb9; have d0 := ((HC2.out.later HB9'.out).later hb9).cell 0 (.int .i64 (ra : Int)) rfl; have d1 := ((HE2.out.later HB9'.out).later hb9).cell 0 (.int .i64 (ra : Int)) rfl; clear hv hb9 hry))
     clear d0 d1 HE2 HH
     have hmm := @run_makeMap Try.prog
     have hb12 := bel_step HB9'.out HB10'.out
     have hb8 := HB2'.out.trans (hb12.mono HB2'.out.size)
     have HXw := Lib.hid (RowOf.later HX.out HB10'.out)
     have HMKw := Lib.hid (Lm.later HMK.out hb12)
     have HCw := Lib.hid (HC2.out.later hb12)
     have HPw := Lib.hid (HP8.out.later hb8)
     have KPw := Lib.hid (KP8.out.later hb8)
     have HBw := Lib.hid (bel_step HBW.out hb8)
     have HM0 := Lib.hid (MapAt.new (fun p : NPt => pv p.1) (Value.int .i64) w10 (β := Int))
     have HB0 := Lib.hid (bel_alloc (bel_refl w10) (.map #[] 0))
     have HIN := Lib.hid (Bg.hull_in HF.out)
     have KIN := Lib.hid (Bg.hull_in KF.out)
     have HWS := Lib.hid HBW.out.size
     clear HB9' HB10' hb12 hb8 HX HMK HC2 HP8 KP8 HBW HB2'
     have HX9 := Lib.hid (Bg.hull_few HF.out)
     generalize hull M = X at *
     generalize hull N = Y at *
     go_upto_region 26 with (fail)
     generalize w10.alloc (.map #[] 0) = W5 at *
     obtain ⟨mp, hmp⟩ : ∃ mp, w10.heap.size = mp := ⟨_, rfl⟩
     have HMP := Lib.hid hmp
     rw [hmp] at HM0 ⊢
     clear hmp hmm
     have xl : (0 : Int) ≤ (X.length : Int) := by omega
     go_wp2
     go_loopw [111] (fun p wr => ∃ (i : Nat) (seen : List (NPt × Int)), p = .int .i64 i ∧ i ≤ X.length ∧ Hid (Below w10.heap.size w10 wr) ∧ Hid (MapAt (fun p : NPt => pv p.1) (Value.int .i64) wr mp seen) ∧ Hid (∀ p : NPt, mget 0 p seen = if p.1 ∈ (X.take i).map (fun v => pat T v.toNat) then 1 else 0)) (fun p _ => X.length - (intOf p).toNat)
     case atStart => exact ⟨0, [], rfl, Nat.zero_le _, HB0, HM0, Lib.hid (fun p => by simp [mget])⟩
     case round =>
      obtain ⟨i, seen, rfl, hi, HB, HM, HS⟩ := hrel
      clear HB0 HM0
      by_cases hlt : i < X.length
      ·obtain ⟨m, hm, hmT⟩ := HIN.out X[i] (List.getElem_mem hlt)
       have x0 := (RowOf.later HXw.out HB.out) i (by simpa using hlt)
       rw [List.getElem?_map, List.getElem?_eq_getElem hlt, hm] at x0
       simp only [Option.map_some] at x0
       obtain ⟨y0, y1⟩ := (HPw.out.later HB.out).2 m hmT
       have hn := HTN.out m
       have HE := Lib.hid (show (X.take (i + 1)).map (fun v => pat T v.toNat) = (X.take i).map (fun v => pat T v.toNat) ++ [pat T m] by
        rw [List.take_add_one, List.getElem?_eq_getElem hlt, hm, List.map_append]
        simp)
       obtain ⟨P, hP⟩ : ∃ P, pat T m = P := ⟨_, rfl⟩
       rw [hP] at y0 y1 hn HE
       have i0 : (0 : Int) ≤ (i : Int) := by omega
       have i1 : (i : Int) < (X.length : Int) := by omega
       have m0 : (0 : Int) ≤ (m : Int) := by omega
       have m1 : (m : Int) < (T.length : Int) := by omega
       have wk : IntKind.i64.wrap ((i : Int) + 1) = ((i + 1 : Nat) : Int) := by rw [IntWalk.i64_in _ (by have := HX9.out; omega)]; omega
       clear hm hP
       go_upto_region 30 with (at_mapUpdate; refine wpList_map_put _ rfl _ _ _ 65 rfl Try.underlying65 pt_ok mp rfl HM.out (⟨P, hn⟩ : NPt) (1 : Int) rfl rfl ?_; intro wa hm1 hg1; have HM1 := Lib.hid hm1; have HB1 := Lib.hid (HB.out.grown hg1 HB.out.size (fun j e => by have := Option.some.inj e; have := HMP.out; omega)); clear hm1 hg1)
       go_wp2
       go_roundw
       case rel =>
        refine ⟨i + 1, _, by go_num, by omega, HB1, HM1, Lib.hid fun p => ?_⟩
        rw [Ap.get_put1, HE.out, HS.out]
        by_cases hp : (⟨P, hn⟩ : NPt) = p
        ·subst hp
         rw [if_pos rfl, if_pos (by simp)]
        ·rw [if_neg hp]
         have : ¬ p.1 = P := fun e => hp (Subtype.ext e.symm)
         simp only [List.mem_append, List.mem_singleton, this, or_false]
       case measure => simp [intOf]; omega
      ·obtain rfl : i = X.length := by omega
       have i1 : ¬ (X.length : Int) < (X.length : Int) := by omega
       have HS' := Lib.hid (fun p => by have := HS.out p; rw [List.take_length] at this; exact this : ∀ p : NPt, mget 0 p seen = if p.1 ∈ X.map (fun v => pat T v.toNat) then 1 else 0)
       clear HS hlt
       go_wp2
       go_loopw [123] (fun p wr => ∃ i : Nat, p = .int .i64 i ∧ i ≤ X.length ∧ Hid (Below w10.heap.size w10 wr) ∧ Hid (MapAt (fun p : NPt => pv p.1) (Value.int .i64) wr mp seen)) (fun p _ => X.length - (intOf p).toNat)
       case atStart => exact ⟨0, rfl, Nat.zero_le _, HB, HM⟩
       case round =>
        obtain ⟨i, rfl, hi, HBi, HMi⟩ := hrel
        clear HB HM i1
        by_cases hlt : i < X.length
        ·have hlY : i < Y.length := by have := HQ2.out; omega
         obtain ⟨m, hm, hmT⟩ := KIN.out Y[i] (List.getElem_mem hlY)
         have x0 := (RowOf.later HY.out HBi.out) i (by simpa using hlY)
         rw [List.getElem?_map, List.getElem?_eq_getElem hlY, hm] at x0
         simp only [Option.map_some] at x0
         obtain ⟨y0, y1⟩ := (KPw.out.later HBi.out).2 m hmT
         have hn : (pat U m).near := near_perm HUP.out HTN.out m
         have hlk := HMi.out.look (t := 65) Try.underlying65 pt_ok (z := (0 : Int)) (by rfl) (⟨pat U m, hn⟩ : NPt)
         have hin : pat U m ∈ X.map (fun v => pat T v.toNat) := by
          obtain ⟨u, hu, e⟩ := HQ3.out Y[i] (List.getElem_mem hlY)
          rw [hm] at e
          exact List.mem_map.2 ⟨u, hu, by simpa using e⟩
         rw [HS'.out, if_pos hin] at hlk
         simp only at hlk
         obtain ⟨P, hP⟩ : ∃ P, pat U m = P := ⟨_, rfl⟩
         rw [hP] at y0 y1
         have hlk2 := hlk
         simp only [hP] at hlk2
         have i0 : (0 : Int) ≤ (i : Int) := by omega
         have i1 : (i : Int) < (X.length : Int) := by omega
         have m0 : (0 : Int) ≤ (m : Int) := by omega
         have m1 : (m : Int) < (T.length : Int) := by have := HUL.out; omega
         have wk : IntKind.i64.wrap ((i : Int) + 1) = ((i + 1 : Nat) : Int) := by rw [IntWalk.i64_in _ (by have := HX9.out; omega)]; omega
         clear hm hP hlk hin hn hlY
         go_wp2
         go_roundw
         case rel => exact ⟨i + 1, by go_num, by omega, HBi, HMi⟩
         case measure => simp [intOf]; omega
        ·have i1 : ¬ (i : Int) < (X.length : Int) := by omega
         go_wp2
         exact Lm.leave w HWS.out [D2, D1] wr (Lm.later HMKw.out HBi.out) (HCw.out.later HBi.out) (bel_step HBw.out HBi.out) fun W' _ hb => ⟨.bool true, by simp [results, Try.results7, go_sem], rfl, hb⟩
    case stop2 =>
     rintro D c pre V hD hp hf hK
     exact hf.elim
   case stop =>
    rintro D c pre V hD hp hf hK
    exact hf.elim
  clear hK
  have HREST := Lib.hid hrest
  clear hrest
  cases q
  ·go_wp2
   exact HREST.out U w6 _ _ _ _ _ _ _ _ _ _ _ _ _ _ _ _ _ _ _ _ _ _ _ _ _ _ HUP HO6 HB6
  ·have wl : IntKind.i64.wrap ((T.length : Int) - 1) = ((T.length - 1 : Nat) : Int) := by rw [IntWalk.i64_in _ (by omega)]; omega
   go_wp2
   go_loopw [8, 9] (fun p q wr => ∃ (i j : Nat) (V : List Pt), p = .int .i64 i ∧ q = .int .i64 j ∧ i + j + 1 = T.length ∧ Hid (V.Perm T) ∧ Hid (wr.ownsRow w.heap.size 32 2 (.slice (some ⟨g2, 0, none⟩) T.length p2) T.length (V.flatMap Pt.cs)) ∧ Hid (Below w4.heap.size w4 wr)) (fun p _ _ => T.length - (intOf p).toNat)
   case atStart => exact ⟨0, T.length - 1, U, rfl, by go_num, by omega, HUP, HO6, HB6⟩
   case round =>
    obtain ⟨i, j, V, rfl, rfl, hij, HV, HO, HB⟩ := hrel
    clear HUP HO6 HB6 wl
    by_cases hlt : i < j
    ·have hVl : V.length = T.length := HV.out.length_eq
     have y := fun m (hm : m < T.length) (r : Nat) (hr : r < 2) => (HO.out.cellAt (m * 2 + r) (by omega)).trans ((flat_get Pt.cs 2 (fun _ => rfl) V m r hr).trans (by rw [pat_get (by omega)]))
     have a0 : wr.cell? ⟨g2, i * 2, none⟩ = some (.int .i64 (pat V i).x) := (y i (by omega) 0 (by omega))
     have a1 : wr.cell? ⟨g2, i * 2 + 1, none⟩ = some (.int .i64 (pat V i).y) := (y i (by omega) 1 (by omega))
     have b0 : wr.cell? ⟨g2, j * 2, none⟩ = some (.int .i64 (pat V j).x) := (y j (by omega) 0 (by omega))
     have b1 : wr.cell? ⟨g2, j * 2 + 1, none⟩ = some (.int .i64 (pat V j).y) := (y j (by omega) 1 (by omega))
     have fa0 := HO.out.frozenAt (i * 2)
     have fa1 := HO.out.frozenAt (i * 2 + 1)
     have fb0 := HO.out.frozenAt (j * 2)
     have fb1 := HO.out.frozenAt (j * 2 + 1)
     have i0 : (0 : Int) ≤ (i : Int) := by omega
     have i1 : (i : Int) < (T.length : Int) := by omega
     have j0 : (0 : Int) ≤ (j : Int) := by omega
     have j1 : (j : Int) < (T.length : Int) := by omega
     have ij : (i : Int) < (j : Int) := by omega
     clear y
     go_upto_region 12 with (fail)
     refine calmB ?_
     go_region
     have hO2 := own_put (own_put HO.out i (pat V j)) j (pat V i)
     have hB2 := bel_drew (bel_set (bel_set (bel_set (bel_set HB.out hg2 (i * 2) (.int .i64 (pat V j).x)) hg2 (i * 2 + 1) (.int .i64 (pat V j).y)) hg2 (j * 2) (.int .i64 (pat V i).x)) hg2 (j * 2 + 1) (.int .i64 (pat V i).y))
     have HO2 := Lib.hid (World.ownsRow.drew hO2)
     have HB2' := Lib.hid hB2
     have HV2 := Lib.hid ((swap_perm V i j (by omega) (by omega)).trans HV.out)
     have w1 : IntKind.i64.wrap ((i : Int) + 1) = ((i + 1 : Nat) : Int) := by rw [IntWalk.i64_in _ (by omega)]; omega
     have w2' : IntKind.i64.wrap ((j : Int) - 1) = ((j - 1 : Nat) : Int) := by rw [IntWalk.i64_in _ (by omega)]; omega
     clear hO2 hB2 a0 a1 b0 b1 fa0 fa1 fb0 fb1 i0 i1 j0 j1
     generalize ((((wr.setCell ⟨g2, i * 2, none⟩ (.int .i64 (pat V j).x)).setCell ⟨g2, i * 2 + 1, none⟩ (.int .i64 (pat V j).y)).setCell ⟨g2, j * 2, none⟩ (.int .i64 (pat V i).x)).setCell ⟨g2, j * 2 + 1, none⟩ (.int .i64 (pat V i).y)).drew = wz at *
     go_wp2
     go_roundw
     case rel => exact ⟨i + 1, j - 1, _, by go_num, by go_num, by omega, HV2, HO2, HB2'⟩
     case measure => simp [intOf]; omega
    ·have ij : ¬ (i : Int) < (j : Int) := by omega
     go_wp2
     exact HREST.out V wr _ _ _ _ _ _ _ _ _ _ _ _ _ _ _ _ _ _ _ _ _ _ _ _ _ _ HV HO HB
end Od
end Go.Proofs.Ytdihefgleefhmaa
