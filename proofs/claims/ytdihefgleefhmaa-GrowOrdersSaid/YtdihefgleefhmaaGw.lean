/- Insert, from a good mesh to a good mesh: the program's own. -/
import Derived.Test.YtdihefgleefhmaaAo
import Derived.Test.YtdihefgleefhmaaJa
import Derived.Test.YtdihefgleefhmaaIs
import Derived.Test.YtdihefgleefhmaaDh
import Derived.Test.YtdihefgleefhmaaBd
import Derived.Test.YtdihefgleefhmaaNv
import Derived.Test.YtdihefgleefhmaaBa
import Derived.Test.YtdihefgleefhmaaJc
import Derived.Test.YtdihefgleefhmaaAw
import Derived.Test.YtdihefgleefhmaaHu
namespace Go.Proofs.Ytdihefgleefhmaa
open Go.RowKit
namespace Gw
open Po Pc Pe Kz Kw Ki Kx Ks Kt
section
variable {c : Cfg} {S : Int → Prop} {M : Mesh} {v n : Nat}
theorem ok (hc : c.Ok) (g : Good c S M n) (hl : c.pts.length ≤ 1000000000) (hn : n ≤ 1000000000) : M.ok :=
 ⟨g.del.pts ▸ hc.near, g.del.pts ▸ hl, by have := g.few; omega, g.atl⟩
theorem wf (g : Good c S M n) (hp : 0 < c.pts.length) : M.wf := fun i hi j => by
 by_cases hl : M.live i
 ·have h3 : ∀ j, j < 3 → (tat M.tris i).v j < M.pts.length := fun j hj => by
   have hs := g.del.poly.vs i hl j hj
   show M.w i j < _
   rw [g.del.pts]
   rcases g.del.nat _ hs with h | ⟨m, h, hm⟩ <;> omega
  match j with
  | 0 => exact h3 0 (by omega)
  | 1 => exact h3 1 (by omega)
  | 2 => exact h3 2 (by omega)
  | j + 3 => exact h3 2 (by omega)
 ·have hd : (tat M.tris i).v0 = -2 := Classical.byContradiction fun h => hl ⟨hi, h⟩
  rw [g.dead i hi hd]
  have : ∀ j, Tri.gone.v j < 0 := fun j => by
   match j with
   | 0 => decide
   | 1 => decide
   | 2 => decide
   | j + 3 => exact (by decide : Tri.gone.v 2 < 0)
  have := this j
  omega
theorem circ (ho : M.ok) (p : Pt) (hp : p.near) : M.circ p := fun _ _ w => Cg.circle_any _ _ _ p w (ho.near _) (ho.near _) (ho.near _) hp
theorem across_ne (g : Good c S M n) {t : Nat} {f : Nat → Nat} (hr : Real c S M t f) {j : Nat} (hj : j < 3) : ∃ u : Nat, (tat M.tris t).n j = u ∧ M.live u ∧ t ≠ u := by
 obtain ⟨u, k, e1, e2, e3, e4, e5, e6⟩ := g.del.poly.nb t hr.live j hj
 refine ⟨u, e1, e2, fun e => ?_⟩
 subst e
 rw [hr.at_ _ (by omega), hr.at_ _ (by omega)] at e5 e6
 obtain ⟨n1, n2, n3⟩ := real_inj g.del hr (j := 0) (by omega)
 simp at n1 n2 n3
 rcases (show j = 0 ∨ j = 1 ∨ j = 2 by omega) with rfl | rfl | rfl <;> rcases (show k = 0 ∨ k = 1 ∨ k = 2 by omega) with rfl | rfl | rfl <;> simp at e5 e6 <;> omega
/-- Insert takes a good mesh to a good mesh. -/
theorem ins_good (hc : c.Ok) (g : Good c S M n) (hv : New c S v) (hl : c.pts.length ≤ 1000000) (hn : n + c.pts.length + 1 ≤ 100000000) (fr : Int) :
  ∃ M' : Mesh, InsGood M v fr M' ∧ Good c (fun x => S x ∨ x = v) M' (n + c.pts.length + 1) := by
 obtain ⟨t0, q, i, h1, h2, h3, h4, ⟨tq, h5, h6⟩, h7, h8, h9⟩ := Ja.step hc g hv hn fr
 have ho := ok hc g (by omega) (by omega)
 have hvl : v < M.pts.length := by rw [g.del.pts]; exact hv.lt
 have hw := wf g (by have := hv.lt; omega)
 have htl : 0 < M.tris.length := by have := h6.1; omega
 have hpn : (pat M.pts v).near := ho.near v
 have hs := Kv.sane g.del
 have hci := circ ho (pat M.pts v) hpn
 refine ⟨_, fun F0 B b w hM hF hB => ?_, h9⟩
 by_cases hk : q.kind = 1
 ·obtain ⟨t, f, j, hr, hj, rfl⟩ := h7 hk
  obtain ⟨x, k, xs, u, e, f1, f2, f3, f4, f5, f6, f7, f8⟩ := Ao.find_edge g hr hj
  obtain ⟨u9, a1, a2, a3⟩ := across_ne g hr hj
  have hac := across_at g.del hr hj
  rw [a1] at hac
  refine Is.insert_any (min (f ((j + 1) % 3) : Int) (f ((j + 2) % 3))) (max (f ((j + 1) % 3) : Int) (f ((j + 2) % 3))) F0 B b v M fr t0 i _ w hM hF hB ho hw hvl htl h1 h2 h3 (fun u' hu' => ?_) (fun u' hu' => ?_) h4 h8
  ·have := Pd.parted_on M b k ⟨1, t, min (f ((j + 1) % 3) : Int) (f ((j + 2) % 3)), max (f ((j + 1) % 3) : Int) (f ((j + 2) % 3))⟩ xs u e u' hu' ho (by omega) x rfl (by show max (min (f ((j + 1) % 3) : Int) (f ((j + 2) % 3))) (max (f ((j + 1) % 3) : Int) (f ((j + 2) % 3))) = x; omega) f8 f2 f3 f4 f5 f6
   rw [f7] at this
   exact this
  ·exact Dg.dig_on M b _ _ u' hu' ho hpn hs hci t u9 rfl rfl hr.live hac a2 a3
 ·exact Is.insert_any 0 0 F0 B b v M fr t0 i q w hM hF hB ho hw hvl htl h1 h2 h3 (fun u _ => Pd.parted_off b q u hk) (fun u hu => Dg.dig_off M b _ q u hu ho hpn hs hci tq hk h5 h6) h4 h8
end
end Gw
end Go.Proofs.Ytdihefgleefhmaa
/- The chain: from New's mesh to the mesh of all points. -/
namespace Go.Proofs.Ytdihefgleefhmaa
open Go.RowKit
namespace Gx
open Po Pc Pe Kz Kw Ki Kx Ks Kt
/-- one step of the heights. -/
def A : Int := 1361129467683753853853498429727072845824
def base (b c v : Nat) : Prop := v = 0 ∨ v = b ∨ v = c
instance (b c v : Nat) : Decidable (base b c v) := by unfold base; infer_instance
def rk (len b c v : Nat) : Nat := if base b c v ∨ len ≤ v then 0 else v + 1
def cf (l : List Pt) (b c : Nat) : Cfg := ⟨l, pat l 0, pat l b, pat l c, fun v => A ^ rk l.length b c v, A ^ (l.length + 1), 1645504557321206042154969182557350504982735865633579863348609024 * A ^ (l.length + 1)⟩
theorem A_pos (n : Nat) : 0 < A ^ n := Int.pow_pos (by decide)
theorem A_mono {m n : Nat} (h : m ≤ n) : A ^ m ≤ A ^ n := by
 induction n with
 | zero => obtain rfl : m = 0 := by omega
           exact Int.le_refl _
 | succ n ih =>
  by_cases hm : m = n + 1
  ·subst hm; exact Int.le_refl _
  ·have h1 := ih (by omega)
   have h2 := A_pos n
   rw [Int.pow_succ]
   have h3 : A ^ n * 1 ≤ A ^ n * A := Int.mul_le_mul_of_nonneg_left (by decide) (by omega)
   omega
theorem cf_ok (l : List Pt) (b c : Nat) (hn : nearAll l) (near : ∀ i, (pat l i).near) : (cf l b c).Ok where
 near := hn
 n0 := near _
 n1 := near _
 n2 := near _
 pos _ := A_pos _
 top v := by
  show A * A ^ rk l.length b c v ≤ A ^ (l.length + 1)
  rw [Int.mul_comm, ← Int.pow_succ]
  exact A_mono (by unfold rk; split <;> omega)
 far := Int.le_refl _
/-- the points that are in, ahead of point v. -/
def Sv (b c v : Nat) (x : Int) : Prop := Jb.S0 0 b c x ∨ ∃ n : Nat, x = n ∧ n < v
theorem Sv_base (b c v : Nat) (h : base b c v) : Sv b c (v + 1) = Sv b c v := by
 funext x
 apply propext
 unfold Sv Jb.S0
 unfold base at h
 constructor
 ·rintro (h1 | ⟨n, h1, h2⟩)
  ·exact .inl h1
  ·by_cases e : n = v
   ·left; omega
   ·exact .inr ⟨n, h1, by omega⟩
 ·rintro (h1 | ⟨n, h1, h2⟩)
  ·exact .inl h1
  ·exact .inr ⟨n, h1, by omega⟩
theorem Sv_next (b c v : Nat) : (fun x => Sv b c v x ∨ x = v) = Sv b c (v + 1) := by
 funext x
 apply propext
 unfold Sv
 constructor
 ·rintro ((h | ⟨n, h1, h2⟩) | h)
  ·exact .inl h
  ·exact .inr ⟨n, h1, by omega⟩
  ·exact .inr ⟨v, h, by omega⟩
 ·rintro (h | ⟨n, h1, h2⟩)
  ·exact .inl (.inl h)
  ·by_cases e : n = v
   ·right; omega
   ·exact .inl (.inr ⟨n, h1, by omega⟩)
theorem Sv_zero (b c : Nat) : Sv b c 0 = Jb.S0 0 b c := by
 funext x
 apply propext
 unfold Sv
 constructor
 ·rintro (h | ⟨n, h1, h2⟩)
  ·exact h
  ·omega
 ·exact .inl
theorem S0_swap (a b c : Nat) : Jb.S0 a c b = Jb.S0 a b c := by
 funext x
 apply propext
 unfold Jb.S0
 omega
theorem new (l : List Pt) (b c v : Nat) (hv : v < l.length) (hb : ¬ base b c v) (hbl : b < l.length) (hcl : c < l.length) (hd : ∀ i j, i < l.length → j < l.length → i ≠ j → pat l i ≠ pat l j) : New (cf l b c) (Sv b c v) v where
 new h := by
  unfold Sv Jb.S0 at h
  unfold base at hb
  rcases h with h | ⟨n, h1, h2⟩ <;> omega
 lt := hv
 dist i hi := by
  unfold Sv Jb.S0 at hi
  unfold base at hb
  refine hd i v ?_ hv ?_
  ·rcases hi with h | ⟨n, h1, h2⟩ <;> omega
  ·rcases hi with h | ⟨n, h1, h2⟩ <;> omega
 top i hi := by
  show 680564733841876926926749214863536422912 * A ^ rk l.length b c i ≤ A ^ rk l.length b c v
  have h1 : rk l.length b c v = v + 1 := by unfold rk; rw [if_neg (fun h => h.elim hb (fun h => by omega))]
  have h2 : rk l.length b c i ≤ v := by
   unfold rk
   split
   ·omega
   ·rename_i hn
    unfold Sv Jb.S0 at hi
    unfold base at hn
    rcases hi with h | ⟨n, h3, h4⟩ <;> omega
  rw [h1]
  have h3 := A_mono (show rk l.length b c i + 1 ≤ v + 1 by omega)
  rw [Int.pow_succ] at h3
  have h4 := A_pos (rk l.length b c i)
  generalize A ^ rk l.length b c i = x at *
  have h5 : x * 680564733841876926926749214863536422912 ≤ x * A := Int.mul_le_mul_of_nonneg_left (by decide) (by omega)
  omega
/-- the mesh ahead of point v, and the point that came last. -/
noncomputable def Ms (l : List Pt) (b c : Nat) : Nat → Mesh × Nat
 | 0 => (newMesh l 0 b c, 0)
 | v + 1 => if base b c v then Ms l b c v else
  (@Classical.epsilon Mesh ⟨newMesh l 0 b c⟩ fun M' => InsGood (Ms l b c v).1 v (iat (Ms l b c v).1.at_ (Ms l b c v).2) M' ∧ Good (cf l b c) (Sv b c (v + 1)) M' (4 + (v + 1) * (l.length + 1)), v)
theorem more {c : Cfg} {S : Int → Prop} {M : Mesh} {n m : Nat} (g : Good c S M n) (h : n ≤ m) : Good c S M m :=
 { g with few := Nat.le_trans g.few h }
theorem start (l : List Pt) (b c : Nat) (hok : (cf l b c).Ok) (h0 : 0 < b) (hbc : b < c) (hcl : c < l.length) (hd : ∀ i j, i < l.length → j < l.length → i ≠ j → pat l i ≠ pat l j) (ho : ori (pat l 0) (pat l b) (pat l c) ≠ 0) :
  Good (cf l b c) (Sv b c 0) (newMesh l 0 b c) 4 := by
 rw [Sv_zero]
 have hz : ∃ i j k : Nat, Jb.S0 0 b c i ∧ Jb.S0 0 b c j ∧ Jb.S0 0 b c k ∧ pat (cf l b c).pts i = (cf l b c).z0 ∧ pat (cf l b c).pts j = (cf l b c).z1 ∧ pat (cf l b c).pts k = (cf l b c).z2 :=
  ⟨0, b, c, by unfold Jb.S0; omega, by unfold Jb.S0; omega, by unfold Jb.S0; omega, rfl, rfl, rfl⟩
 unfold newMesh
 split
 ·rename_i hneg
  rw [Jb.new_eq, ← S0_swap]
  refine Jb.good0 hok (show 0 < l.length by omega) hcl (show b < l.length by omega) (by omega) (by omega) (by omega) ?_ (by rw [S0_swap]; exact hz) ho hd
  show 0 < ori (pat l 0) (pat l c) (pat l b)
  have : ori (pat l 0) (pat l c) (pat l b) = - ori (pat l 0) (pat l b) (pat l c) := by unfold ori; grind
  omega
 ·rename_i hneg
  rw [Jb.new_eq]
  exact Jb.good0 hok (show 0 < l.length by omega) (show b < l.length by omega) hcl (by omega) (by omega) (by omega) (show 0 < ori (pat l 0) (pat l b) (pat l c) by omega) hz ho hd
theorem pat_near (l : List Pt) (hn : nearAll l) (i : Nat) : (pat l i).near := hn i
theorem stepx (l : List Pt) (b c : Nat) (hn : nearAll l) (h9 : l.length ≤ 5000) (hbc : b < c) (hcl : c < l.length) (hd : ∀ i j, i < l.length → j < l.length → i ≠ j → pat l i ≠ pat l j) (v : Nat) (hv : v + 1 ≤ l.length) (hb : ¬ base b c v) (ih : Good (cf l b c) (Sv b c v) (Ms l b c v).1 (4 + v * (l.length + 1))) :
  ∃ M', InsGood (Ms l b c v).1 v (iat (Ms l b c v).1.at_ (Ms l b c v).2) M' ∧ Good (cf l b c) (Sv b c (v + 1)) M' (4 + (v + 1) * (l.length + 1)) := by
 have hb5 : v * (l.length + 1) ≤ 5000 * 5001 := Nat.mul_le_mul (by omega) (by omega)
 obtain ⟨M', h1, h2⟩ := Gw.ins_good (cf_ok l b c hn (pat_near l hn)) ih (new l b c v (by omega) hb (by omega) hcl hd) (show l.length ≤ 1000000 by omega) (show 4 + v * (l.length + 1) + l.length + 1 ≤ 100000000 by omega) (iat (Ms l b c v).1.at_ (Ms l b c v).2)
 rw [Sv_next] at h2
 refine ⟨M', h1, more h2 (show 4 + v * (l.length + 1) + l.length + 1 ≤ _ from ?_)⟩
 rw [Nat.add_mul]
 omega
section
variable (l : List Pt) (b c : Nat) (hn : nearAll l) (h9 : l.length ≤ 5000) (h0 : 0 < b) (hbc : b < c) (hcl : c < l.length) (hd : ∀ i j, i < l.length → j < l.length → i ≠ j → pat l i ≠ pat l j) (ho : ori (pat l 0) (pat l b) (pat l c) ≠ 0)
include hn h9 h0 hbc hcl hd ho
theorem good_at : ∀ v, v ≤ l.length → Good (cf l b c) (Sv b c v) (Ms l b c v).1 (4 + v * (l.length + 1))
 | 0, _ => start l b c (cf_ok l b c hn (pat_near l hn)) h0 hbc hcl hd ho |> fun g => more g (by omega)
 | v + 1, hv => by
  have ih := good_at v (by omega)
  by_cases hb : base b c v
  ·rw [Sv_base b c v hb]
   show Good _ _ (if base b c v then Ms l b c v else _).1 _
   rw [if_pos hb]
   exact more ih (by have : v * (l.length + 1) ≤ (v + 1) * (l.length + 1) := Nat.mul_le_mul_right _ (by omega)
                     omega)
  ·show Good _ _ (if base b c v then Ms l b c v else _).1 _
   rw [if_neg hb]
   exact (Classical.epsilon_spec (stepx l b c hn h9 hbc hcl hd v hv hb ih)).2
/-- Build's chain of meshes. -/
theorem grown : Grown l b c (fun v => (Ms l b c v).1) (fun v => (Ms l b c v).2) where
 m0 := rfl
 l0 := rfl
 same v _ hb := by
  show (if base b c v then Ms l b c v else _).1 = _ ∧ (if base b c v then Ms l b c v else _).2 = _
  rw [if_pos (show base b c v from hb)]
  exact ⟨rfl, rfl⟩
 step v hv hb := by
  have h1 := Classical.epsilon_spec (stepx l b c hn h9 hbc hcl hd v hv hb (good_at l b c hn h9 h0 hbc hcl hd ho v (by omega)))
  show InsGood _ _ _ (if base b c v then Ms l b c v else _).1 ∧ (if base b c v then Ms l b c v else _).2 = v
  rw [if_neg (show ¬ base b c v from hb)]
  exact ⟨h1.1, rfl⟩
 read v hv := by
  have g := good_at l b c hn h9 h0 hbc hcl hd ho v (by omega)
  obtain ⟨t, ht, _⟩ := g.gh
  refine ⟨?_, ?_, ?_⟩
  ·rw [g.del.pts]; show 0 < l.length; omega
  ·have := ht.1; omega
  ·rw [g.atl, g.del.pts]
   show (Ms l b c v).2 < l.length
   have : ∀ u, u ≤ l.length → (Ms l b c u).2 < l.length := fun u => by
    induction u with
    | zero => intro _; show 0 < _; omega
    | succ u ih =>
     intro hu
     show (if base b c u then Ms l b c u else _).2 < _
     split
     ·exact ih (by omega)
     ·show u < _; omega
   exact this v (by omega)
/-- Build's mesh is good, and has all points. -/
theorem built : Good (cf l b c) (fun x : Int => x = -1 ∨ ∃ n : Nat, x = n ∧ n < l.length) (Ms l b c l.length).1 (4 + l.length * (l.length + 1)) := by
 have g := good_at l b c hn h9 h0 hbc hcl hd ho l.length (Nat.le_refl _)
 have e : Sv b c l.length = (fun x : Int => x = -1 ∨ ∃ n : Nat, x = n ∧ n < l.length) := by
  funext x
  apply propext
  unfold Sv Jb.S0
  constructor
  ·rintro ((h | h | h | h) | h)
   ·exact .inl h
   ·exact .inr ⟨0, h, by omega⟩
   ·exact .inr ⟨b, h, by omega⟩
   ·exact .inr ⟨c, h, by omega⟩
   ·exact .inr h
  ·rintro (h | h)
   ·exact .inl (.inl h)
   ·exact .inr h
 rw [e] at g
 exact g
end
end Gx
end Go.Proofs.Ytdihefgleefhmaa
/- Build, of points that aren't on a line: a good mesh. -/
namespace Go.Proofs.Ytdihefgleefhmaa
open Go.RowKit
/-- all so many points. -/
def allS (n : Nat) (x : Int) : Prop := x = -1 ∨ ∃ m : Nat, x = m ∧ m < n
/-- a mesh of all these points. -/
structure Full (T : List Pt) (M : Mesh) : Prop where
 cfg : ∃ (c : Cfg) (n : Nat), c.Ok ∧ c.pts = T ∧ n ≤ 1000 ∧ Good c (allS T.length) M n
 near : nearAll T
 few : T.length ≤ 14
 some : 0 < T.length
namespace Bg
theorem allS_nat (n x : Nat) : allS n x ↔ x < n := by
 unfold allS
 constructor
 ·rintro (h | ⟨m, e, h⟩) <;> omega
 ·exact fun h => .inr ⟨x, rfl, h⟩
section
variable {T : List Pt} {M : Mesh}
theorem pts (h : Full T M) : M.pts = T := by
 obtain ⟨c, n, _, e, _, g⟩ := h.cfg
 exact g.del.pts.trans e
theorem atl (h : Full T M) : M.at_.length = T.length := by
 obtain ⟨c, n, _, e, _, g⟩ := h.cfg
 rw [g.atl, pts h]
theorem tris (h : Full T M) : 0 < M.tris.length := by
 obtain ⟨c, n, _, e, _, g⟩ := h.cfg
 obtain ⟨t, ht, _⟩ := g.gh
 have := ht.1
 omega
theorem ok (h : Full T M) : M.ok := by
 obtain ⟨c, n, hc, e, hn, g⟩ := h.cfg
 have := h.few
 exact Gw.ok hc g (by rw [e]; omega) (by omega)
theorem wf (h : Full T M) : M.wf := by
 obtain ⟨c, n, hc, e, hn, g⟩ := h.cfg
 have := h.some
 exact Gw.wf g (by rw [e]; omega)
theorem sound (h : Full T M) : SoundOk M := by
 obtain ⟨c, n, hc, e, hn, g⟩ := h.cfg
 exact Jc.sound g
theorem area (h : Full T M) : AreaOk M := by
 obtain ⟨c, n, hc, e, hn, g⟩ := h.cfg
 exact Jf.area_ok hc g (by omega)
theorem reads (h : Full T M) {u : World} {b B : Nat} (hm : MeshAt B u b M) : MeshR u b M := hm.read (by rw [pts h]; exact h.some) (tris h) (by rw [atl h]; exact h.some)
theorem sound_any (h : Full T M) (b : Nat) (u : World) (hm : MeshR u b M) : Calls Try.prog 22 #[.pointer (some ⟨b, 0, none⟩)] u fun e w' => e = .returned (.bool true) ∧ Below u.heap.size u w' :=
 Sd.sound_any M b u hm (ok h) (sound h) (fun b' w' h' => Aw.area_any M b' w' h' (ok h) (by rw [pts h]; exact h.some) (tris h) (wf h) (area h))
theorem hull_any (h : Full T M) (b : Nat) (u : World) (hm : MeshR u b M) : Calls Try.prog 26 #[.pointer (some ⟨b, 0, none⟩)] u fun e w' => ∃ v, e = .returned v ∧ w'.ownsRow u.heap.size 3 1 v (hull M).length ((hull M).map (Value.int .i64)) ∧ Below u.heap.size u w' :=
 Hu.hull_any M b u hm (ok h) (by rw [pts h]; exact h.some) (tris h)
theorem hull_in (h : Full T M) : ∀ v ∈ hull M, ∃ n : Nat, v = n ∧ n < T.length := by
 obtain ⟨c, n, hc, e, hn, g⟩ := h.cfg
 obtain ⟨G, k, hb⟩ := Je.border g
 intro v hv
 rw [hb.hull, List.mem_map] at hv
 obtain ⟨i, _, rfl⟩ := hv
 obtain ⟨a1, a2, _⟩ := Jf.hn_at g.del hb i
 exact ⟨_, a1, by rw [← e]; exact a2⟩
theorem at_some (h : Full T M) {i : Nat} (hi : i < T.length) : ∃ t : Nat, iat M.at_ i = t := by
 obtain ⟨c, n, hc, e, hn, g⟩ := h.cfg
 obtain ⟨t, ht, _⟩ := g.at1 i ((allS_nat _ _).2 hi)
 exact ⟨t, ht⟩
/-- a real triangle: its points, and that there is no other one in its circle. -/
theorem real (h : Full T M) {t : Nat} (ht : Mr.realB M t = true) : ∃ i j k : Nat, i < T.length ∧ j < T.length ∧ k < T.length ∧ (tat M.tris t).v0 = i ∧ (tat M.tris t).v1 = j ∧ (tat M.tris t).v2 = k ∧ ∀ m, m < T.length → inc (pat T i) (pat T j) (pat T k) (pat T m) ≤ 0 := by
 obtain ⟨c, n, hc, e, hn, g⟩ := h.cfg
 obtain ⟨f, hf⟩ := Kw.real_of g.del ht
 refine ⟨f 0, f 1, f 2, (allS_nat _ _).1 (hf.s 0 (by omega)), (allS_nat _ _).1 (hf.s 1 (by omega)), (allS_nat _ _).1 (hf.s 2 (by omega)), hf.at_ 0 (by omega), hf.at_ 1 (by omega), hf.at_ 2 (by omega), fun m hm => ?_⟩
 have := Ki.delaunay hc g.del hf.live (hf.at_ 0 (by omega)) (hf.at_ 1 (by omega)) (hf.at_ 2 (by omega)) ((allS_nat _ _).2 hm)
 rw [e] at this
 exact this
end
/-- **Build.** -/
theorem build_full (gg c3 : Nat) (T : List Pt) (hn : nearAll T) (hl : T.length ≤ 14) (hd : ∀ i j, i < T.length → j < T.length → i ≠ j → pat T i ≠ pat T j) (b c : Nat) (hb : baseOf T = some (b, c)) :
  ∃ M, Full T M ∧ ∀ W, PtsAt W gg T → Calls Try.prog 20 #[.slice (some ⟨gg, 0, none⟩) T.length c3] W fun e w' => ∃ mb : Nat, e = .returned (.tuple #[.pointer (some ⟨mb, 0, none⟩), .bool true]) ∧ MeshAt W.heap.size w' mb M ∧ Below W.heap.size W w' := by
 obtain ⟨g1, g2, g3, g4, g5, g6, g7⟩ := (Bp.spec T).1 b c hb
 have hG := Gx.grown T b c hn (by omega) g1 g2 g3 hd g7
 have hgood := Gx.built T b c hn (by omega) g1 g2 g3 hd g7
 have hok := Gx.cf_ok T b c hn (Gx.pat_near T hn)
 refine ⟨(Gx.Ms T b c T.length).1, ⟨⟨_, _, hok, rfl, ?_, hgood⟩, hn, hl, by omega⟩, fun W hP => Bd.build_some gg c3 T W hP hn b c hb (by omega) (by omega) g3 (by omega) g7 _ _ hG⟩
 have : T.length * (T.length + 1) ≤ 14 * 15 := Nat.mul_le_mul (by omega) (by omega)
 omega
end Bg
end Go.Proofs.Ytdihefgleefhmaa
