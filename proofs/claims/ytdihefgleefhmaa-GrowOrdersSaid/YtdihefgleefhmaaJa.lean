/- Insert: from a good mesh to a good mesh of one point more. -/
import Derived.Test.YtdihefgleefhmaaKp
import Derived.Test.YtdihefgleefhmaaNw
namespace Go.Proofs.Ytdihefgleefhmaa
namespace Ja
open Ki Po Pc Pe Ks Kt Kx Kw
section
variable {c : Cfg} {S : Int → Prop} {M M' : Mesh} {v n k : Nat} {cs : List Nat} {F : Nat → Nat × Nat} {m : Nat → Nat}
theorem rim_few (h : Dug c S M v cs F k) : k ≤ c.pts.length + 1 := by
 have hs : ∀ i, S (st M (F i)) := fun i => (rim_S h.del.poly h.cav (h.rim.flag i)).1
 have hb : ∀ i, -1 ≤ st M (F i) ∧ st M (F i) < c.pts.length := fun i => by
  rcases h.del.nat _ (hs i) with e | ⟨n, e, hn⟩
  ·show -1 ≤ M.w (F i).1 (((F i).2 + 1) % 3) ∧ M.w (F i).1 (((F i).2 + 1) % 3) < _
   have e' : M.w (F i).1 (((F i).2 + 1) % 3) = -1 := e
   rw [e']; omega
  ·have e' : M.w (F i).1 (((F i).2 + 1) % 3) = n := e
   show -1 ≤ M.w (F i).1 (((F i).2 + 1) % 3) ∧ M.w (F i).1 (((F i).2 + 1) % 3) < _
   rw [e']; omega
 have := Dq.nodup_len (c.pts.length + 1) ((List.range k).map fun i => (st M (F i) + 1).toNat) (by
  rw [List.nodup_iff_pairwise_ne, List.pairwise_map]
  refine List.pairwise_lt_range.imp_of_mem fun {a b} ha hb' hab e => ?_
  rw [List.mem_range] at hb'
  have h1 := hb a
  have h2 := hb b
  have e' : st M (F a) = st M (F b) := by omega
  have := rim_un1 h.del.poly (Kg.alt c) (apart h.ok h.del h.new) h.cav h.cav (h.rim.flag a) (h.rim.flag b) e'
  exact h.rim.inj a b hab hb' (Prod.ext this.1 this.2)) fun x hx => by
   obtain ⟨i, _, rfl⟩ := List.mem_map.1 hx
   have := hb i
   omega
 simpa using this
theorem st_lt (h : Dug c S M v cs F k) (i : Nat) : st M (F i) < c.pts.length ∧ en M (F i) < c.pts.length := by
 obtain ⟨s1, s2, _⟩ := rim_S h.del.poly h.cav (h.rim.flag i)
 constructor
 ·rcases h.del.nat _ s1 with e | ⟨n, e, hn⟩
  ·have e' : st M (F i) = -1 := e
   rw [e']; omega
  ·have e' : st M (F i) = n := e
   rw [e']; omega
 ·rcases h.del.nat _ s2 with e | ⟨n, e, hn⟩
  ·have e' : en M (F i) = -1 := e
   rw [e']; omega
  ·have e' : en M (F i) = n := e
   rw [e']; omega
theorem good (h : Dug c S M v cs F k) (g : Good c S M n) (hM : Made M M' cs F k v m) : Good c (fun x => S x ∨ x = v) M' (n + c.pts.length + 1) where
 del := Ku.del h hM
 plain t ht j hj := by
  rcases (live_iff h hM t).1 ht with hk | ⟨i, hi, rfl⟩
  ·rcases hM.oldf t hk j hj with e | e
   ·exact e
   ·rw [e]; exact g.plain t hk.1 j hj
  ·rw [hM.tri i hi]
   rcases (show j = 0 ∨ j = 1 ∨ j = 2 by omega) with rfl | rfl | rfl <;> rfl
 free := hM.free
 fnod := hM.fnod
 dead x hx he := by
  rcases hM.rest x hx with h' | ⟨i, hi, rfl⟩ | h'
  ·have : (tat M'.tris x).v0 = (tat M.tris x).v0 := hM.oldv x h' 0
   rw [this] at he
   exact absurd he h'.1.2
  ·have : (tat M'.tris (m i)).v0 = st M (F i) := (w_new hM hi).1
   rw [this] at he
   exact absurd he (not_m2 h.del (rim_S h.del.poly h.cav (h.rim.flag i)).1)
  ·exact h'
 atl := by rw [hM.atl, hM.pts]; exact g.atl
 at1 x hx := by
  by_cases ht : ∃ i, i < k ∧ touch M F v i x
  ·obtain ⟨i, hi, ht⟩ := ht
   have hxl : x < M.at_.length := by
    rw [g.atl, g.del.pts]
    rcases hx with hx | hx
    ·rcases g.del.nat x hx with e | ⟨y, e, hy⟩ <;> omega
    ·have := h.new.lt; omega
   obtain ⟨i', a1, a2, a3⟩ := hM.at2 x hxl i hi ht
   obtain ⟨w0, w1, w2⟩ := w_new hM a1
   refine ⟨m i', a3, (live_iff h hM _).2 (.inr ⟨i', a1, rfl⟩), ?_⟩
   rcases a2 with e | e | e
   ·exact ⟨0, by omega, w0.trans e⟩
   ·exact ⟨1, by omega, w1.trans e⟩
   ·exact ⟨2, by omega, by rw [w2, e]⟩
  ·have hno : ∀ i, i < k → ¬ touch M F v i x := fun i hi h' => ht ⟨i, hi, h'⟩
   have hS : S x := by
    rcases hx with hx | hx
    ·exact hx
    ·exact absurd (.inr (.inr (by omega))) (hno 0 h.rim.pos)
   obtain ⟨t, e, hl, i, hi, hw⟩ := g.at1 x hS
   have hk : M.kept cs t := ⟨hl, fun hc => by
    obtain ⟨⟨u, j, hr, hst⟩, _⟩ := rim_at h.del.poly (Kg.alt c) (apart h.ok h.del h.new) h.cav (b := x) ⟨hl, i, hi, hw⟩ hc
    obtain ⟨i', hi', hF⟩ := h.rim.all u j hr
    exact hno i' hi' (.inl (by rw [hF]; exact hst))⟩
   exact ⟨t, by rw [hM.at1 x hno]; exact e, (live_iff h hM t).2 (.inl hk), i, hi, by rw [w_old hM hk]; exact hw⟩
 at0 x hx hS := by
  rw [hM.at1 x fun i hi ht => ?_]
  ·exact g.at0 x (by rw [← hM.pts]; exact hx) fun h' => hS (.inl h')
  ·obtain ⟨s1, s2, _⟩ := rim_S h.del.poly h.cav (h.rim.flag i)
   rcases ht with e | e | e
   ·exact hS (.inl (by rw [← e]; exact s1))
   ·exact hS (.inl (by rw [← e]; exact s2))
   ·exact hS (.inr (by omega))
 few := by
  have := hM.grow
  have := rim_few h
  have := g.few
  omega
 gh := by
  obtain ⟨t, hl, i, hi, hw⟩ := g.gh
  by_cases hc : t ∈ cs
  ·obtain ⟨⟨u, j, hr, hst⟩, _⟩ := rim_at h.del.poly (Kg.alt c) (apart h.ok h.del h.new) h.cav (b := -1) ⟨hl, i, hi, hw⟩ hc
   obtain ⟨i', hi', hF⟩ := h.rim.all u j hr
   obtain ⟨w0, w1, w2⟩ := w_new hM hi'
   exact ⟨m i', (live_iff h hM _).2 (.inr ⟨i', hi', rfl⟩), 0, by omega, w0.trans (by rw [hF]; exact hst)⟩
  ·have hk : M.kept cs t := ⟨hl, hc⟩
   exact ⟨t, (live_iff h hM t).2 (.inl hk), i, hi, by rw [w_old hM hk]; exact hw⟩
theorem fill_ok (h : Dug c S M v cs F k) (g : Good c S M n) (hn : n + c.pts.length + 1 ≤ 100000000) (hcn : cs.Nodup) (cv : Cavity) (hcs : cv.tris = cs) (hlen : cv.rim.length = k) (hr : ∀ i, i < k → cv.rim.getD i Side.zero = sd M (F i)) :
  FillOk M v cv (fun _ => false) ∧ Made M (linkN (makeN v (dropN M cs cs.length) cv.rim k).2 (fun _ => false) cv.rim (makeN v (dropN M cs cs.length) cv.rim k).1 k) cs F k v (fun i => (makeN v (dropN M cs cs.length) cv.rim k).2.getD i 0) := by
 have hin := fillIn h hcn g.free g.fnod g.dead
 have hfill := fun j hj => Kq.fill (v := v) hin hr j hj
 have h2 := two h
 have hk := rim_few h
 have hfew := g.few
 have hcl : cs.length ≤ M.tris.length := Dq.nodup_len _ _ hcn fun t ht => (h.cav.sub t ht).1.1
 have hfl : M.free.length ≤ M.tris.length := Dq.nodup_len _ _ g.fnod fun t ht => (g.free t ht).1
 have hpl : c.pts.length = M.at_.length := by rw [g.atl, g.del.pts]
 have hvl := h.new.lt
 refine ⟨⟨fun t ht => (h.cav.sub t (hcs ▸ ht)).1.1, by rw [hcs]; omega, by rw [hlen]; omega, by rw [hlen]; omega, fun j hj => ?_, fun j hj => ?_⟩, Kr.made h2 (hfill k (Nat.le_refl _)) hin _⟩
 ·rw [hlen] at hj
  rw [hcs, hr j hj]
  have hA := hfill j (by omega)
  obtain ⟨A, hAe⟩ : ∃ A, makeN v (dropN M cs cs.length) cv.rim j = A := ⟨_, rfl⟩
  rw [hAe] at hA ⊢
  obtain ⟨m1, m2, m3, m4, m5, m6, m7, m8, m9, m10⟩ := Kp.made_at A.1 (Tri.new (st M (F j)) (en M (F j)) v) (fun n hn => (hA.free n hn).1) hA.fnod
  have hfl' : A.1.free.length ≤ A.1.tris.length := Dq.nodup_len _ _ hA.fnod fun t ht => (hA.free t ht).1
  have hgr := hA.grow
  have hle := hA.len
  obtain ⟨l1, l2⟩ := st_lt h j
  obtain ⟨o1, o2, o3, o4⟩ := hin.out j hj
  have hml : (A.1.made (Tri.new (st M (F j)) (en M (F j)) v)).1.tris.length ≤ A.1.tris.length + 1 := by
   rcases Nat.lt_or_ge (A.1.tris.length + 1) (A.1.made (Tri.new (st M (F j)) (en M (F j)) v)).1.tris.length with h' | h'
   ·have x1 := m8 A.1.tris.length (Nat.le_refl _) (by omega)
    have x2 := m8 (A.1.tris.length + 1) (by omega) h'
    omega
   ·exact h'
  have hatl := hA.atl
  have e3 : (sd M (F j)).out = M.out (F j) := o1
  have e4 : (sd M (F j)).i = M.ix (F j) := by
   show nidx (tat M.tris ((tat M.tris (F j).1).n (F j).2).toNat) (F j).1 = _
   rw [← o3]; rfl
  have hol := o2.1.1
  refine ⟨⟨by omega, by omega, fun n hn => (hA.free n hn).1⟩, ⟨by show st M (F j) < _; omega, by show en M (F j) < _; omega, by omega⟩, ?_, ?_, ?_, ?_, ?_, ?_⟩
  ·exact m1
  ·show (A.1.made (Tri.new (st M (F j)) (en M (F j)) v)).1.tris.length ≤ _
   omega
  ·rw [e3]; omega
  ·rw [e3]
   show M.out (F j) < (A.1.made (Tri.new (st M (F j)) (en M (F j)) v)).1.tris.length
   omega
  ·rw [e4]; omega
  ·rw [e4]; simpa using o4
 ·rw [hlen] at hj
  dsimp only
  rw [hcs, hlen]
  have hA := hfill k (Nat.le_refl _)
  obtain ⟨A, hAe⟩ : ∃ A, makeN v (dropN M cs cs.length) cv.rim k = A := ⟨_, rfl⟩
  rw [hAe] at hA ⊢
  have hL := Kr.linked h2 hA.msl hA.nod (fun y hy => (hA.lt y hy).1) (fun i hi l hl => by
   rw [hA.tri i hi]
   rcases (show l = 0 ∨ l = 1 ∨ l = 2 by omega) with rfl | rfl | rfl <;> rfl) cv.rim j (by omega)
  have hgr := hA.grow
  have hm : ∀ i, i < k → A.2.getD i 0 ∈ A.2 := fun i hi => Kq.getD_mem (by have := hA.msl; omega)
  unfold LinkOk
  rw [hL.len, hA.msl]
  exact ⟨(hA.lt _ (hm j hj)).1, (hA.lt _ (hm _ (Nat.mod_lt _ (by omega)))).1, by omega⟩
/-- Insert, from wherever one goes. -/
theorem step (hc : c.Ok) (g : Good c S M n) (hv : New c S v) (hn : n + c.pts.length + 1 ≤ 100000000) (fr : Int) :
  ∃ (t0 : Nat) (q : Place) (i : Nat), (if Mr.realB M fr = true then fr else Fi.firstReal M) = t0 ∧ Mr.realB M t0 = true ∧ findGo M (pat M.pts v) (M.tris.length + 1) t0 0 = some (q, i) ∧ q.kind ≠ 2 ∧ (∃ t : Nat, q.tri = t ∧ M.live t) ∧
   (q.kind = 1 → ∃ (t : Nat) (f : Nat → Nat) (j : Nat), Real c S M t f ∧ j < 3 ∧ q = ⟨1, t, min (f ((j + 1) % 3) : Int) (f ((j + 2) % 3)), max (f ((j + 1) % 3) : Int) (f ((j + 2) % 3))⟩) ∧
   FillOk M v (dig M (pat M.pts v) q) (fun _ => false) ∧ Good c (fun x => S x ∨ x = v) (insertIn M v q fun _ => false) (n + c.pts.length + 1) := by
 have hst : ∃ t0 : Nat, (if Mr.realB M fr = true then fr else Fi.firstReal M) = t0 ∧ Mr.realB M t0 = true := by
  by_cases hr : Mr.realB M fr = true
  ·rw [if_pos hr]
   have : 0 ≤ fr := by
    unfold Mr.realB at hr
    simp only [Bool.and_eq_true, decide_eq_true_eq] at hr
    omega
   refine ⟨fr.toNat, by omega, ?_⟩
   rw [show ((fr.toNat : Nat) : Int) = fr by omega]
   exact hr
  ·rw [if_neg hr]
   obtain ⟨z, _, _, sz, _⟩ := g.del.z
   obtain ⟨t, _, hl, _⟩ := g.at1 z sz
   obtain ⟨u, hu⟩ := Kz.ex_real g.del hl
   exact Kz.first_real hu
 obtain ⟨t0, e0, hr0⟩ := hst
 obtain ⟨q, i, hf, hfo⟩ := find_some hc g.del (v := v) (M.tris.length + 1) t0 0 [] hr0 List.nodup_nil (fun u hu => by simp at hu) (by simp)
 obtain ⟨s1, s2, s3, s4, s5, s6⟩ := Kz.start_ok hc g.del hv hfo
 obtain ⟨F, k, hD, hcn, hlen, hrim⟩ := Kv.dug hc g.del hv g.plain q s3 s4 s5
 rw [← g.del.pts] at hf hD hcn hlen hrim
 obtain ⟨f1, f2⟩ := fill_ok hD g hn hcn (dig M (pat M.pts v) q) rfl hlen hrim
 refine ⟨t0, q, i, e0, hr0, hf, s1, s2, s6, f1, ?_⟩
 have := good hD g f2
 unfold insertIn
 dsimp only
 rw [hlen]
 exact this
end
end Ja
end Go.Proofs.Ytdihefgleefhmaa
/- The first triangle, and its ghosts: a good mesh. -/
namespace Go.Proofs.Ytdihefgleefhmaa
namespace Jb
open Ki Po
def at0 (l : List Pt) (a b c : Nat) : List Int := setAt (setAt (setAt (setAt (setAt (setAt (setAt (setAt (setAt (setAt (setAt (setAt (Mesh.empty l).at_ a 0) b 0) c 0) c 1) b 1) (-1) 1) a 2) c 2) (-1) 2) b 3) a 3) (-1) 3
def N0 (l : List Pt) (a b c : Nat) : Mesh := ⟨l, [⟨a, b, c, 1, 2, 3, false, false, false⟩, ⟨c, b, -1, 3, 2, 0, false, false, false⟩, ⟨a, c, -1, 1, 3, 0, false, false, false⟩, ⟨b, a, -1, 2, 1, 0, false, false, false⟩], [], at0 l a b c⟩
theorem new_eq (l : List Pt) (a b c : Nat) : newOf l a b c = N0 l a b c := by
 unfold N0 at0
 simp [newOf, ghostN, ringN, Mesh.make, Mesh.made, Mesh.link, Mesh.setTri, tat, Tri.new, Tri.setN, Tri.setF, tri3, Mesh.empty]
theorem at0_at (l : List Pt) (a b c x : Nat) (hab : a ≠ b) (hac : a ≠ c) (hbc : b ≠ c) (hx : x < l.length) : iat (at0 l a b c) x = if x = a then 3 else if x = b then 3 else if x = c then 2 else -1 := by
 have e0 : iat (Mesh.empty l).at_ x = -1 := by
  unfold Mesh.empty iat
  simp [List.getD_eq_getElem?_getD, hx]
 have hl : (Mesh.empty l).at_.length = l.length := by unfold Mesh.empty; simp
 unfold at0
 simp only [Kp.setAt_at, Kp.setAt_len, hl, hx, and_true, e0]
 by_cases h1 : x = a
 ·subst h1; simp
 ·by_cases h2 : x = b
  ·subst h2
   have : ¬ (a : Int) = x := by omega
   simp [this, h1]
  ·have n1 : ¬ (a : Int) = x := by omega
   have n2 : ¬ (b : Int) = x := by omega
   by_cases h3 : x = c
   ·subst h3
    simp [n1, n2, h1, h2]
   ·have n3 : ¬ (c : Int) = x := by omega
    simp [n1, n2, n3, h1, h2, h3]
section
variable {cf : Cfg} {a b c : Nat}
def S0 (a b c : Nat) (x : Int) : Prop := x = -1 ∨ x = a ∨ x = b ∨ x = c
theorem live4 (t : Nat) (ht : (N0 cf.pts a b c).live t) : t = 0 ∨ t = 1 ∨ t = 2 ∨ t = 3 := by
 have : t < 4 := ht.1
 omega
theorem w4 : (∀ j, (N0 cf.pts a b c).w 0 j = tri3 a b c j) ∧ (∀ j, (N0 cf.pts a b c).w 1 j = tri3 c b (-1) j) ∧ (∀ j, (N0 cf.pts a b c).w 2 j = tri3 a c (-1) j) ∧ (∀ j, (N0 cf.pts a b c).w 3 j = tri3 b a (-1) j) := by
 refine ⟨fun j => ?_, fun j => ?_, fun j => ?_, fun j => ?_⟩ <;> rcases j with _ | _ | j <;> rfl
set_option maxHeartbeats 4000000 in
theorem poly0 (hc : cf.Ok) (hab : a ≠ b) (hac : a ≠ c) (hbc : b ≠ c) (ho : 0 < ori (pat cf.pts a) (pat cf.pts b) (pat cf.pts c)) : Poly cf.D (S0 a b c) (N0 cf.pts a b c) where
 vs t ht j hj := by
  obtain ⟨w0, w1, w2, w3⟩ := @w4 cf a b c
  unfold S0
  rcases live4 t ht with rfl | rfl | rfl | rfl
  ·rw [w0]; rcases (show j = 0 ∨ j = 1 ∨ j = 2 by omega) with rfl | rfl | rfl <;> simp [tri3]
  ·rw [w1]; rcases (show j = 0 ∨ j = 1 ∨ j = 2 by omega) with rfl | rfl | rfl <;> simp [tri3]
  ·rw [w2]; rcases (show j = 0 ∨ j = 1 ∨ j = 2 by omega) with rfl | rfl | rfl <;> simp [tri3]
  ·rw [w3]; rcases (show j = 0 ∨ j = 1 ∨ j = 2 by omega) with rfl | rfl | rfl <;> simp [tri3]
 ne t ht := by
  obtain ⟨w0, w1, w2, w3⟩ := @w4 cf a b c
  rcases live4 t ht with rfl | rfl | rfl | rfl
  ·simp only [w0, tri3]; omega
  ·simp only [w1, tri3]; omega
  ·simp only [w2, tri3]; omega
  ·simp only [w3, tri3]; omega
 nb t ht j hj := by
  have lv : ∀ u, u < 4 → (N0 cf.pts a b c).live u := fun u hu => by
   refine ⟨hu, ?_⟩
   rcases (show u = 0 ∨ u = 1 ∨ u = 2 ∨ u = 3 by omega) with rfl | rfl | rfl | rfl
   ·show (a : Int) ≠ -2; omega
   ·show (c : Int) ≠ -2; omega
   ·show (a : Int) ≠ -2; omega
   ·show (b : Int) ≠ -2; omega
  rcases live4 t ht with rfl | rfl | rfl | rfl <;> rcases (show j = 0 ∨ j = 1 ∨ j = 2 by omega) with rfl | rfl | rfl
  ·exact ⟨1, 2, rfl, lv 1 (by omega), by omega, rfl, rfl, rfl⟩
  ·exact ⟨2, 2, rfl, lv 2 (by omega), by omega, rfl, rfl, rfl⟩
  ·exact ⟨3, 2, rfl, lv 3 (by omega), by omega, rfl, rfl, rfl⟩
  ·exact ⟨3, 1, rfl, lv 3 (by omega), by omega, rfl, rfl, rfl⟩
  ·exact ⟨2, 0, rfl, lv 2 (by omega), by omega, rfl, rfl, rfl⟩
  ·exact ⟨0, 0, rfl, lv 0 (by omega), by omega, rfl, rfl, rfl⟩
  ·exact ⟨1, 1, rfl, lv 1 (by omega), by omega, rfl, rfl, rfl⟩
  ·exact ⟨3, 0, rfl, lv 3 (by omega), by omega, rfl, rfl, rfl⟩
  ·exact ⟨0, 1, rfl, lv 0 (by omega), by omega, rfl, rfl, rfl⟩
  ·exact ⟨2, 1, rfl, lv 2 (by omega), by omega, rfl, rfl, rfl⟩
  ·exact ⟨1, 0, rfl, lv 1 (by omega), by omega, rfl, rfl, rfl⟩
  ·exact ⟨0, 2, rfl, lv 0 (by omega), by omega, rfl, rfl, rfl⟩
 un t u ht hu j l hj hl e1 e2 := by
  obtain ⟨w0, w1, w2, w3⟩ := @w4 cf a b c
  rcases live4 t ht with rfl | rfl | rfl | rfl <;> rcases live4 u hu with rfl | rfl | rfl | rfl <;> rcases (show j = 0 ∨ j = 1 ∨ j = 2 by omega) with rfl | rfl | rfl <;> rcases (show l = 0 ∨ l = 1 ∨ l = 2 by omega) with rfl | rfl | rfl <;>
   simp only [w0, w1, w2, w3, Nat.reduceAdd, Nat.reduceMod, tri3] at e1 e2 <;> omega
 emp t ht x hx h0 h1 h2 := by
  obtain ⟨w0, w1, w2, w3⟩ := @w4 cf a b c
  have hD := Kg.alt cf
  have r1 : ori (pat cf.pts c) (pat cf.pts b) (pat cf.pts a) < 0 := by
   have : ori (pat cf.pts c) (pat cf.pts b) (pat cf.pts a) = - ori (pat cf.pts a) (pat cf.pts b) (pat cf.pts c) := by unfold ori; grind
   omega
  have r2 : ori (pat cf.pts a) (pat cf.pts c) (pat cf.pts b) < 0 := by
   have : ori (pat cf.pts a) (pat cf.pts c) (pat cf.pts b) = - ori (pat cf.pts a) (pat cf.pts b) (pat cf.pts c) := by unfold ori; grind
   omega
  have r3 : ori (pat cf.pts b) (pat cf.pts a) (pat cf.pts c) < 0 := by
   have : ori (pat cf.pts b) (pat cf.pts a) (pat cf.pts c) = - ori (pat cf.pts a) (pat cf.pts b) (pat cf.pts c) := by unfold ori; grind
   omega
  rcases live4 t ht with rfl | rfl | rfl | rfl
  ·simp only [w0, tri3] at h0 h1 h2 ⊢
   have : x = -1 := by unfold S0 at hx; omega
   subst this
   have := (Kg.far_sign hc a b c).1 ho
   have := hD.s3 (a : Int) b (-1) c
   omega
  ·simp only [w1, tri3] at h0 h1 h2 ⊢
   have : x = a := by unfold S0 at hx; omega
   subst this
   exact (Kg.far_sign hc c b a).2 r1
  ·simp only [w2, tri3] at h0 h1 h2 ⊢
   have : x = b := by unfold S0 at hx; omega
   subst this
   exact (Kg.far_sign hc a c b).2 r2
  ·simp only [w3, tri3] at h0 h1 h2 ⊢
   have : x = c := by unfold S0 at hx; omega
   subst this
   exact (Kg.far_sign hc b a c).2 r3
theorem good0 (hc : cf.Ok) (ha : a < cf.pts.length) (hb : b < cf.pts.length) (hcl : c < cf.pts.length) (hab : a ≠ b) (hac : a ≠ c) (hbc : b ≠ c) (ho : 0 < ori (pat cf.pts a) (pat cf.pts b) (pat cf.pts c))
  (hz : ∃ i j k : Nat, S0 a b c i ∧ S0 a b c j ∧ S0 a b c k ∧ pat cf.pts i = cf.z0 ∧ pat cf.pts j = cf.z1 ∧ pat cf.pts k = cf.z2) (hf : ori cf.z0 cf.z1 cf.z2 ≠ 0) (hd : ∀ i j, i < cf.pts.length → j < cf.pts.length → i ≠ j → pat cf.pts i ≠ pat cf.pts j) :
  Good cf (S0 a b c) (N0 cf.pts a b c) 4 where
 del := {
  poly := poly0 hc hab hac hbc ho
  pts := rfl
  far := .inl rfl
  nat := fun x hx => by
   rcases hx with rfl | rfl | rfl | rfl
   ·exact .inl rfl
   ·exact .inr ⟨a, rfl, ha⟩
   ·exact .inr ⟨b, rfl, hb⟩
   ·exact .inr ⟨c, rfl, hcl⟩
  z := hz
  flat := hf
  real := fun t ht i j k hi hj hk => by
   obtain ⟨w0, w1, w2, w3⟩ := @w4 cf a b c
   rcases live4 t ht with rfl | rfl | rfl | rfl
   ·simp only [w0, tri3] at hi hj hk
    have e1 : i = a := by omega
    have e2 : j = b := by omega
    have e3 : k = c := by omega
    rw [e1, e2, e3]
    exact ho
   ·simp only [w1, tri3] at hk; omega
   ·simp only [w2, tri3] at hk; omega
   ·simp only [w3, tri3] at hk; omega
  dist := fun i j hi hj hij => by
   have li : i < cf.pts.length := by rcases hi with e | e | e | e <;> omega
   have lj : j < cf.pts.length := by rcases hj with e | e | e | e <;> omega
   exact hd i j li lj hij }
 plain t ht j hj := by
  rcases live4 t ht with rfl | rfl | rfl | rfl <;> rcases (show j = 0 ∨ j = 1 ∨ j = 2 by omega) with rfl | rfl | rfl <;> rfl
 free n hn := absurd hn List.not_mem_nil
 fnod := List.nodup_nil
 dead x hx he := by
  have hx : x < 4 := hx
  rcases (show x = 0 ∨ x = 1 ∨ x = 2 ∨ x = 3 by omega) with rfl | rfl | rfl | rfl
  ·have : (a : Int) = -2 := he; omega
  ·have : (c : Int) = -2 := he; omega
  ·have : (a : Int) = -2 := he; omega
  ·have : (b : Int) = -2 := he; omega
 atl := by
  show (at0 cf.pts a b c).length = cf.pts.length
  unfold at0
  simp only [Kp.setAt_len]
  unfold Mesh.empty
  simp
 at1 x hx := by
  have hx' : x = a ∨ x = b ∨ x = c := by unfold S0 at hx; omega
  have hxl : x < cf.pts.length := by omega
  have lv : ∀ u, u < 4 → (N0 cf.pts a b c).live u := fun u hu => by
   refine ⟨hu, ?_⟩
   rcases (show u = 0 ∨ u = 1 ∨ u = 2 ∨ u = 3 by omega) with rfl | rfl | rfl | rfl
   ·show (a : Int) ≠ -2; omega
   ·show (c : Int) ≠ -2; omega
   ·show (a : Int) ≠ -2; omega
   ·show (b : Int) ≠ -2; omega
  have e : iat (N0 cf.pts a b c).at_ x = if x = a then 3 else if x = b then 3 else if x = c then 2 else -1 := by exact at0_at _ _ _ _ _ hab hac hbc hxl
  rw [e]
  rcases hx' with rfl | rfl | rfl
  ·exact ⟨3, by simp, lv 3 (by omega), 1, by omega, rfl⟩
  ·exact ⟨3, by simp, lv 3 (by omega), 0, by omega, rfl⟩
  ·exact ⟨2, by rw [if_neg (by omega), if_neg (by omega), if_pos rfl]; rfl, lv 2 (by omega), 1, by omega, rfl⟩
 at0 x hx hS := by
  have hxl : x < cf.pts.length := hx
  have e : iat (N0 cf.pts a b c).at_ x = if x = a then 3 else if x = b then 3 else if x = c then 2 else -1 := by exact at0_at _ _ _ _ _ hab hac hbc hxl
  unfold S0 at hS
  rw [e, if_neg (by omega), if_neg (by omega), if_neg (by omega)]
 few := Nat.le_refl 4
 gh := ⟨1, ⟨show 1 < 4 by omega, show (c : Int) ≠ -2 by omega⟩, 2, by omega, rfl⟩
end
end Jb
end Go.Proofs.Ytdihefgleefhmaa
