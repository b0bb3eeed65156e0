/- The border of a good mesh hangs on its points alone. -/
import Derived.Test.YtdihefgleefhmaaEu
import Derived.Test.YtdihefgleefhmaaJa
namespace Go.Proofs.Ytdihefgleefhmaa
namespace Ho
open Ki Po Pc Pe Jf Je Eu
section
variable {c : Cfg} {S : Int → Prop} {M : Mesh} {n : Nat}
/-- all points lie to the left of a line through a point, and another one. -/
def rimB (l : List Pt) (p : Pt) : Prop := p ∈ l ∧ ∃ q ∈ l, q ≠ p ∧ ∀ r ∈ l, 0 ≤ ori p q r
def lamO (a b : Pt) : V4 := ⟨-(b.y - a.y), b.x - a.x, 0, (b.y - a.y) * a.x - (b.x - a.x) * a.y⟩
theorem lamO_real (c : Cfg) (a b : Pt) (y : Nat) : (lamO a b).dot (c.vec y) = ori a b (pat c.pts y) := by
 obtain ⟨e0, e1, e2, e3⟩ := vec_real c y
 unfold V4.dot lamO ori
 simp only
 rw [e0, e1, e2]
 grind
theorem lamO_far (c : Cfg) (a b : Pt) : (lamO a b).dot (c.vec (-1)) = - ori3 a b c.z0 c.z1 c.z2 := by
 obtain ⟨e0, e1, e2, e3⟩ := vec_far c
 unfold V4.dot lamO ori3 ori
 simp only
 rw [e0, e1, e2]
 grind
theorem left (g : Good c S M n) {G : Nat → Nat} {k : Nat} (hb : Border M G k) (x : Nat) (sx : S x) (j : Nat) (sj : S j) (hj : j ≠ x) (hl : ∀ y : Nat, S y → 0 ≤ ori (pat c.pts x) (pat c.pts j) (pat c.pts y)) : ∃ i, i < k ∧ M.l2 (-1) (G i) = x := by
 have h := g.del
 have hD := Kg.alt c
 obtain ⟨t, _, ht⟩ := g.at1 x sx
 have hxj : pat c.pts x ≠ pat c.pts j := h.dist x j sx sj (fun e => hj e.symm)
 have hF : Fnl c.D x (fun y => - (lamO (pat c.pts x) (pat c.pts j)).dot (c.vec y)) := by
  refine Fnl.neg fun a d y p => ?_
  have := Kh.det4_fn (lamO (pat c.pts x) (pat c.pts j)) (c.vec x) (c.vec a) (c.vec d) (c.vec y) (c.vec p)
  rw [lamO_real, (ori_aab _ _).1, Int.zero_mul] at this
  exact this
 have hs : 0 < - (lamO (pat c.pts x) (pat c.pts j)).dot (c.vec (-1)) := by
  rw [lamO_far]
  obtain ⟨i0, i1, i2, s0, s1, s2, e0, e1, e2⟩ := h.z
  have h0 := hl i0 s0
  have h1 := hl i1 s1
  have h2 := hl i2 s2
  rw [e0] at h0
  rw [e1] at h1
  rw [e2] at h2
  unfold ori3
  refine Classical.byContradiction fun hn => ?_
  exact h.flat (flat_of _ _ _ _ _ hxj (by omega) (by omega) (by omega))
 obtain ⟨u, hu, hp⟩ := cone h.poly hD ht hF h.far (by omega) hs
 obtain ⟨_, s1, _⟩ := l_S h.poly hu
 rcases h.nat _ s1 with e | ⟨y, e, _⟩
 ·obtain ⟨i, hi, hpp, hbb, q1, q2, _⟩ := at_place h.poly hu
  have hg : M.w u ((i + 1) % 3) = -1 := by rw [← q1, e]
  obtain ⟨m, hm, hG⟩ := hb.all u ⟨hu.1, (i + 1) % 3, by omega, hg⟩
  refine ⟨m, hm, ?_⟩
  rw [hG, (l_at h hu.1 (i := (i + 1) % 3) (by omega) hg).2, show ((i + 1) % 3 + 2) % 3 = i by omega, hbb]
 ·rw [e] at s1 hp
  have := hl y s1
  rw [lamO_real] at hp
  omega
/-- the border's points. -/
theorem hull_pts (hc : c.Ok) (g : Good c S M n) (hS : ∀ x : Nat, S x ↔ x < c.pts.length) : ((hull M).map fun v => pat c.pts v.toNat).Nodup ∧ ∀ p, p ∈ ((hull M).map fun v => pat c.pts v.toNat) ↔ rimB c.pts p := by
 have h := g.del
 obtain ⟨G, k, hb⟩ := border g
 have hh : ((hull M).map fun v => pat c.pts v.toNat) = (List.range k).map fun i => pat c.pts (hn M G i) := by
  rw [hb.hull, List.map_map]
  rfl
 have hin : ∀ x : Nat, S x → pat c.pts x ∈ c.pts := fun x hx => by
  have hlt := (hS x).1 hx
  have : pat c.pts x = c.pts[x] := by unfold pat; simp [List.getD_eq_getElem?_getD, List.getElem?_eq_getElem hlt]
  rw [this]
  exact List.getElem_mem _
 have hof : ∀ p ∈ c.pts, ∃ x : Nat, S x ∧ pat c.pts x = p := fun p hp => by
  obtain ⟨x, hx, e⟩ := List.getElem_of_mem hp
  refine ⟨x, (hS x).2 hx, ?_⟩
  unfold pat
  simp [List.getD_eq_getElem?_getD, List.getElem?_eq_getElem hx, e]
 rw [hh]
 refine ⟨?_, fun p => ?_⟩
 ·rw [List.nodup_iff_pairwise_ne, List.pairwise_map]
  refine List.pairwise_lt_range.imp_of_mem fun {a b} ha hb' hab e => ?_
  rw [List.mem_range] at ha hb'
  obtain ⟨a1, _, a3⟩ := hn_at h hb a
  obtain ⟨b1, _, b3⟩ := hn_at h hb b
  have e' : hn M G a = hn M G b := Classical.byContradiction fun hne => h.dist _ _ a3 b3 hne e
  rw [e', ← b1] at a1
  exact hb.inj a b hab hb' (un2 h.poly (hb.has a) (hb.has b) a1)
 ·rw [List.mem_map]
  constructor
  ·rintro ⟨i, hi, rfl⟩
   rw [List.mem_range] at hi
   obtain ⟨a1, _, a3⟩ := hn_at h hb i
   obtain ⟨b1, _, b3⟩ := hn_at h hb (i + 1)
   refine ⟨hin _ a3, pat c.pts (hn M G (i + 1)), hin _ b3, h.dist _ _ b3 a3 ?_, fun r hr => ?_⟩
   ·obtain ⟨_, _, _, _, _, m3⟩ := l_S h.poly (hb.has i)
    rw [← hb.next i hi, a1, b1] at m3
    omega
   ·obtain ⟨y, sy, rfl⟩ := hof r hr
    exact turn hc h hb hi sy
  ·rintro ⟨hp, q, hq, hqp, hl⟩
   obtain ⟨x, sx, rfl⟩ := hof p hp
   obtain ⟨j, sj, rfl⟩ := hof q hq
   obtain ⟨i, hi, e⟩ := left g hb x sx j sj (fun e => hqp (by rw [e])) fun y sy => hl _ (hin y sy)
   refine ⟨i, List.mem_range.2 hi, ?_⟩
   have := (hn_at h hb i).1
   rw [e] at this
   rw [show hn M G i = x by omega]
theorem reals (hc : c.Ok) (g : Good c S M n) (hS : ∀ x : Nat, S x ↔ x < c.pts.length) : (realsTo M M.tris.length).length + (hull M).length + 2 = 2 * c.pts.length := by
 have h := g.del
 obtain ⟨G, k, hb⟩ := border g
 have h1 := lives hc g (List.range c.pts.length) List.nodup_range (fun x => by rw [hS, List.mem_range])
 have h2 := (Jd.live_split h).length_eq
 rw [List.length_append] at h2
 have h3 : ((List.range k).map G).Perm (Jc.hasTo M (-1) M.tris.length) := by
  refine (List.perm_ext_iff_of_nodup ?_ ?_).2 fun t => ?_
  ·rw [List.nodup_iff_pairwise_ne, List.pairwise_map]
   refine List.pairwise_lt_range.imp_of_mem fun {a b} _ hb' hab e => ?_
   rw [List.mem_range] at hb'
   exact hb.inj a b hab hb' e
  ·exact List.nodup_range.filter _
  ·rw [List.mem_map, Jc.mem_hasTo]
   constructor
   ·rintro ⟨i, _, rfl⟩
    exact hb.has i
   ·intro ht
    obtain ⟨i, hi, e⟩ := hb.all t ht
    exact ⟨i, List.mem_range.2 hi, e⟩
 have h4 := h3.length_eq
 rw [List.length_map, List.length_range] at h4
 have h5 := (hull_at hb).1
 rw [List.length_range] at h1
 omega
end
end Ho
end Go.Proofs.Ytdihefgleefhmaa
