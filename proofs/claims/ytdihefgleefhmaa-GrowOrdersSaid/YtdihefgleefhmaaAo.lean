/- Round a point of a surface, and the edge that is looked for. -/
import Derived.Test.YtdihefgleefhmaaKp
import Derived.Test.YtdihefgleefhmaaMf
namespace Go.Proofs.Ytdihefgleefhmaa
open Go.RowKit
namespace Ao
open Po Pc Pe Kz Kw Ki Kx Ks Kt
section
variable {D : Int → Int → Int → Int → Int} {S : Int → Prop} {M : Mesh}
/-- the triangles of a star, as a list. -/
def starL (M : Mesh) (b : Nat) (ts : Nat → Nat) (i n : Nat) : List (Nat × Nat) := (List.range' i n).map fun i => (ts i, (Mr.place (tat M.tris (ts i)) b).toNat)
theorem go_star {b : Nat} {ts : Nat → Nat} {k : Nat} (st : Star M b ts k) : ∀ n i, i + (n + 1) = k → aroundGo M b (ts 0) (n + 1) (ts i) = some (starL M b ts i (n + 1)) := by
 intro n
 induction n with
 | zero =>
  intro i hi
  have hlt : i < k := by omega
  have h1 := st.round.lt i hlt
  have h2 := st.round.there i hlt
  have h3 := st.round.next i hlt
  have h4 : ts (i + 1) = ts 0 := by rw [show i + 1 = k by omega]; exact st.round.last
  unfold nextRound at h3
  rw [show ((Mr.place (tat M.tris (ts i)) b + 1) % 3).toNat = ((Mr.place (tat M.tris (ts i)) b).toNat + 1) % 3 by omega] at h3
  unfold aroundGo
  rw [if_pos ⟨h1, h2⟩, if_pos (.inr (by rw [h3, h4]))]
  rfl
 | succ n ih =>
  intro i hi
  have hlt : i < k := by omega
  have h1 := st.round.lt i hlt
  have h2 := st.round.there i hlt
  have h3 := st.round.next i hlt
  have h4 : ts (i + 1) ≠ ts 0 := st.round.apart (i + 1) (by omega) (by omega)
  unfold nextRound at h3
  rw [show ((Mr.place (tat M.tris (ts i)) b + 1) % 3).toNat = ((Mr.place (tat M.tris (ts i)) b).toNat + 1) % 3 by omega] at h3
  unfold aroundGo
  rw [if_pos ⟨h1, h2⟩, if_neg (by rw [h3]; omega), h3, Int.toNat_natCast, ih (i + 1) (by omega)]
  rfl
theorem around_star {b : Nat} {ts : Nat → Nat} {k : Nat} (st : Star M b ts k) (h : iat M.at_ b = ts 0) : around M k b = some (starL M b ts 0 k) := by
 unfold around
 rw [h, if_neg (by omega), Int.toNat_natCast]
 obtain ⟨n, rfl⟩ : ∃ n, k = n + 1 := ⟨k - 1, by have := st.round.pos; omega⟩
 exact go_star st n 0 (by omega)
theorem mem_star {b : Nat} {ts : Nat → Nat} {k : Nat} {x : Nat × Nat} : x ∈ starL M b ts 0 k ↔ ∃ i, i < k ∧ x = (ts i, (Mr.place (tat M.tris (ts i)) b).toNat) := by
 unfold starL
 simp only [List.mem_map, List.mem_range'_1]
 constructor
 ·rintro ⟨i, hi, rfl⟩
  exact ⟨i, by omega, rfl⟩
 ·rintro ⟨i, hi, rfl⟩
  exact ⟨i, by omega, rfl⟩
theorem edge_none {a c : Int} : ∀ {xs : List (Nat × Nat)}, edgeOf M a c xs = none → ∀ x ∈ xs, edgeIn (tat M.tris x.1) a c = none
 | [], _, x, hx => by cases hx
 | y :: ys, h, x, hx => by
  unfold edgeOf at h
  cases hy : edgeIn (tat M.tris y.1) a c with
  | some k => rw [hy] at h; cases h
  | none =>
   rw [hy] at h
   rcases List.mem_cons.1 hx with rfl | hx
   ·exact hy
   ·exact edge_none h x hx
theorem edge_some {a c : Int} {t k : Nat} : ∀ {xs : List (Nat × Nat)}, edgeOf M a c xs = some (t, k) → k < 3 ∧ ∃ x ∈ xs, x.1 = t
 | [], h => by cases h
 | y :: ys, h => by
  unfold edgeOf at h
  cases hy : edgeIn (tat M.tris y.1) a c with
  | some k' =>
   rw [hy] at h
   simp only [Option.some.injEq, Prod.mk.injEq] at h
   obtain ⟨h1, rfl⟩ := h
   refine ⟨?_, y, by simp, h1⟩
   unfold edgeIn at hy
   repeat' split at hy
   all_goals first | (cases hy; omega) | cases hy
  | none =>
   rw [hy] at h
   obtain ⟨h1, x, hx, h2⟩ := edge_some h
   exact ⟨h1, x, List.mem_cons_of_mem _ hx, h2⟩
theorem edge_in {t : Tri} {a c : Int} {j : Nat} (hj : j < 3) (ha : t.v ((j + 1) % 3) = a) (hc : t.v ((j + 2) % 3) = c) : edgeIn t a c ≠ none := by
 have : edgeIs t a c j = true := by unfold edgeIs; simp [ha, hc]
 unfold edgeIn
 rcases (show j = 0 ∨ j = 1 ∨ j = 2 by omega) with rfl | rfl | rfl
 ·rw [if_pos this]; simp
 ·split
  ·simp
  ·simp
 ·split
  ·simp
  ·split
   ·simp
   ·simp
end
section
variable {c : Cfg} {S : Int → Prop} {M : Mesh} {n : Nat}
/-- the loop round the greater end of a real triangle's edge finds the edge. -/
theorem find_edge (g : Good c S M n) {t : Nat} {f : Nat → Nat} (hr : Real c S M t f) {j : Nat} (hj : j < 3) :
  ∃ (v : Nat) (k : Nat) (xs : List (Nat × Nat)) (u i : Nat), max (f ((j + 1) % 3) : Int) (f ((j + 2) % 3)) = v ∧ v < M.at_.length ∧ around M k v = some xs ∧
   edgeOf M (min (f ((j + 1) % 3) : Int) (f ((j + 2) % 3))) (max (f ((j + 1) % 3) : Int) (f ((j + 2) % 3))) xs = some (u, i) ∧ u < M.tris.length ∧ i < 3 ∧ (tat M.tris u).f i = false ∧ (min (f ((j + 1) % 3) : Int) (f ((j + 2) % 3)) == max (f ((j + 1) % 3) : Int) (f ((j + 2) % 3))) = false := by
 obtain ⟨n1, n2, n3⟩ := real_inj g.del hr hj
 have sa := hr.s ((j + 1) % 3) (by omega)
 have sb := hr.s ((j + 2) % 3) (by omega)
 have wa := hr.at_ ((j + 1) % 3) (by omega)
 have wb := hr.at_ ((j + 2) % 3) (by omega)
 obtain ⟨t2, k2, e1, e2, e3, e4, e5, e6⟩ := g.del.poly.nb t hr.live j hj
 generalize f ((j + 1) % 3) = a at *
 generalize f ((j + 2) % 3) = b at *
 obtain ⟨v, hv⟩ : ∃ v : Nat, max (a : Int) b = v := ⟨max a b, by omega⟩
 have sv : S v := by
  rcases (show (v : Int) = a ∨ (v : Int) = b by omega) with e | e
  ·rw [e]; exact sa
  ·rw [e]; exact sb
 obtain ⟨t0, h0, hh⟩ := g.at1 v sv
 obtain ⟨ts, k, st, hts⟩ := star g.del.poly (Kg.alt c) hh
 have hvl : v < M.at_.length := by
  rcases g.del.nat v sv with h | ⟨m, h, hm⟩
  ·omega
  ·rw [g.atl, g.del.pts]; omega
 have har := around_star st (by rw [hts]; exact h0)
 have hex : ∃ t' j', j' < 3 ∧ M.has v t' ∧ (tat M.tris t').v ((j' + 1) % 3) = min (a : Int) b ∧ (tat M.tris t').v ((j' + 2) % 3) = max (a : Int) b := by
  by_cases hab : (a : Int) < b
  ·refine ⟨t, j, hj, ⟨hr.live, (j + 2) % 3, by omega, by rw [wb]; omega⟩, ?_, ?_⟩
   ·show M.w t _ = _; rw [wa]; omega
   ·show M.w t _ = _; rw [wb]; omega
  ·refine ⟨t2, k2, e3, ⟨e2, (k2 + 2) % 3, by omega, by rw [e6, wa]; omega⟩, ?_, ?_⟩
   ·show M.w t2 _ = _; rw [e5, wb]; omega
   ·show M.w t2 _ = _; rw [e6, wa]; omega
 obtain ⟨t', j', hj', hh', h1, h2⟩ := hex
 obtain ⟨i0, hi0, hti⟩ := st.all t' hh'
 have hne : edgeOf M (min (a : Int) b) (max (a : Int) b) (starL M v ts 0 k) ≠ none := fun h => by
  have := edge_none h _ (mem_star.2 ⟨i0, hi0, rfl⟩)
  rw [hti] at this
  exact edge_in hj' h1 h2 this
 obtain ⟨⟨u, i⟩, hui⟩ := Option.ne_none_iff_exists'.1 hne
 obtain ⟨hi, x, hx, hxu⟩ := edge_some hui
 obtain ⟨i1, hi1, rfl⟩ := mem_star.1 hx
 simp only at hxu
 have hl := (st.has i1).1
 rw [hxu] at hl
 exact ⟨v, k, _, u, i, hv, hvl, har, hui, hl.1, hi, g.plain u hl i hi, by simp; omega⟩
end
end Ao
end Go.Proofs.Ytdihefgleefhmaa
