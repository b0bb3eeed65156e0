/- A good mesh is sound, but for the areas. -/
import Derived.Test.YtdihefgleefhmaaJa
import Derived.Test.YtdihefgleefhmaaSd
import Derived.Test.YtdihefgleefhmaaAw
namespace Go.Proofs.Ytdihefgleefhmaa
namespace Jc
open Ki Po Pc Pe Ks Kt Kx Kw
section
variable {c : Cfg} {S : Int → Prop} {M : Mesh} {n : Nat}
theorem live_v (h : Del c S M) {t : Nat} (ht : M.live t) {j : Nat} (hj : j < 3) : (M.w t j = -1 ∨ ∃ n : Nat, M.w t j = n ∧ n < c.pts.length) := h.nat _ (h.poly.vs t ht j hj)
theorem ne_m2 (h : Del c S M) {t : Nat} (ht : M.live t) {j : Nat} (hj : j < 3) : (tat M.tris t).v j ≠ -2 := not_m2 h (h.poly.vs t ht j hj)
theorem dead_or (g : Good c S M n) {t : Nat} (ht : t < M.tris.length) : M.live t ∨ tat M.tris t = Tri.gone := by
 by_cases e : (tat M.tris t).v0 = -2
 ·exact .inr (g.dead t ht e)
 ·exact .inl ⟨ht, e⟩
theorem cnt3 (T : Tri) (x : Int) : cntV T x 3 = (if T.v 0 = x then 1 else 0) + (if T.v 1 = x then 1 else 0) + (if T.v 2 = x then 1 else 0) := by
 unfold cntV cntV cntV cntV
 omega
theorem made (g : Good c S M n) (t : Nat) (ht : t < M.tris.length) : madeB M (tat M.tris t) = true := by
 rcases dead_or g ht with hl | e
 ·have h2 : cntV (tat M.tris t) (-2) 3 = 0 := by
   rw [cnt3]
   rw [if_neg (ne_m2 g.del hl (by omega)), if_neg (ne_m2 g.del hl (by omega)), if_neg (ne_m2 g.del hl (by omega))]
  unfold madeB
  rw [h2, if_neg (by omega)]
  by_cases hg : ∃ i, i < 3 ∧ M.w t i = -1
  ·obtain ⟨i, hi, e⟩ := hg
   have h1 : cntV (tat M.tris t) (-1) 3 = 1 := by
    rw [cnt3]
    have q : ∀ j, j < 3 → j ≠ i → ¬ (tat M.tris t).v j = -1 := fun j hj hji e' => hji (one_ghost g.del hl hj hi e' e)
    have e' : (tat M.tris t).v i = -1 := e
    rcases (show i = 0 ∨ i = 1 ∨ i = 2 by omega) with rfl | rfl | rfl
    ·rw [if_pos e', if_neg (q 1 (by omega) (by omega)), if_neg (q 2 (by omega) (by omega))]
    ·rw [if_pos e', if_neg (q 0 (by omega) (by omega)), if_neg (q 2 (by omega) (by omega))]
    ·rw [if_pos e', if_neg (q 0 (by omega) (by omega)), if_neg (q 1 (by omega) (by omega))]
   rw [h1, if_pos (by omega)]
   rfl
  ·have nn : ∀ i, i < 3 → ¬ M.w t i = -1 := fun i hi e => hg ⟨i, hi, e⟩
   have h1 : cntV (tat M.tris t) (-1) 3 = 0 := by
    rw [cnt3]
    have n0 : ¬ (tat M.tris t).v 0 = -1 := nn 0 (by omega)
    have n1 : ¬ (tat M.tris t).v 1 = -1 := nn 1 (by omega)
    have n2 : ¬ (tat M.tris t).v 2 = -1 := nn 2 (by omega)
    rw [if_neg n0, if_neg n1, if_neg n2]
   rw [h1, if_neg (by omega), decide_eq_true_eq]
   obtain ⟨i, hi, _⟩ := not_neg g.del hl (show 0 < 3 by omega) (nn 0 (by omega))
   obtain ⟨j, hj, _⟩ := not_neg g.del hl (show 1 < 3 by omega) (nn 1 (by omega))
   obtain ⟨k, hk, _⟩ := not_neg g.del hl (show 2 < 3 by omega) (nn 2 (by omega))
   have ho := g.del.real t hl i j k hi hj hk
   have e0 : (tat M.tris t).v0 = i := hi
   have e1 : (tat M.tris t).v1 = j := hj
   have e2 : (tat M.tris t).v2 = k := hk
   rw [e0, e1, e2, g.del.pts]
   simp only [Int.toNat_natCast]
   rw [Int.sign_eq_one_of_pos ho]
   decide
 ·rw [e]
  rfl
theorem beside (g : Good c S M n) (t : Nat) (hl : M.live t) : besideOk M t := by
 intro i hi
 obtain ⟨u, k, e1, e2, e3, e4, e5, e6⟩ := g.del.poly.nb t hl i hi
 refine ⟨u, e1, e2.1, fun hf => absurd hf (by rw [g.plain t hl i hi]; simp), ?_⟩
 have hf1 := g.plain t hl i hi
 have hf2 := g.plain u e2 k e3
 have hyes : ((tat M.tris u).v ((k + 1) % 3) == (tat M.tris t).v ((i + 2) % 3) && (tat M.tris u).v ((k + 2) % 3) == (tat M.tris t).v ((i + 1) % 3)) = true := by
  have a1 : (tat M.tris u).v ((k + 1) % 3) = (tat M.tris t).v ((i + 2) % 3) := e5
  have a2 : (tat M.tris u).v ((k + 2) % 3) = (tat M.tris t).v ((i + 1) % 3) := e6
  rw [a1, a2]
  simp
 have hno : ∀ j, j < 3 → j ≠ k → ¬ ((tat M.tris u).v ((j + 1) % 3) == (tat M.tris t).v ((i + 2) % 3) && (tat M.tris u).v ((j + 2) % 3) == (tat M.tris t).v ((i + 1) % 3)) = true := fun j hj hjk hh => by
  simp only [Bool.and_eq_true, beq_iff_eq] at hh
  have := w_inj g.del.poly e2 (i := (j + 1) % 3) (j := (k + 1) % 3) (by omega) (by omega) (show M.w u ((j + 1) % 3) = M.w u ((k + 1) % 3) by rw [e5]; exact hh.1)
  omega
 have hres : ((tat M.tris u).n k == (t : Int) && (tat M.tris u).f k == (tat M.tris t).f i) = true := by rw [e4, hf1, hf2]; simp
 rcases (show k = 0 ∨ k = 1 ∨ k = 2 by omega) with rfl | rfl | rfl
 ·unfold foundN
  rw [if_neg (hno 2 (by omega) (by omega))]
  unfold foundN
  rw [if_neg (hno 1 (by omega) (by omega))]
  unfold foundN
  rw [if_pos hyes]
  exact hres
 ·unfold foundN
  rw [if_neg (hno 2 (by omega) (by omega))]
  unfold foundN
  rw [if_pos hyes]
  exact hres
 ·unfold foundN
  rw [if_pos hyes]
  exact hres
/-- is a point one of a triangle's? -/
def hasB (M : Mesh) (u : Int) (t : Nat) : Bool := decide (M.w t 0 = u) || decide (M.w t 1 = u) || decide (M.w t 2 = u)
theorem hasB_iff (M : Mesh) (u : Int) (t : Nat) : hasB M u t = true ↔ ∃ i, i < 3 ∧ M.w t i = u := by
 unfold hasB
 simp only [Bool.or_eq_true, decide_eq_true_eq]
 constructor
 ·rintro ((h | h) | h)
  ·exact ⟨0, by omega, h⟩
  ·exact ⟨1, by omega, h⟩
  ·exact ⟨2, by omega, h⟩
 ·rintro ⟨i, hi, h⟩
  rcases (show i = 0 ∨ i = 1 ∨ i = 2 by omega) with rfl | rfl | rfl
  ·exact .inl (.inl h)
  ·exact .inl (.inr h)
  ·exact .inr h
theorem bump3 (T : Tri) (f : Int → Int) (u : Int) (h0 : T.v 0 ≠ -2) (h1 : T.v 1 ≠ -2) (h2 : T.v 2 ≠ -2) (n1 : T.v 0 ≠ T.v 1) (n2 : T.v 1 ≠ T.v 2) (n3 : T.v 2 ≠ T.v 0) :
  bump T f 3 u = f u + if T.v 0 = u ∨ T.v 1 = u ∨ T.v 2 = u then 1 else 0 := by
 unfold bump
 rw [if_neg h2]
 dsimp only
 unfold bump
 rw [if_neg h1]
 dsimp only
 unfold bump
 rw [if_neg h0]
 dsimp only
 unfold bump
 by_cases e0 : u = T.v 0
 ·rw [if_neg (by omega), if_neg (by omega), if_pos e0, if_pos (.inl e0.symm)]
 ·by_cases e1 : u = T.v 1
  ·rw [if_neg (by omega), if_pos e1, if_neg e0, if_pos (.inr (.inl e1.symm))]
  ·by_cases e2 : u = T.v 2
   ·rw [if_pos e2, if_neg e1, if_neg e0, if_pos (.inr (.inr e2.symm))]
   ·rw [if_neg e2, if_neg e1, if_neg e0, if_neg (by omega)]; omega
theorem mark3 (T : Tri) (n : Int) (f : Int → Int) (u : Int) (h0 : T.v 0 ≠ -2) (h1 : T.v 1 ≠ -2) (h2 : T.v 2 ≠ -2) : mark T n f 3 u = if T.v 0 = u ∨ T.v 1 = u ∨ T.v 2 = u then n else f u := by
 unfold mark
 rw [if_neg h2]
 dsimp only
 unfold mark
 rw [if_neg h1]
 dsimp only
 unfold mark
 rw [if_neg h0]
 dsimp only
 unfold mark
 by_cases e2 : u = T.v 2
 ·rw [if_pos e2, if_pos (.inr (.inr e2.symm))]
 ·rw [if_neg e2]
  by_cases e1 : u = T.v 1
  ·rw [if_pos e1, if_pos (.inr (.inl e1.symm))]
  ·rw [if_neg e1]
   by_cases e0 : u = T.v 0
   ·rw [if_pos e0, if_pos (.inl e0.symm)]
   ·rw [if_neg e0, if_neg (by omega)]
theorem bump_gone (f : Int → Int) (u : Int) : bump Tri.gone f 3 u = f u := rfl
theorem mark_gone (n : Int) (f : Int → Int) (u : Int) : mark Tri.gone n f 3 u = f u := rfl
/-- the live triangles, of the first ones, that have a point. -/
def hasTo (M : Mesh) (u : Int) (n : Nat) : List Nat := (List.range n).filter fun t => hasB M u t && decide ((tat M.tris t).v0 ≠ -2)
theorem hasTo_succ (M : Mesh) (u : Int) (n : Nat) : hasTo M u (n + 1) = if (hasB M u n && decide ((tat M.tris n).v0 ≠ -2)) = true then hasTo M u n ++ [n] else hasTo M u n := by
 unfold hasTo
 rw [List.range_succ, List.filter_append]
 split
 ·rename_i h
  rw [List.filter_cons, if_pos h, List.filter_nil]
 ·rename_i h
  rw [List.filter_cons, if_neg h, List.filter_nil, List.append_nil]
theorem counts (g : Good c S M n) (u : Int) : ∀ i, i ≤ M.tris.length → cntM M i u = (hasTo M u i).length ∧ (hasTo M u i ≠ [] → ∃ t : Nat, oneM M i u = t ∧ t ∈ hasTo M u i)
 | 0, _ => ⟨rfl, fun h => absurd rfl h⟩
 | i + 1, hi => by
  obtain ⟨h1, h2⟩ := counts g u i (by omega)
  have e1 : cntM M (i + 1) u = bump (tat M.tris i) (cntM M i) 3 u := rfl
  have e2 : oneM M (i + 1) u = mark (tat M.tris i) i (oneM M i) 3 u := rfl
  rw [hasTo_succ, e1, e2]
  rcases dead_or g (show i < M.tris.length by omega) with hl | hd
  ·have m : ∀ j, j < 3 → (tat M.tris i).v j ≠ -2 := fun j hj => ne_m2 g.del hl hj
   obtain ⟨n1, n2, n3⟩ := g.del.poly.ne i hl
   rw [bump3 _ _ _ (m 0 (by omega)) (m 1 (by omega)) (m 2 (by omega)) n1 n2 n3, mark3 _ _ _ _ (m 0 (by omega)) (m 1 (by omega)) (m 2 (by omega)), h1]
   by_cases hh : (tat M.tris i).v 0 = u ∨ (tat M.tris i).v 1 = u ∨ (tat M.tris i).v 2 = u
   ·have hb : (hasB M u i && decide ((tat M.tris i).v0 ≠ -2)) = true := by
     rw [Bool.and_eq_true, decide_eq_true_eq, hasB_iff]
     refine ⟨?_, hl.2⟩
     rcases hh with e | e | e
     ·exact ⟨0, by omega, e⟩
     ·exact ⟨1, by omega, e⟩
     ·exact ⟨2, by omega, e⟩
    rw [if_pos hh, if_pos hh, if_pos hb]
    exact ⟨by simp, fun _ => ⟨i, rfl, by simp⟩⟩
   ·have hb : ¬ (hasB M u i && decide ((tat M.tris i).v0 ≠ -2)) = true := by
     rw [Bool.and_eq_true, hasB_iff]
     rintro ⟨⟨j, hj, e⟩, _⟩
     refine hh ?_
     rcases (show j = 0 ∨ j = 1 ∨ j = 2 by omega) with rfl | rfl | rfl
     ·exact .inl e
     ·exact .inr (.inl e)
     ·exact .inr (.inr e)
    rw [if_neg hh, if_neg hh, if_neg hb]
    exact ⟨by omega, h2⟩
  ·have hb : ¬ (hasB M u i && decide ((tat M.tris i).v0 ≠ -2)) = true := by
    rw [hd]
    simp [Tri.gone]
   rw [if_neg hb, hd, bump_gone, mark_gone]
   exact ⟨h1, h2⟩
theorem mem_hasTo (u : Int) (t : Nat) : t ∈ hasTo M u M.tris.length ↔ M.has u t := by
 unfold hasTo
 rw [List.mem_filter, List.mem_range, Bool.and_eq_true, decide_eq_true_eq, hasB_iff]
 exact ⟨fun ⟨a, b, d⟩ => ⟨⟨a, d⟩, b⟩, fun ⟨⟨a, d⟩, b⟩ => ⟨a, b, d⟩⟩
theorem star_count {u : Int} {ts : Nat → Nat} {k : Nat} (hs : Star M u ts k) : (hasTo M u M.tris.length).length = k := by
 have hn : (hasTo M u M.tris.length).Nodup := List.nodup_range.filter _
 have hk : ((List.range k).map ts).Nodup := by
  rw [List.nodup_iff_pairwise_ne, List.pairwise_map]
  refine List.pairwise_lt_range.imp_of_mem fun ha hb hab e => ?_
  rw [List.mem_range] at hb
  exact hs.inj _ _ hab hb e
 have h1 := nodup_sub _ _ hn fun x hx => by
  obtain ⟨i, hi, e⟩ := hs.all x ((mem_hasTo u x).1 hx)
  exact List.mem_map.2 ⟨i, List.mem_range.2 hi, e⟩
 have h2 := nodup_sub _ _ hk fun x hx => by
  obtain ⟨i, _, rfl⟩ := List.mem_map.1 hx
  exact (mem_hasTo u _).2 (hs.has i)
 simp at h1 h2
 omega
theorem stars (g : Good c S M n) : StarsOk M where
 vs t ht j hj := by
  rcases dead_or g ht with hl | hd
  ·rcases live_v g.del hl hj with e | ⟨x, e, hx⟩
   ·exact .inl e
   ·have e' : (tat M.tris t).v j = x := e
    exact .inr (.inr (by rw [e', g.del.pts]; omega))
  ·rw [hd]
   rcases (show j = 0 ∨ j = 1 ∨ j = 2 by omega) with rfl | rfl | rfl <;> exact .inr (.inl rfl)
 round v hv := by
  obtain ⟨h1, h2⟩ := counts g v M.tris.length (Nat.le_refl _)
  obtain ⟨t, e, ht⟩ := h2 (fun e => hv (by rw [h1, e]; rfl))
  obtain ⟨ts, k, hs, h0⟩ := star g.del.poly (Kg.alt c) ((mem_hasTo v t).1 ht)
  exact ⟨ts, k, hs.round, by rw [e, h0], by rw [h1, star_count hs]⟩
 at_ i hi := by
  obtain ⟨h1, _⟩ := counts g i M.tris.length (Nat.le_refl _)
  by_cases hS : S i
  ·obtain ⟨t, e, hh⟩ := g.at1 i hS
   have hm : 0 < (hasTo M i M.tris.length).length := List.length_pos_of_mem ((mem_hasTo _ t).2 hh)
   obtain ⟨j, hj, hp, _⟩ := at_place g.del.poly hh
   rw [e, h1]
   have := hh.1.1
   refine ⟨by omega, by omega, fun _ => ?_⟩
   simp only [Int.toNat_natCast]
   rw [hp]
   omega
  ·have e := g.at0 i (by rw [← g.atl]; exact hi) hS
   have hm : hasTo M i M.tris.length = [] := List.eq_nil_iff_forall_not_mem.2 fun t ht => by
    obtain ⟨hl, j, hj, hw⟩ := (mem_hasTo (i : Int) t).1 ht
    exact hS (hw ▸ g.del.poly.vs t hl j hj)
   rw [e, h1, hm]
   exact ⟨by simp, by omega, by omega⟩
 ghost := by
  obtain ⟨h1, _⟩ := counts g (-1) M.tris.length (Nat.le_refl _)
  obtain ⟨t, ht⟩ := g.gh
  rw [h1]
  have := List.length_pos_of_mem ((mem_hasTo (-1) t).2 ht)
  omega
theorem mem_ways (M : Mesh) : ∀ n w, w ∈ waysN M n → ∃ t j, t < n ∧ (tat M.tris t).v0 ≠ -2 ∧ j < 3 ∧ w = (M.w t ((j + 1) % 3), M.w t ((j + 2) % 3))
 | 0, w, h => by simp [waysN] at h
 | n + 1, w, h => by
  unfold waysN at h
  split at h
  ·obtain ⟨t, j, h1, h2⟩ := mem_ways M n w h
   exact ⟨t, j, by omega, h2⟩
  ·rename_i hne
   rcases List.mem_append.1 h with h | h
   ·obtain ⟨t, j, h1, h2⟩ := mem_ways M n w h
    exact ⟨t, j, by omega, h2⟩
   ·simp only [List.mem_cons, List.not_mem_nil, or_false] at h
    rcases h with rfl | rfl | rfl
    ·exact ⟨n, 0, by omega, hne, by omega, rfl⟩
    ·exact ⟨n, 1, by omega, hne, by omega, rfl⟩
    ·exact ⟨n, 2, by omega, hne, by omega, rfl⟩
theorem ways (g : Good c S M n) : ∀ i, i ≤ M.tris.length → (waysN M i).Nodup
 | 0, _ => List.nodup_nil
 | i + 1, hi => by
  have ih := ways g i (by omega)
  unfold waysN
  split
  ·exact ih
  ·rename_i hne
   have hl : M.live i := ⟨by omega, hne⟩
   have inj : ∀ j l, j < 3 → l < 3 → wayOf (tat M.tris i) j = wayOf (tat M.tris i) l → j = l := fun j l hj hl' e => by
    have e1 := congrArg Prod.fst e
    have := w_inj g.del.poly hl (i := (j + 1) % 3) (j := (l + 1) % 3) (by omega) (by omega) e1
    omega
   rw [List.nodup_append]
   refine ⟨ih, ?_, fun a ha b hb e => ?_⟩
   ·simp only [List.nodup_cons, List.mem_cons, List.not_mem_nil, or_false, not_or, List.nodup_nil, and_true, not_false_eq_true]
    exact ⟨⟨fun e => by have := inj 0 1 (by omega) (by omega) e; omega, fun e => by have := inj 0 2 (by omega) (by omega) e; omega⟩, fun e => by have := inj 1 2 (by omega) (by omega) e; omega⟩
   ·obtain ⟨t, j, h1, h2, h3, h4⟩ := mem_ways M i a ha
    have hlt : M.live t := ⟨by omega, h2⟩
    have hb' : ∃ l, l < 3 ∧ b = (M.w i ((l + 1) % 3), M.w i ((l + 2) % 3)) := by
     simp only [List.mem_cons, List.not_mem_nil, or_false] at hb
     rcases hb with rfl | rfl | rfl
     ·exact ⟨0, by omega, rfl⟩
     ·exact ⟨1, by omega, rfl⟩
     ·exact ⟨2, by omega, rfl⟩
    obtain ⟨l, hl3, rfl⟩ := hb'
    rw [h4] at e
    have e1 := congrArg Prod.fst e
    have e2 := congrArg Prod.snd e
    have := (g.del.poly.un t i hlt hl j l h3 hl3 e1 e2).1
    omega
theorem sound (g : Good c S M n) : SoundOk M := ⟨made g, fun t ht hv => beside g t ⟨ht, hv⟩, stars g, ways g _ (Nat.le_refl _)⟩
end
end Jc
end Go.Proofs.Ytdihefgleefhmaa
/- A good mesh's border, and the areas. -/
namespace Go.Proofs.Ytdihefgleefhmaa
namespace Jd
open Ki Po Pc Pe Ks Kt Kx Kw Jc
theorem perm_sum {l1 l2 : List Int} (h : l1.Perm l2) : l1.sum = l2.sum := by
 induction h with
 | nil => rfl
 | cons x _ ih => rw [List.sum_cons, List.sum_cons, ih]
 | swap x y l => rw [List.sum_cons, List.sum_cons, List.sum_cons, List.sum_cons]; omega
 | trans _ _ ih1 ih2 => rw [ih1, ih2]
theorem sum_neg {α : Type} (f : α → Int) : ∀ l : List α, (l.map fun x => - f x).sum = - (l.map f).sum
 | [] => rfl
 | x :: l => by rw [List.map_cons, List.sum_cons, List.map_cons, List.sum_cons, sum_neg f l]; omega
theorem sum_congr {α : Type} {f g : α → Int} : ∀ {l : List α}, (∀ x ∈ l, f x = g x) → (l.map f).sum = (l.map g).sum
 | [], _ => rfl
 | x :: l, h => by rw [List.map_cons, List.sum_cons, List.map_cons, List.sum_cons, h x (by simp), sum_congr fun y hy => h y (by simp [hy])]
def cr (p q : Pt) : Int := p.x * q.y - p.y * q.x
def crI (l : List Pt) (x y : Int) : Int := if x < 0 ∨ y < 0 then 0 else cr (pat l x.toNat) (pat l y.toNat)
theorem crI_neg (l : List Pt) (x y : Int) : crI l y x = - crI l x y := by
 unfold crI
 by_cases h : x < 0 ∨ y < 0
 ·rw [if_pos h, if_pos h.symm]; rfl
 ·rw [if_neg h, if_neg (fun h' => h h'.symm)]; unfold cr; grind
theorem ori_cr (a b d : Pt) : ori a b d = cr a b + cr b d + cr d a := by unfold ori cr; grind
section
variable {c : Cfg} {S : Int → Prop} {M : Mesh} {n : Nat}
/-- across any edge. -/
theorem over_at (h : Del c S M) {t j : Nat} (ht : M.live t) (hj : j < 3) : (tat M.tris t).n j = M.out (t, j) ∧ M.live (M.out (t, j)) ∧ M.ix (t, j) < 3 ∧ M.w (M.out (t, j)) ((M.ix (t, j) + 1) % 3) = M.w t ((j + 2) % 3) ∧ M.w (M.out (t, j)) ((M.ix (t, j) + 2) % 3) = M.w t ((j + 1) % 3) ∧
  M.out (M.out (t, j), M.ix (t, j)) = t ∧ M.ix (M.out (t, j), M.ix (t, j)) = j := by
 obtain ⟨u, k, e1, e2, e3, e4, e5, e6⟩ := h.poly.nb t ht j hj
 have ho : M.out (t, j) = u := by unfold Mesh.out; rw [e1]; rfl
 have hi : M.ix (t, j) = k := by unfold Mesh.ix; rw [ho]; rw [nidx_at h ht e2 hj e3 e4 e5 e6]; rfl
 have ho' : M.out (u, k) = t := by unfold Mesh.out; rw [e4]; rfl
 have hi' : M.ix (u, k) = j := by unfold Mesh.ix; rw [ho']; rw [nidx_at h e2 ht e3 hj e1 e6.symm e5.symm]; rfl
 rw [ho, hi]
 exact ⟨e1, e2, e3, e5, e6, ho', hi'⟩
/-- the live triangles, and their edges. -/
def liveL (M : Mesh) : List Nat := (List.range M.tris.length).filter fun t => decide ((tat M.tris t).v0 ≠ -2)
def edgeL (M : Mesh) : List Nat → List (Nat × Nat)
 | [] => []
 | t :: l => (t, 0) :: (t, 1) :: (t, 2) :: edgeL M l
theorem mem_live (t : Nat) : t ∈ liveL M ↔ M.live t := by
 unfold liveL
 rw [List.mem_filter, List.mem_range, decide_eq_true_eq]
 rfl
theorem mem_edge (M : Mesh) : ∀ (l : List Nat) (x : Nat × Nat), x ∈ edgeL M l ↔ x.1 ∈ l ∧ x.2 < 3
 | [], x => by simp [edgeL]
 | t :: l, x => by
  unfold edgeL
  simp only [List.mem_cons, mem_edge M l x]
  constructor
  ·rintro (rfl | rfl | rfl | ⟨a, b⟩)
   ·exact ⟨.inl rfl, Nat.lt_of_sub_pos (by simp)⟩
   ·exact ⟨.inl rfl, Nat.lt_of_sub_pos (by simp)⟩
   ·exact ⟨.inl rfl, Nat.lt_of_sub_pos (by simp)⟩
   ·exact ⟨.inr a, b⟩
  ·rintro ⟨a | a, b⟩
   ·obtain ⟨y, j⟩ := x
    simp only at a b
    subst a
    rcases (show j = 0 ∨ j = 1 ∨ j = 2 by omega) with rfl | rfl | rfl <;> simp
   ·exact .inr (.inr (.inr ⟨a, b⟩))
theorem nodup_edge (M : Mesh) : ∀ l : List Nat, l.Nodup → (edgeL M l).Nodup
 | [], _ => List.nodup_nil
 | t :: l, h => by
  have h' := List.nodup_cons.1 h
  have ih := nodup_edge M l h'.2
  have no : ∀ j, (t, j) ∉ edgeL M l := fun j hm => h'.1 ((mem_edge M l _).1 hm).1
  unfold edgeL
  simp only [List.nodup_cons, List.mem_cons, not_or]
  exact ⟨⟨by simp, by simp, no 0⟩, ⟨by simp, no 1⟩, no 2, ih⟩
abbrev g1 (M : Mesh) (x : Nat × Nat) : Int := crI M.pts (st M x) (en M x)
theorem sum_zero (h : Del c S M) : ((edgeL M (liveL M)).map (g1 M)).sum = 0 := by
 have hn : (edgeL M (liveL M)).Nodup := nodup_edge M _ (List.nodup_range.filter _)
 have hm : ∀ x, x ∈ edgeL M (liveL M) ↔ M.live x.1 ∧ x.2 < 3 := fun x => by rw [mem_edge, mem_live]
 have hs : ∀ x ∈ edgeL M (liveL M), (M.out x, M.ix x) ∈ edgeL M (liveL M) ∧ (M.out (M.out x, M.ix x), M.ix (M.out x, M.ix x)) = x ∧ g1 M (M.out x, M.ix x) = - g1 M x := fun x hx => by
  obtain ⟨h1, h2⟩ := (hm x).1 hx
  obtain ⟨a1, a2, a3, a4, a5, a6, a7⟩ := over_at h h1 h2
  refine ⟨(hm _).2 ⟨a2, a3⟩, Prod.ext a6 a7, ?_⟩
  have b1 : st M (M.out x, M.ix x) = en M x := a4
  have b2 : en M (M.out x, M.ix x) = st M x := a5
  show crI M.pts (st M (M.out x, M.ix x)) (en M (M.out x, M.ix x)) = _
  rw [b1, b2]
  exact crI_neg _ _ _
 have hp : ((edgeL M (liveL M)).map fun x => (M.out x, M.ix x)).Perm (edgeL M (liveL M)) := by
  refine (List.perm_ext_iff_of_nodup ?_ hn).2 fun x => ?_
  ·rw [List.nodup_iff_pairwise_ne, List.pairwise_map]
   rw [List.nodup_iff_pairwise_ne] at hn
   refine hn.imp_of_mem fun {a b} ha hb hab e => hab ?_
   rw [← (hs a ha).2.1, ← (hs b hb).2.1]
   have e1 := congrArg Prod.fst e
   have e2 := congrArg Prod.snd e
   simp only at e1 e2
   rw [e1, e2]
  ·rw [List.mem_map]
   constructor
   ·rintro ⟨y, hy, rfl⟩
    exact (hs y hy).1
   ·intro hx
    exact ⟨_, (hs x hx).1, (hs x hx).2.1⟩
 have h1 := perm_sum (hp.map (g1 M))
 rw [List.map_map] at h1
 have h2 := sum_congr (f := g1 M ∘ fun x => (M.out x, M.ix x)) (g := fun x => - g1 M x) (l := edgeL M (liveL M)) fun x hx => (hs x hx).2.2
 rw [h2, sum_neg] at h1
 omega
/-- a triangle's three edges together. -/
def s3 (M : Mesh) (t : Nat) : Int := crI M.pts (M.w t 1) (M.w t 2) + crI M.pts (M.w t 2) (M.w t 0) + crI M.pts (M.w t 0) (M.w t 1)
theorem sum_tri (M : Mesh) : ∀ l : List Nat, ((edgeL M l).map (g1 M)).sum = (l.map (s3 M)).sum
 | [] => rfl
 | t :: l => by
  unfold edgeL
  rw [List.map_cons, List.sum_cons, List.map_cons, List.sum_cons, List.map_cons, List.sum_cons, List.map_cons, List.sum_cons, sum_tri M l]
  have e0 : g1 M (t, 0) = crI M.pts (M.w t 1) (M.w t 2) := by simp [g1, st, en]
  have e1 : g1 M (t, 1) = crI M.pts (M.w t 2) (M.w t 0) := by simp [g1, st, en]
  have e2 : g1 M (t, 2) = crI M.pts (M.w t 0) (M.w t 1) := by simp [g1, st, en]
  rw [e0, e1, e2]
  unfold s3
  omega
theorem s3_real (h : Del c S M) {t : Nat} {f : Nat → Nat} (hr : Real c S M t f) : s3 M t = areaN M t := by
 have w0 : (tat M.tris t).v0 = f 0 := hr.at_ 0 (by omega)
 have w1 : (tat M.tris t).v1 = f 1 := hr.at_ 1 (by omega)
 have w2 : (tat M.tris t).v2 = f 2 := hr.at_ 2 (by omega)
 have ho := hr.ori h (i := 0) (by omega)
 have e : ∀ a b : Nat, crI M.pts a b = cr (pat M.pts a) (pat M.pts b) := fun a b => by
  unfold crI
  rw [if_neg (by omega)]
  rfl
 unfold s3
 rw [hr.at_ 0 (by omega), hr.at_ 1 (by omega), hr.at_ 2 (by omega), e, e, e]
 unfold areaN
 rw [w0, w1, w2]
 simp only [Int.toNat_natCast]
 rw [← h.pts] at ho
 have := ori_cr (pat M.pts (f 0)) (pat M.pts (f 1)) (pat M.pts (f 2))
 simp only [Nat.reduceAdd, Nat.reduceMod] at ho
 omega
theorem s3_ghost (h : Del c S M) {t : Nat} (ht : M.has (-1) t) : s3 M t = crI M.pts (M.l1 (-1) t) (M.l2 (-1) t) := by
 obtain ⟨i, hi, hp, hb, e1, e2, _⟩ := at_place h.poly ht
 rw [e1, e2]
 have z1 : ∀ y, crI M.pts (-1) y = 0 := fun y => by unfold crI; rw [if_pos (.inl (by omega))]
 have z2 : ∀ y, crI M.pts y (-1) = 0 := fun y => by unfold crI; rw [if_pos (.inr (by omega))]
 unfold s3
 rcases (show i = 0 ∨ i = 1 ∨ i = 2 by omega) with rfl | rfl | rfl
 ·rw [hb, z1, z2]; simp
 ·rw [hb, z1, z2]; simp
 ·rw [hb, z1, z2]; simp
theorem live_split (h : Del c S M) : (liveL M).Perm (realsTo M M.tris.length ++ hasTo M (-1) M.tris.length) := by
 have hr : ∀ t, t ∈ realsTo M M.tris.length ↔ Mr.realB M t = true := fun t => by
  unfold realsTo
  rw [List.mem_filter, List.mem_range]
  refine ⟨fun h => h.2, fun hr => ⟨?_, hr⟩⟩
  obtain ⟨f, hf⟩ := real_of h hr
  exact hf.live.1
 have hng : ∀ t : Nat, Mr.realB M t = true → ¬ M.has (-1) t := fun t hr hg => by
  obtain ⟨f, hf⟩ := real_of h hr
  obtain ⟨_, i, hi, e⟩ := hg
  rw [hf.at_ i hi] at e
  omega
 refine (List.perm_ext_iff_of_nodup (List.nodup_range.filter _) ?_).2 fun t => ?_
 ·rw [List.nodup_append]
  refine ⟨List.nodup_range.filter _, List.nodup_range.filter _, fun a ha b hb e => ?_⟩
  subst e
  exact hng a ((hr a).1 ha) ((mem_hasTo (-1) a).1 hb)
 ·show t ∈ liveL M ↔ _
  rw [mem_live, List.mem_append, hr, mem_hasTo]
  constructor
  ·intro hl
   by_cases hg : ∃ i, i < 3 ∧ M.w t i = -1
   ·exact .inr ⟨hl, hg⟩
   ·left
    have p : ∀ i, i < 3 → 0 ≤ M.w t i := fun i hi => by
     obtain ⟨n, e, _⟩ := not_neg h hl hi fun e => hg ⟨i, hi, e⟩
     rw [e]; omega
    have h0 : 0 ≤ (tat M.tris t).v0 := p 0 (by omega)
    have h1 : 0 ≤ (tat M.tris t).v1 := p 1 (by omega)
    have h2 : 0 ≤ (tat M.tris t).v2 := p 2 (by omega)
    have := hl.1
    unfold Mr.realB
    simp only [Bool.and_eq_true, decide_eq_true_eq, Int.toNat_natCast]
    omega
  ·rintro (hr' | hg)
   ·obtain ⟨f, hf⟩ := real_of h hr'
    exact hf.live
   ·exact hg.1
theorem area_sum (M : Mesh) : ∀ l : List Nat, ((areaTo M l : Nat) : Int) = (l.map fun t => ((areaN M t : Nat) : Int)).sum
 | [] => rfl
 | t :: l => by
  rw [List.map_cons, List.sum_cons, ← area_sum M l]
  show ((areaTo M l + areaN M t : Nat) : Int) = _
  omega
/-- the real triangles' areas, by the ghosts' edges. -/
theorem areas (h : Del c S M) : ((areaTo M (realsTo M M.tris.length) : Nat) : Int) = - ((hasTo M (-1) M.tris.length).map fun t => crI M.pts (M.l1 (-1) t) (M.l2 (-1) t)).sum := by
 have h1 := sum_zero h
 rw [sum_tri, perm_sum ((live_split h).map (s3 M)), List.map_append, List.sum_append] at h1
 rw [sum_congr (l := realsTo M M.tris.length) (g := fun t => ((areaN M t : Nat) : Int)) fun t ht => (by
  unfold realsTo at ht
  obtain ⟨f, hf⟩ := real_of h (List.mem_filter.1 ht).2
  exact s3_real h hf), sum_congr (l := hasTo M (-1) M.tris.length) (g := fun t => crI M.pts (M.l1 (-1) t) (M.l2 (-1) t)) fun t ht => s3_ghost h ((mem_hasTo (-1) t).1 ht), ← area_sum] at h1
 omega
end
end Jd
end Go.Proofs.Ytdihefgleefhmaa
/- A good mesh's border, once round; its areas are right. -/
namespace Go.Proofs.Ytdihefgleefhmaa
namespace Je
open Ki Po Pc Pe Ks Kt Kx Kw Jc Jd
/-- the border's edges, as they come up. -/
def hfTri (M : Mesh) (t : Nat) : Nat → List (Nat × Nat)
 | 0 => []
 | k + 1 => if Mr.realB M ((tat M.tris t).n k) = true then hfTri M t k else hfTri M t k ++ [(t, k)]
def hfl (M : Mesh) : List Nat → List (Nat × Nat)
 | [] => []
 | t :: l => hfTri M t 3 ++ hfl M l
theorem mem_hfTri (M : Mesh) (t : Nat) : ∀ k x, x ∈ hfTri M t k ↔ x.1 = t ∧ x.2 < k ∧ ¬ Mr.realB M ((tat M.tris t).n x.2) = true
 | 0, x => by simp [hfTri]
 | k + 1, x => by
  unfold hfTri
  split
  ·rename_i h
   rw [mem_hfTri M t k x]
   refine ⟨fun ⟨a, b, c⟩ => ⟨a, by omega, c⟩, fun ⟨a, b, c⟩ => ⟨a, ?_, c⟩⟩
   by_cases e : x.2 = k
   ·rw [e] at c; exact absurd h c
   ·omega
  ·rename_i h
   rw [List.mem_append, mem_hfTri M t k x, List.mem_singleton]
   constructor
   ·rintro (⟨a, b, c⟩ | rfl)
    ·exact ⟨a, by omega, c⟩
    ·exact ⟨rfl, by simp, h⟩
   ·rintro ⟨a, b, c⟩
    by_cases e : x.2 = k
    ·exact .inr (Prod.ext a e)
    ·exact .inl ⟨a, by omega, c⟩
theorem nodup_hfTri (M : Mesh) (t : Nat) : ∀ k, (hfTri M t k).Nodup
 | 0 => List.nodup_nil
 | k + 1 => by
  unfold hfTri
  split
  ·exact nodup_hfTri M t k
  ·rw [List.nodup_append]
   refine ⟨nodup_hfTri M t k, by simp, fun a ha b hb e => ?_⟩
   rw [List.mem_singleton] at hb
   have := ((mem_hfTri M t k a).1 ha).2.1
   rw [e, hb] at this
   simp at this
theorem mem_hfl (M : Mesh) : ∀ l x, x ∈ hfl M l ↔ x.1 ∈ l ∧ x.2 < 3 ∧ ¬ Mr.realB M ((tat M.tris x.1).n x.2) = true
 | [], x => by simp [hfl]
 | t :: l, x => by
  unfold hfl
  rw [List.mem_append, mem_hfTri, mem_hfl M l x, List.mem_cons]
  constructor
  ·rintro (⟨a, b, c⟩ | ⟨a, b, c⟩)
   ·exact ⟨.inl a, b, by rw [a]; exact c⟩
   ·exact ⟨.inr a, b, c⟩
  ·rintro ⟨a | a, b, c⟩
   ·exact .inl ⟨a, b, by rw [← a]; exact c⟩
   ·exact .inr ⟨a, b, c⟩
theorem nodup_hfl (M : Mesh) : ∀ l : List Nat, l.Nodup → (hfl M l).Nodup
 | [], _ => List.nodup_nil
 | t :: l, h => by
  unfold hfl
  have h' := List.nodup_cons.1 h
  rw [List.nodup_append]
  refine ⟨nodup_hfTri M t 3, nodup_hfl M l h'.2, fun a ha b hb e => ?_⟩
  have h1 := ((mem_hfTri M t 3 a).1 ha).1
  have h2 := ((mem_hfl M l b).1 hb).1
  rw [← e, h1] at h2
  exact h'.1 h2
def hw (M : Mesh) (r : HullS) (x : Nat × Nat) : HullS := ⟨mput (st M x) (en M x) r.next, min r.first (st M x)⟩
theorem hullTri_fl (M : Mesh) (t : Nat) (r : HullS) : ∀ k, hullTri M (tat M.tris t) r k = (hfTri M t k).foldl (hw M) r
 | 0 => rfl
 | k + 1 => by
  unfold hullTri hfTri hullOne
  rw [hullTri_fl M t r k]
  split
  ·rfl
  ·rw [List.foldl_append]
   rfl
theorem hullAll_fl (M : Mesh) : ∀ (l : List Nat) (r : HullS), hullAll M r l = (hfl M l).foldl (hw M) r
 | [], r => rfl
 | t :: l, r => by
  unfold hullAll hfl
  rw [hullAll_fl M l, hullTri_fl, List.foldl_append]
theorem fold_next (M : Mesh) : ∀ (fl : List (Nat × Nat)) (r : HullS), (r.next.map (·.1) ++ fl.map (st M)).Nodup → (fl.foldl (hw M) r).next = r.next ++ fl.map fun x => (st M x, en M x)
 | [], r, _ => by simp
 | x :: fl, r, h => by
  rw [List.foldl_cons]
  have hx : ∀ y ∈ r.next, y.1 ≠ st M x := fun y hy e => by
   rw [List.nodup_append] at h
   exact h.2.2 _ (List.mem_map.2 ⟨y, hy, rfl⟩) (st M x) (by simp) e
  have e1 : (hw M r x).next = r.next ++ [(st M x, en M x)] := Mp.put_none _ _ _ hx
  rw [fold_next M fl _ (by rw [e1]; simpa using h), e1]
  simp
theorem fold_first (M : Mesh) : ∀ (fl : List (Nat × Nat)) (r : HullS), (fl.foldl (hw M) r).first ≤ r.first ∧ (∀ x ∈ fl, (fl.foldl (hw M) r).first ≤ st M x) ∧ ((fl.foldl (hw M) r).first = r.first ∨ ∃ x ∈ fl, (fl.foldl (hw M) r).first = st M x)
 | [], r => by simp
 | x :: fl, r => by
  rw [List.foldl_cons]
  obtain ⟨h1, h2, h3⟩ := fold_first M fl (hw M r x)
  have e : (hw M r x).first = min r.first (st M x) := rfl
  rw [e] at h1 h3
  refine ⟨by omega, fun y hy => ?_, ?_⟩
  ·rcases List.mem_cons.1 hy with rfl | hy
   ·omega
   ·exact h2 y hy
  ·rcases h3 with h3 | ⟨y, hy, h3⟩
   ·by_cases hm : r.first ≤ st M x
    ·exact .inl (by omega)
    ·exact .inr ⟨x, by simp, by omega⟩
   ·exact .inr ⟨y, by simp [hy], h3⟩
section
variable {c : Cfg} {S : Int → Prop} {M : Mesh} {n : Nat}
/-- behind each edge of the border there is a ghost, and ahead of each ghost such an edge. -/
theorem edge_ghost (h : Del c S M) {x : Nat × Nat} (hx : x ∈ hfl M (realsTo M M.tris.length)) : M.has (-1) (M.out x) ∧ M.l2 (-1) (M.out x) = st M x ∧ M.l1 (-1) (M.out x) = en M x := by
 obtain ⟨a, b, d⟩ := (mem_hfl M _ x).1 hx
 unfold realsTo at a
 obtain ⟨f, hf⟩ := real_of h (List.mem_filter.1 a).2
 obtain ⟨u, k, e1, e2, e3, e4, e5, e6⟩ := cross h hf b
 have ho : M.out x = u := by unfold Mesh.out; rw [e1]; rfl
 rw [e1] at d
 rcases e6 with ⟨g, _⟩ | ⟨_, _, _, hr⟩
 ·have hh : M.has (-1) u := ⟨e2, k, e3, g⟩
  obtain ⟨i, hi, hp, hb, q1, q2, _⟩ := at_place h.poly hh
  have hik : i = k := by have := place_at h.poly e2 e3 g; omega
  subst hik
  rw [ho]
  refine ⟨hh, ?_, ?_⟩
  ·rw [q2, e5]; exact (hf.at_ _ (by omega)).symm
  ·rw [q1, e4]; exact (hf.at_ _ (by omega)).symm
 ·exact absurd hr d
theorem ghost_edge (h : Del c S M) {t : Nat} (ht : M.has (-1) t) : ∃ x, x ∈ hfl M (realsTo M M.tris.length) ∧ M.out x = t := by
 obtain ⟨i, hi, hp, hb, q1, q2, _⟩ := at_place h.poly ht
 obtain ⟨u, k, e1, e2, e3, e4, e5, e6⟩ := h.poly.nb t ht.1 i hi
 have hr : Mr.realB M u = true := by
  have hng : ∀ l, l < 3 → M.w u l ≠ -1 := fun l hl hgl => by
   rcases (show l = k ∨ l = (k + 1) % 3 ∨ l = (k + 2) % 3 by omega) with e' | e' | e'
   ·rw [e'] at hgl
    obtain ⟨x, sx, x1, x2, x3⟩ := fourth h (-1) (M.w t ((i + 1) % 3)) (M.w t ((i + 2) % 3))
    have d1 := emp_at h.poly (Kg.alt c) ht.1 hi sx (by rw [hb]; exact x1) x2 x3
    have d2 := emp_at h.poly (Kg.alt c) e2 e3 sx (by rw [hgl]; exact x1) (by rw [e5]; exact x3) (by rw [e6]; exact x2)
    rw [hb] at d1
    rw [hgl, e5, e6] at d2
    have := (Kg.alt c).s2 (-1) (M.w t ((i + 1) % 3)) (M.w t ((i + 2) % 3)) x
    omega
   ·rw [e', e5] at hgl
    have := one_ghost h ht.1 hi (show (i + 2) % 3 < 3 by omega) hb hgl
    omega
   ·rw [e', e6] at hgl
    have := one_ghost h ht.1 hi (show (i + 1) % 3 < 3 by omega) hb hgl
    omega
  have p : ∀ i, i < 3 → 0 ≤ M.w u i := fun i hi => by
   obtain ⟨n, e, _⟩ := not_neg h e2 hi (hng i hi)
   rw [e]; omega
  have h0 : 0 ≤ (tat M.tris u).v0 := p 0 (by omega)
  have h1 : 0 ≤ (tat M.tris u).v1 := p 1 (by omega)
  have h2 : 0 ≤ (tat M.tris u).v2 := p 2 (by omega)
  have := e2.1
  unfold Mr.realB
  simp only [Bool.and_eq_true, decide_eq_true_eq, Int.toNat_natCast]
  omega
 refine ⟨(u, k), (mem_hfl M _ _).2 ⟨?_, e3, ?_⟩, by unfold Mesh.out; rw [e4]; rfl⟩
 ·unfold realsTo
  exact List.mem_filter.2 ⟨List.mem_range.2 e2.1, hr⟩
 ·rw [e4]
  intro hrt
  obtain ⟨f, hf⟩ := real_of h hrt
  have := hf.at_ i hi
  rw [hb] at this
  omega
/-- the border. -/
structure Border (M : Mesh) (G : Nat → Nat) (k : Nat) : Prop where
 pos : 0 < k
 few : k ≤ M.tris.length
 has : ∀ i, M.has (-1) (G i)
 next : ∀ i, i < k → M.l2 (-1) (G (i + 1)) = M.l1 (-1) (G i)
 last : G k = G 0
 inj : ∀ i j, i < j → j < k → G i ≠ G j
 all : ∀ t, M.has (-1) t → ∃ i, i < k ∧ G i = t
 hull : hull M = (List.range k).map fun i => M.l2 (-1) (G i)
theorem go_hull {l : List (Int × Int)} {G : Nat → Nat} {k : Nat} (hl : ∀ i, i < k → mget 0 (M.l2 (-1) (G i)) l = M.l1 (-1) (G i)) (hn : ∀ i, i < k → M.l2 (-1) (G (i + 1)) = M.l1 (-1) (G i)) : ∀ n i, i + n ≤ k → hullGo l n (M.l2 (-1) (G i)) = (List.range n).map fun j => M.l2 (-1) (G (i + j))
 | 0, _, _ => rfl
 | n + 1, i, hi => by
  unfold hullGo
  rw [hl i (by omega), ← hn i (by omega), go_hull hl hn n (i + 1) (by omega), List.range_succ_eq_map, List.map_cons, List.map_map]
  refine List.cons_eq_cons.2 ⟨rfl, List.map_congr_left fun j _ => ?_⟩
  show M.l2 (-1) (G (i + 1 + j)) = M.l2 (-1) (G (i + (j + 1)))
  rw [show i + 1 + j = i + (j + 1) by omega]
theorem border (g : Good c S M n) : ∃ G k, Border M G k := by
 have h := g.del
 have hfn := nodup_hfl M (realsTo M M.tris.length) (List.nodup_range.filter _)
 have hinj : ∀ x ∈ hfl M (realsTo M M.tris.length), ∀ y ∈ hfl M (realsTo M M.tris.length), M.out x = M.out y → x = y := fun x hx y hy e => by
  obtain ⟨a1, a2, a3⟩ := edge_ghost h hx
  obtain ⟨b1, b2, b3⟩ := edge_ghost h hy
  rw [e] at a2 a3
  obtain ⟨x1, x2, _⟩ := (mem_hfl M _ x).1 hx
  obtain ⟨y1, y2, _⟩ := (mem_hfl M _ y).1 hy
  unfold realsTo at x1 y1
  obtain ⟨f, hf⟩ := real_of h (List.mem_filter.1 x1).2
  obtain ⟨f', hf'⟩ := real_of h (List.mem_filter.1 y1).2
  have := h.poly.un x.1 y.1 hf.live hf'.live x.2 y.2 x2 y2 (a2.symm.trans b2) (a3.symm.trans b3)
  exact Prod.ext this.1 this.2
 have hsn : ((hfl M (realsTo M M.tris.length)).map (st M)).Nodup := Kv.map_nodup _ hfn fun x hx y hy e => by
  obtain ⟨a1, a2, a3⟩ := edge_ghost h hx
  obtain ⟨b1, b2, b3⟩ := edge_ghost h hy
  exact hinj x hx y hy (un2 h.poly a1 b1 (a2.trans (e.trans b2.symm)))
 obtain ⟨r, hr⟩ : ∃ r, hullAll M ⟨[], M.pts.length⟩ (realsTo M M.tris.length) = r := ⟨_, rfl⟩
 have hrf : r = (hfl M (realsTo M M.tris.length)).foldl (hw M) ⟨[], M.pts.length⟩ := by rw [← hr, hullAll_fl]
 have hnx : r.next = (hfl M (realsTo M M.tris.length)).map fun x => (st M x, en M x) := by
  rw [hrf, fold_next M _ _ (by simpa using hsn)]
  rfl
 obtain ⟨k1, k2, k3⟩ := fold_first M (hfl M (realsTo M M.tris.length)) ⟨[], M.pts.length⟩
 rw [← hrf] at k1 k2 k3
 obtain ⟨g0, hg0⟩ := g.gh
 obtain ⟨xg, hxg, _⟩ := ghost_edge h hg0
 have hlt : ∀ x ∈ hfl M (realsTo M M.tris.length), st M x < M.pts.length := fun x hx => by
  obtain ⟨a1, a2, a3⟩ := edge_ghost h hx
  obtain ⟨_, _, s2, _, m2, _⟩ := l_S h.poly a1
  rw [← a2, h.pts]
  rcases h.nat _ s2 with e | ⟨y, e, hy⟩
  ·exact absurd e m2
  ·rw [e]; omega
 have hex : ∃ x ∈ hfl M (realsTo M M.tris.length), r.first = st M x := by
  rcases k3 with k3 | k3
  ·have h1 := k2 xg hxg
   have h2 := hlt xg hxg
   rw [k3] at h1
   simp only at h1
   omega
  ·exact k3
 obtain ⟨x0, hx0, hfirst⟩ := hex
 obtain ⟨a1, a2, a3⟩ := edge_ghost h hx0
 obtain ⟨ts, k, hs, h0⟩ := star h.poly (Kg.alt c) a1
 have kp := hs.round.pos
 have kl := hs.round.last
 have hG : ∀ i, i < k → M.l2 (-1) (ts (k - (i + 1))) = M.l1 (-1) (ts (k - i)) := fun i hi => by
  have := hs.link (k - (i + 1))
  rw [show k - (i + 1) + 1 = k - i by omega] at this
  exact this.symm
 have hlen : (hfl M (realsTo M M.tris.length)).length = k := by
  have hn1 : ((hfl M (realsTo M M.tris.length)).map M.out).Nodup := by
   rw [List.nodup_iff_pairwise_ne, List.pairwise_map]
   rw [List.nodup_iff_pairwise_ne] at hfn
   exact hfn.imp_of_mem fun ha hb hab e => hab (hinj _ ha _ hb e)
  have hn2 : ((List.range k).map ts).Nodup := by
   rw [List.nodup_iff_pairwise_ne, List.pairwise_map]
   refine List.pairwise_lt_range.imp_of_mem fun ha hb hab e => ?_
   rw [List.mem_range] at hb
   exact hs.inj _ _ hab hb e
  have q1 := nodup_sub _ _ hn1 fun y hy => by
   obtain ⟨x, hx, rfl⟩ := List.mem_map.1 hy
   obtain ⟨i, hi, e⟩ := hs.all _ (edge_ghost h hx).1
   exact List.mem_map.2 ⟨i, List.mem_range.2 hi, e⟩
  have q2 := nodup_sub _ _ hn2 fun y hy => by
   obtain ⟨i, _, rfl⟩ := List.mem_map.1 hy
   obtain ⟨x, hx, e⟩ := ghost_edge h (hs.has i)
   exact List.mem_map.2 ⟨x, hx, e⟩
  simp at q1 q2
  omega
 have hget : ∀ i, i < k → mget 0 (M.l2 (-1) (ts (k - i))) r.next = M.l1 (-1) (ts (k - i)) := fun i _ => by
  obtain ⟨x, hx, e⟩ := ghost_edge h (hs.has (k - i))
  obtain ⟨b1, b2, b3⟩ := edge_ghost h hx
  rw [e] at b2 b3
  obtain ⟨j, hj, ej⟩ := List.getElem_of_mem hx
  rw [b2, b3, hnx]
  refine Mp.get_at _ _ _ _ j (by rw [List.map_map]; exact hsn) ?_
  rw [List.getElem?_map, List.getElem?_eq_getElem hj, ej]
  rfl
 refine ⟨fun i => ts (k - i), k, kp, hs.round.few, fun i => hs.has _, hG, ?_, fun i j hij hj e => ?_, fun t ht => ?_, ?_⟩
 ·show ts (k - k) = ts (k - 0)
  rw [Nat.sub_self, Nat.sub_zero, kl]
 ·by_cases hi0 : i = 0
  ·subst hi0
   rw [Nat.sub_zero, kl] at e
   exact hs.inj 0 (k - j) (by omega) (by omega) e
  ·exact hs.inj (k - j) (k - i) (by omega) (by omega) e.symm
 ·obtain ⟨i, hi, e⟩ := hs.all t ht
  by_cases hi0 : i = 0
  ·subst hi0
   exact ⟨0, kp, by show ts (k - 0) = t; rw [Nat.sub_zero, kl, e]⟩
  ·exact ⟨k - i, by omega, by show ts (k - (k - i)) = t; rw [show k - (k - i) = i by omega, e]⟩
 ·have hst : r.first = M.l2 (-1) (ts (k - 0)) := by rw [hfirst, Nat.sub_zero, kl, h0, a2]
  unfold hull
  dsimp only
  rw [hr, hst, hnx, List.length_map, hlen, ← hnx]
  have := go_hull (M := M) (G := fun i => ts (k - i)) hget hG k 0 (by omega)
  simp only [Nat.zero_add] at this
  exact this
end
end Je
end Go.Proofs.Ytdihefgleefhmaa
/- A good mesh's areas are its border's: Sound. -/
namespace Go.Proofs.Ytdihefgleefhmaa
namespace Jf
open Ki Po Pc Pe Ks Kt Kx Kw Jc Jd Je
section
variable {c : Cfg} {S : Int → Prop} {M : Mesh} {n : Nat}
/-- a border's point, as a number. -/
def hn (M : Mesh) (G : Nat → Nat) (i : Nat) : Nat := (M.l2 (-1) (G i)).toNat
theorem hn_at (h : Del c S M) {G : Nat → Nat} {k : Nat} (hb : Border M G k) (i : Nat) : M.l2 (-1) (G i) = hn M G i ∧ hn M G i < c.pts.length ∧ S (hn M G i) := by
 obtain ⟨_, _, s2, _, m2, _⟩ := l_S h.poly (hb.has i)
 unfold hn
 rcases h.nat _ s2 with e | ⟨y, e, hy⟩
 ·exact absurd e m2
 ·rw [e]; rw [e] at s2; exact ⟨rfl, hy, s2⟩
theorem hull_at {G : Nat → Nat} {k : Nat} (hb : Border M G k) : (hull M).length = k ∧ ∀ i, i < k → (hull M).getD i 0 = M.l2 (-1) (G i) ∧ hullN M i = hn M G i := by
 have hl : (hull M).length = k := by rw [hb.hull]; simp
 have h1 : ∀ i, i < k → (hull M).getD i 0 = M.l2 (-1) (G i) := fun i hi => by
  rw [hb.hull, List.getD_eq_getElem?_getD, List.getElem?_map, List.getElem?_range hi]
  rfl
 exact ⟨hl, fun i hi => ⟨h1 i hi, by unfold hullN hn; rw [h1 i hi]⟩⟩
theorem turn (hc : c.Ok) (h : Del c S M) {G : Nat → Nat} {k : Nat} (hb : Border M G k) {i : Nat} (hi : i < k) {x : Nat} (hx : S x) : 0 ≤ ori (pat c.pts (hn M G i)) (pat c.pts (hn M G (i + 1))) (pat c.pts x) := by
 obtain ⟨j, hj, hp, hbb, q1, q2, _⟩ := at_place h.poly (hb.has i)
 obtain ⟨a1, a2, a3⟩ := hn_at h hb i
 obtain ⟨b1, b2, b3⟩ := hn_at h hb (i + 1)
 rw [hb.next i hi] at b1
 have := ghost_le hc h (hb.has i).1 hj hbb (q1.symm.trans b1) (q2.symm.trans a1) hx
 have e : ori (pat c.pts (hn M G i)) (pat c.pts (hn M G (i + 1))) (pat c.pts x) = - ori (pat c.pts (hn M G (i + 1))) (pat c.pts (hn M G i)) (pat c.pts x) := by unfold ori; grind
 omega
theorem hn_mod {G : Nat → Nat} {k : Nat} (hb : Border M G k) {i : Nat} (hi : i < k) : hn M G ((i + 1) % k) = hn M G (i + 1) := by
 by_cases e : i + 1 = k
 ·rw [e, Nat.mod_self]
  unfold hn
  rw [hb.last]
 ·rw [Nat.mod_eq_of_lt (by have := hb.pos; omega)]
theorem fan_sum (hc : c.Ok) (h : Del c S M) {G : Nat → Nat} {k : Nat} (hb : Border M G k) : ∀ i, i ≤ k → ((fanTo M k i : Nat) : Int) = ((List.range i).map fun j => cr (pat c.pts (hn M G j)) (pat c.pts (hn M G (j + 1)))).sum - cr (pat c.pts (hn M G 0)) (pat c.pts (hn M G i))
 | 0, _ => by
  show (0 : Int) = 0 - cr _ _
  unfold cr
  grind
 | i + 1, hi => by
  have ih := fan_sum hc h hb i (by omega)
  obtain ⟨_, hull⟩ := hull_at hb
  have hp := hb.pos
  have e : ((fanTo M k (i + 1) : Nat) : Int) = (fanTo M k i : Nat) + (fanN M k i : Nat) := by
   show ((fanTo M k i + fanN M k i : Nat) : Int) = _
   omega
  have hf : ((fanN M k i : Nat) : Int) = ori (pat c.pts (hn M G 0)) (pat c.pts (hn M G i)) (pat c.pts (hn M G (i + 1))) := by
   have ht := turn hc h hb (show i < k by omega) (hn_at h hb 0).2.2
   have er : ori (pat c.pts (hn M G 0)) (pat c.pts (hn M G i)) (pat c.pts (hn M G (i + 1))) = ori (pat c.pts (hn M G i)) (pat c.pts (hn M G (i + 1))) (pat c.pts (hn M G 0)) := by unfold ori; grind
   unfold fanN
   rw [(hull 0 hp).2, (hull i (by omega)).2, (hull _ (Nat.mod_lt _ hp)).2, hn_mod hb (show i < k by omega), h.pts]
   omega
  rw [e, hf, ih, List.range_succ, List.map_append, List.sum_append, ori_cr]
  simp only [List.map_cons, List.map_nil, List.sum_cons, List.sum_nil]
  have : cr (pat c.pts (hn M G (i + 1))) (pat c.pts (hn M G 0)) = - cr (pat c.pts (hn M G 0)) (pat c.pts (hn M G (i + 1))) := by unfold cr; grind
  omega
theorem area_ok (hc : c.Ok) (g : Good c S M n) (hn9 : n ≤ 1000000000) : AreaOk M := by
 obtain ⟨G, k, hb⟩ := border g
 have h := g.del
 obtain ⟨hl, hull⟩ := hull_at hb
 have hp := hb.pos
 refine ⟨fun t ht => ?_, by omega, by have := hb.few; have := g.few; omega, fun i hi => ?_, fun i j hi hj => ?_, ?_⟩
 ·obtain ⟨f, hf⟩ := real_of h ht
  have ho := hf.ori h (i := 0) (by omega)
  have w0 : (tat M.tris t).v0 = f 0 := hf.at_ 0 (by omega)
  have w1 : (tat M.tris t).v1 = f 1 := hf.at_ 1 (by omega)
  have w2 : (tat M.tris t).v2 = f 2 := hf.at_ 2 (by omega)
  rw [w0, w1, w2, h.pts]
  simp only [Int.toNat_natCast]
  exact Int.le_of_lt ho
 ·rw [hl] at hi
  obtain ⟨a1, a2, _⟩ := hn_at h hb i
  rw [(hull i hi).1, a1, h.pts]
  omega
 ·rw [hl] at hi hj ⊢
  rw [(hull i hi).2, (hull j hj).2, (hull _ (Nat.mod_lt _ hp)).2, hn_mod hb hi, h.pts]
  exact turn hc h hb hi (hn_at h hb j).2.2
 ·rw [hl]
  have e1 := areas h
  have e2 := fan_sum hc h hb k (Nat.le_refl _)
  have hz : cr (pat c.pts (hn M G 0)) (pat c.pts (hn M G k)) = 0 := by
   have : hn M G k = hn M G 0 := by unfold hn; rw [hb.last]
   rw [this]; unfold cr; grind
  have hpm : (hasTo M (-1) M.tris.length).Perm ((List.range k).map G) := by
   refine (List.perm_ext_iff_of_nodup (List.nodup_range.filter _) ?_).2 fun t => ?_
   ·rw [List.nodup_iff_pairwise_ne, List.pairwise_map]
    refine List.pairwise_lt_range.imp_of_mem fun ha hb' hab e => ?_
    rw [List.mem_range] at hb'
    exact hb.inj _ _ hab hb' e
   ·show t ∈ hasTo M (-1) M.tris.length ↔ _
    rw [mem_hasTo, List.mem_map]
    constructor
    ·intro ht
     obtain ⟨i, hi, e⟩ := hb.all t ht
     exact ⟨i, List.mem_range.2 hi, e⟩
    ·rintro ⟨i, _, rfl⟩
     exact hb.has i
  have e3 : ((hasTo M (-1) M.tris.length).map fun t => crI M.pts (M.l1 (-1) t) (M.l2 (-1) t)).sum = - ((List.range k).map fun j => cr (pat c.pts (hn M G j)) (pat c.pts (hn M G (j + 1)))).sum := by
   rw [perm_sum (hpm.map _), List.map_map, ← sum_neg]
   refine sum_congr fun i hi => ?_
   rw [List.mem_range] at hi
   show crI M.pts (M.l1 (-1) (G i)) (M.l2 (-1) (G i)) = _
   obtain ⟨a1, _⟩ := hn_at h hb i
   obtain ⟨b1, _⟩ := hn_at h hb (i + 1)
   rw [← hb.next i hi, a1, b1, h.pts]
   unfold crI
   rw [if_neg (by omega)]
   simp only [Int.toNat_natCast]
   unfold cr
   grind
  omega
end
end Jf
end Go.Proofs.Ytdihefgleefhmaa
