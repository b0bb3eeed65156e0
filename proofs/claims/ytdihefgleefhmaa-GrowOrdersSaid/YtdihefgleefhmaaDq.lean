/- What Dig computes: the triangles that a point takes away, and their rim. -/
import Derived.Test.YtdihefgleefhmaaCf
import Derived.Test.YtdihefgleefhmaaMp
import Derived.Test.YtdihefgleefhmaaFn
import Derived.Test.YtdihefgleefhmaaAc
import Derived.Sort.OwnSortedInts
namespace Go.Proofs.Ytdihefgleefhmaa
open Go.RowKit
/-- an edge of a rim. -/
structure Side where
 a : Int
 b : Int
 out : Int
 i : Int
 fault : Bool
deriving DecidableEq
def Side.zero : Side := ⟨0, 0, 0, 0, false⟩
abbrev sv (s : Side) : Value := .agg #[.int .i64 s.a, .int .i64 s.b, .int .i64 s.out, .int .i64 s.i, .bool s.fault]
abbrev Side.cs (s : Side) : List Value := [.int .i64 s.a, .int .i64 s.b, .int .i64 s.out, .int .i64 s.i, .bool s.fault]
/-- a triangle is taken, if it isn't there, lies across no fault, and is in conflict. -/
def digOne (M : Mesh) (p : Pt) (cs : List Nat) (u : Nat) (f : Bool) : List Nat :=
 if u ∈ cs then cs else if f = true then cs else if conflict M (tat M.tris u) p = true then cs ++ [u] else cs
def digTri (M : Mesh) (p : Pt) (T : Tri) : Nat → List Nat → List Nat
 | 0, cs => cs
 | k + 1, cs => digOne M p (digTri M p T k cs) (T.n k).toNat (T.f k)
def digGo (M : Mesh) (p : Pt) : Nat → Nat → List Nat → List Nat
 | 0, _, cs => cs
 | f + 1, k, cs => if k < cs.length then digGo M p f (k + 1) (digTri M p (tat M.tris (cs.getD k 0)) 3 cs) else cs
/-- where a triangle stands among another one's neighbours. -/
def nidx (T : Tri) (t : Int) : Int := if T.n0 = t then 0 else if T.n1 = t then 1 else if T.n2 = t then 2 else -1
def sideOf (M : Mesh) (t : Nat) (T : Tri) (i : Nat) : Side := ⟨T.v ((i + 1) % 3), T.v ((i + 2) % 3), T.n i, nidx (tat M.tris (T.n i).toNat) t, T.f i⟩
structure Rims where
 begins : List (Int × Side)
 least : Int
 cut : Bool
deriving DecidableEq
def Rims.with (M : Mesh) (p : Pt) (r : Rims) (s : Side) : Rims := ⟨mput s.a s r.begins, min r.least s.a, r.cut || (s.fault && conflict M (tat M.tris s.out.toNat) p)⟩
def rimOne (M : Mesh) (p : Pt) (cs : List Nat) (t : Nat) (T : Tri) (r : Rims) (i : Nat) : Rims :=
 if (T.n i).toNat ∈ cs then r else r.with M p (sideOf M t T i)
def rimTri (M : Mesh) (p : Pt) (cs : List Nat) (t : Nat) (T : Tri) : Nat → Rims → Rims
 | 0, r => r
 | k + 1, r => rimOne M p cs t T (rimTri M p cs t T k r) k
def rimAll (M : Mesh) (p : Pt) (cs : List Nat) (r : Rims) : List Nat → Rims
 | [] => r
 | t :: l => rimAll M p cs (rimTri M p cs t (tat M.tris t) 3 r) l
def rimGo (l : List (Int × Side)) : Nat → Int → List Side
 | 0, _ => []
 | n + 1, a => mget Side.zero a l :: rimGo l n (mget Side.zero a l).b
/-- numbers in order. -/
def isert (x : Nat) : List Nat → List Nat
 | [] => [x]
 | y :: l => if x ≤ y then x :: y :: l else y :: isert x l
def isort : List Nat → List Nat
 | [] => []
 | x :: l => isert x (isort l)
structure Cavity where
 tris : List Nat
 rim : List Side
 cut : Bool
deriving DecidableEq
def digStart (M : Mesh) (q : Place) : List Nat := if q.kind = 1 then [q.tri.toNat, (acrossOf (tat M.tris q.tri.toNat) q.a q.b).toNat] else [q.tri.toNat]
def digRims (M : Mesh) (p : Pt) (cs : List Nat) : Rims := rimAll M p cs ⟨[], M.pts.length, false⟩ cs
def dig (M : Mesh) (p : Pt) (q : Place) : Cavity :=
 let cs := isort (digGo M p (M.tris.length + 1) 0 (digStart M q))
 let r := digRims M p cs
 ⟨cs, rimGo r.begins r.begins.length r.least, r.cut⟩
/-- a triangle that isn't gone. -/
def Mesh.live (M : Mesh) (t : Nat) : Prop := t < M.tris.length ∧ (tat M.tris t).v0 ≠ -2
/-- neighbours and points are there, one ghost at most in a triangle. -/
structure Mesh.sane (M : Mesh) : Prop where
 nb : ∀ t, M.live t → ∀ j, j < 3 → ∃ u : Nat, (tat M.tris t).n j = u ∧ M.live u
 vs : ∀ t, M.live t → ∀ j, j < 3 → (tat M.tris t).v j ≠ -1 → 0 ≤ (tat M.tris t).v j ∧ (tat M.tris t).v j < M.pts.length
 g0 : ∀ t, M.live t → (tat M.tris t).v0 = -1 → (tat M.tris t).v1 ≠ -1 ∧ (tat M.tris t).v2 ≠ -1
 g1 : ∀ t, M.live t → (tat M.tris t).v1 = -1 → (tat M.tris t).v2 ≠ -1
/-- the circles' test is right at all triangles. -/
def Mesh.circ (M : Mesh) (p : Pt) : Prop := ∀ t, M.live t → CircOk (pat M.pts (tat M.tris t).v0.toNat) (pat M.pts (tat M.tris t).v1.toNat) (pat M.pts (tat M.tris t).v2.toNat) p
namespace Dq
theorem conflict_live (M : Mesh) (p : Pt) (ho : M.ok) (hp : p.near) (hs : M.sane) (hc : M.circ p) (b t : Nat) (ht : M.live t) (w : World) (h : MeshR w b M) :
  Calls Try.prog 84 #[.pointer (some ⟨b, 0, none⟩), .int .i64 t, pv p] w fun e w' => e = .returned (.bool (conflict M (tat M.tris t) p)) ∧ Below w.heap.size w w' :=
 Cf.conflict_any M b t p w h ho hp ht.1 _ rfl (hs.vs t ht) (hs.g0 t ht) (hs.g1 t ht) (hc t ht)
/-- numbers without a double, all of them below n, are n at most. -/
theorem nodup_len : ∀ (n : Nat) (l : List Nat), l.Nodup → (∀ x ∈ l, x < n) → l.length ≤ n
 | 0, [], _, _ => Nat.le_refl _
 | 0, x :: _, _, h => absurd (h x (by simp)) (by omega)
 | n + 1, l, hd, h => by
  have h1 : (l.erase n).length ≤ n := nodup_len n _ (hd.erase _) fun x hx => by
   have hx1 := h x (List.mem_of_mem_erase hx)
   have hx2 : x ≠ n := fun e => by subst e; exact (hd.mem_erase_iff.1 hx).1 rfl
   omega
  rw [List.length_erase] at h1
  split at h1 <;> omega
/-- what the list of taken triangles keeps. -/
structure Taken (M : Mesh) (cs : List Nat) : Prop where
 nodup : cs.Nodup
 live : ∀ u ∈ cs, M.live u
theorem Taken.len {M : Mesh} {cs : List Nat} (h : Taken M cs) : cs.length ≤ M.tris.length := nodup_len _ _ h.nodup fun x hx => (h.live x hx).1
theorem Taken.one {M : Mesh} {p : Pt} {cs : List Nat} (h : Taken M cs) {u : Nat} (hu : M.live u) (f : Bool) : Taken M (digOne M p cs u f) := by
 unfold digOne
 split
 ·exact h
 ·rename_i hm
  split
  ·exact h
  ·split
   ·refine ⟨?_, fun x hx => ?_⟩
    ·rw [List.nodup_append]
     exact ⟨h.nodup, by simp, fun a ha b hb e => hm (by simp only [List.mem_singleton] at hb; rw [← hb, ← e]; exact ha)⟩
    ·rcases List.mem_append.1 hx with hx | hx
     ·exact h.live x hx
     ·simp only [List.mem_singleton] at hx
      exact hx ▸ hu
   ·exact h
theorem one_le (M : Mesh) (p : Pt) (cs : List Nat) (u : Nat) (f : Bool) : cs <+: digOne M p cs u f := by
 unfold digOne
 split
 ·exact List.prefix_rfl
 ·split
  ·exact List.prefix_rfl
  ·split
   ·exact List.prefix_append _ _
   ·exact List.prefix_rfl
theorem Taken.tri {M : Mesh} {p : Pt} {cs : List Nat} (h : Taken M cs) (hs : M.sane) {t : Nat} (ht : M.live t) : ∀ k, k ≤ 3 → Taken M (digTri M p (tat M.tris t) k cs)
 | 0, _ => h
 | k + 1, hk => by
  obtain ⟨u, hu, hl⟩ := hs.nb t ht k (by omega)
  unfold digTri
  refine (h.tri hs ht k (by omega)).one ?_ _
  rw [hu]
  exact hl
end Dq
end Go.Proofs.Ytdihefgleefhmaa
/- Numbers in order, and what the sort makes of a slice of them. -/
namespace Go.Proofs.Ytdihefgleefhmaa
open Go.RowKit
namespace Dq
theorem isert_perm (x : Nat) : ∀ l : List Nat, (isert x l).Perm (x :: l)
 | [] => .refl _
 | y :: l => by
  unfold isert
  split
  ·exact .refl _
  ·exact ((isert_perm x l).cons y).trans (.swap x y l)
theorem isort_perm : ∀ l : List Nat, (isort l).Perm l
 | [] => .refl _
 | x :: l => (isert_perm x (isort l)).trans ((isort_perm l).cons x)
theorem isert_pair (x : Nat) : ∀ l : List Nat, l.Pairwise (· ≤ ·) → (isert x l).Pairwise (· ≤ ·)
 | [], _ => by simp [isert]
 | y :: l, h => by
  obtain ⟨h1, h2⟩ := List.pairwise_cons.1 h
  unfold isert
  split
  ·rename_i hx
   exact List.pairwise_cons.2 ⟨fun z hz => by
    rcases List.mem_cons.1 hz with rfl | hz
    ·exact hx
    ·have := h1 z hz
     omega, h⟩
  ·rename_i hx
   exact List.pairwise_cons.2 ⟨fun z hz => by
    rcases List.mem_cons.1 ((isert_perm x l).mem_iff.1 hz) with rfl | hz
    ·omega
    ·exact h1 z hz, isert_pair x l h2⟩
theorem isort_pair : ∀ l : List Nat, (isort l).Pairwise (· ≤ ·)
 | [] => .nil
 | x :: l => isert_pair x _ (isort_pair l)
theorem merge_isort (l : List Nat) : ((l.map fun (n : Nat) => (n : Int)).mergeSort fun x y => decide (x ≤ y)) = (isort l).map fun (n : Nat) => (n : Int) := by
 refine List.Perm.eq_of_pairwise (le := fun x y : Int => x ≤ y) (fun a b _ _ h1 h2 => by omega) ?_ ?_ ?_
 ·have := List.pairwise_mergeSort (le := fun x y : Int => decide (x ≤ y)) (fun a b c h1 h2 => by simp only [decide_eq_true_eq] at *; omega) (fun a b => by simp only [Bool.or_eq_true, decide_eq_true_eq]; omega) (l.map fun (n : Nat) => (n : Int))
  exact this.imp fun h => by simpa using h
 ·rw [List.pairwise_map]
  exact (isort_pair l).imp fun h => by omega
 ·exact (List.mergeSort_perm _ _).trans ((isort_perm l).symm.map _)
theorem isort_mem (l : List Nat) (x : Nat) : x ∈ isort l ↔ x ∈ l := (isort_perm l).mem_iff
theorem isort_len (l : List Nat) : (isort l).length = l.length := (isort_perm l).length_eq
theorem Taken.sort {M : Mesh} {cs : List Nat} (h : Taken M cs) : Taken M (isort cs) := ⟨(isort_perm cs).nodup_iff.2 h.nodup, fun u hu => h.live u ((isort_mem cs u).1 hu)⟩
theorem tri_le (M : Mesh) (p : Pt) (T : Tri) (cs : List Nat) : ∀ k, cs <+: digTri M p T k cs
 | 0 => List.prefix_rfl
 | k + 1 => (tri_le M p T cs k).trans (one_le _ _ _ _ _)
/-- the slice of numbers, behind the library's sort. -/
theorem own_sorted {W : World} {B g n cap k : Nat} {cs : List Nat} {os : Array Obj} (h : W.ownsRow B 3 1 (.slice (some ⟨g, 0, none⟩) n cap) n (cs.map fun (n : Nat) => Value.int .i64 n)) :
  Go.Sort.Holds (Value.int .i64) W g 0 (cs.map fun (n : Nat) => (n : Int)).toArray ∧ g < W.heap.size ∧
  (Go.Sort.grow (Go.Sort.putRow (Value.int .i64) (Go.Sort.ahead W k) g 0 ((cs.map fun (n : Nat) => (n : Int)).mergeSort fun x y => decide (x ≤ y)).toArray) os).ownsRow B 3 1 (.slice (some ⟨g, 0, none⟩) n cap) n ((isort cs).map fun (n : Nat) => Value.int .i64 n) ∧
  W.grownBy (Go.Sort.grow (Go.Sort.putRow (Value.int .i64) (Go.Sort.ahead W k) g 0 ((cs.map fun (n : Nat) => (n : Int)).mergeSort fun x y => decide (x ≤ y)).toArray) os) (some g) := by
 obtain ⟨hl, ⟨h0, _⟩ | ⟨g', cap', cur, hv, hB, hc, h1, h2, h3, h4⟩⟩ := h
 ·cases h0
 ·simp only [Value.slice.injEq, Option.some.injEq, Addr.mk.injEq, and_true, true_and] at hv
  obtain ⟨rfl, rfl⟩ := hv
  have hn : cs.length = n := by simpa using hl
  subst hn
  refine ⟨holds_of_blockI hc (by simpa [List.map_map, Function.comp_def] using h4), (Array.getElem?_eq_some_iff.1 hc).1, ?_, grownBy_sortedI _⟩
  have := ownsRow_sortedI (w := W) (base := B) (n := k) (os := os) (ss := cs.map fun (n : Nat) => (n : Int)) (ts := (isort cs).map fun (n : Nat) => (n : Int)) (by simp [isort_len]) hB hc (by simpa using h1) h2 h3
  rw [merge_isort]
  simpa [List.map_map, Function.comp_def] using this
end Dq
end Go.Proofs.Ytdihefgleefhmaa
