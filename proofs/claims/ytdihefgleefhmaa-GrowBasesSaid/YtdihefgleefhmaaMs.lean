/- Stores into a mesh's rows. -/
import Derived.Test.YtdihefgleefhmaaMe
import Derived.Maps.AppendAt
namespace Go.Proofs.Ytdihefgleefhmaa
open Go.RowKit
def Tri.setN (t : Tri) (i : Nat) (x : Int) : Tri := match i with
  | 0 => { t with n0 := x }
  | 1 => { t with n1 := x }
  | _ => { t with n2 := x }
def Tri.setF (t : Tri) (i : Nat) (x : Bool) : Tri := match i with
  | 0 => { t with f0 := x }
  | 1 => { t with f1 := x }
  | _ => { t with f2 := x }
theorem setN_cs (t : Tri) (i : Nat) (hi : i < 3) (x : Int) : (t.setN i x).cs = t.cs.set (3 + i) (.int .i64 x) := by
  match i, hi with
  | 0, _ => rfl
  | 1, _ => rfl
  | 2, _ => rfl
theorem setF_cs (t : Tri) (i : Nat) (hi : i < 3) (x : Bool) : (t.setF i x).cs = t.cs.set (6 + i) (.bool x) := by
  match i, hi with
  | 0, _ => rfl
  | 1, _ => rfl
  | 2, _ => rfl
def Mesh.setTri (M : Mesh) (t : Nat) (x : Tri) : Mesh := { M with tris := M.tris.set t x }
section
variable {B : Nat} {W : World}
theorem own_block {e s n : Nat} {v : Value} {xs : List Value} (h : W.ownsRow B e s v n xs) {g : Nat} (hg : v.ownBlock = some g) : ∃ cur, W.heap[g]? = some (.cells cur e (0, 0)) := by
  obtain ⟨_, ⟨rfl, _⟩ | ⟨g', c, cur, rfl, _, hh, _⟩⟩ := h
  · simp [Value.ownBlock] at hg
  · simp only [Value.ownBlock, Option.some.injEq] at hg
    subst hg
    exact ⟨cur, hh⟩
theorem own_ne {e s n e' s' n' : Nat} {v v' : Value} {xs xs' : List Value} (h : W.ownsRow B e s v n xs) (h' : W.ownsRow B e' s' v' n' xs') (he : e ≠ e') {g : Nat} (hg : v'.ownBlock = some g) : v.ownBlock ≠ some g := by
  intro hv
  obtain ⟨c1, k1⟩ := own_block h hv
  obtain ⟨c2, k2⟩ := own_block h' hg
  rw [k1] at k2
  simp only [Option.some.injEq, Obj.cells.injEq] at k2
  exact he k2.2.1
theorem blk_ne {b t : Nat} {cs : Array Value} {e s n : Nat} {v : Value} {xs : List Value} (h : Blk W b t cs) (h' : W.ownsRow B e s v n xs) (he : t ≠ e) {g : Nat} (hg : v.ownBlock = some g) : b ≠ g := by
  intro hv
  subst hv
  obtain ⟨c2, k2⟩ := own_block h' hg
  unfold Blk at h
  rw [h] at k2
  simp only [Option.some.injEq, Obj.cells.injEq] at k2
  exact he k2.2.1
variable {b : Nat} {M : Mesh} {pV fV aV : Value} {gt ct : Nat}
/-- a cell of the triangles' row is stored into. -/
theorem MAt.stored (h : MAt B W b M pV (.slice (some ⟨gt, 0, none⟩) M.tris.length ct) fV aV) (t j : Nat) (ht : t < M.tris.length) (hj : j < 9) (x : Tri) (u : Value) (hx : x.cs = (tat M.tris t).cs.set j u) :
    MAt B (W.setCell ⟨gt, t * 9 + j, none⟩ u) b (M.setTri t x) pV (.slice (some ⟨gt, 0, none⟩) M.tris.length ct) fV aV := by
  obtain ⟨hs, hg⟩ := h.tris.stored (t * 9 + j) u
  have hfl := flat_set Tri.cs 9 (fun _ => rfl) x u M.tris t j hj (fun a ha => by rw [tat_get ht] at ha; cases ha; exact hx)
  refine ⟨h.head.other (blk_ne h.head h.tris (by decide) rfl) _ _, h.le, ownsRow_setCell_other (a := ⟨gt, t * 9 + j, none⟩) h.pts (own_ne h.pts h.tris (by decide) rfl) u, ?_, ownsRow_setCell_other (a := ⟨gt, t * 9 + j, none⟩) h.free (own_ne h.free h.tris (by decide) rfl) u, ownsRow_setCell_other (a := ⟨gt, t * 9 + j, none⟩) h.at_ (own_ne h.at_ h.tris (by decide) rfl) u, h.apart⟩
  show World.ownsRow _ _ _ _ _ (M.tris.set t x).length ((M.tris.set t x).flatMap Tri.cs)
  rw [List.length_set, ← hfl]
  exact hs
theorem MAt.base_le (h : MAt B W b M pV (.slice (some ⟨gt, 0, none⟩) M.tris.length ct) fV aV) : B ≤ gt := (h.tris.lt gt rfl).1
end
theorem tat_set_same (l : List Tri) (t : Nat) (x : Tri) (ht : t < l.length) : tat (l.set t x) t = x := by unfold tat; simp [List.getD_eq_getElem?_getD, ht]
theorem tat_set_other (l : List Tri) (t u : Nat) (x : Tri) (h : t ≠ u) : tat (l.set t x) u = tat l u := by unfold tat; simp [List.getD_eq_getElem?_getD, List.getElem?_set_ne h]
end Go.Proofs.Ytdihefgleefhmaa
