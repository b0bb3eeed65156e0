/- A mesh, and how it lies in memory. -/
import Derived.Test.YtdihefgleefhmaaFl
import Derived.Laws.OwnMore
import Derived.OwnWalk
namespace Go.Proofs.Ytdihefgleefhmaa
open Go.RowKit
/-- a triangle: its points, what lies across, which edges are faults. -/
structure Tri where
  v0 : Int
  v1 : Int
  v2 : Int
  n0 : Int
  n1 : Int
  n2 : Int
  f0 : Bool
  f1 : Bool
  f2 : Bool
deriving DecidableEq
def Tri.gone : Tri := ⟨-2, -2, -2, -1, -1, -1, false, false, false⟩
def Tri.v (t : Tri) : Nat → Int
  | 0 => t.v0
  | 1 => t.v1
  | _ => t.v2
def Tri.n (t : Tri) : Nat → Int
  | 0 => t.n0
  | 1 => t.n1
  | _ => t.n2
def Tri.f (t : Tri) : Nat → Bool
  | 0 => t.f0
  | 1 => t.f1
  | _ => t.f2
abbrev Tri.cs (t : Tri) : List Value := [.int .i64 t.v0, .int .i64 t.v1, .int .i64 t.v2, .int .i64 t.n0, .int .i64 t.n1, .int .i64 t.n2, .bool t.f0, .bool t.f1, .bool t.f2]
abbrev tv (t : Tri) : Value := .agg #[.int .i64 t.v0, .int .i64 t.v1, .int .i64 t.v2, .int .i64 t.n0, .int .i64 t.n1, .int .i64 t.n2, .bool t.f0, .bool t.f1, .bool t.f2]
abbrev Pt.cs (p : Pt) : List Value := [.int .i64 p.x, .int .i64 p.y]
structure Mesh where
  pts : List Pt
  tris : List Tri
  free : List Nat
  at_ : List Int
deriving DecidableEq
/-- the triangle of a number. -/
def tat (l : List Tri) (i : Nat) : Tri := l.getD i Tri.gone
def iat (l : List Int) (i : Nat) : Int := l.getD i 0
/-- rows of elements of k cells each. -/
theorem flat_get {α β : Type} (f : α → List β) (k : Nat) (hf : ∀ a, (f a).length = k) : ∀ (l : List α) (i j : Nat), j < k → (l.flatMap f)[i * k + j]? = (l[i]?).bind fun a => (f a)[j]?
  | [], i, j, _ => by simp
  | a :: l, 0, j, hj => by
    rw [List.flatMap_cons, Nat.zero_mul, Nat.zero_add, List.getElem?_append_left (by rw [hf]; exact hj)]
    rfl
  | a :: l, i + 1, j, hj => by
    rw [List.flatMap_cons, List.getElem?_append_right (by rw [hf, Nat.add_mul]; omega), hf]
    have e : (i + 1) * k + j - k = i * k + j := by rw [Nat.add_mul]; omega
    rw [e, flat_get f k hf l i j hj]
    rfl
theorem flat_len {α β : Type} (f : α → List β) (k : Nat) (hf : ∀ a, (f a).length = k) : ∀ l : List α, (l.flatMap f).length = l.length * k
  | [] => by simp
  | a :: l => by rw [List.flatMap_cons, List.length_append, hf, flat_len f k hf l, List.length_cons, Nat.add_mul]; omega
theorem flat_set {α β : Type} (f : α → List β) (k : Nat) (hf : ∀ a, (f a).length = k) (a' : α) (u : β) : ∀ (l : List α) (i j : Nat), j < k → (∀ a, l[i]? = some a → f a' = (f a).set j u) → (l.flatMap f).set (i * k + j) u = (l.set i a').flatMap f
  | [], i, j, _, _ => by simp
  | a :: l, 0, j, hj, h => by
    have h' := h a rfl
    rw [List.flatMap_cons, Nat.zero_mul, Nat.zero_add, List.set_append_left _ _ (by rw [hf]; exact hj), List.set_cons_zero, List.flatMap_cons, h']
  | a :: l, i + 1, j, hj, h => by
    rw [List.flatMap_cons, List.set_append_right _ _ (by rw [hf, Nat.add_mul]; omega), hf]
    have e : (i + 1) * k + j - k = i * k + j := by rw [Nat.add_mul]; omega
    rw [e, flat_set f k hf a' u l i j hj (fun b hb => h b hb), List.set_cons_succ, List.flatMap_cons]
theorem grown_later {W W' : World} (hb : Below W.heap.size W W') : W.grownBy W' none := ⟨hb.os, hb.tape, hb.output, hb.size, fun k hk _ => hb.block k hk⟩
theorem own_shape {W : World} {B e s n : Nat} {v : Value} {xs : List Value} (h : W.ownsRow B e s v n xs) (hn : 0 < n) : ∃ g c, v = .slice (some ⟨g, 0, none⟩) n c ∧ B ≤ g := by
  obtain ⟨_, ⟨_, h0⟩ | ⟨g, c, cur, hv, hB, _⟩⟩ := h
  · omega
  · exact ⟨g, c, hv, hB⟩
theorem own_later {W W' : World} {B e s n : Nat} {v : Value} {xs : List Value} (h : W.ownsRow B e s v n xs) (hb : Below W.heap.size W W') : W'.ownsRow B e s v n xs := by
  cases ho : v.ownBlock with
  | none => exact h.kept (grown_later hb) (.inl ho)
  | some g => exact h.kept (grown_later hb) (.inr (by rw [ho]; simp))
/-- a mesh that lies, with its header in block b, in blocks from B on. -/
structure MAt (B : Nat) (W : World) (b : Nat) (M : Mesh) (pV tV fV aV : Value) : Prop where
  head : Blk W b 53 #[pV, tV, fV, aV]
  le : B ≤ b
  pts : W.ownsRow B 32 2 pV M.pts.length (M.pts.flatMap Pt.cs)
  tris : W.ownsRow B 61 9 tV M.tris.length (M.tris.flatMap Tri.cs)
  free : W.ownsRow B 3 1 fV M.free.length (M.free.map fun (n : Nat) => Value.int .i64 n)
  at_ : W.ownsRow B 3 1 aV M.at_.length (M.at_.map (Value.int .i64))
  apart : fV.ownBlock = none ∨ fV.ownBlock ≠ aV.ownBlock
def MeshAt (B : Nat) (W : World) (b : Nat) (M : Mesh) : Prop := ∃ pV tV fV aV, MAt B W b M pV tV fV aV
theorem MAt.later {B : Nat} {W W' : World} {b : Nat} {M : Mesh} {pV tV fV aV : Value} (h : MAt B W b M pV tV fV aV) (hb : Below W.heap.size W W') : MAt B W' b M pV tV fV aV :=
  ⟨h.head.later hb, h.le, own_later h.pts hb, own_later h.tris hb, own_later h.free hb, own_later h.at_ hb, h.apart⟩
theorem MeshAt.later {B : Nat} {W W' : World} {b : Nat} {M : Mesh} (h : MeshAt B W b M) (hb : Below W.heap.size W W') : MeshAt B W' b M := by
  obtain ⟨pV, tV, fV, aV, h⟩ := h
  exact ⟨pV, tV, fV, aV, h.later hb⟩
/-- what is read of a mesh. -/
def TriAt (W : World) (g i : Nat) (t : Tri) : Prop :=
  W.cell? ⟨g, i * 9, none⟩ = some (.int .i64 t.v0) ∧ W.cell? ⟨g, i * 9 + 1, none⟩ = some (.int .i64 t.v1) ∧ W.cell? ⟨g, i * 9 + 2, none⟩ = some (.int .i64 t.v2) ∧
  W.cell? ⟨g, i * 9 + 3, none⟩ = some (.int .i64 t.n0) ∧ W.cell? ⟨g, i * 9 + 4, none⟩ = some (.int .i64 t.n1) ∧ W.cell? ⟨g, i * 9 + 5, none⟩ = some (.int .i64 t.n2) ∧
  W.cell? ⟨g, i * 9 + 6, none⟩ = some (.bool t.f0) ∧ W.cell? ⟨g, i * 9 + 7, none⟩ = some (.bool t.f1) ∧ W.cell? ⟨g, i * 9 + 8, none⟩ = some (.bool t.f2)
structure MR (W : World) (b : Nat) (M : Mesh) (gp cp gt ct ga ca : Nat) (fV : Value) : Prop where
  head : Blk W b 53 #[.slice (some ⟨gp, 0, none⟩) M.pts.length cp, .slice (some ⟨gt, 0, none⟩) M.tris.length ct, fV, .slice (some ⟨ga, 0, none⟩) M.at_.length ca]
  pts : ∀ i, i < M.pts.length → W.cell? ⟨gp, i * 2, none⟩ = some (.int .i64 (pat M.pts i).x) ∧ W.cell? ⟨gp, i * 2 + 1, none⟩ = some (.int .i64 (pat M.pts i).y)
  tris : ∀ i, i < M.tris.length → TriAt W gt i (tat M.tris i)
  at_ : ∀ i, i < M.at_.length → W.cell? ⟨ga, i, none⟩ = some (.int .i64 (iat M.at_ i))
def MeshR (W : World) (b : Nat) (M : Mesh) : Prop := ∃ gp cp gt ct ga ca fV, MR W b M gp cp gt ct ga ca fV
theorem cell_later {W W' : World} {p : Addr} {v : Value} (h : W.cell? p = some v) (hb : Below W.heap.size W W') : W'.cell? p = some v := (hb.cell (World.block_lt_of_cell? _ _ h)).trans h
theorem TriAt.later {W W' : World} {g i : Nat} {t : Tri} (h : TriAt W g i t) (hb : Below W.heap.size W W') : TriAt W' g i t := by
  obtain ⟨h0, h1, h2, h3, h4, h5, h6, h7, h8⟩ := h
  exact ⟨cell_later h0 hb, cell_later h1 hb, cell_later h2 hb, cell_later h3 hb, cell_later h4 hb, cell_later h5 hb, cell_later h6 hb, cell_later h7 hb, cell_later h8 hb⟩
theorem MR.later {W W' : World} {b : Nat} {M : Mesh} {gp cp gt ct ga ca : Nat} {fV : Value} (h : MR W b M gp cp gt ct ga ca fV) (hb : Below W.heap.size W W') : MR W' b M gp cp gt ct ga ca fV :=
  ⟨h.head.later hb, fun i hi => ⟨cell_later (h.pts i hi).1 hb, cell_later (h.pts i hi).2 hb⟩, fun i hi => (h.tris i hi).later hb, fun i hi => cell_later (h.at_ i hi) hb⟩
theorem MeshR.later {W W' : World} {b : Nat} {M : Mesh} (h : MeshR W b M) (hb : Below W.heap.size W W') : MeshR W' b M := by
  obtain ⟨gp, cp, gt, ct, ga, ca, fV, h⟩ := h
  exact ⟨gp, cp, gt, ct, ga, ca, fV, h.later hb⟩
theorem pat_get {l : List Pt} {i : Nat} (h : i < l.length) : l[i]? = some (pat l i) := by unfold pat; rw [List.getD_eq_getElem?_getD, List.getElem?_eq_getElem h]; rfl
theorem tat_get {l : List Tri} {i : Nat} (h : i < l.length) : l[i]? = some (tat l i) := by unfold tat; rw [List.getD_eq_getElem?_getD, List.getElem?_eq_getElem h]; rfl
theorem iat_get {l : List Int} {i : Nat} (h : i < l.length) : l[i]? = some (iat l i) := by unfold iat; rw [List.getD_eq_getElem?_getD, List.getElem?_eq_getElem h]; rfl
theorem MeshAt.read {B : Nat} {W : World} {b : Nat} {M : Mesh} (h : MeshAt B W b M) (hp : 0 < M.pts.length) (ht : 0 < M.tris.length) (ha : 0 < M.at_.length) : MeshR W b M := by
  obtain ⟨pV, tV, fV, aV, h⟩ := h
  obtain ⟨gp, cp, rfl, _⟩ := own_shape h.pts hp
  obtain ⟨gt, ct, rfl, _⟩ := own_shape h.tris ht
  obtain ⟨ga, ca, rfl, _⟩ := own_shape h.at_ ha
  refine ⟨gp, cp, gt, ct, ga, ca, fV, h.head, fun i hi => ?_, fun i hi => ?_, fun i hi => ?_⟩
  · have k := fun j (hj : j < 2) => (h.pts.cellAt (i * 2 + j) (by omega)).trans ((flat_get Pt.cs 2 (fun _ => rfl) M.pts i j hj).trans (by rw [pat_get hi]))
    exact ⟨k 0 (by omega), k 1 (by omega)⟩
  · have k := fun j (hj : j < 9) => (h.tris.cellAt (i * 9 + j) (by omega)).trans ((flat_get Tri.cs 9 (fun _ => rfl) M.tris i j hj).trans (by rw [tat_get hi]))
    exact ⟨k 0 (by omega), k 1 (by omega), k 2 (by omega), k 3 (by omega), k 4 (by omega), k 5 (by omega), k 6 (by omega), k 7 (by omega), k 8 (by omega)⟩
  · have := h.at_.cellAt i (by omega)
    rw [this, List.getElem?_map, iat_get hi]
    rfl
end Go.Proofs.Ytdihefgleefhmaa
