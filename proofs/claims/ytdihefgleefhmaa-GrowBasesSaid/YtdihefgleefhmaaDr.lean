/- Drop: a triangle is gone. -/
import Derived.Test.YtdihefgleefhmaaLk
import Derived.Maps.AppendAt
namespace Go.Proofs.Ytdihefgleefhmaa
open Go.RowKit
theorem Try.info3' : (Try.prog.info? 3).map (fun i => (i.zero, i.size, i.bytes)) = some (some (.int .i64 0), 1, 8) := by kernel_rfl
section
variable {B : Nat} {W : World} {b : Nat} {M : Mesh} {pV fV aV : Value} {gt ct n : Nat}
/-- the nine stores of a whole triangle. -/
def World.putTri (W : World) (g o : Nat) (x : Tri) : World :=
  ((((((((W.setCell ⟨g, o, none⟩ (.int .i64 x.v0)).setCell ⟨g, o + 1, none⟩ (.int .i64 x.v1)).setCell ⟨g, o + 2, none⟩ (.int .i64 x.v2)).setCell ⟨g, o + 3, none⟩ (.int .i64 x.n0)).setCell ⟨g, o + 4, none⟩ (.int .i64 x.n1)).setCell ⟨g, o + 5, none⟩ (.int .i64 x.n2)).setCell ⟨g, o + 6, none⟩ (.bool x.f0)).setCell ⟨g, o + 7, none⟩ (.bool x.f1)).setCell ⟨g, o + 8, none⟩ (.bool x.f2)
theorem setTri_setTri (M : Mesh) (t : Nat) (x y : Tri) : (M.setTri t x).setTri t y = M.setTri t y := by unfold Mesh.setTri; simp
theorem MAt.putTri (h : MAt B W b M pV (.slice (some ⟨gt, 0, none⟩) n ct) fV aV) (hn : M.tris.length = n) (t : Nat) (ht : t < n) (x : Tri) :
    MAt B (World.putTri W gt (t * 9) x) b (M.setTri t x) pV (.slice (some ⟨gt, 0, none⟩) n ct) fV aV := by
  have step := fun (W : World) (y : Tri) (hy : MAt B W b (M.setTri t y) pV (.slice (some ⟨gt, 0, none⟩) n ct) fV aV) (j : Nat) (hj : j < 9) (z : Tri) (u : Value) (hz : z.cs = y.cs.set j u) =>
    (setTri_setTri M t y z) ▸ Lk.stored' hy ((Lk.len_set _ _ _).trans hn) t j ht hj z u (by show _ = (tat (M.tris.set t y) t).cs.set j u; rw [tat_set_same _ _ _ (by omega)]; exact hz)
  have h0 := Lk.stored' h hn t 0 ht (by omega) { tat M.tris t with v0 := x.v0 } (.int .i64 x.v0) rfl
  have h1 := step _ _ h0 1 (by omega) { tat M.tris t with v0 := x.v0, v1 := x.v1 } (.int .i64 x.v1) rfl
  have h2 := step _ _ h1 2 (by omega) { tat M.tris t with v0 := x.v0, v1 := x.v1, v2 := x.v2 } (.int .i64 x.v2) rfl
  have h3 := step _ _ h2 3 (by omega) { tat M.tris t with v0 := x.v0, v1 := x.v1, v2 := x.v2, n0 := x.n0 } (.int .i64 x.n0) rfl
  have h4 := step _ _ h3 4 (by omega) { tat M.tris t with v0 := x.v0, v1 := x.v1, v2 := x.v2, n0 := x.n0, n1 := x.n1 } (.int .i64 x.n1) rfl
  have h5 := step _ _ h4 5 (by omega) { tat M.tris t with v0 := x.v0, v1 := x.v1, v2 := x.v2, n0 := x.n0, n1 := x.n1, n2 := x.n2 } (.int .i64 x.n2) rfl
  have h6 := step _ _ h5 6 (by omega) { tat M.tris t with v0 := x.v0, v1 := x.v1, v2 := x.v2, n0 := x.n0, n1 := x.n1, n2 := x.n2, f0 := x.f0 } (.bool x.f0) rfl
  have h7 := step _ _ h6 7 (by omega) { tat M.tris t with v0 := x.v0, v1 := x.v1, v2 := x.v2, n0 := x.n0, n1 := x.n1, n2 := x.n2, f0 := x.f0, f1 := x.f1 } (.bool x.f1) rfl
  exact step _ _ h7 8 (by omega) x (.bool x.f2) rfl
theorem below_putTri (hB : B ≤ gt) {W0 : World} (h : Below B W0 W) (o : Nat) (x : Tri) : Below B W0 (World.putTri W gt o x) :=
  ((((((((h.setCell (p := ⟨gt, _, none⟩) hB _).setCell (p := ⟨gt, _, none⟩) hB _).setCell (p := ⟨gt, _, none⟩) hB _).setCell (p := ⟨gt, _, none⟩) hB _).setCell (p := ⟨gt, _, none⟩) hB _).setCell (p := ⟨gt, _, none⟩) hB _).setCell (p := ⟨gt, _, none⟩) hB _).setCell (p := ⟨gt, _, none⟩) hB _).setCell (p := ⟨gt, _, none⟩) hB _
theorem same_putTri {F : Nat → Prop} (hF : ¬ F gt) {W0 : World} (h : Same F W0 W) (o : Nat) (x : Tri) : Same F W0 (World.putTri W gt o x) :=
  ((((((((h.set hF _ _).set hF _ _).set hF _ _).set hF _ _).set hF _ _).set hF _ _).set hF _ _).set hF _ _).set hF _ _
/-- the mesh behind an append to the list of what is free. -/
theorem MAt.grownFree {tV : Value} (h : MAt B W b M pV tV fV aV) {W1 : World} {v' : Value} {l : List Nat} (hrow : W1.ownsRow B 3 1 v' l.length (l.map fun (n : Nat) => Value.int .i64 n)) (hg : W.grownBy W1 fV.ownBlock) (hat : v'.ownBlock = fV.ownBlock ∨ v'.ownBlock = some W.heap.size) :
    MAt B (W1.setCell ⟨b, 2, none⟩ v') b { M with free := l } pV tV v' aV := by
  have fne : ∀ {g : Nat}, fV.ownBlock = some g → b ≠ g := fun hg => blk_ne h.head h.free (by decide) hg
  have kh : Blk W1 b 53 #[pV, tV, fV, aV] := (hg.block b h.head.lt (fun e => fne e.symm rfl)).trans h.head
  have kept : ∀ {e s n : Nat} {v : Value} {xs : List Value}, W.ownsRow B e s v n xs → (v.ownBlock = none ∨ v.ownBlock ≠ fV.ownBlock) → W1.ownsRow B e s v n xs := fun h h' => h.kept hg h'
  have apart2 : ∀ {e s n : Nat} {v : Value} {xs : List Value}, W.ownsRow B e s v n xs → e ≠ 3 → (v.ownBlock = none ∨ v.ownBlock ≠ fV.ownBlock) := by
    intro e s n v xs hv he
    cases ho : fV.ownBlock with
    | none => cases hv' : v.ownBlock with
      | none => exact .inl rfl
      | some g => exact .inr (by simp)
    | some g => exact .inr (own_ne hv h.free he ho)
  have aap : aV.ownBlock = none ∨ aV.ownBlock ≠ fV.ownBlock := by
    rcases h.apart with h1 | h1
    · cases ha : aV.ownBlock with
      | none => exact .inl rfl
      | some g => exact .inr (by rw [h1]; simp)
    · exact .inr (Ne.symm h1)
  have ra := kept h.at_ aap
  have rp := kept h.pts (apart2 h.pts (by decide))
  have rt := kept h.tris (apart2 h.tris (by decide))
  refine ⟨kh.set 2 v', h.le, ownsRow_setCell_other (a := ⟨b, 2, none⟩) rp ?_ _, ownsRow_setCell_other (a := ⟨b, 2, none⟩) rt ?_ _, ownsRow_setCell_other (a := ⟨b, 2, none⟩) hrow ?_ _, ownsRow_setCell_other (a := ⟨b, 2, none⟩) ra ?_ _, ?_⟩
  · exact fun e => blk_ne kh rp (by decide) e rfl
  · exact fun e => blk_ne kh rt (by decide) e rfl
  · exact fun e => blk_ne kh hrow (by decide) e rfl
  · exact fun e => blk_ne kh ra (by decide) e rfl
  · rcases hat with h1 | h1
    · rw [h1]; exact h.apart
    · refine .inr (fun e => ?_)
      have := (h.at_.lt W.heap.size (e.symm.trans h1)).2
      omega
end
section
variable {B : Nat} {W : World} {b : Nat} {M : Mesh} {pV tV fV aV : Value}
theorem own_shape' {e s n : Nat} {v : Value} {xs : List Value} (h : W.ownsRow B e s v (n + 1) xs) : ∃ g c, v = .slice (some ⟨g, 0, none⟩) (n + 1) c := by
  obtain ⟨g, c, h1, _⟩ := own_shape h (Nat.succ_pos _)
  exact ⟨g, c, h1⟩
theorem free_block (h : MAt B W b M pV tV fV aV) : fV.ownBlock ≠ some W.heap.size := by
  intro e
  have := (h.free.lt _ e).2
  omega
theorem free_step (h : MAt B W b M pV tV fV aV) {o : Obj} {W1 : World} {v' : Value} {t : Nat} (h1 : W1.ownsRow B 3 1 v' (M.free.length + 1) ((M.free.map fun (n : Nat) => Value.int .i64 n) ++ [.int .i64 t])) (h2 : (W.alloc o).grownBy W1 fV.ownBlock) (h3 : v'.ownBlock = fV.ownBlock ∨ v'.ownBlock = some (W.alloc o).heap.size) :
    MAt B (W1.setCell ⟨b, 2, none⟩ v') b { M with free := M.free ++ [t] } pV tV v' aV ∧ Below B W W1 := by
  have hb0 := free_block h
  have hA : MAt B (W.alloc o) b M pV tV fV aV := h.later (bel_alloc (bel_refl W) o)
  refine ⟨MAt.grownFree (l := M.free ++ [t]) hA (by simpa using h1) h2 h3, ?_⟩
  refine ⟨h2.os, h2.tape, h2.output, Nat.le_trans (by simp) h2.size, fun k hk => ?_⟩
  have hkB : k < W.heap.size := Nat.lt_of_lt_of_le hk (Nat.le_trans h.le (Nat.le_of_lt h.head.lt))
  refine (h2.block k (by simp; omega) (fun e => ?_)).trans (Below.heap_alloc _ _ _ hkB)
  have := (h.free.lt k e.symm).1
  omega
theorem free_cell (h : MAt B W b M pV tV fV aV) {o : Obj} {W1 : World} (h2 : (W.alloc o).grownBy W1 fV.ownBlock) : W1.cell? ⟨b, 2, none⟩ = some fV := by
  have hA : MAt B (W.alloc o) b M pV tV fV aV := h.later (bel_alloc (bel_refl W) o)
  exact h2.cell (hA.head.cell 2 fV rfl) (fun e => blk_ne hA.head hA.free (by decide) e.symm rfl)
theorem free_frozen (h : MAt B W b M pV tV fV aV) {o : Obj} {W1 : World} (h2 : (W.alloc o).grownBy W1 fV.ownBlock) : W1.frozen? ⟨b, 2, none⟩ = false := by
  have hA : MAt B (W.alloc o) b M pV tV fV aV := h.later (bel_alloc (bel_refl W) o)
  exact (World.frozen?_of_block (a := ⟨b, 2, none⟩) (h2.block b hA.head.lt (fun e => blk_ne hA.head hA.free (by decide) e.symm rfl))).trans (hA.head.frozen 2)
end
def Mesh.drop (M : Mesh) (t : Nat) : Mesh := { M.setTri t Tri.gone with free := M.free ++ [t] }
namespace Dp
theorem putTri_gone (W : World) (g o : Nat) : World.putTri W g o Tri.gone = ((((((((W.setCell ⟨g, o, none⟩ (.int .i64 (-2))).setCell ⟨g, o + 1, none⟩ (.int .i64 (-2))).setCell ⟨g, o + 2, none⟩ (.int .i64 (-2))).setCell ⟨g, o + 3, none⟩ (.int .i64 (-1))).setCell ⟨g, o + 4, none⟩ (.int .i64 (-1))).setCell ⟨g, o + 5, none⟩ (.int .i64 (-1))).setCell ⟨g, o + 6, none⟩ (.bool false)).setCell ⟨g, o + 7, none⟩ (.bool false)).setCell ⟨g, o + 8, none⟩ (.bool false) := rfl
set_option maxRecDepth 100000 in
set_option maxHeartbeats 1000000 in
theorem drop_any (F : Nat → Prop) (B b t : Nat) (M : Mesh) (w : World) (h : MeshF F B w b M) (hFs : ∀ k, F k → k < w.heap.size) (ht : t < M.tris.length) (hn : M.tris.length ≤ 1000000000) (hf : M.free.length ≤ 1000000000) (hBw : B ≤ w.heap.size) :
    Calls Try.prog 59 #[.pointer (some ⟨b, 0, none⟩), .int .i64 t] w fun e w' => e = .returned (.tuple #[]) ∧ MeshF F B w' b (M.drop t) ∧ Below B w w' ∧ Same F w w' := by
  obtain ⟨pV, tV, fV, aV, h, hF⟩ := h
  have HF := Lib.hid hF
  have NF := Lib.hid hFs
  clear hF hFs
  obtain ⟨gt, ct, rfl, hB⟩ := own_shape h.tris (by omega)
  have hb := blk_ne h.head h.tris (by decide) rfl
  have hh := h.head.cell 1 _ rfl
  have hh2 := h.head.cell 2 _ rfl
  have hfz : ∀ k, w.frozen? ⟨gt, k, none⟩ = false := fun k => h.tris.frozenAt k
  obtain ⟨x0, c0⟩ := Lk.cells h t 0 ht (by omega)
  obtain ⟨x1, c1⟩ := Lk.cells h t 1 ht (by omega)
  obtain ⟨x2, c2⟩ := Lk.cells h t 2 ht (by omega)
  obtain ⟨x3, c3⟩ := Lk.cells h t 3 ht (by omega)
  obtain ⟨x4, c4⟩ := Lk.cells h t 4 ht (by omega)
  obtain ⟨x5, c5⟩ := Lk.cells h t 5 ht (by omega)
  obtain ⟨x6, c6⟩ := Lk.cells h t 6 ht (by omega)
  obtain ⟨x7, c7⟩ := Lk.cells h t 7 ht (by omega)
  obtain ⟨x8, c8⟩ := Lk.cells h t 8 ht (by omega)
  simp only [Nat.add_zero] at c0
  have hA := MAt.putTri h rfl t ht Tri.gone
  rw [putTri_gone] at hA
  have HA := Lib.hid hA
  have HB := Lib.hid (below_putTri hB (Below.refl B w) (t * 9) Tri.gone)
  have HS := Lib.hid (same_putTri (HF.out.2 gt (.inr (.inl rfl))) (Same.refl F w) (t * 9) Tri.gone)
  clear hA h
  go_enter Try.func59, Try.ntmps59
  go_upto_region 1 with (fail)
  obtain ⟨W, hW⟩ : ∃ W, ((((((((w.setCell ⟨gt, t * 9, none⟩ (.int .i64 (-2))).setCell ⟨gt, t * 9 + 1, none⟩ (.int .i64 (-2))).setCell ⟨gt, t * 9 + 2, none⟩ (.int .i64 (-2))).setCell ⟨gt, t * 9 + 3, none⟩ (.int .i64 (-1))).setCell ⟨gt, t * 9 + 4, none⟩ (.int .i64 (-1))).setCell ⟨gt, t * 9 + 5, none⟩ (.int .i64 (-1))).setCell ⟨gt, t * 9 + 6, none⟩ (.bool false)).setCell ⟨gt, t * 9 + 7, none⟩ (.bool false)).setCell ⟨gt, t * 9 + 8, none⟩ (.bool false) = W := ⟨_, rfl⟩
  rw [putTri_gone] at HB HS
  rw [hW] at HA HB HS ⊢
  have hz : w.heap.size = W.heap.size := by rw [← hW]; simp
  have HZ := Lib.hid hz
  clear hW hh hh2 hfz c0 c1 c2 c3 c4 c5 c6 c7 c8
  have hBW : B ≤ W.heap.size := by omega
  clear hz
  have hh := HA.out.head.cell 2 fV rfl
  obtain ⟨i0, hi, hz0, hz1, hz2⟩ := info_parts Try.info3'
  have HO : Hid (W.ownsRow B 3 1 fV M.free.length (M.free.map fun (n : Nat) => Value.int .i64 n)) := Lib.hid HA.out.free
  go_wp2_with (at_builtin; refine wpList_append_own_at _ rfl _ _ 51 rfl B 3 i0 (.int .i64 0) 1 8 Try.underlying51 hi hz0 hz1 hz2 rfl (by decide) fV M.free.length (M.free.map fun (n : Nat) => Value.int .i64 n) rfl (HO.out.alloc _) ⟨W.heap.size, 0, none⟩ 1 1 [.int .i64 t] rfl rfl (cell_one_new _ _ _) (by simp [Value.oneCell']) (by show M.free.length + 1 ≤ _; unfold maxLen; omega) (by show (M.free.length + 1) * 8 ≤ _; omega) (by simp; omega) ?_; intro v' w1 hown' hgrow _ hat; have HX := Lib.hid (free_step HA.out hown' hgrow hat); obtain ⟨g', cap', rfl⟩ := own_shape' hown'; have hc1 := free_cell HA.out hgrow; have hc2 := free_frozen HA.out hgrow; have HGR := Lib.hid hgrow; have HAT := Lib.hid hat; clear hown' hgrow hat)
  go_end0
  have hFs2 : ∀ k, F k → k < (W.alloc (.cells #[.int .i64 t] 3)).heap.size := fun k hk => by have := NF.out k hk; have := HZ.out; simp; omega
  refine ⟨rfl, ⟨_, _, _, _, HX.out.1, HF.out.1, fun g hg => ?_⟩, ?_, ?_⟩
  · rcases hg with hg | hg | hg | hg
    · exact HF.out.2 g (.inl hg)
    · exact HF.out.2 g (.inr (.inl hg))
    · rcases HAT.out with h1 | h1
      · exact HF.out.2 g (.inr (.inr (.inl (h1.symm.trans hg))))
      · intro hk
        have h2 := hFs2 g hk
        have h3 : some (W.alloc (.cells #[.int .i64 t] 3)).heap.size = some g := h1.symm.trans hg
        have := Option.some.inj h3
        omega
    · exact HF.out.2 g (.inr (.inr (.inr hg)))
  · exact (HB.out.trans HX.out.2).setCell (p := ⟨b, 2, none⟩) HA.out.le _
  · exact ((HS.out.alloc (fun k hk => by have := NF.out k hk; have := HZ.out; omega) _).grown hFs2 HGR.out (fun g hg => HF.out.2 g (.inr (.inr (.inl hg))))).set HF.out.1 _ _
end Dp
end Go.Proofs.Ytdihefgleefhmaa
