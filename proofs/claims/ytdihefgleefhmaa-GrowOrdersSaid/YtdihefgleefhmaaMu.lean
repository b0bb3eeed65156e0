/- A map that a call has made, with its entries' stamps: an entry that is made and then filled; keys that are pairs. -/
import Derived.Test.YtdihefgleefhmaaMp
import Derived.Test.YtdihefgleefhmaaProg
import Derived.DeepKeys4
import Derived.WalkKit
namespace Go.Proofs.Ytdihefgleefhmaa
open Go.RowKit
/-- block b holds a map of just these keys and values, each entry with a stamp of its own. -/
def MapE {α β : Type} (K : α → Value) (V : β → Value) (W : World) (b : Nat) (l : List (α × β)) : Prop :=
 ∃ es clock, W.heap[b]? = some (.map es clock) ∧ es.toList.map (fun e => (e.key, e.val)) = (l.map fun x => (K x.1, V x.2)) ∧ (l.map (·.1)).Nodup ∧ ∀ e ∈ es.toList, e.born < clock
theorem modify_last {α : Type} (f : α → α) (x : α) : ∀ l : List α, (l ++ [x]).modify l.length f = l ++ [f x]
 | [] => rfl
 | y :: l => by
  show ((y :: (l ++ [x])).modify (l.length + 1) f) = y :: (l ++ [f x])
  rw [List.modify_succ_cons, modify_last f x l]
section
variable {α β : Type} {K : α → Value} {V : β → Value} {P : Program} {W W' : World} {b : Nat} {l : List (α × β)} {k e t : TypeId}
theorem MapE.at_ (h : MapE K V W b l) : MapAt K V W b l := by
 obtain ⟨es, c, h1, h2, h3, _⟩ := h
 exact ⟨es, c, h1, h2, h3⟩
theorem MapE.new (K : α → Value) (V : β → Value) (W : World) : MapE K V (W.alloc (.map #[] 0)) W.heap.size ([] : List (α × β)) := ⟨#[], 0, (MapKept.heap_alloc W _).1, rfl, by simp, by simp⟩
theorem MapE.lt (h : MapE K V W b l) : b < W.heap.size := h.at_.lt
theorem MapE.grown (h : MapE K V W b l) {row : Option Nat} (hg : W.grownBy W' row) (hr : some b ≠ row) : MapE K V W' b l := by
 have hl := h.lt
 obtain ⟨es, c, h1, h2⟩ := h
 exact ⟨es, c, (hg.block b hl hr).trans h1, h2⟩
theorem MapE.later (h : MapE K V W b l) (hb : Below W.heap.size W W') : MapE K V W' b l := by
 have hl := h.lt
 obtain ⟨es, c, h1, h2⟩ := h
 exact ⟨es, c, (hb.block b hl).trans h1, h2⟩
theorem MapE.drew (h : MapE K V W b l) : MapE K V W.drew b l := h
/-- an entry that isn't there is made, looked up, and filled. -/
theorem MapE.entry [DecidableEq α] (h : MapE K V W b l) (ht : P.underlying t = some (.map k e)) (hk : KeyOk P k K) {z : β} (hz : ∀ W : World, (zeroValue e).run P W = .ok (V z) W) (x : α) (hx : x ∉ l.map (·.1)) :
  ∃ (W1 : World) (c : Nat), (Instr.mapEntry t (.map (some b)) (K x)).run P W = .ok (.tuple #[V z, .int .i64 c]) W1 ∧ MapAt K V W1 b (l ++ [(x, z)]) ∧ W.grownBy W1 (some b) ∧
   ∀ v : β, ∃ W2, (Instr.entryStore t (.map (some b)) (.int .i64 c) (V v)).run P W1 = .ok () W2 ∧ MapE K V W2 b (l ++ [(x, v)]) ∧ W.grownBy W2 (some b) := by
 have hA := h.at_
 obtain ⟨es0, c0, h1, h2, h3, h4⟩ := h
 obtain ⟨es, c, g1, g2, g6⟩ := hA.find hk x
 rw [h1] at g1
 obtain ⟨rfl, rfl⟩ : es0 = es ∧ c0 = c := by simpa using g1
 have hnd : ∀ v : β, ((l ++ [(x, v)]).map (·.1)).Nodup := fun v => by
  rw [List.map_append, List.nodup_append]
  exact ⟨h3, by simp, fun a ha y hy e => hx (by simp only [List.map_cons, List.map_nil, List.mem_singleton] at hy; rw [← hy, ← e]; exact ha)⟩
 rcases g2 with ⟨g3, _⟩ | ⟨j, u, _, g4, _⟩
 ·refine ⟨ChangeMaps.setBlock W b (.map (es0.push ⟨K x, V z, c0⟩) (c0 + 1)), c0, ?_, ⟨_, _, ChangeMaps.heap_setBlock_same h1 _, by simp [h2], hnd z⟩, ⟨rfl, rfl, rfl, by simp [ChangeMaps.setBlock], fun i _ hi => ChangeMaps.heap_setBlock_other h1 _ (fun e => hi (by rw [e]))⟩, fun v => ?_⟩
  ·simp only [Instr.mapEntry, Sem.run_bind, run_underlying ht, MapKept.run_getObj_map h1, hk.check W _ x, g3, hz, MapKept.run_setObj_map _ h1, Result.andThen, ChangeMaps.setBlock, goInt]
   rfl
  ·have hb1 : (ChangeMaps.setBlock W b (.map (es0.push ⟨K x, V z, c0⟩) (c0 + 1))).heap[b]? = some (.map (es0.push ⟨K x, V z, c0⟩) (c0 + 1)) := ChangeMaps.heap_setBlock_same h1 _
   have hfi : (es0.push (⟨K x, V z, c0⟩ : MapEntry)).findIdx? (fun e => (e.born : Int) == (c0 : Int)) = some es0.size := by
    rw [Array.findIdx?_push]
    have hn : es0.findIdx? (fun e => (e.born : Int) == (c0 : Int)) = none := by
     rw [Array.findIdx?_eq_none_iff]
     intro e he
     have := h4 e (by simpa using he)
     simp
     omega
    rw [hn]
    simp
   refine ⟨ChangeMaps.setBlock (ChangeMaps.setBlock W b (.map (es0.push ⟨K x, V z, c0⟩) (c0 + 1))) b (.map ((es0.push ⟨K x, V z, c0⟩).modify es0.size fun e => { e with val := V v }) (c0 + 1)), ?_, ⟨_, _, ChangeMaps.heap_setBlock_same hb1 _, ?_, hnd v, ?_⟩, ?_⟩
   ·have hrun : ∀ W1 : World, W1.heap[b]? = some (.map (es0.push ⟨K x, V z, c0⟩) (c0 + 1)) → (Instr.entryStore t (.map (some b)) (.int .i64 c0) (V v)).run P W1 = .ok () (ChangeMaps.setBlock W1 b (.map ((es0.push ⟨K x, V z, c0⟩).modify es0.size fun e => { e with val := V v }) (c0 + 1))) := fun W1 hw => by
     simp only [Instr.entryStore, Sem.run_bind, MapKept.run_getObj_map hw, Result.andThen]
     simp [asInt, asIntOf, hfi, MapKept.run_setObj_map _ hw, ChangeMaps.setBlock]
    exact hrun _ hb1
   ·rw [Array.toList_modify, Array.toList_push]
    have : es0.size = es0.toList.length := by simp
    rw [this, modify_last]
    simp [h2]
   ·intro e he
    rw [Array.toList_modify, Array.toList_push] at he
    have : es0.size = es0.toList.length := by simp
    rw [this, modify_last] at he
    rcases List.mem_append.1 he with he | he
    ·have := h4 e he; omega
    ·simp at he
     rw [he]
     simp
   ·refine ⟨rfl, rfl, rfl, by simp [ChangeMaps.setBlock], fun i _ hi => ?_⟩
    have hne : i ≠ b := fun e => hi (by rw [e])
    exact (ChangeMaps.heap_setBlock_other hb1 _ hne).trans (ChangeMaps.heap_setBlock_other h1 _ hne)
 ·exact absurd (List.mem_map.2 ⟨_, List.mem_of_getElem? g4, rfl⟩) hx
end
theorem way_row : 75 < Try.prog.types.size := Nat.le_of_ble_eq_true (by kernel_rfl)
theorem way_law : Maps.Keyed Try.prog 75 := Maps.Keyed.of_law (deep_law_laid (by kernel_rfl) (m := 2) (by omega) way_row (by kernel_rfl) (by kernel_rfl))
def wayV (p : Int × Int) : Value := .agg #[.int .i64 p.1, .int .i64 p.2]
theorem way_formed (p : Int × Int) : (wayV p).formed Try.prog 75 = true := by kernel_rfl
theorem way_type : Try.prog.keyType 75 = true := by kernel_rfl
theorem way_cells : Try.prog.cellsOf 75 = 2 := by kernel_rfl
theorem int_cells : Try.prog.cellsOf 3 = 1 := by kernel_rfl
theorem way_lits (d : Nat) (p : Int × Int) (h1 : (Lit.int .i64 p.1).wf = true) (h2 : (Lit.int .i64 p.2).wf = true) : Try.prog.keyLits (d + 2) 75 [.int .i64 p.1, .int .i64 p.2] = some [.int .i64 p.1, .int .i64 p.2] := by
 have e : ∀ (n : Int), (Lit.int .i64 n).wf = true → Try.prog.keyLits (d + 1) 3 [.int .i64 n] = some [.int .i64 n] := fun n hn => by
  unfold Program.keyLits
  simp [Try.underlying3, hn]
 unfold Program.keyLits
 simp [Try.underlying75, way_cells, int_cells, e p.1 h1, e p.2 h2]
abbrev Way := { p : Int × Int // (Lit.int .i64 p.1).wf = true ∧ (Lit.int .i64 p.2).wf = true }
theorem way_ok : KeyOk Try.prog 75 (fun p : Way => wayV p.1) := Mp.key_of way_law (fun {a b} h => by
  unfold wayV at h
  simp only [Value.agg.injEq, Array.mk.injEq, List.cons.injEq, Value.int.injEq, true_and, and_true] at h
  exact Subtype.ext (Prod.ext h.1 h.2)) (fun a => by
 have hs : ∃ d, Try.prog.types.size + 1 = d + 2 := ⟨Try.prog.types.size - 1, by have := way_row; omega⟩
 obtain ⟨d, hd⟩ := hs
 refine ⟨.string (keyBytes [.int .i64 a.1.1, .int .i64 a.1.2]), ?_⟩
 unfold keyOf
 simp only [Try.underlying75, way_type, way_formed, Bool.and_self, if_true, hd]
 show Option.map _ (Try.prog.keyLits (d + 2) 75 [.int .i64 a.1.1, .int .i64 a.1.2]) = _
 rw [way_lits d a.1 a.2.1 a.2.2]
 rfl)
end Go.Proofs.Ytdihefgleefhmaa
