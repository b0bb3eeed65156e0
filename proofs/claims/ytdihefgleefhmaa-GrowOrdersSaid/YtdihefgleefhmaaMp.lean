/- A map that a call has made: what it holds, what is looked up in it, and what a store makes of it. -/
import Derived.Maps.OwnSet
import Derived.WalkKit
import Derived.Below
namespace Go.Proofs.Ytdihefgleefhmaa
open Go.RowKit
/-- what lies at a key. -/
def mget {α β : Type} [DecidableEq α] (z : β) (k : α) : List (α × β) → β
 | [] => z
 | x :: l => if x.1 = k then x.2 else mget z k l
/-- a key's value stored. -/
def mput {α β : Type} [DecidableEq α] (k : α) (v : β) : List (α × β) → List (α × β)
 | [] => [(k, v)]
 | x :: l => if x.1 = k then (k, v) :: l else x :: mput k v l
/-- keys of a type that are values of K. -/
structure KeyOk (P : Program) (k : TypeId) {α : Type} (K : α → Value) : Prop where
 inj : ∀ {a b : α}, K a = K b → a = b
 check : ∀ (w : World) (em : Bool) (a : α), (Instr.checkKey em 10000 k (K a)).run P w = .ok () w
 find : ∀ (w : World) (a : α) (es : List MapEntry), (∀ e ∈ es, ∃ x, e.key = K x) →
  ((Instr.findKey k (K a) es).run P w = .ok none w ∧ ∀ e ∈ es, e.key ≠ K a) ∨ ∃ j e, (Instr.findKey k (K a) es).run P w = .ok (some (j, e.val)) w ∧ es[j]? = some e ∧ e.key = K a
 stays : ∀ (w : World) (a : α), (Instr.keyThatStays (K a) (K a)).run P w = .ok (K a) w
/-- block b holds a map of just these keys and values. -/
def MapAt {α β : Type} (K : α → Value) (V : β → Value) (W : World) (b : Nat) (l : List (α × β)) : Prop :=
 ∃ es clock, W.heap[b]? = some (.map es clock) ∧ es.toList.map (fun e => (e.key, e.val)) = (l.map fun x => (K x.1, V x.2)) ∧ (l.map (·.1)).Nodup
namespace Mp
section
variable {α β : Type} [DecidableEq α]
theorem get_none (z : β) (k : α) : ∀ (l : List (α × β)), (∀ x ∈ l, x.1 ≠ k) → mget z k l = z
 | [], _ => rfl
 | x :: l, h => by
  unfold mget
  rw [if_neg (h x (by simp))]
  exact get_none z k l fun y hy => h y (by simp [hy])
theorem put_none (k : α) (v : β) : ∀ (l : List (α × β)), (∀ x ∈ l, x.1 ≠ k) → mput k v l = l ++ [(k, v)]
 | [], _ => rfl
 | x :: l, h => by
  unfold mput
  rw [if_neg (h x (by simp)), put_none k v l fun y hy => h y (by simp [hy])]
  rfl
theorem get_at (z : β) (k : α) (u : β) : ∀ (l : List (α × β)) (j : Nat), (l.map (·.1)).Nodup → l[j]? = some (k, u) → mget z k l = u
 | [], _, _, h => by simp at h
 | x :: l, 0, _, h => by
  simp at h
  subst h
  simp [mget]
 | x :: l, j + 1, hn, h => by
  simp only [List.map_cons, List.nodup_cons] at hn
  simp only [List.getElem?_cons_succ] at h
  have hx : x.1 ≠ k := fun e => hn.1 (List.mem_map.2 ⟨(k, u), List.mem_of_getElem? h, e.symm⟩)
  unfold mget
  rw [if_neg hx]
  exact get_at z k u l j hn.2 h
theorem put_at (k : α) (v u : β) : ∀ (l : List (α × β)) (j : Nat), (l.map (·.1)).Nodup → l[j]? = some (k, u) → mput k v l = l.set j (k, v)
 | [], _, _, h => by simp at h
 | x :: l, 0, _, h => by
  simp at h
  subst h
  simp [mput]
 | x :: l, j + 1, hn, h => by
  simp only [List.map_cons, List.nodup_cons] at hn
  simp only [List.getElem?_cons_succ] at h
  have hx : x.1 ≠ k := fun e => hn.1 (List.mem_map.2 ⟨(k, u), List.mem_of_getElem? h, e.symm⟩)
  unfold mput
  rw [if_neg hx, put_at k v u l j hn.2 h]
  rfl
theorem put_keys (k : α) (v : β) : ∀ (l : List (α × β)), ((mput k v l).map (·.1)) = if k ∈ l.map (·.1) then l.map (·.1) else l.map (·.1) ++ [k]
 | [] => rfl
 | x :: l => by
  unfold mput
  by_cases hx : x.1 = k
  ·simp [hx]
  ·have hx' : ¬ k = x.1 := fun e => hx e.symm
   rw [if_neg hx]
   simp only [List.map_cons, put_keys k v l, List.mem_cons, hx', false_or]
   split <;> simp
theorem put_nodup (k : α) (v : β) (l : List (α × β)) (h : (l.map (·.1)).Nodup) : ((mput k v l).map (·.1)).Nodup := by
 rw [put_keys]
 split
 ·exact h
 ·rename_i hk
  rw [List.nodup_append]
  refine ⟨h, by simp, fun a ha b hb e => ?_⟩
  simp only [List.mem_singleton] at hb
  exact hk (by rw [← hb, ← e]; exact ha)
end
theorem int_ok {P : Program} {k : TypeId} (hk : P.underlying k = some (.int .i64)) : KeyOk P k (Value.int .i64) where
 inj h := by simpa using h
 check w em a := MapKept.run_checkKey hk (by simp [MapKept.IsKey]) em 9999
 find w a es h := by
  have hks : ∀ y ∈ es, MapKept.IsKey (.int .i64) y.key := fun y hy => by
   obtain ⟨x, hx⟩ := h y hy
   rw [hx]; simp [MapKept.IsKey]
  rcases MapKept.findNow_spec (k := .int .i64 a) (by simp [MapKept.IsKey]) es 0 hks with ⟨h1, h2⟩ | ⟨j, e, h1, h2, h3⟩
  ·exact .inl ⟨MapKept.run_findKey hk h1, h2⟩
  ·exact .inr ⟨j, e, by simpa using MapKept.run_findKey hk h1, h2, h3⟩
 stays w a := MapKept.run_keyThatStays (d := .int .i64) (by simp [MapKept.IsKey])
theorem key_of {P : Program} {k : TypeId} {α : Type} {K : α → Value} (L : Maps.Keyed P k) (hi : ∀ {a b : α}, K a = K b → a = b) (hr : ∀ a, ∃ l, keyOf P k (K a) = some l) : KeyOk P k K where
 inj := hi
 check w em a := by obtain ⟨l, hl⟩ := hr a; exact L.check w em hl
 find w a es h := by
  obtain ⟨l, hl⟩ := hr a
  exact L.find w hl es fun e he => by
   obtain ⟨x, hx⟩ := h e he
   obtain ⟨m, hm⟩ := hr x
   exact ⟨m, by rw [hx]; exact hm⟩
 stays w a := by obtain ⟨l, hl⟩ := hr a; exact L.stays w hl
end Mp
section
variable {α β : Type} {K : α → Value} {V : β → Value} {P : Program} {W W' : World} {b : Nat} {l : List (α × β)} {k e t : TypeId}
theorem MapAt.lt (h : MapAt K V W b l) : b < W.heap.size := by
 obtain ⟨_, _, h, _⟩ := h
 exact (Array.getElem?_eq_some_iff.1 h).1
theorem MapAt.new (K : α → Value) (V : β → Value) (W : World) : MapAt K V (W.alloc (.map #[] 0)) W.heap.size ([] : List (α × β)) := ⟨#[], 0, (MapKept.heap_alloc W _).1, rfl, by simp⟩
theorem MapAt.later (h : MapAt K V W b l) (hb : Below W.heap.size W W') : MapAt K V W' b l := by
 have hl := h.lt
 obtain ⟨es, c, h1, h2⟩ := h
 exact ⟨es, c, (hb.block b hl).trans h1, h2⟩
theorem MapAt.grown (h : MapAt K V W b l) {row : Option Nat} (hg : W.grownBy W' row) (hr : some b ≠ row) : MapAt K V W' b l := by
 have hl := h.lt
 obtain ⟨es, c, h1, h2⟩ := h
 exact ⟨es, c, (hg.block b hl hr).trans h1, h2⟩
theorem MapAt.other (h : MapAt K V W b l) {c : Nat} (hc : b ≠ c) (i : Nat) (v : Value) : MapAt K V (W.setCell ⟨c, i, none⟩ v) b l := by
 obtain ⟨es, c', h1, h2⟩ := h
 exact ⟨es, c', (Below.heap_setCell W ⟨c, i, none⟩ v b hc).trans h1, h2⟩
theorem MapAt.nodup (h : MapAt K V W b l) : (l.map (·.1)).Nodup := by
 obtain ⟨_, _, _, _, h⟩ := h
 exact h
theorem MapAt.find (h : MapAt K V W b l) (hk : KeyOk P k K) (x : α) : ∃ es clock, W.heap[b]? = some (.map es clock) ∧
  (((Instr.findKey k (K x) es.toList).run P W = .ok none W ∧ ∀ y ∈ l, y.1 ≠ x) ∨ ∃ j u, (Instr.findKey k (K x) es.toList).run P W = .ok (some (j, V u)) W ∧ l[j]? = some (x, u) ∧ (es[j]?).map (·.key) = some (K x)) ∧
  es.toList.map (fun e => (e.key, e.val)) = l.map fun x => (K x.1, V x.2) := by
 obtain ⟨es, c, h1, h2, _⟩ := h
 refine ⟨es, c, h1, ?_, h2⟩
 have keys : ∀ e ∈ es.toList, ∃ y ∈ l, e.key = K y.1 ∧ e.val = V y.2 := by
  intro e he
  have : (e.key, e.val) ∈ l.map fun x => (K x.1, V x.2) := by rw [← h2]; exact List.mem_map.2 ⟨e, he, rfl⟩
  obtain ⟨y, hy, hye⟩ := List.mem_map.1 this
  simp only [Prod.mk.injEq] at hye
  exact ⟨y, hy, hye.1.symm, hye.2.symm⟩
 rcases hk.find W x es.toList (fun e he => by
  obtain ⟨y, _, hy, _⟩ := keys e he
  exact ⟨y.1, hy⟩) with ⟨h3, h4⟩ | ⟨j, e, h3, h4, h5⟩
 ·refine .inl ⟨h3, fun y hy e => ?_⟩
  have : (K y.1, V y.2) ∈ es.toList.map fun e => (e.key, e.val) := by rw [h2]; exact List.mem_map.2 ⟨y, hy, rfl⟩
  obtain ⟨e', he', hee⟩ := List.mem_map.1 this
  simp only [Prod.mk.injEq] at hee
  exact h4 e' he' (by rw [hee.1, e])
 ·have := congrArg (fun l => l[j]?) h2
  simp only [List.getElem?_map, h4, Option.map_some] at this
  obtain ⟨y, hy, hye⟩ := Option.map_eq_some_iff.1 this.symm
  simp only [Prod.mk.injEq] at hye
  refine .inr ⟨j, y.2, by rw [hye.2]; exact h3, ?_, ?_⟩
  ·rw [hy]
   have : y.1 = x := hk.inj (hye.1.trans h5)
   rw [← this]
  ·have : es[j]? = some e := by simpa using h4
   simp [this, h5]
theorem MapAt.look [DecidableEq α] (h : MapAt K V W b l) (ht : P.underlying t = some (.map k e)) (hk : KeyOk P k K) {z : β} (hz : (zeroValue e).run P W = .ok (V z) W) (x : α) :
  (Instr.lookup t (.map (some b)) (K x) false).run P W = .ok (V (mget z x l)) W := by
 have hn := h.nodup
 obtain ⟨es, c, h1, h2, _⟩ := h.find hk x
 rcases h2 with ⟨h3, h4⟩ | ⟨j, u, h3, h4, _⟩
 ·rw [Mp.get_none z x l h4]
  simp [Instr.lookup, run_underlying ht, MapKept.run_getObj_map h1, hk.check W _ x, h3, hz, Result.andThen]
 ·rw [Mp.get_at z x u l j hn h4]
  simp [Instr.lookup, run_underlying ht, MapKept.run_getObj_map h1, hk.check W _ x, h3, Result.andThen]
theorem MapAt.len (h : MapAt K V W b l) (ht : P.underlying t = some (.map k e)) (ty : TypeId) : (Builtin.len_ #[t] ty #[.map (some b)]).run P W = .ok (.int .i64 l.length) W := by
 obtain ⟨es, c, h1, h2, _⟩ := h
 have hl := congrArg List.length h2
 simp at hl
 simp [Builtin.len_, run_underlying ht, MapKept.run_getObj_map h1, Result.andThen, goInt, hl]
theorem MapAt.put [DecidableEq α] (h : MapAt K V W b l) (ht : P.underlying t = some (.map k e)) (hk : KeyOk P k K) (x : α) (v : β) :
  ∃ w', (Instr.mapUpdate t (.map (some b)) (K x) (V v)).run P W = .ok () w' ∧ MapAt K V w' b (mput x v l) ∧ W.grownBy w' (some b) := by
 have hn := h.nodup
 obtain ⟨es, c, h1, h2, h6⟩ := h.find hk x
 rcases h2 with ⟨h3, h4⟩ | ⟨j, u, h3, h4, h5⟩
 ·refine ⟨ChangeMaps.setBlock W b (.map (es.push ⟨K x, V v, c⟩) (c + 1)), ?_, ⟨_, _, ChangeMaps.heap_setBlock_same h1 _, ?_, Mp.put_nodup x v l hn⟩, ⟨rfl, rfl, rfl, by simp [ChangeMaps.setBlock], fun i _ hi => ChangeMaps.heap_setBlock_other h1 _ (fun e => hi (by rw [e]))⟩⟩
  ·simp [Instr.mapUpdate, run_underlying ht, MapKept.run_getObj_map h1, hk.check W _ x, h3, MapKept.run_setObj_map _ h1, Result.andThen, ChangeMaps.setBlock]
  ·rw [Mp.put_none x v l h4]
   simp [h6]
 ·obtain ⟨e0, he0, hk0⟩ := Option.map_eq_some_iff.1 h5
  refine ⟨ChangeMaps.setBlock W b (.map (es.modify j fun e => { e with key := K x, val := V v }) c), ?_, ⟨_, _, ChangeMaps.heap_setBlock_same h1 _, ?_, Mp.put_nodup x v l hn⟩, ⟨rfl, rfl, rfl, by simp [ChangeMaps.setBlock], fun i _ hi => ChangeMaps.heap_setBlock_other h1 _ (fun e => hi (by rw [e]))⟩⟩
  ·simp [Instr.mapUpdate, run_underlying ht, MapKept.run_getObj_map h1, hk.check W _ x, h3, he0, hk0, hk.stays W x, MapKept.run_setObj_map _ h1, Result.andThen, ChangeMaps.setBlock]
  ·rw [Mp.put_at x v u l j hn h4, Array.toList_modify]
   apply List.ext_getElem?
   intro i
   have := congrArg (fun l => l[i]?) h6
   simp only [List.getElem?_map] at this ⊢
   rw [List.getElem?_modify, List.getElem?_set]
   by_cases hi : j = i
   ·subst hi
    have hjl : j < l.length := (List.getElem?_eq_some_iff.1 h4).1
    simp [hjl, he0]
   ·simp only [hi, if_false]
    simpa using this
theorem MapAt.set [DecidableEq α] (h : MapAt K V W b l) {w' : World} (hg : W.grownBy w' (some b)) : ∀ {c tt : Nat} {cs : Array Value}, W.heap[c]? = some (.cells cs tt (0, 0)) → w'.heap[c]? = some (.cells cs tt (0, 0)) := by
 intro c tt cs hc
 refine (hg.block c (Array.getElem?_eq_some_iff.1 hc).1 ?_).trans hc
 intro e
 obtain ⟨es, cl, h1, _⟩ := h
 rw [Option.some.inj e, h1] at hc
 cases hc
end
/-- a store into such a map, for the walk. -/
theorem wpList_map_put {α β : Type} [DecidableEq α] {K : α → Value} {V : β → Value} {P : Program} (w : World) {ops : Array Oper} {rest : List Oper} {o : Oper} {a : Act} {Q : Exit → Act → World → Prop}
  (hg : o.guard = none) (m x v : Operand) (t : TypeId) (hop : o.op = Op.mapUpdate t m x v) {k e : TypeId} (ht : P.underlying t = some (.map k e)) (hk : KeyOk P k K) (b : Nat) {l : List (α × β)}
  (hm : a.eval m = .map (some b)) (h : MapAt K V w b l) (y : α) (z : β) (hx : a.eval x = K y) (hv : a.eval v = V z)
  (hK : ∀ w', MapAt K V w' b (mput y z l) → w.grownBy w' (some b) → wpList P ops Q rest (a.put o.dst undef) w') :
  wpList P ops Q (o :: rest) a w := by
 refine wpList_plain hg fun K' hK' => ?_
 obtain ⟨w', hrun, r1, r2⟩ := h.put ht hk y z
 unfold Oper.wp
 simp [execOp, hop, hm, hx, hv, hrun, Result.andThen]
 exact hK' _ _ (hK w' r1 r2)
end Go.Proofs.Ytdihefgleefhmaa
