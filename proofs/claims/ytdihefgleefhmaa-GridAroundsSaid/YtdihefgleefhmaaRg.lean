/- A region that draws its order, walked with a condition on the world that may hang on what has come up already. -/
import Derived.OrdersHeld
import Derived.Laws.World
namespace Go.Rg
section
variable {P : Program} {ops : Array Oper} {Q : Exit → Act → World → Prop} {md : Region.Mode}

/-- whatever order is picked: behind each operation the condition of what has come up holds. -/
def wpAnyT (P : Program) (md : Region.Mode) (ops : Array Oper) (Q : Exit → Act → World → Prop) (S : Array Bool → World → Prop) : Nat → Array Bool → Act → World → Prop
  | 0, L, a, w => Region.ready md ops L = [] ∧ Q .normal a w
  | n + 1, L, a, w => (Region.ready md ops L = [] → Q .normal a w) ∧
      ∀ i ∈ Region.ready md ops L, wpOp P ops Q i (fun a' w' => S (L.setIfInBounds i true) w' ∧ wpAnyT P md ops Q S n (L.setIfInBounds i true) a' w') a w

variable {S : Array Bool → World → Prop}
theorem wpAny_of_T : ∀ (n : Nat) (L : Array Bool) (a : Act) (w : World), wpAnyT P md ops Q S n L a w → wpAny P md ops Q n L a w
  | 0, _, _, _, h => h
  | n + 1, _, _, _, h => ⟨h.1, fun i hi => wpOp_mono (fun a' w' k => wpAny_of_T n _ a' w' k.2) (h.2 i hi)⟩

theorem not_ready {i j : Nat} {oj : Oper} {L : Array Bool} (hi : L.getD i true = false) (hj : j ∈ Region.ready md ops L) (ho : ops[j]? = some oj) :
    ∀ e ∈ oj.after, Region.binds md e = true → e.on ≠ i := by
  intro e he hb heq
  obtain ⟨_, o, ho', hall⟩ := mem_ready.1 hj
  obtain rfl : o = oj := Option.some.inj (ho'.symm.trans ho)
  have h1 := hall e he hb
  rw [heq] at h1
  rcases Nat.lt_or_ge i L.size with h' | h'
  · simp [h'] at hi h1; rw [hi] at h1; cases h1
  · simp [Array.getElem?_eq_none h'] at h1

/-- operation s waits for operation i. -/
def Waits (md : Region.Mode) (ops : Array Oper) (s i : Nat) : Prop := ∃ o, ops[s]? = some o ∧ ∃ e ∈ o.after, Region.binds md e = true ∧ e.on = i

/-- where all that has come up had what it waits for: kept. -/
def Shut (md : Region.Mode) (ops : Array Oper) (L : Array Bool) : Prop := ∀ s i, Waits md ops s i → L.getD s false = true → L.getD i false = true

theorem Shut.set {L : Array Bool} {j : Nat} (h : Shut md ops L) (hj : j ∈ Region.ready md ops L) : Shut md ops (L.setIfInBounds j true) := by
  rintro s i ⟨o, ho, e, he, hb, rfl⟩ hs
  obtain ⟨_, o', ho', hall⟩ := mem_ready.1 hj
  by_cases hsj : j = s
  · subst hsj
    obtain rfl : o' = o := Option.some.inj (ho'.symm.trans ho)
    exact getD_set_true (hall e he hb)
  · rw [getD_set_ne false hsj] at hs
    exact getD_set_true (h s _ ⟨o, ho, e, he, hb, rfl⟩ hs)

/-- an operation that yields v wherever it may still be to come is taken first. C: what it needs of the world. -/
theorem wpAnyT_first {i : Nat} {oi : Oper} {v : Value} {C : World → Prop} (hi : ops[i]? = some oi) (hsel : Region.noSelect ops = true)
    (hQ : ∀ c a w, Q (.panic c) (a.put oi.dst v) w → Q (.panic c) a w)
    (hdrop : ∀ L w, S (L.setIfInBounds i true) w → S L w)
    (hC : ∀ L w, Shut md ops L → L.getD i false = false → S L w → C w) :
    ∀ (n : Nat) (L : Array Bool) (a : Act) (w : World), Shut md ops L →
      (∀ j oj, ops[j]? = some oj → j ≠ i → L.getD j true = false → (∀ e ∈ oj.after, Region.binds md e = true → e.on ≠ i) → oi.apart ops oj = true) →
      i ∈ Region.ready md ops L → YieldsIf P ops C oi v a → S L w → S (L.setIfInBounds i true) w →
      wpAnyT P md ops Q S n (L.setIfInBounds i true) (a.put oi.dst v) w → wpAnyT P md ops Q S (n + 1) L a w := by
  have fal : ∀ {L : Array Bool}, L.getD i true = false → L.getD i false = false := fun {L} h => by
    rcases Nat.lt_or_ge i L.size with h' | h'
    · simp [h'] at h ⊢; exact h
    · simp [Array.getElem?_eq_none h'] at h
  intro n
  induction n with
  | zero =>
    intro L a w hsh _ hr hy hS hS' H
    refine ⟨fun h => (by rw [h] at hr; cases hr), fun j hj => ?_⟩
    by_cases hji : j = i
    · subst hji; exact hy.wpOp hi (hC L w hsh (fal (mem_ready.1 hr).1) hS) ⟨hS', H⟩
    · have := ready_mono hj hji
      rw [H.1] at this
      cases this
  | succ n ih =>
    intro L a w hsh hfree hr hy hS hS' H
    have hLi := (mem_ready.1 hr).1
    refine ⟨fun h => (by rw [h] at hr; cases hr), fun j hj => ?_⟩
    by_cases hji : j = i
    · subst hji; exact hy.wpOp hi (hC L w hsh (fal hLi) hS) ⟨hS', H⟩
    · have h1 := H.2 j (ready_mono hj hji)
      obtain ⟨hjun, oj, hoj, _⟩ := mem_ready.1 hj
      have hnot := not_ready hLi hj hoj
      have h2 := wpOp_putIf hoj (hfree j oj hoj hji hjun hnot) (fun cs b => Region.noSelect_spec hsel i oi cs b hi) (fun cs b => Region.noSelect_spec hsel j oj cs b hoj) hQ hy h1
      have hcom : (L.setIfInBounds i true).setIfInBounds j true = (L.setIfInBounds j true).setIfInBounds i true := Array.setIfInBounds_comm _ _ (Ne.symm hji)
      rw [hcom] at h2
      refine wpOp_mono (fun a' w' h3 => ⟨hdrop _ _ h3.2.1, ih (L.setIfInBounds j true) a' w' (hsh.set hj) ?_ (ready_mono hr (Ne.symm hji)) h3.1 (hdrop _ _ h3.2.1) h3.2.1 h3.2.2⟩) h2
      intro k ok hk hki hun hno
      refine hfree k ok hk hki ?_ hno
      by_cases hjk : j = k
      · subst hjk; exact hjun
      · rw [getD_set_ne true hjk] at hun; exact hun

def shutB (md : Region.Mode) (ops : Array Oper) (L : Array Bool) : Bool :=
  (List.range ops.size).all fun s => !L.getD s false || match ops[s]? with
    | some o => o.after.all fun e => !Region.binds md e || L.getD e.on false
    | none => true
theorem shutB_spec {L : Array Bool} (h : shutB md ops L = true) : Shut md ops L := by
  rintro s i ⟨o, ho, e, he, hb, rfl⟩ hs
  have h1 := List.all_eq_true.1 h s (List.mem_range.2 (Array.getElem?_eq_some_iff.1 ho).1)
  simp only [hs, Bool.not_true, Bool.false_or, ho] at h1
  have h2 := Array.all_eq_true_iff_forall_mem.1 h1 e he
  simpa [hb] using h2

/-- take number i first (the side conditions as Bools). -/
theorem wpAnyT_take (C : World → Prop) {i : Nat} {oi : Oper} {v : Value} {n : Nat} {L : Array Bool} {a : Act} {w : World} (hi : ops[i]? = some oi)
    (hs : Region.noSelect ops = true) (hf : Region.free md ops L i = true) (hr : (Region.ready md ops L).contains i = true) (hsh : shutB md ops L = true)
    (hQ : ∀ c a w, Q (.panic c) (a.put oi.dst v) w → Q (.panic c) a w) (hdrop : ∀ L w, S (L.setIfInBounds i true) w ↔ S L w)
    (hC : ∀ L w, Shut md ops L → L.getD i false = false → S L w → C w) (hS : S L w) (hy : YieldsIf P ops C oi v a)
    (h : wpAnyT P md ops Q S n (L.setIfInBounds i true) (a.put oi.dst v) w) : wpAnyT P md ops Q S (n + 1) L a w :=
  wpAnyT_first hi hs hQ (fun L w => (hdrop L w).1) hC n L a w (shutB_spec hsh) (Region.free_spec hi hf) (by simpa using hr) hy hS ((hdrop L w).2 hS) h

/-- just one may come up. -/
theorem wpAnyT_one {i : Nat} {n : Nat} {L : Array Bool} {a : Act} {w : World} (hr : (Region.ready md ops L == [i]) = true)
    (h : wpOp P ops Q i (fun a' w' => S (L.setIfInBounds i true) w' ∧ wpAnyT P md ops Q S n (L.setIfInBounds i true) a' w') a w) : wpAnyT P md ops Q S (n + 1) L a w := by
  rw [beq_iff_eq] at hr
  exact ⟨fun h0 => (by rw [hr] at h0; cases h0), by rw [hr]; intro j hj; rw [List.mem_singleton] at hj; subst hj; exact h⟩
theorem wpOp_skip {i : Nat} {o : Oper} {a : Act} {w w' : World} {K : Act → World → Prop} (hi : ops[i]? = some o) (hw : Region.wanted o (yielded ops a.tmps) = true)
    (hr : (execOp a.eval o).run P w = .ok .skip w') (h : K (a.put o.dst undef) w') : wpOp P ops Q i K a w := by
  unfold wpOp; simp only [hi, hw, if_true]; exact .inl (by unfold Oper.wp; rw [hr]; exact h)
theorem wpOp_value {i : Nat} {o : Oper} {v : Value} {a : Act} {w w' : World} {K : Act → World → Prop} (hi : ops[i]? = some o) (hw : Region.wanted o (yielded ops a.tmps) = true)
    (hr : (execOp a.eval o).run P w = .ok (.value v) w') (h : K (a.put o.dst v) w') : wpOp P ops Q i K a w := by
  unfold wpOp; simp only [hi, hw, if_true]; exact .inl (by unfold Oper.wp; rw [hr]; exact h)
theorem wpAnyT_done {n : Nat} {L : Array Bool} {a : Act} {w : World} (hr : (Region.ready md ops L == []) = true) (h : Q .normal a w) : wpAnyT P md ops Q S n L a w := by
  rw [beq_iff_eq] at hr
  cases n with
  | zero => exact ⟨hr, h⟩
  | succ n => exact ⟨fun _ => h, by rw [hr]; simp⟩
theorem wp_region_T {id : Nat} {a : Act} {w : World} (hm : P.follows .mixedOrders = true)
    (h : wpAnyT P .any ops Q S ops.size (Array.replicate ops.size false) a w.drew) : (Code.region id ops true).wp P Q a w :=
  wp_region_any hm (wpAny_of_T _ _ _ _ h)
end
end Go.Rg
