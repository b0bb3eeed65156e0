/- The square: what fit builds. -/
import Derived.Test.YtdihefgleefhmaaBd
import Derived.Test.YtdihefgleefhmaaSd
import Derived.Test.YtdihefgleefhmaaHu
import Derived.Test.YtdihefgleefhmaaCi
namespace Go.Proofs.Ytdihefgleefhmaa
open Go.RowKit
namespace Ft
def sq : List Pt := [⟨0, 0⟩, ⟨2, 0⟩, ⟨0, 2⟩, ⟨2, 2⟩]
def t3 (a b c x y z : Int) : Tri := ⟨a, b, c, x, y, z, false, false, false⟩
/-- three points of the square, and all four. -/
def M0 : Mesh := ⟨sq, [t3 0 1 2 1 2 3, t3 2 1 (-1) 3 2 0, t3 0 2 (-1) 1 3 0, t3 1 0 (-1) 2 1 0], [], [3, 3, 2, -1]⟩
def M1 : Mesh := ⟨sq, [t3 0 1 2 4 2 3, t3 (-1) 2 3 4 5 2, t3 0 2 (-1) 1 3 0, t3 1 0 (-1) 2 5 0, t3 2 1 3 5 1 0, t3 1 (-1) 3 1 4 3], [], [3, 5, 4, 5]⟩
def q : Place := ⟨3, 1, 0, 0⟩
theorem m0_new : newMesh sq 0 1 2 = M0 := by decide
theorem find_at : findGo M0 ⟨2, 2⟩ (M0.tris.length + 1) 0 0 = some (q, 1) := by decide
theorem m1_ins : insertIn M0 3 q (fun _ => false) = M1 := by decide
theorem dig_at : dig M0 (pat M0.pts 3) q = ⟨[1], [⟨-1, 2, 2, 0, false⟩, ⟨2, 1, 0, 0, false⟩, ⟨1, -1, 3, 1, false⟩], false⟩ := by decide
theorem near_all : nearAll sq := by
  intro i
  unfold pat sq
  rcases i with _ | _ | _ | _ | i
  all_goals simp [Pt.near, Pt.zero]
theorem pat_sq (M : Mesh) (h : M.pts = sq) (n : Nat) : 0 ≤ (pat M.pts n).x ∧ (pat M.pts n).x ≤ 2 ∧ 0 ≤ (pat M.pts n).y ∧ (pat M.pts n).y ≤ 2 := by
  rw [h]
  unfold pat sq
  rcases n with _ | _ | _ | _ | n
  all_goals simp [Pt.zero]
theorem circ_at (M : Mesh) (h : M.pts = sq) (p : Pt) (hp : 0 ≤ p.x ∧ p.x ≤ 2 ∧ 0 ≤ p.y ∧ p.y ≤ 2) : M.circ p := by
  intro t _ w
  have k := fun n => pat_sq M h n
  have nr : ∀ r : Pt, (0 ≤ r.x ∧ r.x ≤ 2 ∧ 0 ≤ r.y ∧ r.y ≤ 2) → r.near := fun r hr => by unfold Pt.near; omega
  have qk : ∀ r : Pt, (0 ≤ r.x ∧ r.x ≤ 2 ∧ 0 ≤ r.y ∧ r.y ≤ 2) → Ci.quickOk r p := fun r hr => by unfold Ci.quickOk Qk.small; omega
  exact Ci.circle_quick _ _ _ p w (nr _ (k _)) (nr _ (k _)) (nr _ (k _)) (nr _ hp) (qk _ (k _)) (qk _ (k _)) (qk _ (k _))
theorem ok0 : M0.ok := ⟨near_all, by decide, by decide, by decide⟩
theorem ok1 : M1.ok := ⟨near_all, by decide, by decide, by decide⟩
theorem wf_of_list (M : Mesh) (h : ∀ T ∈ M.tris, T.v0 < M.pts.length ∧ T.v1 < M.pts.length ∧ T.v2 < M.pts.length) : M.wf := by
  intro i hi j
  have ht : tat M.tris i ∈ M.tris := List.mem_of_getElem? (tat_get hi)
  obtain ⟨h0, h1, h2⟩ := h _ ht
  rcases j with _ | _ | j
  · exact h0
  · exact h1
  · exact h2
theorem wf0 : M0.wf := wf_of_list _ (by decide)
theorem sane_of (M : Mesh) (h : ∀ t, t < M.tris.length → (∀ j, j < 3 → (0 ≤ (tat M.tris t).n j ∧ (tat M.tris t).n j < M.tris.length) ∧ (tat M.tris t).v j ≠ -2 ∧ ((tat M.tris t).v j ≠ -1 → 0 ≤ (tat M.tris t).v j ∧ (tat M.tris t).v j < M.pts.length)) ∧ ((tat M.tris t).v0 = -1 → (tat M.tris t).v1 ≠ -1 ∧ (tat M.tris t).v2 ≠ -1) ∧ ((tat M.tris t).v1 = -1 → (tat M.tris t).v2 ≠ -1)) : M.sane where
  nb t ht j hj := by
    obtain ⟨h1, h2⟩ := ((h t ht.1).1 j hj).1
    refine ⟨((tat M.tris t).n j).toNat, by omega, by omega, ?_⟩
    exact ((h _ (by omega)).1 0 (by omega)).2.1
  vs t ht j hj := ((h t ht.1).1 j hj).2.2
  g0 t ht := (h t ht.1).2.1
  g1 t ht := (h t ht.1).2.2
theorem sane0 : M0.sane := sane_of _ (by decide)
instance (A : Mesh) (s : Side) (v : Nat) : Decidable (StepOk A s v) := by unfold StepOk; infer_instance
instance (A : Mesh) (x y : Nat) : Decidable (LinkOk A x y) := by unfold LinkOk; infer_instance
theorem fill : FillOk M0 3 (dig M0 (pat M0.pts 3) q) fun _ => false := by
  rw [dig_at]
  exact ⟨by decide, by decide, by decide, by decide, by decide, by decide⟩
theorem ins_good : InsGood M0 3 3 M1 := by
  intro F0 B b w hM hF hB
  rw [← m1_ins]
  exact Is.insert_off F0 B b 3 M0 3 0 1 1 q w hM hF hB ok0 wf0 sane0 (by decide) (circ_at M0 rfl _ (by decide)) (by decide) (by decide) (by decide) find_at (by decide) (by decide) rfl ⟨by decide, by decide⟩ fill
theorem beside_of (M : Mesh) (n : Nat) (h : ∀ i, i < 3 → (0 ≤ (tat M.tris n).n i ∧ (tat M.tris n).n i < M.tris.length) ∧ ((tat M.tris n).f i = true → 0 ≤ (tat M.tris n).v ((i + 1) % 3) ∧ 0 ≤ (tat M.tris n).v ((i + 2) % 3)) ∧
    foundN (tat M.tris ((tat M.tris n).n i).toNat) ((tat M.tris n).v ((i + 1) % 3)) ((tat M.tris n).v ((i + 2) % 3)) n ((tat M.tris n).f i) 3 = true) : besideOk M n := fun i hi => by
  obtain ⟨h1, h2, h3⟩ := h i hi
  exact ⟨((tat M.tris n).n i).toNat, by omega, by omega, h2, h3⟩
theorem bump_in (T : Tri) (f : Int → Int) (u : Int) : ∀ k, bump T f k u ≠ f u → ∃ j, j < k ∧ T.v j = u ∧ u ≠ -2
  | 0, h => absurd rfl h
  | k + 1, h => by
    unfold bump at h
    split at h
    · obtain ⟨j, h1, h2⟩ := bump_in T f u k h
      exact ⟨j, by omega, h2⟩
    · rename_i hg
      simp only at h
      split at h
      · rename_i hu
        exact ⟨k, by omega, hu.symm, by rw [hu]; exact hg⟩
      · obtain ⟨j, h1, h2⟩ := bump_in T f u k h
        exact ⟨j, by omega, h2⟩
theorem cnt_in (M : Mesh) (u : Int) : ∀ n, cntM M n u ≠ 0 → ∃ t, t < n ∧ ∃ j, j < 3 ∧ (tat M.tris t).v j = u ∧ u ≠ -2
  | 0, h => absurd rfl h
  | n + 1, h => by
    by_cases hb : bump (tat M.tris n) (cntM M n) 3 u = cntM M n u
    · have h' : cntM M n u ≠ 0 := fun e => h (by unfold cntM; rw [hb, e])
      obtain ⟨t, h1, h2⟩ := cnt_in M u n h'
      exact ⟨t, by omega, h2⟩
    · obtain ⟨j, h1, h2⟩ := bump_in _ _ _ _ hb
      exact ⟨n, by omega, j, h1, h2⟩
/-- a list, as what comes at each step. -/
def at_ (l : List Nat) (i : Nat) : Nat := l.getD i 0
theorem apart_of {ts : Nat → Nat} {k : Nat} (h : ∀ i, i < k → 0 < i → ts i ≠ ts 0) : ∀ i, 0 < i → i < k → ts i ≠ ts 0 := fun i a b => h i b a
theorem stars1 : StarsOk M1 where
  vs := by decide
  round v hv := by
    obtain ⟨t, ht, j, hj, hvj, hg⟩ := cnt_in M1 v _ hv
    have hin : ∀ t, t < 6 → ∀ j, j < 3 → (tat M1.tris t).v j = -1 ∨ (tat M1.tris t).v j = 0 ∨ (tat M1.tris t).v j = 1 ∨ (tat M1.tris t).v j = 2 ∨ (tat M1.tris t).v j = 3 := by decide
    have := hin t ht j hj
    rw [hvj] at this
    rcases this with rfl | rfl | rfl | rfl | rfl
    · exact ⟨at_ [5, 3, 2, 1, 5], 4, ⟨by decide, by decide, by decide, by decide, by decide, by decide, apart_of (by decide)⟩, by decide, by decide⟩
    · exact ⟨at_ [3, 0, 2, 3], 3, ⟨by decide, by decide, by decide, by decide, by decide, by decide, apart_of (by decide)⟩, by decide, by decide⟩
    · exact ⟨at_ [5, 4, 0, 3, 5], 4, ⟨by decide, by decide, by decide, by decide, by decide, by decide, apart_of (by decide)⟩, by decide, by decide⟩
    · exact ⟨at_ [4, 1, 2, 0, 4], 4, ⟨by decide, by decide, by decide, by decide, by decide, by decide, apart_of (by decide)⟩, by decide, by decide⟩
    · exact ⟨at_ [5, 1, 4, 5], 3, ⟨by decide, by decide, by decide, by decide, by decide, by decide, apart_of (by decide)⟩, by decide, by decide⟩
  at_ := by decide
  ghost := by decide
theorem sound1 : SoundOk M1 where
  made := by decide
  beside t ht _ := by
    refine beside_of M1 t ?_
    rcases (show t = 0 ∨ t = 1 ∨ t = 2 ∨ t = 3 ∨ t = 4 ∨ t = 5 by have : M1.tris.length = 6 := rfl; omega) with rfl | rfl | rfl | rfl | rfl | rfl <;> decide
  stars := stars1
  ways := by decide
theorem hull1 : hull M1 = [0, 1, 3, 2] := by decide
theorem base1 : baseOf sq = some (1, 2) := by decide
def Ms (v : Nat) : Mesh := if v ≤ 3 then M0 else M1
def La (v : Nat) : Nat := if v ≤ 3 then 0 else 3
theorem grown : Grown sq 1 2 Ms La where
  m0 := m0_new.symm
  l0 := rfl
  same v hv h := by
    have : v = 0 ∨ v = 1 ∨ v = 2 := by omega
    rcases this with rfl | rfl | rfl <;> exact ⟨rfl, rfl⟩
  step v hv h := by
    have : v = 3 := by have : sq.length = 4 := rfl; omega
    subst this
    exact ⟨ins_good, rfl⟩
  read v hv := by
    have : v = 0 ∨ v = 1 ∨ v = 2 ∨ v = 3 := by have : sq.length = 4 := rfl; omega
    rcases this with rfl | rfl | rfl | rfl <;> decide
theorem build1 (g c : Nat) (w : World) (hP : PtsAt w g sq) :
    Calls Try.prog 20 #[.slice (some ⟨g, 0, none⟩) 4 c] w fun e w' => ∃ mb : Nat, e = .returned (.tuple #[.pointer (some ⟨mb, 0, none⟩), .bool true]) ∧ MeshAt w.heap.size w' mb M1 ∧ Below w.heap.size w w' :=
  Bd.build_some g c sq w hP near_all 1 2 base1 (by decide) (by decide) (by decide) (by decide) (by decide) Ms La grown
end Ft
end Go.Proofs.Ytdihefgleefhmaa
