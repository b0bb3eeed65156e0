/- round: how many triangles come, going round a point. -/
import Derived.Test.YtdihefgleefhmaaFl
import Derived.Test.YtdihefgleefhmaaMs
import Derived.Test.YtdihefgleefhmaaIt
import Derived.Test.YtdihefgleefhmaaMp
import Derived.Maps.RangeWalk
import Derived.Maps.Views
namespace Go.Proofs.Ytdihefgleefhmaa
open Go.RowKit
/-- the next triangle round a point. -/
def nextRound (M : Mesh) (v : Int) (t : Nat) : Int := (tat M.tris t).n ((Mr.place (tat M.tris t) v + 1) % 3).toNat
/-- the triangles that come, from t on: k of them, then it is t again. -/
structure RoundOk (M : Mesh) (v : Int) (ts : Nat → Nat) (k : Nat) : Prop where
 pos : 0 < k
 few : k ≤ M.tris.length
 lt : ∀ i, i < k → ts i < M.tris.length
 there : ∀ i, i < k → 0 ≤ Mr.place (tat M.tris (ts i)) v
 next : ∀ i, i < k → nextRound M v (ts i) = ts (i + 1)
 last : ts k = ts 0
 apart : ∀ i, 0 < i → i < k → ts i ≠ ts 0
namespace Rd
theorem place_lt3 (T : Tri) (v : Int) : Mr.place T v < 3 := by
 unfold Mr.place
 split <;> (try split) <;> (try split) <;> omega
set_option maxHeartbeats 2000000 in
set_option maxRecDepth 100000 in
theorem round_any (M : Mesh) (b : Nat) (v : Int) (ts : Nat → Nat) (k : Nat) (w : World) (h : MeshR w b M) (ho : M.ok) (hr : RoundOk M v ts k) :
  Calls Try.prog 60 #[.pointer (some ⟨b, 0, none⟩), .int .i64 v, .int .i64 (ts 0 : Nat)] w fun e w' => e = .returned (.int .i64 k) ∧ Below w.heap.size w w' := by
 obtain ⟨gp, cp, gt, ct, ga, ca, fV, h⟩ := h
 have T9 := ho.tris
 have H := Lib.hid h
 have HR := Lib.hid hr
 have kf := hr.few
 obtain ⟨L, hL⟩ : ∃ L, M.tris.length = L := ⟨_, rfl⟩
 rw [hL] at T9 kf
 have HL := Lib.hid hL
 clear h hr ho hL
 go_enter Try.func60, Try.ntmps60
 go_wp2
 go_loopw [7, 8] (fun x y wr => ∃ i : Nat, x = .int .i64 i ∧ y = .int .i64 (ts i : Nat) ∧ i < k ∧ Hid (Below w.heap.size w wr)) (fun x _ _ => k - (intOf x).toNat)
 case atStart => exact ⟨0, rfl, rfl, HR.out.pos, Lib.hid (bel_refl w)⟩
 case round =>
  obtain ⟨i, rfl, rfl, hi, HB⟩ := hrel
  have hM := H.out.later HB.out
  have hh := hM.head.cell 1 (.slice (some ⟨gt, 0, none⟩) M.tris.length ct) rfl
  rw [HL.out] at hh
  have hlt := HR.out.lt i hi
  obtain ⟨e0, e1, e2, e3, e4, e5, e6, e7, e8⟩ := hM.tris (ts i) hlt
  rw [HL.out] at hlt
  have hth := HR.out.there i hi
  have hnx := HR.out.next i hi
  unfold nextRound at hnx
  generalize hT : tat M.tris (ts i) = T at *
  have hp := Mr.place_any T v wr
  have hp3 := place_lt3 T v
  obtain ⟨q, hq⟩ : ∃ q : Nat, Mr.place T v = q := ⟨(Mr.place T v).toNat, by omega⟩
  rw [hq] at hp hnx hp3
  have q3 : q < 3 := by omega
  have t0 : (0 : Int) ≤ (ts i : Int) := by omega
  have t1 : (ts i : Int) < (L : Int) := by omega
  have HP := Lib.hid hp
  have hml : Hid (MR wr b M gp cp gt ct ga ca fV) := Lib.hid hM
  clear hM hT hth hp hq hp3
  rcases (show q = 0 ∨ q = 1 ∨ q = 2 by omega) with rfl | rfl | rfl
  ·have hn : T.n1 = (ts (i + 1) : Nat) := by
    have := hnx
    simpa [Tri.n] using this
   have HN := Lib.hid hn
   clear hnx hn
   go_upto_region 4 with (go_at_call 61; refine HP.out.mono ?_; rintro e w1 ⟨rfl, hb1⟩; have HB1 := Lib.hid hb1; clear hb1)
   have hm1 := hml.out.later HB1.out
   have hh1 := hm1.head.cell 1 (.slice (some ⟨gt, 0, none⟩) M.tris.length ct) rfl
   rw [HL.out] at hh1
   have e9 := cell_later e4 HB1.out
   rw [HN.out] at e9
   have HB2 := Lib.hid (bel_step HB.out HB1.out)
   clear hm1 hh e0 e1 e2 e3 e4 e5 e6 e7 e8 HB1 HB HP
   by_cases hk : i + 1 = k
   ·have hend : ts (i + 1) = ts 0 := by rw [hk]; exact HR.out.last
    have HE := Lib.hid hend
    have HK := Lib.hid hk
    have q1 : ((ts (i + 1) : Int) == (ts 0 : Int)) = true := by simp [hend]
    clear hk hend
    go_wp2
    go_ret
    exact ⟨by rw [← HK.out]; rfl, HB2.out⟩
   ·have hlt2 : i + 1 < k := by omega
    have hne := HR.out.apart (i + 1) (by omega) hlt2
    have q1 : ((ts (i + 1) : Int) == (ts 0 : Int)) = false := by simp; omega
    have q2 : ¬ (L : Int) < (i : Int) + 1 := by omega
    clear hne hk
    go_wp2
    go_roundw
    case rel => exact ⟨i + 1, by go_num, rfl, hlt2, HB2⟩
    case measure => simp [intOf]; omega
  ·have hn : T.n2 = (ts (i + 1) : Nat) := by
    have := hnx
    simpa [Tri.n] using this
   have HN := Lib.hid hn
   clear hnx hn
   go_upto_region 4 with (go_at_call 61; refine HP.out.mono ?_; rintro e w1 ⟨rfl, hb1⟩; have HB1 := Lib.hid hb1; clear hb1)
   have hm1 := hml.out.later HB1.out
   have hh1 := hm1.head.cell 1 (.slice (some ⟨gt, 0, none⟩) M.tris.length ct) rfl
   rw [HL.out] at hh1
   have e9 := cell_later e5 HB1.out
   rw [HN.out] at e9
   have HB2 := Lib.hid (bel_step HB.out HB1.out)
   clear hm1 hh e0 e1 e2 e3 e4 e5 e6 e7 e8 HB1 HB HP
   by_cases hk : i + 1 = k
   ·have hend : ts (i + 1) = ts 0 := by rw [hk]; exact HR.out.last
    have HE := Lib.hid hend
    have HK := Lib.hid hk
    have q1 : ((ts (i + 1) : Int) == (ts 0 : Int)) = true := by simp [hend]
    clear hk hend
    go_wp2
    go_ret
    exact ⟨by rw [← HK.out]; rfl, HB2.out⟩
   ·have hlt2 : i + 1 < k := by omega
    have hne := HR.out.apart (i + 1) (by omega) hlt2
    have q1 : ((ts (i + 1) : Int) == (ts 0 : Int)) = false := by simp; omega
    have q2 : ¬ (L : Int) < (i : Int) + 1 := by omega
    clear hne hk
    go_wp2
    go_roundw
    case rel => exact ⟨i + 1, by go_num, rfl, hlt2, HB2⟩
    case measure => simp [intOf]; omega
  ·have hn : T.n0 = (ts (i + 1) : Nat) := by
    have := hnx
    simpa [Tri.n] using this
   have HN := Lib.hid hn
   clear hnx hn
   go_upto_region 4 with (go_at_call 61; refine HP.out.mono ?_; rintro e w1 ⟨rfl, hb1⟩; have HB1 := Lib.hid hb1; clear hb1)
   have hm1 := hml.out.later HB1.out
   have hh1 := hm1.head.cell 1 (.slice (some ⟨gt, 0, none⟩) M.tris.length ct) rfl
   rw [HL.out] at hh1
   have e9 := cell_later e3 HB1.out
   rw [HN.out] at e9
   have HB2 := Lib.hid (bel_step HB.out HB1.out)
   clear hm1 hh e0 e1 e2 e3 e4 e5 e6 e7 e8 HB1 HB HP
   by_cases hk : i + 1 = k
   ·have hend : ts (i + 1) = ts 0 := by rw [hk]; exact HR.out.last
    have HE := Lib.hid hend
    have HK := Lib.hid hk
    have q1 : ((ts (i + 1) : Int) == (ts 0 : Int)) = true := by simp [hend]
    clear hk hend
    go_wp2
    go_ret
    exact ⟨by rw [← HK.out]; rfl, HB2.out⟩
   ·have hlt2 : i + 1 < k := by omega
    have hne := HR.out.apart (i + 1) (by omega) hlt2
    have q1 : ((ts (i + 1) : Int) == (ts 0 : Int)) = false := by simp; omega
    have q2 : ¬ (L : Int) < (i : Int) + 1 := by omega
    clear hne hk
    go_wp2
    go_roundw
    case rel => exact ⟨i + 1, by go_num, rfl, hlt2, HB2⟩
    case measure => simp [intOf]; omega
end Rd
end Go.Proofs.Ytdihefgleefhmaa
/- stars: what is counted, and the maps that hold it. -/
namespace Go.Proofs.Ytdihefgleefhmaa
open Go.RowKit
/-- one more for each of the first k points. -/
def bump (T : Tri) (f : Int → Int) : Nat → Int → Int
 | 0 => f
 | k + 1 => if T.v k = -2 then bump T f k else fun u => if u = T.v k then bump T f k u + 1 else bump T f k u
def cntM (M : Mesh) : Nat → Int → Int
 | 0 => fun _ => 0
 | n + 1 => bump (tat M.tris n) (cntM M n) 3
/-- the last triangle that has a point. -/
def mark (T : Tri) (n : Int) (f : Int → Int) : Nat → Int → Int
 | 0 => f
 | k + 1 => if T.v k = -2 then mark T n f k else fun u => if u = T.v k then n else mark T n f k u
def oneM (M : Mesh) : Nat → Int → Int
 | 0 => fun _ => 0
 | n + 1 => mark (tat M.tris n) n (oneM M n) 3
structure StarsOk (M : Mesh) : Prop where
 vs : ∀ t, t < M.tris.length → ∀ j, j < 3 → (tat M.tris t).v j = -1 ∨ (tat M.tris t).v j = -2 ∨ (0 ≤ (tat M.tris t).v j ∧ (tat M.tris t).v j < M.pts.length)
 round : ∀ v, cntM M M.tris.length v ≠ 0 → ∃ (ts : Nat → Nat) (k : Nat), RoundOk M v ts k ∧ oneM M M.tris.length v = (ts 0 : Nat) ∧ cntM M M.tris.length v = k
 at_ : ∀ i, i < M.at_.length → (iat M.at_ i < 0 ↔ cntM M M.tris.length i = 0) ∧ iat M.at_ i < M.tris.length ∧ (0 ≤ iat M.at_ i → 0 ≤ Mr.place (tat M.tris (iat M.at_ i).toNat) i)
 ghost : 0 < cntM M M.tris.length (-1)
namespace Sq
open Go.Maps
theorem bump_bound (T : Tri) (f : Int → Int) (m : Int) (hf : ∀ u, 0 ≤ f u ∧ f u ≤ m) : ∀ k u, 0 ≤ bump T f k u ∧ bump T f k u ≤ m + k
 | 0, u => by have := hf u; unfold bump; omega
 | k + 1, u => by
  have := bump_bound T f m hf k u
  unfold bump
  split
  ·omega
  ·simp only
   split <;> omega
theorem cnt_bound (M : Mesh) : ∀ n u, 0 ≤ cntM M n u ∧ cntM M n u ≤ 3 * n
 | 0, u => by unfold cntM; omega
 | n + 1, u => by
  have := bump_bound (tat M.tris n) (cntM M n) (3 * n) (cnt_bound M n) 3 u
  unfold cntM
  omega
abbrev IMap (W : World) (b n : Nat) (D : DataW Unit) : Prop := W.ownsMap Try.prog 3 (plainElem Try.prog 3) b n D
/-- a map of counts, none of them nothing. -/
def CntAt (W : World) (b N : Nat) (f : Int → Int) : Prop := ∃ n D, IMap W b n D ∧ n ≤ N ∧ ∀ v zd, D.atKey (.int .i64 v) zd = if f v = 0 then zd else .lit (.int .i64 (f v))
theorem wf_of {v : Int} (h : -1000000000000 ≤ v ∧ v ≤ 1000000000000) : (Lit.int .i64 v).wf = true := by
 simp only [Lit.wf, IntKind.min, IntKind.max, IntKind.signed, IntKind.bits, Bool.and_eq_true, decide_eq_true_eq, if_true]
 omega
theorem zero3 (w : World) : (zeroValue 3).run Try.prog w = .ok (.int .i64 0) w := by kernel_rfl
theorem CntAt.new (W : World) : CntAt (W.alloc (.map #[] 0)) W.heap.size 0 fun _ => 0 := ⟨0, _, World.ownsMap_made _ _ _ _, Nat.le_refl _, fun v zd => by simp [DataW.atKey]⟩
theorem CntAt.kept {W W' : World} {b N : Nat} {f : Int → Int} (h : CntAt W b N f) {row : Option Nat} (hg : W.grownBy W' row) (hr : some b ≠ row) : CntAt W' b N f := by
 obtain ⟨n, D, h1, h2, h3⟩ := h
 exact ⟨n, D, h1.kept hg hr, h2, h3⟩
theorem CntAt.later {W W' : World} {b N : Nat} {f : Int → Int} (h : CntAt W b N f) (hb : Below W.heap.size W W') : CntAt W' b N f := h.kept (grown_later hb) (by simp)
theorem CntAt.other {W : World} {b N : Nat} {f : Int → Int} (h : CntAt W b N f) {c : Nat} (hc : b ≠ c) (i : Nat) (v : Value) : CntAt (W.setCell ⟨c, i, none⟩ v) b N f := by
 obtain ⟨n, D, h1, h2, h3⟩ := h
 exact ⟨n, D, h1.setCell hc v, h2, h3⟩
theorem CntAt.lt {W : World} {b N : Nat} {f : Int → Int} (h : CntAt W b N f) : b < W.heap.size := by
 obtain ⟨_, _, h, _⟩ := h
 exact h.lt
theorem CntAt.look {W : World} {b N : Nat} {f : Int → Int} (h : CntAt W b N f) {v : Int} (hw : (Lit.int .i64 v).wf = true) : (Instr.lookup 95 (.map (some b)) (.int .i64 v) false).run Try.prog W = .ok (.int .i64 (f v)) W := by
 obtain ⟨n, D, h1, h2, h3⟩ := h
 obtain ⟨c, hc, hat, _⟩ := h1.lookup_int (int_keyed Try.underlying3) Try.underlying95 Try.underlying3 (zero3 W) (keyOf_int_mk Try.underlying3 hw)
 rw [hc]
 have := h3 v (.lit (.int .i64 0))
 rw [hat] at this
 split at this
 ·rename_i h0
  simp only [DataW.lit.injEq, Lit.int.injEq, true_and] at this
  rw [this, h0]
 ·simp only [DataW.lit.injEq, Lit.int.injEq, true_and] at this
  rw [this]
theorem CntAt.put {W : World} {b N : Nat} {f : Int → Int} (h : CntAt W b N f) {v c : Int} (hw : (Lit.int .i64 v).wf = true) (hc : (Lit.int .i64 c).wf = true) (h0 : c ≠ 0) (hN : N < maxLen) :
  ∃ w', (Instr.mapUpdate 95 (.map (some b)) (.int .i64 v) (.int .i64 c)).run Try.prog W = .ok () w' ∧ CntAt w' b (N + 1) (fun u => if u = v then c else f u) ∧ W.grownBy w' (some b) := by
 obtain ⟨n, D, h1, h2, h3⟩ := h
 obtain ⟨w', r1, r2, r3⟩ := h1.update (int_keyed Try.underlying3) Try.underlying95 (by omega) (keyOf_int_mk Try.underlying3 hw) (plainElem_int Try.underlying3 hc)
 refine ⟨w', r1, ⟨n + 1, _, r2, by omega, fun u zd => ?_⟩, r3⟩
 by_cases hu : u = v
 ·subst hu
  rw [atKey_put_same h1.isMap (by trivial)]
  simp [h0]
 ·rw [atKey_put_other (by intro e; simp at e; exact hu e), h3]
  simp only [if_neg hu]
theorem wpList_cnt_put {P : Program} (hP : P = Try.prog) (w : World) {ops : Array Oper} {rest : List Oper} {o : Oper} {a : Act} {Q : Exit → Act → World → Prop} (hg : o.guard = none) (m x v : Operand) (hop : o.op = Op.mapUpdate 95 m x v) (b N : Nat) {f : Int → Int} (hm : a.eval m = .map (some b))
  (h : CntAt w b N f) (y z : Int) (hx : a.eval x = .int .i64 y) (hv : a.eval v = .int .i64 z) (hw : (Lit.int .i64 y).wf = true) (hc : (Lit.int .i64 z).wf = true) (h0 : z ≠ 0) (hN : N < maxLen)
  (hK : ∀ w', CntAt w' b (N + 1) (fun u => if u = y then z else f u) → w.grownBy w' (some b) → wpList P ops Q rest (a.put o.dst undef) w') : wpList P ops Q (o :: rest) a w := by
 subst hP
 refine wpList_plain hg fun K' hK' => ?_
 obtain ⟨w', hrun, r1, r2⟩ := h.put hw hc h0 hN
 unfold Oper.wp
 simp [execOp, hop, hm, hx, hv, hrun, Result.andThen]
 exact hK' _ _ (hK w' r1 r2)
/-- both maps, m1 of counts, m2 of the last triangles. -/
structure StarS (w W : World) (m1 m2 N : Nat) (f o : Int → Int) : Prop where
 cnt : CntAt W m1 N f
 one : ∃ l : List (Int × Int), MapAt (Value.int .i64) (Value.int .i64) W m2 l ∧ ∀ v, mget 0 v l = o v
 ne : m1 ≠ m2
 bel : Below w.heap.size w W
 b1 : w.heap.size ≤ m1
 b2 : w.heap.size ≤ m2
theorem StarS.later {w W W' : World} {m1 m2 N : Nat} {f o : Int → Int} (h : StarS w W m1 m2 N f o) (hb : Below W.heap.size W W') : StarS w W' m1 m2 N f o := by
 obtain ⟨l, hl, hv⟩ := h.one
 exact ⟨h.cnt.later hb, ⟨l, hl.later hb, hv⟩, h.ne, bel_step h.bel hb, h.b1, h.b2⟩
theorem bel_grown {w W W' : World} {m : Nat} (h : Below w.heap.size w W) (hg : W.grownBy W' (some m)) (hm : w.heap.size ≤ m) : Below w.heap.size w W' := by
 refine ⟨hg.os.trans h.os, hg.tape.trans h.tape, hg.output.trans h.output, Nat.le_trans h.size hg.size, fun k hk => ?_⟩
 exact (hg.block k (Nat.lt_of_lt_of_le hk h.size) (fun e => by have := Option.some.inj e; omega)).trans (h.block k hk)
theorem StarS.put1 {w W W' : World} {m1 m2 N : Nat} {f o f' : Int → Int} (h : StarS w W m1 m2 N f o) (hc : CntAt W' m1 (N + 1) f') (hg : W.grownBy W' (some m1)) : StarS w W' m1 m2 (N + 1) f' o := by
 obtain ⟨l, hl, hv⟩ := h.one
 exact ⟨hc, ⟨l, hl.grown hg (fun e => h.ne (Option.some.inj e).symm), hv⟩, h.ne, bel_grown h.bel hg h.b1, h.b1, h.b2⟩
theorem get_put (l : List (Int × Int)) (u x y : Int) : mget 0 u (mput x y l) = if u = x then y else mget 0 u l := by
 induction l with
 | nil =>
  unfold mput mget mget
  by_cases h : x = u
  ·simp [h]
  ·have : ¬ u = x := fun e => h e.symm
   simp [h, this]
 | cons z l ih =>
  unfold mput
  by_cases hz : z.1 = x
  ·rw [if_pos hz]
   unfold mget
   by_cases hu : x = u
   ·simp [hu]
   ·have : ¬ u = x := fun e => hu e.symm
    simp [hu, hz, this]
  ·rw [if_neg hz]
   unfold mget
   rw [ih]
   by_cases hu : z.1 = u
   ·have : ¬ u = x := fun e => hz (hu.trans e)
    simp [hu, this]
   ·simp [hu]
theorem StarS.put2 {w W W' : World} {m1 m2 N : Nat} {f o : Int → Int} (h : StarS w W m1 m2 N f o) {l : List (Int × Int)} (hv : ∀ v, mget 0 v l = o v) {x y : Int} (hl : MapAt (Value.int .i64) (Value.int .i64) W' m2 (mput x y l)) (hg : W.grownBy W' (some m2)) : StarS w W' m1 m2 N f (fun u => if u = x then y else o u) :=
 ⟨h.cnt.kept hg (fun e => h.ne (Option.some.inj e)), ⟨_, hl, fun v => by rw [get_put, hv]⟩, h.ne, bel_grown h.bel hg h.b2, h.b1, h.b2⟩
end Sq
end Go.Proofs.Ytdihefgleefhmaa
