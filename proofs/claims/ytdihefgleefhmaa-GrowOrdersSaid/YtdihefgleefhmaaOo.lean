/- Points in another order: as many triangles, the same border. -/
import Derived.Test.YtdihefgleefhmaaGw
import Derived.Test.YtdihefgleefhmaaHo
namespace Go.Proofs.Ytdihefgleefhmaa
namespace Bg
section
variable {T : List Pt} {M : Mesh}
theorem reals (h : Full T M) : (realsTo M M.tris.length).length + (hull M).length + 2 = 2 * T.length := by
 obtain ⟨c, n, hc, e, hn, g⟩ := h.cfg
 rw [← e]
 exact Ho.reals hc g (fun x => by rw [allS_nat, e])
theorem hull_pos (h : Full T M) : 0 < (hull M).length := by
  obtain ⟨c, n, hc, e, hn, g⟩ := h.cfg
  obtain ⟨G, k, hb⟩ := Je.border g
  rw [(Jf.hull_at hb).1]
  exact hb.pos
theorem hull_few (h : Full T M) : (hull M).length ≤ 1000000000 := by
  have h1 := reals h
  have h2 := h.few
  omega
theorem hull_pts (h : Full T M) : ((hull M).map fun v => pat T v.toNat).Nodup ∧ ∀ p, p ∈ ((hull M).map fun v => pat T v.toNat) ↔ Ho.rimB T p := by
 obtain ⟨c, n, hc, e, hn, g⟩ := h.cfg
 subst e
 exact Ho.hull_pts hc g (fun x => allS_nat _ x)
end
/-- **points in another order: as many triangles, the same border.** -/
theorem orders {T U : List Pt} {M N : Mesh} (h : Full T M) (k : Full U N) (hp : U.Perm T) : (realsTo M M.tris.length).length = (realsTo N N.tris.length).length ∧ (hull M).length = (hull N).length ∧ ∀ v ∈ hull N, ∃ u ∈ hull M, pat T u.toNat = pat U v.toNat := by
 obtain ⟨h1, h2⟩ := hull_pts h
 obtain ⟨k1, k2⟩ := hull_pts k
 have hr : ∀ p, Ho.rimB U p ↔ Ho.rimB T p := fun p => by
  unfold Ho.rimB
  simp only [hp.mem_iff]
 have hq : ((hull N).map fun v => pat U v.toNat).Perm ((hull M).map fun v => pat T v.toNat) := (List.perm_ext_iff_of_nodup k1 h1).2 fun p => by rw [k2, h2, hr]
 have hl := hq.length_eq
 rw [List.length_map, List.length_map] at hl
 have r1 := reals h
 have r2 := reals k
 have hlen := hp.length_eq
 refine ⟨by omega, hl.symm, fun v hv => ?_⟩
 have := hq.mem_iff.1 (List.mem_map_of_mem (f := fun v => pat U v.toNat) hv)
 rw [List.mem_map] at this
 exact this
end Bg
end Go.Proofs.Ytdihefgleefhmaa
