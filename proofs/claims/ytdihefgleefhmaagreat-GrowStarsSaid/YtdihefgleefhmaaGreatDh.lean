import Derived.Test.YtdihefgleefhmaaGreatDg
namespace Go.Proofs.YtdihefgleefhmaaGreat
open Go.RowKit
namespace Dg
open Wd Pr Dq
attribute [local go_sem high] Pr.run_maxI Pr.run_minI
def Rest2(s g:Nat)(W u:World):Prop:=W.heap.size≤u.heap.size∧∀k,k<W.heap.size→k≠s→k≠g→u.heap[k]? =W.heap[k]?
theorem Rest2.drew(s g:Nat)(W:World):Rest2 s g W W.drew:=⟨Nat.le_refl _,fun _ _ _ _=>rfl⟩
theorem Rest2.of{s g:Nat}{W u:World}(h:Below W.heap.size W u):Rest2 s g W u:=⟨h.size,fun k hk _ _=>h.block k hk⟩
theorem Rest2.cell{s g:Nat}{W u:World}(h:Rest2 s g W u){b t:Nat}{cs:Array Value}(hb:Blk W b t cs)(hs:b≠s)(hg:b≠g)(i:Nat)(v:Value)(hv:cs[i]? =some v):u.cell? ⟨b,i,none⟩=some v:=
 (World.cell?_of_block (h.2 b hb.lt hs hg)).trans (hb.cell i v hv)
theorem Rest2.alloc{s g:Nat}{W u:World}(h:Rest2 s g W u){o:Obj} : Rest2 s g W (u.alloc o):=⟨by have:=h.1;simp;omega,fun k hk hs hg=>(heap_alloc_old u o (Nat.lt_of_lt_of_le hk h.1)).trans (h.2 k hk hs hg)⟩
theorem Rest2.set{s g:Nat}{W u:World}(h:Rest2 s g W u){i:Nat}{x:Value} : Rest2 s g W (u.setCell ⟨s,i,none⟩ x):=⟨by simp;exact h.1,fun k hk hs hg=>(Below.heap_setCell _ _ _ _ hs).trans (h.2 k hk hs hg)⟩
theorem Rest2.grown{s g:Nat}{W u u':World}(h:Rest2 s g W u){row:Option Nat}(hg:u.grownBy u' row)(hr:row=some g):Rest2 s g W u':=⟨Nat.le_trans h.1 hg.size,fun k hk hs hgk=>by
 refine(hg.block k (Nat.lt_of_lt_of_le hk h.1) (fun e=>?_)).trans (h.2 k hk hs hgk);rw[hr]at e;exact hgk (Option.some.inj e)⟩
structure DigP(w W:World)(p:Pt)(c:Nat)(v:Value)(cs:List Nat):Prop where
 pB:Blk W w.heap.size 24 #[.int .i64 p.x,.int .i64 p.y]
 rB:Blk W (w.heap.size+2) 85 #[.slice none 0 0,.slice none 0 0,.bool false]
 cV:Blk W c 85 #[v,.slice none 0 0,.bool false]
 own:W.ownsRow w.heap.size 3 1 v cs.length (nv cs)
 bel:Below w.heap.size w W
 cB:w.heap.size+2<c
theorem DigP.later{w W W':World}{p:Pt}{c:Nat}{v:Value}{cs:List Nat}(h:DigP w W p c v cs)(hb:Below W.heap.size W W'):DigP w W' p c v cs:=
 ⟨h.pB.later hb,h.rB.later hb,h.cV.later hb,own_later h.own hb,bel_step h.bel hb,h.cB⟩
theorem DigP.grow{w W W1:World}{p:Pt}{c:Nat}{v v':Value}{cs:List Nat}(h:DigP w W p c v cs){o:Obj}{y:Nat}(h1:W1.ownsRow w.heap.size 3 1 v' (cs.length+1) (nv cs++[.int .i64 y]))(h2:(W.alloc o).grownBy W1 v.ownBlock) :
  DigP w (W1.setCell ⟨c,0,none⟩ v') p c v' (cs++[y])∧W1.cell? ⟨c,0,none⟩=some v∧W1.frozen? ⟨c,0,none⟩=false:=by
 have hA:=h.later (bel_alloc (bel_refl W) o)
 have kb:∀g t xs,t≠3→Blk W g t xs→Blk W1 g t xs:=fun g t xs ht hb=>
  blk_grown hb h2 (fun e=>blk_ne (hb.alloc o) hA.own ht e.symm rfl)
 have kc:=kb c 85 _ (by decide) h.cV;refine⟨⟨(kb _ _ _ (by decide) h.pB).other (by have:=h.cB;omega) _ _,(kb _ _ _ (by decide) h.rB).other (by have:=h.cB;omega) _ _,kc.set 0 _,?_,?_,h.cB⟩,kc.cell 0 v rfl,kc.frozen 0⟩
 ·refine ownsRow_setCell_other (a:=⟨c,0,none⟩) (by simpa using h1) (fun e=>blk_ne kc h1 (by decide) e rfl) _
 ·refine Below.setCell (p:=⟨c,0,none⟩) ⟨h2.os.trans hA.bel.os,h2.tape.trans hA.bel.tape,h2.output.trans hA.bel.output,Nat.le_trans hA.bel.size h2.size,fun k hk=>?_⟩ (by have:=h.cB;simp only;omega) _
  refine(h2.block k (Nat.lt_of_lt_of_le hk hA.bel.size) (fun e=>?_)).trans (hA.bel.block k hk);have:=(hA.own.lt k e.symm).1;omega
theorem DigP.mapped{w W:World}{p:Pt}{c:Nat}{v:Value}{cs:List Nat}(h:DigP w W p c v cs):DigS w (W.alloc (.map #[] 0)) p c W.heap.size v cs []:=
 ⟨h.pB.alloc _,h.rB.alloc _,h.cV.alloc _,own_later h.own (bel_alloc (bel_refl W) _),⟨[],MapAt.new _ _ W,fun u=>by simp[mget]⟩,bel_alloc h.bel _,h.cB,by have:=h.cB;have:=h.cV.lt;omega⟩
set_option maxHeartbeats 40000000 in
set_option maxRecDepth 100000 in
theorem dig_on(M:Mesh)(b:Nat)(p:Pt)(q:Place)(w:World)(h:MeshR w b M)(ho:M.ok)(hp:p.near)(hs:M.sane)(hc:M.circ p)(t0 t9:Nat)(hq:q.kind=1)(hqt:q.tri=t0)(ht0:M.live t0)(ht9:acrossOf (tat M.tris t0) q.a q.b=t9)(hl9:M.live t9)(h09:t0≠t9) :
  Calls Tryz.prog 37 #[.pointer (some ⟨b,0,none⟩),pv p,plv q] w fun e w'=>∃vt vr,e=.returned (.agg #[vt,vr,.bool (dig M p q).cut])∧
   w'.ownsRow w.heap.size 3 1 vt (dig M p q).tris.length (nv (dig M p q).tris)∧w'.ownsRow w.heap.size 89 5 vr (dig M p q).rim.length ((dig M p q).rim.flatMap Side.cs)∧Below w.heap.size w w':=by
 have hac:=fun u hu=>Ac.across_any M b t0 q.a q.b u hu ht0.1
 rw[ht9]at hac;obtain⟨gp,cp,gt,ct,ga,ca,fV,h⟩:=h
 have hst:digStart M q=[t0,t9]:=by
  unfold digStart;rw[if_pos hq,hqt];simp only[Int.toNat_natCast];rw[ht9];rfl
 obtain⟨D,hD⟩:∃D,dig M p q=D:=⟨_,rfl⟩;rw[hD];have HST:=Hd hst;have HDD:=Hd hD;have H:=Hd h;have HO:=Hd ho;have HP:=Hd hp;have HS:=Hd hs;have HC:=Hd hc;have HT0:=Hd ht0;have HT9:=Hd hl9;have HAC:=Hd hac;have H09:=Hd h09;obtain⟨kd,tr,qa,qb⟩:=q;simp only at hqt hq HAC;subst hqt hq;clear hst hD h ho hp hs hc ht0 ht9 hl9 h09 hac;have hmm:=@run_makeMap Tryz.prog
 go_enter Tryz.func37,Tryz.ntmps37
 go_upto_region 3 with(fail)
 have A0:=((((Blk.new w 24 #[.int .i64 p.x,.int .i64 p.y]).alloc (.cells #[.int .i64 1,.int .i64 t0,.int .i64 qa,.int .i64 qb] 78)).alloc (.cells #[.slice none 0 0,.slice none 0 0,.bool false] 85)).alloc (.cells #[.int .i64 t0] 3)).alloc (.cells #[.slice (some ⟨w.heap.size+1+1+1,0,none⟩) 1 1,.slice none 0 0,.bool false] 85);have A1:=(((Blk.new' (n:=w.heap.size+1) (w.alloc (.cells #[.int .i64 p.x,.int .i64 p.y] 24)) 78 #[.int .i64 1,.int .i64 t0,.int .i64 qa,.int .i64 qb] (by simp)).alloc (.cells #[.slice none 0 0,.slice none 0 0,.bool false] 85)).alloc (.cells #[.int .i64 t0] 3)).alloc (.cells #[.slice (some ⟨w.heap.size+1+1+1,0,none⟩) 1 1,.slice none 0 0,.bool false] 85);have A2:=((Blk.new' (n:=w.heap.size+2) ((w.alloc (.cells #[.int .i64 p.x,.int .i64 p.y] 24)).alloc (.cells #[.int .i64 1,.int .i64 t0,.int .i64 qa,.int .i64 qb] 78)) 85 #[.slice none 0 0,.slice none 0 0,.bool false] (by simp)).alloc (.cells #[.int .i64 t0] 3)).alloc (.cells #[.slice (some ⟨w.heap.size+1+1+1,0,none⟩) 1 1,.slice none 0 0,.bool false] 85);have A3:=(Blk.new' (n:=w.heap.size+1+1+1) (((w.alloc (.cells #[.int .i64 p.x,.int .i64 p.y] 24)).alloc (.cells #[.int .i64 1,.int .i64 t0,.int .i64 qa,.int .i64 qb] 78)).alloc (.cells #[.slice none 0 0,.slice none 0 0,.bool false] 85)) 3 #[.int .i64 t0] (by simp)).alloc (.cells #[.slice (some ⟨w.heap.size+1+1+1,0,none⟩) 1 1,.slice none 0 0,.bool false] 85);have A4:=Blk.new' (n:=w.heap.size+1+1+1+1) ((((w.alloc (.cells #[.int .i64 p.x,.int .i64 p.y] 24)).alloc (.cells #[.int .i64 1,.int .i64 t0,.int .i64 qa,.int .i64 qb] 78)).alloc (.cells #[.slice none 0 0,.slice none 0 0,.bool false] 85)).alloc (.cells #[.int .i64 t0] 3)) 85 #[.slice (some ⟨w.heap.size+1+1+1,0,none⟩) 1 1,.slice none 0 0,.bool false] (by simp);have AB:=bel_alloc (bel_alloc (bel_alloc (bel_alloc (bel_alloc (bel_refl w) (.cells #[.int .i64 p.x,.int .i64 p.y] 24)) (.cells #[.int .i64 1,.int .i64 t0,.int .i64 qa,.int .i64 qb] 78)) (.cells #[.slice none 0 0,.slice none 0 0,.bool false] 85)) (.cells #[.int .i64 t0] 3)) (.cells #[.slice (some ⟨w.heap.size+1+1+1,0,none⟩) 1 1,.slice none 0 0,.bool false] 85);obtain⟨W,hW⟩:∃W,(((((w.alloc (.cells #[.int .i64 p.x,.int .i64 p.y] 24)).alloc (.cells #[.int .i64 1,.int .i64 t0,.int .i64 qa,.int .i64 qb] 78)).alloc (.cells #[.slice none 0 0,.slice none 0 0,.bool false] 85)).alloc (.cells #[.int .i64 t0] 3)).alloc (.cells #[.slice (some ⟨w.heap.size+1+1+1,0,none⟩) 1 1,.slice none 0 0,.bool false] 85))=W:=⟨_,rfl⟩;rw[hW]at A0 A1 A2 A3 A4 AB ⊢;have hWs:W.heap.size=w.heap.size+5:=by rw[←hW];simp
 have e1:∀u,Rest2 (w.heap.size+4) (w.heap.size+3) W u→u.cell? ⟨w.heap.size+1,1,none⟩=some (.int .i64 t0):=fun u hu=>hu.cell A1 (by omega) (by omega) 1 _ rfl
 have e2:∀u,Rest2 (w.heap.size+4) (w.heap.size+3) W u→u.cell? ⟨w.heap.size+1,2,none⟩=some (.int .i64 qa):=fun u hu=>hu.cell A1 (by omega) (by omega) 2 _ rfl
 have e3:∀u,Rest2 (w.heap.size+4) (w.heap.size+3) W u→u.cell? ⟨w.heap.size+1,3,none⟩=some (.int .i64 qb):=fun u hu=>hu.cell A1 (by omega) (by omega) 3 _ rfl
 obtain⟨y0,y1,y2,z0,z1,z2⟩:=A4.three;have HA0:=Hd A0;have HA2:=Hd A2;have HA3:=Hd (own_one A3 (show w.heap.size≤w.heap.size+1+1+1 by omega));have HA4:=Hd A4;have HAB:=Hd AB;have HR:=Hd (H.out.later AB);obtain⟨i3,hi',hz0,hz1,hz2⟩:=info_parts Tryz.info3';clear A0 A1 A2 A3 A4 AB hW;have HDP0:=Hd (show DigP w W p (w.heap.size+1+1+1+1) (.slice (some ⟨w.heap.size+1+1+1,0,none⟩) 1 1) [t0]from⟨HA0.out,HA2.out,HA4.out,HA3.out,HAB.out,by omega⟩)
 go_cut [43] (fun v43 wr=>∃g9 cap9,Hid (DigP w wr p (w.heap.size+1+1+1+1) (.slice (some ⟨g9,0,none⟩) 2 cap9) [t0,t9]))
 case first=> as_aux_lemma=>
  refine Go.Gq.region_held (Rest2 (w.heap.size+4) (w.heap.size+3) W) (by kernel_rfl) (Rest2.drew _ _ _) (fun hHeld=>?_);refine wpAnyH_take (i:=0) (v:=?_) rfl (by kernel_rfl) (by kernel_rfl) (by kernel_rfl) (fun _ _ _ h=>h) (Or.inl ⟨by rfl,?_⟩) (by assumption) ?_;rotate_left
  ·intro u hu;go_simp;(try with_reducible rfl)
  try simp only[List.getElem_toArray,List.getElem_cons_zero,Act.put,List.setIfInBounds_toArray,List.set_cons_zero,List.set_cons_succ]
  refine wpAnyH_take (i:=2) (v:=?_) rfl (by kernel_rfl) (by kernel_rfl) (by kernel_rfl) (fun _ _ _ h=>h) (Or.inl ⟨by rfl,?_⟩) (by assumption) ?_;rotate_left
  ·intro u hu;go_simp;(try with_reducible rfl)
  try simp only[Act.put,pu]
  refine wpAnyH_take (i:=3) (v:=?_) rfl (by kernel_rfl) (by kernel_rfl) (by kernel_rfl) (fun _ _ _ h=>h) (Or.inl ⟨by rfl,?_⟩) (by assumption) ?_;rotate_left
  ·intro u hu;go_simp;(try with_reducible rfl)
  try simp only[Act.put,pu]
  refine wpAnyH_take (i:=4) (v:=?_) rfl (by kernel_rfl) (by kernel_rfl) (by kernel_rfl) (fun _ _ _ h=>h) (Or.inl ⟨by rfl,?_⟩) (by assumption) ?_;rotate_left
  ·intro u hu;go_simp;(try with_reducible rfl)
  try simp only[Act.put,pu]
  refine wpAnyH_take (i:=5) (v:=?_) rfl (by kernel_rfl) (by kernel_rfl) (by kernel_rfl) (fun _ _ _ h=>h) (Or.inl ⟨by rfl,?_⟩) (by assumption) ?_;rotate_left
  ·intro u hu;go_simp;(try with_reducible rfl)
  try simp only[Act.put,pu]
  refine wpAnyH_take (i:=6) (v:=?_) rfl (by kernel_rfl) (by kernel_rfl) (by kernel_rfl) (fun _ _ _ h=>h) (Or.inl ⟨by rfl,?_⟩) (by assumption) ?_;rotate_left
  ·intro u hu;go_simp;(try with_reducible rfl)
  try simp only[Act.put,pu]
  refine wpAnyH_take (i:=7) (v:=?_) rfl (by kernel_rfl) (by kernel_rfl) (by kernel_rfl) (fun _ _ _ h=>h) (Or.inl ⟨by rfl,?_⟩) (by assumption) ?_;rotate_left
  ·intro u hu;go_simp;(try with_reducible rfl)
  try simp only[Act.put,pu]
  refine wpAnyH_take (i:=8) (v:=?_) rfl (by kernel_rfl) (by kernel_rfl) (by kernel_rfl) (fun _ _ _ h=>h) (Or.inl ⟨by rfl,?_⟩) (by assumption) ?_;rotate_left
  ·intro u hu;go_simp;(try with_reducible rfl)
  try simp only[Act.put,pu]
  refine wpAnyH_ready (rs:=[1,9]) (by kernel_rfl) (by simp) ?_;refine AllReadyH.cons rfl (fun K hK=>?_) (AllReadyH.cons rfl (fun K hK=>?_) AllReadyH.nil)
  ·go_simp
   refine hK.out _ _ (by assumption) (fun hHeld=>?_);clear hK K
   try simp only[Act.put,pu]
   refine wpAnyH_ready (rs:=[9]) (by kernel_rfl) (by simp) ?_;refine AllReadyH.cons rfl (fun K hK=>?_) AllReadyH.nil;go_simp;refine(HAC.out _ ⟨_,_,_,_,_,_,_,H.out.later (bel_drew HAB.out)⟩).mono ?_;rintro e w1 ⟨rfl,hb1⟩;have HDP:=Hd (HDP0.out.later (bel_step (bel_drew (bel_refl W)) hb1));have hRR:Rest2 (w.heap.size+4) (w.heap.size+3) W w1:=Rest2.of (bel_step (bel_drew (bel_refl W)) hb1);clear hb1;refine hK.out _ _ hRR (fun hHeld=>?_);clear hK K
   try simp only[Act.put,pu]
   refine wpAnyH_ready (rs:=[10]) (by kernel_rfl) (by simp) ?_;refine AllReadyH.cons rfl (fun K hK=>?_) AllReadyH.nil;go_simp;refine hK.out _ _ hRR.alloc (fun hHeld=>?_);clear hK K hRR;have hRR:=hHeld
   try simp only[Act.put,pu]
   refine wpAnyH_ready (rs:=[11]) (by kernel_rfl) (by simp) ?_;refine AllReadyH.cons rfl (fun K hK=>?_) AllReadyH.nil;refine step_append_lies _ (by rfl) _ _ _ (by rfl) w.heap.size 3 i3 (.int .i64 0) 1 8 Tryz.underlying37 hi' hz0 hz1 hz2 rfl (by decide) (.slice (some ⟨w.heap.size+1+1+1,0,none⟩) 1 1) 1 (nv [t0]) (by rfl) (HDP.out.own.alloc _) ⟨w1.heap.size,0,none⟩ 1 1 [.int .i64 t9] (by rfl) (by rfl) (cell_one_new _ _ _) (by simp[Value.oneCell']) (by omega) (by unfold maxLen;omega) (by omega) (by have:=HDP.out.bel.size;simp;omega) (w1.heap.size+1) (by simp) ?_;intro g cap w2 hown hgrow hat hlt;have hG:=HDP.out.grow hown hgrow;have hR2:=hHeld.grown hgrow rfl;have HG:=Hd hG.1;have hc1:=hG.2.1;have hc2:=hG.2.2;clear hown hgrow hat hG;refine hK.out _ _ hR2 (fun hHeld=>?_);clear hK K
   try simp only[Act.put,pu]
   refine wpAnyH_ready (rs:=[12]) (by kernel_rfl) (by simp) ?_;refine AllReadyH.cons rfl (fun K hK=>?_) AllReadyH.nil;go_simp;refine hK.out _ _ hR2 (fun hHeld=>?_);clear hK K
   try simp only[Act.put,pu]
   refine wpAnyH_ready (rs:=[13]) (by kernel_rfl) (by simp) ?_;refine AllReadyH.cons rfl (fun K hK=>?_) AllReadyH.nil;go_simp;refine hK.out _ _ (hR2.set) (fun hHeld=>?_);clear hK K
   try simp only[Act.put,pu]
   refine wpAnyH_done (by kernel_rfl) ?_ _;unfold Go.Gq.OnlyN;go_wp2
   go_meet
   exact⟨g,cap,HG⟩
  ·go_simp
   refine(HAC.out _ ⟨_,_,_,_,_,_,_,H.out.later (bel_drew HAB.out)⟩).mono ?_;rintro e w1 ⟨rfl,hb1⟩;have HDP:=Hd (HDP0.out.later (bel_step (bel_drew (bel_refl W)) hb1));have hRR:Rest2 (w.heap.size+4) (w.heap.size+3) W w1:=Rest2.of (bel_step (bel_drew (bel_refl W)) hb1);clear hb1;refine hK.out _ _ hRR (fun hHeld=>?_);clear hK K
   try simp only[Act.put,pu]
   refine wpAnyH_ready (rs:=[1,10]) (by kernel_rfl) (by simp) ?_;refine AllReadyH.cons rfl (fun K hK=>?_) (AllReadyH.cons rfl (fun K hK=>?_) AllReadyH.nil)
   ·have f0:=HDP.out.cV.cell 0 (.slice (some ⟨w.heap.size+1+1+1,0,none⟩) 1 1) rfl
    go_simp;refine hK.out _ _ (by assumption) (fun hHeld=>?_);clear hK K
    try simp only[Act.put,pu]
    refine wpAnyH_ready (rs:=[10]) (by kernel_rfl) (by simp) ?_;refine AllReadyH.cons rfl (fun K hK=>?_) AllReadyH.nil;go_simp;refine hK.out _ _ hRR.alloc (fun hHeld=>?_);clear hK K hRR;have hRR:=hHeld
    try simp only[Act.put,pu]
    refine wpAnyH_ready (rs:=[11]) (by kernel_rfl) (by simp) ?_;refine AllReadyH.cons rfl (fun K hK=>?_) AllReadyH.nil;refine step_append_lies _ (by rfl) _ _ _ (by rfl) w.heap.size 3 i3 (.int .i64 0) 1 8 Tryz.underlying37 hi' hz0 hz1 hz2 rfl (by decide) (.slice (some ⟨w.heap.size+1+1+1,0,none⟩) 1 1) 1 (nv [t0]) (by rfl) (HDP.out.own.alloc _) ⟨w1.heap.size,0,none⟩ 1 1 [.int .i64 t9] (by rfl) (by rfl) (cell_one_new _ _ _) (by simp[Value.oneCell']) (by omega) (by unfold maxLen;omega) (by omega) (by have:=HDP.out.bel.size;simp;omega) (w1.heap.size+1) (by simp) ?_;intro g cap w2 hown hgrow hat hlt;have hG:=HDP.out.grow hown hgrow;have hR2:=hHeld.grown hgrow rfl;have HG:=Hd hG.1;have hc1:=hG.2.1;have hc2:=hG.2.2;clear hown hgrow hat hG;refine hK.out _ _ hR2 (fun hHeld=>?_);clear hK K
    try simp only[Act.put,pu]
    refine wpAnyH_ready (rs:=[12]) (by kernel_rfl) (by simp) ?_;refine AllReadyH.cons rfl (fun K hK=>?_) AllReadyH.nil;go_simp;refine hK.out _ _ hR2 (fun hHeld=>?_);clear hK K
    try simp only[Act.put,pu]
    refine wpAnyH_ready (rs:=[13]) (by kernel_rfl) (by simp) ?_;refine AllReadyH.cons rfl (fun K hK=>?_) AllReadyH.nil;go_simp;refine hK.out _ _ (hR2.set) (fun hHeld=>?_);clear hK K
    try simp only[Act.put,pu]
    refine wpAnyH_done (by kernel_rfl) ?_ _;unfold Go.Gq.OnlyN;go_wp2
    go_meet
    exact⟨g,cap,HG⟩
   ·go_simp
    refine hK.out _ _ hRR.alloc (fun hHeld=>?_);clear hK K hRR;have hRR:=hHeld
    try simp only[Act.put,pu]
    refine wpAnyH_ready (rs:=[1]) (by kernel_rfl) (by simp) ?_;refine AllReadyH.cons rfl (fun K hK=>?_) AllReadyH.nil;have f0:=(HDP.out.cV.alloc (.cells #[.int .i64 t9] 3)).cell 0 (.slice (some ⟨w.heap.size+1+1+1,0,none⟩) 1 1) rfl;go_simp;refine hK.out _ _ (by assumption) (fun hHeld=>?_);clear hK K
    try simp only[Act.put,pu]
    refine wpAnyH_ready (rs:=[11]) (by kernel_rfl) (by simp) ?_;refine AllReadyH.cons rfl (fun K hK=>?_) AllReadyH.nil;refine step_append_lies _ (by rfl) _ _ _ (by rfl) w.heap.size 3 i3 (.int .i64 0) 1 8 Tryz.underlying37 hi' hz0 hz1 hz2 rfl (by decide) (.slice (some ⟨w.heap.size+1+1+1,0,none⟩) 1 1) 1 (nv [t0]) (by rfl) (HDP.out.own.alloc _) ⟨w1.heap.size,0,none⟩ 1 1 [.int .i64 t9] (by rfl) (by rfl) (cell_one_new _ _ _) (by simp[Value.oneCell']) (by omega) (by unfold maxLen;omega) (by omega) (by have:=HDP.out.bel.size;simp;omega) (w1.heap.size+1) (by simp) ?_;intro g cap w2 hown hgrow hat hlt;have hG:=HDP.out.grow hown hgrow;have hR2:=hHeld.grown hgrow rfl;have HG:=Hd hG.1;have hc1:=hG.2.1;have hc2:=hG.2.2;clear hown hgrow hat hG;refine hK.out _ _ hR2 (fun hHeld=>?_);clear hK K
    try simp only[Act.put,pu]
    refine wpAnyH_ready (rs:=[12]) (by kernel_rfl) (by simp) ?_;refine AllReadyH.cons rfl (fun K hK=>?_) AllReadyH.nil;go_simp;refine hK.out _ _ hR2 (fun hHeld=>?_);clear hK K
    try simp only[Act.put,pu]
    refine wpAnyH_ready (rs:=[13]) (by kernel_rfl) (by simp) ?_;refine AllReadyH.cons rfl (fun K hK=>?_) AllReadyH.nil;go_simp;refine hK.out _ _ (hR2.set) (fun hHeld=>?_);clear hK K
    try simp only[Act.put,pu]
    refine wpAnyH_done (by kernel_rfl) ?_ _;unfold Go.Gq.OnlyN;go_wp2
    go_meet
    exact⟨g,cap,HG⟩
 obtain⟨g9,cap9,HP9⟩:=hcut;have hS:=HP9.out.mapped;have HSS:=Hd hS;have hc0:=hS.cV.cell 0 (.slice (some ⟨g9,0,none⟩) 2 cap9) rfl;have hT:Taken M [t0,t9]:=⟨by simp;exact H09.out,by simpa using ⟨HT0.out,HT9.out⟩⟩;clear hS HP9 HDP0 HA0 HA2 HA3 HA4 HAB HR HAC e1 e2 e3 y0 y1 y2 z0 z1 z2 i3 hi' hz0 hz1 hz2
 go_upto_region 5 with(fail)
 generalize w.heap.size+1+1+1+1=c at *;generalize wc.alloc (.map #[] 0)=W1 at *;generalize wc.heap.size=m at *;have hpos:0<[t0,t9].length:=by simp
 generalize Value.slice (some ⟨g9,0,none⟩) 2 cap9=v at *;generalize [t0,t9]=cs0 at *;obtain⟨g0,cap,rfl,_⟩:=own_shape HSS.out.own hpos;obtain⟨n,hn⟩:∃n,cs0.length=n:=⟨_,rfl⟩;have HN:=Hd hn;have HTK:=Hd hT;rw[hn]at HSS hc0;have hn9:n≤1000000000:=by have:=HTK.out.len;have:=HO.out.tris;omega
 clear hn hT;go_wp2
 go_loopw [48] (fun a wr=>∃j:Nat,a=.int .i64 j∧j≤n∧Hid (DigS w wr p c m (.slice (some ⟨g0,0,none⟩) n cap) cs0 (cs0.take j))) (fun a _=>n-(intOf a).toNat)
 case atStart=>exact⟨0,rfl,Nat.zero_le _,HSS⟩
 case round=>
  obtain⟨j,rfl,hj,HX⟩:=hrel;by_cases hlt:j<n
  ·have i0:(0:Int)≤(j:Int):=by omega
   have i1:(j:Int)<(n:Int):=by omega
   obtain⟨x,hx⟩:∃x,cs0[j]? =some x:=by
    have:=HN.out;exact⟨cs0[j],List.getElem?_eq_getElem (by omega)⟩
   have hx1:wr.cell? ⟨g0,j,none⟩=some (.int .i64 x):=by
    have h1:=HX.out.own;rw[HN.out]at h1;rw[h1.cellAt j (by omega),List.getElem?_map,hx];rfl
   obtain⟨l,hl,hu⟩:=HX.out.inn;have HL:=Hd hl;have HU:=Hd hu;have HXX:=Hd hx;clear hl hu hx
   go_wp2_with (at_mapUpdate;refine wpList_map_put _ rfl _ _ _ 134 rfl Tryz.underlying134 (Mp.int_ok Tryz.underlying3) m rfl HL.out (x:Int) true rfl rfl ?_;intro w1 hm1 hg1;have HY:=Hd (HX.out.mark HU.out x HL.out hm1 hg1);clear hm1 hg1)
   go_roundw
   case rel=>
    refine⟨j+1,by go_num,by omega,?_⟩;have:=HY.out;rw[List.take_add_one,HXX.out];exact Hd this
   case measure=>simp[intOf];omega
  ·obtain rfl:j=n:=by omega
   have hX:=HX.out;rw[←HN.out,List.take_length]at hX;obtain⟨R,hR⟩:∃R,digGo M p (M.tris.length+1) 0 cs0=R:=⟨_,rfl⟩;have HX1:=Hd hX;have HRR:=Hd hR;have T9:M.tris.length≤1000000000:=HO.out.tris;obtain⟨T,hTl⟩:∃T,M.tris.length=T:=⟨_,rfl⟩;rw[hTl]at T9;have HTL:=Hd hTl;clear hX hR HX hTl hc0;go_wp2
   go_loopw [11] (fun a wr=>∃(k:Nat) (cs:List Nat) (v:Value),a=.int .i64 k∧k≤T∧0<cs.length∧Hid (Taken M cs)∧Hid (digGo M p (T+1-k) k cs=R)∧Hid (DigS w wr p c m v cs cs)) (fun a _=>T+1-(intOf a).toNat)
   case atStart=>exact⟨0,cs0,_,rfl,Nat.zero_le _,hpos,HTK,Hd (by rw[←HTL.out];exact HRR.out),HX1⟩
   case round=>
    obtain⟨k,cs,v,rfl,hk,hcp,HTc,HGo,HDS⟩:=hrel
    obtain⟨A,n',cp',rfl⟩:∃A n' cp',v=.slice A n' cp':=by
     obtain⟨A,cp',h1⟩:=own_slice HDS.out.own;exact⟨A,_,cp',h1⟩
    obtain rfl:n'=cs.length:=by
     obtain⟨A',cp'',h1⟩:=own_slice HDS.out.own;injection h1
    have hlen:=HTc.out.len;rw[HTL.out]at hlen;have hc0:=HDS.out.cV.cell 0 (.slice A cs.length cp') rfl;by_cases hlt:k<cs.length
    ·obtain⟨u,hu⟩:∃u,cs[k]? =some u:=⟨cs[k],List.getElem?_eq_getElem hlt⟩
     have hul:=HTc.out.live u (List.mem_of_getElem? hu);obtain⟨g1,c1,hA,_⟩:=own_shape HDS.out.own (by omega);obtain rfl:A=some ⟨g1,0,none⟩:=by injection hA
     have hx1:wr.cell? ⟨g1,k,none⟩=some (.int .i64 u):=by
      rw[HDS.out.own.cellAt k (by omega),List.getElem?_map,hu];rfl
     have hM:=(H.out).later HDS.out.bel;have hh:=hM.head.cell 1 (.slice (some ⟨gt,0,none⟩) M.tris.length ct) rfl;obtain⟨e0,e1,e2,e3,e4,e5,e6,e7,e8⟩:=hM.tris u hul.1;have nb:=HS.out.nb u hul;have hul1:=hul.1;rw[HTL.out]at hh hul1;generalize hTu:tat M.tris u=X at *;have HTu:=Hd hTu;have n0:=World.new_ne _ _ hc0;have n1:=World.new_ne _ _ hx1;have n2:=World.new_ne _ _ hh;have n3:=World.new_ne _ _ e0;have k0:(0:Int)≤(k:Int):=by omega
     have k1:(k:Int)<(cs.length:Int):=by omega
     have u0:(0:Int)≤(u:Int):=by omega
     have u1:(u:Int)<(T:Int):=by omega
     have HUU:=Hd hu;have HUL:=Hd hul;have HNB:=Hd nb;clear hu hul hA nb hM hTu
     go_upto_region 13 with(fail)
     go_region_held3 (fun w'=>w'.cell? ⟨b,1,none⟩=some (.slice (some ⟨gt,0,none⟩) T ct)∧w'.cell? ⟨c,0,none⟩=some (.slice (some ⟨g1,0,none⟩) cs.length cp')∧w'.cell? ⟨g1,k,none⟩=some (.int .i64 u)∧
      w'.cell? ⟨gt,u*9,none⟩=some (.int .i64 X.v0)∧w'.cell? ⟨gt,u*9+1,none⟩=some (.int .i64 X.v1)∧w'.cell? ⟨gt,u*9+2,none⟩=some (.int .i64 X.v2)∧w'.cell? ⟨gt,u*9+3,none⟩=some (.int .i64 X.n0)∧w'.cell? ⟨gt,u*9+4,none⟩=some (.int .i64 X.n1)∧
      w'.cell? ⟨gt,u*9+5,none⟩=some (.int .i64 X.n2)∧w'.cell? ⟨gt,u*9+6,none⟩=some (.bool X.f0)∧w'.cell? ⟨gt,u*9+7,none⟩=some (.bool X.f1)∧w'.cell? ⟨gt,u*9+8,none⟩=some (.bool X.f2)) (go_keep) (fail)
     go_wp2_with fail
     have hS2:=HDS.out.later (bel_drew (bel_alloc (bel_refl wr) (.cells #[.int .i64 X.v0,.int .i64 X.v1,.int .i64 X.v2,.int .i64 X.n0,.int .i64 X.n1,.int .i64 X.n2,.bool X.f0,.bool X.f1,.bool X.f2] 43)));have hB2:=(Blk.new wr 43 #[.int .i64 X.v0,.int .i64 X.v1,.int .i64 X.v2,.int .i64 X.n0,.int .i64 X.n1,.int .i64 X.n2,.bool X.f0,.bool X.f1,.bool X.f2]).drew;have hne2:wr.heap.size≠c:=fun e=>by have:=HDS.out.cV.lt;omega
     generalize (wr.alloc (.cells #[.int .i64 X.v0,.int .i64 X.v1,.int .i64 X.v2,.int .i64 X.n0,.int .i64 X.n1,.int .i64 X.n2,.bool X.f0,.bool X.f1,.bool X.f2] 43)).drew=W2 at *;generalize wr.heap.size=tb at *;have HS2:=Hd hS2;have HB2:=Hd hB2;clear hS2 hB2 n0 n1 n2 n3 hc0 hx1 hh e0 e1 e2 e3 e4 e5 e6 e7 e8;have hTG:∀i,i≤3→Taken M (digTri M p X i cs):=fun i hi=>HTu.out▸HTc.out.tri HS.out HUL.out i hi
     have HTG:=Hd hTG;clear hTG
     go_loopw [75] (fun a wq=>∃(i:Nat) (ds:List Nat) (v:Value),a=.int .i64 i∧i≤3∧Hid (digTri M p X i cs=ds)∧Hid (DigS w wq p c m v ds ds)∧Hid (Blk wq tb 43 #[.int .i64 X.v0,.int .i64 X.v1,.int .i64 X.v2,.int .i64 X.n0,.int .i64 X.n1,.int .i64 X.n2,.bool X.f0,.bool X.f1,.bool X.f2])) (fun a _=>3-(intOf a).toNat)
     case atStart=>exact⟨0,cs,_,rfl,by omega,Hd rfl,HS2,HB2⟩
     case round=>as_aux_lemma=>
      obtain⟨i,ds,v2,rfl,hi,HDT,HDS2,HBX⟩:=hrel;have hTd:=HTG.out i hi;rw[HDT.out]at hTd;have HTD:=Hd hTd;clear hTd;rcases(show i=0∨i=1∨i=2∨i=3 by omega)with rfl|rfl|rfl|rfl
      ·obtain⟨y,hy,hyl⟩:=HNB.out 0 (by omega)
       simp only[Tri.n]at hy;have ix:∀w,(Instr.index 40 (.agg #[.int .i64 X.n0,.int .i64 X.n1,.int .i64 X.n2]) (.int .i64 0)).run Tryz.prog w=.ok (.int .i64 X.n0) w:=fun _=>by kernel_rfl
       have hYL:=Hd hyl;obtain⟨l,hl,hu⟩:=HDS2.out.inn;have hlk:=hl.look Tryz.underlying134 (Mp.int_ok Tryz.underlying3) (z:=false) (e:=4) (by rfl) (y:Int);rw[hu y,←hy]at hlk;have hM2:=(H.out).later HDS2.out.bel;have hcf:=conflict_live M p HO.out HP.out HS.out HC.out b y hyl _ ⟨_,_,_,_,_,_,_,hM2⟩;rw[←hy]at hcf;obtain⟨p0,p1,_,_⟩:=HDS2.out.pB.two;have f0:=HBX.out.cell 6 (.bool X.f0) rfl
       have hstep:digTri M p X 1 cs=digOne M p ds y X.f0:=by
        show digOne M p (digTri M p X 0 cs) (X.n 0).toNat (X.f 0)=_
        rw[HDT.out,show X.n 0=(y:Int)from hy];rfl
       have HST2:=Hd hstep;have HY:=Hd hy;have HL:=Hd hl;have HU:=Hd hu;have HM2:=Hd hM2;obtain⟨qc,hqc⟩:∃q,conflict M (tat M.tris y) p=q:=⟨_,rfl⟩;rw[hqc]at hcf;have HQC:=Hd hqc;have HCF:=Hd hcf;obtain⟨qi,hqi⟩:∃q,decide (y∈ds)=q:=⟨_,rfl⟩;rw[hqi]at hlk;have HQI:=Hd hqi;obtain⟨qf,hqf⟩:∃q,X.f0=q:=⟨_,rfl⟩;rw[hqf]at f0;have HQF:=Hd hqf;clear hy hyl hl hu hM2 hcf hstep hqi hqf hqc;cases qi
       ·cases qf
        ·cases qc
         ·go_wp2_with (go_at_call 15;refine HCF.out.mono ?_;rintro e w1 ⟨rfl,hb1⟩;have HB1:=Hd hb1;clear hb1)
          go_roundw
          case rel=>exact⟨1,ds,_,by go_num,by omega,Hd (HST2.out.trans (by unfold digOne;rw[if_neg (of_decide_eq_false HQI.out),HQF.out,if_neg (by simp),HQC.out,if_neg (by simp)])),Hd (HDS2.out.later HB1.out),Hd (HBX.out.later HB1.out)⟩
          case measure=>simp[intOf]
         ·have hgo:digTri M p X 1 cs=ds++[y]:=HST2.out.trans (by unfold digOne;rw[if_neg (of_decide_eq_false HQI.out),HQF.out,if_neg (by simp),HQC.out,if_pos rfl])
          have HGO:=Hd hgo;have hdl:ds.length≤1000000000:=by have:=HTD.out.len;have:=HTL.out;omega
          have hown:=HDS2.out.own;obtain⟨A2,c2,hA2⟩:=own_slice hown;subst hA2;have hc2:=HDS2.out.cV.cell 0 (.slice A2 ds.length c2) rfl;obtain⟨i0,hi',hz0,hz1,hz2⟩:=info_parts Tryz.info3';clear hgo hown
          go_wp2_with (first
           | (go_at_call 15;refine HCF.out.mono ?_;rintro e w1 ⟨rfl,hb1⟩;have HB1:=Hd hb1;clear hb1)
           | (at_mapUpdate;refine wpList_map_put _ rfl _ _ _ 134 rfl Tryz.underlying134 (Mp.int_ok Tryz.underlying3) m rfl (HL.out.later HB1.out) X.n0 true rfl rfl ?_;intro w2 hm2 hg2;have HE2:=Hd (((HDS2.out.later HB1.out).mark HU.out y (HL.out.later HB1.out) (HY.out▸hm2) hg2));have HBX2:=Hd ((HL.out.later HB1.out).set hg2 (HBX.out.later HB1.out));have hc3:=HE2.out.cV.cell 0 (.slice A2 ds.length c2) rfl;clear hm2 hg2)
           | (at_builtin;refine wpList_append_own_at _ rfl _ _ 37 rfl w.heap.size 3 i0 (.int .i64 0) 1 8 Tryz.underlying37 hi' hz0 hz1 hz2 rfl (by decide) (.slice A2 ds.length c2) ds.length (nv ds) rfl (HE2.out.own.alloc _) ⟨w2.heap.size,0,none⟩ 1 1 [.int .i64 X.n0] rfl rfl (cell_one_new _ _ _) (by simp[Value.oneCell']) (by show ds.length+1≤_;unfold maxLen;omega) (by show(ds.length+1)*8≤_;omega) (by have:=HE2.out.bel.size;simp;omega) ?_;intro v3 w3 hown3 hgrow _ hat3;obtain⟨g3,cp3,rfl⟩:=own_shape' hown3;have HG3:=Hd (HE2.out.grow (HY.out▸hown3) hgrow);have hc4:=HG3.out.2.1;have hc5:=HG3.out.2.2.1;clear hown3 hgrow hat3))
          go_roundw
          case rel=>exact⟨1,ds++[y],_,by go_num,by omega,HGO,Hd HG3.out.1,Hd (HG3.out.2.2.2 tb 43 _ (by decide) hne2 HBX2.out)⟩
          case measure=>simp[intOf]
        ·go_wp2
         go_roundw
         case rel=>exact⟨1,ds,_,by go_num,by omega,Hd (HST2.out.trans (by unfold digOne;rw[if_neg (of_decide_eq_false HQI.out),HQF.out,if_pos rfl])),HDS2,HBX⟩
         case measure=>simp[intOf]
       ·go_wp2
        go_roundw
        case rel=>exact⟨1,ds,_,by go_num,by omega,Hd (HST2.out.trans (by unfold digOne;rw[if_pos (of_decide_eq_true HQI.out)])),HDS2,HBX⟩
        case measure=>simp[intOf]
      ·obtain⟨y,hy,hyl⟩:=HNB.out 1 (by omega)
       simp only[Tri.n]at hy;have ix:∀w,(Instr.index 40 (.agg #[.int .i64 X.n0,.int .i64 X.n1,.int .i64 X.n2]) (.int .i64 1)).run Tryz.prog w=.ok (.int .i64 X.n1) w:=fun _=>by kernel_rfl
       have hYL:=Hd hyl;obtain⟨l,hl,hu⟩:=HDS2.out.inn;have hlk:=hl.look Tryz.underlying134 (Mp.int_ok Tryz.underlying3) (z:=false) (e:=4) (by rfl) (y:Int);rw[hu y,←hy]at hlk;have hM2:=(H.out).later HDS2.out.bel;have hcf:=conflict_live M p HO.out HP.out HS.out HC.out b y hyl _ ⟨_,_,_,_,_,_,_,hM2⟩;rw[←hy]at hcf;obtain⟨p0,p1,_,_⟩:=HDS2.out.pB.two;have f0:=HBX.out.cell 7 (.bool X.f1) rfl
       have hstep:digTri M p X 2 cs=digOne M p ds y X.f1:=by
        show digOne M p (digTri M p X 1 cs) (X.n 1).toNat (X.f 1)=_
        rw[HDT.out,show X.n 1=(y:Int)from hy];rfl
       have HST2:=Hd hstep;have HY:=Hd hy;have HL:=Hd hl;have HU:=Hd hu;have HM2:=Hd hM2;obtain⟨qc,hqc⟩:∃q,conflict M (tat M.tris y) p=q:=⟨_,rfl⟩;rw[hqc]at hcf;have HQC:=Hd hqc;have HCF:=Hd hcf;obtain⟨qi,hqi⟩:∃q,decide (y∈ds)=q:=⟨_,rfl⟩;rw[hqi]at hlk;have HQI:=Hd hqi;obtain⟨qf,hqf⟩:∃q,X.f1=q:=⟨_,rfl⟩;rw[hqf]at f0;have HQF:=Hd hqf;clear hy hyl hl hu hM2 hcf hstep hqi hqf hqc;cases qi
       ·cases qf
        ·cases qc
         ·go_wp2_with (go_at_call 15;refine HCF.out.mono ?_;rintro e w1 ⟨rfl,hb1⟩;have HB1:=Hd hb1;clear hb1)
          go_roundw
          case rel=>exact⟨2,ds,_,by go_num,by omega,Hd (HST2.out.trans (by unfold digOne;rw[if_neg (of_decide_eq_false HQI.out),HQF.out,if_neg (by simp),HQC.out,if_neg (by simp)])),Hd (HDS2.out.later HB1.out),Hd (HBX.out.later HB1.out)⟩
          case measure=>simp[intOf]
         ·have hgo:digTri M p X 2 cs=ds++[y]:=HST2.out.trans (by unfold digOne;rw[if_neg (of_decide_eq_false HQI.out),HQF.out,if_neg (by simp),HQC.out,if_pos rfl])
          have HGO:=Hd hgo;have hdl:ds.length≤1000000000:=by have:=HTD.out.len;have:=HTL.out;omega
          have hown:=HDS2.out.own;obtain⟨A2,c2,hA2⟩:=own_slice hown;subst hA2;have hc2:=HDS2.out.cV.cell 0 (.slice A2 ds.length c2) rfl;obtain⟨i0,hi',hz0,hz1,hz2⟩:=info_parts Tryz.info3';clear hgo hown
          go_wp2_with (first
           | (go_at_call 15;refine HCF.out.mono ?_;rintro e w1 ⟨rfl,hb1⟩;have HB1:=Hd hb1;clear hb1)
           | (at_mapUpdate;refine wpList_map_put _ rfl _ _ _ 134 rfl Tryz.underlying134 (Mp.int_ok Tryz.underlying3) m rfl (HL.out.later HB1.out) X.n1 true rfl rfl ?_;intro w2 hm2 hg2;have HE2:=Hd (((HDS2.out.later HB1.out).mark HU.out y (HL.out.later HB1.out) (HY.out▸hm2) hg2));have HBX2:=Hd ((HL.out.later HB1.out).set hg2 (HBX.out.later HB1.out));have hc3:=HE2.out.cV.cell 0 (.slice A2 ds.length c2) rfl;clear hm2 hg2)
           | (at_builtin;refine wpList_append_own_at _ rfl _ _ 37 rfl w.heap.size 3 i0 (.int .i64 0) 1 8 Tryz.underlying37 hi' hz0 hz1 hz2 rfl (by decide) (.slice A2 ds.length c2) ds.length (nv ds) rfl (HE2.out.own.alloc _) ⟨w2.heap.size,0,none⟩ 1 1 [.int .i64 X.n1] rfl rfl (cell_one_new _ _ _) (by simp[Value.oneCell']) (by show ds.length+1≤_;unfold maxLen;omega) (by show(ds.length+1)*8≤_;omega) (by have:=HE2.out.bel.size;simp;omega) ?_;intro v3 w3 hown3 hgrow _ hat3;obtain⟨g3,cp3,rfl⟩:=own_shape' hown3;have HG3:=Hd (HE2.out.grow (HY.out▸hown3) hgrow);have hc4:=HG3.out.2.1;have hc5:=HG3.out.2.2.1;clear hown3 hgrow hat3))
          go_roundw
          case rel=>exact⟨2,ds++[y],_,by go_num,by omega,HGO,Hd HG3.out.1,Hd (HG3.out.2.2.2 tb 43 _ (by decide) hne2 HBX2.out)⟩
          case measure=>simp[intOf]
        ·go_wp2
         go_roundw
         case rel=>exact⟨2,ds,_,by go_num,by omega,Hd (HST2.out.trans (by unfold digOne;rw[if_neg (of_decide_eq_false HQI.out),HQF.out,if_pos rfl])),HDS2,HBX⟩
         case measure=>simp[intOf]
       ·go_wp2
        go_roundw
        case rel=>exact⟨2,ds,_,by go_num,by omega,Hd (HST2.out.trans (by unfold digOne;rw[if_pos (of_decide_eq_true HQI.out)])),HDS2,HBX⟩
        case measure=>simp[intOf]
      ·obtain⟨y,hy,hyl⟩:=HNB.out 2 (by omega)
       simp only[Tri.n]at hy;have ix:∀w,(Instr.index 40 (.agg #[.int .i64 X.n0,.int .i64 X.n1,.int .i64 X.n2]) (.int .i64 2)).run Tryz.prog w=.ok (.int .i64 X.n2) w:=fun _=>by kernel_rfl
       have hYL:=Hd hyl;obtain⟨l,hl,hu⟩:=HDS2.out.inn;have hlk:=hl.look Tryz.underlying134 (Mp.int_ok Tryz.underlying3) (z:=false) (e:=4) (by rfl) (y:Int);rw[hu y,←hy]at hlk;have hM2:=(H.out).later HDS2.out.bel;have hcf:=conflict_live M p HO.out HP.out HS.out HC.out b y hyl _ ⟨_,_,_,_,_,_,_,hM2⟩;rw[←hy]at hcf;obtain⟨p0,p1,_,_⟩:=HDS2.out.pB.two;have f0:=HBX.out.cell 8 (.bool X.f2) rfl
       have hstep:digTri M p X 3 cs=digOne M p ds y X.f2:=by
        show digOne M p (digTri M p X 2 cs) (X.n 2).toNat (X.f 2)=_
        rw[HDT.out,show X.n 2=(y:Int)from hy];rfl
       have HST2:=Hd hstep;have HY:=Hd hy;have HL:=Hd hl;have HU:=Hd hu;have HM2:=Hd hM2;obtain⟨qc,hqc⟩:∃q,conflict M (tat M.tris y) p=q:=⟨_,rfl⟩;rw[hqc]at hcf;have HQC:=Hd hqc;have HCF:=Hd hcf;obtain⟨qi,hqi⟩:∃q,decide (y∈ds)=q:=⟨_,rfl⟩;rw[hqi]at hlk;have HQI:=Hd hqi;obtain⟨qf,hqf⟩:∃q,X.f2=q:=⟨_,rfl⟩;rw[hqf]at f0;have HQF:=Hd hqf;clear hy hyl hl hu hM2 hcf hstep hqi hqf hqc;cases qi
       ·cases qf
        ·cases qc
         ·go_wp2_with (go_at_call 15;refine HCF.out.mono ?_;rintro e w1 ⟨rfl,hb1⟩;have HB1:=Hd hb1;clear hb1)
          go_roundw
          case rel=>exact⟨3,ds,_,by go_num,by omega,Hd (HST2.out.trans (by unfold digOne;rw[if_neg (of_decide_eq_false HQI.out),HQF.out,if_neg (by simp),HQC.out,if_neg (by simp)])),Hd (HDS2.out.later HB1.out),Hd (HBX.out.later HB1.out)⟩
          case measure=>simp[intOf]
         ·have hgo:digTri M p X 3 cs=ds++[y]:=HST2.out.trans (by unfold digOne;rw[if_neg (of_decide_eq_false HQI.out),HQF.out,if_neg (by simp),HQC.out,if_pos rfl])
          have HGO:=Hd hgo;have hdl:ds.length≤1000000000:=by have:=HTD.out.len;have:=HTL.out;omega
          have hown:=HDS2.out.own;obtain⟨A2,c2,hA2⟩:=own_slice hown;subst hA2;have hc2:=HDS2.out.cV.cell 0 (.slice A2 ds.length c2) rfl;obtain⟨i0,hi',hz0,hz1,hz2⟩:=info_parts Tryz.info3';clear hgo hown
          go_wp2_with (first
           | (go_at_call 15;refine HCF.out.mono ?_;rintro e w1 ⟨rfl,hb1⟩;have HB1:=Hd hb1;clear hb1)
           | (at_mapUpdate;refine wpList_map_put _ rfl _ _ _ 134 rfl Tryz.underlying134 (Mp.int_ok Tryz.underlying3) m rfl (HL.out.later HB1.out) X.n2 true rfl rfl ?_;intro w2 hm2 hg2;have HE2:=Hd (((HDS2.out.later HB1.out).mark HU.out y (HL.out.later HB1.out) (HY.out▸hm2) hg2));have HBX2:=Hd ((HL.out.later HB1.out).set hg2 (HBX.out.later HB1.out));have hc3:=HE2.out.cV.cell 0 (.slice A2 ds.length c2) rfl;clear hm2 hg2)
           | (at_builtin;refine wpList_append_own_at _ rfl _ _ 37 rfl w.heap.size 3 i0 (.int .i64 0) 1 8 Tryz.underlying37 hi' hz0 hz1 hz2 rfl (by decide) (.slice A2 ds.length c2) ds.length (nv ds) rfl (HE2.out.own.alloc _) ⟨w2.heap.size,0,none⟩ 1 1 [.int .i64 X.n2] rfl rfl (cell_one_new _ _ _) (by simp[Value.oneCell']) (by show ds.length+1≤_;unfold maxLen;omega) (by show(ds.length+1)*8≤_;omega) (by have:=HE2.out.bel.size;simp;omega) ?_;intro v3 w3 hown3 hgrow _ hat3;obtain⟨g3,cp3,rfl⟩:=own_shape' hown3;have HG3:=Hd (HE2.out.grow (HY.out▸hown3) hgrow);have hc4:=HG3.out.2.1;have hc5:=HG3.out.2.2.1;clear hown3 hgrow hat3))
          go_roundw
          case rel=>exact⟨3,ds++[y],_,by go_num,by omega,HGO,Hd HG3.out.1,Hd (HG3.out.2.2.2 tb 43 _ (by decide) hne2 HBX2.out)⟩
          case measure=>simp[intOf]
        ·go_wp2
         go_roundw
         case rel=>exact⟨3,ds,_,by go_num,by omega,Hd (HST2.out.trans (by unfold digOne;rw[if_neg (of_decide_eq_false HQI.out),HQF.out,if_pos rfl])),HDS2,HBX⟩
         case measure=>simp[intOf]
       ·go_wp2
        go_roundw
        case rel=>exact⟨3,ds,_,by go_num,by omega,Hd (HST2.out.trans (by unfold digOne;rw[if_pos (of_decide_eq_true HQI.out)])),HDS2,HBX⟩
        case measure=>simp[intOf]
      ·have hgo2:digGo M p (T+1-(k+1)) (k+1) ds=R:=by
        have h1:=HGo.out;rw[show T+1-k=(T+1-(k+1))+1 by omega]at h1;unfold digGo at h1;rw[if_pos hlt,List.getD_eq_getElem?_getD,HUU.out,Option.getD_some,HTu.out,HDT.out]at h1;exact h1
       have HGO2:=Hd hgo2;have hdp:0<ds.length:=Nat.lt_of_lt_of_le hcp (HDT.out▸(tri_le M p X cs 3).length_le);have hdl:ds.length≤T:=by have:=HTD.out.len;rw[HTL.out]at this;exact this
       clear hgo2;go_wp2;go_roundw
       case rel=>exact⟨k+1,ds,_,by go_num,by omega,hdp,HTD,HGO2,HDS2⟩
       case measure=>simp[intOf];omega
    ·have hgo3:cs=R:=by
      have h1:=HGo.out;rw[show T+1-k=(T-k)+1 by omega]at h1;unfold digGo at h1;rw[if_neg hlt]at h1;exact h1
     subst hgo3;clear HGo;obtain⟨g2,c2,hA,_⟩:=own_shape HDS.out.own hcp;obtain rfl:A=some ⟨g2,0,none⟩:=by injection hA
     have hsl:cs.length<4611686018427387904:=by omega
     have hsrt:Calls Tryz.prog 69 #[.slice (some ⟨g2,0,none⟩) cs.length cp'] wr fun e w'=>e=.returned (.tuple #[])∧DigS w w' p c m (.slice (some ⟨g2,0,none⟩) cs.length cp') (isort cs) (isort cs):=by
      have h1:=Tryz.slices_Sort_int g2 0 cp' (cs.map fun(n:Nat)=>(n:Int)) wr (own_sorted (k:=0) (os:=#[]) HDS.out.own).1 (own_sorted (k:=0) (os:=#[]) HDS.out.own).2.1 (by rw[List.length_map];exact hsl);rw[List.length_map]at h1;refine h1.mono ?_;rintro e w' ⟨he,kk,os,rfl⟩;refine⟨he,HDS.out.rowed ?_ (own_sorted HDS.out.own).2.2.2 fun u=>(isort_mem cs u).symm⟩;rw[isort_len];exact(own_sorted HDS.out.own).2.2.1
     have HSRT:=Hd hsrt;clear hsrt
     go_upto_region 22 with(go_at_call 69;refine HSRT.out.mono ?_;rintro e w1 ⟨rfl,hd1⟩;have HD1:=Hd hd1;clear hd1)
     have hRm:RimS w (w1.alloc (.map #[] 0)) p c m w1.heap.size (.slice (some ⟨g2,0,none⟩) cs.length cp') (isort cs) ⟨[],M.pts.length,false⟩:=by
      have h1:=HD1.out.later (bel_alloc (bel_refl w1) (.map #[] 0));obtain⟨l,hl,hu⟩:=HD1.out.inn;exact⟨h1.pB,h1.rB,h1.cV,h1.own,h1.inn,MapAt.new _ _ _,h1.bel,h1.cB,by have:=HD1.out.bel.size;have:=HD1.out.cB;have:=HD1.out.cV.lt;omega,by have:=hl.lt;omega⟩
     have hMp:=(H.out).later hRm.bel;have hh0:=hMp.head.cell 0 (.slice (some ⟨gp,0,none⟩) M.pts.length cp) rfl;have hTs:=HTc.out.sort;have hls:=isort_len cs;have HRM:=Hd hRm;have hc0:=hRm.cV.cell 0 (.slice (some ⟨g2,0,none⟩) cs.length cp') rfl
     have hdig:D=⟨isort cs,rimGo (digRims M p (isort cs)).begins (digRims M p (isort cs)).begins.length (digRims M p (isort cs)).least,(digRims M p (isort cs)).cut⟩:=by
      rw[←HDD.out];unfold dig;rw[HST.out,HRR.out]
     have HDIG:=Hd hdig;obtain⟨N,hN⟩:∃N,cs.length=N:=⟨_,rfl⟩;have hN9:N≤1000000000:=by omega
     clear hdig hRm hMp HDS HRR HTc HSRT
     go_upto_region 24 with(fail)
     clear HD1;generalize w1.alloc (.map #[] 0)=W3 at *;generalize w1.heap.size=m2 at *;generalize isort cs=ds at *;rw[hN]at hls HRM hc0 ⊢;have HLS:=Hd hls;have HTS:=Hd hTs;clear hls hTs hsl hlen hlt hcp hN hh0 hk;go_wp2
     go_loopw [16,117] (fun le a wr=>∃(j:Nat) (r:Rims),a=.int .i64 j∧le=.int .i64 r.least∧j≤N∧Hid (rimAll M p ds r (ds.drop j)=digRims M p ds)∧Hid (RimS w wr p c m m2 (.slice (some ⟨g2,0,none⟩) N cp') ds r)) (fun _ a _=>N-(intOf a).toNat)
     case atStart=>exact⟨0,_,rfl,rfl,Nat.zero_le _,Hd rfl,HRM⟩
     case round=>as_aux_lemma=>
      obtain⟨j,r,rfl,rfl,hj,HRA,HR⟩:=hrel;by_cases hlt:j<N
      ·obtain⟨t,ht⟩:∃t,ds[j]? =some t:=⟨ds[j]'(by have:=HLS.out;omega),List.getElem?_eq_getElem _⟩
       have htl:=HTS.out.live t (List.mem_of_getElem? ht)
       have hx1:wr.cell? ⟨g2,j,none⟩=some (.int .i64 t):=by
        have h1:=HR.out.own;rw[HLS.out]at h1;rw[h1.cellAt j (by omega),List.getElem?_map,ht];rfl
       have hM:=(H.out).later HR.out.bel;have hh:=hM.head.cell 1 (.slice (some ⟨gt,0,none⟩) M.tris.length ct) rfl;obtain⟨e0,e1,e2,e3,e4,e5,e6,e7,e8⟩:=hM.tris t htl.1;have nb:=HS.out.nb t htl;have htl1:=htl.1;rw[HTL.out]at hh htl1;generalize hTu:tat M.tris t=X at *;have HTu:=Hd hTu;have j0:(0:Int)≤(j:Int):=by omega
       have j1:(j:Int)<(N:Int):=by omega
       have t00:(0:Int)≤(t:Int):=by omega
       have t01:(t:Int)<(T:Int):=by omega
       have HTT:=Hd ht;have HTl:=Hd htl;have HNB:=Hd nb;clear ht htl nb hM hTu
       go_upto_region 28 with(fail)
       have hS2:=HR.out.later (bel_alloc (bel_refl wr) (.cells #[.int .i64 X.v0,.int .i64 X.v1,.int .i64 X.v2,.int .i64 X.n0,.int .i64 X.n1,.int .i64 X.n2,.bool X.f0,.bool X.f1,.bool X.f2] 43));have hB2:=(Blk.new wr 43 #[.int .i64 X.v0,.int .i64 X.v1,.int .i64 X.v2,.int .i64 X.n0,.int .i64 X.n1,.int .i64 X.n2,.bool X.f0,.bool X.f1,.bool X.f2]);have hne2:wr.heap.size≠c:=fun e=>by have:=HR.out.cV.lt;omega
       generalize (wr.alloc (.cells #[.int .i64 X.v0,.int .i64 X.v1,.int .i64 X.v2,.int .i64 X.n0,.int .i64 X.n1,.int .i64 X.n2,.bool X.f0,.bool X.f1,.bool X.f2] 43))=W2 at *;generalize wr.heap.size=tb at *;obtain⟨x3,x4,x5⟩:W2.cell? ⟨tb,3,none⟩=some (.int .i64 X.n0)∧W2.cell? ⟨tb,4,none⟩=some (.int .i64 X.n1)∧W2.cell? ⟨tb,5,none⟩=some (.int .i64 X.n2):=⟨hB2.cell 3 _ rfl,hB2.cell 4 _ rfl,hB2.cell 5 _ rfl⟩;have HS2:=Hd hS2;have HB2:=Hd hB2;clear hS2 hB2 hx1 hh e0 e1 e2 e3 e4 e5 e6 e7 e8
       go_wp2_with fail
       go_loopw [16,130] (fun le a wq=>∃(i:Nat) (r':Rims),a=.int .i64 i∧le=.int .i64 r'.least∧i≤3∧Hid (rimTri M p ds t X i r=r')∧Hid (RimS w wq p c m m2 (.slice (some ⟨g2,0,none⟩) N cp') ds r')∧Hid (Blk wq tb 43 #[.int .i64 X.v0,.int .i64 X.v1,.int .i64 X.v2,.int .i64 X.n0,.int .i64 X.n1,.int .i64 X.n2,.bool X.f0,.bool X.f1,.bool X.f2])) (fun _ a _=>3-(intOf a).toNat)
       case atStart=>exact⟨0,r,rfl,rfl,by omega,Hd rfl,HS2,HB2⟩
       case round=>as_aux_lemma=>
        obtain⟨i,r',rfl,rfl,hi,HRT,HRS,HBX⟩:=hrel;rcases(show i=0∨i=1∨i=2∨i=3 by omega)with rfl|rfl|rfl|rfl
        ·obtain⟨y,hy,hyl⟩:=HNB.out 0 (by omega)
         simp only[Tri.n]at hy;have ix:∀w,(Instr.index 40 (.agg #[.int .i64 X.n0,.int .i64 X.n1,.int .i64 X.n2]) (.int .i64 0)).run Tryz.prog w=.ok (.int .i64 (y:Int)) w:=fun _=>by rw[←hy];kernel_rfl
         obtain⟨l,hl,hu⟩:=HRS.out.inn;have hlk:=hl.look Tryz.underlying134 (Mp.int_ok Tryz.underlying3) (z:=false) (e:=4) (by rfl) (y:Int);rw[hu y]at hlk
         have hstep:rimTri M p ds t X 1 r=if y∈ds then r' else r'.with M p ⟨X.v1,X.v2,(y:Int),nidx (tat M.tris y) t,X.f0⟩:=by
          show rimOne M p ds t X (rimTri M p ds t X 0 r) 0=_
          rw[HRT.out];unfold rimOne sideOf;rw[show X.n 0=(y:Int)from hy];rfl
         have HST2:=Hd hstep;have HYL:=Hd hyl;obtain⟨qi,hqi⟩:∃q,decide (y∈ds)=q:=⟨_,rfl⟩;rw[hqi]at hlk;have HQI:=Hd hqi;clear hy hl hu hstep hqi;cases qi
         ·have hsd:=HST2.out
          rw[if_neg (of_decide_eq_false HQI.out)]at hsd;obtain⟨nx,hnx⟩:∃nx,nidx (tat M.tris y) t=nx:=⟨_,rfl⟩;rw[hnx]at hsd;have HSD:=Hd hsd;have HNX:=Hd hnx;clear hsd hnx;have c1:=HBX.out.cell 1 (.int .i64 X.v1) rfl;have c2':=HBX.out.cell 2 (.int .i64 X.v2) rfl;have c3:=HBX.out.cell 6 (.bool X.f0) rfl;have n1:=World.new_ne _ _ c1;have w0:IntKind.i64.wrap 0=0:=by decide
          have w1:IntKind.i64.wrap 1=1:=by decide
          have w2:IntKind.i64.wrap 2=2:=by decide
          have w3:IntKind.i64.wrap 3=3:=by decide
          have w4:IntKind.i64.wrap 4=4:=by decide
          go_upto_region 32 with(fail)
          go_region_held3 (fun w'=>w'.cell? ⟨tb,1,none⟩=some (.int .i64 X.v1)∧w'.cell? ⟨tb,2,none⟩=some (.int .i64 X.v2)∧w'.cell? ⟨tb,6,none⟩=some (.bool X.f0)) (go_keep) (fail)
          clear c1 c2' c3 n1 w0 w1 w2 w3 w4 hlk;have hB4:=(Blk.new wr 89 #[.int .i64 X.v1,.int .i64 X.v2,.int .i64 (y:Int),.int .i64 0,.bool X.f0]).drew;have hb4:=bel_drew (bel_alloc (bel_refl wr) (.cells #[.int .i64 X.v1,.int .i64 X.v2,.int .i64 (y:Int),.int .i64 0,.bool X.f0] 89));have hM4:=(H.out).later (bel_step HRS.out.bel hb4);have hh4:=hM4.head.cell 1 (.slice (some ⟨gt,0,none⟩) M.tris.length ct) rfl;have hnx4:=nidx_any hM4 HYL.out.1 t;rw[HNX.out]at hnx4;have hyl1:=HYL.out.1;rw[HTL.out]at hh4 hyl1;have y00:(0:Int)≤(y:Int):=by omega
          have y01:(y:Int)<(T:Int):=by omega
          obtain⟨z3,zf⟩:∃x,(wr.alloc (.cells #[.int .i64 X.v1,.int .i64 X.v2,.int .i64 (y:Int),.int .i64 0,.bool X.f0] 89)).drew.cell? ⟨wr.heap.size,3,none⟩=some x:=⟨_,hB4.cell 3 (.int .i64 0) rfl⟩;have zz:=hB4.frozen 3;have HNX4:=Hd hnx4;have HB4:=Hd hB4;have Hb4:=Hd hb4;clear hB4 hb4 hM4 hnx4;generalize (wr.alloc (.cells #[.int .i64 X.v1,.int .i64 X.v2,.int .i64 (y:Int),.int .i64 0,.bool X.f0] 89)).drew=W4 at *;obtain⟨sb,hsb⟩:∃sb,wr.heap.size=sb:=⟨_,rfl⟩;rw[hsb]at zf zz HB4 ⊢;have HSB:=Hd hsb;clear hsb
          go_upto_region 34 with(go_at_call 70;refine HNX4.out.mono ?_;rintro e w5 ⟨rfl,hw5⟩;obtain rfl:=hw5.symm)
          have hB5:=HB4.out.set 3 (.int .i64 nx);have hb5:=bel_set Hb4.out (Nat.le_of_eq HSB.out) 3 (.int .i64 nx);have hS5:=HRS.out.later hb5;have hT5:=HBX.out.later hb5;clear zf zz HNX4;generalize W4.setCell ⟨sb,3,none⟩ (.int .i64 nx)=W5 at *;have d0:=hB5.cell 0 (.int .i64 X.v1) rfl;have d1:=hB5.cell 1 (.int .i64 X.v2) rfl;have d2:=hB5.cell 2 (.int .i64 (y:Int)) rfl;have d3:=hB5.cell 3 (.int .i64 nx) rfl;have d4:=hB5.cell 4 (.bool X.f0) rfl;have HB5:=Hd hB5;have HS5:=Hd hS5;have HT5:=Hd hT5;clear hB5 hb5 hS5 hT5 HB4 Hb4
          go_upto_region 36 with(at_mapUpdate;refine wpList_map_put _ rfl _ _ _ 136 rfl Tryz.underlying136 (Mp.int_ok Tryz.underlying3) m2 rfl HS5.out.beg X.v1 ⟨X.v1,X.v2,(y:Int),nx,X.f0⟩ rfl rfl ?_;intro w6 hm6 hg6;have HS6:=Hd (HS5.out.side hm6 hg6 (min r'.least X.v1));have HT6:=Hd (show Blk w6 tb 43 _ from HS5.out.beg.set hg6 HT5.out);have hB6:=HS5.out.beg.set hg6 HB5.out;have d5:=Blk.cell hB6 0 (.int .i64 X.v1) rfl;have d6:=Blk.cell hB6 4 (.bool X.f0) rfl;clear hm6 hg6 hB6)
          have hM6:=(H.out).later HS6.out.bel;have hcf:=conflict_live M p HO.out HP.out HS.out HC.out b y HYL.out _ ⟨_,_,_,_,_,_,_,hM6⟩;obtain⟨p0,p1,_,_⟩:=HS6.out.pB.two;have k2:=HS6.out.cV.cell 2 (.bool r'.cut) rfl;have kf:=HS6.out.cV.frozen 2;obtain⟨qc,hqc⟩:∃q,conflict M (tat M.tris y) p=q:=⟨_,rfl⟩;rw[hqc]at hcf;obtain⟨qf,hqf⟩:∃q,X.f0=q:=⟨_,rfl⟩;rw[hqf]at d6;obtain⟨qk,hqk2⟩:∃q,r'.cut=q:=⟨_,rfl⟩;rw[hqk2]at k2
          have hfin:r'.with M p ⟨X.v1,X.v2,(y:Int),nx,X.f0⟩=⟨mput X.v1 ⟨X.v1,X.v2,(y:Int),nx,X.f0⟩ r'.begins,min r'.least X.v1,qk||(qf&&qc)⟩:=by
           unfold Rims.with
           simp only[Int.toNat_natCast];rw[hqc,hqf,hqk2]
          have HFIN:=Hd (HSD.out.trans hfin);have HCF:=Hd hcf;clear hM6 hcf hqc hqf hqk2 hfin;cases qk
          ·cases qf
           ·go_wp2
            go_roundw
            case rel=>exact⟨1,_,by go_num,rfl,by omega,HFIN,Hd (HS6.out.mark (min r'.least X.v1) false),Hd (HT6.out.other hne2 _ _)⟩
            case measure=>simp[intOf]
           ·go_wp2_with (go_at_call 15;refine HCF.out.mono ?_;rintro e w7 ⟨rfl,hb7⟩;have k3:=cell_later k2 hb7;have kf3:=(HS6.out.cV.later hb7).frozen 2;have HB7:=Hd hb7;clear hb7)
            go_roundw
            case rel=>exact⟨1,_,by go_num,rfl,by omega,HFIN,Hd ((HS6.out.later HB7.out).mark (min r'.least X.v1) _),Hd ((HT6.out.later HB7.out).other hne2 _ _)⟩
            case measure=>simp[intOf]
          ·go_wp2
           go_roundw
           case rel=>exact⟨1,_,by go_num,rfl,by omega,HFIN,Hd (HS6.out.mark (min r'.least X.v1) true),Hd (HT6.out.other hne2 _ _)⟩
           case measure=>simp[intOf]
         ·go_wp2
          go_roundw
          case rel=>exact⟨1,r',by go_num,rfl,by omega,Hd (HST2.out.trans (by rw[if_pos (of_decide_eq_true HQI.out)])),HRS,HBX⟩
          case measure=>simp[intOf]
        ·obtain⟨y,hy,hyl⟩:=HNB.out 1 (by omega)
         simp only[Tri.n]at hy;have ix:∀w,(Instr.index 40 (.agg #[.int .i64 X.n0,.int .i64 X.n1,.int .i64 X.n2]) (.int .i64 1)).run Tryz.prog w=.ok (.int .i64 (y:Int)) w:=fun _=>by rw[←hy];kernel_rfl
         obtain⟨l,hl,hu⟩:=HRS.out.inn;have hlk:=hl.look Tryz.underlying134 (Mp.int_ok Tryz.underlying3) (z:=false) (e:=4) (by rfl) (y:Int);rw[hu y]at hlk
         have hstep:rimTri M p ds t X 2 r=if y∈ds then r' else r'.with M p ⟨X.v2,X.v0,(y:Int),nidx (tat M.tris y) t,X.f1⟩:=by
          show rimOne M p ds t X (rimTri M p ds t X 1 r) 1=_
          rw[HRT.out];unfold rimOne sideOf;rw[show X.n 1=(y:Int)from hy];rfl
         have HST2:=Hd hstep;have HYL:=Hd hyl;obtain⟨qi,hqi⟩:∃q,decide (y∈ds)=q:=⟨_,rfl⟩;rw[hqi]at hlk;have HQI:=Hd hqi;clear hy hl hu hstep hqi;cases qi
         ·have hsd:=HST2.out
          rw[if_neg (of_decide_eq_false HQI.out)]at hsd;obtain⟨nx,hnx⟩:∃nx,nidx (tat M.tris y) t=nx:=⟨_,rfl⟩;rw[hnx]at hsd;have HSD:=Hd hsd;have HNX:=Hd hnx;clear hsd hnx;have c1:=HBX.out.cell 2 (.int .i64 X.v2) rfl;have c2':=HBX.out.cell 0 (.int .i64 X.v0) rfl;have c3:=HBX.out.cell 7 (.bool X.f1) rfl;have n1:=World.new_ne _ _ c1;have w0:IntKind.i64.wrap 0=0:=by decide
          have w1:IntKind.i64.wrap 1=1:=by decide
          have w2:IntKind.i64.wrap 2=2:=by decide
          have w3:IntKind.i64.wrap 3=3:=by decide
          have w4:IntKind.i64.wrap 4=4:=by decide
          go_upto_region 32 with(fail)
          go_region_held3 (fun w'=>w'.cell? ⟨tb,2,none⟩=some (.int .i64 X.v2)∧w'.cell? ⟨tb,0,none⟩=some (.int .i64 X.v0)∧w'.cell? ⟨tb,7,none⟩=some (.bool X.f1)) (go_keep) (fail)
          clear c1 c2' c3 n1 w0 w1 w2 w3 w4 hlk;have hB4:=(Blk.new wr 89 #[.int .i64 X.v2,.int .i64 X.v0,.int .i64 (y:Int),.int .i64 0,.bool X.f1]).drew;have hb4:=bel_drew (bel_alloc (bel_refl wr) (.cells #[.int .i64 X.v2,.int .i64 X.v0,.int .i64 (y:Int),.int .i64 0,.bool X.f1] 89));have hM4:=(H.out).later (bel_step HRS.out.bel hb4);have hh4:=hM4.head.cell 1 (.slice (some ⟨gt,0,none⟩) M.tris.length ct) rfl;have hnx4:=nidx_any hM4 HYL.out.1 t;rw[HNX.out]at hnx4;have hyl1:=HYL.out.1;rw[HTL.out]at hh4 hyl1;have y00:(0:Int)≤(y:Int):=by omega
          have y01:(y:Int)<(T:Int):=by omega
          obtain⟨z3,zf⟩:∃x,(wr.alloc (.cells #[.int .i64 X.v2,.int .i64 X.v0,.int .i64 (y:Int),.int .i64 0,.bool X.f1] 89)).drew.cell? ⟨wr.heap.size,3,none⟩=some x:=⟨_,hB4.cell 3 (.int .i64 0) rfl⟩;have zz:=hB4.frozen 3;have HNX4:=Hd hnx4;have HB4:=Hd hB4;have Hb4:=Hd hb4;clear hB4 hb4 hM4 hnx4;generalize (wr.alloc (.cells #[.int .i64 X.v2,.int .i64 X.v0,.int .i64 (y:Int),.int .i64 0,.bool X.f1] 89)).drew=W4 at *;obtain⟨sb,hsb⟩:∃sb,wr.heap.size=sb:=⟨_,rfl⟩;rw[hsb]at zf zz HB4 ⊢;have HSB:=Hd hsb;clear hsb
          go_upto_region 34 with(go_at_call 70;refine HNX4.out.mono ?_;rintro e w5 ⟨rfl,hw5⟩;obtain rfl:=hw5.symm)
          have hB5:=HB4.out.set 3 (.int .i64 nx);have hb5:=bel_set Hb4.out (Nat.le_of_eq HSB.out) 3 (.int .i64 nx);have hS5:=HRS.out.later hb5;have hT5:=HBX.out.later hb5;clear zf zz HNX4;generalize W4.setCell ⟨sb,3,none⟩ (.int .i64 nx)=W5 at *;have d0:=hB5.cell 0 (.int .i64 X.v2) rfl;have d1:=hB5.cell 1 (.int .i64 X.v0) rfl;have d2:=hB5.cell 2 (.int .i64 (y:Int)) rfl;have d3:=hB5.cell 3 (.int .i64 nx) rfl;have d4:=hB5.cell 4 (.bool X.f1) rfl;have HB5:=Hd hB5;have HS5:=Hd hS5;have HT5:=Hd hT5;clear hB5 hb5 hS5 hT5 HB4 Hb4
          go_upto_region 36 with(at_mapUpdate;refine wpList_map_put _ rfl _ _ _ 136 rfl Tryz.underlying136 (Mp.int_ok Tryz.underlying3) m2 rfl HS5.out.beg X.v2 ⟨X.v2,X.v0,(y:Int),nx,X.f1⟩ rfl rfl ?_;intro w6 hm6 hg6;have HS6:=Hd (HS5.out.side hm6 hg6 (min r'.least X.v2));have HT6:=Hd (show Blk w6 tb 43 _ from HS5.out.beg.set hg6 HT5.out);have hB6:=HS5.out.beg.set hg6 HB5.out;have d5:=Blk.cell hB6 0 (.int .i64 X.v2) rfl;have d6:=Blk.cell hB6 4 (.bool X.f1) rfl;clear hm6 hg6 hB6)
          have hM6:=(H.out).later HS6.out.bel;have hcf:=conflict_live M p HO.out HP.out HS.out HC.out b y HYL.out _ ⟨_,_,_,_,_,_,_,hM6⟩;obtain⟨p0,p1,_,_⟩:=HS6.out.pB.two;have k2:=HS6.out.cV.cell 2 (.bool r'.cut) rfl;have kf:=HS6.out.cV.frozen 2;obtain⟨qc,hqc⟩:∃q,conflict M (tat M.tris y) p=q:=⟨_,rfl⟩;rw[hqc]at hcf;obtain⟨qf,hqf⟩:∃q,X.f1=q:=⟨_,rfl⟩;rw[hqf]at d6;obtain⟨qk,hqk2⟩:∃q,r'.cut=q:=⟨_,rfl⟩;rw[hqk2]at k2
          have hfin:r'.with M p ⟨X.v2,X.v0,(y:Int),nx,X.f1⟩=⟨mput X.v2 ⟨X.v2,X.v0,(y:Int),nx,X.f1⟩ r'.begins,min r'.least X.v2,qk||(qf&&qc)⟩:=by
           unfold Rims.with
           simp only[Int.toNat_natCast];rw[hqc,hqf,hqk2]
          have HFIN:=Hd (HSD.out.trans hfin);have HCF:=Hd hcf;clear hM6 hcf hqc hqf hqk2 hfin;cases qk
          ·cases qf
           ·go_wp2
            go_roundw
            case rel=>exact⟨2,_,by go_num,rfl,by omega,HFIN,Hd (HS6.out.mark (min r'.least X.v2) false),Hd (HT6.out.other hne2 _ _)⟩
            case measure=>simp[intOf]
           ·go_wp2_with (go_at_call 15;refine HCF.out.mono ?_;rintro e w7 ⟨rfl,hb7⟩;have k3:=cell_later k2 hb7;have kf3:=(HS6.out.cV.later hb7).frozen 2;have HB7:=Hd hb7;clear hb7)
            go_roundw
            case rel=>exact⟨2,_,by go_num,rfl,by omega,HFIN,Hd ((HS6.out.later HB7.out).mark (min r'.least X.v2) _),Hd ((HT6.out.later HB7.out).other hne2 _ _)⟩
            case measure=>simp[intOf]
          ·go_wp2
           go_roundw
           case rel=>exact⟨2,_,by go_num,rfl,by omega,HFIN,Hd (HS6.out.mark (min r'.least X.v2) true),Hd (HT6.out.other hne2 _ _)⟩
           case measure=>simp[intOf]
         ·go_wp2
          go_roundw
          case rel=>exact⟨2,r',by go_num,rfl,by omega,Hd (HST2.out.trans (by rw[if_pos (of_decide_eq_true HQI.out)])),HRS,HBX⟩
          case measure=>simp[intOf]
        ·obtain⟨y,hy,hyl⟩:=HNB.out 2 (by omega)
         simp only[Tri.n]at hy;have ix:∀w,(Instr.index 40 (.agg #[.int .i64 X.n0,.int .i64 X.n1,.int .i64 X.n2]) (.int .i64 2)).run Tryz.prog w=.ok (.int .i64 (y:Int)) w:=fun _=>by rw[←hy];kernel_rfl
         obtain⟨l,hl,hu⟩:=HRS.out.inn;have hlk:=hl.look Tryz.underlying134 (Mp.int_ok Tryz.underlying3) (z:=false) (e:=4) (by rfl) (y:Int);rw[hu y]at hlk
         have hstep:rimTri M p ds t X 3 r=if y∈ds then r' else r'.with M p ⟨X.v0,X.v1,(y:Int),nidx (tat M.tris y) t,X.f2⟩:=by
          show rimOne M p ds t X (rimTri M p ds t X 2 r) 2=_
          rw[HRT.out];unfold rimOne sideOf;rw[show X.n 2=(y:Int)from hy];rfl
         have HST2:=Hd hstep;have HYL:=Hd hyl;obtain⟨qi,hqi⟩:∃q,decide (y∈ds)=q:=⟨_,rfl⟩;rw[hqi]at hlk;have HQI:=Hd hqi;clear hy hl hu hstep hqi;cases qi
         ·have hsd:=HST2.out
          rw[if_neg (of_decide_eq_false HQI.out)]at hsd;obtain⟨nx,hnx⟩:∃nx,nidx (tat M.tris y) t=nx:=⟨_,rfl⟩;rw[hnx]at hsd;have HSD:=Hd hsd;have HNX:=Hd hnx;clear hsd hnx;have c1:=HBX.out.cell 0 (.int .i64 X.v0) rfl;have c2':=HBX.out.cell 1 (.int .i64 X.v1) rfl;have c3:=HBX.out.cell 8 (.bool X.f2) rfl;have n1:=World.new_ne _ _ c1;have w0:IntKind.i64.wrap 0=0:=by decide
          have w1:IntKind.i64.wrap 1=1:=by decide
          have w2:IntKind.i64.wrap 2=2:=by decide
          have w3:IntKind.i64.wrap 3=3:=by decide
          have w4:IntKind.i64.wrap 4=4:=by decide
          go_upto_region 32 with(fail)
          go_region_held3 (fun w'=>w'.cell? ⟨tb,0,none⟩=some (.int .i64 X.v0)∧w'.cell? ⟨tb,1,none⟩=some (.int .i64 X.v1)∧w'.cell? ⟨tb,8,none⟩=some (.bool X.f2)) (go_keep) (fail)
          clear c1 c2' c3 n1 w0 w1 w2 w3 w4 hlk;have hB4:=(Blk.new wr 89 #[.int .i64 X.v0,.int .i64 X.v1,.int .i64 (y:Int),.int .i64 0,.bool X.f2]).drew;have hb4:=bel_drew (bel_alloc (bel_refl wr) (.cells #[.int .i64 X.v0,.int .i64 X.v1,.int .i64 (y:Int),.int .i64 0,.bool X.f2] 89));have hM4:=(H.out).later (bel_step HRS.out.bel hb4);have hh4:=hM4.head.cell 1 (.slice (some ⟨gt,0,none⟩) M.tris.length ct) rfl;have hnx4:=nidx_any hM4 HYL.out.1 t;rw[HNX.out]at hnx4;have hyl1:=HYL.out.1;rw[HTL.out]at hh4 hyl1;have y00:(0:Int)≤(y:Int):=by omega
          have y01:(y:Int)<(T:Int):=by omega
          obtain⟨z3,zf⟩:∃x,(wr.alloc (.cells #[.int .i64 X.v0,.int .i64 X.v1,.int .i64 (y:Int),.int .i64 0,.bool X.f2] 89)).drew.cell? ⟨wr.heap.size,3,none⟩=some x:=⟨_,hB4.cell 3 (.int .i64 0) rfl⟩;have zz:=hB4.frozen 3;have HNX4:=Hd hnx4;have HB4:=Hd hB4;have Hb4:=Hd hb4;clear hB4 hb4 hM4 hnx4;generalize (wr.alloc (.cells #[.int .i64 X.v0,.int .i64 X.v1,.int .i64 (y:Int),.int .i64 0,.bool X.f2] 89)).drew=W4 at *;obtain⟨sb,hsb⟩:∃sb,wr.heap.size=sb:=⟨_,rfl⟩;rw[hsb]at zf zz HB4 ⊢;have HSB:=Hd hsb;clear hsb
          go_upto_region 34 with(go_at_call 70;refine HNX4.out.mono ?_;rintro e w5 ⟨rfl,hw5⟩;obtain rfl:=hw5.symm)
          have hB5:=HB4.out.set 3 (.int .i64 nx);have hb5:=bel_set Hb4.out (Nat.le_of_eq HSB.out) 3 (.int .i64 nx);have hS5:=HRS.out.later hb5;have hT5:=HBX.out.later hb5;clear zf zz HNX4;generalize W4.setCell ⟨sb,3,none⟩ (.int .i64 nx)=W5 at *;have d0:=hB5.cell 0 (.int .i64 X.v0) rfl;have d1:=hB5.cell 1 (.int .i64 X.v1) rfl;have d2:=hB5.cell 2 (.int .i64 (y:Int)) rfl;have d3:=hB5.cell 3 (.int .i64 nx) rfl;have d4:=hB5.cell 4 (.bool X.f2) rfl;have HB5:=Hd hB5;have HS5:=Hd hS5;have HT5:=Hd hT5;clear hB5 hb5 hS5 hT5 HB4 Hb4
          go_upto_region 36 with(at_mapUpdate;refine wpList_map_put _ rfl _ _ _ 136 rfl Tryz.underlying136 (Mp.int_ok Tryz.underlying3) m2 rfl HS5.out.beg X.v0 ⟨X.v0,X.v1,(y:Int),nx,X.f2⟩ rfl rfl ?_;intro w6 hm6 hg6;have HS6:=Hd (HS5.out.side hm6 hg6 (min r'.least X.v0));have HT6:=Hd (show Blk w6 tb 43 _ from HS5.out.beg.set hg6 HT5.out);have hB6:=HS5.out.beg.set hg6 HB5.out;have d5:=Blk.cell hB6 0 (.int .i64 X.v0) rfl;have d6:=Blk.cell hB6 4 (.bool X.f2) rfl;clear hm6 hg6 hB6)
          have hM6:=(H.out).later HS6.out.bel;have hcf:=conflict_live M p HO.out HP.out HS.out HC.out b y HYL.out _ ⟨_,_,_,_,_,_,_,hM6⟩;obtain⟨p0,p1,_,_⟩:=HS6.out.pB.two;have k2:=HS6.out.cV.cell 2 (.bool r'.cut) rfl;have kf:=HS6.out.cV.frozen 2;obtain⟨qc,hqc⟩:∃q,conflict M (tat M.tris y) p=q:=⟨_,rfl⟩;rw[hqc]at hcf;obtain⟨qf,hqf⟩:∃q,X.f2=q:=⟨_,rfl⟩;rw[hqf]at d6;obtain⟨qk,hqk2⟩:∃q,r'.cut=q:=⟨_,rfl⟩;rw[hqk2]at k2
          have hfin:r'.with M p ⟨X.v0,X.v1,(y:Int),nx,X.f2⟩=⟨mput X.v0 ⟨X.v0,X.v1,(y:Int),nx,X.f2⟩ r'.begins,min r'.least X.v0,qk||(qf&&qc)⟩:=by
           unfold Rims.with
           simp only[Int.toNat_natCast];rw[hqc,hqf,hqk2]
          have HFIN:=Hd (HSD.out.trans hfin);have HCF:=Hd hcf;clear hM6 hcf hqc hqf hqk2 hfin;cases qk
          ·cases qf
           ·go_wp2
            go_roundw
            case rel=>exact⟨3,_,by go_num,rfl,by omega,HFIN,Hd (HS6.out.mark (min r'.least X.v0) false),Hd (HT6.out.other hne2 _ _)⟩
            case measure=>simp[intOf]
           ·go_wp2_with (go_at_call 15;refine HCF.out.mono ?_;rintro e w7 ⟨rfl,hb7⟩;have k3:=cell_later k2 hb7;have kf3:=(HS6.out.cV.later hb7).frozen 2;have HB7:=Hd hb7;clear hb7)
            go_roundw
            case rel=>exact⟨3,_,by go_num,rfl,by omega,HFIN,Hd ((HS6.out.later HB7.out).mark (min r'.least X.v0) _),Hd ((HT6.out.later HB7.out).other hne2 _ _)⟩
            case measure=>simp[intOf]
          ·go_wp2
           go_roundw
           case rel=>exact⟨3,_,by go_num,rfl,by omega,HFIN,Hd (HS6.out.mark (min r'.least X.v0) true),Hd (HT6.out.other hne2 _ _)⟩
           case measure=>simp[intOf]
         ·go_wp2
          go_roundw
          case rel=>exact⟨3,r',by go_num,rfl,by omega,Hd (HST2.out.trans (by rw[if_pos (of_decide_eq_true HQI.out)])),HRS,HBX⟩
          case measure=>simp[intOf]
        ·have hra:rimAll M p ds r' (ds.drop (j+1))=digRims M p ds:=by
          have h1:=HRA.out;rw[List.drop_eq_getElem_cons (by have:=HLS.out;omega)]at h1
          have h2:ds[j]'(by have:=HLS.out;omega)=t:=by
           have:=HTT.out;rw[List.getElem?_eq_getElem (by have:=HLS.out;omega)]at this;exact Option.some.inj this
          rw[h2]at h1;unfold rimAll at h1;rw[HTu.out,HRT.out]at h1;exact h1
         have HRA2:=Hd hra;clear hra;go_wp2;go_roundw
         case rel=>exact⟨j+1,r',by go_num,rfl,by omega,HRA2,HRS⟩
         case measure=>simp[intOf];omega
      ·obtain rfl:j=N:=by omega
       have hr:r=digRims M p ds:=by
        have h1:=HRA.out;rw[List.drop_eq_nil_of_le (by rw[HLS.out];exact Nat.le_refl _)]at h1;exact h1
       have HRD:=Hd hr;clear hr;have hL:LastS w wr c m2 (.slice (some ⟨g2,0,none⟩) j cp') ds (.slice none 0 0) [] r:=⟨HR.out.rB,HR.out.cV,HR.out.own,⟨rfl,.inl ⟨rfl,rfl⟩⟩,HR.out.beg,HR.out.bel,HR.out.cB⟩;obtain⟨L,hLL⟩:∃L,r.begins.length=L:=⟨_,rfl⟩
       have hL9:L≤3000000000:=by
        have h1:=all_len M p ds ds ⟨[],M.pts.length,false⟩;have h2:L=(digRims M p ds).begins.length:=by rw[←hLL,HRD.out]
        have h3:(digRims M p ds).begins.length≤3*ds.length:=by unfold digRims;simpa using h1
        have:=HLS.out;omega
       obtain⟨RR,hRR⟩:∃RR,rimGo r.begins L r.least=RR:=⟨_,rfl⟩;have HLL:=Hd hLL;have HRR2:=Hd hRR;have HL0:=Hd hL;have hz113:∀W,(zeroValue 89).run Tryz.prog W=.ok (sv Side.zero) W:=fun _=>by rfl
       have HZ:=Hd hz113;clear hL hLL hRR HR hz113;go_wp2
       go_loopw [23] (fun a wq=>∃(x:Int) (rim:List Side) (vr:Value),a=.int .i64 x∧rim.length≤L∧Hid (rim++rimGo r.begins (L-rim.length) x=RR)∧Hid (LastS w wq c m2 (.slice (some ⟨g2,0,none⟩) j cp') ds vr rim r)) (fun _ wq=>L-sliceLen (wq.cell? ⟨c,1,none⟩))
       case atStart=>exact⟨_,[],_,rfl,Nat.zero_le _,HRR2,HL0⟩
       case round=>as_aux_lemma=>
        obtain⟨x,rim,vr,rfl,hrl,HRG,HLa⟩:=hrel;obtain⟨A3,c3,hA3⟩:=own_slice HLa.out.rim;subst hA3;have k1:=HLa.out.cV.cell 1 (.slice A3 rim.length c3) rfl;have hln:=HLa.out.beg.len (t:=136) Tryz.underlying136 3;rw[HLL.out]at hln;by_cases hlt2:rim.length<L
        ·obtain⟨s,hs⟩:∃s,mget Side.zero x r.begins=s:=⟨_,rfl⟩
         have hlk:=HLa.out.beg.look Tryz.underlying136 (Mp.int_ok Tryz.underlying3) (HZ.out _) x;rw[hs]at hlk;have HSS2:=Hd hs;have hl2:(rim.length:Int)<(L:Int):=by omega
         obtain⟨i0,hi',hz0,hz1,hz2⟩:=info_parts Tryz.info113';clear hs
         go_upto_region 41 with(at_builtin;refine wpList_append_own_at _ rfl _ _ 83 rfl w.heap.size 89 i0 (.agg #[.int .i64 0,.int .i64 0,.int .i64 0,.int .i64 0,.bool false]) 5 40 Tryz.underlying83 hi' hz0 hz1 hz2 rfl (by decide) (.slice A3 rim.length c3) rim.length (rim.flatMap Side.cs) rfl (HLa.out.rim.alloc _) ⟨wr.heap.size,0,none⟩ 1 1 s.cs rfl rfl (World.news_of_block (cs:=#[.int .i64 s.a,.int .i64 s.b,.int .i64 s.out,.int .i64 s.i,.bool s.fault]) (heap_alloc_new _ _)) (by simp[Value.oneCell']) (by show rim.length+1≤_;unfold maxLen;omega) (by show(rim.length+1)*40≤_;omega) (by have:=HLa.out.bel.size;simp;omega) ?_;intro v3 w3 hown3 hgrow _ hat3;obtain⟨g3,cp3,rfl⟩:=own_shape' hown3;have HG3:=Hd (HLa.out.grow hown3 hgrow);have hc4:=HG3.out.2.1;have hc5:=HG3.out.2.2;clear hown3 hgrow hat3)
         have hgo:(rim++[s])++rimGo r.begins (L-(rim++[s]).length) s.b=RR:=by
          have h1:=HRG.out;rw[show L-rim.length=(L-(rim++[s]).length)+1 by simp;omega]at h1;unfold rimGo at h1;rw[HSS2.out]at h1
          simpa using h1
         have HGO3:=Hd hgo;have hlk2:=HG3.out.1.beg.look Tryz.underlying136 (Mp.int_ok Tryz.underlying3) (HZ.out _) x;rw[HSS2.out]at hlk2;have hcell:=HG3.out.1.cV.cell 1 (.slice (some ⟨g3,0,none⟩) (rim.length+1) cp3) rfl;have HG4:=Hd HG3.out.1;have fx:∀w,(Instr.field 89 (.agg #[.int .i64 s.a,.int .i64 s.b,.int .i64 s.out,.int .i64 s.i,.bool s.fault]) 1).run Tryz.prog w=.ok (.int .i64 s.b) w:=fun _=>by kernel_rfl
         clear hgo hc4 hc5 HG3 hlk;generalize w3.setCell ⟨c,1,none⟩ (.slice (some ⟨g3,0,none⟩) (rim.length+1) cp3)=W8 at *;go_wp2;go_roundw
         case rel=>exact⟨s.b,rim++[s],_,rfl,by simp;omega,HGO3,HG4⟩
         case measure=>
          show L-sliceLen (W8.cell? _)<L-sliceLen (wr.cell? _)
          rw[hcell,k1];show L-(rim.length+1)<L-rim.length
          omega
        ·obtain rfl:rim.length=L:=by omega
         have hrim:rim=RR:=by
          have h1:=HRG.out;rw[Nat.sub_self]at h1
          simpa [rimGo] using h1
         have hDD:D=⟨ds,rim,r.cut⟩:=by
          rw[HDIG.out,←HRD.out,hrim,←HRR2.out,HLL.out]
         have HD2:=Hd hDD;have k0:=HLa.out.cV.cell 0 (.slice (some ⟨g2,0,none⟩) j cp') rfl;have k2:=HLa.out.cV.cell 2 (.bool r.cut) rfl;obtain⟨q0,q1,q2,q3,q4,q5⟩:=HLa.out.rB.three;obtain⟨s0,s1,s2⟩:=HLa.out.rB.three_set (u:=.slice (some ⟨g2,0,none⟩) j cp') (v:=.slice A3 rim.length c3) (s:=.bool r.cut);have hR3:=((HLa.out.rB.set 0 (.slice (some ⟨g2,0,none⟩) j cp')).set 1 (.slice A3 rim.length c3)).set 2 (.bool r.cut);have z0:=hR3.cell 0 (.slice (some ⟨g2,0,none⟩) j cp') rfl;have z1:=hR3.cell 1 (.slice A3 rim.length c3) rfl;have z2:=hR3.cell 2 (.bool r.cut) rfl;have HR3:=Hd hR3;clear hrim hDD hR3;go_wp2;refine bodyPost_ret (v:=.agg #[.slice (some ⟨g2,0,none⟩) j cp',.slice A3 rim.length c3,.bool r.cut]) (by simp[results,Tryz.results37,go_sem,z0,z1,z2]) rfl ⟨_,_,by rw[HD2.out],?_,?_,?_⟩
         ·rw[HD2.out]
          have:=(HLa.out.out (.slice (some ⟨g2,0,none⟩) j cp') (.slice A3 rim.length c3) (.bool r.cut)).1;rw[HLS.out]at this;show World.ownsRow _ _ _ _ _ ds.length _
          rw[HLS.out];exact this
         ·rw[HD2.out]
          exact(HLa.out.out _ _ _).2.1
         ·exact(HLa.out.out _ _ _).2.2
end Dg
end Go.Proofs.YtdihefgleefhmaaGreat
