import Derived.Test.YtdihefgleefhmaaGreatFl
import Derived.Maps.AppendAt
import Derived.Deep.RegionHeld3
import Derived.Deep.DrawnRows
namespace Go.Proofs.YtdihefgleefhmaaGreat
open Go.RowKit
def Tri.setN(t:Tri)(i:Nat)(x:Int):Tri:=match i with
 | 0=>{t with n0:=x }
 | 1=>{t with n1:=x }
 | _=>{t with n2:=x }
def Tri.setF(t:Tri)(i:Nat)(x:Bool):Tri:=match i with
 | 0=>{t with f0:=x }
 | 1=>{t with f1:=x }
 | _=>{t with f2:=x }
theorem setN_cs(t:Tri)(i:Nat)(hi:i<3)(x:Int):(t.setN i x).cs=t.cs.set (3+i) (.int .i64 x):=by
 match i,hi with
 | 0,_=>rfl
 | 1,_=>rfl
 | 2,_=>rfl
theorem setF_cs(t:Tri)(i:Nat)(hi:i<3)(x:Bool):(t.setF i x).cs=t.cs.set (6+i) (.bool x):=by
 match i,hi with
 | 0,_=>rfl
 | 1,_=>rfl
 | 2,_=>rfl
def Mesh.setTri(M:Mesh)(t:Nat)(x:Tri):Mesh:={M with tris:=M.tris.set t x }
section
variable {B:Nat} {W:World}
theorem own_block{e s n:Nat}{v:Value}{xs:List Value}(h:W.ownsRow B e s v n xs){g:Nat}(hg:v.ownBlock=some g):∃cur,W.heap[g]? =some (.cells cur e (0,0)):=by
 obtain⟨_,⟨rfl,_⟩|⟨g',c,cur,rfl,_,hh,_⟩⟩:=h
 ·simp[Value.ownBlock]at hg
 ·simp only[Value.ownBlock,Option.some.injEq]at hg
  subst hg;exact⟨cur,hh⟩
theorem own_ne{e s n e' s' n':Nat}{v v':Value}{xs xs':List Value}(h:W.ownsRow B e s v n xs)(h':W.ownsRow B e' s' v' n' xs')(he:e≠e'){g:Nat}(hg:v'.ownBlock=some g):v.ownBlock≠some g:=by
 intro hv;obtain⟨c1,k1⟩:=own_block h hv;obtain⟨c2,k2⟩:=own_block h' hg;rw[k1]at k2;simp only[Option.some.injEq,Obj.cells.injEq]at k2;exact he k2.2.1
theorem blk_ne{b t:Nat}{cs:Array Value}{e s n:Nat}{v:Value}{xs:List Value}(h:Blk W b t cs)(h':W.ownsRow B e s v n xs)(he:t≠e){g:Nat}(hg:v.ownBlock=some g):b≠g:=by
 intro hv;subst hv;obtain⟨c2,k2⟩:=own_block h' hg;unfold Blk at h;rw[h]at k2;simp only[Option.some.injEq,Obj.cells.injEq]at k2;exact he k2.2.1
variable {b:Nat} {M:Mesh} {pV fV aV:Value} {gt ct:Nat}
theorem MAt.stored(h:MAt B W b M pV (.slice (some ⟨gt,0,none⟩) M.tris.length ct) fV aV)(t j:Nat)(ht:t<M.tris.length)(hj:j<9)(x:Tri)(u:Value)(hx:x.cs=(tat M.tris t).cs.set j u) :
  MAt B (W.setCell ⟨gt,t*9+j,none⟩ u) b (M.setTri t x) pV (.slice (some ⟨gt,0,none⟩) M.tris.length ct) fV aV:=by
 obtain⟨hs,hg⟩:=h.tris.stored (t*9+j) u;have hfl:=flat_set Tri.cs 9 (fun _=>rfl) x u M.tris t j hj (fun a ha=>by rw[tat_get ht]at ha;cases ha;exact hx);refine⟨h.head.other (blk_ne h.head h.tris (by decide) rfl) _ _,h.le,ownsRow_setCell_other (a:=⟨gt,t*9+j,none⟩) h.pts (own_ne h.pts h.tris (by decide) rfl) u,?_,ownsRow_setCell_other (a:=⟨gt,t*9+j,none⟩) h.free (own_ne h.free h.tris (by decide) rfl) u,ownsRow_setCell_other (a:=⟨gt,t*9+j,none⟩) h.at_ (own_ne h.at_ h.tris (by decide) rfl) u,h.apart⟩;show World.ownsRow _ _ _ _ _ (M.tris.set t x).length ((M.tris.set t x).flatMap Tri.cs)
 rw[List.length_set,←hfl];exact hs
end
theorem tat_set_same(l:List Tri)(t:Nat)(x:Tri)(ht:t<l.length):tat (l.set t x) t=x:=by unfold tat;simp[List.getD_eq_getElem?_getD,ht]
theorem tat_set_other(l:List Tri)(t u:Nat)(x:Tri)(h:t≠u):tat (l.set t x) u=tat l u:=by unfold tat;simp[List.getD_eq_getElem?_getD,List.getElem?_set_ne h]
end Go.Proofs.YtdihefgleefhmaaGreat
namespace Go.Proofs.YtdihefgleefhmaaGreat
open Go.RowKit
attribute [local go_sem ↓] Go.wp_at_zero Go.wp_at_succ
def Mesh.link(M:Mesh)(t i u j:Nat)(f:Bool):Mesh:=
 let A:=M.setTri t ((tat M.tris t).setN i u)
 let B:=A.setTri u ((tat A.tris u).setN j t)
 let C:=B.setTri t ((tat B.tris t).setF i f)
 C.setTri u ((tat C.tris u).setF j f)
theorem MAt.drew{B:Nat}{W:World}{b:Nat}{M:Mesh}{pV tV fV aV:Value}(h:MAt B W b M pV tV fV aV):MAt B W.drew b M pV tV fV aV:=h.later (bel_drew (bel_refl W))
def Far(F:Nat→Prop)(b:Nat)(pV tV fV aV:Value):Prop:=¬F b∧∀g,(pV.ownBlock=some g∨tV.ownBlock=some g∨fV.ownBlock=some g∨aV.ownBlock=some g)→¬F g
def MeshF(F:Nat→Prop)(B:Nat)(W:World)(b:Nat)(M:Mesh):Prop:=∃pV tV fV aV,MAt B W b M pV tV fV aV∧Far F b pV tV fV aV
def Same(F:Nat→Prop)(W W':World):Prop:=∀k,F k→W'.heap[k]? =W.heap[k]?
theorem Same.refl(F:Nat→Prop)(W:World):Same F W W:=fun _ _=>rfl
theorem Same.trans{F:Nat→Prop}{W W' W'':World}(h:Same F W W')(k:Same F W' W''):Same F W W'':=fun n hn=>(k n hn).trans (h n hn)
theorem Same.set{F:Nat→Prop}{W W':World}(h:Same F W W'){c:Nat}(hc:¬F c)(i:Nat)(v:Value):Same F W (W'.setCell ⟨c,i,none⟩ v):=fun n hn=>
 (heap_setCell_other W' ⟨c,i,none⟩ n v (fun e=>hc ((show n=c from e)▸hn))).trans (h n hn)
theorem Same.drew{F:Nat→Prop}{W W':World}(h:Same F W W'):Same F W W'.drew:=h
theorem Same.alloc{F:Nat→Prop}{W W':World}(h:Same F W W')(hF:∀k,F k→k<W'.heap.size)(o:Obj):Same F W (W'.alloc o):=fun n hn=>(Below.heap_alloc _ _ _ (hF n hn)).trans (h n hn)
theorem Same.grown{F:Nat→Prop}{W W' W'':World}(h:Same F W W')(hF:∀k,F k→k<W'.heap.size){row:Option Nat}(hg:W'.grownBy W'' row)(hr:∀g,row=some g→¬F g):Same F W W'':=fun n hn=>
 (hg.block n (hF n hn) (fun e=>hr n e.symm hn)).trans (h n hn)
theorem Same.below{F:Nat→Prop}{W W':World}(hF:∀k,F k→k<W.heap.size)(h:Below W.heap.size W W'):Same F W W':=fun n hn=>h.block n (hF n hn)
theorem MeshF.at_{F:Nat→Prop}{B:Nat}{W:World}{b:Nat}{M:Mesh}(h:MeshF F B W b M):MeshAt B W b M:=by
 obtain⟨pV,tV,fV,aV,h,_⟩:=h;exact⟨pV,tV,fV,aV,h⟩
theorem MeshF.later{F:Nat→Prop}{B:Nat}{W W':World}{b:Nat}{M:Mesh}(h:MeshF F B W b M)(hb:Below W.heap.size W W'):MeshF F B W' b M:=by
 obtain⟨pV,tV,fV,aV,h,hf⟩:=h;exact⟨pV,tV,fV,aV,h.later hb,hf⟩
theorem MeshF.wider{F:Nat→Prop}{B:Nat}{W:World}{b:Nat}{M:Mesh}(h:MeshF F B W b M)(G:Nat→Prop)(hG:∀k,G k→F k∨W.heap.size≤k):MeshF G B W b M:=by
 obtain⟨pV,tV,fV,aV,h,hf⟩:=h;refine⟨pV,tV,fV,aV,h,fun hg=>?_,fun g hg hgg=>?_⟩
 ·rcases hG _ hg with h1|h1
  ·exact hf.1 h1
  ·have:=h.head.lt;omega
 ·rcases hG _ hgg with h1|h1
  ·exact hf.2 g hg h1
  ·rcases hg with hg|hg|hg|hg
   ·have:=(h.pts.lt g hg).2;omega
   ·have:=(h.tris.lt g hg).2;omega
   ·have:=(h.free.lt g hg).2;omega
   ·have:=(h.at_.lt g hg).2;omega
namespace Lk
theorem cells{B:Nat}{W:World}{b:Nat}{M:Mesh}{pV fV aV:Value}{gt ct:Nat}(h:MAt B W b M pV (.slice (some ⟨gt,0,none⟩) M.tris.length ct) fV aV)(t j:Nat)(ht:t<M.tris.length)(hj:j<9):∃v,W.cell? ⟨gt,t*9+j,none⟩=some v:=by
 have k:=(h.tris.cellAt (t*9+j) (by omega)).trans (flat_get Tri.cs 9 (fun _=>rfl) M.tris t j hj);rw[tat_get ht]at k;have:j<(tat M.tris t).cs.length:=hj;exact⟨(tat M.tris t).cs[j],k.trans (List.getElem?_eq_getElem this)⟩
theorem keepH{b gt:Nat}(hb:b≠gt):∀(W:World) (k:Nat) (x:Value),(W.setCell ⟨gt,k,none⟩ x).cell? ⟨b,1,none⟩=W.cell? ⟨b,1,none⟩:=
 fun W k x=>World.cell?_of_block (heap_setCell_other W ⟨gt,k,none⟩ b x hb)
theorem stored'{B:Nat}{W:World}{b:Nat}{M:Mesh}{pV fV aV:Value}{gt ct n:Nat}(h:MAt B W b M pV (.slice (some ⟨gt,0,none⟩) n ct) fV aV)(hn:M.tris.length=n)(t j:Nat)(ht:t<n)(hj:j<9)(x:Tri)(u:Value)(hx:x.cs=(tat M.tris t).cs.set j u) :
  MAt B (W.setCell ⟨gt,t*9+j,none⟩ u) b (M.setTri t x) pV (.slice (some ⟨gt,0,none⟩) n ct) fV aV:=by
 subst hn;exact h.stored t j ht hj x u hx
theorem len_set(M:Mesh)(t:Nat)(x:Tri):(M.setTri t x).tris.length=M.tris.length:=List.length_set
set_option maxHeartbeats 1000000 in
theorem link_any(F:Nat→Prop)(B b t i u j:Nat)(f:Bool)(M:Mesh)(w:World)(h:MeshF F B w b M)(ht:t<M.tris.length)(hu:u<M.tris.length)(hi:i<3)(hj:j<3)(hn:M.tris.length≤1000000000) :
  Calls Tryz.prog 40 #[.pointer (some ⟨b,0,none⟩),.int .i64 t,.int .i64 i,.int .i64 u,.int .i64 j,.bool f] w fun e w'=>e=.returned (.tuple #[])∧MeshF F B w' b (M.link t i u j f)∧Below B w w'∧Same F w w':=by
 obtain⟨pV,tV,fV,aV,h,hF⟩:=h;obtain⟨gt,ct,rfl,hB⟩:=own_shape h.tris (by omega);have hb:=blk_ne h.head h.tris (by decide) rfl;have hk:=keepH hb;have hh:=h.head.cell 1 _ rfl;have hf:∀k,w.frozen? ⟨gt,k,none⟩=false:=fun k=>h.tris.frozenAt k
 obtain⟨x,hx⟩:=cells h t (3+i) ht (by omega);obtain⟨y,hy⟩:=cells h u (3+j) hu (by omega);rw[←Nat.add_assoc]at hx hy;have i0:(0:Int)≤(i:Int):=by omega
 have i1:(i:Int)<3:=by omega
 have j0:(0:Int)≤(j:Int):=by omega
 have j1:(j:Int)<3:=by omega
 obtain⟨y1,hy1⟩:=cell?_setCell_some (w:=w) (p:=⟨gt,t*9+3+i,none⟩) (x:=.int .i64 u) (q:=⟨gt,u*9+3+j,none⟩) (v:=y) hy;have H:=Hd h;have nf:¬F gt:=hF.2 gt (.inr (.inl rfl));have HF:=Hd hF;have NF:=Hd nf;clear h hb hF nf;obtain⟨n,hnn⟩:∃n,M.tris.length=n:=⟨_,rfl⟩;have HN:=Hd hnn;rw[hnn]at hh ht hu hn;clear hnn
 go_enter Tryz.func40,Tryz.ntmps40
 go_upto_region 0 with(fail)
 go_region_held3 (fun w'=>w'.cell? ⟨b,1,none⟩=some (.slice (some ⟨gt,0,none⟩) n ct)) (go_keep) (fail)
 go_wp2;have HB2:=Hd ((((Below.refl B w).setCell (p:=⟨gt,t*9+3+i,none⟩) hB (.int .i64 u)).setCell (p:=⟨gt,u*9+3+j,none⟩) hB (.int .i64 t)).drew);have HS2:=Hd ((((Same.refl F w).set NF.out (t*9+3+i) (.int .i64 u)).set NF.out (u*9+3+j) (.int .i64 t)).drew);have hM:MAt B w b M pV (.slice (some ⟨gt,0,none⟩) n ct) fV aV:=HN.out▸H.out;have hA:=stored' hM HN.out t (3+i) ht (by omega) _ (.int .i64 u) (setN_cs (tat M.tris t) i hi u);have hA2:=stored' hA ((len_set _ _ _).trans HN.out) u (3+j) hu (by omega) _ (.int .i64 t) (setN_cs (tat (M.setTri t ((tat M.tris t).setN i u)).tris u) j hj t);rw[←Nat.add_assoc,←Nat.add_assoc]at hA2;have hA3:=hA2.drew;have hL2:((M.setTri t ((tat M.tris t).setN i u)).setTri u ((tat (M.setTri t ((tat M.tris t).setN i u)).tris u).setN j t)).tris.length=n:=(len_set _ _ _).trans ((len_set _ _ _).trans HN.out);have hlink:M.link t i u j f=((((M.setTri t ((tat M.tris t).setN i u)).setTri u ((tat (M.setTri t ((tat M.tris t).setN i u)).tris u).setN j t)).setTri t ((tat ((M.setTri t ((tat M.tris t).setN i u)).setTri u ((tat (M.setTri t ((tat M.tris t).setN i u)).tris u).setN j t)).tris t).setF i f))).setTri u ((tat (((M.setTri t ((tat M.tris t).setN i u)).setTri u ((tat (M.setTri t ((tat M.tris t).setN i u)).tris u).setN j t)).setTri t ((tat ((M.setTri t ((tat M.tris t).setN i u)).setTri u ((tat (M.setTri t ((tat M.tris t).setN i u)).tris u).setN j t)).tris t).setF i f)).tris u).setF j f):=rfl;have HLINK:=Hd hlink;clear hA hA2 hM hx hy hy1 hlink;generalize (M.setTri t ((tat M.tris t).setN i u)).setTri u ((tat (M.setTri t ((tat M.tris t).setN i u)).tris u).setN j t)=M2 at *;obtain⟨W,hW⟩:∃W,((w.setCell ⟨gt,t*9+3+i,none⟩ (.int .i64 u)).setCell ⟨gt,u*9+3+j,none⟩ (.int .i64 t)).drew=W:=⟨_,rfl⟩;rw[hW]at hA3 HB2 HS2 ⊢;clear hW hh hf;have hh:=hA3.head.cell 1 _ rfl;have hf:∀k,W.frozen? ⟨gt,k,none⟩=false:=fun k=>(hL2▸hA3:MAt B W b M2 pV (.slice (some ⟨gt,0,none⟩) M2.tris.length ct) fV aV).tris.frozenAt k
 obtain⟨x,hx⟩:=cells (hL2▸hA3:MAt B W b M2 pV (.slice (some ⟨gt,0,none⟩) M2.tris.length ct) fV aV) t (6+i) (by omega) (by omega);obtain⟨y,hy⟩:=cells (hL2▸hA3:MAt B W b M2 pV (.slice (some ⟨gt,0,none⟩) M2.tris.length ct) fV aV) u (6+j) (by omega) (by omega);rw[←Nat.add_assoc]at hx hy;obtain⟨y1,hy1⟩:=cell?_setCell_some (w:=W) (p:=⟨gt,t*9+6+i,none⟩) (x:=.bool f) (q:=⟨gt,u*9+6+j,none⟩) (v:=y) hy;have HA3:=Hd hA3;have HL2:=Hd hL2;clear hA3 hL2
 go_region_held3 (fun w'=>w'.cell? ⟨b,1,none⟩=some (.slice (some ⟨gt,0,none⟩) n ct)) (go_keep) (fail)
 go_wp2
 go_end0
 have hA:=stored' HA3.out HL2.out t (6+i) ht (by omega) _ (.bool f) (setF_cs (tat M2.tris t) i hi f);have hA2:=stored' hA ((len_set _ _ _).trans HL2.out) u (6+j) hu (by omega) _ (.bool f) (setF_cs (tat (M2.setTri t ((tat M2.tris t).setF i f)).tris u) j hj f);rw[←Nat.add_assoc,←Nat.add_assoc]at hA2;rw[HLINK.out];exact⟨rfl,⟨_,_,_,_,hA2.drew,HF.out⟩,(((HB2.out).setCell (p:=⟨gt,t*9+6+i,none⟩) hB (.bool f)).setCell (p:=⟨gt,u*9+6+j,none⟩) hB (.bool f)).drew,((HS2.out.set NF.out _ _).set NF.out _ _).drew⟩
end Lk
end Go.Proofs.YtdihefgleefhmaaGreat
namespace Go.Proofs.YtdihefgleefhmaaGreat
open Go.RowKit
theorem Tryz.info3':(Tryz.prog.info? 3).map (fun i=>(i.zero,i.size,i.bytes))=some (some (.int .i64 0),1,8):=by kernel_rfl
section
variable {B:Nat} {W:World} {b:Nat} {M:Mesh} {pV fV aV:Value} {gt ct n:Nat}
def World.putTri(W:World)(g o:Nat)(x:Tri):World:=
 ((((((((W.setCell ⟨g,o,none⟩ (.int .i64 x.v0)).setCell ⟨g,o+1,none⟩ (.int .i64 x.v1)).setCell ⟨g,o+2,none⟩ (.int .i64 x.v2)).setCell ⟨g,o+3,none⟩ (.int .i64 x.n0)).setCell ⟨g,o+4,none⟩ (.int .i64 x.n1)).setCell ⟨g,o+5,none⟩ (.int .i64 x.n2)).setCell ⟨g,o+6,none⟩ (.bool x.f0)).setCell ⟨g,o+7,none⟩ (.bool x.f1)).setCell ⟨g,o+8,none⟩ (.bool x.f2)
theorem setTri_setTri(M:Mesh)(t:Nat)(x y:Tri):(M.setTri t x).setTri t y=M.setTri t y:=by unfold Mesh.setTri;simp
theorem MAt.putTri(h:MAt B W b M pV (.slice (some ⟨gt,0,none⟩) n ct) fV aV)(hn:M.tris.length=n)(t:Nat)(ht:t<n)(x:Tri) :
  MAt B (World.putTri W gt (t*9) x) b (M.setTri t x) pV (.slice (some ⟨gt,0,none⟩) n ct) fV aV:=by
 have step:=fun(W:World) (y:Tri) (hy:MAt B W b (M.setTri t y) pV (.slice (some ⟨gt,0,none⟩) n ct) fV aV) (j:Nat) (hj:j<9) (z:Tri) (u:Value) (hz:z.cs=y.cs.set j u)=>
  (setTri_setTri M t y z)▸Lk.stored' hy ((Lk.len_set _ _ _).trans hn) t j ht hj z u (by show _=(tat (M.tris.set t y) t).cs.set j u;rw[tat_set_same _ _ _ (by omega)];exact hz)
 have h0:=Lk.stored' h hn t 0 ht (by omega) {tat M.tris t with v0:=x.v0 } (.int .i64 x.v0) rfl;have h1:=step _ _ h0 1 (by omega) {tat M.tris t with v0:=x.v0,v1:=x.v1 } (.int .i64 x.v1) rfl;have h2:=step _ _ h1 2 (by omega) {tat M.tris t with v0:=x.v0,v1:=x.v1,v2:=x.v2 } (.int .i64 x.v2) rfl;have h3:=step _ _ h2 3 (by omega) {tat M.tris t with v0:=x.v0,v1:=x.v1,v2:=x.v2,n0:=x.n0 } (.int .i64 x.n0) rfl;have h4:=step _ _ h3 4 (by omega) {tat M.tris t with v0:=x.v0,v1:=x.v1,v2:=x.v2,n0:=x.n0,n1:=x.n1 } (.int .i64 x.n1) rfl;have h5:=step _ _ h4 5 (by omega) {tat M.tris t with v0:=x.v0,v1:=x.v1,v2:=x.v2,n0:=x.n0,n1:=x.n1,n2:=x.n2 } (.int .i64 x.n2) rfl;have h6:=step _ _ h5 6 (by omega) {tat M.tris t with v0:=x.v0,v1:=x.v1,v2:=x.v2,n0:=x.n0,n1:=x.n1,n2:=x.n2,f0:=x.f0 } (.bool x.f0) rfl;have h7:=step _ _ h6 7 (by omega) {tat M.tris t with v0:=x.v0,v1:=x.v1,v2:=x.v2,n0:=x.n0,n1:=x.n1,n2:=x.n2,f0:=x.f0,f1:=x.f1 } (.bool x.f1) rfl;exact step _ _ h7 8 (by omega) x (.bool x.f2) rfl
theorem below_putTri(hB:B≤gt){W0:World}(h:Below B W0 W)(o:Nat)(x:Tri):Below B W0 (World.putTri W gt o x):=
 ((((((((h.setCell (p:=⟨gt,_,none⟩) hB _).setCell (p:=⟨gt,_,none⟩) hB _).setCell (p:=⟨gt,_,none⟩) hB _).setCell (p:=⟨gt,_,none⟩) hB _).setCell (p:=⟨gt,_,none⟩) hB _).setCell (p:=⟨gt,_,none⟩) hB _).setCell (p:=⟨gt,_,none⟩) hB _).setCell (p:=⟨gt,_,none⟩) hB _).setCell (p:=⟨gt,_,none⟩) hB _
theorem same_putTri{F:Nat→Prop}(hF:¬F gt){W0:World}(h:Same F W0 W)(o:Nat)(x:Tri):Same F W0 (World.putTri W gt o x):=
 ((((((((h.set hF _ _).set hF _ _).set hF _ _).set hF _ _).set hF _ _).set hF _ _).set hF _ _).set hF _ _).set hF _ _
theorem MAt.grownFree{tV:Value}(h:MAt B W b M pV tV fV aV){W1:World}{v':Value}{l:List Nat}(hrow:W1.ownsRow B 3 1 v' l.length (l.map fun(n:Nat)=>Value.int .i64 n))(hg:W.grownBy W1 fV.ownBlock)(hat:v'.ownBlock=fV.ownBlock∨v'.ownBlock=some W.heap.size) :
  MAt B (W1.setCell ⟨b,2,none⟩ v') b {M with free:=l } pV tV v' aV:=by
 have fne:∀{g:Nat},fV.ownBlock=some g→b≠g:=fun hg=>blk_ne h.head h.free (by decide) hg
 have kh:Blk W1 b 39 #[pV,tV,fV,aV]:=(hg.block b h.head.lt (fun e=>fne e.symm rfl)).trans h.head;have kept:∀{e s n:Nat} {v:Value} {xs:List Value},W.ownsRow B e s v n xs→(v.ownBlock=none∨v.ownBlock≠fV.ownBlock)→W1.ownsRow B e s v n xs:=fun h h'=>h.kept hg h'
 have apart2:∀{e s n:Nat} {v:Value} {xs:List Value},W.ownsRow B e s v n xs→e≠3→(v.ownBlock=none∨v.ownBlock≠fV.ownBlock):=by
  intro e s n v xs hv he;cases ho:fV.ownBlock with
  | none=>cases hv':v.ownBlock with
   | none=>exact .inl rfl
   | some g=>exact .inr (by simp)
  | some g=>exact .inr (own_ne hv h.free he ho)
 have aap:aV.ownBlock=none∨aV.ownBlock≠fV.ownBlock:=by
  rcases h.apart with h1|h1
  ·cases ha:aV.ownBlock with
   | none=>exact .inl rfl
   | some g=>exact .inr (by rw[h1];simp)
  ·exact .inr (Ne.symm h1)
 have ra:=kept h.at_ aap;have rp:=kept h.pts (apart2 h.pts (by decide));have rt:=kept h.tris (apart2 h.tris (by decide));refine⟨kh.set 2 v',h.le,ownsRow_setCell_other (a:=⟨b,2,none⟩) rp ?_ _,ownsRow_setCell_other (a:=⟨b,2,none⟩) rt ?_ _,ownsRow_setCell_other (a:=⟨b,2,none⟩) hrow ?_ _,ownsRow_setCell_other (a:=⟨b,2,none⟩) ra ?_ _,?_⟩
 ·exact fun e=>blk_ne kh rp (by decide) e rfl
 ·exact fun e=>blk_ne kh rt (by decide) e rfl
 ·exact fun e=>blk_ne kh hrow (by decide) e rfl
 ·exact fun e=>blk_ne kh ra (by decide) e rfl
 ·rcases hat with h1|h1
  ·rw[h1];exact h.apart
  ·refine .inr (fun e=>?_)
   have:=(h.at_.lt W.heap.size (e.symm.trans h1)).2;omega
end
section
variable {B:Nat} {W:World} {b:Nat} {M:Mesh} {pV tV fV aV:Value}
theorem own_shape'{e s n:Nat}{v:Value}{xs:List Value}(h:W.ownsRow B e s v (n+1) xs):∃g c,v=.slice (some ⟨g,0,none⟩) (n+1) c:=by
 obtain⟨g,c,h1,_⟩:=own_shape h (Nat.succ_pos _);exact⟨g,c,h1⟩
theorem free_block(h:MAt B W b M pV tV fV aV):fV.ownBlock≠some W.heap.size:=by
 intro e;have:=(h.free.lt _ e).2;omega
theorem free_step(h:MAt B W b M pV tV fV aV){o:Obj}{W1:World}{v':Value}{t:Nat}(h1:W1.ownsRow B 3 1 v' (M.free.length+1) ((M.free.map fun(n:Nat)=>Value.int .i64 n)++[.int .i64 t]))(h2:(W.alloc o).grownBy W1 fV.ownBlock)(h3:v'.ownBlock=fV.ownBlock∨v'.ownBlock=some (W.alloc o).heap.size) :
  MAt B (W1.setCell ⟨b,2,none⟩ v') b {M with free:=M.free++[t] } pV tV v' aV∧Below B W W1:=by
 have hb0:=free_block h;have hA:MAt B (W.alloc o) b M pV tV fV aV:=h.later (bel_alloc (bel_refl W) o);refine⟨MAt.grownFree (l:=M.free++[t]) hA (by simpa using h1) h2 h3,?_⟩;refine⟨h2.os,h2.tape,h2.output,Nat.le_trans (by simp) h2.size,fun k hk=>?_⟩;have hkB:k<W.heap.size:=Nat.lt_of_lt_of_le hk (Nat.le_trans h.le (Nat.le_of_lt h.head.lt));refine(h2.block k (by simp;omega) (fun e=>?_)).trans (Below.heap_alloc _ _ _ hkB);have:=(h.free.lt k e.symm).1;omega
theorem free_cell(h:MAt B W b M pV tV fV aV){o:Obj}{W1:World}(h2:(W.alloc o).grownBy W1 fV.ownBlock):W1.cell? ⟨b,2,none⟩=some fV:=by
 have hA:MAt B (W.alloc o) b M pV tV fV aV:=h.later (bel_alloc (bel_refl W) o);exact h2.cell (hA.head.cell 2 fV rfl) (fun e=>blk_ne hA.head hA.free (by decide) e.symm rfl)
theorem free_frozen(h:MAt B W b M pV tV fV aV){o:Obj}{W1:World}(h2:(W.alloc o).grownBy W1 fV.ownBlock):W1.frozen? ⟨b,2,none⟩=false:=by
 have hA:MAt B (W.alloc o) b M pV tV fV aV:=h.later (bel_alloc (bel_refl W) o);exact(World.frozen?_of_block (a:=⟨b,2,none⟩) (h2.block b hA.head.lt (fun e=>blk_ne hA.head hA.free (by decide) e.symm rfl))).trans (hA.head.frozen 2)
end
def Mesh.drop(M:Mesh)(t:Nat):Mesh:={M.setTri t Tri.gone with free:=M.free++[t] }
namespace Dp
theorem putTri_gone(W:World)(g o:Nat):World.putTri W g o Tri.gone=((((((((W.setCell ⟨g,o,none⟩ (.int .i64 (-2))).setCell ⟨g,o+1,none⟩ (.int .i64 (-2))).setCell ⟨g,o+2,none⟩ (.int .i64 (-2))).setCell ⟨g,o+3,none⟩ (.int .i64 (-1))).setCell ⟨g,o+4,none⟩ (.int .i64 (-1))).setCell ⟨g,o+5,none⟩ (.int .i64 (-1))).setCell ⟨g,o+6,none⟩ (.bool false)).setCell ⟨g,o+7,none⟩ (.bool false)).setCell ⟨g,o+8,none⟩ (.bool false):=rfl
set_option maxRecDepth 100000 in
set_option maxHeartbeats 1000000 in
theorem drop_any(F:Nat→Prop)(B b t:Nat)(M:Mesh)(w:World)(h:MeshF F B w b M)(hFs:∀k,F k→k<w.heap.size)(ht:t<M.tris.length)(hn:M.tris.length≤1000000000)(hf:M.free.length≤1000000000)(hBw:B≤w.heap.size) :
  Calls Tryz.prog 38 #[.pointer (some ⟨b,0,none⟩),.int .i64 t] w fun e w'=>e=.returned (.tuple #[])∧MeshF F B w' b (M.drop t)∧Below B w w'∧Same F w w':=by
 obtain⟨pV,tV,fV,aV,h,hF⟩:=h;have HF:=Hd hF;have NF:=Hd hFs;clear hF hFs;obtain⟨gt,ct,rfl,hB⟩:=own_shape h.tris (by omega);have hb:=blk_ne h.head h.tris (by decide) rfl;have hh:=h.head.cell 1 _ rfl;have hh2:=h.head.cell 2 _ rfl;have hfz:∀k,w.frozen? ⟨gt,k,none⟩=false:=fun k=>h.tris.frozenAt k
 obtain⟨x0,c0⟩:=Lk.cells h t 0 ht (by omega);obtain⟨x1,c1⟩:=Lk.cells h t 1 ht (by omega);obtain⟨x2,c2⟩:=Lk.cells h t 2 ht (by omega);obtain⟨x3,c3⟩:=Lk.cells h t 3 ht (by omega);obtain⟨x4,c4⟩:=Lk.cells h t 4 ht (by omega);obtain⟨x5,c5⟩:=Lk.cells h t 5 ht (by omega);obtain⟨x6,c6⟩:=Lk.cells h t 6 ht (by omega);obtain⟨x7,c7⟩:=Lk.cells h t 7 ht (by omega);obtain⟨x8,c8⟩:=Lk.cells h t 8 ht (by omega);simp only[Nat.add_zero]at c0;have hA:=MAt.putTri h rfl t ht Tri.gone;rw[putTri_gone]at hA;have HA:=Hd hA;have HB:=Hd (below_putTri hB (Below.refl B w) (t*9) Tri.gone);have HS:=Hd (same_putTri (HF.out.2 gt (.inr (.inl rfl))) (Same.refl F w) (t*9) Tri.gone);clear hA h
 go_enter Tryz.func38,Tryz.ntmps38
 go_upto_region 1 with(fail)
 obtain⟨W,hW⟩:∃W,((((((((w.setCell ⟨gt,t*9,none⟩ (.int .i64 (-2))).setCell ⟨gt,t*9+1,none⟩ (.int .i64 (-2))).setCell ⟨gt,t*9+2,none⟩ (.int .i64 (-2))).setCell ⟨gt,t*9+3,none⟩ (.int .i64 (-1))).setCell ⟨gt,t*9+4,none⟩ (.int .i64 (-1))).setCell ⟨gt,t*9+5,none⟩ (.int .i64 (-1))).setCell ⟨gt,t*9+6,none⟩ (.bool false)).setCell ⟨gt,t*9+7,none⟩ (.bool false)).setCell ⟨gt,t*9+8,none⟩ (.bool false)=W:=⟨_,rfl⟩;rw[putTri_gone]at HB HS;rw[hW]at HA HB HS ⊢;have hz:w.heap.size=W.heap.size:=by rw[←hW];simp
 have HZ:=Hd hz;clear hW hh hh2 hfz c0 c1 c2 c3 c4 c5 c6 c7 c8;have hBW:B≤W.heap.size:=by omega
 clear hz;have hh:=HA.out.head.cell 2 fV rfl;obtain⟨i0,hi,hz0,hz1,hz2⟩:=info_parts Tryz.info3';have HO:Hid (W.ownsRow B 3 1 fV M.free.length (M.free.map fun(n:Nat)=>Value.int .i64 n)):=Hd HA.out.free
 go_wp2_with (at_builtin;refine wpList_append_own_at _ rfl _ _ 37 rfl B 3 i0 (.int .i64 0) 1 8 Tryz.underlying37 hi hz0 hz1 hz2 rfl (by decide) fV M.free.length (M.free.map fun(n:Nat)=>Value.int .i64 n) rfl (HO.out.alloc _) ⟨W.heap.size,0,none⟩ 1 1 [.int .i64 t] rfl rfl (cell_one_new _ _ _) (by simp[Value.oneCell']) (by show M.free.length+1≤_;unfold maxLen;omega) (by show(M.free.length+1)*8≤_;omega) (by simp;omega) ?_;intro v' w1 hown' hgrow _ hat;have HX:=Hd (free_step HA.out hown' hgrow hat);obtain⟨g',cap',rfl⟩:=own_shape' hown';have hc1:=free_cell HA.out hgrow;have hc2:=free_frozen HA.out hgrow;have HGR:=Hd hgrow;have HAT:=Hd hat;clear hown' hgrow hat)
 go_end0
 have hFs2:∀k,F k→k<(W.alloc (.cells #[.int .i64 t] 3)).heap.size:=fun k hk=>by have:=NF.out k hk;have:=HZ.out;simp;omega
 refine⟨rfl,⟨_,_,_,_,HX.out.1,HF.out.1,fun g hg=>?_⟩,?_,?_⟩
 ·rcases hg with hg|hg|hg|hg
  ·exact HF.out.2 g (.inl hg)
  ·exact HF.out.2 g (.inr (.inl hg))
  ·rcases HAT.out with h1|h1
   ·exact HF.out.2 g (.inr (.inr (.inl (h1.symm.trans hg))))
   ·intro hk
    have h2:=hFs2 g hk;have h3:some (W.alloc (.cells #[.int .i64 t] 3)).heap.size=some g:=h1.symm.trans hg;have:=Option.some.inj h3;omega
  ·exact HF.out.2 g (.inr (.inr (.inr hg)))
 ·exact(HB.out.trans HX.out.2).setCell (p:=⟨b,2,none⟩) HA.out.le _
 ·exact((HS.out.alloc (fun k hk=>by have:=NF.out k hk;have:=HZ.out;omega) _).grown hFs2 HGR.out (fun g hg=>HF.out.2 g (.inr (.inr (.inl hg))))).set HF.out.1 _ _
end Dp
end Go.Proofs.YtdihefgleefhmaaGreat
