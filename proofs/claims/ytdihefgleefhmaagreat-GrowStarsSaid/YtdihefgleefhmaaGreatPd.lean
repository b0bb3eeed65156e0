import Derived.Test.YtdihefgleefhmaaGreatMf
import Derived.Deep.DeepCutAuto
import Derived.Deep.RegionHeld3
import Derived.Test.YtdihefgleefhmaaGreatDg
namespace Go.Proofs.YtdihefgleefhmaaGreat
open Go.RowKit
abbrev partV(a b:Int)(f:Bool):Value:=.tuple #[.agg #[.int .i64 a,.int .i64 b],.bool f]
namespace Pd
set_option maxRecDepth 100000 in
set_option maxHeartbeats 1000000 in
theorem parted_off(b:Nat)(q:Place)(w:World)(hq:q.kind≠1) :
  Calls Tryz.prog 36 #[.pointer (some ⟨b,0,none⟩),plv q] w fun e w'=>e=.returned (partV 0 0 false)∧Below w.heap.size w w':=by
 have hk:(q.kind != 1)=true:=by simpa using hq
 obtain⟨kd,tr,a,c⟩:=q;simp only at hk;clear hq
 go_enter Tryz.func36,Tryz.ntmps36
 go_wp2;refine bodyPost_ret (v:=partV 0 0 false) (by simp[results,Tryz.results36,go_sem]) rfl ⟨rfl,?_⟩;exact bel_alloc (bel_alloc (bel_refl w) _) _
set_option maxRecDepth 100000 in
set_option maxHeartbeats 1000000 in
theorem parted_on(M:Mesh)(b f:Nat)(q:Place)(xs:List (Nat×Nat))(t k:Nat)(w:World)(h:MeshR w b M)(ho:M.ok)(hp:0<M.pts.length)(v:Nat)(hq:q.kind=1)(hv:max q.a q.b=v)(hac:(q.a==q.b)=false)(hvl:v<M.at_.length)
  (hx:around M f v=some xs) (he:edgeOf M q.a q.b xs=some (t,k)) (htl:t<M.tris.length) (hk:k<3) :
  Calls Tryz.prog 36 #[.pointer (some ⟨b,0,none⟩),plv q] w fun e w'=>e=.returned (partV q.a q.b ((tat M.tris t).f k))∧Below w.heap.size w w':=by
 have hc:∀w,MeshR w b M→Calls Tryz.prog 14 #[.pointer (some ⟨b,0,none⟩),.int .i64 q.a,.int .i64 q.b] w fun e w'=>e=.returned (edgeV (some (t,k)))∧Below w.heap.size w w':=fun w h=>by
  rw[←he];exact Mf.edge_any M b f q.a q.b xs w h ho hp (by omega) v hv hac hvl hx
 obtain⟨kd,tr,a,c⟩:=q;simp only[edgeV]at hq hc;subst hq;have HC:=Hd hc;have H:=Hd h;simp only;clear hc h hv hac hx he hvl;obtain⟨r,hr⟩:∃r,(tat M.tris t).f k=r:=⟨_,rfl⟩;rw[hr];have HR:=Hd hr;clear hr
 go_enter Tryz.func36,Tryz.ntmps36
 go_upto_region 3 with(fail)
 have k0:Blk ((w.alloc (.cells #[.int .i64 1,.int .i64 tr,.int .i64 a,.int .i64 c] 78)).alloc (.cells #[.int .i64 0,.int .i64 0] 54)) w.heap.size 78 #[.int .i64 1,.int .i64 tr,.int .i64 a,.int .i64 c]:=(Blk.new w 78 _).alloc _;have k4:Blk ((w.alloc (.cells #[.int .i64 1,.int .i64 tr,.int .i64 a,.int .i64 c] 78)).alloc (.cells #[.int .i64 0,.int .i64 0] 54)) (w.heap.size+1) 54 #[.int .i64 0,.int .i64 0]:=Blk.new' _ 54 _ (by simp);have kb:=bel_alloc (bel_alloc (bel_refl w) (.cells #[.int .i64 1,.int .i64 tr,.int .i64 a,.int .i64 c] 78)) (.cells #[.int .i64 0,.int .i64 0] 54);obtain⟨W,hW⟩:∃W,((w.alloc (.cells #[.int .i64 1,.int .i64 tr,.int .i64 a,.int .i64 c] 78)).alloc (.cells #[.int .i64 0,.int .i64 0] 54))=W:=⟨_,rfl⟩;rw[hW]at k0 k4 kb ⊢;clear hW;obtain⟨gp,cp,gt,ct,ga,ca,fV,hM⟩:=H.out;have hM0:=hM;have hMW:=hM.later kb;have hc1:=HC.out W ⟨gp,cp,gt,ct,ga,ca,fV,hMW⟩;have f2:=k0.cell 2 (.int .i64 a) rfl;have f3:=k0.cell 3 (.int .i64 c) rfl;have K0:=Hd k0;have K4:=Hd k4;have KB:=Hd kb;have HM:=Hd hMW;have HC1:=Hd hc1;clear hc1 k0 k4 kb hM hMW HC H
 go_upto_region 4 with(go_at_call 14;refine HC1.out.mono ?_;rintro e w1 ⟨rfl,hb1⟩;have HB1:=Hd hb1;clear hb1)
 have k1:=HM.out.later HB1.out;have hT:=K4.out.later HB1.out;have lx:=k1.head.cell 1 (.slice (some ⟨gt,0,none⟩) M.tris.length ct) rfl;have p0:=(K0.out.later HB1.out).cell 2 (.int .i64 a) rfl;have p1:=(K0.out.later HB1.out).cell 3 (.int .i64 c) rfl;obtain⟨t0,t1,s0,s1⟩:=hT.two;obtain⟨_,_,_,_,_,_,e0,e1,e2⟩:=k1.tris t htl;have ne1:b≠w.heap.size+1:=by have:=hM0.head.lt;omega
 have ne2:gt≠w.heap.size+1:=by have:=World.block_lt_of_cell? _ _ (hM0.tris t htl).1;simp only at this;omega
 have ne3:=ne1.symm;have ne4:=ne2.symm;have HTH:=Hd hT;have xi:(0:Int)≤(t:Int):=by omega
 have xi1:(t:Int)<(M.tris.length:Int):=by omega
 have HB2:=Hd (bel_step KB.out HB1.out);clear k1 HM K0 K4 HC1 hT f2 f3 hM0 HB1 KB
 go_cut [4,5] (fun v4 v5 wx=>v4=.pointer (some ⟨w.heap.size+1,0,none⟩)∧v5=.bool r∧Hid (Blk wx (w.heap.size+1) 54 #[.int .i64 a,.int .i64 c])∧Hid (Below w.heap.size w wx))
 case first=>
  rcases(show k=0∨k=1∨k=2 by omega)with rfl|rfl|rfl
  ·have hr:=HR.out
   simp only[Tri.f]at hr;rw[hr]at e0;clear e1 e2
   go_region_held3 (fun w'=>w'.cell? ⟨b,1,none⟩=some (.slice (some ⟨gt,0,none⟩) M.tris.length ct)∧w'.cell? ⟨w.heap.size,2,none⟩=some (.int .i64 a)∧w'.cell? ⟨w.heap.size,3,none⟩=some (.int .i64 c)∧w'.cell? ⟨gt,t*9+6,none⟩=some (.bool r)) (go_keep) (fail)
   all_goals
    go_wp2_with fail
    go_meet
    refine⟨rfl,rfl,Hd ?_,Hd ?_⟩
    ·exact(HTH.out.set 0 _).set 1 _
    ·exact bel_set (bel_set (bel_drew HB2.out) (by omega) _ _) (by omega) _ _
  ·have hr:=HR.out
   simp only[Tri.f]at hr;rw[hr]at e1;clear e0 e2
   go_region_held3 (fun w'=>w'.cell? ⟨b,1,none⟩=some (.slice (some ⟨gt,0,none⟩) M.tris.length ct)∧w'.cell? ⟨w.heap.size,2,none⟩=some (.int .i64 a)∧w'.cell? ⟨w.heap.size,3,none⟩=some (.int .i64 c)∧w'.cell? ⟨gt,t*9+7,none⟩=some (.bool r)) (go_keep) (fail)
   all_goals
    go_wp2_with fail
    go_meet
    refine⟨rfl,rfl,Hd ?_,Hd ?_⟩
    ·exact(HTH.out.set 0 _).set 1 _
    ·exact bel_set (bel_set (bel_drew HB2.out) (by omega) _ _) (by omega) _ _
  ·have hr:=HR.out
   simp only[Tri.f]at hr;rw[hr]at e2;clear e0 e1
   go_region_held3 (fun w'=>w'.cell? ⟨b,1,none⟩=some (.slice (some ⟨gt,0,none⟩) M.tris.length ct)∧w'.cell? ⟨w.heap.size,2,none⟩=some (.int .i64 a)∧w'.cell? ⟨w.heap.size,3,none⟩=some (.int .i64 c)∧w'.cell? ⟨gt,t*9+8,none⟩=some (.bool r)) (go_keep) (fail)
   all_goals
    go_wp2_with fail
    go_meet
    refine⟨rfl,rfl,Hd ?_,Hd ?_⟩
    ·exact(HTH.out.set 0 _).set 1 _
    ·exact bel_set (bel_set (bel_drew HB2.out) (by omega) _ _) (by omega) _ _
 case rest=>
  obtain⟨rfl,rfl,F4,FB⟩:=hcut;obtain⟨g0,g1,_,_⟩:=F4.out.two;go_wp2;refine bodyPost_ret (v:=partV a c r) (by simp[results,Tryz.results36,go_sem,g0,g1]) rfl ⟨rfl,FB.out⟩
end Pd
end Go.Proofs.YtdihefgleefhmaaGreat
namespace Go.Proofs.YtdihefgleefhmaaGreat
open Go.RowKit
def rimStep(v:Nat)(A:Mesh×List Nat)(s:Side):Mesh×List Nat:=
 let r:=A.1.make s.a s.b v
 (r.1.link r.2 2 s.out.toNat s.i.toNat s.fault,A.2++[r.2])
def dropN(M:Mesh)(ts:List Nat):Nat→Mesh
 | 0=>M
 | j+1=>(dropN M ts j).drop (ts.getD j 0)
def makeN(v:Nat)(M:Mesh)(rim:List Side):Nat→Mesh×List Nat
 | 0=>(M,[])
 | j+1=>rimStep v (makeN v M rim j) (rim.getD j Side.zero)
def linkN(ms:List Nat)(sp:Side→Bool)(rim:List Side)(M:Mesh):Nat→Mesh
 | 0=>M
 | j+1=>(linkN ms sp rim M j).link (ms.getD j 0) 0 (ms.getD ((j+1)%ms.length) 0) 1 (sp (rim.getD j Side.zero))
def insertIn(M:Mesh)(v:Nat)(q:Place)(sp:Side→Bool):Mesh:=
 let c:=dig M (pat M.pts v) q
 let A:=makeN v (dropN M c.tris c.tris.length) c.rim c.rim.length
 linkN A.2 sp c.rim A.1 c.rim.length
def StepOk(A:Mesh)(s:Side)(v:Nat):Prop:=
 (A.tris.length≤1000000000∧A.free.length≤1000000000∧(∀n∈A.free,n<A.tris.length))∧(s.a<A.at_.length∧s.b<A.at_.length∧v<A.at_.length)∧
 ((A.make s.a s.b v).2<(A.make s.a s.b v).1.tris.length∧(A.make s.a s.b v).1.tris.length≤1000000000∧0≤s.out∧s.out.toNat<(A.make s.a s.b v).1.tris.length∧0≤s.i∧s.i.toNat<3)
def LinkOk(A:Mesh)(x y:Nat):Prop:=x<A.tris.length∧y<A.tris.length∧A.tris.length≤1000000000
structure FillOk(M:Mesh)(v:Nat)(c:Cavity)(sp:Side→Bool):Prop where
 drop:∀t∈c.tris,t<M.tris.length
 free:M.free.length+c.tris.length≤1000000000
 some:0<c.rim.length
 few:c.rim.length≤1000000000
 make:∀j,j<c.rim.length→StepOk (makeN v (dropN M c.tris c.tris.length) c.rim j).1 (c.rim.getD j Side.zero) v
 link:∀j,j<c.rim.length→let A:=makeN v (dropN M c.tris c.tris.length) c.rim c.rim.length;LinkOk (linkN A.2 sp c.rim A.1 j) (A.2.getD j 0) (A.2.getD ((j+1)%A.2.length) 0)
theorem make_len(v:Nat)(M:Mesh)(rim:List Side):∀j,(makeN v M rim j).2.length=j
 | 0=>rfl
 | j+1=>by
  unfold makeN rimStep;rw[List.length_append,make_len v M rim j];rfl
theorem drop_tris(M:Mesh)(t:Nat):(M.drop t).tris.length=M.tris.length:=by unfold Mesh.drop Mesh.setTri;simp
theorem drop_free(M:Mesh)(t:Nat):(M.drop t).free.length=M.free.length+1:=by unfold Mesh.drop;simp
theorem dropN_len(M:Mesh)(ts:List Nat):∀j,(dropN M ts j).tris.length=M.tris.length∧(dropN M ts j).free.length=M.free.length+j
 | 0=>⟨rfl,rfl⟩
 | j+1=>by
  obtain⟨h1,h2⟩:=dropN_len M ts j;unfold dropN;exact⟨(drop_tris _ _).trans h1,by rw[drop_free,h2];omega⟩
namespace Iq
open Dg
theorem own_same{W W':World}{B e s n:Nat}{v:Value}{xs:List Value}(h:W.ownsRow B e s v n xs)(k:∀g,v.ownBlock=some g→W'.heap[g]? =W.heap[g]?):W'.ownsRow B e s v n xs:=by
 obtain⟨h1,h2|⟨g,c,cur,rfl,h3,h4,h5⟩⟩:=h
 ·exact⟨h1,.inl h2⟩
 ·exact⟨h1,.inr ⟨g,c,cur,rfl,h3,(k g rfl).trans h4,h5⟩⟩
structure InS(F0 F:Nat→Prop)(B:Nat)(w W:World)(b:Nat)(M:Mesh)(c e:Nat)(vt vr:Value)(rim:List Side)(cut:Bool)(ea eb:Int)(vm:Value)(ms:List Nat):Prop where
 mesh:MeshF F B W b M
 fs:∀k,F k→k<W.heap.size
 f0:∀k,F0 k→F k
 f0s:∀k,F0 k→k<w.heap.size
 same:Same F0 w W
 bel:Below B w W
 cV:Blk W c 85 #[vt,vr,.bool cut]
 fc:F c
 eV:Blk W e 54 #[.int .i64 ea,.int .i64 eb]
 fe:F e
 rO:W.ownsRow w.heap.size 89 5 vr rim.length (rim.flatMap Side.cs)
 fr:∀g,vr.ownBlock=some g→F g
 mO:W.ownsRow w.heap.size 3 1 vm ms.length (nv ms)
 fm:∀g,vm.ownBlock=some g→F g
 size:w.heap.size≤W.heap.size
section
variable {F0 F:Nat→Prop} {B:Nat} {w W W':World} {b:Nat} {M M':Mesh} {c e:Nat} {vt vr vm:Value} {rim:List Side} {cut:Bool} {ea eb:Int} {ms:List Nat}
theorem InS.call(h:InS F0 F B w W b M c e vt vr rim cut ea eb vm ms)(hm:MeshF F B W' b M')(hb:Below B W W')(hs:Same F W W'):InS F0 F B w W' b M' c e vt vr rim cut ea eb vm ms where
 mesh:=hm
 fs k hk:=Nat.lt_of_lt_of_le (h.fs k hk) hb.size
 f0:=h.f0
 f0s:=h.f0s
 same:=h.same.trans fun k hk=>hs k (h.f0 k hk)
 bel:=h.bel.trans hb
 cV:=(hs c h.fc).trans h.cV
 fc:=h.fc
 eV:=(hs e h.fe).trans h.eV
 fe:=h.fe
 rO:=own_same h.rO fun g hg=>hs g (h.fr g hg)
 fr:=h.fr
 mO:=own_same h.mO fun g hg=>hs g (h.fm g hg)
 fm:=h.fm
 size:=Nat.le_trans h.size hb.size
theorem MeshF.grown{F:Nat→Prop}(h:MeshF F B W b M){row:Option Nat}(hg:W.grownBy W' row)(hr:∀g,row=some g→F g):MeshF F B W' b M:=by
 obtain⟨pV,tV,fV,aV,h,hf⟩:=h
 have ne:∀{v:Value},(∀g,v.ownBlock=some g→¬F g)→v.ownBlock=none∨v.ownBlock≠row:=by
  intro v hv;cases ho:v.ownBlock with
  | none=>exact .inl rfl
  | some g=>exact .inr (fun e=>hv g ho (hr g e.symm))
 exact⟨pV,tV,fV,aV,⟨(hg.block b h.head.lt (fun e=>hf.1 (hr b e.symm))).trans h.head,h.le,h.pts.kept hg (ne fun g hg=>hf.2 g (.inl hg)),h.tris.kept hg (ne fun g hg=>hf.2 g (.inr (.inl hg))),h.free.kept hg (ne fun g hg=>hf.2 g (.inr (.inr (.inl hg)))),
  h.at_.kept hg (ne fun g hg=>hf.2 g (.inr (.inr (.inr hg)))),h.apart⟩,hf⟩
theorem InS.later(h:InS F0 F B w W b M c e vt vr rim cut ea eb vm ms)(hb:Below W.heap.size W W')(hB:B≤w.heap.size):InS F0 F B w W' b M c e vt vr rim cut ea eb vm ms:=
 h.call (h.mesh.later hb) (hb.mono (Nat.le_trans hB h.size)) (Same.below h.fs hb)
theorem InS.alloc(h:InS F0 F B w W b M c e vt vr rim cut ea eb vm ms)(hB:B≤w.heap.size)(o:Obj):InS F0 (fun k=>F k∨k=W.heap.size) B w (W.alloc o) b M c e vt vr rim cut ea eb vm ms:=
 have hA:=h.later (bel_alloc (bel_refl W) o) hB
 ⟨(h.mesh.wider _ fun k hk=>hk.elim .inl fun hk=>.inr (Nat.le_of_eq hk.symm)).later (bel_alloc (bel_refl W) o),fun k hk=>hk.elim (hA.fs k) fun hk=>by rw[hk];simp,fun k hk=>.inl (h.f0 k hk),h.f0s,hA.same,hA.bel,hA.cV,.inl h.fc,hA.eV,.inl h.fe,hA.rO,fun g hg=>.inl (h.fr g hg),hA.mO,fun g hg=>.inl (h.fm g hg),hA.size⟩
theorem InS.grow(h:InS F0 F B w W b M c e vt vr rim cut ea eb vm ms)(hB:B≤w.heap.size){o:Obj}{y:Nat}{v':Value}(h1:W'.ownsRow w.heap.size 3 1 v' (ms.length+1) (nv ms++[.int .i64 y]))(h2:(W.alloc o).grownBy W' vm.ownBlock)(h3:v'.ownBlock=vm.ownBlock∨v'.ownBlock=some (W.alloc o).heap.size)
  (h4:∀g,v'.ownBlock=some g→g<W'.heap.size):InS F0 (fun k=>F k∨v'.ownBlock=some k) B w W' b M c e vt vr rim cut ea eb v' (ms++[y]):=by
 have hA:=h.later (bel_alloc (bel_refl W) o) hB;have hmg:MeshF F B W' b M:=MeshF.grown hA.mesh h2 h.fm;have keep:∀k,F k→vm.ownBlock≠some k→W'.heap[k]? =(W.alloc o).heap[k]?:=fun k hk hn=>h2.block k (hA.fs k hk) (fun e=>hn e.symm)
 have bk:∀{k t:Nat} {xs:Array Value},Blk (W.alloc o) k t xs→t≠3→F k→Blk W' k t xs:=fun hb ht hk=>(keep _ hk (fun e=>blk_ne hb hA.mO ht e rfl)).trans hb
 refine⟨?_,?_,fun k hk=>.inl (h.f0 k hk),h.f0s,?_,?_,bk hA.cV (by decide) h.fc,.inl h.fc,bk hA.eV (by decide) h.fe,.inl h.fe,?_,fun g hg=>.inl (h.fr g hg),by simpa using h1,fun g hg=>.inr hg,?_⟩
 ·rcases h3 with h3|h3
  ·have:(fun k=>F k∨v'.ownBlock=some k)=F:=by
    funext k
    refine propext ⟨fun hk=>hk.elim id fun hk=>h.fm k (h3.symm.trans hk),.inl⟩
   rw[this];exact hmg
  ·obtain⟨pV,tV,fV,aV,hM,hf⟩:=hmg
   obtain⟨pV2,tV2,fV2,aV2,hM2,hf2⟩:=hA.mesh;have hne:∀k,v'.ownBlock=some k→(W.alloc o).heap.size=k:=fun k hk=>Option.some.inj (h3.symm.trans hk)
   exact(MeshF.grown (hA.mesh.wider (fun k=>F k∨v'.ownBlock=some k) (fun k hk=>hk.elim .inl fun hk=>.inr (Nat.le_of_eq (hne k hk)))) h2 (fun g hg=>.inl (h.fm g hg)))
 ·intro k hk
  rcases hk with hk|hk
  ·exact Nat.lt_of_lt_of_le (hA.fs k hk) h2.size
  ·exact h4 k hk
 ·exact hA.same.trans fun k hk=>by
   by_cases hn:vm.ownBlock=some k
   ·
    have:=(h.mO.lt k hn).1;have:=h.f0s k hk;omega
   ·exact keep k (h.f0 k hk) hn
 ·refine⟨h2.os.trans hA.bel.os,h2.tape.trans hA.bel.tape,h2.output.trans hA.bel.output,Nat.le_trans hA.bel.size h2.size,fun k hk=>?_⟩
  refine(h2.block k (by have:=hA.size;omega) (fun e=>?_)).trans (hA.bel.block k hk);have:=(h.mO.lt k e.symm).1;omega
 ·exact own_same hA.rO fun g hg=>keep g (h.fr g hg) (own_ne h.mO h.rO (by decide) hg)
 ·exact Nat.le_trans hA.size h2.size
theorem own_base{W:World}{B B' e s n:Nat}{v:Value}{xs:List Value}(h:W.ownsRow B e s v n xs)(hB:B'≤B):W.ownsRow B' e s v n xs:=by
 obtain⟨h1,h2|⟨g,c,cur,rfl,h3,h4⟩⟩:=h
 ·exact⟨h1,.inl h2⟩
 ·exact⟨h1,.inr ⟨g,c,cur,rfl,Nat.le_trans hB h3,h4⟩⟩
theorem InS.start(h:MeshF F0 B w b M)(hF0:∀k,F0 k→k<w.heap.size)(hB:B≤w.heap.size)(hb:Below w.heap.size w W)(hc:Blk W c 85 #[vt,vr,.bool cut])(he:Blk W e 54 #[.int .i64 ea,.int .i64 eb])(hcw:w.heap.size≤c)(hew:w.heap.size≤e){ts:List Nat}
  (hvt:W.ownsRow w.heap.size 3 1 vt ts.length (nv ts)) (hvr:W.ownsRow w.heap.size 89 5 vr rim.length (rim.flatMap Side.cs)) :
  InS F0 (fun k=>F0 k∨k=c∨k=e∨vt.ownBlock=some k∨vr.ownBlock=some k) B w W b M c e vt vr rim cut ea eb (.slice none 0 0) [] where
 mesh:=(h.wider _ fun k hk=>by
  rcases hk with hk|rfl|rfl|hk|hk
  ·exact .inl hk
  ·exact .inr hcw
  ·exact .inr hew
  ·exact .inr (hvt.lt k hk).1
  ·exact .inr (hvr.lt k hk).1).later hb
 fs k hk:=by
  rcases hk with hk|rfl|rfl|hk|hk
  ·exact Nat.lt_of_lt_of_le (hF0 k hk) hb.size
  ·exact hc.lt
  ·exact he.lt
  ·exact(hvt.lt k hk).2
  ·exact(hvr.lt k hk).2
 f0 k hk:=.inl hk
 f0s:=hF0
 same:=Same.below hF0 hb
 bel:=hb.mono hB
 cV:=hc
 fc:=.inr (.inl rfl)
 eV:=he
 fe:=.inr (.inr (.inl rfl))
 rO:=hvr
 fr g hg:=.inr (.inr (.inr (.inr hg)))
 mO:=⟨rfl,.inl ⟨rfl,rfl⟩⟩
 fm g hg:=by cases hg
 size:=hb.size
end
end Iq
end Go.Proofs.YtdihefgleefhmaaGreat
