import Derived.Test.YtdihefgleefhmaaGreatCv
namespace Go.Proofs.YtdihefgleefhmaaGreat
open Go.RowKit
namespace Ao
open Po Pc Pe Kz Kw Ki Kx Ks Kt
section
variable {D:Int→Int→Int→Int→Int} {S:Int→Prop} {M:Mesh}
def starL(M:Mesh)(b:Nat)(ts:Nat→Nat)(i n:Nat):List (Nat×Nat):=(List.range' i n).map fun i=>(ts i,(Mr.place (tat M.tris (ts i)) b).toNat)
theorem go_round{b:Nat}{ts:Nat→Nat}{k:Nat}(st:RoundOk M b ts k):∀n i,i+(n+1)=k→aroundGo M b (ts 0) (n+1) (ts i)=some (starL M b ts i (n+1)):=by
 intro n
 induction n with
 | zero=>
  intro i hi;have hlt:i<k:=by omega
  have h1:=st.lt i hlt;have h2:=st.there i hlt;have h3:=st.next i hlt;have h4:ts (i+1)=ts 0:=by rw[show i+1=k by omega];exact st.last
  unfold nextRound at h3;rw[show((Mr.place (tat M.tris (ts i)) b+1)%3).toNat=((Mr.place (tat M.tris (ts i)) b).toNat+1)%3 by omega]at h3;unfold aroundGo;rw[if_pos ⟨h1,h2⟩,if_pos (.inr (by rw[h3,h4]))];rfl
 | succ n ih=>
  intro i hi;have hlt:i<k:=by omega
  have h1:=st.lt i hlt;have h2:=st.there i hlt;have h3:=st.next i hlt;have h4:ts (i+1)≠ts 0:=st.apart (i+1) (by omega) (by omega);unfold nextRound at h3;rw[show((Mr.place (tat M.tris (ts i)) b+1)%3).toNat=((Mr.place (tat M.tris (ts i)) b).toNat+1)%3 by omega]at h3;unfold aroundGo;rw[if_pos ⟨h1,h2⟩,if_neg (by rw[h3];omega),h3,Int.toNat_natCast,ih (i+1) (by omega)];rfl
theorem around_round{b:Nat}{ts:Nat→Nat}{k:Nat}(st:RoundOk M b ts k)(h:iat M.at_ b=ts 0):around M k b=some (starL M b ts 0 k):=by
 unfold around;rw[h,if_neg (by omega),Int.toNat_natCast];obtain⟨n,rfl⟩:∃n,k=n+1:=⟨k-1,by have:=st.pos;omega⟩;exact go_round st n 0 (by omega)
theorem around_star{b:Nat}{ts:Nat→Nat}{k:Nat}(st:Star M b ts k)(h:iat M.at_ b=ts 0):around M k b=some (starL M b ts 0 k):=around_round st.round h
theorem mem_star{b:Nat}{ts:Nat→Nat}{k:Nat}{x:Nat×Nat} : x∈starL M b ts 0 k↔∃i,i<k∧x=(ts i,(Mr.place (tat M.tris (ts i)) b).toNat):=by
 unfold starL;simp only[List.mem_map,List.mem_range'_1];constructor
 ·rintro⟨i,hi,rfl⟩
  exact⟨i,by omega,rfl⟩
 ·rintro⟨i,hi,rfl⟩
  exact⟨i,by omega,rfl⟩
theorem edge_none{a c:Int} : ∀{xs:List (Nat×Nat)},edgeOf M a c xs=none→∀x∈xs,edgeIn (tat M.tris x.1) a c=none
 | [],_,x,hx=>by cases hx
 | y::ys,h,x,hx=>by
  unfold edgeOf at h;cases hy:edgeIn (tat M.tris y.1) a c with
  | some k=>rw[hy]at h;cases h
  | none=>
   rw[hy]at h;rcases List.mem_cons.1 hx with rfl|hx
   ·exact hy
   ·exact edge_none h x hx
theorem edge_some{a c:Int}{t k:Nat} : ∀{xs:List (Nat×Nat)},edgeOf M a c xs=some (t,k)→k<3∧∃x∈xs,x.1=t
 | [],h=>by cases h
 | y::ys,h=>by
  unfold edgeOf at h;cases hy:edgeIn (tat M.tris y.1) a c with
  | some k'=>
   rw[hy]at h;simp only[Option.some.injEq,Prod.mk.injEq]at h;obtain⟨h1,rfl⟩:=h;refine⟨?_,y,by simp,h1⟩;unfold edgeIn at hy
   repeat' split at hy
   all_goals first| (cases hy;omega)|cases hy
  | none=>
   rw[hy]at h;obtain⟨h1,x,hx,h2⟩:=edge_some h;exact⟨h1,x,List.mem_cons_of_mem _ hx,h2⟩
theorem edge_in{t:Tri}{a c:Int}{j:Nat}(hj:j<3)(ha:t.v ((j+1)%3)=a)(hc:t.v ((j+2)%3)=c):edgeIn t a c≠none:=by
 have:edgeIs t a c j=true:=by unfold edgeIs;simp[ha,hc]
 unfold edgeIn;rcases(show j=0∨j=1∨j=2 by omega)with rfl|rfl|rfl
 ·rw[if_pos this];simp
 ·split
  ·simp
  ·simp
 ·split
  ·simp
  ·split
   ·simp
   ·simp
end
section
variable {c:Cfg} {S:Int→Prop} {M:Mesh} {n:Nat}
theorem find_edge(g:Good c S M n){t:Nat}{f:Nat→Nat}(hr:Real c S M t f){j:Nat}(hj:j<3) :
 ∃(v:Nat) (k:Nat) (xs:List (Nat×Nat)) (u i:Nat),max (f ((j+1)%3):Int) (f ((j+2)%3))=v∧v<M.at_.length∧around M k v=some xs∧
  edgeOf M (min (f ((j+1)%3):Int) (f ((j+2)%3))) (max (f ((j+1)%3):Int) (f ((j+2)%3))) xs=some (u,i)∧u<M.tris.length∧i<3∧(tat M.tris u).f i=false∧(min (f ((j+1)%3):Int) (f ((j+2)%3))==max (f ((j+1)%3):Int) (f ((j+2)%3)))=false:=by
 obtain⟨n1,n2,n3⟩:=real_inj g.del hr hj;have sa:=hr.s ((j+1)%3) (by omega);have sb:=hr.s ((j+2)%3) (by omega);have wa:=hr.at_ ((j+1)%3) (by omega);have wb:=hr.at_ ((j+2)%3) (by omega);obtain⟨t2,k2,e1,e2,e3,e4,e5,e6⟩:=g.del.poly.nb t hr.live j hj;generalize f ((j+1)%3)=a at *;generalize f ((j+2)%3)=b at *;obtain⟨v,hv⟩:∃v:Nat,max (a:Int) b=v:=⟨max a b,by omega⟩
 have sv:S v:=by
  rcases(show(v:Int)=a∨(v:Int)=b by omega)with e|e
  ·rw[e];exact sa
  ·rw[e];exact sb
 obtain⟨t0,h0,hh⟩:=g.at1 v sv;obtain⟨ts,k,st,hts⟩:=star g.del.poly (Kg.alt c) hh
 have hvl:v<M.at_.length:=by
  rcases g.del.nat v sv with h|⟨m,h,hm⟩
  ·omega
  ·rw[g.atl,g.del.pts];omega
 have har:=around_star st (by rw[hts];exact h0)
 have hex:∃t' j',j'<3∧M.has v t'∧(tat M.tris t').v ((j'+1)%3)=min (a:Int) b∧(tat M.tris t').v ((j'+2)%3)=max (a:Int) b:=by
  by_cases hab:(a:Int)<b
  ·refine⟨t,j,hj,⟨hr.live,(j+2)%3,by omega,by rw[wb];omega⟩,?_,?_⟩
   ·show M.w t _=_;rw[wa];omega
   ·show M.w t _=_;rw[wb];omega
  ·refine⟨t2,k2,e3,⟨e2,(k2+2)%3,by omega,by rw[e6,wa];omega⟩,?_,?_⟩
   ·show M.w t2 _=_;rw[e5,wb];omega
   ·show M.w t2 _=_;rw[e6,wa];omega
 obtain⟨t',j',hj',hh',h1,h2⟩:=hex;obtain⟨i0,hi0,hti⟩:=st.all t' hh'
 have hne:edgeOf M (min (a:Int) b) (max (a:Int) b) (starL M v ts 0 k)≠none:=fun h=>by
  have:=edge_none h _ (mem_star.2 ⟨i0,hi0,rfl⟩);rw[hti]at this;exact edge_in hj' h1 h2 this
 obtain⟨⟨u,i⟩,hui⟩:=Option.ne_none_iff_exists'.1 hne;obtain⟨hi,x,hx,hxu⟩:=edge_some hui;obtain⟨i1,hi1,rfl⟩:=mem_star.1 hx;simp only at hxu;have hl:=(st.has i1).1;rw[hxu]at hl;exact⟨v,k,_,u,i,hv,hvl,har,hui,hl.1,hi,g.plain u hl i hi,by simp;omega⟩
end
end Ao
end Go.Proofs.YtdihefgleefhmaaGreat
namespace Go.Proofs.YtdihefgleefhmaaGreat
namespace Sf
open Po
section
variable {M:Mesh}
theorem place_at(h:Surf M){t:Nat}(ht:M.live t){i:Nat}(hi:i<3){b:Int}(hb:M.w t i=b):Mr.place (tat M.tris t) b=i:=by
 obtain⟨n1,n2,n3⟩:=h.ne t ht;show(if M.w t 0=b then (0:Int) else if M.w t 1=b then 1 else if M.w t 2=b then 2 else -1)=i
 rcases(show i=0∨i=1∨i=2 by omega)with rfl|rfl|rfl
 ·rw[if_pos hb];rfl
 ·rw[if_neg (fun e=>n1 (e.trans hb.symm)),if_pos hb];rfl
 ·rw[if_neg (fun e=>n3 (hb.trans e.symm)),if_neg (fun e=>n2 (e.trans hb.symm)),if_pos hb];rfl
theorem at_place(h:Surf M){b:Int}{t:Nat}(ht:M.has b t):∃i:Nat,i<3∧Mr.place (tat M.tris t) b=i∧M.w t i=b∧M.l1 b t=M.w t ((i+1)%3)∧M.l2 b t=M.w t ((i+2)%3)∧
 M.nx b t=((tat M.tris t).n ((i+1)%3)).toNat∧M.bk b t=((tat M.tris t).n ((i+2)%3)).toNat∧nextRound M b t=(tat M.tris t).n ((i+1)%3):=by
 obtain⟨hl,i,hi,hb⟩:=ht;have hp:=place_at h hl hi hb;have e1:(((i:Int)+1)%3).toNat=(i+1)%3:=by omega
 have e2:(((i:Int)+2)%3).toNat=(i+2)%3:=by omega
 refine⟨i,hi,hp,hb,?_,?_,?_,?_,?_⟩
 ·unfold Mesh.l1;rw[hp,e1]
 ·unfold Mesh.l2;rw[hp,e2]
 ·unfold Mesh.nx nextRound;rw[hp,e1]
 ·unfold Mesh.bk;rw[hp,e2]
 ·unfold nextRound;rw[hp,e1]
theorem fw(h:Surf M){b:Int}{t:Nat}(ht:M.has b t):M.has b (M.nx b t)∧M.bk b (M.nx b t)=t∧M.l1 b (M.nx b t)=M.l2 b t∧nextRound M b t=(M.nx b t:Nat):=by
 obtain⟨i,hi,hp,hb,h1,h2,h3,h4,h5⟩:=at_place h ht;obtain⟨u,k,e1,e2,e3,e4,e5,e6⟩:=h.nb t ht.1 ((i+1)%3) (by omega);have hu:M.nx b t=u:=by rw[h3,e1];rfl
 have hb':M.w u ((k+1)%3)=b:=by rw[e5,show((i+1)%3+2)%3=i by omega,hb]
 have hh:M.has b u:=⟨e2,(k+1)%3,by omega,hb'⟩;obtain⟨i',hi',hp',hb2,g1,g2,g3,g4,g5⟩:=at_place h hh;have hi2:i'=(k+1)%3:=by have:=place_at h e2 (show(k+1)%3<3 by omega) hb';omega
 subst hi2;rw[hu];refine⟨hh,?_,?_,?_⟩
 ·rw[g4,show((k+1)%3+2)%3=k by omega,e4];rfl
 ·rw[g1,h2,show((k+1)%3+1)%3=(k+2)%3 by omega,e6,show((i+1)%3+1)%3=(i+2)%3 by omega]
 ·rw[h5,e1]
theorem un1(h:Surf M){b:Int}{t u:Nat}(ht:M.has b t)(hu:M.has b u)(e:M.l1 b t=M.l1 b u):t=u:=by
 obtain⟨i,hi,_,hb,e1,_⟩:=at_place h ht;obtain⟨k,hk,_,hb',g1,_⟩:=at_place h hu;refine(h.un t u ht.1 hu.1 ((i+2)%3) ((k+2)%3) (by omega) (by omega) ?_ ?_).1
 ·rw[show((i+2)%3+1)%3=i by omega,show((k+2)%3+1)%3=k by omega,hb,hb']
 ·rw[show((i+2)%3+2)%3=(i+1)%3 by omega,show((k+2)%3+2)%3=(k+1)%3 by omega,←e1,←g1,e]
theorem un2(h:Surf M){b:Int}{t u:Nat}(ht:M.has b t)(hu:M.has b u)(e:M.l2 b t=M.l2 b u):t=u:=by
 obtain⟨i,hi,_,hb,_,e1,_⟩:=at_place h ht;obtain⟨k,hk,_,hb',_,g1,_⟩:=at_place h hu;refine(h.un t u ht.1 hu.1 ((i+1)%3) ((k+1)%3) (by omega) (by omega) ?_ ?_).1
 ·rw[show((i+1)%3+1)%3=(i+2)%3 by omega,show((k+1)%3+1)%3=(k+2)%3 by omega,←e1,←g1,e]
 ·rw[show((i+1)%3+2)%3=i by omega,show((k+1)%3+2)%3=k by omega,hb,hb']
end
end Sf
structure Hole(c:Cfg)(S:Int→Prop)(M:Mesh)(v:Nat)(cs:List Nat)(F:Nat→Nat×Nat)(k:Nat):Prop where
 del:Del c S M
 new:New c S v
 live:∀t∈cs,M.live t
 rim:Pe.RimOk M (fun x=>x∈cs) F k
 plain:M.plain
namespace Cx
open Ki Po Pc Pe Ks
section
variable {c:Cfg} {S:Int→Prop} {M M':Mesh} {v k:Nat} {cs:List Nat} {F:Nat→Nat×Nat} {m:Nat→Nat}
theorem out_at(h:Del c S M){C:Nat→Prop}(hC:∀t,C t→M.live t){x:Nat×Nat}(hr:M.rim C x.1 x.2) :
 (tat M.tris x.1).n x.2=M.out x∧M.live (M.out x)∧¬C (M.out x)∧nidx (tat M.tris (M.out x)) x.1=M.ix x∧M.ix x<3∧(tat M.tris (M.out x)).n (M.ix x)=x.1∧M.w (M.out x) ((M.ix x+1)%3)=en M x∧M.w (M.out x) ((M.ix x+2)%3)=st M x:=by
 obtain⟨hc,hj,hn⟩:=hr;have hl:=hC _ hc;obtain⟨u,k',e1,e2,e3,e4,e5,e6⟩:=h.poly.nb x.1 hl x.2 hj;have ho:M.out x=u:=by unfold Mesh.out;rw[e1];rfl
 have hx:=nidx_at h hl e2 hj e3 e4 e5 e6;have hi:M.ix x=k':=by unfold Mesh.ix;rw[ho,hx];rfl
 rw[ho,hi];exact⟨e1,e2,hn u e1,hx,e3,e4,e5,e6⟩
theorem two(h:Hole c S M v cs F k):2≤k:=by
 have hp:=h.rim.pos;refine Classical.byContradiction fun hn=>?_
 have e:k=1:=by omega
 have h1:=h.rim.next 0;have h2:=h.rim.last 0;rw[e]at h2;rw[h2]at h1;exact Cu.w_ne (Cu.surf h.del.poly) (h.live _ (h.rim.flag 0).1) (Nat.mod_lt _ (by omega)) (Nat.mod_lt _ (by omega)) (by omega) h1
theorem fillIn(h:Hole c S M v cs F k)(hn:cs.Nodup)(hf:∀n∈M.free,n<M.tris.length∧tat M.tris n=Tri.gone)(hfn:M.free.Nodup)(hd:∀x,x<M.tris.length→(tat M.tris x).v0=-2→tat M.tris x=Tri.gone):FillIn M cs F k where
 lt t ht:=(h.live t ht).1
 nod:=hn
 e i _:=(h.rim.flag i).2.1
 out i _:=by
  obtain⟨a1,a2,a3,a4,a5,_⟩:=out_at h.del h.live (h.rim.flag i);exact⟨a1,⟨a2,a3⟩,a4,a5⟩
 plain i _:=h.plain _ (h.live _ (h.rim.flag i).1) _ (h.rim.flag i).2.1
 apart i j hi hj e1 e2:=by
  obtain⟨_,_,_,_,_,_,b1,b2⟩:=out_at h.del h.live (h.rim.flag i);obtain⟨_,_,_,_,_,_,d1,d2⟩:=out_at h.del h.live (h.rim.flag j);rw[e1,e2]at b1 b2;have:=h.del.poly.un _ _ (h.live _ (h.rim.flag i).1) (h.live _ (h.rim.flag j).1) (F i).2 (F j).2 (h.rim.flag i).2.1 (h.rim.flag j).2.1 (b2.symm.trans d2) (b1.symm.trans d1);have hF:F i=F j:=Prod.ext this.1 this.2;rcases Nat.lt_trichotomy i j with h'|h'|h'
  ·exact absurd hF (h.rim.inj i j h' hj)
  ·exact h'
  ·exact absurd hF.symm (h.rim.inj j i h' hi)
 free:=hf
 fnod:=hfn
 dead:=hd
 live t ht:=(h.live t ht)
theorem w_old(hM:Made M M' cs F k v m){x:Nat}(hx:M.kept cs x)(l:Nat):M'.w x l=M.w x l:=hM.oldv x hx l
theorem w_new(hM:Made M M' cs F k v m){i:Nat}(hi:i<k):M'.w (m i) 0=st M (F i)∧M'.w (m i) 1=en M (F i)∧M'.w (m i) 2=v:=by
 unfold Mesh.w;rw[hM.tri i hi];exact⟨rfl,rfl,rfl⟩
theorem live_iff(h:Hole c S M v cs F k)(hM:Made M M' cs F k v m)(x:Nat):M'.live x↔M.kept cs x∨∃i,i<k∧x=m i:=by
 constructor
 ·rintro⟨hl,hv⟩
  rcases hM.rest x hl with h'|h'|h'
  ·exact .inl h'
  ·exact .inr h'
  ·rw[h']at hv;exact absurd rfl hv
 ·rintro(hx|⟨i,hi,rfl⟩)
  ·refine⟨hM.oldl x hx,?_⟩
   have:(tat M'.tris x).v0=(tat M.tris x).v0:=hM.oldv x hx 0;rw[this];exact hx.1.2
  ·refine⟨(hM.nk i hi).2,?_⟩
   have:(tat M'.tris (m i)).v0=st M (F i):=(w_new hM hi).1;rw[this];exact Kt.not_m2 h.del (h.del.poly.vs _ (h.live _ (h.rim.flag i).1) _ (Nat.mod_lt _ (by omega)))
theorem rim_in(h:Hole c S M v cs F k){i j:Nat}(hi:i<k)(hj:j<k)(e:F i=F j):i=j:=by
 rcases Nat.lt_trichotomy i j with h'|h'|h'
 ·exact absurd e (h.rim.inj i j h' hj)
 ·exact h'
 ·exact absurd e.symm (h.rim.inj j i h' hi)
theorem F_mod(h:Hole c S M v cs F k){i:Nat}(hi:i<k):st M (F ((i+1)%k))=en M (F i):=by
 have hk:=h.rim.pos;rw[←h.rim.next i];by_cases e:i+1=k
 ·rw[e,Nat.mod_self]
  have:=h.rim.last 0;rw[Nat.zero_add]at this;rw[this]
 ·rw[Nat.mod_eq_of_lt (by omega)]
theorem nb_old(h:Hole c S M v cs F k)(hM:Made M M' cs F k v m){t:Nat}(ht:M.kept cs t){j:Nat}(hj:j<3):∃u l:Nat,(tat M'.tris t).n j=u∧M'.live u∧l<3∧(tat M'.tris u).n l=t∧M'.w u ((l+1)%3)=M'.w t ((j+2)%3)∧M'.w u ((l+2)%3)=M'.w t ((j+1)%3):=by
 obtain⟨u,l,e1,e2,e3,e4,e5,e6⟩:=h.del.poly.nb t ht.1 j hj;by_cases hu:u∈cs
 ·have hr:M.rim (fun x=>x∈cs) u l:=⟨hu,e3,fun y hy hc=>by
   rw[e4]at hy;have:y=t:=by omega
   exact ht.2 (this▸hc)⟩
  obtain⟨i,hi,hF⟩:=h.rim.all u l hr;obtain⟨o1,o2,o3,o4,o5,o6,o7,o8⟩:=out_at h.del h.live (h.rim.flag i);rw[hF]at o1 o2 o3 o4 o5 o6 o7 o8
  have ho:M.out (u,l)=t:=by
   simp only[e4]at o1;omega
  have hi':M.ix (u,l)=j:=by
   have q:=nidx_at h.del (t:=u) (u:=t) e2 ht.1 (j:=l) (k:=j) e3 hj e1 e6.symm e5.symm;rw[ho]at o4;simp only at o4;omega
  have hn:=hM.new i hi;rw[hF,ho,hi']at hn;obtain⟨w0,w1,w2⟩:=w_new hM hi;refine⟨m i,2,hn,(live_iff h hM _).2 (.inr ⟨i,hi,rfl⟩),by omega,?_,?_,?_⟩
  ·rw[hM.tri i hi,hF,ho];rfl
  ·show M'.w (m i) 0=_
   rw[w0,w_old hM ht,hF];exact e5
  ·show M'.w (m i) 1=_
   rw[w1,w_old hM ht,hF];exact e6
 ·have hku:M.kept cs u:=⟨e2,hu⟩
  have n1:(tat M'.tris t).n j=u:=by
   rw[hM.oldn t ht j hj (fun i hi he=>?_)]
   ·exact e1
   ·obtain⟨o1,o2,o3,o4,o5,o6,o7,o8⟩:=out_at h.del h.live (h.rim.flag i)
    rw[he.1,he.2,e1]at o6;have:u=(F i).1:=by omega
    exact hu (this▸(h.rim.flag i).1)
  have n2:(tat M'.tris u).n l=t:=by
   rw[hM.oldn u hku l e3 (fun i hi he=>?_)]
   ·exact e4
   ·obtain⟨o1,o2,o3,o4,o5,o6,o7,o8⟩:=out_at h.del h.live (h.rim.flag i)
    rw[he.1,he.2,e4]at o6;have:t=(F i).1:=by omega
    exact ht.2 (this▸(h.rim.flag i).1)
  refine⟨u,l,n1,(live_iff h hM _).2 (.inl hku),e3,n2,?_,?_⟩
  ·rw[w_old hM hku,w_old hM ht];exact e5
  ·rw[w_old hM hku,w_old hM ht];exact e6
theorem nb_new(h:Hole c S M v cs F k)(hM:Made M M' cs F k v m){i:Nat}(hi:i<k){j:Nat}(hj:j<3):∃u l:Nat,(tat M'.tris (m i)).n j=u∧M'.live u∧l<3∧(tat M'.tris u).n l=m i∧M'.w u ((l+1)%3)=M'.w (m i) ((j+2)%3)∧M'.w u ((l+2)%3)=M'.w (m i) ((j+1)%3):=by
 have h2:=two h;obtain⟨w0,w1,w2⟩:=w_new hM hi;obtain⟨b1,b2,b3⟩:=Kr.back_mod h2 hi;have hf:(i+1)%k<k:=Nat.mod_lt _ (by omega);rcases(show j=0∨j=1∨j=2 by omega)with rfl|rfl|rfl
 ·obtain⟨x0,x1,x2⟩:=w_new hM hf
  refine⟨m ((i+1)%k),1,by rw[hM.tri i hi];rfl,(live_iff h hM _).2 (.inr ⟨_,hf,rfl⟩),by omega,?_,?_,?_⟩
  ·rw[hM.tri _ hf]
   show((m (((i+1)%k+k-1)%k):Nat):Int)=m i
   have:=(Kr.back_mod h2 hf).2.2 i hi;rw[←this.1 rfl]
  ·show M'.w (m ((i+1)%k)) 2=M'.w (m i) 2
   rw[x2,w2]
  ·show M'.w (m ((i+1)%k)) 0=M'.w (m i) 1
   rw[x0,w1];exact F_mod h hi
 ·obtain⟨x0,x1,x2⟩:=w_new hM b1
  refine⟨m ((i+k-1)%k),0,by rw[hM.tri i hi];rfl,(live_iff h hM _).2 (.inr ⟨_,b1,rfl⟩),by omega,?_,?_,?_⟩
  ·rw[hM.tri _ b1]
   show((m (((i+k-1)%k+1)%k):Nat):Int)=m i
   rw[b2]
  ·show M'.w (m ((i+k-1)%k)) 1=M'.w (m i) 0
   rw[x1,w0,←F_mod h b1,b2]
  ·show M'.w (m ((i+k-1)%k)) 2=M'.w (m i) 2
   rw[x2,w2]
 ·obtain⟨o1,o2,o3,o4,o5,o6,o7,o8⟩:=out_at h.del h.live (h.rim.flag i)
  have hk:M.kept cs (M.out (F i)):=⟨o2,o3⟩;refine⟨M.out (F i),M.ix (F i),by rw[hM.tri i hi];rfl,(live_iff h hM _).2 (.inl hk),o5,hM.new i hi,?_,?_⟩
  ·rw[w_old hM hk,o7]
   exact w1.symm
  ·rw[w_old hM hk,o8]
   exact w0.symm
theorem edge_new(hM:Made M M' cs F k v m){i:Nat}(hi:i<k){j:Nat}(hj:j<3):(j=0∧M'.w (m i) ((j+1)%3)=en M (F i)∧M'.w (m i) ((j+2)%3)=v)∨(j=1∧M'.w (m i) ((j+1)%3)=v∧M'.w (m i) ((j+2)%3)=st M (F i))∨(j=2∧M'.w (m i) ((j+1)%3)=st M (F i)∧M'.w (m i) ((j+2)%3)=en M (F i)):=by
 obtain⟨w0,w1,w2⟩:=w_new hM hi;rcases(show j=0∨j=1∨j=2 by omega)with rfl|rfl|rfl
 ·exact .inl ⟨rfl,w1,w2⟩
 ·exact .inr (.inl ⟨rfl,w2,w0⟩)
 ·exact .inr (.inr ⟨rfl,w0,w1⟩)
theorem un_mixed(h:Hole c S M v cs F k)(hM:Made M M' cs F k v m){t:Nat}(ht:M.kept cs t){i:Nat}(hi:i<k){j l:Nat}(hj:j<3)(hl:l<3)(e1:M'.w t ((j+1)%3)=M'.w (m i) ((l+1)%3))(e2:M'.w t ((j+2)%3)=M'.w (m i) ((l+2)%3)):False:=by
 rw[w_old hM ht]at e1 e2;have s1:=h.del.poly.vs t ht.1 ((j+1)%3) (by omega);have s2:=h.del.poly.vs t ht.1 ((j+2)%3) (by omega);rcases edge_new hM hi hl with⟨_,a,b⟩|⟨_,a,b⟩|⟨_,a,b⟩
 ·rw[e2,b]at s2;exact h.new.new s2
 ·rw[e1,a]at s1;exact h.new.new s1
 ·rw[a]at e1
  rw[b]at e2;have:=(h.del.poly.un t (F i).1 ht.1 (h.live _ (h.rim.flag i).1) j (F i).2 hj (h.rim.flag i).2.1 e1 e2).1;exact ht.2 (this▸(h.rim.flag i).1)
theorem st_S(h:Hole c S M v cs F k)(i:Nat):S (st M (F i))∧S (en M (F i))∧st M (F i)≠en M (F i):=by
 have hl:=h.live _ (h.rim.flag i).1;exact⟨h.del.poly.vs _ hl _ (Nat.mod_lt _ (by omega)),h.del.poly.vs _ hl _ (Nat.mod_lt _ (by omega)),Cu.w_ne (Cu.surf h.del.poly) hl (Nat.mod_lt _ (by omega)) (Nat.mod_lt _ (by omega)) (by omega)⟩
theorem en_inj(h:Hole c S M v cs F k)(hs:∀i j,i<k→j<k→st M (F i)=st M (F j)→i=j){i j:Nat}(hi:i<k)(hj:j<k)(e:en M (F i)=en M (F j)):i=j:=by
 rw[←F_mod h hi,←F_mod h hj]at e;have h1:(i+1)%k=(j+1)%k:=hs _ _ (Nat.mod_lt _ (by omega)) (Nat.mod_lt _ (by omega)) e;have hk:=two h;obtain⟨b1,b2,b3⟩:=Kr.back_mod hk (Nat.mod_lt (i+1) (show 0<k by omega));have g1:=(b3 i hi).1 rfl;have g2:=(b3 j hj).1 h1.symm;omega
theorem surf'(h:Hole c S M v cs F k)(hM:Made M M' cs F k v m)(hs:∀i j,i<k→j<k→st M (F i)=st M (F j)→i=j):Surf M' where
 ne t ht:=by
  rcases(live_iff h hM t).1 ht with hk|⟨i,hi,rfl⟩
  · rw[w_old hM hk,w_old hM hk,w_old hM hk]
    exact h.del.poly.ne t hk.1
  · obtain⟨w0,w1,w2⟩:=w_new hM hi
    obtain⟨s1,s2,s3⟩:=st_S h i;rw[w0,w1,w2];exact⟨s3,fun e=>h.new.new (e▸s2),fun e=>h.new.new (e▸s1)⟩
 nb t ht j hj:=by
  rcases(live_iff h hM t).1 ht with hk|⟨i,hi,rfl⟩
  · exact nb_old h hM hk hj
  · exact nb_new h hM hi hj
 un t u ht hu j l hj hl e1 e2:=by
  rcases(live_iff h hM t).1 ht with hk|⟨i,hi,rfl⟩<;>rcases(live_iff h hM u).1 hu with hk'|⟨i',hi',rfl⟩
  · rw[w_old hM hk,w_old hM hk']at e1 e2
    exact h.del.poly.un t u hk.1 hk'.1 j l hj hl e1 e2
  · exact(un_mixed h hM hk hi' hj hl e1 e2).elim
  · exact(un_mixed h hM hk' hi hl hj e1.symm e2.symm).elim
  · obtain⟨s1,s2,s3⟩:=st_S h i
    obtain⟨r1,r2,r3⟩:=st_S h i';have n1:st M (F i)≠(v:Int):=fun e=>h.new.new (e▸s1)
    have n2:en M (F i)≠(v:Int):=fun e=>h.new.new (e▸s2)
    have n3:st M (F i')≠(v:Int):=fun e=>h.new.new (e▸r1)
    have n4:en M (F i')≠(v:Int):=fun e=>h.new.new (e▸r2)
    rcases edge_new hM hi hj with⟨a0,a,b⟩|⟨a0,a,b⟩|⟨a0,a,b⟩<;>rcases edge_new hM hi' hl with⟨c0,a',b'⟩|⟨c0,a',b'⟩|⟨c0,a',b'⟩<;>rw[a,a']at e1<;>rw[b,b']at e2
    · obtain rfl:=en_inj h hs hi hi' e1
      exact⟨rfl,by omega⟩
    · exact absurd e1 n2
    · exact absurd e2.symm n4
    · exact absurd e1.symm n4
    · obtain rfl:=hs i i' hi hi' e2
      exact⟨rfl,by omega⟩
    · exact absurd e1.symm n3
    · exact absurd e2 n2
    · exact absurd e1 n1
    · obtain rfl:=hs i i' hi hi' e1
      exact⟨rfl,by omega⟩
theorem nx_old(h:Hole c S M v cs F k)(hM:Made M M' cs F k v m){t:Nat}(ht:M.kept cs t){j:Nat}(hj:j<3):∃u:Nat,(tat M.tris t).n j=u∧M.live u∧((u ∉ cs∧(tat M'.tris t).n j=u)∨∃i,i<k∧(F i).1=u∧st M (F i)=M.w t ((j+2)%3)∧(tat M'.tris t).n j=(m i:Nat)):=by
 obtain⟨u,l,e1,e2,e3,e4,e5,e6⟩:=h.del.poly.nb t ht.1 j hj;refine⟨u,e1,e2,?_⟩;by_cases hu:u∈cs
 · have hr:M.rim (fun x=>x∈cs) u l:=⟨hu,e3,fun y hy hc=>by
    rw[e4]at hy;have:y=t:=by omega
    exact ht.2 (this▸hc)⟩
   obtain⟨i,hi,hF⟩:=h.rim.all u l hr;obtain⟨o1,o2,o3,o4,o5,o6,o7,o8⟩:=out_at h.del h.live (h.rim.flag i);rw[hF]at o1 o2 o3 o4 o5 o6 o7 o8
   have ho:M.out (u,l)=t:=by
    simp only[e4]at o1;omega
   have hi':M.ix (u,l)=j:=by
    have q:=nidx_at h.del (t:=u) (u:=t) e2 ht.1 (j:=l) (k:=j) e3 hj e1 e6.symm e5.symm;rw[ho]at o4;simp only at o4;omega
   have hn:=hM.new i hi;rw[hF,ho,hi']at hn;exact .inr ⟨i,hi,by rw[hF],by rw[hF];exact e5,hn⟩
 · refine .inl ⟨hu,?_⟩
   rw[hM.oldn t ht j hj (fun i hi he=>?_)]
   · exact e1
   · obtain⟨o1,o2,o3,o4,o5,o6,o7,o8⟩:=out_at h.del h.live (h.rim.flag i)
     rw[he.1,he.2,e1]at o6;have:u=(F i).1:=by omega
     exact hu (this▸(h.rim.flag i).1)
theorem iter_add(f:Nat→Nat)(x:Nat)(a:Nat):∀b,iter f x (a+b)=iter f (iter f x a) b
 | 0=>rfl
 | b+1=>by
   show f (iter f x (a+b))=f _
   rw[iter_add f x a b]
theorem reach(h:Hole c S M v cs F k)(hM:Made M M' cs F k v m)(hs:∀i j,i<k→j<k→st M (F i)=st M (F j)→i=j){b:Int}{i0:Nat}(hi0:i0<k)(hb:st M (F i0)=b){y:Nat}(hy:M.kept cs y)(hyb:M.has b y):∃n,iter (M'.nx b) y n=m i0:=by
 obtain⟨ts,K,hst,h0⟩:=star h.del.poly (Kg.alt c) hyb;have hF1:M.has b (F i0).1:=⟨h.live _ (h.rim.flag i0).1,((F i0).2+1)%3,Nat.mod_lt _ (by omega),hb⟩;obtain⟨j,hj,hjt⟩:=hst.all _ hF1;have hjc:ts j∈cs:=by rw[hjt];exact(h.rim.flag i0).1
 have hj0:0<j:=by
  rcases Nat.eq_zero_or_pos j with rfl|h'
  · rw[h0]at hjc;exact absurd hjc hy.2
  · exact h'
 obtain⟨q,q0,qj,hq,hql⟩:=least (fun x=>ts x∈cs) j hj0 hjc
 have hkept:∀x,x<q→M.kept cs (ts x):=fun x hx=>⟨(hst.has x).1,fun hc=>by
  rcases Nat.eq_zero_or_pos x with rfl|h'
  · rw[h0]at hc;exact hy.2 hc
  · exact hql x h' hx hc⟩
 have one:∀x,x<q→M'.nx b (ts x)=if x+1=q then m i0 else ts (x+1):=fun x hx=>by
  obtain⟨p,hp,_,pb,g1,g2,g3,_,g5⟩:=at_place h.del.poly (hst.has x);obtain⟨u,e1,e2,hcase⟩:=nx_old h hM (hkept x hx) (j:=(p+1)%3) (by omega);have hu:ts (x+1)=u:=by rw[hst.step x,g3,e1];rfl
  have hh':M'.has b (ts x):=⟨(live_iff h hM _).2 (.inl (hkept x hx)),p,hp,by rw[w_old hM (hkept x hx)];exact pb⟩;obtain⟨p',hp',_,pb',_,_,r3,_⟩:=Sf.at_place (surf' h hM hs) hh'
  have hpp:p'=p:=by
   refine Classical.byContradiction fun hne=>?_
   rw[w_old hM (hkept x hx)]at pb';exact Cu.w_ne (Cu.surf h.del.poly) (hkept x hx).1 hp' hp hne (pb'.trans pb.symm)
  subst hpp;rw[r3];rcases hcase with⟨hn,e⟩|⟨i,hi,hF,hsF,e⟩
  · rw[e]
    have:x+1≠q:=fun hq'=>hn (by rw[←hu,hq'];exact hq)
    rw[if_neg this,hu];rfl
  · rw[e]
    have hq':x+1=q:=by
     rcases Nat.lt_or_ge (x+1) q with h'|h'
     · exact absurd (by rw[hu,←hF];exact(h.rim.flag i).1) (hkept (x+1) h').2
     · omega
    rw[if_pos hq'];have:st M (F i)=b:=by rw[hsF,show((p'+1)%3+2)%3=p' by omega];exact pb
    rw[hs i i0 hi hi0 (this.trans hb.symm)];rfl
 have go:∀x,x<q→iter (M'.nx b) y x=ts x:=fun x=>by
  induction x with
  | zero=>intro _;exact h0.symm
  | succ x ih=>
    intro hx;show M'.nx b (iter (M'.nx b) y x)=_
    rw[ih (by omega),one x (by omega),if_neg (by omega)]
 refine⟨q,?_⟩;obtain⟨z,rfl⟩:∃z,q=z+1:=⟨q-1,by omega⟩;show M'.nx b (iter (M'.nx b) y z)=_
 rw[go z (by omega),one z (by omega),if_pos rfl]
theorem star'(h:Hole c S M v cs F k)(hM:Made M M' cs F k v m)(hs:∀i j,i<k→j<k→st M (F i)=st M (F j)→i=j)(hv:∀t∈cs,∀j,j<3→∃i,i<k∧st M (F i)=M.w t j){b:Int}(hb:S b){t:Nat}(ht:M'.has b t):∃ts K,Star M' b ts K∧ts 0=t:=by
 have hS:=surf' h hM hs;have hbv:b≠(v:Int):=fun e=>h.new.new (e▸hb)
 obtain⟨K,k0,kN,hk,hi,hX⟩:=period (M'.nx b) (M'.bk b) t M'.tris.length (M'.has b) ht (fun y hy=>⟨(Sf.fw hS hy).1,(Sf.fw hS hy).2.1⟩) fun y hy=>hy.1.1
 have hlk:∀n,M'.l1 b (iter (M'.nx b) t (n+1))=M'.l2 b (iter (M'.nx b) t n):=fun n=>(Sf.fw hS (hX n)).2.2.1
 have hper:∀n,∃i,i<K∧iter (M'.nx b) t i=iter (M'.nx b) t n:=by
  intro n
  induction n using Nat.strongRecOn with
  | _ n ih=>
    rcases Nat.lt_or_ge n K with h'|h'
    · exact⟨n,h',rfl⟩
    · obtain⟨i,hi1,hi2⟩:=ih (n-K) (by omega)
      refine⟨i,hi1,?_⟩;rw[hi2];have:iter (M'.nx b) t n=iter (M'.nx b) (iter (M'.nx b) t K) (n-K):=by rw[←iter_add,show K+(n-K)=n by omega]
      rw[this,hk]
 have meet:∀(y z:Nat),M'.has b y→(∃n,iter (M'.nx b) t n=z)→(∃n,iter (M'.nx b) y n=z)→∃i,i<K∧iter (M'.nx b) t i=y:=by
  intro y z hy ⟨a,ha⟩ ⟨n,hn⟩
  have back:∀n y a,M'.has b y→iter (M'.nx b) t a=iter (M'.nx b) y n→∃a',iter (M'.nx b) t a'=y:=by
   intro n
   induction n with
   | zero=>exact fun y a _ e=>⟨a,e⟩
   | succ n ih=>
     intro y a hy e
     have hyn:∀n,M'.has b (iter (M'.nx b) y n):=fun n=>by
      induction n with
      | zero=>exact hy
      | succ n ih=>exact(Sf.fw hS ih).1
     have e1:M'.nx b (iter (M'.nx b) y n)=iter (M'.nx b) t a:=e.symm
     have e2:M'.bk b (iter (M'.nx b) t (a+K))=iter (M'.nx b) t (a+K-1):=by
      obtain⟨d,hd⟩:∃d,a+K=d+1:=⟨a+K-1,by omega⟩;rw[hd,Nat.add_sub_cancel];exact(Sf.fw hS (hX d)).2.1
     have e3:iter (M'.nx b) t (a+K)=iter (M'.nx b) t a:=by
      rw[Nat.add_comm,iter_add,hk]
     have e4:=(Sf.fw hS (hyn n)).2.1;rw[e1,←e3,e2]at e4;exact ih y _ hy e4
  obtain⟨a',ha'⟩:=back n y a hy (ha.trans hn.symm);obtain⟨i,h1,h2⟩:=hper a';exact⟨i,h1,h2.trans ha'⟩
 have hall:∀y,M'.has b y→∃i,i<K∧iter (M'.nx b) t i=y:=by
  by_cases hc:∃i0,i0<k∧st M (F i0)=b
  · obtain⟨i0,hi0,hb0⟩:=hc
    have every:∀y,M'.has b y→∃n,iter (M'.nx b) y n=m i0:=fun y hy=>by
     rcases(live_iff h hM y).1 hy.1 with hk'|⟨i,hi',rfl⟩
     · exact reach h hM hs hi0 hb0 hk' ⟨hk'.1,by
        obtain⟨_,j,hj,e⟩:=hy;rw[w_old hM hk']at e;exact⟨j,hj,e⟩⟩
     · obtain⟨w0,w1,w2⟩:=w_new hM hi'
       by_cases hst:st M (F i)=b
       · exact⟨0,by rw[hs i i0 hi' hi0 (hst.trans hb0.symm)];rfl⟩
       · have hen:en M (F i)=b:=by
          obtain⟨_,j,hj,e⟩:=hy;rcases(show j=0∨j=1∨j=2 by omega)with rfl|rfl|rfl
          · exact absurd (w0.symm.trans e) hst
          · exact w1.symm.trans e
          · exact absurd (w2.symm.trans e).symm hbv
         obtain⟨o1,o2,o3,o4,o5,o6,o7,o8⟩:=out_at h.del h.live (h.rim.flag i);have hko:M.kept cs (M.out (F i)):=⟨o2,o3⟩;obtain⟨n,hn⟩:=reach h hM hs hi0 hb0 hko ⟨o2,_,Nat.mod_lt _ (by omega),o7.trans hen⟩;obtain⟨p,hp,_,pb,_,_,r3,_⟩:=Sf.at_place hS hy
         have hp1:p=1:=by
          rcases(show p=0∨p=1∨p=2 by omega)with rfl|rfl|rfl
          · exact absurd (w0.symm.trans pb) hst
          · rfl
          · exact absurd (w2.symm.trans pb).symm hbv
         subst hp1
         have hnx:M'.nx b (m i)=M.out (F i):=by
          rw[r3,hM.tri i hi'];rfl
         refine⟨1+n,?_⟩;rw[iter_add];show iter _ (M'.nx b (m i)) n=_
         rw[hnx];exact hn
    exact fun y hy=>meet y (m i0) hy (every t ht) (every y hy)
  ·
    have hkept:∀y,M'.has b y→M.kept cs y∧M.has b y:=fun y hy=>by
     rcases(live_iff h hM y).1 hy.1 with hk'|⟨i,hi',rfl⟩
     · refine⟨hk',hk'.1,?_⟩
       obtain⟨_,j,hj,e⟩:=hy;rw[w_old hM hk']at e;exact⟨j,hj,e⟩
     · exfalso
       obtain⟨w0,w1,w2⟩:=w_new hM hi';obtain⟨_,j,hj,e⟩:=hy;rcases(show j=0∨j=1∨j=2 by omega)with rfl|rfl|rfl
       · exact hc ⟨i,hi',w0.symm.trans e⟩
       · exact hc ⟨(i+1)%k,Nat.mod_lt _ (by omega),by rw[F_mod h hi'];exact w1.symm.trans e⟩
       · exact hbv (w2.symm.trans e).symm
    obtain⟨ts,K',hst,h0⟩:=star h.del.poly (Kg.alt c) (hkept t ht).2
    have hkt:∀x,M.kept cs (ts x):=fun x=>⟨(hst.has x).1,fun hin=>by
     obtain⟨_,j,hj,e⟩:=hst.has x;obtain⟨i,hi',e'⟩:=hv _ hin j hj;exact hc ⟨i,hi',e'.trans e⟩⟩
    have one:∀x,M'.nx b (ts x)=ts (x+1):=fun x=>by
     obtain⟨p,hp,_,pb,g1,g2,g3,_,g5⟩:=at_place h.del.poly (hst.has x);obtain⟨u,e1,e2,hcase⟩:=nx_old h hM (hkt x) (j:=(p+1)%3) (by omega);have hu:ts (x+1)=u:=by rw[hst.step x,g3,e1];rfl
     have hh':M'.has b (ts x):=⟨(live_iff h hM _).2 (.inl (hkt x)),p,hp,by rw[w_old hM (hkt x)];exact pb⟩;obtain⟨p',hp',_,pb',_,_,r3,_⟩:=Sf.at_place hS hh'
     have hpp:p'=p:=by
      refine Classical.byContradiction fun hne=>?_
      rw[w_old hM (hkt x)]at pb';exact Cu.w_ne (Cu.surf h.del.poly) (hkt x).1 hp' hp hne (pb'.trans pb.symm)
     subst hpp;rw[r3];rcases hcase with⟨hn,e⟩|⟨i,hi,hF,hsF,e⟩
     · rw[e,hu];rfl
     · exact absurd (by rw[hu,←hF];exact(h.rim.flag i).1) (hkt (x+1)).2
    have go:∀x,iter (M'.nx b) t x=ts x:=fun x=>by
     induction x with
     | zero=>exact h0.symm
     | succ x ih=>
       show M'.nx b (iter (M'.nx b) t x)=_
       rw[ih,one]
    intro y hy;obtain⟨x,_,hx⟩:=hst.all y (hkept y hy).2;obtain⟨i,h1,h2⟩:=hper x;exact⟨i,h1,h2.trans ((go x).trans hx)⟩
 refine⟨iter (M'.nx b) t,K,⟨⟨k0,kN,fun i _=>(hX i).1.1,fun i _=>?_,fun i _=>(Sf.fw hS (hX i)).2.2.2,hk,fun i h0 hk'=>fun e=>hi 0 i h0 hk' e.symm⟩,hX,hlk,fun _=>rfl,hi,hall⟩,rfl⟩;obtain⟨j,_,hp,_⟩:=Sf.at_place hS (hX i);rw[hp];omega
end
end Cx
end Go.Proofs.YtdihefgleefhmaaGreat
