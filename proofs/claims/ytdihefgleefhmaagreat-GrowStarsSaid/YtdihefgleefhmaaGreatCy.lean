import Derived.Test.YtdihefgleefhmaaGreatAo
namespace Go.Proofs.YtdihefgleefhmaaGreat
namespace Cy
open Ki Po Pc Pe Cu Cv
section
variable {c:Cfg} {S:Int→Prop} {M:Mesh} {v n:Nat}
theorem bare_rim{C:Nat→Prop}{F:Nat→Nat×Nat}{k:Nat}(r:RimOk M C F k):RimOk M.bare C F k where
 pos:=r.pos
 flag i:=by
  obtain⟨h1,h2,h3⟩:=r.flag i;exact⟨h1,h2,fun u e=>h3 u (by rw[←bare_n];exact e)⟩
 next i:=by rw[(bare_st M _).1,(bare_st M _).2];exact r.next i
 last:=r.last
 inj:=r.inj
 all t j h:=by
  obtain⟨h1,h2,h3⟩:=h;exact r.all t j ⟨h1,h2,fun u e=>h3 u (by rw[bare_n];exact e)⟩
theorem dug(hc:c.Ok)(g:Good c S M.bare n)(hv:New c S v)(P:List Nat)(hP:P.Nodup)(hS:∀x:Nat,S x↔x∈P)(q:Place)(hst:Dq.Taken M (digStart M q))(hsv:∀t∈digStart M q,M.bare.vis c.D v t)(hne:digStart M q≠[])(hsg:Grown M (digStart M q)) :
 ∃F k,Hole c S M.bare v (dig M (pat c.pts v) q).tris F k∧(dig M (pat c.pts v) q).tris.Nodup∧k=(dig M (pat c.pts v) q).tris.length+2∧(dig M (pat c.pts v) q).rim.length=k∧(∀i,i<k→(dig M (pat c.pts v) q).rim.getD i Side.zero=sd M (F i))∧
  (∀i j,i<k→j<k→st M (F i)=st M (F j)→i=j)∧(∀t∈(dig M (pat c.pts v) q).tris,∀j,j<3→∃i,i<k∧st M (F i)=M.w t j)∧∀t∈(dig M (pat c.pts v) q).tris,conflict M (tat M.tris t) (pat c.pts v)=true:=by
 obtain⟨L,r,hconf,htk,hpre⟩:=cut hc g hv P hP hS q hst hsv hne hsg;obtain⟨X,hX⟩:∃X,digGo M (pat c.pts v) (M.tris.length+1) 0 (digStart M q)=X:=⟨_,rfl⟩;rw[hX]at r hconf htk hpre;obtain⟨cs,hcs⟩:∃l,isort X=l:=⟨_,rfl⟩;have htr:(dig M (pat c.pts v) q).tris=cs:=by rw[←hcs,←hX];rfl
 have hm:∀x,x∈cs↔x∈X:=fun x=>by rw[←hcs];exact Dq.isort_mem X x
 have htc:Dq.Taken M cs:=hcs▸htk.sort
 have hfl:∀x,x∈flags M cs cs↔x∈L:=fun x=>by
  rw[mem_flags,r.mem,hm,hm];rfl
 have hfn:=nodup_flags (M:=M) cs cs htc.nodup;have hsn:((flags M cs cs).map (st M)).Nodup:=Kv.map_nodup _ hfn fun x hx y hy e=>st_inj r.nd ((hfl x).1 hx) ((hfl y).1 hy) e
 have hr:digRims M (pat c.pts v) cs=(flags M cs cs).foldl (fun r x=>r.with M (pat c.pts v) (sd M x)) ⟨[],M.pts.length,false⟩:=rimAll_flags cs cs _
 have hb:(digRims M (pat c.pts v) cs).begins=(flags M cs cs).map fun x=>(st M x,sd M x):=by
  rw[hr,fold_begins _ _ (by simpa using hsn)];rfl
 obtain⟨k1,k2,k3⟩:=fold_least (M:=M) (pt:=pat c.pts v) (flags M cs cs) ⟨[],M.pts.length,false⟩;rw[←hr]at k1 k2 k3;have hsane:=bare_sane (Kv.sane g.del);have hk0:0<L.length:=by rw[r.len];omega
 have hlt:∀x∈flags M cs cs,st M x<M.pts.length:=fun x hx=>by
  have hx1:=(r.mem x).1 ((hfl x).1 hx);by_cases e:st M x=-1
  ·rw[e];omega
  ·exact(hsane.vs _ (r.live _ hx1.1) _ (Nat.mod_lt _ (by omega)) e).2
 have hex:∃x∈flags M cs cs,(digRims M (pat c.pts v) cs).least=st M x:=by
  rcases k3 with k3|k3
  ·have hx:=(hfl L[0]).2 (List.getElem_mem hk0)
   have h1:=k2 _ hx;have h2:=hlt _ hx;rw[k3]at h1;simp only at h1;omega
  ·exact k3
 obtain⟨x0,hx0,hle⟩:=hex;obtain⟨F,hF0,hFm,hFn,hFk,hFi,hFa⟩:=rim_fn r ((hfl x0).1 hx0);have hlen:(flags M cs cs).length=L.length:=((List.perm_ext_iff_of_nodup hfn (nodup_of r.nd)).2 hfl).length_eq
 have hR:RimOk M (fun x=>x∈cs) F L.length:=⟨hk0,fun i=>by
  obtain⟨a1,a2,a3⟩:=(r.mem _).1 (hFm i);refine⟨(hm _).2 a1,a2,fun u e hu=>a3 ?_⟩;have:M.out (F i)=u:=by unfold Mesh.out;rw[e];rfl
  rw[this];exact(hm u).1 hu,hFn,hFk,hFi,fun t j h=>by
  obtain⟨a1,a2,a3⟩:=h
  have hin:((t,j):Nat×Nat)∈L:=by
   refine(r.mem _).2 ⟨(hm t).1 a1,a2,fun hu=>?_⟩;obtain⟨u,e,_⟩:=hsane.nb t (r.live t ((hm t).1 a1)) j a2;refine a3 u e ((hm u).2 ?_);have:M.out (t,j)=u:=by unfold Mesh.out;rw[e];rfl
   rw[←this];exact hu
  obtain⟨i,hi,e⟩:=hFa _ hin;exact⟨i,hi,e⟩⟩
 have hget:∀i,mget Side.zero (st M (F i)) ((flags M cs cs).map fun x=>(st M x,sd M x))=sd M (F i):=fun i=>by
  obtain⟨j,hj,e⟩:=List.getElem_of_mem ((hfl _).2 (hFm i));refine Mp.get_at _ _ _ _ j (by rw[List.map_map];exact hsn) ?_;rw[List.getElem?_map,List.getElem?_eq_getElem hj,e];rfl
 have hrim:(dig M (pat c.pts v) q).rim=(List.range L.length).map fun j=>sd M (F (0+j)):=by
  have e0:(dig M (pat c.pts v) q).rim=rimGo (digRims M (pat c.pts v) cs).begins (digRims M (pat c.pts v) cs).begins.length (digRims M (pat c.pts v) cs).least:=by
   rw[←hcs,←hX];rfl
  rw[e0,hb,hle,List.length_map,hlen,←hF0];exact go_flags hget hFn L.length 0
 rw[htr,hrim];refine⟨F,L.length,⟨g.del,hv,fun t ht=>(bare_live M t).2 (htc.live t ht),bare_rim hR,g.plain⟩,htc.nodup,?_,by simp,fun i hi=>?_,fun i j hi hj e=>?_,fun t ht j hj=>?_,fun t ht=>hconf t ((hm t).1 ht)⟩
 ·have hp:cs.Perm X:=(List.perm_ext_iff_of_nodup htc.nodup r.nod).2 hm
  rw[r.len,hp.length_eq]
 ·rw[List.getD_eq_getElem?_getD,List.getElem?_map,List.getElem?_range hi]
  simp
 ·have he:=st_inj r.nd (hFm i) (hFm j) e
  rcases Nat.lt_trichotomy i j with h'|h'|h'
  ·exact absurd he (hFi i j h' hj)
  ·exact h'
  ·exact absurd he.symm (hFi j i h' hi)
 ·have:=(r.vs (M.w t j)).2 ⟨t,(hm t).1 ht,j,hj,rfl⟩
  obtain⟨x,hx,e⟩:=List.mem_map.1 this;obtain⟨i,hi,hFx⟩:=hFa x hx;exact⟨i,hi,by rw[hFx];exact e⟩
end
end Cy
end Go.Proofs.YtdihefgleefhmaaGreat
namespace Go.Proofs.YtdihefgleefhmaaGreat
namespace Cz
open Pe Cu Cv
theorem bt_setN(T:Tri)(i:Nat)(x:Int):bareT (T.setN i x)=(bareT T).setN i x:=by
 unfold Tri.setN bareT
 split<;>rfl
theorem bt_setF(T:Tri)(i:Nat)(x y:Bool)(hy:y=false):bareT (T.setF i x)=(bareT T).setF i y:=by
 subst hy;unfold Tri.setF bareT
 split<;>rfl
theorem bare_set(M:Mesh)(t:Nat)(x:Tri):(M.setTri t x).bare=M.bare.setTri t (bareT x):=by
 unfold Mesh.setTri Mesh.bare;simp only[List.map_set]
theorem bare_link(M:Mesh)(t i u j:Nat)(f:Bool):(M.link t i u j f).bare=M.bare.link t i u j false:=by
 unfold Mesh.link;simp only[bare_set,bt_setN,bt_setF _ _ f false rfl,←bare_at]
theorem bare_drop(M:Mesh)(t:Nat):(M.drop t).bare=M.bare.drop t:=by
 unfold Mesh.drop;have:=bare_set M t Tri.gone;unfold Mesh.bare Mesh.setTri at this ⊢;simp only at this ⊢;rw[List.map_set];rfl
theorem bare_dropN(M:Mesh)(ts:List Nat):∀j,(dropN M ts j).bare=dropN M.bare ts j
 | 0=>rfl
 | j+1=>by
  show((dropN M ts j).drop _).bare=(dropN M.bare ts j).drop _
  rw[bare_drop,bare_dropN M ts j]
theorem bare_made(M:Mesh)(T:Tri):(M.made T).1.bare=(M.bare.made (bareT T)).1∧(M.made T).2=(M.bare.made (bareT T)).2:=by
 unfold Mesh.made;have e:M.bare.free=M.free:=rfl;rw[e];cases M.free.getLast? with
 | some n=>
  unfold Mesh.bare;simp only[List.map_set,and_true]
 | none=>
  unfold Mesh.bare;simp
theorem bare_make(M:Mesh)(a b c:Int):(M.make a b c).1.bare=(M.bare.make a b c).1∧(M.make a b c).2=(M.bare.make a b c).2:=by
 obtain⟨h1,h2⟩:=bare_made M (Tri.new a b c);have e:bareT (Tri.new a b c)=Tri.new a b c:=rfl;rw[e]at h1 h2;unfold Mesh.make;refine⟨?_,h2⟩;simp only;rw[←h1,←h2];rfl
def unf(s:Side):Side:={s with fault:=false }
theorem bare_makeN(v:Nat)(M:Mesh)(rim rim0:List Side)(hr:∀j,rim0.getD j Side.zero=unf (rim.getD j Side.zero)):∀j,(makeN v M rim j).1.bare=(makeN v M.bare rim0 j).1∧(makeN v M rim j).2=(makeN v M.bare rim0 j).2
 | 0=>⟨rfl,rfl⟩
 | j+1=>by
  obtain⟨h1,h2⟩:=bare_makeN v M rim rim0 hr j;unfold makeN rimStep;rw[hr j];obtain⟨g1,g2⟩:=bare_make (makeN v M rim j).1 (rim.getD j Side.zero).a (rim.getD j Side.zero).b v;rw[h1]at g1 g2;simp only[unf];rw[bare_link,g1,g2,h2];exact⟨rfl,rfl⟩
theorem bare_linkN(ms:List Nat)(sp:Side→Bool)(rim rim0:List Side)(M:Mesh):∀j,(linkN ms sp rim M j).bare=linkN ms (fun _=>false) rim0 M.bare j
 | 0=>rfl
 | j+1=>by
  show((linkN ms sp rim M j).link _ _ _ _ _).bare=(linkN ms (fun _=>false) rim0 M.bare j).link _ _ _ _ false
  rw[bare_link,bare_linkN ms sp rim rim0 M j]
section
variable {c:Cfg} {S:Int→Prop} {M:Mesh} {v n k:Nat} {cs:List Nat} {F:Nat→Nat×Nat}
def filled(M:Mesh)(v:Nat)(C:Cavity)(sp:Side→Bool):Mesh:=linkN (makeN v (dropN M C.tris C.tris.length) C.rim C.rim.length).2 sp C.rim (makeN v (dropN M C.tris C.tris.length) C.rim C.rim.length).1 C.rim.length
def newT(M:Mesh)(v:Nat)(C:Cavity)(i:Nat):Nat:=(makeN v (dropN M C.tris C.tris.length) C.rim C.rim.length).2.getD i 0
theorem made(g:Good c S M.bare n)(C:Cavity)(h:Hole c S M.bare v C.tris F k)(hn:C.tris.Nodup)(hlen:C.rim.length=k)(hrim:∀i,i<k→C.rim.getD i Side.zero=sd M (F i))(sp:Side→Bool) :
 Made M.bare (filled M v C sp).bare C.tris F k v (newT M v C)∧FillIn M.bare C.tris F k:=by
 have hin:=Cx.fillIn h hn g.free g.fnod g.dead
 have hr0:∀j,(C.rim.map unf).getD j Side.zero=unf (C.rim.getD j Side.zero):=fun j=>by
  rw[List.getD_eq_getElem?_getD,List.getD_eq_getElem?_getD,List.getElem?_map];cases C.rim[j]?<;>rfl
 have hsd:∀x,sd M.bare x=unf (sd M x):=fun x=>by
  have e1:∀j,(tat M.bare.tris x.1).v j=(tat M.tris x.1).v j:=fun j=>bare_v M _ j
  have e2:∀j,(tat M.bare.tris x.1).n j=(tat M.tris x.1).n j:=fun j=>bare_n M _ j
  have e3:(tat M.bare.tris x.1).f x.2=false:=by
   rw[bare_at];rcases x.2 with _|_|_<;>rfl
  have e4:∀u y,nidx (tat M.bare.tris u) y=nidx (tat M.tris u) y:=fun u y=>by rw[bare_at];rfl
  unfold sd sideOf unf;simp only[e1,e2,e3,e4]
 have hf:=Kq.fill (v:=v) hin (rim:=C.rim.map unf) (fun i hi=>by rw[hr0,hrim i hi,hsd]) k (Nat.le_refl _);have hM:=Kr.made (Cx.two h) hf hin (C.rim.map unf);obtain⟨b1,b2⟩:=bare_makeN v (dropN M C.tris C.tris.length) C.rim (C.rim.map unf) hr0 C.rim.length;rw[bare_dropN]at b1 b2
 have hfl:(filled M v C sp).bare=linkN (makeN v (dropN M.bare C.tris C.tris.length) (C.rim.map unf) k).2 (fun _=>false) (C.rim.map unf) (makeN v (dropN M.bare C.tris C.tris.length) (C.rim.map unf) k).1 k:=by
  unfold filled;rw[bare_linkN _ _ _ (C.rim.map unf),b1,b2,hlen]
 have hnt:newT M v C=fun i=>(makeN v (dropN M.bare C.tris C.tris.length) (C.rim.map unf) k).2.getD i 0:=by
  funext i
  unfold newT;rw[b2,hlen]
 rw[hfl,hnt];exact⟨hM,hin⟩
end
end Cz
end Go.Proofs.YtdihefgleefhmaaGreat
namespace Go.Proofs.YtdihefgleefhmaaGreat
namespace Da
open Pe Cu Cv Po Ao
section
variable {M:Mesh}
theorem ein{T:Tri}{a c:Int}{k:Nat}(h:edgeIn T a c=some k):k<3∧T.v ((k+1)%3)=a∧T.v ((k+2)%3)=c:=by
 have go:∀k,edgeIs T a c k=true→T.v ((k+1)%3)=a∧T.v ((k+2)%3)=c:=fun k h=>by
  unfold edgeIs at h
  simpa using h
 unfold edgeIn at h
 split at h
 ·cases h;exact⟨by omega,go 0 (by assumption)⟩
 ·split at h
  ·cases h;exact⟨by omega,go 1 (by assumption)⟩
  ·split at h
   ·cases h;exact⟨by omega,go 2 (by assumption)⟩
   ·cases h
theorem eof{a c:Int}{t k:Nat} : ∀{xs:List (Nat×Nat)},edgeOf M a c xs=some (t,k)→(∃x∈xs,x.1=t)∧k<3∧M.w t ((k+1)%3)=a∧M.w t ((k+2)%3)=c
 | [],h=>by cases h
 | y::ys,h=>by
  unfold edgeOf at h;cases hy:edgeIn (tat M.tris y.1) a c with
  | some k'=>
   rw[hy]at h;simp only[Option.some.injEq,Prod.mk.injEq]at h;obtain⟨rfl,rfl⟩:=h;obtain⟨h1,h2,h3⟩:=ein hy;exact⟨⟨y,by simp,rfl⟩,h1,h2,h3⟩
  | none=>
   rw[hy]at h;obtain⟨⟨x,hx,hx2⟩,h1⟩:=eof h;exact⟨⟨x,List.mem_cons_of_mem _ hx,hx2⟩,h1⟩
theorem find_dir(hS:Surf M){x:Nat×Nat}(ht:M.live x.1)(hj:x.2<3){b:Nat}(hb:max (st M x) (en M x)=b){ts:Nat→Nat}{K:Nat}(hst:Star M b ts K)(h0:iat M.at_ b=ts 0):∃xs,around M K b=some xs∧edgeOf M (st M x) (en M x) xs=some x:=by
 refine⟨_,around_star hst h0,?_⟩
 have hbs:M.has b x.1:=by
  rcases Int.le_total (st M x) (en M x)with h|h
  ·exact⟨ht,(x.2+2)%3,Nat.mod_lt _ (by omega),by rw[←hb,Int.max_eq_right h]⟩
  ·exact⟨ht,(x.2+1)%3,Nat.mod_lt _ (by omega),by rw[←hb,Int.max_eq_left h]⟩
 obtain⟨i,hi,hti⟩:=hst.all _ hbs;have hm:(ts i,(Mr.place (tat M.tris (ts i)) b).toNat)∈starL M b ts 0 K:=mem_star.2 ⟨i,hi,rfl⟩;cases he:edgeOf M (st M x) (en M x) (starL M b ts 0 K)with
 | none=>
  have:=edge_none he _ hm;simp only[hti]at this;exact absurd this (edge_in hj rfl rfl)
 | some r=>
  obtain⟨t',k'⟩:=r;obtain⟨⟨y,hy,hyt⟩,h1,h2,h3⟩:=eof he;obtain⟨i',hi',rfl⟩:=mem_star.1 hy;have hl:M.live t':=by rw[←hyt];exact(hst.has i').1
  have:=hS.un t' x.1 hl ht k' x.2 h1 hj h2 h3;rw[this.1,this.2]
end
section
variable {c:Cfg} {S:Int→Prop} {M M':Mesh} {v n k:Nat} {cs:List Nat} {F:Nat→Nat×Nat} {m:Nat→Nat}
open Ki
theorem round_v(hM:Made M M' cs F k v m)(hk:0<k)(hvs:∀i,st M (F i)≠(v:Int)∧en M (F i)≠(v:Int)){i0:Nat}(h0:i0<k):RoundOk M' v (fun j=>m ((i0+j)%k)) k:=by
 have hmod:∀j,(i0+j)%k<k:=fun j=>Nat.mod_lt _ hk
 have hpl:∀i,i<k→Mr.place (tat M'.tris (m i)) v=2:=fun i hi=>by
  rw[hM.tri i hi];unfold Mr.place;rw[if_neg (hvs i).1,if_neg (hvs i).2,if_pos rfl]
 refine⟨hk,?_,fun j _=>(hM.nk _ (hmod j)).2,fun j _=>?_,fun j _=>?_,?_,fun j hj0 hjk e=>?_⟩
 ·have hn:((List.range k).map m).Nodup:=by
   rw[List.nodup_iff_pairwise_ne,List.pairwise_map];refine List.pairwise_lt_range.imp_of_mem fun {a b} ha hb hab e=>?_
   rw[List.mem_range]at ha hb;have:=hM.inj a b ha hb e;omega
  have:=Dq.nodup_len M'.tris.length _ hn fun x hx=>by
   obtain⟨i,hi,rfl⟩:=List.mem_map.1 hx;exact(hM.nk i (List.mem_range.1 hi)).2
  simpa using this
 ·rw[hpl _ (hmod j)]
  omega
 ·unfold nextRound
  rw[hpl _ (hmod j),hM.tri _ (hmod j)];show((m (((i0+j)%k+1)%k):Nat):Int)=((m ((i0+(j+1))%k):Nat):Int)
  rw[Nat.mod_add_mod];rfl
 ·show m ((i0+k)%k)=m ((i0+0)%k)
  rw[Nat.add_mod_right];rfl
 ·have h1:=hM.inj _ _ (hmod j) (hmod 0) e
  rw[Nat.add_zero,Nat.mod_eq_of_lt h0]at h1;rcases Nat.lt_or_ge (i0+j) k with h|h
  ·rw[Nat.mod_eq_of_lt h]at h1;omega
  ·rw[Nat.mod_eq_sub_mod h,Nat.mod_eq_of_lt (by omega)]at h1;omega
theorem at_new(h:Hole c S M v cs F k)(hM:Made M M' cs F k v m)(hat:∀x:Nat,S x→∃t:Nat,iat M.at_ x=t∧M.has x t)(hal:M.at_.length=M.pts.length)(hv:∀t∈cs,∀j,j<3→∃i,i<k∧st M (F i)=M.w t j)(x:Nat)(hx:S x∨x=v):∃t:Nat,iat M'.at_ x=t∧M'.has x t:=by
 have hxl:x<M.at_.length:=by
  rw[hal,h.del.pts];rcases hx with hx|rfl
  ·rcases h.del.nat _ hx with e|⟨y,e,hy⟩<;>omega
  ·exact h.new.lt
 by_cases ht:∃i,i<k∧touch M F v i x
 ·obtain⟨i,hi,hti⟩:=ht
  obtain⟨i',hi',ht',e⟩:=hM.at2 x hxl i hi hti;refine⟨m i',e,(Cx.live_iff h hM _).2 (.inr ⟨i',hi',rfl⟩),?_⟩;obtain⟨w0,w1,w2⟩:=Cx.w_new hM hi';rcases ht' with e'|e'|e'
  ·exact⟨0,by omega,w0.trans e'⟩
  ·exact⟨1,by omega,w1.trans e'⟩
  ·exact⟨2,by omega,by rw[w2,e']⟩
 ·have hno:∀i,i<k→¬touch M F v i x:=fun i hi hh=>ht ⟨i,hi,hh⟩
  have hxS:S x:=by
   rcases hx with hx|rfl
   ·exact hx
   ·exact absurd (.inr (.inr rfl)) (hno 0 h.rim.pos)
  obtain⟨t,e,hl,j,hj,hw⟩:=hat x hxS
  have htk:M.kept cs t:=⟨hl,fun hc=>by
   obtain⟨i,hi,e'⟩:=hv t hc j hj;exact hno i hi (.inl (e'.trans hw))⟩
  exact⟨t,by rw[hM.at1 x hno];exact e,(Cx.live_iff h hM _).2 (.inl htk),j,hj,by rw[Cx.w_old hM htk];exact hw⟩
end
end Da
end Go.Proofs.YtdihefgleefhmaaGreat
