import Derived.Test.YtdihefgleefhmaaGreatCy
namespace Go.Proofs.YtdihefgleefhmaaGreat
namespace Db
open Pe Cu Cv Po Ao Da Cz
section
variable (M:Mesh)
theorem bare_place(t:Nat)(b:Int):Mr.place (tat M.bare.tris t) b=Mr.place (tat M.tris t) b:=by
 rw[bare_at];rfl
theorem bare_ein(t:Nat)(a c:Int):edgeIn (tat M.bare.tris t) a c=edgeIn (tat M.tris t) a c:=by
 have:∀k,edgeIs (tat M.bare.tris t) a c k=edgeIs (tat M.tris t) a c k:=fun k=>by
  unfold edgeIs;rw[bare_v,bare_v]
 unfold edgeIn;simp only[this]
theorem bare_eof(a c:Int):∀xs,edgeOf M.bare a c xs=edgeOf M a c xs
 | []=>rfl
 | x::xs=>by
  unfold edgeOf;rw[bare_ein,bare_eof a c xs]
theorem bare_go(b s:Nat):∀f t,aroundGo M.bare b s f t=aroundGo M b s f t
 | 0,t=>by unfold aroundGo;rfl
 | f+1,t=>by
  unfold aroundGo;simp only[bare_place,bare_n,bare_len,bare_go b s f]
theorem bare_around(f b:Nat):around M.bare f b=around M f b:=by
 unfold around;rw[bare_go];rfl
theorem bare_lives:Eu.liveL M.bare=Eu.liveL M:=by
 unfold Eu.liveL;rw[bare_len];refine List.filter_congr fun t _=>?_
 rw[bare_at];rfl
end
section
variable {c:Cfg} {S:Int→Prop} {M M':Mesh} {v n k:Nat} {cs:List Nat} {F:Nat→Nat×Nat} {m:Nat→Nat}
open Eu Ki
theorem lives_hole(h:Hole c S M v cs F k)(hM:Made M M' cs F k v m)(hn:cs.Nodup):(liveL M').length+cs.length=(liveL M).length+k:=by
 have hp:(liveL M').Perm (((liveL M).filter fun t=>decide (t ∉ cs))++(List.range k).map m):=by
  refine(List.perm_ext_iff_of_nodup (List.nodup_range.filter _) ?_).2 fun x=>?_
  ·rw[List.nodup_append]
   refine⟨(List.nodup_range.filter _).filter _,?_,fun a ha b hb e=>?_⟩
   ·rw[List.nodup_iff_pairwise_ne,List.pairwise_map]
    refine List.pairwise_lt_range.imp_of_mem fun {i j} hi hj hij e=>?_
    rw[List.mem_range]at hi hj;have:=hM.inj i j hi hj e;omega
   ·rw[List.mem_filter,decide_eq_true_eq,mem_live]at ha
    obtain⟨i,hi,rfl⟩:=List.mem_map.1 hb;rw[List.mem_range]at hi;exact(hM.nk i hi).1 (e▸ha)
  ·show x∈liveL M'↔_
   rw[mem_live,Cx.live_iff h hM,List.mem_append,List.mem_filter,decide_eq_true_eq,mem_live,List.mem_map];constructor
   ·rintro(hk|⟨i,hi,rfl⟩)
    ·exact .inl hk
    ·exact .inr ⟨i,List.mem_range.2 hi,rfl⟩
   ·rintro(hk|⟨i,hi,rfl⟩)
    ·exact .inl hk
    ·exact .inr ⟨i,List.mem_range.1 hi,rfl⟩
 have h1:=hp.length_eq;have h2:=rest_len (C:=liveL M) (X:=cs) (List.nodup_range.filter _) hn (fun t ht=>(mem_live t).2 (h.live t ht));rw[List.length_append,List.length_map,List.length_range]at h1;omega
theorem gone_edge(h:Hole c S M v cs F k)(hM:Made M M' cs F k v m){x:Nat}(hx:x∈cs){xs:List (Nat×Nat)}(hl:∀y∈xs,M'.live y.1){t j:Nat}(he:edgeOf M' (M.w x 0) (M.w x 1) xs=some (t,j)):t<M'.tris.length∧M'.w t 0≠M.w x 2∧M'.w t 1≠M.w x 2∧M'.w t 2≠M.w x 2:=by
 obtain⟨⟨y,hy,hyt⟩,hj,h1,h2⟩:=eof he;have hlt:M'.live t:=hyt▸hl y hy;have hxl:=h.live x hx;have hS:=surf h.del.poly;obtain⟨n1,n2,n3⟩:=hS.ne x hxl;have hsv:∀l,l<3→M.w x l≠v:=fun l hl' e=>h.new.new (e▸h.del.poly.vs x hxl l hl')
 refine⟨hlt.1,?_⟩;rcases(Cx.live_iff h hM t).1 hlt with hk|⟨i,hi,rfl⟩
 ·exfalso
  rw[Cx.w_old hM hk]at h1 h2;have:=hS.un t x hk.1 hxl j 2 hj (by omega) h1 h2;exact hk.2 (this.1▸hx)
 ·obtain⟨w0,w1,w2⟩:=Cx.w_new hM hi
  have hs0:=hsv 0 (by omega);have hs1:=hsv 1 (by omega);have hs2:=hsv 2 (by omega);rcases Cx.edge_new hM hi hj with⟨_,_,b⟩|⟨_,a,_⟩|⟨_,a,b⟩
  ·exact absurd (h2.symm.trans b) hs1
  ·exact absurd (h1.symm.trans a) hs0
  ·rw[h1]at a
   rw[h2]at b;rw[w0,w1,w2,←a,←b];exact⟨fun e=>n3 e.symm,n2,fun e=>hs2 e.symm⟩
end
theorem setN_f(T:Tri)(i:Nat)(x:Int)(l:Nat):(T.setN i x).f l=T.f l:=by
 unfold Tri.setN
 split<;>rfl
theorem setF_f(T:Tri)(i:Nat)(x:Bool)(l:Nat)(hl:l<3)(hi:i<3)(h:l≠i):(T.setF i x).f l=T.f l:=by
 unfold Tri.setF;rcases(show l=0∨l=1∨l=2 by omega)with rfl|rfl|rfl<;>rcases(show i=0∨i=1∨i=2 by omega)with rfl|rfl|rfl<;>first| rfl|exact absurd rfl h
theorem set_f(M:Mesh)(t:Nat)(X:Tri)(l:Nat)(h:X.f l=(tat M.tris t).f l)(x:Nat):(tat (M.setTri t X).tris x).f l=(tat M.tris x).f l:=by
 by_cases ht:t<M.tris.length
 ·rw[Kp.set_at _ _ ht]
  split
  ·rename_i e;rw[e,h]
  ·rfl
 ·unfold Mesh.setTri
  rw[show M.tris.set t X=M.tris from List.set_eq_of_length_le (by omega)]
theorem link_f(M:Mesh)(t i u j:Nat)(f:Bool)(l:Nat)(hi:i<3)(hj:j<3)(hl:l<3)(h1:l≠i)(h2:l≠j)(x:Nat):(tat (M.link t i u j f).tris x).f l=(tat M.tris x).f l:=by
 unfold Mesh.link;rw[set_f _ _ _ _ (setF_f _ _ _ _ hl hj h2),set_f _ _ _ _ (setF_f _ _ _ _ hl hi h1),set_f _ _ _ _ (setN_f _ _ _ _),set_f _ _ _ _ (setN_f _ _ _ _)]
theorem linkN_f(ms:List Nat)(sp:Side→Bool)(rim:List Side)(A:Mesh)(x:Nat):∀j,(tat (linkN ms sp rim A j).tris x).f 2=(tat A.tris x).f 2
 | 0=>rfl
 | j+1=>by
  show(tat ((linkN ms sp rim A j).link _ 0 _ 1 _).tris x).f 2=_
  rw[link_f _ _ _ _ _ _ _ (by omega) (by omega) (by omega) (by omega) (by omega),linkN_f ms sp rim A x j]
section
variable {c:Cfg} {S:Int→Prop} {M:Mesh} {v n k:Nat} {cs:List Nat} {F:Nat→Nat×Nat}
theorem flag_made(hin:FillIn M.bare cs F k)(rim:List Side)(hrim:∀i,i<k→rim.getD i Side.zero=sd M (F i)) :
 ∀j,j≤k→∀i,i<j→(tat (makeN v (dropN M cs cs.length) rim j).1.tris ((makeN v (dropN M cs cs.length) rim j).2.getD i 0)).f 2=(sd M (F i)).fault
 | 0,_,i,hi=>by omega
 | j+1,hj,i,hi=>by
  have hr0:∀j,(rim.map unf).getD j Side.zero=unf (rim.getD j Side.zero):=fun j=>by
   rw[List.getD_eq_getElem?_getD,List.getD_eq_getElem?_getD,List.getElem?_map];cases rim[j]?<;>rfl
  have hsd:∀x,sd M.bare x=unf (sd M x):=fun x=>by
   have e1:∀j,(tat M.bare.tris x.1).v j=(tat M.tris x.1).v j:=fun j=>bare_v M _ j
   have e2:∀j,(tat M.bare.tris x.1).n j=(tat M.tris x.1).n j:=fun j=>bare_n M _ j
   have e3:(tat M.bare.tris x.1).f x.2=false:=by
    rw[bare_at];rcases x.2 with _|_|_<;>rfl
   have e4:∀u y,nidx (tat M.bare.tris u) y=nidx (tat M.tris u) y:=fun u y=>by rw[bare_at];rfl
   unfold sd sideOf unf;simp only[e1,e2,e3,e4]
  have hf:=fun j hj=>Kq.fill (v:=v) hin (rim:=rim.map unf) (fun i hi=>by rw[hr0,hrim i hi,hsd]) j hj
  have hb:=fun j=>bare_makeN v (dropN M cs cs.length) rim (rim.map unf) hr0 j
  have hA:=hf j (by omega);have hA':=hf (j+1) hj;obtain⟨b1,b2⟩:=hb j;obtain⟨c1,c2⟩:=hb (j+1);rw[bare_dropN]at b1 b2 c1 c2;have ih:=flag_made hin rim hrim j (by omega);obtain⟨A,hAe⟩:∃A,makeN v (dropN M cs cs.length) rim j=A:=⟨_,rfl⟩
  have hst:makeN v (dropN M cs cs.length) rim (j+1)=rimStep v A (sd M (F j)):=by
   rw[←hAe,←hrim j (by omega)];rfl
  rw[hst]at c1 c2 ⊢;rw[hAe]at b1 b2 ih;have hms:A.2.length=j:=by rw[b2];exact hA.msl
  have hlen:M.bare.tris.length≤A.1.tris.length:=by have:=hA.len;rw[←b1,bare_len (A.1)]at this;exact this
  have hfree:∀n∈A.1.free,n<A.1.tris.length:=fun n hn=>by
   have:=(hA.free n (by rw[←b1];exact hn)).1;rw[←b1,bare_len]at this;exact this
  have hfn:A.1.free.Nodup:=by have:=hA.fnod;rw[←b1]at this;exact this
  have hlt:∀y∈A.2,y<A.1.tris.length∧¬M.bare.kept cs y:=fun y hy=>by
   have:=hA.lt y (by rw[←b2];exact hy);rw[←b1,bare_len]at this;exact this
  obtain⟨m1,m2,m3,m4,m5,m6,m7,m8,m9,m10⟩:=Kp.made_at A.1 (Tri.new (st M (F j)) (en M (F j)) v) hfree hfn;have hnd:=hA'.nod;have hkt:=hA'.lt;rw[←c2]at hnd hkt;unfold rimStep Mesh.make at hnd hkt ⊢;have f1:(sd M (F j)).a=st M (F j):=rfl;have f2:(sd M (F j)).b=en M (F j):=rfl;rw[f1,f2]at hnd hkt ⊢;dsimp only at hnd hkt ⊢;obtain⟨y,hy⟩:∃y,(A.1.made (Tri.new (st M (F j)) (en M (F j)) v)).2=y:=⟨_,rfl⟩;obtain⟨B0,hB0⟩:∃B0,(A.1.made (Tri.new (st M (F j)) (en M (F j)) v)).1=B0:=⟨_,rfl⟩;rw[hB0]at m1 m2 m3;rw[hy]at m1 m2 m3 hnd hkt;rw[hB0,hy];obtain⟨B,hB⟩:∃B:Mesh,({B0 with at_:=setAt (setAt (setAt B0.at_ (st M (F j)) y) (en M (F j)) y) v y } : Mesh)=B:=⟨_,rfl⟩;have hBt:B.tris=B0.tris:=by rw[←hB]
  rw[hB];obtain⟨o1,o2,o3,o4⟩:=hin.out j (by omega);have e3:(sd M (F j)).out.toNat=M.bare.out (F j):=by rw[bare_out];rfl
  have e4:(sd M (F j)).i.toNat=M.bare.ix (F j):=by
   unfold Mesh.ix;rw[bare_at,bare_out];rfl
  rw[e3,e4];have hyk:=(hkt y (by simp)).2;have hyo:y≠M.bare.out (F j):=fun e=>hyk (e▸o2)
  have hol:M.bare.out (F j)<B.tris.length:=by
   have h1:=o2.1.1;have h2:=m7;rw[hB0]at h2;rw[hBt];omega
  have hlk:=Kp.link_at B (i:=2) (j:=M.bare.ix (F j)) (sd M (F j)).fault (by rw[hBt];exact m1) hol (by omega) o4 hyo;rw[Kq.getD_app,hms];by_cases e:i=j
  ·subst e
   rw[if_neg (by omega),if_pos rfl,(hlk y).2.2 2 (by omega),if_pos ⟨rfl,rfl⟩]
  ·have hij:i<j:=by omega
   rw[if_pos hij];have hmem:A.2.getD i 0∈A.2:=Kq.getD_mem (by omega)
   have hne:A.2.getD i 0≠y:=fun e=>by
    rw[List.nodup_append]at hnd;exact hnd.2.2 _ hmem y (by simp) e
   have hno:A.2.getD i 0≠M.bare.out (F j):=fun e=>(hlt _ hmem).2 (e▸o2)
   rw[(hlk _).2.2 2 (by omega),if_neg (fun e=>hne e.1),if_neg (fun e=>hno e.1),hBt,m3 _ hne (hlt _ hmem).1];exact ih i hij
end
end Db
end Go.Proofs.YtdihefgleefhmaaGreat
namespace Go.Proofs.YtdihefgleefhmaaGreat
structure SideAt(M M':Mesh)(p:Pt)(t:Nat):Prop where
 lt:t<M'.tris.length
 ne:((tat M'.tris t).v0==(tat M'.tris t).v1)=false
 old:∃(b f:Nat) (xs:List (Nat×Nat)) (o j:Nat),max (tat M'.tris t).v0 (tat M'.tris t).v1=b∧b<M.at_.length∧around M f b=some xs∧edgeOf M (tat M'.tris t).v0 (tat M'.tris t).v1 xs=some (o,j)∧o<M.tris.length∧j<3∧(tat M.tris o).f j=(tat M'.tris t).f2∧conflict M (tat M.tris o) p=true
structure KeptAt(M M':Mesh)(cs:List Nat)(x:Nat):Prop where
 ne:((tat M.tris x).v0==(tat M.tris x).v1)=false
 new:∃(b f:Nat) (xs:List (Nat×Nat)),max (tat M.tris x).v0 (tat M.tris x).v1=b∧b<M'.at_.length∧around M' f b=some xs∧
  (x ∉ cs→edgeOf M' (tat M.tris x).v0 (tat M.tris x).v1 xs=some (x,2)∧x<M'.tris.length∧(tat M'.tris x).v2=(tat M.tris x).v2)∧
  (x∈cs→∀t j,edgeOf M' (tat M.tris x).v0 (tat M.tris x).v1 xs=some (t,j)→t<M'.tris.length∧(tat M'.tris t).v0≠(tat M.tris x).v2∧(tat M'.tris t).v1≠(tat M.tris x).v2∧(tat M'.tris t).v2≠(tat M.tris x).v2)
namespace Dc
open Pe Cu Cv Po Ao Da Cz Db Ki
section
variable {c:Cfg} {S:Int→Prop} {M:Mesh} {v n:Nat}
theorem max_nat(h:Del c S M){a b:Int}(ha:S a)(hb:S b)(hne:a≠b):∃w:Nat,max a b=w∧S w∧w<c.pts.length:=by
 have go:∀x,S x→x≠-1→∃w:Nat,x=w∧S (w:Int)∧w<c.pts.length:=fun x hx hn=>by
  rcases h.nat x hx with e|⟨y,e,hy⟩
  ·exact absurd e hn
  ·exact⟨y,e,e▸hx,hy⟩
 have lo:∀x,S x→-1≤x:=fun x hx=>by
  rcases h.nat x hx with e|⟨y,e,hy⟩<;>omega
 have h1:=lo a ha;have h2:=lo b hb;rcases Int.le_total a b with h'|h'
 ·rw[Int.max_eq_right h']
  exact go b hb (by omega)
 ·rw[Int.max_eq_left h']
  exact go a ha (by omega)
theorem law(hc:c.Ok)(g:Good c S M.bare n)(hv:New c S v)(P:List Nat)(hP:P.Nodup)(hS:∀x:Nat,S x↔x∈P)(q:Place)(hst:Dq.Taken M (digStart M q))(hsv:∀t∈digStart M q,M.bare.vis c.D v t)(hne:digStart M q≠[])(hsg:Grown M (digStart M q))
 (C:Cavity) (hC:dig M (pat c.pts v) q=C) (sp:Side→Bool) (M':Mesh) (hM':filled M v C sp=M') :
 ∃L k,iat M'.at_ v≥0∧around M' k v=some L∧L.length=k∧k=C.tris.length+2∧(∀y∈L,y.2=2∧SideAt M M' (pat c.pts v) y.1)∧(Eu.liveL M').length=(Eu.liveL M).length+2∧(∀x,M.live x→KeptAt M M' C.tris x)∧(∀x∈C.tris,M.live x)∧C.tris.Nodup:=by
 obtain⟨F,k,hH,hnd,hk,hlen,hrim,hs,hvs,hcf⟩:=Cy.dug hc g hv P hP hS q hst hsv hne hsg;rw[hC]at hH hnd hk hlen hrim hvs hcf;obtain⟨hM,hin⟩:=made g C hH hnd hlen hrim sp
 have hflag:∀i,i<k→(tat M'.tris (newT M v C i)).f2=(sd M (F i)).fault:=fun i hi=>by
  have h1:=flag_made hin C.rim hrim (v:=v) k (Nat.le_refl _) i hi;rw[←hM'];show(tat (filled M v C sp).tris _).f 2=_
  unfold filled newT;rw[linkN_f,hlen];exact h1
 have hs0:∀i j,i<k→j<k→st M.bare (F i)=st M.bare (F j)→i=j:=fun i j hi hj e=>hs i j hi hj (by rw[(bare_st M _).1,(bare_st M _).1]at e;exact e)
 have hvs0:∀t∈C.tris,∀j,j<3→∃i,i<k∧st M.bare (F i)=M.bare.w t j:=fun t ht j hj=>by
  obtain⟨i,hi,e⟩:=hvs t ht j hj;exact⟨i,hi,by rw[(bare_st M _).1,bare_w];exact e⟩
 rw[hM']at hM;have hSu:=Cx.surf' hH hM hs0;have hSo:=surf hH.del.poly;have hlv:=lives_hole hH hM hnd;rw[bare_lives,bare_lives]at hlv;have hat:=at_new hH hM g.at1 g.atl hvs0;have hsts:∀i,S (st M.bare (F i))∧S (en M.bare (F i))∧st M.bare (F i)≠en M.bare (F i):=Cx.st_S hH;have hvn:∀i,st M.bare (F i)≠(v:Int)∧en M.bare (F i)≠(v:Int):=fun i=>⟨fun e=>hv.new (e▸(hsts i).1),fun e=>hv.new (e▸(hsts i).2.1)⟩
 have hk0:0<k:=by omega
 have hatl:M'.at_.length=M.at_.length:=hM.atl;have hatp:M.at_.length=c.pts.length:=by have:=g.atl;rw[hH.del.pts]at this;exact this
 obtain⟨t0,e0,ht0⟩:=hat v (.inr rfl);have hb0:iat M'.at_ v=t0:=e0
 obtain⟨i0,hi0,ht0'⟩:∃i,i<k∧t0=newT M v C i:=by
  obtain⟨hl,j,hj,hw⟩:=ht0;rcases(Cx.live_iff hH hM t0).1 hl with hk'|h'
  ·rw[Cx.w_old hM hk']at hw
   exact absurd (hw▸hH.del.poly.vs t0 hk'.1 j hj) hv.new
  ·exact h'
 have hr:=round_v hM hk0 hvn hi0
 have hpl:∀i,i<k→Mr.place (tat M'.tris (newT M v C i)) v=2:=fun i hi=>by
  rw[←bare_place,hM.tri i hi];unfold Mr.place;rw[if_neg (hvn i).1,if_neg (hvn i).2,if_pos rfl]
 have hav:=around_round hr (by
  show iat M'.at_ v=_
  rw[hb0,ht0',Nat.add_zero,Nat.mod_eq_of_lt hi0])
 rw[bare_around]at hav;refine⟨_,k,by rw[hb0];omega,hav,?_,hk,fun y hy=>?_,by omega,fun x hx=>?_,fun x hx=>(bare_live M x).1 (hH.live x hx),hnd⟩
 ·unfold starL
  simp
 ·obtain⟨j,hj,rfl⟩:=mem_star.1 hy
  have hm:=Nat.mod_lt (i0+j) hk0;dsimp only;rw[bare_place,hpl _ hm];refine⟨rfl,?_⟩;obtain⟨w0,w1,w2⟩:=Cx.w_new hM hm;rw[bare_w,(bare_st M _).1]at w0;rw[bare_w,(bare_st M _).2]at w1;have w0':(tat M'.tris (newT M v C ((i0+j)%k))).v0=st M (F ((i0+j)%k)):=w0;have w1':(tat M'.tris (newT M v C ((i0+j)%k))).v1=en M (F ((i0+j)%k)):=w1;obtain⟨s1,s2,s3⟩:=hsts ((i0+j)%k);rw[(bare_st M _).1]at s1 s3;rw[(bare_st M _).2]at s2 s3;obtain⟨b,hb,hbS,hbl⟩:=max_nat hH.del s1 s2 s3;obtain⟨t,et,htb⟩:=g.at1 b hbS;obtain⟨ts,K,hstar,hts⟩:=star hH.del.poly (Kg.alt c) htb;have hfl:=hH.rim.flag ((i0+j)%k);obtain⟨xs,hx1,hx2⟩:=find_dir hSo (x:=F ((i0+j)%k)) (hH.live _ hfl.1) hfl.2.1 (by rw[(bare_st M _).1,(bare_st M _).2];exact hb) hstar (by rw[hts];exact et);rw[bare_around]at hx1;rw[bare_eof,(bare_st M _).1,(bare_st M _).2]at hx2;have hlt:=(hM.nk _ hm).2;rw[bare_len]at hlt;have hol:=(hH.live _ hfl.1).1;rw[bare_len]at hol;refine⟨hlt,by rw[w0',w1'];simpa using s3,b,K,xs,(F ((i0+j)%k)).1,(F ((i0+j)%k)).2,by rw[w0',w1'];exact hb,by rw[hatp];exact hbl,hx1,by rw[w0',w1'];exact hx2,hol,hfl.2.1,?_,hcf _ hfl.1⟩;rw[hflag _ hm];rfl
 ·have hxl:M.bare.live x:=(bare_live M x).2 hx
  have s0:=hH.del.poly.vs x hxl 0 (by omega);have s1:=hH.del.poly.vs x hxl 1 (by omega);obtain⟨n1,n2,n3⟩:=hSo.ne x hxl;rw[bare_w]at s0 s1;rw[bare_w,bare_w]at n1;have n1':(tat M.tris x).v0≠(tat M.tris x).v1:=n1;obtain⟨b,hb,hbS,hbl⟩:=max_nat hH.del s0 s1 n1;obtain⟨t,et,htb⟩:=hat b (.inl hbS);obtain⟨ts,K,hstar,hts⟩:=Cx.star' hH hM hs0 hvs0 hbS htb;have het:iat M'.bare.at_ b=ts 0:=by rw[hts];exact et
  have har:=around_star hstar het;have har':around M' K b=some (starL M'.bare b ts 0 K):=by rw[←bare_around];exact har
  refine⟨by simpa using n1',b,K,starL M'.bare b ts 0 K,hb,by rw[hatl,hatp];exact hbl,har',fun hxc=>?_,fun hxc t j he=>?_⟩
  ·have hkp:M.bare.kept C.tris x:=⟨hxl,hxc⟩
   have e1:st M'.bare (x,2)=M.w x 0:=by unfold st;rw[Cx.w_old hM hkp,bare_w];exact congrArg (M.w x) (by simp)
   have e2:en M'.bare (x,2)=M.w x 1:=by unfold en;rw[Cx.w_old hM hkp,bare_w];exact congrArg (M.w x) (by simp)
   obtain⟨ys,hy1,hy2⟩:=find_dir hSu (x:=(x,2)) ((Cx.live_iff hH hM x).2 (.inl hkp)) (by omega) (by rw[e1,e2];exact hb) hstar het;rw[har]at hy1;cases hy1;rw[bare_eof,e1,e2]at hy2;refine⟨hy2,?_,?_⟩
   ·have:=hM.oldl x hkp
    rw[bare_len]at this;exact this
   ·have:=Cx.w_old hM hkp 2
    rw[bare_w,bare_w]at this;exact this
  ·have he':edgeOf M'.bare (M.bare.w x 0) (M.bare.w x 1) (starL M'.bare b ts 0 K)=some (t,j):=by
    rw[bare_eof,bare_w,bare_w];exact he
   have:=gone_edge hH hM hxc (fun y hy=>by
    obtain⟨i,hi,rfl⟩:=mem_star.1 hy;exact(hstar.has i).1) he'
   simp only[bare_w,bare_len]at this;exact this
end
end Dc
end Go.Proofs.YtdihefgleefhmaaGreat
namespace Go.Proofs.YtdihefgleefhmaaGreat
namespace Dd
open Pe Cu Cv Po Ao Da Cz Db Ki Kx Kw
section
variable (M:Mesh)
theorem bare_real(t:Int):Mr.realB M.bare t=Mr.realB M t:=by
 unfold Mr.realB;rw[bare_len,bare_at];rfl
theorem bare_first:Fi.firstReal M.bare=Fi.firstReal M:=by
 unfold Fi.firstReal realsTo;rw[bare_len];simp only[bare_real]
theorem bare_beyond(t i:Nat)(p:Pt):beyond M.bare (tat M.bare.tris t) i p=beyond M (tat M.tris t) i p:=by
 unfold beyond oriE;rw[bare_v,bare_v];rfl
theorem bare_fb(t:Nat)(p:Pt):firstBeyond M.bare (tat M.bare.tris t) p=firstBeyond M (tat M.tris t) p:=by
 unfold firstBeyond;simp only[bare_beyond]
theorem bare_withinE(t:Nat)(p:Pt):∀k,withinE M.bare t p k=withinE M t p k
 | 0=>rfl
 | k+1=>by
  unfold withinE oriE;simp only[bare_v,bare_withinE t p k];rfl
theorem bare_withinP(t:Nat)(p:Pt):∀k,withinP M.bare t p k=withinP M t p k
 | 0=>bare_withinE M t p 3
 | k+1=>by
  unfold withinP;simp only[bare_v,bare_withinP t p k];rfl
theorem bare_within(t:Nat)(p:Pt):within M.bare t p=within M t p:=bare_withinP M t p 3
theorem bare_find(p:Pt):∀f t s,findGo M.bare p f t s=findGo M p f t s
 | 0,_,_=>rfl
 | f+1,t,s=>by
  unfold findGo;simp only[bare_fb,bare_n,bare_real,bare_within,bare_find p f]
end
section
variable {c:Cfg} {S:Int→Prop} {M:Mesh} {v n k:Nat} {cs:List Nat} {F:Nat→Nat×Nat}
theorem at_point(hc:c.Ok)(h:Del c S M){x:Nat}(hx:S x){q:Place}(hf:Kx.Found c S M x q):q.kind=2:=by
 rcases hf with⟨t,f,hh,rfl⟩|⟨u,rfl,hl,hv⟩
 ·have hex:∃i,i<3∧pat c.pts (f i)=pat c.pts x:=by
   refine Classical.byContradiction fun hn=>?_
   have hne:∀i,i<3→pat c.pts (f i)≠pat c.pts x:=fun i hi e=>hn ⟨i,hi,e⟩
   have h1:=inc_in _ _ _ _ (hh.on 0 (by omega)) (hh.on 1 (by omega)) (hh.on 2 (by omega)) (hh.real.ori h (i:=0) (by omega)) (hne _ (by omega)) (hne _ (by omega)) (hne _ (by omega));have h2:=delaunay hc h hh.real.live (hh.real.at_ 0 (by omega)) (hh.real.at_ 1 (by omega)) (hh.real.at_ 2 (by omega)) hx;exact absurd h1 (Int.not_lt.2 h2)
  obtain⟨i,hi,he⟩:=hex
  have w:∀i,i<3→pat M.pts ((tat M.tris t).v i).toNat=pat c.pts (f i):=fun i hi=>by
   have e:(tat M.tris t).v i=f i:=hh.real.at_ i hi;rw[e,h.pts];rfl
  unfold within withinP
  split
  ·rfl
  ·rename_i n0
   unfold withinP
   split
   ·rfl
   ·rename_i n1
    unfold withinP
    split
    ·rfl
    ·rename_i n2
     exfalso
     rcases(show i=0∨i=1∨i=2 by omega)with rfl|rfl|rfl
     ·exact n0 ((w 0 (by omega)).trans he)
     ·exact n1 ((w 1 (by omega)).trans he)
     ·exact n2 ((w 2 (by omega)).trans he)
 ·exfalso
  unfold Mesh.vis at hv;have hz:=fun a b e=>Pg.zero (Kg.alt c) a b e
  by_cases e2:(x:Int)=M.w u 2
  ·rw[e2,hz]at hv;exact absurd hv (by decide)
  ·by_cases e1:(x:Int)=M.w u 1
   ·have:=(Kg.alt c).s2 (M.w u 0) (M.w u 2) (M.w u 1) x
    rw[e1,hz]at this;rw[e1]at hv;omega
   ·by_cases e0:(x:Int)=M.w u 0
    ·have h1:=Pg.rot (Kg.alt c) (M.w u 0) (M.w u 1) (M.w u 2) x
     rw[e0,hz]at h1;rw[e0]at hv;omega
    ·have:=h.poly.emp u hl x hx e0 e1 e2
     omega
theorem start_grown(h:Del c S M.bare)(hv:New c S v)(hc:c.Ok){q:Place}(hf:Kx.Found c S M.bare v q):Grown M (digStart M q):=by
 have one:∀t:Nat,∀q:Place,q.kind≠1→q.tri=t→Grown M (digStart M q):=fun t q hk ht=>by
  have e:digStart M q=[t]:=by unfold digStart;rw[if_neg hk,ht];rfl
  rw[e];intro i h0 h1;simp only[List.length_cons,List.length_nil]at h1;omega
 rcases hf with⟨t,f,hh,rfl⟩|⟨u,rfl,hl,hvu⟩
 ·rcases Kz.within_cases h hv hh with e|⟨j,hj,h0,e⟩
  ·rw[e]
   exact one t _ (by simp) rfl
  ·rw[e]
   obtain⟨u,e1,e2,e3⟩:=over_vis hc h hv hh hj h0;have ea:=Kz.across_at h hh.real hj;rw[e1,bare_across]at ea;rw[bare_n]at e1
   have ed:digStart M ⟨1,t,min (f ((j+1)%3):Int) (f ((j+2)%3)),max (f ((j+1)%3):Int) (f ((j+2)%3))⟩=[t,u]:=by
    unfold digStart;rw[if_pos rfl];simp only[Int.toNat_natCast];rw[ea];rfl
   rw[ed];intro i h0 h1;simp only[List.length_cons,List.length_nil]at h1;obtain rfl:i=1:=by omega
   refine⟨0,j,by omega,hj,?_⟩;show M.out (t,j)=u
   unfold Mesh.out;rw[e1];rfl
 ·exact one u _ (by simp) rfl
theorem st_lt(h:Hole c S M v cs F k)(i:Nat):st M (F i)<c.pts.length∧en M (F i)<c.pts.length:=by
 obtain⟨s1,s2,_⟩:=Cx.st_S h i;constructor
 ·rcases h.del.nat _ s1 with e|⟨n,e,hn⟩<;>omega
 ·rcases h.del.nat _ s2 with e|⟨n,e,hn⟩<;>omega
theorem rim_few(h:Hole c S M v cs F k)(hs:∀i j,i<k→j<k→st M (F i)=st M (F j)→i=j):k≤c.pts.length+1:=by
 have hb:∀i,-1≤st M (F i)∧st M (F i)<c.pts.length:=fun i=>by
  refine⟨?_,(st_lt h i).1⟩;rcases h.del.nat _ (Cx.st_S h i).1 with e|⟨n,e,hn⟩<;>omega
 have:=Dq.nodup_len (c.pts.length+1) ((List.range k).map fun i=>(st M (F i)+1).toNat) (by
  rw[List.nodup_iff_pairwise_ne,List.pairwise_map];refine List.pairwise_lt_range.imp_of_mem fun {a b} ha hb' hab e=>?_
  rw[List.mem_range]at ha hb';have h1:=hb a;have h2:=hb b;have:=hs a b ha hb' (by omega)
  omega) fun x hx=>by
   obtain⟨i,_,rfl⟩:=List.mem_map.1 hx;have:=hb i;omega
 simpa using this
theorem sd_bare(x:Nat×Nat):sd M.bare x=unf (sd M x):=by
 have e1:∀j,(tat M.bare.tris x.1).v j=(tat M.tris x.1).v j:=fun j=>bare_v M _ j
 have e2:∀j,(tat M.bare.tris x.1).n j=(tat M.tris x.1).n j:=fun j=>bare_n M _ j
 have e3:(tat M.bare.tris x.1).f x.2=false:=by
  rw[bare_at];rcases x.2 with _|_|_<;>rfl
 have e4:∀u y,nidx (tat M.bare.tris u) y=nidx (tat M.tris u) y:=fun u y=>by rw[bare_at];rfl
 unfold sd sideOf unf;simp only[e1,e2,e3,e4]
theorem bare_stepOk{A:Mesh}{s:Side}{v:Nat}(h:StepOk A.bare (unf s) v):StepOk A s v:=by
 obtain⟨b1,b2⟩:=bare_make A s.a s.b v;obtain⟨⟨h1,h2,h3⟩,h4,h5,h6,h7⟩:=h;rw[bare_len]at h1 h3;have e1:(unf s).a=s.a:=rfl;have e2:(unf s).b=s.b:=rfl;rw[e1,e2,←b1,bare_len]at h5 h6 h7;rw[←b2]at h5;exact⟨⟨h1,h2,h3⟩,h4,h5,h6,h7⟩
theorem fill_ok(h:Hole c S M.bare v cs F k)(g:Good c S M.bare n)(hs:∀i j,i<k→j<k→st M.bare (F i)=st M.bare (F j)→i=j)(hn:n+c.pts.length+1≤100000000)(hcn:cs.Nodup)(cv:Cavity)(hcs:cv.tris=cs)(hlen:cv.rim.length=k)(hr:∀i,i<k→cv.rim.getD i Side.zero=sd M (F i))(sp:Side→Bool) :
 FillOk M v cv sp:=by
 have hin:=Cx.fillIn h hcn g.free g.fnod g.dead
 have hr0:∀j,(cv.rim.map unf).getD j Side.zero=unf (cv.rim.getD j Side.zero):=fun j=>by
  rw[List.getD_eq_getElem?_getD,List.getD_eq_getElem?_getD,List.getElem?_map];cases cv.rim[j]?<;>rfl
 have hr':∀i,i<k→(cv.rim.map unf).getD i Side.zero=sd M.bare (F i):=fun i hi=>by rw[hr0,hr i hi,sd_bare]
 have hfill:=fun j hj=>Kq.fill (v:=v) hin hr' j hj
 have hbm:=fun j=>bare_makeN v (dropN M cs cs.length) cv.rim (cv.rim.map unf) hr0 j
 have h2:=Cx.two h;have hk:=rim_few h hs;have hfew:=g.few;have hcl:cs.length≤M.bare.tris.length:=Dq.nodup_len _ _ hcn fun t ht=>(h.live t ht).1
 have hfl:M.bare.free.length≤M.bare.tris.length:=Dq.nodup_len _ _ g.fnod fun t ht=>(g.free t ht).1
 have hpl:c.pts.length=M.bare.at_.length:=by rw[g.atl,g.del.pts]
 have hvl:=h.new.lt;have hfl2:M.free.length≤M.bare.tris.length:=hfl;refine⟨fun t ht=>by have:=(h.live t (hcs▸ht)).1;rw[bare_len]at this;exact this,by rw[hcs];omega,by rw[hlen];omega,by rw[hlen];omega,fun j hj=>?_,fun j hj=>?_⟩
 ·rw[hlen]at hj
  rw[hcs,hr j hj];obtain⟨b1,b2⟩:=hbm j;rw[bare_dropN]at b1 b2;refine bare_stepOk ?_;rw[b1,←sd_bare];have hA:=hfill j (by omega);obtain⟨A,hAe⟩:∃A,makeN v (dropN M.bare cs cs.length) (cv.rim.map unf) j=A:=⟨_,rfl⟩;rw[hAe]at hA ⊢;obtain⟨m1,m2,m3,m4,m5,m6,m7,m8,m9,m10⟩:=Kp.made_at A.1 (Tri.new (st M.bare (F j)) (en M.bare (F j)) v) (fun n hn=>(hA.free n hn).1) hA.fnod;have hfl':A.1.free.length≤A.1.tris.length:=Dq.nodup_len _ _ hA.fnod fun t ht=>(hA.free t ht).1
  have hgr:=hA.grow;have hle:=hA.len;obtain⟨l1,l2⟩:=st_lt h j;obtain⟨o1,o2,o3,o4⟩:=hin.out j hj
  have hml:(A.1.made (Tri.new (st M.bare (F j)) (en M.bare (F j)) v)).1.tris.length≤A.1.tris.length+1:=by
   rcases Nat.lt_or_ge (A.1.tris.length+1) (A.1.made (Tri.new (st M.bare (F j)) (en M.bare (F j)) v)).1.tris.length with h'|h'
   ·have x1:=m8 A.1.tris.length (Nat.le_refl _) (by omega)
    have x2:=m8 (A.1.tris.length+1) (by omega) h';omega
   ·exact h'
  have hatl:=hA.atl;have e3:(sd M.bare (F j)).out=M.bare.out (F j):=o1
  have e4:(sd M.bare (F j)).i=M.bare.ix (F j):=by
   show nidx (tat M.bare.tris ((tat M.bare.tris (F j).1).n (F j).2).toNat) (F j).1=_
   rw[←o3];rfl
  have hol:=o2.1.1;refine⟨⟨by omega,by omega,fun n hn=>(hA.free n hn).1⟩,⟨by show st M.bare (F j)<_;omega,by show en M.bare (F j)<_;omega,by omega⟩,?_,?_,?_,?_,?_,?_⟩
  ·exact m1
  ·show(A.1.made (Tri.new (st M.bare (F j)) (en M.bare (F j)) v)).1.tris.length≤_
   omega
  ·rw[e3];omega
  ·rw[e3]
   show M.bare.out (F j)<(A.1.made (Tri.new (st M.bare (F j)) (en M.bare (F j)) v)).1.tris.length
   omega
  ·rw[e4];omega
  ·rw[e4];simpa using o4
 ·rw[hlen]at hj
  dsimp only;rw[hcs,hlen];obtain⟨b1,b2⟩:=hbm k;rw[bare_dropN]at b1 b2;have hA:=hfill k (Nat.le_refl _);have hbl:=bare_linkN (makeN v (dropN M cs cs.length) cv.rim k).2 sp cv.rim (cv.rim.map unf) (makeN v (dropN M cs cs.length) cv.rim k).1 j;rw[b1,b2]at hbl;rw[b2];have hll:=bare_len (linkN (makeN v (dropN M.bare cs cs.length) (cv.rim.map unf) k).2 sp cv.rim (makeN v (dropN M cs cs.length) cv.rim k).1 j);rw[hbl]at hll;obtain⟨A,hAe⟩:∃A,makeN v (dropN M.bare cs cs.length) (cv.rim.map unf) k=A:=⟨_,rfl⟩;rw[hAe]at hA hll ⊢
  have hL:=Kr.linked h2 hA.msl hA.nod (fun y hy=>(hA.lt y hy).1) (fun i hi l hl=>by
   rw[hA.tri i hi];rcases(show l=0∨l=1∨l=2 by omega)with rfl|rfl|rfl<;>rfl) (cv.rim.map unf) j (by omega)
  have hgr:=hA.grow;have hm:∀i,i<k→A.2.getD i 0∈A.2:=fun i hi=>Kq.getD_mem (by have:=hA.msl;omega)
  unfold LinkOk;rw[←hll,hL.len,hA.msl];exact⟨(hA.lt _ (hm j hj)).1,(hA.lt _ (hm _ (Nat.mod_lt _ (by omega)))).1,by omega⟩
theorem from_any(h:Del c S M)(fr:Int)(hl:∃t,M.live t):∃t0:Nat,(if Mr.realB M fr=true then fr else Fi.firstReal M)=t0∧Mr.realB M t0=true:=by
 by_cases hr:Mr.realB M fr=true
 ·rw[if_pos hr]
  have:0≤fr:=by
   unfold Mr.realB at hr;simp only[Bool.and_eq_true,decide_eq_true_eq]at hr;omega
  refine⟨fr.toNat,by omega,?_⟩;rw[show((fr.toNat:Nat):Int)=fr by omega];exact hr
 ·rw[if_neg hr]
  obtain⟨t,hl⟩:=hl;obtain⟨u,hu⟩:=Kz.ex_real h hl;exact Kz.first_real hu
theorem step_at(hc:c.Ok)(g:Good c S M.bare n){x:Nat}(hx:S x)(fr:Int) :
 ∃(t0:Nat) (q:Place) (i:Nat),(if Mr.realB M fr=true then fr else Fi.firstReal M)=t0∧Mr.realB M t0=true∧findGo M (pat c.pts x) (M.tris.length+1) t0 0=some (q,i)∧q.kind=2:=by
 obtain⟨z,_,_,sz,_⟩:=g.del.z;obtain⟨t,_,hl,_⟩:=g.at1 z sz;obtain⟨t0,e0,hr0⟩:=from_any g.del fr ⟨t,hl⟩;obtain⟨q,i,hf,hfo⟩:=find_some hc g.del (v:=x) (M.bare.tris.length+1) t0 0 [] hr0 List.nodup_nil (fun u hu=>by simp at hu) (by simp);rw[bare_find,bare_len]at hf;rw[bare_real,bare_first]at e0;rw[bare_real]at hr0;exact⟨t0,q,i,e0,hr0,hf,at_point hc g.del hx hfo⟩
theorem step(hc:c.Ok)(g:Good c S M.bare n)(hv:New c S v)(P:List Nat)(hP:P.Nodup)(hS:∀x:Nat,S x↔x∈P)(hn:n+c.pts.length+1≤100000000)(fr:Int) :
 ∃(t0:Nat) (q:Place) (i:Nat),(if Mr.realB M fr=true then fr else Fi.firstReal M)=t0∧Mr.realB M t0=true∧findGo M (pat M.pts v) (M.tris.length+1) t0 0=some (q,i)∧q.kind≠2∧(∃t:Nat,q.tri=t∧M.live t)∧
  (q.kind=1→∃(t:Nat) (f:Nat→Nat) (j:Nat),Real c S M.bare t f∧j<3∧q=⟨1,t,min (f ((j+1)%3):Int) (f ((j+2)%3)),max (f ((j+1)%3):Int) (f ((j+2)%3))⟩)∧
  ∀C,dig M (pat M.pts v) q=C→∀sp,FillOk M v C sp∧∀M',filled M v C sp=M'→
   ∃L k,iat M'.at_ v≥0∧around M' k v=some L∧L.length=k∧k=C.tris.length+2∧(∀y∈L,y.2=2∧SideAt M M' (pat c.pts v) y.1)∧(Eu.liveL M').length=(Eu.liveL M).length+2∧(∀x,M.live x→KeptAt M M' C.tris x)∧(∀x∈C.tris,M.live x)∧C.tris.Nodup:=by
 obtain⟨z,_,_,sz,_⟩:=g.del.z;obtain⟨t,_,hl,_⟩:=g.at1 z sz;obtain⟨t0,e0,hr0⟩:=from_any g.del fr ⟨t,hl⟩;obtain⟨q,i,hf,hfo⟩:=find_some hc g.del (v:=v) (M.bare.tris.length+1) t0 0 [] hr0 List.nodup_nil (fun u hu=>by simp at hu) (by simp);obtain⟨s1,s2,s3,s4,s5,s6⟩:=Kz.start_ok hc g.del hv hfo;rw[bare_find,bare_len]at hf;rw[bare_real,bare_first]at e0;rw[bare_real]at hr0;rw[bare_start]at s3 s4 s5;have hst:Dq.Taken M (digStart M q):=⟨s3.nodup,fun t ht=>(bare_live M t).1 (s3.live t ht)⟩;have hsg:=start_grown g.del hv hc hfo;have hpt:M.pts=c.pts:=g.del.pts;rw[hpt];obtain⟨t1,h1,h2⟩:=s2;refine⟨t0,q,i,e0,hr0,hf,s1,⟨t1,h1,(bare_live M t1).1 h2⟩,s6,fun C hC sp=>⟨?_,fun M' hM'=>Dc.law hc g hv P hP hS q hst s4 s5 hsg C hC sp M' hM'⟩⟩;obtain⟨F,k,hH,hnd,hk,hlen,hrim,hs,hvs,hcf⟩:=Cy.dug hc g hv P hP hS q hst s4 s5 hsg;rw[hC]at hH hnd hk hlen hrim hvs hcf;exact fill_ok hH g (fun i j hi hj e=>hs i j hi hj (by rw[(bare_st M _).1,(bare_st M _).1]at e;exact e)) hn hnd C rfl hlen hrim sp
end
end Dd
end Go.Proofs.YtdihefgleefhmaaGreat
