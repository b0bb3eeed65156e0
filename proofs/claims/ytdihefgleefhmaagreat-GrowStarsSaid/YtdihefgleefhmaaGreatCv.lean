import Derived.Test.YtdihefgleefhmaaGreatEu
namespace Go.Proofs.YtdihefgleefhmaaGreat
namespace Cv
open Cu Pe
section
variable {M:Mesh} {pt:Pt}
theorem app_grown{cs:List Nat}{i' j u:Nat}(hg:Grown M cs)(hi:i'<cs.length)(hj:j<3)(ho:M.out (cs.getD i' 0,j)=u):Grown M (cs++[u]):=fun i h0 hn=>by
 rw[List.length_append]at hn;simp only[List.length_cons,List.length_nil]at hn
 have e:∀m,m<cs.length→(cs++[u]).getD m 0=cs.getD m 0:=fun m hm=>by
  rw[List.getD_eq_getElem?_getD,List.getD_eq_getElem?_getD,List.getElem?_append_left hm]
 rcases Nat.lt_or_ge i cs.length with h|h
 ·obtain⟨a,b,h1,h2,h3⟩:=hg i h0 h
  exact⟨a,b,h1,h2,by rw[e a (by omega),e i h];exact h3⟩
 ·have hil:i=cs.length:=by omega
  subst hil;refine⟨i',j,hi,hj,?_⟩;rw[e i' hi,ho,List.getD_eq_getElem?_getD,List.getElem?_append_right (Nat.le_refl _)];simp
theorem one_grown{cs:List Nat}{i' j u:Nat}(hg:Grown M cs)(hi:i'<cs.length)(hj:j<3)(ho:M.out (cs.getD i' 0,j)=u)(f:Bool):Grown M (digOne M pt cs u f):=by
 unfold digOne
 split
 ·exact hg
 ·split
  ·exact hg
  ·split
   ·exact app_grown hg hi hj ho
   ·exact hg
theorem tri_grown{cs:List Nat}{i':Nat}(hg:Grown M cs)(hi:i'<cs.length):∀k,k≤3→Grown M (digTri M pt (tat M.tris (cs.getD i' 0)) k cs)∧cs <+: digTri M pt (tat M.tris (cs.getD i' 0)) k cs
 | 0,_=>⟨hg,List.prefix_rfl⟩
 | k+1,hk=>by
  obtain⟨h1,h2⟩:=tri_grown hg hi k (by omega);refine⟨one_grown (i':=i') (j:=k) h1 (Nat.lt_of_lt_of_le hi h2.length_le) (by omega) ?_ _,h2.trans (Dq.one_le _ _ _ _ _)⟩
  have e:(digTri M pt (tat M.tris (cs.getD i' 0)) k cs).getD i' 0=cs.getD i' 0:=by
   obtain⟨r,hr⟩:=h2;rw[←hr,List.getD_eq_getElem?_getD,List.getD_eq_getElem?_getD,List.getElem?_append_left hi]
  rw[e];rfl
theorem go_grown:∀(f k:Nat) (cs:List Nat),Grown M cs→Grown M (digGo M pt f k cs)
 | 0,_,_,h=>h
 | f+1,k,cs,h=>by
  unfold digGo
  split
  ·exact go_grown f (k+1) _ (tri_grown h (by assumption) 3 (Nat.le_refl _)).1
  ·exact h
theorem go_in(hs:M.sane):∀(f k:Nat) (cs:List Nat),Dq.Taken M cs→(∀t∈cs,conflict M (tat M.tris t) pt=true)→Dq.Taken M (digGo M pt f k cs)∧cs <+: digGo M pt f k cs∧∀t∈digGo M pt f k cs,conflict M (tat M.tris t) pt=true
 | 0,_,_,h,hv=>⟨h,List.prefix_rfl,hv⟩
 | f+1,k,cs,h,hv=>by
  unfold digGo
  split
  ·rename_i hk
   have hl:M.live (cs.getD k 0):=h.live _ (by rw[getD_at hk];exact List.getElem_mem _)
   have tri:∀n,n≤3→Dq.Taken M (digTri M pt (tat M.tris (cs.getD k 0)) n cs):=by
    intro n
    induction n with
    | zero=>exact fun _=>h
    | succ n ih=>
     intro hn;obtain⟨u,e,hu⟩:=hs.nb _ hl n (by omega);unfold digTri;rw[e];exact(ih (by omega)).one hu _
   obtain⟨g1,g2,g3⟩:=go_in hs f (k+1) _ (tri 3 (Nat.le_refl _)) (tri_vis (tat M.tris (cs.getD k 0)) cs hv 3)
   have pre:∀n,cs <+: digTri M pt (tat M.tris (cs.getD k 0)) n cs:=by
    intro n
    induction n with
    | zero=>exact List.prefix_rfl
    | succ n ih=>exact ih.trans (Dq.one_le _ _ _ _ _)
   exact⟨g1,(pre 3).trans g2,g3⟩
  ·exact⟨h,List.prefix_rfl,hv⟩
theorem path_get:∀(L:List (Nat×Nat)) (a b:Int),Path M a L b→(∀x,L[0]? =some x→st M x=a)∧(∀i x y,L[i]? =some x→L[i+1]? =some y→st M y=en M x)∧∀x,L[L.length-1]? =some x→en M x=b
 | [],_,_,_=>⟨fun x h=>by simp at h,fun i x y h=>by simp at h,fun x h=>by simp at h⟩
 | z::L,a,b,⟨h1,h2⟩=>by
  obtain⟨g1,g2,g3⟩:=path_get L (en M z) b h2;refine⟨fun x hx=>by simp at hx;subst hx;exact h1,fun i x y hx hy=>?_,fun x hx=>?_⟩
  ·cases i with
   | zero=>
    simp at hx;subst hx;rw[List.getElem?_cons_succ]at hy;exact g1 y hy
   | succ i=>
    rw[List.getElem?_cons_succ]at hx hy;exact g2 i x y hx hy
  ·cases L with
   | nil=>simp at hx;subst hx;exact h2
   | cons y L=>exact g3 x (by simpa using hx)
theorem rim_fn{X:List Nat}{L:List (Nat×Nat)}(r:Rimmed M X L){x0:Nat×Nat}(h0:x0∈L):∃F:Nat→Nat×Nat,F 0=x0∧(∀i,F i∈L)∧(∀i,st M (F (i+1))=en M (F i))∧(∀i,F (i+L.length)=F i)∧(∀i j,i<j→j<L.length→F i≠F j)∧∀x∈L,∃i,i<L.length∧F i=x:=by
 obtain⟨l1,l2,hL⟩:=List.append_of_mem h0;obtain⟨a,hp⟩:=r.cyc;rw[hL,path_append]at hp;obtain⟨c,p1,p2,p3⟩:=hp;obtain⟨R,hR⟩:∃R,x0::l2++l1=R:=⟨_,rfl⟩
 have hpR:Path M (st M x0) R (st M x0):=by
  rw[←hR];exact(path_append _ _ _ _).2 ⟨a,⟨rfl,p3⟩,by rw[p2];exact p1⟩
 have hRp:R.Perm L:=by
  rw[←hR,hL];exact List.perm_append_comm
 have hRl:R.length=L.length:=hRp.length_eq;have hk:0<L.length:=by rw[r.len];omega
 have hRn:R.Nodup:=hRp.nodup_iff.2 (nodup_of r.nd);have hg:∀i (h:i%L.length<R.length),R[i%L.length]? =some R[i%L.length]:=fun i h=>List.getElem?_eq_getElem h
 have hlt:∀i,i%L.length<R.length:=fun i=>by rw[hRl];exact Nat.mod_lt _ hk
 obtain⟨q1,q2,q3⟩:=path_get R _ _ hpR;refine⟨fun i=>R[i%L.length]'(hlt i),?_,fun i=>?_,fun i=>?_,fun i=>?_,fun i j hij hj=>?_,fun x hx=>?_⟩
 ·simp only[Nat.zero_mod]
  have:R[0]? =some x0:=by rw[←hR];rfl
  rw[List.getElem?_eq_getElem (by omega)]at this;exact Option.some.inj this
 ·exact hRp.mem_iff.1 (List.getElem_mem _)
 ·simp only
  by_cases hw:i%L.length+1=L.length
  ·have e:(i+1)%L.length=0:=by rw[←Nat.mod_add_mod,hw,Nat.mod_self]
   have g1:=q1 (R[0]'(by omega)) (List.getElem?_eq_getElem _);have g3:=q3 (R[i%L.length]'(hlt i)) (by rw[←hg i (hlt i)];congr 1;omega);rw[g3];simp only[e];exact g1
  ·have hl:=Nat.mod_lt i hk
   have e:(i+1)%L.length=i%L.length+1:=by rw[←Nat.mod_add_mod,Nat.mod_eq_of_lt (by omega)]
   have hl2:i%L.length+1<R.length:=by omega
   have g:=q2 (i%L.length) (R[i%L.length]'(hlt i)) (R[i%L.length+1]'hl2) (hg i (hlt i)) (List.getElem?_eq_getElem _);rw[←g];simp only[e]
 ·simp only[Nat.add_mod_right]
 ·simp only[Nat.mod_eq_of_lt (show i<L.length by omega),Nat.mod_eq_of_lt hj]
  rw[List.nodup_iff_pairwise_ne,List.pairwise_iff_getElem]at hRn;exact hRn i j (by omega) (by omega) hij
 ·obtain⟨i,hi,e⟩:=List.getElem_of_mem (hRp.mem_iff.2 hx)
  refine⟨i,by omega,?_⟩;simp only[Nat.mod_eq_of_lt (show i<L.length by omega)];exact e
end
section
variable {c:Cfg} {S:Int→Prop} {M M':Mesh} {v n k:Nat} {cs:List Nat} {F:Nat→Nat×Nat} {m:Nat→Nat}
open Eu Ks
theorem lives_made(h:Dug c S M v cs F k)(hM:Made M M' cs F k v m)(hn:cs.Nodup):(liveL M').length+cs.length=(liveL M).length+k:=by
 have hp:(liveL M').Perm (((liveL M).filter fun t=>decide (t ∉ cs))++(List.range k).map m):=by
  refine(List.perm_ext_iff_of_nodup (List.nodup_range.filter _) ?_).2 fun x=>?_
  ·rw[List.nodup_append]
   refine⟨(List.nodup_range.filter _).filter _,?_,fun a ha b hb e=>?_⟩
   ·rw[List.nodup_iff_pairwise_ne,List.pairwise_map]
    refine List.pairwise_lt_range.imp_of_mem fun {i j} hi hj hij e=>?_
    rw[List.mem_range]at hi hj;have:=hM.inj i j hi hj e;omega
   ·rw[List.mem_filter,decide_eq_true_eq,mem_live]at ha
    obtain⟨i,hi,rfl⟩:=List.mem_map.1 hb;rw[List.mem_range]at hi;exact(hM.nk i hi).1 (e▸ha)
  ·show x∈liveL M'↔_
   rw[mem_live,Kt.live_iff h hM,List.mem_append,List.mem_filter,decide_eq_true_eq,mem_live,List.mem_map];constructor
   ·rintro(hk|⟨i,hi,rfl⟩)
    ·exact .inl hk
    ·exact .inr ⟨i,List.mem_range.2 hi,rfl⟩
   ·rintro(hk|⟨i,hi,rfl⟩)
    ·exact .inl hk
    ·exact .inr ⟨i,List.mem_range.1 hi,rfl⟩
 have h1:=hp.length_eq;have h2:=rest_len (C:=liveL M) (X:=cs) (List.nodup_range.filter _) hn (fun t ht=>(mem_live t).2 (h.cav.sub t ht).1);rw[List.length_append,List.length_map,List.length_range]at h1;omega
theorem rim_count(g:Good c S M n)(h:Dug c S M v cs F k)(hn:cs.Nodup)(P:List Nat)(hP:P.Nodup)(hS:∀x:Nat,S x↔x∈P):k=cs.length+2:=by
 have hin:=Ks.fillIn h hn g.free g.fnod g.dead
 have hf:=Kq.fill (v:=v) hin (rim:=(List.range k).map fun i=>sd M (F i)) (fun i hi=>by
  rw[List.getD_eq_getElem?_getD,List.getElem?_map,List.getElem?_range hi];rfl) k (Nat.le_refl _)
 have hM:=Kr.made (Ks.two h) hf hin ((List.range k).map fun i=>sd M (F i));have g':=Ja.good h g hM;have h1:=lives h.ok g P hP hS
 have h2:=lives h.ok g' (v::P) (List.nodup_cons.2 ⟨fun hm=>h.new.new ((hS v).2 hm),hP⟩) (fun x=>by
  rw[List.mem_cons,←hS];constructor
  ·rintro(h'|h')
   ·exact .inr h'
   ·exact .inl (by omega)
  ·rintro(rfl|h')
   ·exact .inr rfl
   ·exact .inl h')
 have h3:=lives_made h hM hn;simp only[List.length_cons]at h2;omega
end
def bareT(t:Tri):Tri:={t with f0:=false,f1:=false,f2:=false }
end Cv
def Mesh.bare(M:Mesh):Mesh:={M with tris:=M.tris.map Cv.bareT }
namespace Cv
open Pe Cu
section
variable {M:Mesh}
theorem bare_at(M:Mesh)(t:Nat):tat M.bare.tris t=bareT (tat M.tris t):=by
 unfold Mesh.bare tat;simp only[List.getD_eq_getElem?_getD,List.getElem?_map];cases M.tris[t]?<;>rfl
theorem bare_len(M:Mesh):M.bare.tris.length=M.tris.length:=by unfold Mesh.bare;simp
theorem bare_w(M:Mesh)(t j:Nat):M.bare.w t j=M.w t j:=by
 unfold Mesh.w;rw[bare_at];rcases j with _|_|_<;>rfl
theorem bare_v(M:Mesh)(t j:Nat):(tat M.bare.tris t).v j=(tat M.tris t).v j:=bare_w M t j
theorem bare_n(M:Mesh)(t j:Nat):(tat M.bare.tris t).n j=(tat M.tris t).n j:=by
 rw[bare_at];rcases j with _|_|_<;>rfl
theorem bare_live(M:Mesh)(t:Nat):M.bare.live t↔M.live t:=by
 unfold Mesh.live;rw[bare_len,bare_at];rfl
theorem bare_plain(M:Mesh):M.bare.plain:=fun t _ j _=>by
 rw[bare_at];rcases j with _|_|_<;>rfl
theorem bare_conf(M:Mesh)(u:Nat)(p:Pt):conflict M.bare (tat M.bare.tris u) p=conflict M (tat M.tris u) p:=by
 rw[bare_at];rfl
theorem bare_out(M:Mesh)(x:Nat×Nat):M.bare.out x=M.out x:=by unfold Mesh.out;rw[bare_n]
theorem bare_across(M:Mesh)(t:Nat)(a b:Int):acrossOf (tat M.bare.tris t) a b=acrossOf (tat M.tris t) a b:=by
 rw[bare_at];rfl
theorem bare_start(M:Mesh)(q:Place):digStart M.bare q=digStart M q:=by
 unfold digStart;rw[bare_across]
theorem bare_sane(h:M.bare.sane):M.sane where
 nb t ht j hj:=by
  obtain⟨u,e,hu⟩:=h.nb t ((bare_live M t).2 ht) j hj;rw[bare_n]at e;exact⟨u,e,(bare_live M u).1 hu⟩
 vs t ht j hj hne:=by
  have:=h.vs t ((bare_live M t).2 ht) j hj (by rw[bare_v];exact hne);rw[bare_v]at this;exact this
 g0 t ht:=by
  have:=h.g0 t ((bare_live M t).2 ht);rw[bare_at]at this;exact this
 g1 t ht:=by
  have:=h.g1 t ((bare_live M t).2 ht);rw[bare_at]at this;exact this
theorem bare_st(M:Mesh)(x:Nat×Nat):st M.bare x=st M x∧en M.bare x=en M x:=⟨bare_w M _ _,bare_w M _ _⟩
theorem bare_path(M:Mesh):∀(L:List (Nat×Nat)) (a b:Int),Path M.bare a L b↔Path M a L b
 | [],_,_=>Iff.rfl
 | x::L,a,b=>by
  unfold Path;rw[(bare_st M x).1,(bare_st M x).2,bare_path M L]
theorem bare_grown{cs:List Nat} : Grown M.bare cs↔Grown M cs:=by
 unfold Grown;simp only[bare_out]
theorem bare_rimmed{X:List Nat}{L:List (Nat×Nat)}(r:Rimmed M.bare X L):Rimmed M X L where
 live t ht:=(bare_live M t).1 (r.live t ht)
 nod:=r.nod
 mem x:=by rw[r.mem,bare_out]
 cyc:=by
  obtain⟨a,h⟩:=r.cyc;exact⟨a,(bare_path M _ _ _).1 h⟩
 nd:=by
  have:=r.nd;rw[show L.map (st M.bare)=L.map (st M)from List.map_congr_left fun x _=>(bare_st M x).1]at this;exact this
 vs b:=by
  have:=r.vs b;rw[show L.map (st M.bare)=L.map (st M)from List.map_congr_left fun x _=>(bare_st M x).1]at this;rw[this];simp only[bare_w]
 len:=r.len
end
section
variable {c:Cfg} {S:Int→Prop} {M:Mesh} {v n:Nat}
open Ki
theorem cut(hc:c.Ok)(g:Good c S M.bare n)(hv:New c S v)(P:List Nat)(hP:P.Nodup)(hS:∀x:Nat,S x↔x∈P)(q:Place)(hst:Dq.Taken M (digStart M q))(hsv:∀t∈digStart M q,M.bare.vis c.D v t)(hne:digStart M q≠[])(hsg:Grown M (digStart M q)) :
  ∃L,Rimmed M (digGo M (pat c.pts v) (M.tris.length+1) 0 (digStart M q)) L∧(∀t∈digGo M (pat c.pts v) (M.tris.length+1) 0 (digStart M q),conflict M (tat M.tris t) (pat c.pts v)=true)∧Dq.Taken M (digGo M (pat c.pts v) (M.tris.length+1) 0 (digStart M q))∧digStart M q <+: digGo M (pat c.pts v) (M.tris.length+1) 0 (digStart M q):=by
 have hstb:Dq.Taken M.bare (digStart M.bare q):=by
  rw[bare_start];exact⟨hst.nodup,fun u hu=>(bare_live M u).2 (hst.live u hu)⟩
 have hsb:∀t∈digStart M.bare q,M.bare.vis c.D v t:=by rw[bare_start];exact hsv
 have hcv:∀t,M.live t→(conflict M (tat M.tris t) (pat c.pts v)=true↔M.bare.vis c.D v t):=fun t ht=>by
  rw[←bare_conf];exact(conflict_vis hc g.del hv ((bare_live M t).2 ht)).1
 obtain⟨F,k,hD,hcn,hlen,_⟩:=Kv.dug hc g.del hv g.plain q hstb hsb (by rw[bare_start];exact hne);have hk:=rim_count g hD hcn P hP hS;obtain⟨C,hC⟩:∃C,digGo M.bare (pat c.pts v) (M.bare.tris.length+1) 0 (digStart M.bare q)=C:=⟨_,rfl⟩;obtain⟨X,hX⟩:∃X,digGo M (pat c.pts v) (M.tris.length+1) 0 (digStart M q)=X:=⟨_,rfl⟩;have hcs:(dig M.bare (pat c.pts v) q).tris=isort C:=by rw[←hC];rfl
 rw[hcs]at hD hcn hk;obtain⟨c1,c2,c3⟩:=go_in (M:=M.bare) (pt:=pat c.pts v) (Kv.sane g.del) (M.bare.tris.length+1) 0 (digStart M.bare q) hstb (fun t ht=>(conflict_vis hc g.del hv (hstb.live t ht)).1.2 (hsb t ht));obtain⟨x1,x2,x3⟩:=go_in (M:=M) (pt:=pat c.pts v) (bare_sane (Kv.sane g.del)) (M.tris.length+1) 0 (digStart M q) hst (fun t ht=>(hcv t (hst.live t ht)).2 (hsv t ht));have hgC:Grown M.bare C:=hC▸go_grown _ _ _ (by rw[bare_start];exact bare_grown.2 hsg);have hgX:Grown M X:=hX▸go_grown _ _ _ hsg;rw[hC]at c1 c2 c3;rw[hX]at x1 x2 x3 ⊢;have hperm:(isort C).Perm C:=(List.perm_ext_iff_of_nodup hcn c1.nodup).2 fun x=>Dq.isort_mem C x
 have hXC:∀t∈X,t∈C:=fun t ht=>hperm.mem_iff.1 (hD.all t ((bare_live M t).2 (x1.live t ht)) ((hcv t (x1.live t ht)).1 (x3 t ht)))
 have hs0:∀(l l':List Nat),l <+: l'→l≠[]→l'.getD 0 0=l.getD 0 0:=fun l l' ⟨r,hr⟩ hl=>by
  subst hr;cases l with
  | nil=>exact absurd rfl hl
  | cons a l=>rfl
 have hap:=apart hc g.del hv
 obtain⟨L,r⟩:=rim_of (surf g.del.poly) hgC c1.live c1.nodup (V:=(List.range k).map fun i=>st M.bare (F i)) (by
   rw[List.nodup_iff_pairwise_ne,List.pairwise_map];refine List.pairwise_lt_range.imp_of_mem fun {i j} hi hj hij e=>?_
   rw[List.mem_range]at hi hj;have:=Pc.rim_un1 g.del.poly (Kg.alt c) hap hD.cav hD.cav (hD.rim.flag i) (hD.rim.flag j) e;exact hD.rim.inj i j hij hj (Prod.ext this.1 this.2)) (fun b hb=>by
   obtain⟨i,_,rfl⟩:=List.mem_map.1 hb;exact⟨(F i).1,hperm.mem_iff.1 (hD.rim.flag i).1,_,Nat.mod_lt _ (by omega),rfl⟩) (by rw[List.length_map,List.length_range,hk,hperm.length_eq])
  (bare_grown.2 hgX) x1.nodup hXC (by
   have:=x2.length_le;have:0<(digStart M q).length:=List.length_pos_iff.2 hne;omega) (by rw[hs0 _ _ c2 (by rw[bare_start];exact hne),hs0 _ _ x2 hne,bare_start])
 exact⟨L,bare_rimmed r,x3,x1,x2⟩
end
end Cv
end Go.Proofs.YtdihefgleefhmaaGreat
