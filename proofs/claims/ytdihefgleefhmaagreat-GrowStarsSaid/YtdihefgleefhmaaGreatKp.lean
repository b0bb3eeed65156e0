import Derived.Test.YtdihefgleefhmaaGreatPd
import Derived.Test.YtdihefgleefhmaaGreatKd
namespace Go.Proofs.YtdihefgleefhmaaGreat
namespace Kp
theorem setN_v(t:Tri)(i j:Nat)(x:Int):(t.setN i x).v j=t.v j:=by
 rcases i with _|_|i<;>rfl
theorem setF_v(t:Tri)(i j:Nat)(x:Bool):(t.setF i x).v j=t.v j:=by
 rcases i with _|_|i<;>rfl
theorem setF_n(t:Tri)(i j:Nat)(x:Bool):(t.setF i x).n j=t.n j:=by
 rcases i with _|_|i<;>rfl
theorem setN_f(t:Tri)(i j:Nat)(x:Int):(t.setN i x).f j=t.f j:=by
 rcases i with _|_|i<;>rfl
theorem setN_n(t:Tri){i j:Nat}(hi:i<3)(hj:j<3)(x:Int):(t.setN i x).n j=if j=i then x else t.n j:=by
 rcases(show i=0∨i=1∨i=2 by omega)with rfl|rfl|rfl<;>rcases(show j=0∨j=1∨j=2 by omega)with rfl|rfl|rfl<;>rfl
theorem setF_f(t:Tri){i j:Nat}(hi:i<3)(hj:j<3)(x:Bool):(t.setF i x).f j=if j=i then x else t.f j:=by
 rcases(show i=0∨i=1∨i=2 by omega)with rfl|rfl|rfl<;>rcases(show j=0∨j=1∨j=2 by omega)with rfl|rfl|rfl<;>rfl
theorem tri_ext{s t:Tri}(hv:∀j,j<3→s.v j=t.v j)(hn:∀j,j<3→s.n j=t.n j)(hf:∀j,j<3→s.f j=t.f j):s=t:=by
 obtain⟨a,b,c,d,e,f,g,h,i⟩:=s;obtain⟨a',b',c',d',e',f',g',h',i'⟩:=t;have v0:a=a':=hv 0 (by omega);have v1:b=b':=hv 1 (by omega);have v2:c=c':=hv 2 (by omega);have n0:d=d':=hn 0 (by omega);have n1:e=e':=hn 1 (by omega);have n2:f=f':=hn 2 (by omega);have f0:g=g':=hf 0 (by omega);have f1:h=h':=hf 1 (by omega);have f2:i=i':=hf 2 (by omega);subst v0 v1 v2 n0 n1 n2 f0 f1 f2;rfl
theorem set_len(M:Mesh)(t:Nat)(x:Tri):(M.setTri t x).tris.length=M.tris.length:=by unfold Mesh.setTri;simp
theorem set_at(M:Mesh){t:Nat}(x:Tri)(ht:t<M.tris.length)(u:Nat):tat (M.setTri t x).tris u=if u=t then x else tat M.tris u:=by
 unfold Mesh.setTri
 split
 ·rename_i h;subst h;exact tat_set_same _ _ _ ht
 ·rename_i h;exact tat_set_other _ _ _ _ (fun e=>h e.symm)
theorem link_len(M:Mesh)(t i u j:Nat)(f:Bool):(M.link t i u j f).tris.length=M.tris.length:=by unfold Mesh.link;simp only[set_len]
theorem link_rest(M:Mesh)(t i u j:Nat)(f:Bool):(M.link t i u j f).free=M.free∧(M.link t i u j f).at_=M.at_∧(M.link t i u j f).pts=M.pts:=⟨rfl,rfl,rfl⟩
theorem set2_at(M:Mesh){t u:Nat}(X Y:Tri)(ht:t<M.tris.length)(hu:u<M.tris.length)(x:Nat):tat ((M.setTri t X).setTri u Y).tris x=if x=u then Y else if x=t then X else tat M.tris x:=by
 rw[set_at _ _ (by rw[set_len];exact hu),set_at _ _ ht]
theorem link_eq(M:Mesh){t i u j:Nat}(f:Bool)(ht:t<M.tris.length)(hu:u<M.tris.length)(htu:t≠u) :
  M.link t i u j f=(((M.setTri t ((tat M.tris t).setN i u)).setTri u ((tat M.tris u).setN j t)).setTri t (((tat M.tris t).setN i u).setF i f)).setTri u (((tat M.tris u).setN j t).setF j f):=by
 unfold Mesh.link;simp only;have e1:tat (M.setTri t ((tat M.tris t).setN i u)).tris u=tat M.tris u:=by rw[set_at _ _ ht,if_neg (fun e=>htu e.symm)]
 rw[e1];have e2:tat ((M.setTri t ((tat M.tris t).setN i u)).setTri u ((tat M.tris u).setN j t)).tris t=(tat M.tris t).setN i u:=by rw[set2_at _ _ _ ht hu,if_neg htu,if_pos rfl]
 rw[e2]
 have e3:tat (((M.setTri t ((tat M.tris t).setN i u)).setTri u ((tat M.tris u).setN j t)).setTri t (((tat M.tris t).setN i u).setF i f)).tris u=(tat M.tris u).setN j t:=by
  rw[set_at _ _ (by simp only[set_len];exact ht),if_neg (fun e=>htu e.symm),set2_at _ _ _ ht hu,if_pos rfl]
 rw[e3]
theorem link_at(M:Mesh){t i u j:Nat}(f:Bool)(ht:t<M.tris.length)(hu:u<M.tris.length)(hi:i<3)(hj:j<3)(htu:t≠u)(x:Nat) :
  (∀l,(tat (M.link t i u j f).tris x).v l=(tat M.tris x).v l)∧(∀l,l<3→(tat (M.link t i u j f).tris x).n l=if x=t∧l=i then (u:Int) else if x=u∧l=j then (t:Int) else (tat M.tris x).n l)∧
  (∀l,l<3→(tat (M.link t i u j f).tris x).f l=if x=t∧l=i then f else if x=u∧l=j then f else (tat M.tris x).f l):=by
 have key:tat (M.link t i u j f).tris x=if x=u then ((tat M.tris u).setN j t).setF j f else if x=t then ((tat M.tris t).setN i u).setF i f else tat M.tris x:=by
  rw[link_eq M f ht hu htu,set2_at _ _ _ (by simp only[set_len];exact ht) (by simp only[set_len];exact hu)];by_cases h1:x=u
  ·rw[if_pos h1,if_pos h1]
  ·rw[if_neg h1,if_neg h1]
   by_cases h2:x=t
   ·rw[if_pos h2,if_pos h2]
   ·rw[if_neg h2,if_neg h2,set2_at _ _ _ ht hu,if_neg h1,if_neg h2]
 rw[key];by_cases h1:x=u
 ·subst h1
  rw[if_pos rfl];refine⟨fun l=>by rw[setF_v,setN_v],fun l hl=>?_,fun l hl=>?_⟩
  ·rw[setF_n,setN_n _ hj hl,if_neg (show ¬(x=t∧l=i)from fun e=>htu e.1.symm)]
   by_cases e:l=j
   ·rw[if_pos e,if_pos ⟨rfl,e⟩]
   ·rw[if_neg e,if_neg (fun h=>e h.2)]
  ·rw[setF_f _ hj hl,setN_f,if_neg (show ¬(x=t∧l=i)from fun e=>htu e.1.symm)]
   by_cases e:l=j
   ·rw[if_pos e,if_pos ⟨rfl,e⟩]
   ·rw[if_neg e,if_neg (fun h=>e h.2)]
 ·rw[if_neg h1]
  by_cases h2:x=t
  ·subst h2
   rw[if_pos rfl];refine⟨fun l=>by rw[setF_v,setN_v],fun l hl=>?_,fun l hl=>?_⟩
   ·rw[setF_n,setN_n _ hi hl]
    by_cases e:l=i
    ·rw[if_pos e,if_pos ⟨rfl,e⟩]
    ·rw[if_neg e,if_neg (fun h=>e h.2),if_neg (fun h=>h1 h.1)]
   ·rw[setF_f _ hi hl,setN_f]
    by_cases e:l=i
    ·rw[if_pos e,if_pos ⟨rfl,e⟩]
    ·rw[if_neg e,if_neg (fun h=>e h.2),if_neg (fun h=>h1 h.1)]
  ·rw[if_neg h2]
   refine⟨fun _=>rfl,fun l _=>?_,fun l _=>?_⟩
   ·rw[if_neg (fun h=>h2 h.1),if_neg (fun h=>h1 h.1)]
   ·rw[if_neg (fun h=>h2 h.1),if_neg (fun h=>h1 h.1)]
theorem made_at(M:Mesh)(T:Tri)(hf:∀n∈M.free,n<M.tris.length)(hd:M.free.Nodup):(M.made T).2<(M.made T).1.tris.length∧tat (M.made T).1.tris (M.made T).2=T∧(∀x,x≠(M.made T).2→x<M.tris.length→tat (M.made T).1.tris x=tat M.tris x)∧
  ((M.made T).2∈M.free∨(M.made T).2=M.tris.length)∧(∀n∈(M.made T).1.free,n∈M.free∧n≠(M.made T).2)∧(M.made T).1.free.Nodup∧M.tris.length≤(M.made T).1.tris.length∧(∀x,M.tris.length≤x→x<(M.made T).1.tris.length→x=(M.made T).2)∧
  (M.made T).1.at_=M.at_∧(M.made T).1.pts=M.pts:=by
 unfold Mesh.made;cases hl:M.free.getLast? with
 | none=>
  have h0:M.free=[]:=List.getLast?_eq_none_iff.1 hl;dsimp only;refine⟨by simp,?_,fun x hx hxl=>?_,.inr rfl,fun n hn=>by rw[h0]at hn;simp at hn,by rw[h0];exact List.nodup_nil,by simp,fun x h1 h2=>by simp at h2;omega,rfl,rfl⟩
  ·unfold tat;simp
  ·unfold tat;rw[List.getD_eq_getElem?_getD,List.getElem?_append_left hxl,←List.getD_eq_getElem?_getD]
 | some n=>
  obtain⟨l,hl'⟩:∃l,M.free=l++[n]:=List.getLast?_eq_some_iff.1 hl;have hn:n<M.tris.length:=hf n (by rw[hl'];simp);have hdl:M.free.dropLast=l:=by rw[hl'];simp
  rw[hl']at hd;have hnd:=List.nodup_append.1 hd;dsimp only;refine⟨by simpa using hn,tat_set_same _ _ _ hn,fun x hx _=>tat_set_other _ _ _ _ (fun e=>hx e.symm),.inl (by rw[hl'];simp),fun m hm=>?_,by rw[hdl];exact hnd.1,by simp,fun x h1 h2=>by simp at h2;omega,rfl,rfl⟩;rw[hdl]at hm;exact⟨by rw[hl'];simp[hm],fun e=>hnd.2.2 m hm n (by simp) e⟩
theorem setAt_at(l:List Int)(v:Int)(n x:Nat):iat (setAt l v n) x=if v=x∧x<l.length then (n:Int) else iat l x:=by
 unfold setAt iat;by_cases hv:0≤v
 ·rw[if_pos hv,List.getD_eq_getElem?_getD,List.getD_eq_getElem?_getD,List.getElem?_set]
  by_cases e:v.toNat=x
  ·rw[if_pos e]
   by_cases hx:x<l.length
   ·rw[if_pos (by omega),if_pos ⟨by omega,hx⟩];rfl
   ·rw[if_neg (by omega),if_neg (fun h=>hx h.2),List.getElem?_eq_none (by omega)]
  ·rw[if_neg e,if_neg (fun h=>e (by omega))]
 ·rw[if_neg hv,if_neg (fun h=>by omega)]
theorem setAt_len(l:List Int)(v:Int)(n:Nat):(setAt l v n).length=l.length:=by unfold setAt;split<;>simp
end Kp
end Go.Proofs.YtdihefgleefhmaaGreat
namespace Go.Proofs.YtdihefgleefhmaaGreat
def Mesh.out(M:Mesh)(x:Nat×Nat):Nat:=((tat M.tris x.1).n x.2).toNat
def Mesh.ix(M:Mesh)(x:Nat×Nat):Nat:=(nidx (tat M.tris (M.out x)) x.1).toNat
def Mesh.kept(M:Mesh)(cs:List Nat)(x:Nat):Prop:=M.live x∧x ∉ cs
structure FillIn(M:Mesh)(cs:List Nat)(F:Nat→Nat×Nat)(k:Nat):Prop where
 lt:∀t∈cs,t<M.tris.length
 nod:cs.Nodup
 e:∀i,i<k→(F i).2<3
 out:∀i,i<k→(tat M.tris (F i).1).n (F i).2=M.out (F i)∧M.kept cs (M.out (F i))∧nidx (tat M.tris (M.out (F i))) (F i).1=M.ix (F i)∧M.ix (F i)<3
 plain:∀i,i<k→(tat M.tris (F i).1).f (F i).2=false
 apart:∀i j,i<k→j<k→M.out (F i)=M.out (F j)→M.ix (F i)=M.ix (F j)→i=j
 free:∀n∈M.free,n<M.tris.length∧tat M.tris n=Tri.gone
 fnod:M.free.Nodup
 dead:∀x,x<M.tris.length→(tat M.tris x).v0=-2→tat M.tris x=Tri.gone
 live:∀t∈cs,M.live t
def touch(M:Mesh)(F:Nat→Nat×Nat)(v i x:Nat):Prop:=Pe.st M (F i)=x∨Pe.en M (F i)=x∨v=x
structure Filled(M:Mesh)(cs:List Nat)(F:Nat→Nat×Nat)(v j:Nat)(A:Mesh×List Nat):Prop where
 len:M.tris.length≤A.1.tris.length
 grow:A.1.tris.length≤M.tris.length+j
 pts:A.1.pts=M.pts
 atl:A.1.at_.length=M.at_.length
 msl:A.2.length=j
 nod:A.2.Nodup
 lt:∀y∈A.2,y<A.1.tris.length∧¬M.kept cs y
 tri:∀i,i<j→tat A.1.tris (A.2.getD i 0)=⟨Pe.st M (F i),Pe.en M (F i),v,-1,-1,M.out (F i),false,false,false⟩
 oldv:∀x,M.kept cs x→∀l,(tat A.1.tris x).v l=(tat M.tris x).v l
 oldf:∀x,M.kept cs x→∀l,l<3→(tat A.1.tris x).f l=false∨(tat A.1.tris x).f l=(tat M.tris x).f l
 oldn:∀x,M.kept cs x→∀l,l<3→(∀i,i<j→¬(M.out (F i)=x∧M.ix (F i)=l))→(tat A.1.tris x).n l=(tat M.tris x).n l
 new:∀i,i<j→(tat A.1.tris (M.out (F i))).n (M.ix (F i))=(A.2.getD i 0:Nat)
 free:∀n∈A.1.free,n<A.1.tris.length∧n ∉ A.2∧tat A.1.tris n=Tri.gone∧¬M.kept cs n
 fnod:A.1.free.Nodup
 rest:∀x,x<A.1.tris.length→M.kept cs x∨x∈A.2∨tat A.1.tris x=Tri.gone
 at1:∀x:Nat,(∀i,i<j→¬touch M F v i x)→iat A.1.at_ x=iat M.at_ x
 at2:∀x:Nat,x<M.at_.length→∀i,i<j→touch M F v i x→∃i',i'<j∧touch M F v i' x∧iat A.1.at_ x=(A.2.getD i' 0:Nat)
namespace Kq
open Kp
theorem dropN_at(M:Mesh)(cs:List Nat)(hl:∀t∈cs,t<M.tris.length):∀j,j≤cs.length→(∀x,tat (dropN M cs j).tris x=if x∈cs.take j then Tri.gone else tat M.tris x)∧(dropN M cs j).free=M.free++cs.take j∧(dropN M cs j).at_=M.at_∧(dropN M cs j).pts=M.pts∧(dropN M cs j).tris.length=M.tris.length
 | 0,_=>⟨fun x=>by simp[dropN],by simp[dropN],rfl,rfl,rfl⟩
 | j+1,hj=>by
  obtain⟨h1,h2,h3,h4,h5⟩:=dropN_at M cs hl j (by omega);have hm:cs.getD j 0∈cs:=by rw[List.getD_eq_getElem?_getD,List.getElem?_eq_getElem (by omega)];exact List.getElem_mem _
  have ht:cs.take (j+1)=cs.take j++[cs.getD j 0]:=by
   rw[List.take_add_one,List.getD_eq_getElem?_getD,List.getElem?_eq_getElem (by omega)];rfl
  unfold dropN Mesh.drop;refine⟨fun x=>?_,by dsimp only;rw[h2,ht,List.append_assoc],h3,h4,by dsimp only;rw[set_len,h5]⟩;dsimp only;rw[set_at _ _ (by rw[h5];exact hl _ hm),h1 x,ht];by_cases e:x=cs.getD j 0
  ·rw[if_pos e,if_pos (by rw[e];simp)]
  ·rw[if_neg e]
   by_cases e2:x∈cs.take j
   ·rw[if_pos e2,if_pos (by simp[e2])]
   ·rw[if_neg e2,if_neg (by simp[e2];exact fun h=>e h)]
section
variable {M:Mesh} {cs:List Nat} {F:Nat→Nat×Nat} {k v:Nat}
theorem start(h:FillIn M cs F k):Filled M cs F v 0 (dropN M cs cs.length,[]):=by
 obtain⟨h1,h2,h3,h4,h5⟩:=dropN_at M cs h.lt cs.length (Nat.le_refl _);rw[List.take_of_length_le (Nat.le_refl _)]at h1 h2;have hk:∀x,M.kept cs x→tat (dropN M cs cs.length).tris x=tat M.tris x:=fun x hx=>by rw[h1,if_neg hx.2]
 refine⟨by rw[h5];exact Nat.le_refl _,by rw[h5];exact Nat.le_refl _,h4,by rw[h3],rfl,List.nodup_nil,fun y hy=>by simp at hy,fun i hi=>by omega,fun x hx l=>by rw[hk x hx],fun x hx l _=>.inr (by rw[hk x hx]),fun x hx l _ _=>by rw[hk x hx],fun i hi=>by omega,fun n hn=>?_,?_,fun x hx=>?_,fun x _=>by rw[h3],fun x _ i hi=>by omega⟩
 ·rw[h2]at hn
  rcases List.mem_append.1 hn with hn|hn
  ·obtain⟨a,b⟩:=h.free n hn
   refine⟨by rw[h5];exact a,by simp,?_,fun hx=>?_⟩
   ·rw[h1]
    split
    ·rfl
    ·exact b
   ·have:=hx.1.2
    rw[b]at this;exact this rfl
  ·exact⟨by rw[h5];exact h.lt n hn,by simp,by rw[h1,if_pos hn],fun hx=>hx.2 hn⟩
 ·rw[h2,List.nodup_append]
  refine⟨h.fnod,h.nod,fun a ha b hb e=>?_⟩;have:=(h.live b hb).2;rw[←e,(h.free a ha).2]at this;exact this rfl
 ·rw[h5]at hx
  by_cases hc:x∈cs
  ·exact .inr (.inr (by rw[h1,if_pos hc]))
  ·by_cases hv:(tat M.tris x).v0=-2
   ·exact .inr (.inr (by rw[h1,if_neg hc];exact h.dead x hx hv))
   ·exact .inl ⟨⟨hx,hv⟩,hc⟩
theorem getD_app(l:List Nat)(y i:Nat):(l++[y]).getD i 0=if i<l.length then l.getD i 0 else if i=l.length then y else 0:=by
 rw[List.getD_eq_getElem?_getD];by_cases h:i<l.length
 ·rw[if_pos h,List.getElem?_append_left h,←List.getD_eq_getElem?_getD]
 ·rw[if_neg h,List.getElem?_append_right (by omega)]
  by_cases e:i=l.length
  ·rw[if_pos e,e];simp
  ·rw[if_neg e,List.getElem?_eq_none (by simp;omega)];rfl
theorem getD_mem{l:List Nat}{i:Nat}(h:i<l.length):l.getD i 0∈l:=by rw[List.getD_eq_getElem?_getD,List.getElem?_eq_getElem h];exact List.getElem_mem _
theorem step(h:FillIn M cs F k){j:Nat}(hj:j<k){A:Mesh×List Nat}(hA:Filled M cs F v j A):Filled M cs F v (j+1) (rimStep v A (Pe.sd M (F j))):=by
 obtain⟨o1,o2,o3,o4⟩:=h.out j hj;have hpl:=h.plain j hj;obtain⟨m1,m2,m3,m4,m5,m6,m7,m8,m9,m10⟩:=Kp.made_at A.1 (Tri.new (Pe.st M (F j)) (Pe.en M (F j)) v) (fun n hn=>(hA.free n hn).1) hA.fnod;obtain⟨y,hy⟩:∃y,(A.1.made (Tri.new (Pe.st M (F j)) (Pe.en M (F j)) v)).2=y:=⟨_,rfl⟩;obtain⟨B0,hB0⟩:∃B0,(A.1.made (Tri.new (Pe.st M (F j)) (Pe.en M (F j)) v)).1=B0:=⟨_,rfl⟩;rw[hB0]at m1 m2 m3 m5 m6 m7 m8 m9 m10;rw[hy]at m1 m2 m3 m4 m5 m8
 have hst:rimStep v A (Pe.sd M (F j))=(({B0 with at_:=setAt (setAt (setAt B0.at_ (Pe.st M (F j)) y) (Pe.en M (F j)) y) v y } : Mesh).link y 2 (M.out (F j)) (M.ix (F j)) false,A.2++[y]):=by
  unfold rimStep Mesh.make;dsimp only;have e1:(Pe.sd M (F j)).a=Pe.st M (F j):=rfl;have e2:(Pe.sd M (F j)).b=Pe.en M (F j):=rfl;have e3:(Pe.sd M (F j)).out.toNat=M.out (F j):=rfl;have e4:(Pe.sd M (F j)).i.toNat=M.ix (F j):=rfl;have e5:(Pe.sd M (F j)).fault=false:=hpl;rw[e1,e2,e3,e4,e5,hB0,hy]
 rw[hst];obtain⟨B,hB⟩:∃B:Mesh,({B0 with at_:=setAt (setAt (setAt B0.at_ (Pe.st M (F j)) y) (Pe.en M (F j)) y) v y } : Mesh)=B:=⟨_,rfl⟩;have b1:B.tris=B0.tris:=by rw[←hB]
 have b2:B.free=B0.free:=by rw[←hB]
 have b3:B.pts=B0.pts:=by rw[←hB]
 have b4:B.at_=setAt (setAt (setAt B0.at_ (Pe.st M (F j)) y) (Pe.en M (F j)) y) v y:=by rw[←hB]
 rw[hB]
 have hyk:¬M.kept cs y:=by
  rcases m4 with m4|m4
  ·exact(hA.free y m4).2.2.2
  ·intro hk
   have:=hk.1.1;have:=hA.len;omega
 have hyA:y ∉ A.2:=fun hm=>by
  rcases m4 with m4|m4
  ·exact(hA.free y m4).2.1 hm
  ·have:=(hA.lt y hm).1
   omega
 have hol:M.out (F j)<B.tris.length:=by have:=o2.1.1;have:=hA.len;rw[b1];omega
 have hyl:y<B.tris.length:=by rw[b1];exact m1
 have hyo:y≠M.out (F j):=fun e=>hyk (e▸o2)
 have hlk:=link_at B (i:=2) (j:=M.ix (F j)) false hyl hol (by omega) o4 hyo;obtain⟨r1,r2,r3⟩:=link_rest B y 2 (M.out (F j)) (M.ix (F j)) false;have r0:=link_len B y 2 (M.out (F j)) (M.ix (F j)) false;obtain⟨C,hC⟩:∃C,B.link y 2 (M.out (F j)) (M.ix (F j)) false=C:=⟨_,rfl⟩;rw[hC]at hlk r0 r1 r2 r3 ⊢
 have hgr:B0.tris.length≤A.1.tris.length+1:=by
  rcases Nat.lt_or_ge (A.1.tris.length+1) B0.tris.length with h'|h'
  ·have x1:=m8 A.1.tris.length (Nat.le_refl _) (by omega)
   have x2:=m8 (A.1.tris.length+1) (by omega) h';omega
  ·exact h'
 have hother:∀x,x≠y→x<A.1.tris.length→tat B.tris x=tat A.1.tris x:=fun x hx hxl=>by rw[b1];exact m3 x hx hxl
 have hmsd:∀i,i<j→(A.2++[y]).getD i 0=A.2.getD i 0:=fun i hi=>by rw[getD_app,if_pos (by rw[hA.msl];exact hi)]
 have hmsj:(A.2++[y]).getD j 0=y:=by rw[getD_app,if_neg (by rw[hA.msl];omega),if_pos hA.msl.symm]
 have hmi:∀i,i<j→A.2.getD i 0∈A.2:=fun i hi=>getD_mem (by rw[hA.msl];exact hi)
 have hkl:∀x,M.kept cs x→x<A.1.tris.length:=fun x hx=>by have:=hx.1.1;have:=hA.len;omega
 have hky:∀x,M.kept cs x→x≠y:=fun x hx e=>hyk (e▸hx)
 refine⟨by rw[r0,b1];have:=hA.len;omega,by rw[r0,b1];have:=hA.grow;omega,by rw[r3,b3,m10];exact hA.pts,by rw[r2,b4];simp only[setAt_len];rw[m9];exact hA.atl,by simp[hA.msl],?_,?_,?_,?_,?_,?_,?_,?_,by rw[r1,b2];exact m6,?_,?_,?_⟩
 ·rw[List.nodup_append]
  exact⟨hA.nod,by simp,fun a ha b hb e=>hyA (by rw[List.mem_singleton]at hb;rw[←hb,←e];exact ha)⟩
 ·intro z hz
  rcases List.mem_append.1 hz with hz|hz
  ·obtain⟨q1,q2⟩:=hA.lt z hz
   exact⟨by rw[r0,b1];omega,q2⟩
  ·rw[List.mem_singleton]at hz
   subst hz;exact⟨by rw[r0];exact hyl,hyk⟩
 ·intro i hi
  by_cases e:i=j
  ·subst e
   rw[hmsj];obtain⟨q1,q2,q3⟩:=hlk y;refine tri_ext (fun l hl=>?_) (fun l hl=>?_) (fun l hl=>?_)
   ·rw[q1,b1,m2]
    rcases(show l=0∨l=1∨l=2 by omega)with rfl|rfl|rfl<;>rfl
   ·rw[q2 l hl,b1,m2]
    rcases(show l=0∨l=1∨l=2 by omega)with rfl|rfl|rfl
    ·rw[if_neg (by omega),if_neg (fun e=>hyo e.1)];rfl
    ·rw[if_neg (by omega),if_neg (fun e=>hyo e.1)];rfl
    ·rw[if_pos ⟨rfl,rfl⟩];rfl
   ·rw[q3 l hl,b1,m2]
    rcases(show l=0∨l=1∨l=2 by omega)with rfl|rfl|rfl
    ·rw[if_neg (by omega),if_neg (fun e=>hyo e.1)];rfl
    ·rw[if_neg (by omega),if_neg (fun e=>hyo e.1)];rfl
    ·rw[if_pos ⟨rfl,rfl⟩];rfl
  ·have hij:i<j:=by omega
   rw[hmsd i hij];have hmem:=hmi i hij;have hne:A.2.getD i 0≠y:=fun e=>hyA (e▸hmem)
   have hno:A.2.getD i 0≠M.out (F j):=fun e=>(hA.lt _ hmem).2 (e▸o2)
   obtain⟨q1,q2,q3⟩:=hlk (A.2.getD i 0);have hsame:=hother _ hne (hA.lt _ hmem).1;rw[←hA.tri i hij];refine tri_ext (fun l hl=>?_) (fun l hl=>?_) (fun l hl=>?_)
   ·rw[q1,hsame]
   ·rw[q2 l hl,if_neg (fun e=>hne e.1),if_neg (fun e=>hno e.1),hsame]
   ·rw[q3 l hl,if_neg (fun e=>hne e.1),if_neg (fun e=>hno e.1),hsame]
 ·intro x hx l
  rw[(hlk x).1,hother x (hky x hx) (hkl x hx)];exact hA.oldv x hx l
 ·intro x hx l hl
  rw[(hlk x).2.2 l hl,if_neg (fun e=>hky x hx e.1)]
  split
  ·exact .inl rfl
  ·rw[hother x (hky x hx) (hkl x hx)]
   exact hA.oldf x hx l hl
 ·intro x hx l hl hno
  rw[(hlk x).2.1 l hl,if_neg (fun e=>hky x hx e.1),if_neg (fun e=>hno j (by omega) ⟨e.1.symm,e.2.symm⟩),hother x (hky x hx) (hkl x hx)];exact hA.oldn x hx l hl fun i hi=>hno i (by omega)
 ·intro i hi
  obtain⟨p1,p2,p3,p4⟩:=h.out i (by omega);rw[(hlk _).2.1 _ p4,if_neg (fun e=>hky _ p2 e.1)];by_cases e:i=j
  ·subst e
   rw[if_pos ⟨rfl,rfl⟩,hmsj]
  ·have hij:i<j:=by omega
   rw[if_neg (fun e'=>e (h.apart i j (by omega) hj e'.1 e'.2)),hother _ (hky _ p2) (hkl _ p2),hmsd i hij];exact hA.new i hij
 ·intro n hn
  rw[r1,b2]at hn;obtain⟨f1,f2⟩:=m5 n hn;obtain⟨g1,g2,g3,g4⟩:=hA.free n f1;refine⟨by rw[r0,b1];omega,fun hm=>?_,?_,g4⟩
  ·rcases List.mem_append.1 hm with hm|hm
   ·exact g2 hm
   ·rw[List.mem_singleton]at hm;exact f2 hm
  ·have hno:n≠M.out (F j):=fun e=>g4 (e▸o2)
   obtain⟨q1,q2,q3⟩:=hlk n;rw[←g3,←hother n f2 g1];refine tri_ext (fun l hl=>q1 l) (fun l hl=>?_) (fun l hl=>?_)
   ·rw[q2 l hl,if_neg (fun e=>f2 e.1),if_neg (fun e=>hno e.1)]
   ·rw[q3 l hl,if_neg (fun e=>f2 e.1),if_neg (fun e=>hno e.1)]
 ·intro x hx
  rw[r0,b1]at hx;by_cases e:x=y
  ·exact .inr (.inl (by rw[e];simp))
  ·have hxl:x<A.1.tris.length:=by
    rcases Nat.lt_or_ge x A.1.tris.length with h'|h'
    ·exact h'
    ·exact absurd (m8 x h' hx) e
   rcases hA.rest x hxl with h'|h'|h'
   ·exact .inl h'
   ·exact .inr (.inl (by simp[h']))
   ·by_cases ek:M.kept cs x
    ·exact .inl ek
    ·right;right
     have hno:x≠M.out (F j):=fun e=>ek (e▸o2)
     obtain⟨q1,q2,q3⟩:=hlk x;rw[←h',←hother x e hxl];refine tri_ext (fun l hl=>q1 l) (fun l hl=>?_) (fun l hl=>?_)
     ·rw[q2 l hl,if_neg (fun e'=>e e'.1),if_neg (fun e=>hno e.1)]
     ·rw[q3 l hl,if_neg (fun e'=>e e'.1),if_neg (fun e=>hno e.1)]
 ·intro x hno
  rw[r2,b4];have hj':¬touch M F v j x:=hno j (by omega);unfold touch at hj';rw[setAt_at,if_neg (fun e=>hj' (.inr (.inr (by omega)))),setAt_at,if_neg (fun e=>hj' (.inr (.inl e.1))),setAt_at,if_neg (fun e=>hj' (.inl e.1)),m9];exact hA.at1 x fun i hi=>hno i (by omega)
 ·intro x hxl i hi ht
  have hBl:x<B0.at_.length:=by rw[m9,hA.atl];exact hxl
  by_cases hj':touch M F v j x
  ·refine⟨j,by omega,hj',?_⟩
   rw[r2,b4,hmsj,setAt_at];by_cases c3:(v:Int)=x
   ·rw[if_pos ⟨c3,by simp only[setAt_len];exact hBl⟩]
   ·rw[if_neg (fun e=>c3 e.1),setAt_at]
    by_cases c2:Pe.en M (F j)=x
    ·rw[if_pos ⟨c2,by simp only[setAt_len];exact hBl⟩]
    ·rw[if_neg (fun e=>c2 e.1),setAt_at]
     rcases hj' with c1|c2'|c3'
     ·rw[if_pos ⟨c1,hBl⟩]
     ·exact absurd c2' c2
     ·exact absurd (by omega) c3
  ·have hij:i<j:=by
    by_cases e:i=j
    ·subst e;exact absurd ht hj'
    ·omega
   obtain⟨i',a1,a2,a3⟩:=hA.at2 x hxl i hij ht;refine⟨i',by omega,a2,?_⟩;rw[hmsd i' a1,←a3,r2,b4];unfold touch at hj';rw[setAt_at,if_neg (fun e=>hj' (.inr (.inr (by omega)))),setAt_at,if_neg (fun e=>hj' (.inr (.inl e.1))),setAt_at,if_neg (fun e=>hj' (.inl e.1)),m9]
theorem fill(h:FillIn M cs F k){rim:List Side}(hr:∀i,i<k→rim.getD i Side.zero=Pe.sd M (F i)):∀j,j≤k→Filled M cs F v j (makeN v (dropN M cs cs.length) rim j)
 | 0,_=>start h
 | j+1,hj=>by
  have:=fill h hr j (by omega);unfold makeN;rw[hr j (by omega)];exact step h (by omega) this
end
end Kq
end Go.Proofs.YtdihefgleefhmaaGreat
namespace Go.Proofs.YtdihefgleefhmaaGreat
structure Made(M M':Mesh)(cs:List Nat)(F:Nat→Nat×Nat)(k v:Nat)(m:Nat→Nat):Prop where
 inj:∀i j,i<k→j<k→m i=m j→i=j
 nk:∀i,i<k→¬M.kept cs (m i)∧m i<M'.tris.length
 tri:∀i,i<k→tat M'.tris (m i)=⟨Pe.st M (F i),Pe.en M (F i),v,m ((i+1)%k),m ((i+k-1)%k),M.out (F i),false,false,false⟩
 oldl:∀x,M.kept cs x→x<M'.tris.length
 grow:M'.tris.length≤M.tris.length+k
 oldv:∀x,M.kept cs x→∀l,(tat M'.tris x).v l=(tat M.tris x).v l
 oldf:∀x,M.kept cs x→∀l,l<3→(tat M'.tris x).f l=false∨(tat M'.tris x).f l=(tat M.tris x).f l
 oldn:∀x,M.kept cs x→∀l,l<3→(∀i,i<k→¬(M.out (F i)=x∧M.ix (F i)=l))→(tat M'.tris x).n l=(tat M.tris x).n l
 new:∀i,i<k→(tat M'.tris (M.out (F i))).n (M.ix (F i))=(m i:Nat)
 free:∀n∈M'.free,n<M'.tris.length∧tat M'.tris n=Tri.gone
 fnod:M'.free.Nodup
 rest:∀x,x<M'.tris.length→M.kept cs x∨(∃i,i<k∧x=m i)∨tat M'.tris x=Tri.gone
 pts:M'.pts=M.pts
 atl:M'.at_.length=M.at_.length
 at1:∀x:Nat,(∀i,i<k→¬touch M F v i x)→iat M'.at_ x=iat M.at_ x
 at2:∀x:Nat,x<M.at_.length→∀i,i<k→touch M F v i x→∃i',i'<k∧touch M F v i' x∧iat M'.at_ x=(m i':Nat)
namespace Kr
open Kp
theorem back_mod{i k:Nat}(hk:2≤k)(hi:i<k):(i+k-1)%k<k∧((i+k-1)%k+1)%k=i∧∀l,l<k→((l+1)%k=i↔l=(i+k-1)%k):=by
 have h1:(i+k-1)%k<k:=Nat.mod_lt _ (by omega)
 have h2:(i+k-1)%k=if i=0 then k-1 else i-1:=by
  split
  ·rename_i h;subst h;rw[Nat.zero_add,Nat.mod_eq_of_lt (by omega)]
  ·rw[show i+k-1=(i-1)+k by omega,Nat.add_mod_right,Nat.mod_eq_of_lt (by omega)]
 have h3:∀l,l<k→(l+1)%k=if l=k-1 then 0 else l+1:=fun l hl=>by
  split
  ·rename_i h;rw[h,show k-1+1=k by omega,Nat.mod_self]
  ·rw[Nat.mod_eq_of_lt (by omega)]
 refine⟨h1,?_,fun l hl=>?_⟩
 ·rw[h3 _ h1,h2]
  split<;>split<;>omega
 ·rw[h3 l hl,h2]
  split<;>split<;>omega
structure Linked(A:Mesh)(ms:List Nat)(k j:Nat)(L:Mesh):Prop where
 len:L.tris.length=A.tris.length
 rest:L.free=A.free∧L.at_=A.at_∧L.pts=A.pts
 oth:∀x,x ∉ ms→tat L.tris x=tat A.tris x
 v:∀i,i<k→∀l,(tat L.tris (ms.getD i 0)).v l=(tat A.tris (ms.getD i 0)).v l
 f:∀i,i<k→∀l,l<3→(tat L.tris (ms.getD i 0)).f l=false
 n2:∀i,i<k→(tat L.tris (ms.getD i 0)).n 2=(tat A.tris (ms.getD i 0)).n 2
 n0:∀i,i<j→(tat L.tris (ms.getD i 0)).n 0=(ms.getD ((i+1)%k) 0:Nat)
 n1:∀i,i<j→(tat L.tris (ms.getD ((i+1)%k) 0)).n 1=(ms.getD i 0:Nat)
theorem linked{A:Mesh}{ms:List Nat}{k:Nat}(hk:2≤k)(hl:ms.length=k)(hn:ms.Nodup)(hlt:∀y∈ms,y<A.tris.length)(hf:∀i,i<k→∀l,l<3→(tat A.tris (ms.getD i 0)).f l=false)(rim:List Side) :
  ∀j,j≤k→Linked A ms k j (linkN ms (fun _=>false) rim A j)
 | 0,_=>⟨rfl,⟨rfl,rfl,rfl⟩,fun _ _=>rfl,fun _ _ _=>rfl,hf,fun _ _=>rfl,fun i hi=>by omega,fun i hi=>by omega⟩
 | j+1,hj=>by
  have h:=linked hk hl hn hlt hf rim j (by omega);have hm:∀i,i<k→ms.getD i 0∈ms:=fun i hi=>Kq.getD_mem (by omega)
  have hinj:∀i i',i<k→i'<k→ms.getD i 0=ms.getD i' 0→i=i':=fun i i' hi hi' e=>by
   rw[List.getD_eq_getElem?_getD,List.getD_eq_getElem?_getD,List.getElem?_eq_getElem (by omega),List.getElem?_eq_getElem (by omega)]at e;exact(List.getElem_inj hn).1 e
  have hjk:(j+1)%k<k:=Nat.mod_lt _ (by omega)
  have hne:j≠(j+1)%k:=fun e=>by
   by_cases h':j+1=k
   ·rw[h',Nat.mod_self]at e;omega
   ·rw[Nat.mod_eq_of_lt (by omega)]at e;omega
  have htu:ms.getD j 0≠ms.getD ((j+1)%k) 0:=fun e=>hne (hinj _ _ (by omega) hjk e)
  unfold linkN;rw[hl];have hlk:=link_at (linkN ms (fun _=>false) rim A j) (t:=ms.getD j 0) (i:=0) (u:=ms.getD ((j+1)%k) 0) (j:=1) false (by rw[h.len];exact hlt _ (hm j (by omega))) (by rw[h.len];exact hlt _ (hm _ hjk)) (by omega) (by omega) htu;obtain⟨r1,r2,r3⟩:=link_rest (linkN ms (fun _=>false) rim A j) (ms.getD j 0) 0 (ms.getD ((j+1)%k) 0) 1 false;have r0:=link_len (linkN ms (fun _=>false) rim A j) (ms.getD j 0) 0 (ms.getD ((j+1)%k) 0) 1 false;generalize (linkN ms (fun _=>false) rim A j).link (ms.getD j 0) 0 (ms.getD ((j+1)%k) 0) 1 false=L at *;refine⟨by rw[r0,h.len],⟨by rw[r1,h.rest.1],by rw[r2,h.rest.2.1],by rw[r3,h.rest.2.2]⟩,fun x hx=>?_,fun i hi l=>?_,fun i hi l hl3=>?_,fun i hi=>?_,fun i hi=>?_,fun i hi=>?_⟩
  ·obtain⟨q1,q2,q3⟩:=hlk x
   have hx1:x≠ms.getD j 0:=fun e=>hx (e▸hm j (by omega))
   have hx2:x≠ms.getD ((j+1)%k) 0:=fun e=>hx (e▸hm _ hjk)
   rw[←h.oth x hx];refine tri_ext (fun l _=>q1 l) (fun l hl=>?_) (fun l hl=>?_)
   ·rw[q2 l hl,if_neg (fun e=>hx1 e.1),if_neg (fun e=>hx2 e.1)]
   ·rw[q3 l hl,if_neg (fun e=>hx1 e.1),if_neg (fun e=>hx2 e.1)]
  ·rw[(hlk _).1,h.v i hi l]
  ·rw[(hlk _).2.2 l hl3,h.f i hi l hl3]
   split
   ·rfl
   ·split<;>rfl
  ·rw[(hlk _).2.1 2 (by omega),if_neg (by omega),if_neg (by omega),h.n2 i hi]
  ·rw[(hlk _).2.1 0 (by omega)]
   by_cases e:i=j
   ·rw[if_pos ⟨by rw[e],rfl⟩,e]
   ·rw[if_neg (fun e'=>e (hinj _ _ (by omega) (by omega) e'.1)),if_neg (by omega)]
    exact h.n0 i (by omega)
  ·rw[(hlk _).2.1 1 (by omega),if_neg (by omega)]
   by_cases e:i=j
   ·rw[if_pos ⟨by rw[e],rfl⟩,e]
   ·have hik:(i+1)%k<k:=Nat.mod_lt _ (by omega)
    rw[if_neg (fun e'=>e (by
     have:=hinj _ _ hik hjk e'.1;have b:=(back_mod hk hjk).2.2;have b1:=(b i (by omega)).1 this;have b2:=(b j (by omega)).1 rfl;omega))]
    exact h.n1 i (by omega)
theorem made{M:Mesh}{cs:List Nat}{F:Nat→Nat×Nat}{k v:Nat}(hk:2≤k){A:Mesh×List Nat}(hA:Filled M cs F v k A)(hin:FillIn M cs F k)(rim:List Side):Made M (linkN A.2 (fun _=>false) rim A.1 k) cs F k v fun i=>A.2.getD i 0:=by
 have hL:=linked hk hA.msl hA.nod (fun y hy=>(hA.lt y hy).1) (fun i hi l hl=>by
  rw[hA.tri i hi];rcases(show l=0∨l=1∨l=2 by omega)with rfl|rfl|rfl<;>rfl) rim k (Nat.le_refl _)
 generalize linkN A.2 (fun _=>false) rim A.1 k=L at *;have hm:∀i,i<k→A.2.getD i 0∈A.2:=fun i hi=>Kq.getD_mem (by have:=hA.msl;omega)
 have hinj:∀i i',i<k→i'<k→A.2.getD i 0=A.2.getD i' 0→i=i':=fun i i' hi hi' e=>by
  have:=hA.msl;rw[List.getD_eq_getElem?_getD,List.getD_eq_getElem?_getD,List.getElem?_eq_getElem (by omega),List.getElem?_eq_getElem (by omega)]at e;exact(List.getElem_inj hA.nod).1 e
 have hko:∀x,M.kept cs x→x ∉ A.2:=fun x hx hm=>(hA.lt x hm).2 hx
 refine⟨hinj,fun i hi=>⟨(hA.lt _ (hm i hi)).2,by rw[hL.len];exact(hA.lt _ (hm i hi)).1⟩,fun i hi=>?_,fun x hx=>by rw[hL.len];have:=hx.1.1;have:=hA.len;omega,by rw[hL.len];exact hA.grow,fun x hx l=>by rw[hL.oth x (hko x hx)];exact hA.oldv x hx l,fun x hx l hl=>by rw[hL.oth x (hko x hx)];exact hA.oldf x hx l hl,
  fun x hx l hl hno=>by rw[hL.oth x (hko x hx)];exact hA.oldn x hx l hl hno,fun i hi=>?_,fun n hn=>?_,by rw[hL.rest.1];exact hA.fnod,fun x hx=>?_,by rw[hL.rest.2.2];exact hA.pts,by rw[hL.rest.2.1];exact hA.atl,fun x hno=>by rw[hL.rest.2.1];exact hA.at1 x hno,fun x hx i hi ht=>by rw[hL.rest.2.1];exact hA.at2 x hx i hi ht⟩
 ·have b:=back_mod hk hi
  have e1:=hL.n0 i hi;have e2:=hL.n1 _ b.1;rw[b.2.1]at e2;have e3:=hL.n2 i hi;have e4:=hA.tri i hi;refine tri_ext (fun l hl=>?_) (fun l hl=>?_) (fun l hl=>?_)
  ·rw[hL.v i hi l,e4]
   rcases(show l=0∨l=1∨l=2 by omega)with rfl|rfl|rfl<;>rfl
  ·rcases(show l=0∨l=1∨l=2 by omega)with rfl|rfl|rfl
   ·exact e1
   ·exact e2
   ·rw[e3,e4];rfl
  ·rw[hL.f i hi l hl]
   rcases(show l=0∨l=1∨l=2 by omega)with rfl|rfl|rfl<;>rfl
 ·rw[hL.oth _ (hko _ (hin.out i hi).2.1)]
  exact hA.new i hi
 ·rw[hL.rest.1]at hn
  obtain⟨a,b,c',_⟩:=hA.free n hn;exact⟨by rw[hL.len];exact a,by rw[hL.oth n b];exact c'⟩
 ·rw[hL.len]at hx
  rcases hA.rest x hx with h'|h'|h'
  ·exact .inl h'
  ·obtain⟨i,hi,e⟩:=List.getElem_of_mem h'
   exact .inr (.inl ⟨i,by have:=hA.msl;omega,by rw[List.getD_eq_getElem?_getD,List.getElem?_eq_getElem hi];exact e.symm⟩)
  ·by_cases hx2:x∈A.2
   ·obtain⟨i,hi,e⟩:=List.getElem_of_mem hx2
    exact .inr (.inl ⟨i,by have:=hA.msl;omega,by rw[List.getD_eq_getElem?_getD,List.getElem?_eq_getElem hi];exact e.symm⟩)
   ·exact .inr (.inr (by rw[hL.oth x hx2];exact h'))
end Kr
end Go.Proofs.YtdihefgleefhmaaGreat
namespace Go.Proofs.YtdihefgleefhmaaGreat
namespace Ks
open Ki Po Pc Pe
section
variable {c:Cfg} {S:Int→Prop} {M M':Mesh} {v k:Nat} {cs:List Nat} {F:Nat→Nat×Nat} {m:Nat→Nat}
theorem fourth(h:Del c S M)(a b d:Int):∃x,S x∧x≠a∧x≠b∧x≠d:=by
 obtain⟨i,j,l,si,sj,sl,ei,ej,el⟩:=h.z;have hf:=h.flat;rw[←ei,←ej,←el]at hf;have h1:i≠j:=fun e=>hf (by rw[e];unfold ori;grind)
 have h2:i≠l:=fun e=>hf (by rw[e];unfold ori;grind)
 have h3:j≠l:=fun e=>hf (by rw[e];unfold ori;grind)
 refine Classical.byContradiction fun hn=>?_
 have all:∀x,S x→x=a∨x=b∨x=d:=fun x hx=>by
  refine Classical.byContradiction fun hh=>hn ⟨x,hx,?_,?_,?_⟩<;>(intro e;exact hh (by simp[e]))
 have q0:=all _ h.far;have q1:=all _ si;have q2:=all _ sj;have q3:=all _ sl;omega
theorem w_inj(h:Poly c.D S M){t:Nat}(ht:M.live t){i j:Nat}(hi:i<3)(hj:j<3)(e:M.w t i=M.w t j):i=j:=by
 obtain⟨n1,n2,n3⟩:=h.ne t ht;rcases(show i=0∨i=1∨i=2 by omega)with rfl|rfl|rfl<;>rcases(show j=0∨j=1∨j=2 by omega)with rfl|rfl|rfl<;>first| rfl|(exfalso;first| exact n1 e|exact n1 e.symm|exact n2 e|exact n2 e.symm|exact n3 e|exact n3 e.symm)
theorem nb_one(h:Del c S M){t u:Nat}(ht:M.live t)(hu:M.live u){j k k':Nat}(hj:j<3)(hk:k<3)(hk':k'<3)(hn':(tat M.tris u).n k'=t)
  (e1:M.w u ((k+1)%3)=M.w t ((j+2)%3)) (e2:M.w u ((k+2)%3)=M.w t ((j+1)%3)):k'=k:=by
 obtain⟨t',j',a1,a2,a3,a4,a5,a6⟩:=h.poly.nb u hu k' hk';obtain rfl:t'=t:=by rw[hn']at a1;omega
 refine Classical.byContradiction fun hne=>?_
 have hjj:j≠j':=fun e=>by
  subst e;rw[←e1]at a6;have:=w_inj h.poly hu (by omega) (by omega) a6;omega
 have hw:M.w t' j=M.w u k:=by
  have hin:∃l,l<3∧M.w t' j=M.w u l:=by
   rcases(show j=(j'+1)%3∨j=(j'+2)%3 by omega)with e|e
   ·exact⟨(k'+2)%3,by omega,by rw[e];exact a5⟩
   ·exact⟨(k'+1)%3,by omega,by rw[e];exact a6⟩
  obtain⟨l,hl,e⟩:=hin;rcases(show l=k∨l=(k+1)%3∨l=(k+2)%3 by omega)with e'|e'|e'
  ·rw[e,e']
  ·rw[e',e1]at e;have:=w_inj h.poly ht (by omega) (by omega) e;omega
  ·rw[e',e2]at e;have:=w_inj h.poly ht (by omega) (by omega) e;omega
 obtain⟨x,sx,x1,x2,x3⟩:=fourth h (M.w t' j) (M.w t' ((j+1)%3)) (M.w t' ((j+2)%3));have d1:=emp_at h.poly (Kg.alt c) ht hj sx x1 x2 x3;have d2:=emp_at h.poly (Kg.alt c) hu hk sx (by rw[←hw];exact x1) (by rw[e1];exact x3) (by rw[e2];exact x2);rw[←hw,e1,e2]at d2;have:=(Kg.alt c).s2 (M.w t' j) (M.w t' ((j+1)%3)) (M.w t' ((j+2)%3)) x;omega
theorem nidx_at(h:Del c S M){t u:Nat}(ht:M.live t)(hu:M.live u){j k:Nat}(hj:j<3)(hk:k<3)(hn:(tat M.tris u).n k=t)(e1:M.w u ((k+1)%3)=M.w t ((j+2)%3))(e2:M.w u ((k+2)%3)=M.w t ((j+1)%3)):nidx (tat M.tris u) t=k:=by
 have q:=fun k' hk' hn'=>nb_one h ht hu (k':=k') hj hk hk' hn' e1 e2
 unfold nidx;by_cases h0:(tat M.tris u).n0=t
 ·rw[if_pos h0];have:=q 0 (by omega) h0;omega
 ·rw[if_neg h0]
  by_cases h1:(tat M.tris u).n1=t
  ·rw[if_pos h1];have:=q 1 (by omega) h1;omega
  ·rw[if_neg h1]
   by_cases h2:(tat M.tris u).n2=t
   ·rw[if_pos h2];have:=q 2 (by omega) h2;omega
   ·exfalso
    rcases(show k=0∨k=1∨k=2 by omega)with rfl|rfl|rfl
    ·exact h0 hn
    ·exact h1 hn
    ·exact h2 hn
theorem out_at(h:Del c S M){C:Nat→Prop}(hC:Cav M c.D v C){x:Nat×Nat}(hr:M.rim C x.1 x.2) :
  (tat M.tris x.1).n x.2=M.out x∧M.live (M.out x)∧¬C (M.out x)∧nidx (tat M.tris (M.out x)) x.1=M.ix x∧M.ix x<3∧(tat M.tris (M.out x)).n (M.ix x)=x.1∧M.w (M.out x) ((M.ix x+1)%3)=en M x∧M.w (M.out x) ((M.ix x+2)%3)=st M x:=by
 obtain⟨hc,hj,hn⟩:=hr;have hl:=(hC.sub _ hc).1;obtain⟨u,k',e1,e2,e3,e4,e5,e6⟩:=h.poly.nb x.1 hl x.2 hj;have ho:M.out x=u:=by unfold Mesh.out;rw[e1];rfl
 have hx:=nidx_at h hl e2 hj e3 e4 e5 e6;have hi:M.ix x=k':=by unfold Mesh.ix;rw[ho,hx];rfl
 rw[ho,hi];exact⟨e1,e2,hn u e1,hx,e3,e4,e5,e6⟩
structure Dug(c:Cfg)(S:Int→Prop)(M:Mesh)(v:Nat)(cs:List Nat)(F:Nat→Nat×Nat)(k:Nat):Prop where
 del:Del c S M
 ok:c.Ok
 new:New c S v
 cav:Cav M c.D v (fun x=>x∈cs)
 all:∀t,M.live t→M.vis c.D v t→t∈cs
 rim:RimOk M (fun x=>x∈cs) F k
 plain:M.plain
theorem two(h:Dug c S M v cs F k):2≤k:=by
 have hp:=h.rim.pos;refine Classical.byContradiction fun hn=>?_
 have e:k=1:=by omega
 have h1:=h.rim.next 0;have h2:=h.rim.last 0;rw[e]at h2;rw[h2]at h1;exact(rim_S h.del.poly h.cav (h.rim.flag 0)).2.2 h1
theorem fillIn(h:Dug c S M v cs F k)(hn:cs.Nodup)(hf:∀n∈M.free,n<M.tris.length∧tat M.tris n=Tri.gone)(hfn:M.free.Nodup)(hd:∀x,x<M.tris.length→(tat M.tris x).v0=-2→tat M.tris x=Tri.gone):FillIn M cs F k where
 lt t ht:=(h.cav.sub t ht).1.1
 nod:=hn
 e i _:=(h.rim.flag i).2.1
 out i _:=by
  obtain⟨a1,a2,a3,a4,a5,_⟩:=out_at h.del h.cav (h.rim.flag i);exact⟨a1,⟨a2,a3⟩,a4,a5⟩
 plain i _:=h.plain _ (h.cav.sub _ (h.rim.flag i).1).1 _ (h.rim.flag i).2.1
 apart i j hi hj e1 e2:=by
  obtain⟨_,_,_,_,_,_,b1,b2⟩:=out_at h.del h.cav (h.rim.flag i);obtain⟨_,_,_,_,_,_,d1,d2⟩:=out_at h.del h.cav (h.rim.flag j);rw[e1,e2]at b1 b2;have:=h.del.poly.un _ _ (h.cav.sub _ (h.rim.flag i).1).1 (h.cav.sub _ (h.rim.flag j).1).1 (F i).2 (F j).2 (h.rim.flag i).2.1 (h.rim.flag j).2.1 (b2.symm.trans d2) (b1.symm.trans d1);have hF:F i=F j:=Prod.ext this.1 this.2;rcases Nat.lt_trichotomy i j with h'|h'|h'
  ·exact absurd hF (h.rim.inj i j h' hj)
  ·exact h'
  ·exact absurd hF.symm (h.rim.inj j i h' hi)
 free:=hf
 fnod:=hfn
 dead:=hd
 live t ht:=(h.cav.sub t ht).1
end
end Ks
end Go.Proofs.YtdihefgleefhmaaGreat
namespace Go.Proofs.YtdihefgleefhmaaGreat
namespace Kt
open Ki Po Pc Pe Ks
section
variable {c:Cfg} {S:Int→Prop} {M M':Mesh} {v k:Nat} {cs:List Nat} {F:Nat→Nat×Nat} {m:Nat→Nat}
theorem not_m2(h:Del c S M){x:Int}(hx:S x):x≠-2:=by
 rcases h.nat x hx with rfl|⟨n,rfl,_⟩<;>omega
theorem w_old(hM:Made M M' cs F k v m){x:Nat}(hx:M.kept cs x)(l:Nat):M'.w x l=M.w x l:=hM.oldv x hx l
theorem w_new(hM:Made M M' cs F k v m){i:Nat}(hi:i<k):M'.w (m i) 0=st M (F i)∧M'.w (m i) 1=en M (F i)∧M'.w (m i) 2=v:=by
 unfold Mesh.w;rw[hM.tri i hi];exact⟨rfl,rfl,rfl⟩
theorem live_iff(h:Dug c S M v cs F k)(hM:Made M M' cs F k v m)(x:Nat):M'.live x↔M.kept cs x∨∃i,i<k∧x=m i:=by
 constructor
 ·rintro⟨hl,hv⟩
  rcases hM.rest x hl with h'|h'|h'
  ·exact .inl h'
  ·exact .inr h'
  ·rw[h']at hv;exact absurd rfl hv
 ·rintro(hx|⟨i,hi,rfl⟩)
  ·refine⟨hM.oldl x hx,?_⟩
   have:(tat M'.tris x).v0=(tat M.tris x).v0:=hM.oldv x hx 0;rw[this];exact hx.1.2
  ·refine⟨(hM.nk i hi).2,?_⟩
   have:(tat M'.tris (m i)).v0=st M (F i):=(w_new hM hi).1;rw[this];exact not_m2 h.del (rim_S h.del.poly h.cav (h.rim.flag i)).1
theorem rim_in(h:Dug c S M v cs F k){i j:Nat}(hi:i<k)(hj:j<k)(e:F i=F j):i=j:=by
 rcases Nat.lt_trichotomy i j with h'|h'|h'
 ·exact absurd e (h.rim.inj i j h' hj)
 ·exact h'
 ·exact absurd e.symm (h.rim.inj j i h' hi)
theorem F_mod(h:Dug c S M v cs F k){i:Nat}(hi:i<k):st M (F ((i+1)%k))=en M (F i):=by
 have hk:=h.rim.pos;rw[←h.rim.next i];by_cases e:i+1=k
 ·rw[e,Nat.mod_self]
  have:=h.rim.last 0;rw[Nat.zero_add]at this;rw[this]
 ·rw[Nat.mod_eq_of_lt (by omega)]
theorem new_emp(h:Dug c S M v cs F k){i:Nat}{x:Int}(hx:S x)(h1:x≠st M (F i))(h2:x≠en M (F i)):c.D (st M (F i)) (en M (F i)) v x<0:=
 rim_emp h.del.poly (Kg.alt c) (apart h.ok h.del h.new) h.cav (h.rim.flag i) hx h1 h2
theorem kept_emp(h:Dug c S M v cs F k){t:Nat}(ht:M.kept cs t):c.D (M.w t 0) (M.w t 1) (M.w t 2) v<0:=by
 have g:=(conflict_vis h.ok h.del h.new ht.1).2;have n:¬M.vis c.D v t:=fun hv=>ht.2 (h.all t ht.1 hv)
 unfold Mesh.vis at n;omega
theorem nb_old(h:Dug c S M v cs F k)(hM:Made M M' cs F k v m){t:Nat}(ht:M.kept cs t){j:Nat}(hj:j<3):∃u l:Nat,(tat M'.tris t).n j=u∧M'.live u∧l<3∧(tat M'.tris u).n l=t∧M'.w u ((l+1)%3)=M'.w t ((j+2)%3)∧M'.w u ((l+2)%3)=M'.w t ((j+1)%3):=by
 obtain⟨u,l,e1,e2,e3,e4,e5,e6⟩:=h.del.poly.nb t ht.1 j hj;by_cases hu:u∈cs
 ·have hr:M.rim (fun x=>x∈cs) u l:=⟨hu,e3,fun y hy hc=>by
   rw[e4]at hy;have:y=t:=by omega
   exact ht.2 (this▸hc)⟩
  obtain⟨i,hi,hF⟩:=h.rim.all u l hr;obtain⟨o1,o2,o3,o4,o5,o6,o7,o8⟩:=out_at h.del h.cav (h.rim.flag i);rw[hF]at o1 o2 o3 o4 o5 o6 o7 o8
  have ho:M.out (u,l)=t:=by
   simp only[e4]at o1;omega
  have hi':M.ix (u,l)=j:=by
   have q:=nidx_at h.del (t:=u) (u:=t) e2 ht.1 (j:=l) (k:=j) e3 hj e1 e6.symm e5.symm;rw[ho]at o4;simp only at o4;omega
  have hn:=hM.new i hi;rw[hF,ho,hi']at hn;obtain⟨w0,w1,w2⟩:=w_new hM hi;refine⟨m i,2,hn,(live_iff h hM _).2 (.inr ⟨i,hi,rfl⟩),by omega,?_,?_,?_⟩
  ·rw[hM.tri i hi,hF,ho];rfl
  ·show M'.w (m i) 0=_
   rw[w0,w_old hM ht,hF];exact e5
  ·show M'.w (m i) 1=_
   rw[w1,w_old hM ht,hF];exact e6
 ·have hku:M.kept cs u:=⟨e2,hu⟩
  have n1:(tat M'.tris t).n j=u:=by
   rw[hM.oldn t ht j hj (fun i hi he=>?_)]
   ·exact e1
   ·obtain⟨o1,o2,o3,o4,o5,o6,o7,o8⟩:=out_at h.del h.cav (h.rim.flag i)
    rw[he.1,he.2,e1]at o6;have:u=(F i).1:=by omega
    exact hu (this▸(h.rim.flag i).1)
  have n2:(tat M'.tris u).n l=t:=by
   rw[hM.oldn u hku l e3 (fun i hi he=>?_)]
   ·exact e4
   ·obtain⟨o1,o2,o3,o4,o5,o6,o7,o8⟩:=out_at h.del h.cav (h.rim.flag i)
    rw[he.1,he.2,e4]at o6;have:t=(F i).1:=by omega
    exact ht.2 (this▸(h.rim.flag i).1)
  refine⟨u,l,n1,(live_iff h hM _).2 (.inl hku),e3,n2,?_,?_⟩
  ·rw[w_old hM hku,w_old hM ht];exact e5
  ·rw[w_old hM hku,w_old hM ht];exact e6
theorem nb_new(h:Dug c S M v cs F k)(hM:Made M M' cs F k v m){i:Nat}(hi:i<k){j:Nat}(hj:j<3):∃u l:Nat,(tat M'.tris (m i)).n j=u∧M'.live u∧l<3∧(tat M'.tris u).n l=m i∧M'.w u ((l+1)%3)=M'.w (m i) ((j+2)%3)∧M'.w u ((l+2)%3)=M'.w (m i) ((j+1)%3):=by
 have h2:=two h;obtain⟨w0,w1,w2⟩:=w_new hM hi;obtain⟨b1,b2,b3⟩:=Kr.back_mod h2 hi;have hf:(i+1)%k<k:=Nat.mod_lt _ (by omega);rcases(show j=0∨j=1∨j=2 by omega)with rfl|rfl|rfl
 ·obtain⟨x0,x1,x2⟩:=w_new hM hf
  refine⟨m ((i+1)%k),1,by rw[hM.tri i hi];rfl,(live_iff h hM _).2 (.inr ⟨_,hf,rfl⟩),by omega,?_,?_,?_⟩
  ·rw[hM.tri _ hf]
   show((m (((i+1)%k+k-1)%k):Nat):Int)=m i
   have:=(Kr.back_mod h2 hf).2.2 i hi;rw[←this.1 rfl]
  ·show M'.w (m ((i+1)%k)) 2=M'.w (m i) 2
   rw[x2,w2]
  ·show M'.w (m ((i+1)%k)) 0=M'.w (m i) 1
   rw[x0,w1];exact F_mod h hi
 ·obtain⟨x0,x1,x2⟩:=w_new hM b1
  refine⟨m ((i+k-1)%k),0,by rw[hM.tri i hi];rfl,(live_iff h hM _).2 (.inr ⟨_,b1,rfl⟩),by omega,?_,?_,?_⟩
  ·rw[hM.tri _ b1]
   show((m (((i+k-1)%k+1)%k):Nat):Int)=m i
   rw[b2]
  ·show M'.w (m ((i+k-1)%k)) 1=M'.w (m i) 0
   rw[x1,w0,←F_mod h b1,b2]
  ·show M'.w (m ((i+k-1)%k)) 2=M'.w (m i) 2
   rw[x2,w2]
 ·obtain⟨o1,o2,o3,o4,o5,o6,o7,o8⟩:=out_at h.del h.cav (h.rim.flag i)
  have hk:M.kept cs (M.out (F i)):=⟨o2,o3⟩;refine⟨M.out (F i),M.ix (F i),by rw[hM.tri i hi];rfl,(live_iff h hM _).2 (.inl hk),o5,hM.new i hi,?_,?_⟩
  ·rw[w_old hM hk,o7]
   exact w1.symm
  ·rw[w_old hM hk,o8]
   exact w0.symm
theorem edge_new(hM:Made M M' cs F k v m){i:Nat}(hi:i<k){j:Nat}(hj:j<3):(j=0∧M'.w (m i) ((j+1)%3)=en M (F i)∧M'.w (m i) ((j+2)%3)=v)∨(j=1∧M'.w (m i) ((j+1)%3)=v∧M'.w (m i) ((j+2)%3)=st M (F i))∨(j=2∧M'.w (m i) ((j+1)%3)=st M (F i)∧M'.w (m i) ((j+2)%3)=en M (F i)):=by
 obtain⟨w0,w1,w2⟩:=w_new hM hi;rcases(show j=0∨j=1∨j=2 by omega)with rfl|rfl|rfl
 ·exact .inl ⟨rfl,w1,w2⟩
 ·exact .inr (.inl ⟨rfl,w2,w0⟩)
 ·exact .inr (.inr ⟨rfl,w0,w1⟩)
theorem un_mixed(h:Dug c S M v cs F k)(hM:Made M M' cs F k v m){t:Nat}(ht:M.kept cs t){i:Nat}(hi:i<k){j l:Nat}(hj:j<3)(hl:l<3)(e1:M'.w t ((j+1)%3)=M'.w (m i) ((l+1)%3))(e2:M'.w t ((j+2)%3)=M'.w (m i) ((l+2)%3)):False:=by
 rw[w_old hM ht]at e1 e2;have s1:=h.del.poly.vs t ht.1 ((j+1)%3) (by omega);have s2:=h.del.poly.vs t ht.1 ((j+2)%3) (by omega);rcases edge_new hM hi hl with⟨_,a,b⟩|⟨_,a,b⟩|⟨_,a,b⟩
 ·rw[e2,b]at s2;exact h.new.new s2
 ·rw[e1,a]at s1;exact h.new.new s1
 ·rw[a]at e1
  rw[b]at e2;have:=(h.del.poly.un t (F i).1 ht.1 (h.cav.sub _ (h.rim.flag i).1).1 j (F i).2 hj (h.rim.flag i).2.1 e1 e2).1;exact ht.2 (this▸(h.rim.flag i).1)
theorem poly(h:Dug c S M v cs F k)(hM:Made M M' cs F k v m):Poly c.D (fun x=>S x∨x=v) M' where
 vs t ht j hj:=by
  rcases(live_iff h hM t).1 ht with hk|⟨i,hi,rfl⟩
  ·rw[w_old hM hk]
   exact .inl (h.del.poly.vs t hk.1 j hj)
  ·obtain⟨w0,w1,w2⟩:=w_new hM hi
   obtain⟨r1,r2,_⟩:=rim_S h.del.poly h.cav (h.rim.flag i);rcases(show j=0∨j=1∨j=2 by omega)with rfl|rfl|rfl
   ·rw[w0];exact .inl r1
   ·rw[w1];exact .inl r2
   ·rw[w2];exact .inr rfl
 ne t ht:=by
  rcases(live_iff h hM t).1 ht with hk|⟨i,hi,rfl⟩
  ·rw[w_old hM hk,w_old hM hk,w_old hM hk]
   exact h.del.poly.ne t hk.1
  ·obtain⟨w0,w1,w2⟩:=w_new hM hi
   obtain⟨r1,r2,r3⟩:=rim_S h.del.poly h.cav (h.rim.flag i);rw[w0,w1,w2];exact⟨r3,fun e=>h.new.new (e▸r2),fun e=>h.new.new (e▸r1)⟩
 nb t ht j hj:=by
  rcases(live_iff h hM t).1 ht with hk|⟨i,hi,rfl⟩
  ·exact nb_old h hM hk hj
  ·exact nb_new h hM hi hj
 un t u ht hu j l hj hl e1 e2:=by
  rcases(live_iff h hM t).1 ht with hk|⟨i,hi,rfl⟩
  ·rcases(live_iff h hM u).1 hu with hk'|⟨i',hi',rfl⟩
   ·rw[w_old hM hk,w_old hM hk']at e1 e2
    exact h.del.poly.un t u hk.1 hk'.1 j l hj hl e1 e2
   ·exact(un_mixed h hM hk hi' hj hl e1 e2).elim
  ·rcases(live_iff h hM u).1 hu with hk'|⟨i',hi',rfl⟩
   ·exact(un_mixed h hM hk' hi hl hj e1.symm e2.symm).elim
   ·have ha:=apart h.ok h.del h.new
    obtain⟨r1,r2,r3⟩:=rim_S h.del.poly h.cav (h.rim.flag i);obtain⟨q1,q2,q3⟩:=rim_S h.del.poly h.cav (h.rim.flag i');have n1:st M (F i)≠v:=fun e=>h.new.new (e▸r1)
    have n2:en M (F i)≠v:=fun e=>h.new.new (e▸r2)
    have n3:st M (F i')≠v:=fun e=>h.new.new (e▸q1)
    have n4:en M (F i')≠v:=fun e=>h.new.new (e▸q2)
    have same:F i=F i'→m i=m i':=fun e=>by rw[rim_in h hi hi' e]
    rcases edge_new hM hi hj with⟨d,a,b⟩|⟨d,a,b⟩|⟨d,a,b⟩<;>rcases edge_new hM hi' hl with⟨d',a',b'⟩|⟨d',a',b'⟩|⟨d',a',b'⟩<;>rw[a,a']at e1<;>rw[b,b']at e2
    ·have:=rim_un2 h.del.poly (Kg.alt c) ha h.cav h.cav (h.rim.flag i) (h.rim.flag i') e1
     exact⟨same (Prod.ext this.1 this.2),by omega⟩
    ·exact absurd e1 n2
    ·exact absurd e2.symm n4
    ·exact absurd e1.symm n4
    ·have:=rim_un1 h.del.poly (Kg.alt c) ha h.cav h.cav (h.rim.flag i) (h.rim.flag i') e2
     exact⟨same (Prod.ext this.1 this.2),by omega⟩
    ·exact absurd e1.symm n3
    ·exact absurd e2 n2
    ·exact absurd e1 n1
    ·have:=rim_un1 h.del.poly (Kg.alt c) ha h.cav h.cav (h.rim.flag i) (h.rim.flag i') e1
     exact⟨same (Prod.ext this.1 this.2),by omega⟩
 emp t ht x hx h0 h1 h2:=by
  rcases(live_iff h hM t).1 ht with hk|⟨i,hi,rfl⟩
  ·rw[w_old hM hk]at h0 h1 h2 ⊢
   rw[w_old hM hk,w_old hM hk];rcases hx with hx|rfl
   ·exact h.del.poly.emp t hk.1 x hx h0 h1 h2
   ·exact kept_emp h hk
  ·obtain⟨w0,w1,w2⟩:=w_new hM hi
   rw[w0]at h0 ⊢;rw[w1]at h1 ⊢;rw[w2]at h2 ⊢;rcases hx with hx|rfl
   ·exact new_emp h hx h0 h1
   ·exact absurd rfl h2
end
end Kt
end Go.Proofs.YtdihefgleefhmaaGreat
namespace Go.Proofs.YtdihefgleefhmaaGreat
namespace Ku
open Ki Po Pc Pe Ks Kt Kx
theorem lagr(a b p:Pt)(h:ori a b p=0):dot2 a b b*((a.x-p.x)*(a.x-p.x)+(a.y-p.y)*(a.y-p.y))=dot2 a b p*dot2 a b p∧
  dot2 a b b*((b.x-p.x)*(b.x-p.x)+(b.y-p.y)*(b.y-p.y))=(dot2 a b b-dot2 a b p)*(dot2 a b b-dot2 a b p):=by
 have e1:dot2 a b b*((a.x-p.x)*(a.x-p.x)+(a.y-p.y)*(a.y-p.y))=dot2 a b p*dot2 a b p+ori a b p*ori a b p:=by unfold dot2 ori;grind
 have e2:dot2 a b b*((b.x-p.x)*(b.x-p.x)+(b.y-p.y)*(b.y-p.y))=(dot2 a b b-dot2 a b p)*(dot2 a b b-dot2 a b p)+ori a b p*ori a b p:=by unfold dot2 ori;grind
 rw[h]at e1 e2;exact⟨by omega,by omega⟩
theorem in_seg(a b d p:Pt)(h0:ori a b p=0)(hs:0<ori a b d)(hab:a≠b)(hi:0<inc a b d p):0<dot2 a b p∧dot2 a b p<dot2 a b b:=by
 have hm:=Kh.dot_pos hab;obtain⟨q1,q2⟩:=Kf.line_ori a b p d h0;obtain⟨l1,l2⟩:=lagr a b p h0;have e1:ori p b d=ori b d p:=by unfold ori;grind
 have e2:ori p a d=- ori d a p:=by unfold ori;grind
 rw[e1]at q1;rw[e2]at q2;have e:=inc_eq a b d p;rw[h0]at e
 have key:dot2 a b b*(dot2 a b b*inc a b d p)=dot2 a b b*(ori a b d*(dot2 a b p*(dot2 a b b-dot2 a b p))):=by
  rw[e];generalize (a.x-p.x)*(a.x-p.x)+(a.y-p.y)*(a.y-p.y)=X at *;generalize (b.x-p.x)*(b.x-p.x)+(b.y-p.y)*(b.y-p.y)=Y at *;generalize ori b d p=u at *;generalize ori d a p=w at *;generalize ori a b d=A at *;generalize dot2 a b b=m at *;generalize dot2 a b p=s at *;clear e e1 e2 hi hs h0;have f1:m*(m*(u*X))=(m-s)*A*(s*s):=by rw[←l1,←q1];grind
  have f2:m*(m*(w*Y))=(s*A)*((m-s)*(m-s)):=by
   have:m*w=s*A:=by grind
   rw[←l2,←this];grind
  grind
 have k1:=Int.mul_pos hm (Int.mul_pos hm hi);rw[key]at k1;have k2:=pos_of hs (pos_of hm k1);generalize dot2 a b b=m at *;generalize dot2 a b p=s at *;rcases Int.lt_or_le 0 s with h1|h1
 ·exact⟨h1,by have:=pos_of h1 k2;omega⟩
 ·have:=Int.mul_nonpos_of_nonpos_of_nonneg h1 (show 0≤m-s by omega);omega
section
variable {c:Cfg} {S:Int→Prop} {M M':Mesh} {v k:Nat} {cs:List Nat} {F:Nat→Nat×Nat} {m:Nat→Nat}
theorem seg_vis(hc:c.Ok)(h:Del c S M)(hv:New c S v){u:Nat}(hu:M.live u){l:Nat}(hl:l<3){a b:Nat}(e1:M.w u ((l+1)%3)=b)(e2:M.w u ((l+2)%3)=a)(hab:a≠b)(h0:ori (pat c.pts a) (pat c.pts b) (pat c.pts v)=0)
  (d1:0<dot2 (pat c.pts a) (pat c.pts b) (pat c.pts v)) (d2:dot2 (pat c.pts a) (pat c.pts b) (pat c.pts v)<dot2 (pat c.pts a) (pat c.pts b) (pat c.pts b)):M.vis c.D v u:=by
 have sb:S b:=by rw[←e1];exact h.poly.vs u hu _ (by omega)
 have sa:S a:=by rw[←e2];exact h.poly.vs u hu _ (by omega)
 have pab:=h.dist a b sa sb hab;have pa:=hv.dist a sa;have pb:=hv.dist b sb;by_cases g:M.w u l=-1
 ·refine(ghost_vis hc h hv hu hl g e1 e2).1.1 ?_
  unfold ghostIn;rw[h.pts];simp only[Int.toNat_natCast,Bool.or_eq_true,decide_eq_true_eq]
  right
  obtain⟨k1,k2⟩:=dot_back (pat c.pts a) (pat c.pts b) (pat c.pts v);refine(Kh.bet_iff _ _ _ ?_ pab.symm pb.symm pa.symm).1.2 ?_
  ·have:ori (pat c.pts b) (pat c.pts a) (pat c.pts v)=- ori (pat c.pts a) (pat c.pts b) (pat c.pts v):=by unfold ori;grind
   omega
  ·omega
 ·obtain⟨d,hd,_,sd⟩:=not_neg h hu hl g
  have ho:0<ori (pat c.pts b) (pat c.pts a) (pat c.pts d):=by
   rcases(show l=0∨l=1∨l=2 by omega)with rfl|rfl|rfl
   ·have:=h.real u hu d b a hd e1 e2
    have e:ori (pat c.pts b) (pat c.pts a) (pat c.pts d)=ori (pat c.pts d) (pat c.pts b) (pat c.pts a):=by unfold ori;grind
    omega
   ·have:=h.real u hu a d b e2 hd e1
    have e:ori (pat c.pts b) (pat c.pts a) (pat c.pts d)=ori (pat c.pts a) (pat c.pts d) (pat c.pts b):=by unfold ori;grind
    omega
   ·exact h.real u hu b a d e1 e2 hd
  have hi:=inc_over _ _ _ _ h0 ho pa pb pab d1 d2;unfold Mesh.vis;rw[←det_rot (M:=M) (Kg.alt c) u v (show(l+1)%3<3 by omega),show((l+1)%3+1)%3=(l+2)%3 by omega,show((l+1)%3+2)%3=l by omega,e1,e2,hd];exact(Kg.real_sign hc _ _ _ _).1 hi
theorem real_new(h:Dug c S M v cs F k){i:Nat}{a b:Nat}(ha:st M (F i)=a)(hb:en M (F i)=b):0<ori (pat c.pts a) (pat c.pts b) (pat c.pts v):=by
 have hr:=h.rim.flag i;obtain⟨r1,r2,r3⟩:=rim_S h.del.poly h.cav hr;obtain⟨hl,hvis⟩:=h.cav.sub _ hr.1
 have hab:a≠b:=fun e=>r3 (by
  have x1:M.w (F i).1 (((F i).2+1)%3)=(a:Int):=ha;have x2:M.w (F i).1 (((F i).2+2)%3)=(b:Int):=hb;rw[x1,x2,e])
 have sa:S a:=by rw[←ha];exact r1
 have sb:S b:=by rw[←hb];exact r2
 have pab:=h.del.dist a b sa sb hab;obtain⟨o1,o2,o3,o4,o5,o6,o7,o8⟩:=out_at h.del h.cav hr;rw[hb]at o7;rw[ha]at o8;have hno:¬M.vis c.D v (M.out (F i)):=fun hv=>o3 (h.all _ o2 hv)
 have he:=new_emp h (i:=i) h.del.far (by rw[ha];omega) (by rw[hb];omega);rw[ha,hb,(Kg.alt c).s3]at he;rcases Int.lt_trichotomy (ori (pat c.pts a) (pat c.pts b) (pat c.pts v)) 0 with h0|h0|h0
 ·have:=(Kg.far_sign h.ok a b v).2 h0
  omega
 ·exfalso
  have hj:=hr.2.1;have vr:=det_rot (D:=c.D) (M:=M) (Kg.alt c) (F i).1 v (show((F i).2+1)%3<3 by omega);rw[show(((F i).2+1)%3+1)%3=((F i).2+2)%3 by omega,show(((F i).2+1)%3+2)%3=(F i).2 by omega,show M.w (F i).1 (((F i).2+1)%3)=(a:Int)from ha,show M.w (F i).1 (((F i).2+2)%3)=(b:Int)from hb]at vr
  have hseg:0<dot2 (pat c.pts a) (pat c.pts b) (pat c.pts v)∧dot2 (pat c.pts a) (pat c.pts b) (pat c.pts v)<dot2 (pat c.pts a) (pat c.pts b) (pat c.pts b):=by
   by_cases g:M.w (F i).1 (F i).2=-1
   ·have hg:=(ghost_vis h.ok h.del h.new hl hj g (a:=a) (b:=b) ha hb).1.2 hvis
    unfold ghostIn at hg;rw[h.del.pts]at hg;simp only[Int.toNat_natCast,Bool.or_eq_true,decide_eq_true_eq]at hg;rcases hg with hg|hg
    ·omega
    ·exact(Kh.bet_iff _ _ _ h0 pab (h.new.dist a sa).symm (h.new.dist b sb).symm).1.1 hg
   ·obtain⟨d,hd,_,sd⟩:=not_neg h.del hl hj g
    have ho:0<ori (pat c.pts a) (pat c.pts b) (pat c.pts d):=by
     have x1:M.w (F i).1 (((F i).2+1)%3)=(a:Int):=ha;have x2:M.w (F i).1 (((F i).2+2)%3)=(b:Int):=hb;rcases(show(F i).2=0∨(F i).2=1∨(F i).2=2 by omega)with e|e|e<;>rw[e]at x1 x2 hd
     ·have:=h.del.real _ hl d a b hd x1 x2
      have e:ori (pat c.pts a) (pat c.pts b) (pat c.pts d)=ori (pat c.pts d) (pat c.pts a) (pat c.pts b):=by unfold ori;grind
      omega
     ·have:=h.del.real _ hl b d a x2 hd x1
      have e:ori (pat c.pts a) (pat c.pts b) (pat c.pts d)=ori (pat c.pts b) (pat c.pts d) (pat c.pts a):=by unfold ori;grind
      omega
     ·exact h.del.real _ hl a b d x1 x2 hd
    rw[hd]at vr;unfold Mesh.vis at hvis;rw[←vr]at hvis;refine in_seg _ _ _ _ h0 ho pab ?_;obtain⟨s1,s2⟩:=Kg.real_sign h.ok a b d v;rcases Int.lt_trichotomy (inc (pat c.pts a) (pat c.pts b) (pat c.pts d) (pat c.pts v)) 0 with h'|h'|h'
    ·have:=s2 h';omega
    ·have:=Kg.real_tie h.ok a b d v h' ho (h.new.top a sa) (h.new.top b sb) (h.new.top d sd);omega
    ·exact h'
  exact hno (seg_vis h.ok h.del h.new o2 o5 o7 o8 hab h0 hseg.1 hseg.2)
 ·exact h0
theorem del(h:Dug c S M v cs F k)(hM:Made M M' cs F k v m):Del c (fun x=>S x∨x=v) M' where
 poly:=poly h hM
 pts:=hM.pts.trans h.del.pts
 far:=.inl h.del.far
 nat x hx:=by
  rcases hx with hx|rfl
  ·exact h.del.nat x hx
  ·exact .inr ⟨v,rfl,h.new.lt⟩
 z:=by
  obtain⟨i,j,l,si,sj,sl,e⟩:=h.del.z;exact⟨i,j,l,.inl si,.inl sj,.inl sl,e⟩
 flat:=h.del.flat
 real t ht i j l hi hj hl:=by
  rcases(live_iff h hM t).1 ht with hk|⟨n,hn,rfl⟩
  ·rw[w_old hM hk]at hi hj hl
   exact h.del.real t hk.1 i j l hi hj hl
  ·obtain⟨w0,w1,w2⟩:=w_new hM hn
   rw[w0]at hi;rw[w1]at hj;rw[w2]at hl;have:l=v:=by omega
   subst this;exact real_new h hi hj
 dist i j si sj hij:=by
  rcases si with si|si<;>rcases sj with sj|sj
  ·exact h.del.dist i j si sj hij
  ·have:j=v:=by omega
   rw[this];exact h.new.dist i si
  ·have:i=v:=by omega
   rw[this];exact(h.new.dist j sj).symm
  ·omega
theorem all_vis(hc:c.Ok)(h:Del c S M)(hv:New c S v){C:Nat→Prop}(hC:Cav M c.D v C)(hR:RimOk M C F k):∀t,M.live t→M.vis c.D v t→C t:=by
 intro t ht hvt;refine Classical.byContradiction fun hn=>?_
 have hC':Cav M c.D v (fun x=>M.live x∧M.vis c.D v x∧¬C x):=⟨fun x hx=>⟨hx.1,hx.2.1⟩,fun x hx j u hj e hu=>by
  obtain⟨u',l,e1,e2,e3,e4,e5,e6⟩:=h.poly.nb x hx.1 j hj;have:u'=u:=by rw[e1]at e;omega
  subst this;exact⟨e2,hu,fun hcu=>hx.2.2 (hC.clo u' hcu l x e3 e4 hx.2.1)⟩⟩
 obtain⟨⟨u,j,hr,_⟩,_⟩:=rim_at h.poly (Kg.alt c) (apart hc h hv) hC' (b:=M.w t 0) ⟨ht,0,by omega,rfl⟩ ⟨ht,hvt,hn⟩;have hl:=hR.last 0;rw[Nat.zero_add]at hl;obtain⟨i,hi,e1,e2⟩:=rim_all h.poly (Kg.alt c) (apart hc h hv) hC hC' (fun i=>(F i).1) (fun i=>(F i).2) k hR.pos (fun i _=>hR.flag i) ⟨by rw[hl],by rw[hl]⟩ (fun i _=>hR.next i) hr;have e1':(F i).1=u:=e1;exact hr.1.2.2 (e1'▸(hR.flag i).1)
end
end Ku
end Go.Proofs.YtdihefgleefhmaaGreat
namespace Go.Proofs.YtdihefgleefhmaaGreat
namespace Kv
open Ki Po Pc Pe Ks Kt Kx
section
variable {c:Cfg} {S:Int→Prop} {M:Mesh} {v:Nat}
theorem sane(h:Del c S M):M.sane where
 nb t ht j hj:=by
  obtain⟨u,_,e,hl,_⟩:=h.poly.nb t ht j hj;exact⟨u,e,hl⟩
 vs t ht j hj hg:=by
  obtain⟨n,e,hn,_⟩:=not_neg h ht hj hg;have e':(tat M.tris t).v j=n:=e;rw[e',h.pts];omega
 g0 t ht hg:=⟨fun e=>by have:=one_ghost h ht (show 0<3 by omega) (show 1<3 by omega) hg e;omega,fun e=>by have:=one_ghost h ht (show 0<3 by omega) (show 2<3 by omega) hg e;omega⟩
 g1 t ht hg:=fun e=>by have:=one_ghost h ht (show 1<3 by omega) (show 2<3 by omega) hg e;omega
theorem map_nodup{l:List (Nat×Nat)}(f:Nat×Nat→Int)(hn:l.Nodup)(hi:∀x∈l,∀y∈l,f x=f y→x=y):(l.map f).Nodup:=by
 rw[List.nodup_iff_pairwise_ne,List.pairwise_map];rw[List.nodup_iff_pairwise_ne]at hn;refine hn.imp_of_mem fun ha hb hab e=>hab (hi _ ha _ hb e)
theorem dug(hc:c.Ok)(h:Del c S M)(hv:New c S v)(hpl:M.plain)(q:Place)(hst:Dq.Taken M (digStart M q))(hsv:∀t∈digStart M q,M.vis c.D v t)(hne:digStart M q≠[]) :
  ∃F k,Dug c S M v (dig M (pat c.pts v) q).tris F k∧(dig M (pat c.pts v) q).tris.Nodup∧(dig M (pat c.pts v) q).rim.length=k∧∀i,i<k→(dig M (pat c.pts v) q).rim.getD i Side.zero=sd M (F i):=by
 have hgo:=go_ok (M:=M) (pt:=pat c.pts v) (sane h) hpl (M.tris.length+1) 0 (digStart M q) hst (fun t ht=>(conflict_vis hc h hv (hst.live t ht)).1.2 (hsv t ht)) (fun i hi=>by omega) (by omega);obtain⟨g1,g2,g3,g4⟩:=hgo;obtain⟨cs0,hcs0⟩:∃l,digGo M (pat c.pts v) (M.tris.length+1) 0 (digStart M q)=l:=⟨_,rfl⟩;rw[hcs0]at g1 g2 g3 g4;obtain⟨cs,hcs⟩:∃l,isort cs0=l:=⟨_,rfl⟩;have hm:∀x,x∈cs↔x∈cs0:=fun x=>by rw[←hcs];exact Dq.isort_mem cs0 x
 have htk:Dq.Taken M cs:=hcs▸g1.sort
 have hcav:Cav M c.D v (fun x=>x∈cs):=⟨fun t ht=>⟨htk.live t ht,(conflict_vis hc h hv (htk.live t ht)).1.1 (g3 t ((hm t).1 ht))⟩,fun t ht j u hj e hu=>by
  obtain⟨u',_,e1,hl,_⟩:=h.poly.nb t (htk.live t ht) j hj;have:u'=u:=by rw[e1]at e;omega
  subst this;rcases g4 t ((hm t).1 ht) j hj with h'|h'
  ·rw[e1]at h'
   exact(hm u').2 h'
  ·rw[e1]at h'
   have:=(conflict_vis hc h hv hl).1.2 hu;simp only[Int.toNat_natCast]at h';rw[h']at this;cases this⟩
 have hap:=apart hc h hv
 have hfl:∀x,x∈flags M cs cs↔M.rim (fun x=>x∈cs) x.1 x.2:=fun x=>by
  rw[mem_flags];constructor
  ·rintro⟨a,b,d⟩
   exact⟨a,b,fun u e hu=>d (by rw[e];exact hu)⟩
  ·rintro⟨a,b,d⟩
   obtain⟨u,_,e,_⟩:=h.poly.nb x.1 (htk.live _ a) x.2 b;exact⟨a,b,by rw[e];exact d u e⟩
 have hfn:=nodup_flags (M:=M) cs cs htk.nodup
 have hsn:((flags M cs cs).map (st M)).Nodup:=map_nodup _ hfn fun x hx y hy e=>by
  have:=rim_un1 h.poly (Kg.alt c) hap hcav hcav ((hfl x).1 hx) ((hfl y).1 hy) e;exact Prod.ext this.1 this.2
 have hr:digRims M (pat c.pts v) cs=(flags M cs cs).foldl (fun r x=>r.with M (pat c.pts v) (sd M x)) ⟨[],M.pts.length,false⟩:=rimAll_flags cs cs _
 have hb:(digRims M (pat c.pts v) cs).begins=(flags M cs cs).map fun x=>(st M x,sd M x):=by
  rw[hr,fold_begins _ _ (by simpa using hsn)];rfl
 obtain⟨k1,k2,k3⟩:=fold_least (M:=M) (pt:=pat c.pts v) (flags M cs cs) ⟨[],M.pts.length,false⟩;rw[←hr]at k1 k2 k3
 obtain⟨t0,ht0⟩:∃t0,t0∈cs:=by
  cases hs:digStart M q with
  | nil=>exact absurd hs hne
  | cons a l=>exact⟨a,(hm a).2 (g2.subset (by rw[hs];simp))⟩
 obtain⟨⟨u,j,hru,_⟩,_⟩:=rim_at h.poly (Kg.alt c) hap hcav (b:=M.w t0 0) ⟨htk.live _ ht0,0,by omega,rfl⟩ ht0
 have hlt:∀x∈flags M cs cs,st M x<M.pts.length:=fun x hx=>by
  have:=(rim_S h.poly hcav ((hfl x).1 hx)).1;rcases h.nat _ this with e|⟨n,e,hn⟩
  ·show M.w x.1 ((x.2+1)%3)<_
   rw[e];omega
  ·show M.w x.1 ((x.2+1)%3)<_
   rw[e,h.pts];omega
 have hex:∃x∈flags M cs cs,(digRims M (pat c.pts v) cs).least=st M x:=by
  rcases k3 with k3|k3
  ·have h1:=k2 (u,j) ((hfl (u,j)).2 hru)
   have h2:=hlt (u,j) ((hfl (u,j)).2 hru);rw[k3]at h1;simp only at h1;omega
  ·exact k3
 obtain⟨x0,hx0,hle⟩:=hex;obtain⟨F,k,hR,hF0,hk3⟩:=rim_ok h.poly (Kg.alt c) hap hcav x0 ((hfl x0).1 hx0);have hFm:∀i,F i∈flags M cs cs:=fun i=>(hfl _).2 (hR.flag i)
 have hlen:(flags M cs cs).length=k:=by
  have h1:((List.range k).map F).length≤(flags M cs cs).length:=nodup_sub _ _ (by
   rw[List.nodup_iff_pairwise_ne,List.pairwise_map];refine List.pairwise_lt_range.imp_of_mem fun ha hb hab e=>?_
   rw[List.mem_range]at hb
   exact hR.inj _ _ hab hb e) fun x hx=>by
    obtain⟨i,_,rfl⟩:=List.mem_map.1 hx;exact hFm i
  have h2:(flags M cs cs).length≤((List.range k).map F).length:=nodup_sub _ _ hfn fun x hx=>by
   obtain⟨i,hi,e⟩:=hR.all x.1 x.2 ((hfl x).1 hx);exact List.mem_map.2 ⟨i,List.mem_range.2 hi,e⟩
  simp at h1 h2;omega
 have hget:∀i,mget Side.zero (st M (F i)) ((flags M cs cs).map fun x=>(st M x,sd M x))=sd M (F i):=fun i=>by
  obtain⟨j,hj,e⟩:=List.getElem_of_mem (hFm i);refine Mp.get_at _ _ _ _ j (by rw[List.map_map];exact hsn) ?_;rw[List.getElem?_map,List.getElem?_eq_getElem hj,e];rfl
 have hrim:(dig M (pat c.pts v) q).rim=(List.range k).map fun j=>sd M (F (0+j)):=by
  have e0:(dig M (pat c.pts v) q).rim=rimGo (digRims M (pat c.pts v) cs).begins (digRims M (pat c.pts v) cs).begins.length (digRims M (pat c.pts v) cs).least:=by
   rw[←hcs,←hcs0];rfl
  rw[e0,hb,hle,List.length_map,hlen,←hF0];exact go_flags hget hR.next k 0
 have htr:(dig M (pat c.pts v) q).tris=cs:=by rw[←hcs,←hcs0];rfl
 rw[htr,hrim];refine⟨F,k,⟨h,hc,hv,hcav,Ku.all_vis hc h hv hcav hR,hR,hpl⟩,htk.nodup,by simp,fun i hi=>?_⟩;rw[List.getD_eq_getElem?_getD,List.getElem?_map,List.getElem?_range hi];simp
end
end Kv
end Go.Proofs.YtdihefgleefhmaaGreat
namespace Go.Proofs.YtdihefgleefhmaaGreat
structure Good(c:Cfg)(S:Int→Prop)(M:Mesh)(n:Nat):Prop where
 del:Del c S M
 plain:M.plain
 free:∀n∈M.free,n<M.tris.length∧tat M.tris n=Tri.gone
 fnod:M.free.Nodup
 dead:∀x,x<M.tris.length→(tat M.tris x).v0=-2→tat M.tris x=Tri.gone
 atl:M.at_.length=M.pts.length
 at1:∀x:Nat,S x→∃t:Nat,iat M.at_ x=t∧M.has x t
 at0:∀x:Nat,x<M.pts.length→¬S x→iat M.at_ x=-1
 few:M.tris.length≤n
 gh:∃t,M.has (-1) t
namespace Kz
open Ki Po Pc Pe Ks Kt Kx Kw
section
variable {c:Cfg} {S:Int→Prop} {M:Mesh} {v n:Nat}
theorem within_cases(h:Del c S M)(hv:New c S v){t:Nat}{f:Nat→Nat}(hh:Holds c S M v t f):within M t (pat c.pts v)=⟨0,t,0,0⟩∨
  ∃j,j<3∧ori (pat c.pts (f ((j+1)%3))) (pat c.pts (f ((j+2)%3))) (pat c.pts v)=0∧within M t (pat c.pts v)=⟨1,t,min (f ((j+1)%3):Int) (f ((j+2)%3)),max (f ((j+1)%3):Int) (f ((j+2)%3))⟩:=by
 have hv0:∀i,i<3→¬pat M.pts ((tat M.tris t).v i).toNat=pat c.pts v:=fun i hi=>by
  have e:(tat M.tris t).v i=f i:=hh.real.at_ i hi;rw[e,h.pts];exact hv.dist _ (hh.real.s i hi)
 have hE:∀i,i<3→oriE M ((tat M.tris t).v ((i+1)%3)) ((tat M.tris t).v ((i+2)%3)) (pat c.pts v)=ori (pat c.pts (f ((i+1)%3))) (pat c.pts (f ((i+2)%3))) (pat c.pts v):=fun i hi=>by
  have e1:(tat M.tris t).v ((i+1)%3)=f ((i+1)%3):=hh.real.at_ _ (by omega);have e2:(tat M.tris t).v ((i+2)%3)=f ((i+2)%3):=hh.real.at_ _ (by omega);unfold oriE;rw[e1,e2,h.pts];rfl
 have w1:∀i,i<3→(tat M.tris t).v i=f i:=fun i hi=>hh.real.at_ i hi
 have e:within M t (pat c.pts v)=withinE M t (pat c.pts v) 3:=by
  unfold within withinP;rw[if_neg (hv0 _ (by omega))];unfold withinP;rw[if_neg (hv0 _ (by omega))];unfold withinP;rw[if_neg (hv0 _ (by omega))];rfl
 rw[e];by_cases h0:ori (pat c.pts (f 1)) (pat c.pts (f 2)) (pat c.pts v)=0
 ·right
  refine⟨0,by omega,h0,?_⟩;unfold withinE;dsimp only;rw[if_pos ((hE 0 (by omega)).trans h0),w1 _ (by omega),w1 _ (by omega)]
 ·by_cases h1:ori (pat c.pts (f 2)) (pat c.pts (f 0)) (pat c.pts v)=0
  ·right
   refine⟨1,by omega,h1,?_⟩;unfold withinE;dsimp only;rw[if_neg (fun x=>h0 ((hE 0 (by omega)).symm.trans x))];unfold withinE;dsimp only;rw[if_pos ((hE 1 (by omega)).trans h1),w1 _ (by omega),w1 _ (by omega)]
  ·by_cases h2:ori (pat c.pts (f 0)) (pat c.pts (f 1)) (pat c.pts v)=0
   ·right
    refine⟨2,by omega,h2,?_⟩;unfold withinE;dsimp only;rw[if_neg (fun x=>h0 ((hE 0 (by omega)).symm.trans x))];unfold withinE;dsimp only;rw[if_neg (fun x=>h1 ((hE 1 (by omega)).symm.trans x))];unfold withinE;dsimp only;rw[if_pos ((hE 2 (by omega)).trans h2),w1 _ (by omega),w1 _ (by omega)]
   ·left
    unfold withinE;dsimp only;rw[if_neg (fun x=>h0 ((hE 0 (by omega)).symm.trans x))];unfold withinE;dsimp only;rw[if_neg (fun x=>h1 ((hE 1 (by omega)).symm.trans x))];unfold withinE;dsimp only;rw[if_neg (fun x=>h2 ((hE 2 (by omega)).symm.trans x))];rfl
theorem across_at(h:Del c S M){t:Nat}{f:Nat→Nat}(hr:Real c S M t f){j:Nat}(hj:j<3):acrossOf (tat M.tris t) (min (f ((j+1)%3):Int) (f ((j+2)%3))) (max (f ((j+1)%3):Int) (f ((j+2)%3)))=(tat M.tris t).n j:=by
 obtain⟨n1,n2,n3⟩:=real_inj h hr hj;have w0:(tat M.tris t).v0=f 0:=hr.at_ 0 (by omega);have w1:(tat M.tris t).v1=f 1:=hr.at_ 1 (by omega);have w2:(tat M.tris t).v2=f 2:=hr.at_ 2 (by omega);have mm:∀x y:Int,(min x y=x∧max x y=y)∨(min x y=y∧max x y=x):=fun x y=>by omega
 have key:∀x:Int,(x != min (f ((j+1)%3):Int) (f ((j+2)%3))&&x != max (f ((j+1)%3):Int) (f ((j+2)%3)))=decide (x≠f ((j+1)%3)∧x≠f ((j+2)%3)):=fun x=>by
  rcases mm (f ((j+1)%3)) (f ((j+2)%3))with⟨e1,e2⟩|⟨e1,e2⟩<;>rw[e1,e2,Bool.eq_iff_iff]<;>simp[and_comm]
 unfold acrossOf cornerNot;rw[key,key,key];have v0:(tat M.tris t).v 0=f 0:=w0;have v1:(tat M.tris t).v 1=f 1:=w1;have v2:(tat M.tris t).v 2=f 2:=w2;rw[v0,v1,v2];rcases(show j=0∨j=1∨j=2 by omega)with rfl|rfl|rfl
 ·rw[if_pos (by simp only[decide_eq_true_eq];simp only[Nat.reduceAdd,Nat.reduceMod]at n1 n2 n3 ⊢;omega)]
 ·rw[if_neg (by simp only[decide_eq_true_eq];simp only[Nat.reduceAdd,Nat.reduceMod]at n1 n2 n3 ⊢;omega),if_pos (by simp only[decide_eq_true_eq];simp only[Nat.reduceAdd,Nat.reduceMod]at n1 n2 n3 ⊢;omega)]
 ·rw[if_neg (by simp only[decide_eq_true_eq];simp only[Nat.reduceAdd,Nat.reduceMod]at n1 n2 n3 ⊢;omega),if_neg (by simp only[decide_eq_true_eq];simp only[Nat.reduceAdd,Nat.reduceMod]at n1 n2 n3 ⊢;omega),if_pos (by simp only[decide_eq_true_eq];simp only[Nat.reduceAdd,Nat.reduceMod]at n1 n2 n3 ⊢;omega)]
theorem start_ok(hc:c.Ok)(h:Del c S M)(hv:New c S v){q:Place}(hf:Kx.Found c S M v q):q.kind≠2∧(∃t:Nat,q.tri=t∧M.live t)∧Dq.Taken M (digStart M q)∧(∀t∈digStart M q,M.vis c.D v t)∧digStart M q≠[]∧
  (q.kind=1→∃(t:Nat) (f:Nat→Nat) (j:Nat),Real c S M t f∧j<3∧q=⟨1,t,min (f ((j+1)%3):Int) (f ((j+2)%3)),max (f ((j+1)%3):Int) (f ((j+2)%3))⟩):=by
 have one:∀t:Nat,M.live t→M.vis c.D v t→∀q:Place,q.kind≠1→q.tri=t→Dq.Taken M (digStart M q)∧(∀t∈digStart M q,M.vis c.D v t)∧digStart M q≠[]:=fun t hl hv q hk ht=>by
  have e:digStart M q=[t]:=by unfold digStart;rw[if_neg hk,ht];rfl
  rw[e];exact⟨⟨by simp,fun u hu=>by rw[List.mem_singleton]at hu;exact hu▸hl⟩,fun u hu=>by rw[List.mem_singleton]at hu;exact hu▸hv,by simp⟩
 rcases hf with⟨t,f,hh,rfl⟩|⟨u,rfl,hl,hvu⟩
 ·have hvt:=holds_vis hc h hv hh
  rcases within_cases h hv hh with e|⟨j,hj,h0,e⟩
  ·rw[e]
   exact⟨by simp,⟨t,rfl,hh.real.live⟩,(one t hh.real.live hvt _ (by simp) rfl).1,(one t hh.real.live hvt _ (by simp) rfl).2.1,(one t hh.real.live hvt _ (by simp) rfl).2.2,fun hk=>by simp at hk⟩
  ·rw[e]
   obtain⟨u,e1,e2,e3⟩:=over_vis hc h hv hh hj h0;have ea:=across_at h hh.real hj;rw[e1]at ea
   have ed:digStart M ⟨1,t,min (f ((j+1)%3):Int) (f ((j+2)%3)),max (f ((j+1)%3):Int) (f ((j+2)%3))⟩=[t,u]:=by
    unfold digStart;rw[if_pos rfl];simp only[Int.toNat_natCast];rw[ea];rfl
   have htu:t≠u:=fun e'=>by
    obtain⟨u',k',a1,a2,a3,a4,a5,a6⟩:=h.poly.nb t hh.real.live j hj;have:u'=t:=by rw[a1]at e1;omega
    subst this;have b1:=w_inj h.poly a2 (i:=(k'+1)%3) (j:=(j+2)%3) (by omega) (by omega) a5;have b2:=w_inj h.poly a2 (i:=(k'+2)%3) (j:=(j+1)%3) (by omega) (by omega) a6;omega
   rw[ed];refine⟨by simp,⟨t,rfl,hh.real.live⟩,⟨by simp[htu],fun x hx=>?_⟩,fun x hx=>?_,by simp,fun _=>⟨t,f,j,hh.real,hj,rfl⟩⟩
   ·simp only[List.mem_cons,List.not_mem_nil,or_false]at hx
    rcases hx with rfl|rfl
    ·exact hh.real.live
    ·exact e2
   ·simp only[List.mem_cons,List.not_mem_nil,or_false]at hx
    rcases hx with rfl|rfl
    ·exact hvt
    ·exact e3
 ·exact⟨by simp,⟨u,rfl,hl⟩,(one u hl hvu _ (by simp) rfl).1,(one u hl hvu _ (by simp) rfl).2.1,(one u hl hvu _ (by simp) rfl).2.2,fun hk=>by simp at hk⟩
theorem ex_real(h:Del c S M){t:Nat}(ht:M.live t):∃u:Nat,Mr.realB M u=true:=by
 have rb:∀u:Nat,M.live u→(∀i,i<3→M.w u i≠-1)→Mr.realB M u=true:=fun u hu hg=>by
  have p:∀i,i<3→0≤M.w u i:=fun i hi=>by
   obtain⟨n,e,_⟩:=not_neg h hu hi (hg i hi);rw[e];omega
  have h0:0≤(tat M.tris u).v0:=p 0 (by omega);have h1:0≤(tat M.tris u).v1:=p 1 (by omega);have h2:0≤(tat M.tris u).v2:=p 2 (by omega);have:=hu.1;unfold Mr.realB;simp only[Bool.and_eq_true,decide_eq_true_eq,Int.toNat_natCast];omega
 by_cases hg:∃i,i<3∧M.w t i=-1
 ·obtain⟨i,hi,e⟩:=hg
  obtain⟨u,k,e1,e2,e3,e4,e5,e6⟩:=h.poly.nb t ht i hi;refine⟨u,rb u e2 fun l hl hgl=>?_⟩;rcases(show l=k∨l=(k+1)%3∨l=(k+2)%3 by omega)with e'|e'|e'
  ·
   rw[e']at hgl;obtain⟨x,sx,x1,x2,x3⟩:=fourth h (-1) (M.w t ((i+1)%3)) (M.w t ((i+2)%3));have d1:=emp_at h.poly (Kg.alt c) ht hi sx (by rw[e];exact x1) x2 x3;have d2:=emp_at h.poly (Kg.alt c) e2 e3 sx (by rw[hgl];exact x1) (by rw[e5];exact x3) (by rw[e6];exact x2);rw[e]at d1;rw[hgl,e5,e6]at d2;have:=(Kg.alt c).s2 (-1) (M.w t ((i+1)%3)) (M.w t ((i+2)%3)) x;omega
  ·rw[e',e5]at hgl
   have:=one_ghost h ht hi (show(i+2)%3<3 by omega) e hgl;omega
  ·rw[e',e6]at hgl
   have:=one_ghost h ht hi (show(i+1)%3<3 by omega) e hgl;omega
 ·exact⟨t,rb t ht fun i hi e=>hg ⟨i,hi,e⟩⟩
theorem first_real{u:Nat}(hu:Mr.realB M u=true):∃t:Nat,Fi.firstReal M=t∧Mr.realB M t=true:=by
 have hl:u<M.tris.length:=by
  unfold Mr.realB at hu;simp only[Bool.and_eq_true,decide_eq_true_eq]at hu;omega
 have hm:u∈realsTo M M.tris.length:=by
  unfold realsTo;rw[List.mem_filter];exact⟨List.mem_range.2 hl,hu⟩
 unfold Fi.firstReal;cases hr:realsTo M M.tris.length with
 | nil=>rw[hr]at hm;simp at hm
 | cons i l=>
  refine⟨i,rfl,?_⟩;have:i∈realsTo M M.tris.length:=by rw[hr];simp
  unfold realsTo at this;exact(List.mem_filter.1 this).2
end
end Kz
end Go.Proofs.YtdihefgleefhmaaGreat
