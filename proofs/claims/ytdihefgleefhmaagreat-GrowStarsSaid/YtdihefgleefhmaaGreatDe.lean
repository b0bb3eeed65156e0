import Derived.Test.YtdihefgleefhmaaGreatDb
namespace Go.Proofs.YtdihefgleefhmaaGreat
def mlook{α β:Type}[DecidableEq α](k:α):List (α×β)→Option β
 | []=>none
 | x::l=>if x.1=k then some x.2 else mlook k l
def mdel{α β:Type}[DecidableEq α](k:α):List (α×β)→List (α×β)
 | []=>[]
 | x::l=>if x.1=k then l else x::mdel k l
abbrev Open:=List ((Int×Int)×(Nat×Nat))
def joinSide(fa:Int→Int→Bool)(t:Nat)(v:Nat→Int)(A:Mesh×Open)(i:Nat):Mesh×Open:=
 match mlook (v ((i+2)%3),v ((i+1)%3)) A.2 with
 | some o=>(A.1.link t i o.1 o.2 (fa (v ((i+1)%3)) (v ((i+2)%3))),mdel (v ((i+2)%3),v ((i+1)%3)) A.2)
 | none=>(A.1,mput (v ((i+1)%3),v ((i+2)%3)) (t,i) A.2)
def joinTri(fa:Int→Int→Bool)(t:Nat)(v:Nat→Int)(A:Mesh×Open):Mesh×Open:=joinSide fa t v (joinSide fa t v (joinSide fa t v A 0) 1) 2
def joinOne(fa:Int→Int→Bool)(A:Mesh×Open)(v:Int×Int×Int):Mesh×Open:=
 let r:=A.1.make v.1 v.2.1 v.2.2
 joinTri fa r.2 (tri3 v.1 v.2.1 v.2.2) (r.1,A.2)
def joinAll(fa:Int→Int→Bool)(A:Mesh×Open)(l:List (Int×Int×Int)):Mesh×Open:=l.foldl (joinOne fa) A
namespace De
section
variable {α β:Type} [DecidableEq α]
theorem look_none{k:α} : ∀{l:List (α×β)},mlook k l=none↔∀x∈l,x.1≠k
 | []=>by simp[mlook]
 | x::l=>by
  unfold mlook;by_cases e:x.1=k
  ·simp[e]
  ·rw[if_neg e,look_none]
   simp[e]
theorem look_some{k:α}{u:β} : ∀{l:List (α×β)},(l.map (·.1)).Nodup→(mlook k l=some u↔(k,u)∈l)
 | [],_=>by simp[mlook]
 | x::l,h=>by
  simp only[List.map_cons,List.nodup_cons]at h;unfold mlook;by_cases e:x.1=k
  ·rw[if_pos e,List.mem_cons]
   constructor
   ·intro h'
    cases h';exact .inl (by rw[←e])
   ·rintro(h'|h')
    ·rw[←h']
    ·exact absurd (List.mem_map.2 ⟨_,h',e.symm⟩) h.1
  ·rw[if_neg e,look_some h.2,List.mem_cons]
   constructor
   ·exact .inr
   ·rintro(h'|h')
    ·exact absurd (by rw[←h']) e
    ·exact h'
theorem mem_del{k:α} : ∀{l:List (α×β)},(l.map (·.1)).Nodup→∀x,x∈mdel k l↔x∈l∧x.1≠k
 | [],_,x=>by simp[mdel]
 | y::l,h,x=>by
  simp only[List.map_cons,List.nodup_cons]at h;unfold mdel;by_cases e:y.1=k
  ·rw[if_pos e,List.mem_cons]
   constructor
   ·intro h'
    exact⟨.inr h',fun e'=>h.1 (List.mem_map.2 ⟨x,h',e'.trans e.symm⟩)⟩
   ·rintro⟨h'|h',h2⟩
    ·exact absurd (by rw[h'];exact e) h2
    ·exact h'
  ·rw[if_neg e,List.mem_cons,mem_del h.2,List.mem_cons]
   constructor
   ·rintro(h'|⟨h',h2⟩)
    ·exact⟨.inl h',by rw[h'];exact e⟩
    ·exact⟨.inr h',h2⟩
   ·rintro⟨h'|h',h2⟩
    ·exact .inl h'
    ·exact .inr ⟨h',h2⟩
theorem del_sub{k:α} : ∀(l:List (α×β)),(mdel k l).Sublist l
 | []=>List.Sublist.refl _
 | x::l=>by
  unfold mdel
  split
  ·exact List.sublist_cons_self _ _
  ·exact(del_sub l).cons_cons _
theorem del_nodup{k:α}{l:List (α×β)}(h:(l.map (·.1)).Nodup):((mdel k l).map (·.1)).Nodup:=h.sublist ((del_sub l).map _)
theorem mem_put{k:α}{v:β}{l:List (α×β)}(h:∀x∈l,x.1≠k)(x:α×β):x∈mput k v l↔x∈l∨x=(k,v):=by
 rw[Mp.put_none k v l h];simp
end
structure Sd where
 t:Nat
 i:Nat
 a:Int
 b:Int
structure Inv(A:Mesh×Open)(Q:List Sd):Prop where
 side:∀s∈Q,s.t<A.1.tris.length∧s.i<3∧A.1.w s.t ((s.i+1)%3)=s.a∧A.1.w s.t ((s.i+2)%3)=s.b
 nod:(A.2.map (·.1)).Nodup
 op:∀x,x∈A.2↔∃s∈Q,x=((s.a,s.b),(s.t,s.i))∧∀y∈Q,¬(y.a=s.b∧y.b=s.a)
 nb:∀s∈Q,∀y∈Q,y.a=s.b→y.b=s.a→(tat A.1.tris s.t).n s.i=y.t
section
variable {fa:Int→Int→Bool} {A:Mesh×Open} {Q:List Sd}
theorem step(h:Inv A Q){t i:Nat}{v:Nat→Int}(ht:t<A.1.tris.length)(hi:i<3)(hv:∀j,j<3→A.1.w t j=v j)(hne:∀j k,j<3→k<3→j≠k→v j≠v k)
 (hnew:∀y∈Q,¬(y.a=v ((i+1)%3)∧y.b=v ((i+2)%3))) (hti:∀y∈Q,¬(y.t=t∧y.i=i)) (hinj:∀s∈Q,∀y∈Q,s.t=y.t→s.i=y.i→s=y) (huni:∀s∈Q,∀y∈Q,s.a=y.a→s.b=y.b→s=y) :
 Inv (joinSide fa t v A i) (⟨t,i,v ((i+1)%3),v ((i+2)%3)⟩::Q)∧(joinSide fa t v A i).1.tris.length=A.1.tris.length∧(∀x j,(joinSide fa t v A i).1.w x j=A.1.w x j):=by
 have ha:∀j,j<3→v ((j+1)%3)≠v ((j+2)%3):=fun j hj=>hne _ _ (by omega) (by omega) (by omega)
 obtain⟨s0,hs0⟩:∃s:Sd,s=⟨t,i,v ((i+1)%3),v ((i+2)%3)⟩:=⟨_,rfl⟩;rw[←hs0];have q1:s0.t=t:=by rw[hs0]
 have q2:s0.i=i:=by rw[hs0]
 have q3:s0.a=v ((i+1)%3):=by rw[hs0]
 have q4:s0.b=v ((i+2)%3):=by rw[hs0]
 unfold joinSide;cases hl:mlook (v ((i+2)%3),v ((i+1)%3)) A.2 with
 | none=>
  rw[look_none]at hl;dsimp only
  have hnk:∀x∈A.2,x.1≠(v ((i+1)%3),v ((i+2)%3)):=fun x hx e=>by
   obtain⟨s,hs,e',_⟩:=(h.op x).1 hx;rw[e']at e;simp only[Prod.mk.injEq]at e;exact hnew s hs e
  have hno:∀y∈Q,¬(y.a=s0.b∧y.b=s0.a):=fun y hy e=>by
   rw[q3,q4]at e;by_cases hh:∃z∈Q,z.a=y.b∧z.b=y.a
   ·obtain⟨z,hz,e1,e2⟩:=hh
    exact hnew z hz ⟨e1.trans e.2,e2.trans e.1⟩
   ·exact hl ((y.a,y.b),(y.t,y.i)) ((h.op _).2 ⟨y,hy,rfl,fun z hz e'=>hh ⟨z,hz,e'⟩⟩) (by rw[e.1,e.2])
  refine⟨⟨fun s hs=>?_,Mp.put_nodup _ _ _ h.nod,fun x=>?_,fun s hs y hy e1 e2=>?_⟩,rfl,fun _ _=>rfl⟩
  ·rcases List.mem_cons.1 hs with rfl|hs
   ·rw[q1,q2,q3,q4]
    exact⟨ht,hi,hv _ (by omega),hv _ (by omega)⟩
   ·exact h.side s hs
  ·rw[mem_put hnk]
   constructor
   ·rintro(hx|rfl)
    ·obtain⟨s,hs,e,hn⟩:=(h.op x).1 hx
     refine⟨s,List.mem_cons_of_mem _ hs,e,fun y hy e'=>?_⟩;rcases List.mem_cons.1 hy with rfl|hy
     ·exact hno s hs ⟨e'.2.symm,e'.1.symm⟩
     ·exact hn y hy e'
    ·refine⟨s0,List.mem_cons_self,by rw[q1,q2,q3,q4],fun y hy e'=>?_⟩
     rcases List.mem_cons.1 hy with rfl|hy
     ·rw[q3,q4]at e';exact ha i hi e'.1
     ·exact hno y hy e'
   ·rintro⟨s,hs,e,hn⟩
    rcases List.mem_cons.1 hs with rfl|hs
    ·right;rw[e,q1,q2,q3,q4]
    ·exact .inl ((h.op x).2 ⟨s,hs,e,fun y hy=>hn y (List.mem_cons_of_mem _ hy)⟩)
  ·rcases List.mem_cons.1 hs with rfl|hs
   ·rcases List.mem_cons.1 hy with rfl|hy
    ·rw[q3,q4]at e1;exact absurd e1 (ha i hi)
    ·exact absurd ⟨e1,e2⟩ (hno y hy)
   ·have hsQ:=hs
    rcases List.mem_cons.1 hy with rfl|hy
    ·exact absurd ⟨e2.symm,e1.symm⟩ (hno s (by assumption))
    ·exact h.nb s hsQ y hy e1 e2
 | some o=>
  rw[look_some h.nod]at hl;dsimp only;obtain⟨z,hz,ez,hzn⟩:=(h.op _).1 hl;simp only[Prod.mk.injEq]at ez;obtain⟨⟨za,zb⟩,eo⟩:=ez;subst eo;obtain⟨z1,z2,z3,z4⟩:=h.side z hz
  have htz:t≠z.t:=fun e=>by
   rw[←e,hv _ (by omega)]at z3 z4;rw[←za]at z3;rw[←zb]at z4;have u1:(z.i+1)%3=(i+2)%3:=Classical.byContradiction fun hn=>hne _ _ (by omega) (by omega) hn z3
   have u2:(z.i+2)%3=(i+1)%3:=Classical.byContradiction fun hn=>hne _ _ (by omega) (by omega) hn z4
   omega
  have hlk:=Kp.link_at A.1 (t:=t) (i:=i) (u:=z.t) (j:=z.i) (fa (v ((i+1)%3)) (v ((i+2)%3))) ht z1 hi z2 htz;have hll:=Kp.link_len A.1 t i z.t z.i (fa (v ((i+1)%3)) (v ((i+2)%3)));refine⟨⟨fun s hs=>?_,del_nodup h.nod,fun x=>?_,fun s hs y hy e1 e2=>?_⟩,hll,fun x j=>(hlk x).1 j⟩
  ·dsimp only
   unfold Mesh.w;rw[hll,(hlk _).1,(hlk _).1];rcases List.mem_cons.1 hs with rfl|hs
   ·rw[q1,q2,q3,q4]
    exact⟨ht,hi,hv _ (by omega),hv _ (by omega)⟩
   ·exact h.side s hs
  ·rw[mem_del h.nod]
   constructor
   ·rintro⟨hx,hxn⟩
    obtain⟨s,hs,e,hn⟩:=(h.op x).1 hx;refine⟨s,List.mem_cons_of_mem _ hs,e,fun y hy e'=>?_⟩;rcases List.mem_cons.1 hy with rfl|hy
    ·rw[e]at hxn
     exact hxn (by rw[←e'.1,←e'.2,q3,q4])
    ·exact hn y hy e'
   ·rintro⟨s,hs,e,hn⟩
    rcases List.mem_cons.1 hs with rfl|hs
    ·exact absurd ⟨by rw[q4];exact za.symm,by rw[q3];exact zb.symm⟩ (hn z (List.mem_cons_of_mem _ hz))
    ·refine⟨(h.op x).2 ⟨s,hs,e,fun y hy=>hn y (List.mem_cons_of_mem _ hy)⟩,fun e'=>?_⟩
     rw[e]at e';simp only[Prod.mk.injEq]at e';exact hn s0 List.mem_cons_self ⟨by rw[q3];exact e'.2.symm,by rw[q4];exact e'.1.symm⟩
  ·rcases List.mem_cons.1 hs with rfl|hs
   ·rcases List.mem_cons.1 hy with rfl|hy
    ·rw[q3,q4]at e1;exact absurd e1 (ha i hi)
    ·have:y=z:=huni y hy z hz (by rw[e1,q4,za]) (by rw[e2,q3,zb])
     rw[(hlk _).2.1 _ (by omega),q1,q2,if_pos ⟨rfl,rfl⟩,this]
   ·obtain⟨_,s2,_,_⟩:=h.side s hs
    rw[(hlk _).2.1 _ s2,if_neg (hti s hs)];rcases List.mem_cons.1 hy with rfl|hy
    ·have:s=z:=huni s (by assumption) z hz (by rw[←e2,q4,za]) (by rw[←e1,q3,zb])
     rw[this,if_pos ⟨rfl,rfl⟩,q1]
    ·by_cases e:s.t=z.t∧s.i=z.i
     ·have hsz:=hinj s hs z hz e.1 e.2
      exact absurd ⟨by rw[e1,hsz,←zb],by rw[e2,hsz,←za]⟩ (hnew y hy)
     ·rw[if_neg e]
      exact h.nb s hs y hy e1 e2
end
def sdOf(t:Nat)(v:Nat→Int)(i:Nat):Sd:=⟨t,i,v ((i+1)%3),v ((i+2)%3)⟩
def Uni(Q:List Sd):Prop:=(∀s∈Q,∀y∈Q,s.t=y.t→s.i=y.i→s=y)∧∀s∈Q,∀y∈Q,s.a=y.a→s.b=y.b→s=y
theorem uni_cons{Q:List Sd}(h:Uni Q){s0:Sd}(h1:∀y∈Q,¬(y.t=s0.t∧y.i=s0.i))(h2:∀y∈Q,¬(y.a=s0.a∧y.b=s0.b)):Uni (s0::Q):=by
 refine⟨fun s hs y hy e1 e2=>?_,fun s hs y hy e1 e2=>?_⟩
 ·rcases List.mem_cons.1 hs with es|hs'
  ·rcases List.mem_cons.1 hy with ey|hy'
   ·rw[es,ey]
   ·exact absurd ⟨by rw[←e1,es],by rw[←e2,es]⟩ (h1 y hy')
  ·rcases List.mem_cons.1 hy with ey|hy'
   ·exact absurd ⟨by rw[e1,ey],by rw[e2,ey]⟩ (h1 s hs')
   ·exact h.1 s hs' y hy' e1 e2
 ·rcases List.mem_cons.1 hs with es|hs'
  ·rcases List.mem_cons.1 hy with ey|hy'
   ·rw[es,ey]
   ·exact absurd ⟨by rw[←e1,es],by rw[←e2,es]⟩ (h2 y hy')
  ·rcases List.mem_cons.1 hy with ey|hy'
   ·exact absurd ⟨by rw[e1,ey],by rw[e2,ey]⟩ (h2 s hs')
   ·exact h.2 s hs' y hy' e1 e2
section
variable {fa:Int→Int→Bool} {A:Mesh×Open} {Q:List Sd}
theorem sd_ne{v:Nat→Int}(hne:∀j k,j<3→k<3→j≠k→v j≠v k){i j:Nat}(hi:i<3)(hj:j<3)(h:v ((j+1)%3)=v ((i+1)%3)):j=i:=by
 have:(j+1)%3=(i+1)%3:=Classical.byContradiction fun hn=>hne _ _ (by omega) (by omega) hn h
 omega
theorem tri_step(h:Inv A Q)(hu:Uni Q){t:Nat}{v:Nat→Int}(ht:t<A.1.tris.length)(hv:∀j,j<3→A.1.w t j=v j)(hne:∀j k,j<3→k<3→j≠k→v j≠v k)
 (hnew:∀y∈Q,∀i,i<3→¬(y.a=v ((i+1)%3)∧y.b=v ((i+2)%3))) (hti:∀y∈Q,y.t≠t) :
 Inv (joinTri fa t v A) (sdOf t v 2::sdOf t v 1::sdOf t v 0::Q)∧Uni (sdOf t v 2::sdOf t v 1::sdOf t v 0::Q)∧(joinTri fa t v A).1.tris.length=A.1.tris.length∧(∀x j,(joinTri fa t v A).1.w x j=A.1.w x j):=by
 obtain⟨i0,l0,w0⟩:=step (fa:=fa) h ht (i:=0) (by omega) hv hne (fun y hy=>hnew y hy 0 (by omega)) (fun y hy e=>hti y hy e.1) hu.1 hu.2;have u0:Uni (sdOf t v 0::Q):=uni_cons hu (fun y hy e=>hti y hy e.1) (fun y hy e=>hnew y hy 0 (by omega) e)
 have n1:∀y∈sdOf t v 0::Q,¬(y.a=v ((1+1)%3)∧y.b=v ((1+2)%3)):=fun y hy e=>by
  rcases List.mem_cons.1 hy with rfl|hy
  ·have:=sd_ne hne (i:=1) (j:=0) (by omega) (by omega) e.1;omega
  ·exact hnew y hy 1 (by omega) e
 have m1:∀y∈sdOf t v 0::Q,¬(y.t=t∧y.i=1):=fun y hy e=>by
  rcases List.mem_cons.1 hy with rfl|hy
  ·have e2:(0:Nat)=1:=e.2
   omega
  ·exact hti y hy e.1
 obtain⟨i1,l1,w1⟩:=step (fa:=fa) i0 (by rw[l0];exact ht) (i:=1) (by omega) (fun j hj=>by rw[w0];exact hv j hj) hne n1 m1 u0.1 u0.2;have u1:Uni (sdOf t v 1::sdOf t v 0::Q):=uni_cons u0 (fun y hy e=>m1 y hy e) (fun y hy e=>n1 y hy e)
 have n2:∀y∈sdOf t v 1::sdOf t v 0::Q,¬(y.a=v ((2+1)%3)∧y.b=v ((2+2)%3)):=fun y hy e=>by
  rcases List.mem_cons.1 hy with rfl|hy
  ·have:=sd_ne hne (i:=2) (j:=1) (by omega) (by omega) e.1;omega
  ·rcases List.mem_cons.1 hy with rfl|hy
   ·have:=sd_ne hne (i:=2) (j:=0) (by omega) (by omega) e.1;omega
   ·exact hnew y hy 2 (by omega) e
 have m2:∀y∈sdOf t v 1::sdOf t v 0::Q,¬(y.t=t∧y.i=2):=fun y hy e=>by
  rcases List.mem_cons.1 hy with rfl|hy
  ·have e2:(1:Nat)=2:=e.2
   omega
  ·rcases List.mem_cons.1 hy with rfl|hy
   ·have e2:(0:Nat)=2:=e.2
    omega
   ·exact hti y hy e.1
 obtain⟨i2,l2,w2⟩:=step (fa:=fa) i1 (by rw[l1,l0];exact ht) (i:=2) (by omega) (fun j hj=>by rw[w1,w0];exact hv j hj) hne n2 m2 u1.1 u1.2;exact⟨i2,uni_cons u1 (fun y hy e=>m2 y hy e) (fun y hy e=>n2 y hy e),by rw[show joinTri fa t v A=joinSide fa t v (joinSide fa t v (joinSide fa t v A 0) 1) 2 from rfl,l2,l1,l0],fun x j=>by rw[show joinTri fa t v A=joinSide fa t v (joinSide fa t v (joinSide fa t v A 0) 1) 2 from rfl,w2,w1,w0]⟩
theorem side_rest(t:Nat)(v:Nat→Int)(A:Mesh×Open)(i:Nat):(joinSide fa t v A i).1.free=A.1.free∧(joinSide fa t v A i).1.at_=A.1.at_∧(joinSide fa t v A i).1.pts=A.1.pts:=by
 unfold joinSide
 split
 ·exact Kp.link_rest _ _ _ _ _ _
 ·exact⟨rfl,rfl,rfl⟩
theorem tri_rest(t:Nat)(v:Nat→Int)(A:Mesh×Open):(joinTri fa t v A).1.free=A.1.free∧(joinTri fa t v A).1.at_=A.1.at_∧(joinTri fa t v A).1.pts=A.1.pts:=by
 obtain⟨a1,a2,a3⟩:=side_rest (fa:=fa) t v A 0;obtain⟨b1,b2,b3⟩:=side_rest (fa:=fa) t v (joinSide fa t v A 0) 1;obtain⟨c1,c2,c3⟩:=side_rest (fa:=fa) t v (joinSide fa t v (joinSide fa t v A 0) 1) 2;exact⟨c1.trans (b1.trans a1),c2.trans (b2.trans a2),c3.trans (b3.trans a3)⟩
end
def tr(L:List (Int×Int×Int))(l:Nat):Nat→Int:=tri3 (L.getD l (0,0,0)).1 (L.getD l (0,0,0)).2.1 (L.getD l (0,0,0)).2.2
structure Fine(L:List (Int×Int×Int)):Prop where
 ne:∀l,l<L.length→∀j k,j<3→k<3→j≠k→tr L l j≠tr L l k
 un:∀l m,l<L.length→m<L.length→∀i j,i<3→j<3→tr L l ((i+1)%3)=tr L m ((j+1)%3)→tr L l ((i+2)%3)=tr L m ((j+2)%3)→l=m∧i=j
structure Js(L:List (Int×Int×Int))(A0 A:Mesh×Open)(l:Nat)(ms:List Nat):Prop where
 msl:ms.length=l
 nod:ms.Nodup
 lt:∀y∈ms,y<A.1.tris.length
 w:∀m,m<l→∀j,j<3→A.1.w (ms.getD m 0) j=tr L m j
 free:∀n∈A.1.free,n<A.1.tris.length∧n ∉ ms
 fnod:A.1.free.Nodup
 rest:∀x,x<A.1.tris.length→x∈ms∨x∈A.1.free
 fl:A.1.free.length+l=4∨(A.1.free=[]∧4≤l)
 pts:A.1.pts=A0.1.pts
 atl:A.1.at_.length=A0.1.at_.length
 inv:∃Q,Inv A Q∧Uni Q∧∀s,s∈Q↔∃m i,m<l∧i<3∧s=sdOf (ms.getD m 0) (tr L m) i
 at1:∀x:Nat,x<A0.1.at_.length→(∃m j,m<l∧j<3∧tr L m j=x)→∃m j,m<l∧j<3∧tr L m j=x∧iat A.1.at_ x=(ms.getD m 0:Nat)
 at0:∀x:Nat,(∀m j,m<l→j<3→tr L m j≠x)→iat A.1.at_ x=iat A0.1.at_ x
theorem made_free(M:Mesh)(T:Tri):(M.made T).1.free.length=M.free.length-1∧(∀n∈M.free,n≠(M.made T).2→n∈(M.made T).1.free):=by
 unfold Mesh.made;cases hl:M.free.getLast? with
 | none=>
  have h0:M.free=[]:=List.getLast?_eq_none_iff.1 hl;dsimp only;rw[h0];exact⟨rfl,fun n hn=>by cases hn⟩
 | some y=>
  dsimp only;refine⟨by simp,fun n hn hne=>?_⟩;obtain⟨l,hl'⟩:∃l,M.free=l++[y]:=List.getLast?_eq_some_iff.1 hl;rw[hl']at hn ⊢;rw[List.dropLast_concat];rcases List.mem_append.1 hn with hn|hn
  ·exact hn
  ·rw[List.mem_singleton]at hn
   exact absurd hn hne
section
variable {fa:Int→Int→Bool} {L:List (Int×Int×Int)} {A0 A:Mesh×Open}
theorem one(hf:Fine L){l:Nat}(hl:l<L.length){ms:List Nat}(h:Js L A0 A l ms):∃ms',Js L A0 (joinOne fa A (L.getD l (0,0,0))) (l+1) ms':=by
 obtain⟨v,hv⟩:∃v,L.getD l (0,0,0)=v:=⟨_,rfl⟩;have htr:tr L l=tri3 v.1 v.2.1 v.2.2:=by unfold tr;rw[hv]
 rw[hv];obtain⟨m1,m2,m3,m4,m5,m6,m7,m8,m9,m10⟩:=Kp.made_at A.1 (Tri.new v.1 v.2.1 v.2.2) (fun n hn=>(h.free n hn).1) h.fnod;obtain⟨f1,f2⟩:=made_free A.1 (Tri.new v.1 v.2.1 v.2.2);unfold joinOne Mesh.make;dsimp only;obtain⟨y,hy⟩:∃y,(A.1.made (Tri.new v.1 v.2.1 v.2.2)).2=y:=⟨_,rfl⟩;obtain⟨B0,hB0⟩:∃B0,(A.1.made (Tri.new v.1 v.2.1 v.2.2)).1=B0:=⟨_,rfl⟩;rw[hB0]at m1 m2 m3 m5 m6 m7 m8 m9 m10 f1 f2;rw[hy]at m1 m2 m3 m4 m5 m8 f2;rw[hB0,hy];obtain⟨B,hB⟩:∃B:Mesh,({B0 with at_:=setAt (setAt (setAt B0.at_ v.1 y) v.2.1 y) v.2.2 y } : Mesh)=B:=⟨_,rfl⟩;have b1:B.tris=B0.tris:=by rw[←hB]
 have b2:B.free=B0.free:=by rw[←hB]
 have b3:B.pts=B0.pts:=by rw[←hB]
 have b4:B.at_=setAt (setAt (setAt B0.at_ v.1 y) v.2.1 y) v.2.2 y:=by rw[←hB]
 rw[hB]
 have hyA:y ∉ ms:=fun hm=>by
  rcases m4 with m4|m4
  ·exact(h.free y m4).2 hm
  ·have:=h.lt y hm;omega
 have hmi:∀m,m<l→ms.getD m 0∈ms:=fun m hm=>Kq.getD_mem (by rw[h.msl];exact hm)
 have hmd:∀m,m<l→(ms++[y]).getD m 0=ms.getD m 0:=fun m hm=>by rw[Kq.getD_app,if_pos (by rw[h.msl];exact hm)]
 have hml:(ms++[y]).getD l 0=y:=by rw[Kq.getD_app,if_neg (by rw[h.msl];omega),if_pos h.msl.symm]
 have hsame:∀x∈ms,tat B.tris x=tat A.1.tris x:=fun x hx=>by rw[b1];exact m3 x (fun e=>hyA (e▸hx)) (h.lt x hx)
 obtain⟨Q,hQ,hU,hQm⟩:=h.inv
 have hQt:∀s∈Q,s.t∈ms:=fun s hs=>by
  obtain⟨m,i,hm,_,rfl⟩:=(hQm s).1 hs;exact hmi m hm
 have hI:Inv (B,A.2) Q:=⟨fun s hs=>by
  obtain⟨s1,s2,s3,s4⟩:=hQ.side s hs;have e:=hsame s.t (hQt s hs);unfold Mesh.w at s3 s4 ⊢;dsimp only;rw[e,b1];exact⟨by omega,s2,s3,s4⟩,hQ.nod,hQ.op,fun s hs z hz e1 e2=>by
  dsimp only;rw[hsame s.t (hQt s hs)];exact hQ.nb s hs z hz e1 e2⟩
 have hw:∀j,j<3→B.w y j=tri3 v.1 v.2.1 v.2.2 j:=fun j hj=>by
  unfold Mesh.w;rw[b1,m2];rcases(show j=0∨j=1∨j=2 by omega)with rfl|rfl|rfl<;>rfl
 obtain⟨j1,j2,j3,j4⟩:=tri_step (fa:=fa) hI hU (t:=y) (v:=tri3 v.1 v.2.1 v.2.2) (by rw[b1];exact m1) hw (fun j k hj hk hjk=>by rw[←htr];exact hf.ne l hl j k hj hk hjk) (fun s hs i hi e=>by
  obtain⟨m,i',hm,hi',rfl⟩:=(hQm s).1 hs;rw[←htr]at e;have:=hf.un m l (by omega) hl i' i hi' hi e.1 e.2;omega) (fun s hs e=>hyA (e▸hQt s hs))
 obtain⟨r1,r2,r3⟩:=tri_rest (fa:=fa) y (tri3 v.1 v.2.1 v.2.2) (B,A.2);generalize joinTri fa y (tri3 v.1 v.2.1 v.2.2) (B,A.2)=R at *;dsimp only at j3 j4 r1 r2 r3
 have hBl:B0.tris.length≤A.1.tris.length+1:=by
  rcases Nat.lt_or_ge (A.1.tris.length+1) B0.tris.length with h'|h'
  ·have x1:=m8 A.1.tris.length (Nat.le_refl _) (by omega)
   have x2:=m8 (A.1.tris.length+1) (by omega) h';omega
  ·exact h'
 refine⟨ms++[y],by simp[h.msl],?_,fun z hz=>?_,fun m hm j hj=>?_,fun n hn=>?_,by rw[r1,b2];exact m6,fun x hx=>?_,?_,by rw[r3,b3,m10];exact h.pts,by rw[r2,b4];simp only[Kp.setAt_len];rw[m9];exact h.atl,?_,fun x hx hex=>?_,fun x hno=>?_⟩
 ·rw[List.nodup_append]
  exact⟨h.nod,by simp,fun a ha b hb e=>hyA (by rw[List.mem_singleton]at hb;rw[←hb,←e];exact ha)⟩
 ·rw[j3,b1]
  rcases List.mem_append.1 hz with hz|hz
  ·have:=h.lt z hz;omega
  ·rw[List.mem_singleton]at hz;subst hz;exact m1
 ·rw[j4]
  by_cases e:m=l
  ·rw[e,hml,htr];exact hw j hj
  ·have hm':m<l:=by omega
   rw[hmd m hm',←h.w m hm' j hj];unfold Mesh.w;rw[hsame _ (hmi m hm')]
 ·rw[r1,b2]at hn
  obtain⟨g1,g2⟩:=m5 n hn;obtain⟨g3,g4⟩:=h.free n g1;refine⟨by rw[j3,b1];omega,fun hm=>?_⟩;rcases List.mem_append.1 hm with hm|hm
  ·exact g4 hm
  ·rw[List.mem_singleton]at hm;exact g2 hm
 ·rw[j3,b1]at hx
  rw[r1,b2];by_cases e:x=y
  ·exact .inl (by rw[e];simp)
  ·have hxl:x<A.1.tris.length:=by
    rcases Nat.lt_or_ge x A.1.tris.length with h'|h'
    ·exact h'
    ·exact absurd (m8 x h' hx) e
   rcases h.rest x hxl with h'|h'
   ·exact .inl (by simp[h'])
   ·exact .inr (f2 x h' e)
 ·rw[r1,b2]
  rcases h.fl with h'|⟨h',h4⟩
  ·rcases Nat.eq_zero_or_pos A.1.free.length with h0|h0
   ·right
    exact⟨List.length_eq_zero_iff.1 (by omega),by omega⟩
   ·left;omega
  ·right
   rw[h']at f1;exact⟨List.length_eq_zero_iff.1 (by simpa using f1),by omega⟩
 ·refine⟨_,j1,j2,fun s=>?_⟩
  simp only[List.mem_cons,hQm];constructor
  ·have new:∀i,i<3→s=sdOf y (tri3 v.1 v.2.1 v.2.2) i→∃m i,m<l+1∧i<3∧s=sdOf ((ms++[y]).getD m 0) (tr L m) i:=fun i hi e=>⟨l,i,by omega,hi,by rw[hml,htr];exact e⟩
   rintro(e|e|e|⟨m,i,hm,hi,e⟩)
   ·exact new 2 (by omega) e
   ·exact new 1 (by omega) e
   ·exact new 0 (by omega) e
   ·exact⟨m,i,by omega,hi,by rw[hmd m hm];exact e⟩
  ·rintro⟨m,i,hm,hi,e⟩
   by_cases eml:m=l
   ·rw[eml,hml,htr]at e
    rcases(show i=0∨i=1∨i=2 by omega)with rfl|rfl|rfl
    ·exact .inr (.inr (.inl e))
    ·exact .inr (.inl e)
    ·exact .inl e
   ·rw[hmd m (by omega)]at e
    exact .inr (.inr (.inr ⟨m,i,by omega,hi,e⟩))
 ·have hBx:x<B0.at_.length:=by rw[m9,h.atl];exact hx
  by_cases hin:∃j,j<3∧tr L l j=x
  ·obtain⟨j,hj,e⟩:=hin
   refine⟨l,j,by omega,hj,e,?_⟩;rw[hml,r2,b4,Kp.setAt_at];rw[htr]at e;by_cases c3:v.2.2=x
   ·rw[if_pos ⟨c3,by simp only[Kp.setAt_len];exact hBx⟩]
   ·rw[if_neg (fun e=>c3 e.1),Kp.setAt_at]
    by_cases c2:v.2.1=x
    ·rw[if_pos ⟨c2,by simp only[Kp.setAt_len];exact hBx⟩]
    ·rw[if_neg (fun e=>c2 e.1),Kp.setAt_at]
     rcases(show j=0∨j=1∨j=2 by omega)with rfl|rfl|rfl
     ·have e':v.1=x:=e
      rw[if_pos ⟨e',hBx⟩]
     ·exact absurd e c2
     ·exact absurd e c3
  ·have hno:∀j,j<3→tr L l j≠x:=fun j hj e=>hin ⟨j,hj,e⟩
   obtain⟨m,j,hm,hj,e⟩:=hex
   have hm':m<l:=by
    by_cases e':m=l
    ·subst e';exact absurd e (hno j hj)
    ·omega
   obtain⟨m',j',a1,a2,a3,a4⟩:=h.at1 x hx ⟨m,j,hm',hj,e⟩;refine⟨m',j',by omega,a2,a3,?_⟩;rw[hmd m' a1,←a4,r2,b4];rw[htr]at hno;rw[Kp.setAt_at,if_neg (fun e=>hno 2 (by omega) e.1),Kp.setAt_at,if_neg (fun e=>hno 1 (by omega) e.1),Kp.setAt_at,if_neg (fun e=>hno 0 (by omega) e.1),m9]
 ·have hno':∀j,j<3→tr L l j≠x:=fun j hj=>hno l j (by omega) hj
  rw[htr]at hno';rw[r2,b4,Kp.setAt_at,if_neg (fun e=>hno' 2 (by omega) e.1),Kp.setAt_at,if_neg (fun e=>hno' 1 (by omega) e.1),Kp.setAt_at,if_neg (fun e=>hno' 0 (by omega) e.1),m9];exact h.at0 x fun m j hm hj=>hno m j (by omega) hj
theorem all(hf:Fine L)(h0:Js L A0 A0 0 []):∀l,l≤L.length→∃ms,Js L A0 (joinAll fa A0 (L.take l)) l ms
 | 0,_=>⟨[],h0⟩
 | l+1,hl=>by
  obtain⟨ms,h⟩:=all hf h0 l (by omega)
  have ht:L.take (l+1)=L.take l++[L.getD l (0,0,0)]:=by
   rw[List.take_add_one,List.getD_eq_getElem?_getD,List.getElem?_eq_getElem (by omega)];rfl
  rw[ht];unfold joinAll;rw[List.foldl_append];exact one hf (by omega) h
end
end De
end Go.Proofs.YtdihefgleefhmaaGreat
