import Derived.Test.YtdihefgleefhmaaGreatAc
import Derived.Test.YtdihefgleefhmaaGreatRd
namespace Go.Proofs.YtdihefgleefhmaaGreat
structure Alt(D:Int→Int→Int→Int→Int):Prop where
 s1:∀a b c d,D b a c d=- D a b c d
 s2:∀a b c d,D a c b d=- D a b c d
 s3:∀a b c d,D a b d c=- D a b c d
 pl:∀a b c d e f,D a b c d*D a b e f-D a b c e*D a b d f+D a b c f*D a b d e=0
namespace Pg
variable {D:Int→Int→Int→Int→Int}
theorem rot(h:Alt D)(a b c d:Int):D b c a d=D a b c d:=by
 have h1:=h.s2 b a c d;have h2:=h.s1 a b c d;omega
theorem zero(h:Alt D)(a b c:Int):D a b c c=0:=by
 have:=h.s3 a b c c;omega
theorem back(h:Alt D)(a b c d:Int):D c d a b=D a b c d:=by
 have h1:=h.s2 c a d b;have h2:=h.s1 a c d b;have h3:=h.s3 a c b d;have h4:=h.s2 a b c d;omega
theorem mul_nn{x y:Int}(hx:x<0)(hy:y<0):0<x*y:=Int.mul_pos_of_neg_of_neg hx hy
theorem neg_of_mul{x y:Int}(hx:x<0)(h:0<x*y):y<0:=by
 rcases Int.lt_trichotomy y 0 with h1|h1|h1
 ·exact h1
 ·subst h1;simp at h
 ·have:=Int.mul_neg_of_neg_of_pos hx h1;omega
theorem rim_empty(h:Alt D)(a b c d p v:Int)(h1:0<D a b c p)(h2:D b a d p<0)(h3:v=c∨D a b c v<0)(h4:v=d∨D b a d v<0)(h5:d=c∨D a b c d<0):D a b p v<0:=by
 have e1:=h.s1 a b d p;rcases h3 with rfl|h3
 ·have:=h.s3 a b v p;omega
 rcases h4 with rfl|h4
 ·have:=h.s3 a b v p;omega
 have e2:=h.s1 a b d v;rcases h5 with rfl|h5
 ·omega
 have p0:=h.pl a b c d p v;have m1:0<D a b c p*D a b d v:=Int.mul_pos h1 (by omega);have m2:D a b c v*D a b d p<0:=Int.mul_neg_of_neg_of_pos h3 (by omega);exact neg_of_mul h5 (by omega)
theorem ang(h:Alt D)(p u u':Int)(r:Nat→Int)(k:Nat)(hk:0<k)(hc:r k=r 0)(h1:∀i,i<k→D (r i) (r (i+1)) p u<0)(h2:∀i,i≤k→D u u' p (r i)<0):False:=by
 have g1:∀i,i<k→D p u (r i) (r (i+1))<0:=fun i hi=>by rw[←back h];exact h1 i hi
 have g2:∀i,i≤k→D p u u' (r i)<0:=fun i hi=>by rw[←rot h];exact h2 i hi
 have:∀i,i<k→D p u (r 0) (r (i+1))<0:=by
  intro i
  induction i with
  | zero=>exact fun hi=>g1 0 hi
  | succ i ih=>
   intro hi;have i1:=ih (by omega);have i2:=g1 (i+1) hi;have i3:=g2 (i+1) (by omega);have i4:=g2 0 (by omega);have i5:=g2 (i+1+1) (by omega);have p0:=h.pl p u u' (r 0) (r (i+1)) (r (i+1+1));have m1:=mul_nn i4 i2;have m2:=mul_nn i5 i1;exact neg_of_mul i3 (by omega)
 have:=this (k-1) (by omega);rw[show k-1+1=k by omega,hc,zero h]at this;omega
theorem far(h:Alt D){l:Int→Int→Int}(b p:Int)(hl:∀c d y p,D b d y p*l b c-D b c y p*l b d+D b c d p*l b y-D b c d y*l b p=0)(x:Nat→Int)(k:Nat)(hk:0<k)(hc:x k=x 0)
  (h1:∀i,i<k→0<D b (x i) (x (i+1)) p) (h2:∀i,0<i→i+1<k→D b (x i) (x (i+1)) (x 0)<0) (hx:∀i,i≤k→0<l b (x i)) (hp:0<l b p):False:=by
 by_cases k1:k=1
 ·subst k1
  have:=h1 0 (by omega);have e2:=h.s2 b (x 0) (x 0) p;simp only[Nat.zero_add]at this;rw[hc]at this;omega
 have sw:∀i,D b (x i) (x 0) p=- D b (x 0) (x i) p:=fun i=>h.s2 b (x 0) (x i) p
 have a1:D b (x 1) (x 0) p<0:=by have:=h1 0 (by omega);have:=sw 1;simp only[Nat.zero_add]at *;omega
 have a2:0<D b (x (k-1)) (x 0) p:=by
  have:=h1 (k-1) (by omega);rw[show k-1+1=k by omega,hc]at this;exact this
 have:∃i,0<i∧i+1<k∧D b (x i) (x 0) p<0∧0≤D b (x (i+1)) (x 0) p:=by
  have go:∀n,n+1<k→(D b (x (n+1)) (x 0) p<0)∨∃i,0<i∧i+1<k∧D b (x i) (x 0) p<0∧0≤D b (x (i+1)) (x 0) p:=by
   intro n
   induction n with
   | zero=>intro _;exact .inl a1
   | succ n ih=>
    intro hn;rcases ih (by omega)with h'|h'
    ·by_cases hg:D b (x (n+1+1)) (x 0) p<0
     ·exact .inl hg
     ·exact .inr ⟨n+1,by omega,by omega,h',by omega⟩
    ·exact .inr h'
  rcases go (k-2) (by omega)with h'|h'
  ·rw[show k-2+1=k-1 by omega]at h';omega
  ·exact h'
 obtain⟨i,i0,i1,i2,i3⟩:=this;have q:=hl (x i) (x (i+1)) (x 0) p;have m1:0≤D b (x (i+1)) (x 0) p*l b (x i):=Int.mul_nonneg i3 (Int.le_of_lt (hx i (by omega)));have m2:=Int.mul_neg_of_neg_of_pos i2 (hx (i+1) (by omega));have m3:0<D b (x i) (x (i+1)) p*l b (x 0):=Int.mul_pos (h1 i (by omega)) (hx 0 (by omega));have m4:=Int.mul_neg_of_neg_of_pos (h2 i i0 i1) hp;omega
end Pg
end Go.Proofs.YtdihefgleefhmaaGreat
namespace Go.Proofs.YtdihefgleefhmaaGreat
def Mesh.w(M:Mesh)(t j:Nat):Int:=(tat M.tris t).v j
structure Poly(D:Int→Int→Int→Int→Int)(S:Int→Prop)(M:Mesh):Prop where
 vs:∀t,M.live t→∀j,j<3→S (M.w t j)
 ne:∀t,M.live t→M.w t 0≠M.w t 1∧M.w t 1≠M.w t 2∧M.w t 2≠M.w t 0
 nb:∀t,M.live t→∀j,j<3→∃u k:Nat,(tat M.tris t).n j=u∧M.live u∧k<3∧(tat M.tris u).n k=t∧M.w u ((k+1)%3)=M.w t ((j+2)%3)∧M.w u ((k+2)%3)=M.w t ((j+1)%3)
 un:∀t u,M.live t→M.live u→∀j k,j<3→k<3→M.w t ((j+1)%3)=M.w u ((k+1)%3)→M.w t ((j+2)%3)=M.w u ((k+2)%3)→t=u∧j=k
 emp:∀t,M.live t→∀x,S x→x≠M.w t 0→x≠M.w t 1→x≠M.w t 2→D (M.w t 0) (M.w t 1) (M.w t 2) x<0
def Mesh.has(M:Mesh)(b:Int)(t:Nat):Prop:=M.live t∧∃i,i<3∧M.w t i=b
def Mesh.nx(M:Mesh)(b:Int)(t:Nat):Nat:=(nextRound M b t).toNat
def Mesh.bk(M:Mesh)(b:Int)(t:Nat):Nat:=((tat M.tris t).n ((Mr.place (tat M.tris t) b+2)%3).toNat).toNat
def Mesh.l1(M:Mesh)(b:Int)(t:Nat):Int:=M.w t ((Mr.place (tat M.tris t) b+1)%3).toNat
def Mesh.l2(M:Mesh)(b:Int)(t:Nat):Int:=M.w t ((Mr.place (tat M.tris t) b+2)%3).toNat
namespace Po
theorem php(f:Nat→Nat)(n:Nat)(h:∀i,i≤n→f i<n):∃i j,i<j∧j≤n∧f i=f j:=by
 refine Classical.byContradiction fun hc=>?_
 have hd:((List.range (n+1)).map f).Nodup:=by
  rw[List.nodup_iff_pairwise_ne,List.pairwise_map];refine List.pairwise_lt_range.imp_of_mem ?_;intro a b ha hb hab e;rw[List.mem_range]at ha hb;exact hc ⟨a,b,hab,by omega,e⟩
 have:=Dq.nodup_len n _ hd fun x hx=>by
  obtain⟨i,hi,rfl⟩:=List.mem_map.1 hx;rw[List.mem_range]at hi;exact h i (by omega)
 simp at this;omega
theorem least(P:Nat→Prop):∀k,0<k→P k→∃m,0<m∧m≤k∧P m∧∀j,0<j→j<m→¬P j:=by
 intro k
 induction k using Nat.strongRecOn with
 | _ k ih=>
  intro h0 hk;by_cases he:∃j,0<j∧j<k∧P j
  ·obtain⟨j,j0,jk,hj⟩:=he
   obtain⟨m,m0,mj,hm,hl⟩:=ih j jk j0 hj;exact⟨m,m0,by omega,hm,hl⟩
  ·exact⟨k,h0,Nat.le_refl _,hk,fun j j0 jk hj=>he ⟨j,j0,jk,hj⟩⟩
def iter(f:Nat→Nat)(x:Nat):Nat→Nat
 | 0=>x
 | n+1=>f (iter f x n)
theorem period(f g:Nat→Nat)(x N:Nat)(X:Nat→Prop)(hx:X x)(hf:∀y,X y→X (f y)∧g (f y)=y)(hN:∀y,X y→y<N) :
  ∃k,0<k∧k≤N∧iter f x k=x∧(∀i j,i<j→j<k→iter f x i≠iter f x j)∧∀n,X (iter f x n):=by
 have hX:∀n,X (iter f x n):=by
  intro n
  induction n with
  | zero=>exact hx
  | succ n ih=>exact(hf _ ih).1
 have down:∀i j,i≤j→iter f x i=iter f x j→x=iter f x (j-i):=by
  intro i
  induction i with
  | zero=>exact fun j _ e=>e
  | succ i ih=>
   intro j hj e;obtain⟨j,rfl⟩:∃m,j=m+1:=⟨j-1,by omega⟩;have h1:=(hf _ (hX i)).2;have h2:=(hf _ (hX j)).2;have e':f (iter f x i)=f (iter f x j):=e;rw[e',h2]at h1;have:=ih j (by omega) h1.symm
   rwa [show j+1-(i+1)=j-i by omega]
 obtain⟨i,j,hij,hjN,e⟩:=php (iter f x) N fun i _=>hN _ (hX i)
 obtain⟨m,m0,mj,hm,hl⟩:=least (fun k=>x=iter f x k) (j-i) (by omega) (down i j (by omega) e);refine⟨m,m0,by omega,hm.symm,fun a b hab hb e=>?_,hX⟩;exact hl (b-a) (by omega) (by omega) (down a b (by omega) e)
section
variable {D:Int→Int→Int→Int→Int} {S:Int→Prop} {M:Mesh}
theorem place_at(h:Poly D S M){t:Nat}(ht:M.live t){i:Nat}(hi:i<3){b:Int}(hb:M.w t i=b):Mr.place (tat M.tris t) b=i:=by
 obtain⟨n1,n2,n3⟩:=h.ne t ht;show(if M.w t 0=b then (0:Int) else if M.w t 1=b then 1 else if M.w t 2=b then 2 else -1)=i
 rcases(show i=0∨i=1∨i=2 by omega)with rfl|rfl|rfl
 ·rw[if_pos hb];rfl
 ·rw[if_neg (fun e=>n1 (e.trans hb.symm)),if_pos hb];rfl
 ·rw[if_neg (fun e=>n3 (hb.trans e.symm)),if_neg (fun e=>n2 (e.trans hb.symm)),if_pos hb];rfl
theorem det_rot(hD:Alt D)(t:Nat)(x:Int){i:Nat}(hi:i<3):D (M.w t i) (M.w t ((i+1)%3)) (M.w t ((i+2)%3)) x=D (M.w t 0) (M.w t 1) (M.w t 2) x:=by
 rcases(show i=0∨i=1∨i=2 by omega)with rfl|rfl|rfl
 ·rfl
 ·exact Pg.rot hD _ _ _ _
 ·exact(Pg.rot hD _ _ _ _).trans (Pg.rot hD _ _ _ _)
theorem emp_at(h:Poly D S M)(hD:Alt D){t:Nat}(ht:M.live t){i:Nat}(hi:i<3){x:Int}(hx:S x)(h0:x≠M.w t i)(h1:x≠M.w t ((i+1)%3))(h2:x≠M.w t ((i+2)%3)) :
  D (M.w t i) (M.w t ((i+1)%3)) (M.w t ((i+2)%3)) x<0:=by
 rw[det_rot hD t x hi];rcases(show i=0∨i=1∨i=2 by omega)with rfl|rfl|rfl
 ·exact h.emp t ht x hx h0 h1 h2
 ·exact h.emp t ht x hx h2 h0 h1
 ·exact h.emp t ht x hx h1 h2 h0
theorem at_place(h:Poly D S M){b:Int}{t:Nat}(ht:M.has b t):∃i:Nat,i<3∧Mr.place (tat M.tris t) b=i∧M.w t i=b∧M.l1 b t=M.w t ((i+1)%3)∧M.l2 b t=M.w t ((i+2)%3)∧
  M.nx b t=((tat M.tris t).n ((i+1)%3)).toNat∧M.bk b t=((tat M.tris t).n ((i+2)%3)).toNat∧nextRound M b t=(tat M.tris t).n ((i+1)%3):=by
 obtain⟨hl,i,hi,hb⟩:=ht;have hp:=place_at h hl hi hb;have e1:(((i:Int)+1)%3).toNat=(i+1)%3:=by omega
 have e2:(((i:Int)+2)%3).toNat=(i+2)%3:=by omega
 refine⟨i,hi,hp,hb,?_,?_,?_,?_,?_⟩
 ·unfold Mesh.l1;rw[hp,e1]
 ·unfold Mesh.l2;rw[hp,e2]
 ·unfold Mesh.nx nextRound;rw[hp,e1]
 ·unfold Mesh.bk;rw[hp,e2]
 ·unfold nextRound;rw[hp,e1]
theorem fw(h:Poly D S M){b:Int}{t:Nat}(ht:M.has b t):M.has b (M.nx b t)∧M.bk b (M.nx b t)=t∧M.l1 b (M.nx b t)=M.l2 b t∧nextRound M b t=(M.nx b t:Nat):=by
 obtain⟨i,hi,hp,hb,h1,h2,h3,h4,h5⟩:=at_place h ht;obtain⟨u,k,e1,e2,e3,e4,e5,e6⟩:=h.nb t ht.1 ((i+1)%3) (by omega);have hu:M.nx b t=u:=by rw[h3,e1];rfl
 have hb':M.w u ((k+1)%3)=b:=by rw[e5,show((i+1)%3+2)%3=i by omega,hb]
 have hh:M.has b u:=⟨e2,(k+1)%3,by omega,hb'⟩;obtain⟨i',hi',hp',hb2,g1,g2,g3,g4,g5⟩:=at_place h hh;have hi2:i'=(k+1)%3:=by have:=place_at h e2 (show(k+1)%3<3 by omega) hb';omega
 subst hi2;rw[hu];refine⟨hh,?_,?_,?_⟩
 ·rw[g4,show((k+1)%3+2)%3=k by omega,e4];rfl
 ·rw[g1,h2,show((k+1)%3+1)%3=(k+2)%3 by omega,e6,show((i+1)%3+1)%3=(i+2)%3 by omega]
 ·rw[h5,e1]
theorem det_b(h:Poly D S M)(hD:Alt D){b:Int}{t:Nat}(ht:M.has b t)(x:Int):D b (M.l1 b t) (M.l2 b t) x=D (M.w t 0) (M.w t 1) (M.w t 2) x:=by
 obtain⟨i,hi,hp,hb,h1,h2,_⟩:=at_place h ht;rw[h1,h2,←hb];exact det_rot hD t x hi
theorem emp_b(h:Poly D S M)(hD:Alt D){b:Int}{t:Nat}(ht:M.has b t){x:Int}(hx:S x)(h0:x≠b)(h1:x≠M.l1 b t)(h2:x≠M.l2 b t):D b (M.l1 b t) (M.l2 b t) x<0:=by
 obtain⟨i,hi,hp,hb,e1,e2,_⟩:=at_place h ht;rw[e1]at h1 ⊢;rw[e2]at h2 ⊢;rw[←hb]at h0 ⊢;exact emp_at h hD ht.1 hi hx h0 h1 h2
theorem l_S(h:Poly D S M){b:Int}{t:Nat}(ht:M.has b t):S b∧S (M.l1 b t)∧S (M.l2 b t)∧M.l1 b t≠b∧M.l2 b t≠b∧M.l1 b t≠M.l2 b t:=by
 obtain⟨i,hi,hp,hb,e1,e2,_⟩:=at_place h ht;obtain⟨n1,n2,n3⟩:=h.ne t ht.1;rw[e1,e2,←hb];refine⟨h.vs t ht.1 _ (by omega),h.vs t ht.1 _ (by omega),h.vs t ht.1 _ (by omega),?_⟩;rcases(show i=0∨i=1∨i=2 by omega)with rfl|rfl|rfl
 ·exact⟨n1.symm,n3,n2⟩
 ·exact⟨n2.symm,n1,n3⟩
 ·exact⟨n3.symm,n2,n1⟩
theorem un1(h:Poly D S M){b:Int}{t u:Nat}(ht:M.has b t)(hu:M.has b u)(e:M.l1 b t=M.l1 b u):t=u:=by
 obtain⟨i,hi,_,hb,e1,_⟩:=at_place h ht;obtain⟨k,hk,_,hb',g1,_⟩:=at_place h hu;refine(h.un t u ht.1 hu.1 ((i+2)%3) ((k+2)%3) (by omega) (by omega) ?_ ?_).1
 ·rw[show((i+2)%3+1)%3=i by omega,show((k+2)%3+1)%3=k by omega,hb,hb']
 ·rw[show((i+2)%3+2)%3=(i+1)%3 by omega,show((k+2)%3+2)%3=(k+1)%3 by omega,←e1,←g1,e]
theorem un2(h:Poly D S M){b:Int}{t u:Nat}(ht:M.has b t)(hu:M.has b u)(e:M.l2 b t=M.l2 b u):t=u:=by
 obtain⟨i,hi,_,hb,_,e1,_⟩:=at_place h ht;obtain⟨k,hk,_,hb',_,g1,_⟩:=at_place h hu;refine(h.un t u ht.1 hu.1 ((i+1)%3) ((k+1)%3) (by omega) (by omega) ?_ ?_).1
 ·rw[show((i+1)%3+1)%3=(i+2)%3 by omega,show((k+1)%3+1)%3=(k+2)%3 by omega,←e1,←g1,e]
 ·rw[show((i+1)%3+2)%3=i by omega,show((k+1)%3+2)%3=k by omega,hb,hb']
structure Star(M:Mesh)(b:Int)(ts:Nat→Nat)(k:Nat):Prop where
 round:RoundOk M b ts k
 has:∀n,M.has b (ts n)
 link:∀n,M.l1 b (ts (n+1))=M.l2 b (ts n)
 step:∀n,ts (n+1)=M.nx b (ts n)
 inj:∀i j,i<j→j<k→ts i≠ts j
 all:∀t,M.has b t→∃i,i<k∧ts i=t
theorem star(h:Poly D S M)(hD:Alt D){b:Int}{t:Nat}(ht:M.has b t):∃ts k,Star M b ts k∧ts 0=t:=by
 obtain⟨k,k0,kN,hk,hi,hX⟩:=period (M.nx b) (M.bk b) t M.tris.length (M.has b) ht (fun y hy=>⟨(fw h hy).1,(fw h hy).2.1⟩) fun y hy=>hy.1.1
 have hlk:∀n,M.l1 b (iter (M.nx b) t (n+1))=M.l2 b (iter (M.nx b) t n):=fun n=>(fw h (hX n)).2.2.1
 refine⟨iter (M.nx b) t,k,⟨⟨k0,kN,fun i _=>(hX i).1.1,fun i _=>?_,fun i _=>(fw h (hX i)).2.2.2,hk,fun i h0 hk'=>fun e=>hi 0 i h0 hk' e.symm⟩,hX,hlk,fun _=>rfl,hi,fun u hu=>?_⟩,rfl⟩
 ·obtain⟨j,_,hp,_⟩:=at_place h (hX i)
  rw[hp];omega
 ·refine Classical.byContradiction fun hc=>?_
  have n1:∀i,i≤k→M.l1 b u≠M.l1 b (iter (M.nx b) t i):=by
   intro i hik e;have:=un1 h hu (hX i) e;by_cases hik':i=k
   ·exact hc ⟨0,k0,by rw[this,hik',hk];rfl⟩
   ·exact hc ⟨i,by omega,this.symm⟩
  have n2:∀i,i≤k→M.l2 b u≠M.l1 b (iter (M.nx b) t i):=by
   have aux:∀i,i<k→M.l2 b u≠M.l1 b (iter (M.nx b) t (i+1)):=by
    intro i hik e;rw[hlk]at e;exact hc ⟨i,hik,(un2 h hu (hX i) e).symm⟩
   intro i hik;cases i with
   | zero=>
    have:=aux (k-1) (by omega);rw[show k-1+1=k by omega,hk]at this;exact this
   | succ i=>exact aux i (by omega)
  obtain⟨sb,s1,s2,m1,m2,m3⟩:=l_S h hu;refine Pg.ang hD b (M.l1 b u) (M.l2 b u) (fun i=>M.l1 b (iter (M.nx b) t i)) k k0 (by show M.l1 b (iter (M.nx b) t k)=_;rw[hk];rfl) ?_ ?_
  ·intro i hik
   rw[Pg.rot hD];show D b (M.l1 b (iter (M.nx b) t i)) (M.l1 b (iter (M.nx b) t (i+1))) _<0
   rw[hlk i];exact emp_b h hD (hX i) s1 m1 (n1 i (by omega)) (by rw[←hlk];exact n1 (i+1) (by omega))
  ·intro i hik
   rw[Pg.rot hD];obtain⟨_,q1,_,q2,_⟩:=l_S h (hX i);exact emp_b h hD hu q1 q2 (n1 i hik).symm (n2 i hik).symm
end
end Po
end Go.Proofs.YtdihefgleefhmaaGreat
namespace Go.Proofs.YtdihefgleefhmaaGreat
def Mesh.vis(M:Mesh)(D:Int→Int→Int→Int→Int)(p:Int)(t:Nat):Prop:=0<D (M.w t 0) (M.w t 1) (M.w t 2) p
structure Cav(M:Mesh)(D:Int→Int→Int→Int→Int)(p:Int)(C:Nat→Prop):Prop where
 sub:∀t,C t→M.live t∧M.vis D p t
 clo:∀t,C t→∀j u:Nat,j<3→(tat M.tris t).n j=u→M.vis D p u→C u
def Mesh.rim(M:Mesh)(C:Nat→Prop)(t j:Nat):Prop:=C t∧j<3∧∀u:Nat,(tat M.tris t).n j=u→¬C u
structure Apart(M:Mesh)(D:Int→Int→Int→Int→Int)(l:Int→Int→Int)(S:Int→Prop)(p:Int):Prop where
 gp:∀t,M.live t→D (M.w t 0) (M.w t 1) (M.w t 2) p≠0
 new:¬S p
 fn:∀b c d y p,D b d y p*l b c-D b c y p*l b d+D b c d p*l b y-D b c d y*l b p=0
 pos:∀b,S b→∀x,(S x∨x=p)→x≠b→0<l b x
namespace Pc
open Po
section
variable {D:Int→Int→Int→Int→Int} {S:Int→Prop} {M:Mesh} {l:Int→Int→Int} {p:Int} {C C':Nat→Prop}
theorem rim_emp(h:Poly D S M)(hD:Alt D)(ha:Apart M D l S p)(hC:Cav M D p C){t j:Nat}(hr:M.rim C t j){x:Int}(hx:S x)(h1:x≠M.w t ((j+1)%3))(h2:x≠M.w t ((j+2)%3)) :
  D (M.w t ((j+1)%3)) (M.w t ((j+2)%3)) p x<0:=by
 obtain⟨hc,hj,hn⟩:=hr;obtain⟨hl,hv⟩:=hC.sub t hc;obtain⟨u,k,e1,e2,e3,e4,e5,e6⟩:=h.nb t hl j hj;have hnv:¬M.vis D p u:=fun hv'=>hn u e1 (hC.clo t hc j u hj e1 hv')
 have d1:=det_rot (D:=D) (M:=M) hD t p (show(j+1)%3<3 by omega);have d2:=det_rot (D:=D) (M:=M) hD u p (show(k+1)%3<3 by omega);have dd1:=det_rot (D:=D) (M:=M) hD t x (show(j+1)%3<3 by omega);rw[show((j+1)%3+1)%3=(j+2)%3 by omega,show((j+1)%3+2)%3=j by omega]at d1;rw[show((k+1)%3+1)%3=(k+2)%3 by omega,show((k+1)%3+2)%3=k by omega,e5,e6]at d2;have g2:=ha.gp u e2;unfold Mesh.vis at hv hnv
 have em1:∀y,S y→y≠M.w t j→y≠M.w t ((j+1)%3)→y≠M.w t ((j+2)%3)→D (M.w t ((j+1)%3)) (M.w t ((j+2)%3)) (M.w t j) y<0:=fun y hy a b c=>by
  have:=emp_at h hD hl (show(j+1)%3<3 by omega) hy b (by rw[show((j+1)%3+1)%3=(j+2)%3 by omega];exact c) (by rw[show((j+1)%3+2)%3=j by omega];exact a)
  rwa [show((j+1)%3+1)%3=(j+2)%3 by omega,show((j+1)%3+2)%3=j by omega]at this
 have em2:∀y,S y→y≠M.w u k→y≠M.w t ((j+1)%3)→y≠M.w t ((j+2)%3)→D (M.w t ((j+2)%3)) (M.w t ((j+1)%3)) (M.w u k) y<0:=fun y hy a b c=>by
  have:=emp_at h hD e2 (show(k+1)%3<3 by omega) hy (by rw[e5];exact c) (by rw[show((k+1)%3+1)%3=(k+2)%3 by omega,e6];exact b) (by rw[show((k+1)%3+2)%3=k by omega];exact a)
  rwa [show((k+1)%3+1)%3=(k+2)%3 by omega,show((k+1)%3+2)%3=k by omega,e5,e6]at this
 have nu:M.w u k≠M.w t ((j+1)%3)∧M.w u k≠M.w t ((j+2)%3):=by
  rw[←e5,←e6];obtain⟨n1,n2,n3⟩:=h.ne u e2;rcases(show k=0∨k=1∨k=2 by omega)with rfl|rfl|rfl
  ·exact⟨n3.symm,n1⟩
  ·exact⟨n1.symm,n2⟩
  ·exact⟨n2.symm,n3⟩
 refine Pg.rim_empty hD _ _ (M.w t j) (M.w u k) p x (by omega) (by omega) ?_ ?_ ?_
 ·by_cases e:x=M.w t j
  ·exact .inl e
  ·exact .inr (em1 x hx e h1 h2)
 ·by_cases e:x=M.w u k
  ·exact .inl e
  ·exact .inr (em2 x hx e h1 h2)
 ·by_cases e:M.w u k=M.w t j
  ·exact .inl e
  ·exact .inr (em1 _ (h.vs u e2 k e3) e nu.1 nu.2)
theorem rim_S(h:Poly D S M)(hC:Cav M D p C){t j:Nat}(hr:M.rim C t j):S (M.w t ((j+1)%3))∧S (M.w t ((j+2)%3))∧M.w t ((j+1)%3)≠M.w t ((j+2)%3):=by
 have hl:=(hC.sub t hr.1).1;obtain⟨n1,n2,n3⟩:=h.ne t hl;refine⟨h.vs t hl _ (by omega),h.vs t hl _ (by omega),?_⟩;have:=hr.2.1;rcases(show j=0∨j=1∨j=2 by omega)with rfl|rfl|rfl
 ·exact n2
 ·exact n3
 ·exact n1
theorem rim_un1(h:Poly D S M)(hD:Alt D)(ha:Apart M D l S p)(hC:Cav M D p C)(hC':Cav M D p C'){t j u k:Nat}(hr:M.rim C t j)(hr':M.rim C' u k)(e:M.w t ((j+1)%3)=M.w u ((k+1)%3)):t=u∧j=k:=by
 obtain⟨_,s2,s3⟩:=rim_S h hC hr;obtain⟨_,s2',s3'⟩:=rim_S h hC' hr';by_cases e2:M.w t ((j+2)%3)=M.w u ((k+2)%3)
 ·exact h.un t u (hC.sub t hr.1).1 (hC'.sub u hr'.1).1 j k hr.2.1 hr'.2.1 e e2
 ·exfalso
  have h1:=rim_emp h hD ha hC hr s2' (by rw[e];exact s3'.symm) (fun x=>e2 x.symm);have h2:=rim_emp h hD ha hC' hr' s2 (by rw[←e];exact s3.symm) e2;rw[←e]at h2;generalize M.w t ((j+1)%3)=a at *;generalize M.w t ((j+2)%3)=b at *;generalize M.w u ((k+2)%3)=b' at *;have q1:=hD.s3 a b p b';have q2:=hD.s2 a b b' p;have q3:=hD.s3 a b' b p;omega
theorem rim_un2(h:Poly D S M)(hD:Alt D)(ha:Apart M D l S p)(hC:Cav M D p C)(hC':Cav M D p C'){t j u k:Nat}(hr:M.rim C t j)(hr':M.rim C' u k)(e:M.w t ((j+2)%3)=M.w u ((k+2)%3)):t=u∧j=k:=by
 obtain⟨s2,_,s3⟩:=rim_S h hC hr;obtain⟨s2',_,s3'⟩:=rim_S h hC' hr';by_cases e2:M.w t ((j+1)%3)=M.w u ((k+1)%3)
 ·exact h.un t u (hC.sub t hr.1).1 (hC'.sub u hr'.1).1 j k hr.2.1 hr'.2.1 e2 e
 ·exfalso
  have h1:=rim_emp h hD ha hC hr s2' (fun x=>e2 x.symm) (by rw[e];exact s3');have h2:=rim_emp h hD ha hC' hr' s2 e2 (by rw[←e];exact s3);rw[←e]at h2;generalize M.w t ((j+2)%3)=a at *;generalize M.w t ((j+1)%3)=b at *;generalize M.w u ((k+1)%3)=b' at *;have q1:=hD.s3 b a p b';have q2:=hD.s2 b a b' p;have q3:=hD.s1 b b' a p;have q4:=hD.s2 b' b a p;have q5:=hD.s3 b' a b p;omega
theorem leaves(h:Poly D S M)(hD:Alt D)(ha:Apart M D l S p)(hC:Cav M D p C){b:Int}{t:Nat}(ht:M.has b t)(hc:C t) :
  (∃u,M.has b u∧¬C u∧C (M.nx b u))∧∃u,M.has b u∧C u∧¬C (M.nx b u):=by
 obtain⟨ts,k,hs,h0⟩:=star h hD ht;have kp:=hs.round.pos;have kl:=hs.round.last
 have hout:∃m,m<k∧¬C (ts m):=by
  refine Classical.byContradiction fun hn=>?_
  have hall:∀i,i<k→C (ts i):=fun i hi=>Classical.byContradiction fun hc'=>hn ⟨i,hi,hc'⟩
  obtain⟨sb,_⟩:=l_S h ht;refine Pg.far hD b p (fun c d y p=>ha.fn b c d y p) (fun i=>M.l1 b (ts i)) k kp (by simp only[kl]) ?_ ?_ ?_ (ha.pos b sb p (.inr rfl) fun e=>ha.new (e▸sb))
  ·intro i hi
   have hv:=(hC.sub _ (hall i hi)).2;have:=det_b h hD (hs.has i) p;rw[←hs.link i]at this;rw[this];exact hv
  ·intro i i0 i1
   obtain⟨_,s1,_,m1,_⟩:=l_S h (hs.has 0);have n1:M.l1 b (ts 0)≠M.l1 b (ts i):=fun e=>hs.inj 0 i i0 (by omega) (un1 h (hs.has 0) (hs.has i) e)
   have n2:M.l1 b (ts 0)≠M.l1 b (ts (i+1)):=fun e=>hs.inj 0 (i+1) (by omega) i1 (un1 h (hs.has 0) (hs.has (i+1)) e)
   rw[hs.link i]at n2 ⊢;exact emp_b h hD (hs.has i) s1 m1 n1 n2
  ·intro i _
   obtain⟨_,s1,_,m1,_⟩:=l_S h (hs.has i);exact ha.pos b sb _ (.inl s1) m1
 obtain⟨m,mk,hm⟩:=hout;have c0:C (ts 0):=by rw[h0];exact hc
 have ck:C (ts k):=by rw[kl];exact c0
 have up:∀d,∀i,i+d=k→¬C (ts i)→∃j,¬C (ts j)∧C (ts (j+1)):=by
  intro d
  induction d with
  | zero=>
   intro i hi hn;obtain rfl:i=k:=by omega
   exact absurd ck hn
  | succ d ih=>
   intro i hi hn;by_cases hc':C (ts (i+1))
   ·exact⟨i,hn,hc'⟩
   ·exact ih (i+1) (by omega) hc'
 have down:∀i,¬C (ts i)→∃j,C (ts j)∧¬C (ts (j+1)):=by
  intro i
  induction i with
  | zero=>exact fun hn=>absurd c0 hn
  | succ i ih=>
   intro hn;by_cases hc':C (ts i)
   ·exact⟨i,hc',hn⟩
   ·exact ih hc'
 obtain⟨j,j1,j2⟩:=up (k-m) m (by omega) hm;obtain⟨j',j1',j2'⟩:=down m hm;rw[hs.step]at j2 j2';exact⟨⟨ts j,hs.has j,j1,j2⟩,⟨ts j',hs.has j',j1',j2'⟩⟩
theorem rim_at(h:Poly D S M)(hD:Alt D)(ha:Apart M D l S p)(hC:Cav M D p C){b:Int}{t:Nat}(ht:M.has b t)(hc:C t) :
  (∃u k,M.rim C u k∧M.w u ((k+1)%3)=b)∧∃u k,M.rim C u k∧M.w u ((k+2)%3)=b:=by
 obtain⟨⟨u,h1,h2,h3⟩,⟨u',g1,g2,g3⟩⟩:=leaves h hD ha hC ht hc;constructor
 ·obtain⟨f1,f2,f3,f4⟩:=fw h h1
  obtain⟨i,hi,hp,hb,q1,q2,q3,q4,q5⟩:=at_place h f1;obtain⟨v,k,e1,e2,e3,e4,e5,e6⟩:=h.nb _ f1.1 ((i+2)%3) (by omega);refine⟨M.nx b u,(i+2)%3,⟨h3,by omega,fun v' hv' hcv=>?_⟩,?_⟩
  ·rw[hv']at q4
   rw[f2]at q4;simp only[Int.toNat_natCast]at q4;rw[←q4]at hcv;exact h2 hcv
  ·rw[show((i+2)%3+1)%3=i by omega];exact hb
 ·obtain⟨f1,f2,f3,f4⟩:=fw h g1
  obtain⟨i,hi,hp,hb,q1,q2,q3,q4,q5⟩:=at_place h g1;refine⟨u',(i+1)%3,⟨g2,by omega,fun v' hv' hcv=>?_⟩,?_⟩
  ·rw[hv']at q3
   simp only[Int.toNat_natCast]at q3;rw[q3]at g3;exact g3 hcv
  ·rw[show((i+1)%3+2)%3=i by omega];exact hb
theorem rim_all(h:Poly D S M)(hD:Alt D)(ha:Apart M D l S p)(hC:Cav M D p C)(hC':Cav M D p C')(f g:Nat→Nat)(k:Nat)(hk:0<k)(hr:∀i,i≤k→M.rim C (f i) (g i))(hl:f k=f 0∧g k=g 0)
  (hn:∀i,i<k→M.w (f (i+1)) ((g (i+1)+1)%3)=M.w (f i) ((g i+2)%3)) {u j:Nat} (hu:M.rim C' u j):∃i,i<k∧f i=u∧g i=j:=by
 refine Classical.byContradiction fun hc=>?_
 have hne:∀i,i≤k→¬(f i=u∧g i=j):=by
  intro i hi e;by_cases hik:i=k
  ·rw[hik,hl.1,hl.2]at e
   exact hc ⟨0,hk,e⟩
  ·exact hc ⟨i,by omega,e⟩
 have n1:∀i,i≤k→M.w u ((j+1)%3)≠M.w (f i) ((g i+1)%3):=fun i hi e=>hne i hi (rim_un1 h hD ha hC hC' (hr i hi) hu e.symm)
 have n2:∀i,i≤k→M.w u ((j+2)%3)≠M.w (f i) ((g i+2)%3):=fun i hi e=>hne i hi (rim_un2 h hD ha hC hC' (hr i hi) hu e.symm)
 have n3:∀i,i≤k→M.w u ((j+2)%3)≠M.w (f i) ((g i+1)%3):=by
  intro i hi;cases i with
  | zero=>
   rw[←hl.1,←hl.2,show k=k-1+1 by omega,hn (k-1) (by omega)];exact n2 _ (by omega)
  | succ i=>rw[hn i (by omega)];exact n2 i (by omega)
 obtain⟨s1,s2,s3⟩:=rim_S h hC' hu;refine Pg.ang hD p (M.w u ((j+1)%3)) (M.w u ((j+2)%3)) (fun i=>M.w (f i) ((g i+1)%3)) k hk (by simp only[hl]) ?_ ?_
 ·intro i hi
  rw[hn i hi];refine rim_emp h hD ha hC (hr i (by omega)) s1 (n1 i (by omega)) ?_;rw[←hn i hi];exact n1 _ (by omega)
 ·intro i hi
  exact rim_emp h hD ha hC' hu (rim_S h hC (hr i hi)).1 (n1 i hi).symm (n3 i hi).symm
end
end Pc
end Go.Proofs.YtdihefgleefhmaaGreat
namespace Go.Proofs.YtdihefgleefhmaaGreat
def Mesh.plain(M:Mesh):Prop:=∀t,M.live t→∀j,j<3→(tat M.tris t).f j=false
namespace Pe
open Po Pc Dq
theorem nodup_sub{α:Type}[DecidableEq α]:∀(l1 l2:List α),l1.Nodup→(∀x∈l1,x∈l2)→l1.length≤l2.length
 | [],_,_,_=>Nat.zero_le _
 | x::l,l2,hn,hs=>by
  have hx:=hs x (by simp);have hn':=List.nodup_cons.1 hn;have:=nodup_sub l (l2.erase x) hn'.2 fun y hy=>(List.mem_erase_of_ne (fun e=>hn'.1 (by rw[←e];exact hy))).2 (hs y (by simp[hy]))
  rw[List.length_erase_of_mem hx]at this;have:=List.length_pos_of_mem hx;simp;omega
section
variable {D:Int→Int→Int→Int→Int} {S:Int→Prop} {M:Mesh} {l:Int→Int→Int} {p:Int} {pt:Pt}
def Clo(M:Mesh)(pt:Pt)(cs:List Nat)(t:Nat)(k:Nat):Prop:=∀j,j<k→((tat M.tris t).n j).toNat∈cs∨conflict M (tat M.tris ((tat M.tris t).n j).toNat) pt=false
theorem Clo.more{cs cs':List Nat}{t k:Nat}(h:Clo M pt cs t k)(hp:cs <+: cs'):Clo M pt cs' t k:=fun j hj=>(h j hj).imp (fun hm=>hp.subset hm) id
theorem one_clo(cs:List Nat)(u:Nat):u∈digOne M pt cs u false∨conflict M (tat M.tris u) pt=false:=by
 unfold digOne;by_cases h1:u∈cs
 ·rw[if_pos h1];exact .inl h1
 ·rw[if_neg h1]
  by_cases h2:conflict M (tat M.tris u) pt=true
  ·simp[h2]
  ·right;simpa using h2
theorem one_vis(cs:List Nat)(u:Nat)(f:Bool)(h:∀t∈cs,conflict M (tat M.tris t) pt=true):∀t∈digOne M pt cs u f,conflict M (tat M.tris t) pt=true:=by
 unfold digOne
 split
 ·exact h
 ·split
  ·exact h
  ·split
   ·rename_i hc
    intro t ht;rcases List.mem_append.1 ht with ht|ht
    ·exact h t ht
    ·rw[List.mem_singleton]at ht
     exact ht▸hc
   ·exact h
theorem tri_clo(hpl:M.plain){t:Nat}(ht:M.live t)(cs:List Nat):∀k,k≤3→Clo M pt (digTri M pt (tat M.tris t) k cs) t k
 | 0,_=>fun j hj=>by omega
 | k+1,hk=>by
  have ih:=tri_clo hpl ht cs k (by omega);intro j hj;unfold digTri;rw[hpl t ht k (by omega)];by_cases e:j=k
  ·subst e
   exact one_clo _ _
  ·exact(ih.more (Dq.one_le M pt _ _ _)) j (by omega)
theorem tri_vis(T:Tri)(cs:List Nat)(h:∀t∈cs,conflict M (tat M.tris t) pt=true):∀k,∀t∈digTri M pt T k cs,conflict M (tat M.tris t) pt=true
 | 0=>h
 | k+1=>one_vis _ _ _ (tri_vis T cs h k)
theorem go_ok(hs:M.sane)(hpl:M.plain):∀(f k:Nat) (cs:List Nat),Taken M cs→(∀t∈cs,conflict M (tat M.tris t) pt=true)→(∀i,i<k→i<cs.length→Clo M pt cs (cs.getD i 0) 3)→M.tris.length<f+k→
  Taken M (digGo M pt f k cs)∧cs <+: digGo M pt f k cs∧(∀t∈digGo M pt f k cs,conflict M (tat M.tris t) pt=true)∧∀t∈digGo M pt f k cs,Clo M pt (digGo M pt f k cs) t 3
 | 0,k,cs,ht,hv,hc,hf=>by
  refine⟨ht,List.prefix_rfl,hv,fun t hm=>?_⟩;unfold digGo at hm ⊢;obtain⟨i,hi,rfl⟩:=List.getElem_of_mem hm;have:=ht.len;have h2:=hc i (by have:i<cs.length:=hi;omega) hi;rw[List.getD_eq_getElem?_getD,List.getElem?_eq_getElem hi]at h2;exact h2
 | f+1,k,cs,ht,hv,hc,hf=>by
  unfold digGo;by_cases hk:k<cs.length
  ·rw[if_pos hk]
   have hm:cs.getD k 0∈cs:=by rw[List.getD_eq_getElem?_getD,List.getElem?_eq_getElem hk];exact List.getElem_mem hk
   have hl:=ht.live _ hm;have hpre:=Dq.tri_le M pt (tat M.tris (cs.getD k 0)) cs 3
   have:=go_ok hs hpl f (k+1) (digTri M pt (tat M.tris (cs.getD k 0)) 3 cs) (ht.tri hs hl 3 (Nat.le_refl _)) (tri_vis _ _ hv 3) (fun i hi _=>by
    by_cases e:i<k
    ·have h2:=(hc i e (by omega)).more hpre
     have:(digTri M pt (tat M.tris (cs.getD k 0)) 3 cs).getD i 0=cs.getD i 0:=by
      obtain⟨z,hz⟩:=hpre;rw[←hz,List.getD_eq_getElem?_getD,List.getD_eq_getElem?_getD,List.getElem?_append_left (by omega)]
     rw[this];exact h2
    ·obtain rfl:i=k:=by omega
     have:(digTri M pt (tat M.tris (cs.getD i 0)) 3 cs).getD i 0=cs.getD i 0:=by
      obtain⟨z,hz⟩:=hpre;rw[←hz,List.getD_eq_getElem?_getD,List.getD_eq_getElem?_getD,List.getElem?_append_left (by omega)]
     rw[this];exact tri_clo hpl hl cs 3 (Nat.le_refl _)) (by omega)
   exact⟨this.1,hpre.trans this.2.1,this.2.2⟩
  ·rw[if_neg hk]
   refine⟨ht,List.prefix_rfl,hv,fun t hm=>?_⟩;obtain⟨i,hi,rfl⟩:=List.getElem_of_mem hm;have h2:=hc i (by omega) hi;rw[List.getD_eq_getElem?_getD,List.getElem?_eq_getElem hi]at h2;exact h2
def flagsTri(M:Mesh)(cs:List Nat)(t:Nat):Nat→List (Nat×Nat)
 | 0=>[]
 | k+1=>if ((tat M.tris t).n k).toNat∈cs then flagsTri M cs t k else flagsTri M cs t k++[(t,k)]
def flags(M:Mesh)(cs:List Nat):List Nat→List (Nat×Nat)
 | []=>[]
 | t::l=>flagsTri M cs t 3++flags M cs l
theorem mem_flagsTri(cs:List Nat)(t:Nat):∀k x,x∈flagsTri M cs t k↔x.1=t∧x.2<k∧((tat M.tris t).n x.2).toNat ∉ cs
 | 0,x=>by simp[flagsTri]
 | k+1,x=>by
  unfold flagsTri
  split
  ·rename_i h
   rw[mem_flagsTri cs t k x];refine⟨fun⟨a,b,c⟩=>⟨a,by omega,c⟩,fun⟨a,b,c⟩=>⟨a,?_,c⟩⟩;by_cases e:x.2=k
   ·rw[e]at c;exact absurd h c
   ·omega
  ·rename_i h
   rw[List.mem_append,mem_flagsTri cs t k x,List.mem_singleton];constructor
   ·rintro(⟨a,b,c⟩|rfl)
    ·exact⟨a,by omega,c⟩
    ·exact⟨rfl,by simp,h⟩
   ·rintro⟨a,b,c⟩
    by_cases e:x.2=k
    ·right
     exact Prod.ext a e
    ·exact .inl ⟨a,by omega,c⟩
theorem nodup_flagsTri(cs:List Nat)(t:Nat):∀k,(flagsTri M cs t k).Nodup
 | 0=>List.nodup_nil
 | k+1=>by
  unfold flagsTri
  split
  ·exact nodup_flagsTri cs t k
  ·rw[List.nodup_append]
   refine⟨nodup_flagsTri cs t k,by simp,fun a ha b hb e=>?_⟩;rw[List.mem_singleton]at hb;have:=((mem_flagsTri cs t k a).1 ha).2.1;rw[e,hb]at this;simp at this
theorem mem_flags(cs:List Nat):∀l x,x∈flags M cs l↔x.1∈l∧x.2<3∧((tat M.tris x.1).n x.2).toNat ∉ cs
 | [],x=>by simp[flags]
 | t::l,x=>by
  unfold flags;rw[List.mem_append,mem_flagsTri,mem_flags cs l x,List.mem_cons];constructor
  ·rintro(⟨a,b,c⟩|⟨a,b,c⟩)
   ·exact⟨.inl a,b,by rw[a];exact c⟩
   ·exact⟨.inr a,b,c⟩
  ·rintro⟨a|a,b,c⟩
   ·exact .inl ⟨a,b,by rw[←a];exact c⟩
   ·exact .inr ⟨a,b,c⟩
theorem nodup_flags(cs:List Nat):∀l:List Nat,l.Nodup→(flags M cs l).Nodup
 | [],_=>List.nodup_nil
 | t::l,h=>by
  unfold flags;have h':=List.nodup_cons.1 h;rw[List.nodup_append];refine⟨nodup_flagsTri cs t 3,nodup_flags cs l h'.2,fun a ha b hb e=>?_⟩;have h1:=((mem_flagsTri cs t 3 a).1 ha).1;have h2:=((mem_flags cs l b).1 hb).1;rw[←e,h1]at h2;exact h'.1 h2
abbrev st(M:Mesh)(x:Nat×Nat):Int:=M.w x.1 ((x.2+1)%3)
abbrev en(M:Mesh)(x:Nat×Nat):Int:=M.w x.1 ((x.2+2)%3)
abbrev sd(M:Mesh)(x:Nat×Nat):Side:=sideOf M x.1 (tat M.tris x.1) x.2
theorem rimTri_flags(cs:List Nat)(t:Nat)(r:Rims):∀k,rimTri M pt cs t (tat M.tris t) k r=(flagsTri M cs t k).foldl (fun r x=>r.with M pt (sd M x)) r
 | 0=>rfl
 | k+1=>by
  unfold rimTri flagsTri rimOne;rw[rimTri_flags cs t r k]
  split
  ·rfl
  ·rw[List.foldl_append]
   rfl
theorem rimAll_flags(cs:List Nat):∀(l:List Nat) (r:Rims),rimAll M pt cs r l=(flags M cs l).foldl (fun r x=>r.with M pt (sd M x)) r
 | [],r=>rfl
 | t::l,r=>by
  unfold rimAll flags;rw[rimAll_flags cs l,rimTri_flags,List.foldl_append]
theorem fold_begins:∀(fl:List (Nat×Nat)) (r:Rims),(r.begins.map (·.1)++fl.map (st M)).Nodup→
  (fl.foldl (fun r x=>r.with M pt (sd M x)) r).begins=r.begins++fl.map fun x=>(st M x,sd M x)
 | [],r,_=>by simp
 | x::fl,r,h=>by
  rw[List.foldl_cons]
  have hx:∀y∈r.begins,y.1≠st M x:=fun y hy e=>by
   rw[List.nodup_append]at h;exact h.2.2 _ (List.mem_map.2 ⟨y,hy,rfl⟩) (st M x) (by simp) e
  have e1:(r.with M pt (sd M x)).begins=r.begins++[(st M x,sd M x)]:=Mp.put_none _ _ _ hx;rw[fold_begins fl _ (by rw[e1];simpa using h),e1];simp
theorem fold_least:∀(fl:List (Nat×Nat)) (r:Rims),(fl.foldl (fun r x=>r.with M pt (sd M x)) r).least≤r.least∧(∀x∈fl,(fl.foldl (fun r x=>r.with M pt (sd M x)) r).least≤st M x)∧
  ((fl.foldl (fun r x=>r.with M pt (sd M x)) r).least=r.least∨∃x∈fl,(fl.foldl (fun r x=>r.with M pt (sd M x)) r).least=st M x)
 | [],r=>by simp
 | x::fl,r=>by
  rw[List.foldl_cons];obtain⟨h1,h2,h3⟩:=fold_least fl (r.with M pt (sd M x));have e:(r.with M pt (sd M x)).least=min r.least (st M x):=rfl;rw[e]at h1 h3;refine⟨by omega,fun y hy=>?_,?_⟩
  ·rcases List.mem_cons.1 hy with rfl|hy
   ·omega
   ·exact h2 y hy
  ·rcases h3 with h3|⟨y,hy,h3⟩
   ·by_cases hm:r.least≤st M x
    ·exact .inl (by omega)
    ·exact .inr ⟨x,by simp,by omega⟩
   ·exact .inr ⟨y,by simp[hy],h3⟩
structure RimOk(M:Mesh)(C:Nat→Prop)(F:Nat→Nat×Nat)(k:Nat):Prop where
 pos:0<k
 flag:∀i,M.rim C (F i).1 (F i).2
 next:∀i,st M (F (i+1))=en M (F i)
 last:∀i,F (i+k)=F i
 inj:∀i j,i<j→j<k→F i≠F j
 all:∀t j,M.rim C t j→∃i,i<k∧F i=(t,j)
theorem rim_ok(h:Poly D S M)(hD:Alt D)(ha:Apart M D l S p){C:Nat→Prop}(hC:Cav M D p C)(x0:Nat×Nat)(h0:M.rim C x0.1 x0.2):∃F k,RimOk M C F k∧F 0=x0∧k≤3*M.tris.length:=by
 have hb:∀t j,M.rim C t j→∃x:Nat×Nat,M.rim C x.1 x.2∧st M x=en M (t,j):=fun t j hr=>by
  obtain⟨⟨u,k,h1,h2⟩,_⟩:=rim_at h hD ha hC (b:=M.w t ((j+2)%3)) ⟨(hC.sub t hr.1).1,(j+2)%3,by omega,rfl⟩ hr.1;exact⟨(u,k),h1,h2⟩
 have hp:∀t j,M.rim C t j→∃x:Nat×Nat,M.rim C x.1 x.2∧en M x=st M (t,j):=fun t j hr=>by
  obtain⟨_,⟨u,k,h1,h2⟩⟩:=rim_at h hD ha hC (b:=M.w t ((j+1)%3)) ⟨(hC.sub t hr.1).1,(j+1)%3,by omega,rfl⟩ hr.1;exact⟨(u,k),h1,h2⟩
 let X:Nat→Prop:=fun y=>M.rim C (y / 3) (y%3)
 let co:Nat×Nat→Nat:=fun x=>3*x.1+x.2
 have hco:∀x:Nat×Nat,x.2<3→(co x / 3,co x%3)=x:=fun x hx=>by
  have e1:(3*x.1+x.2) / 3=x.1:=by omega
  have e2:(3*x.1+x.2)%3=x.2:=by omega
  exact Prod.ext e1 e2
 have hX:∀x:Nat×Nat,M.rim C x.1 x.2→X (co x):=fun x hx=>by
  have:=hco x hx.2.1;show M.rim C (co x / 3,co x%3).1 (co x / 3,co x%3).2
  rw[this];exact hx
 let f:Nat→Nat:=fun y=>@dite _ (M.rim C (y / 3) (y%3)) (Classical.propDecidable _) (fun hy=>co (Classical.choose (hb _ _ hy))) (fun _=>y)
 let g:Nat→Nat:=fun y=>@dite _ (M.rim C (y / 3) (y%3)) (Classical.propDecidable _) (fun hy=>co (Classical.choose (hp _ _ hy))) (fun _=>y)
 have hf:∀y,X y→X (f y)∧st M (f y / 3,f y%3)=en M (y / 3,y%3):=fun y hy=>by
  have e:f y=co (Classical.choose (hb _ _ hy)):=dif_pos hy;have hs:=Classical.choose_spec (hb _ _ hy);rw[e];exact⟨hX _ hs.1,by rw[hco _ hs.1.2.1];exact hs.2⟩
 have hg:∀y,X y→X (g y)∧en M (g y / 3,g y%3)=st M (y / 3,y%3):=fun y hy=>by
  have e:g y=co (Classical.choose (hp _ _ hy)):=dif_pos hy;have hs:=Classical.choose_spec (hp _ _ hy);rw[e];exact⟨hX _ hs.1,by rw[hco _ hs.1.2.1];exact hs.2⟩
 have hgf:∀y,X y→g (f y)=y:=fun y hy=>by
  obtain⟨q1,q2⟩:=hf y hy;obtain⟨q3,q4⟩:=hg _ q1;have:=rim_un2 h hD ha hC hC q3 hy (q4.trans q2);omega
 obtain⟨k,k0,kN,hk,hi,hXn⟩:=period f g (co x0) (3*M.tris.length) X (hX _ h0) (fun y hy=>⟨(hf y hy).1,hgf y hy⟩) fun y hy=>by
  have h1:=(hC.sub _ hy.1).1.1;omega
 have hper:∀i,iter f (co x0) (i+k)=iter f (co x0) i:=by
  intro i
  induction i with
  | zero=>rw[Nat.zero_add];exact hk
  | succ i ih=>rw[show i+1+k=(i+k)+1 by omega];show f _=f _;rw[ih]
 refine⟨fun i=>(iter f (co x0) i / 3,iter f (co x0) i%3),k,⟨k0,fun i=>hXn i,fun i=>(hf _ (hXn i)).2,fun i=>by rw[hper i],fun i j hij hj e=>?_,fun t j hr=>?_⟩,hco x0 h0.2.1,kN⟩
 ·have e1:=congrArg Prod.fst e
  have e2:=congrArg Prod.snd e;simp only at e1 e2;exact hi i j hij hj (by omega)
 ·obtain⟨i,hik,e1,e2⟩:=rim_all h hD ha hC hC (fun i=>iter f (co x0) i / 3) (fun i=>iter f (co x0) i%3) k k0 (fun i _=>hXn i) (by simp only[hk];exact⟨rfl,rfl⟩) (fun i _=>(hf _ (hXn i)).2) hr
  exact⟨i,hik,Prod.ext e1 e2⟩
theorem go_flags{F:Nat→Nat×Nat}{l:List (Int×Side)}(hl:∀i,mget Side.zero (st M (F i)) l=sd M (F i))(hn:∀i,st M (F (i+1))=en M (F i)):∀n i,rimGo l n (st M (F i))=(List.range n).map fun j=>sd M (F (i+j))
 | 0,_=>rfl
 | n+1,i=>by
  unfold rimGo;rw[hl i];have e:(sd M (F i)).b=st M (F (i+1)):=(hn i).symm;rw[e,go_flags hl hn n (i+1),List.range_succ_eq_map,List.map_cons,List.map_map];refine List.cons_eq_cons.2 ⟨rfl,List.map_congr_left fun j _=>?_⟩;show sd M (F (i+1+j))=sd M (F (i+(j+1)))
  rw[show i+1+j=i+(j+1)by omega]
end
end Pe
end Go.Proofs.YtdihefgleefhmaaGreat
