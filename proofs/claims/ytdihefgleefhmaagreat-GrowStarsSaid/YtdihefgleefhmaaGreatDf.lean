import Derived.Test.YtdihefgleefhmaaGreatDe
namespace Go.Proofs.YtdihefgleefhmaaGreat
def gS(N:Nat)(x:Int):Prop:=x=-1∨∃m:Nat,x=m∧m<N
open De in
structure Tiles(c:Cfg)(N:Nat)(L:List (Int×Int×Int)):Prop where
 fine:Fine L
 len:4≤L.length
 rev:∀l i,l<L.length→i<3→∃m j,m<L.length∧j<3∧tr L m ((j+1)%3)=tr L l ((i+2)%3)∧tr L m ((j+2)%3)=tr L l ((i+1)%3)
 vs:∀l j,l<L.length→j<3→gS N (tr L l j)
 has:∀x,gS N x→∃l j,l<L.length∧j<3∧tr L l j=x
 emp:∀l,l<L.length→∀x,gS N x→x≠tr L l 0→x≠tr L l 1→x≠tr L l 2→c.D (tr L l 0) (tr L l 1) (tr L l 2) x<0
 real:∀l,l<L.length→∀i j k:Nat,tr L l 0=i→tr L l 1=j→tr L l 2=k→0<ori (pat c.pts i) (pat c.pts j) (pat c.pts k)
namespace Df
open Pe Cu Cv Po Cz Db Ki De
variable {c:Cfg} {N:Nat} {L:List (Int×Int×Int)} {A0 A:Mesh×Open} {ms:List Nat} {M:Mesh}
theorem gS_nat(N n:Nat):gS N n↔n<N:=by
 unfold gS;constructor
 ·rintro(h|⟨m,h,hm⟩)<;>omega
 ·intro h;exact .inr ⟨n,rfl,h⟩
theorem good(h:Tiles c N L)(J:Js L A0 A L.length ms)(ht:M.tris=A.1.tris)(hf:M.free=A.1.free)(hp:M.pts=c.pts)(ha:M.at_=A.1.at_++[-1])(h0:A0.1.at_.length=N)(hc:c.pts.length=N+1)
 (z:∃i j k:Nat,gS N i∧gS N j∧gS N k∧pat c.pts i=c.z0∧pat c.pts j=c.z1∧pat c.pts k=c.z2) (flat:ori c.z0 c.z1 c.z2≠0) (dist:∀i j:Nat,i<N→j<N→i≠j→pat c.pts i≠pat c.pts j) :
 Good c (gS N) M.bare L.length:=by
 have hfree:A.1.free=[]:=by
  rcases J.fl with h'|h'
  ·have:=h.len
   exact List.length_eq_zero_iff.1 (by omega)
  ·exact h'.1
 have hms:∀x,x<A.1.tris.length→∃l,l<L.length∧ms.getD l 0=x:=fun x hx=>by
  rcases J.rest x hx with h'|h'
  ·obtain⟨i,hi,e⟩:=List.getElem_of_mem h'
   exact⟨i,by rw[←J.msl];exact hi,by rw[List.getD_eq_getElem?_getD,List.getElem?_eq_getElem hi];exact e⟩
  ·rw[hfree]at h';cases h'
 have hmm:∀l,l<L.length→ms.getD l 0∈ms:=fun l hl=>Kq.getD_mem (by rw[J.msl];exact hl)
 have hw:∀l,l<L.length→∀j,j<3→M.w (ms.getD l 0) j=tr L l j:=fun l hl j hj=>by
  have:=J.w l hl j hj;unfold Mesh.w at this ⊢;rw[ht];exact this
 have hv2:∀l j,l<L.length→j<3→-1≤tr L l j:=fun l j hl hj=>by
  rcases h.vs l j hl hj with e|⟨m,e,_⟩<;>omega
 have hlive:∀l,l<L.length→M.live (ms.getD l 0):=fun l hl=>by
  refine⟨by rw[ht];exact J.lt _ (hmm l hl),fun e=>?_⟩;have e1:(tat M.tris (ms.getD l 0)).v0=tr L l 0:=hw l hl 0 (by omega);have:=hv2 l 0 hl (by omega);omega
 obtain⟨Q,hQ,hU,hQm⟩:=J.inv
 have hL:M.tris.length≤L.length:=by
  have h1:=Dq.nodup_len L.length (List.range M.tris.length |>.map fun x=>ms.idxOf x) ?_ ?_
  ·simpa using h1
  ·rw[List.nodup_iff_pairwise_ne,List.pairwise_map]
   refine List.pairwise_lt_range.imp_of_mem fun {a b} ha hb hab e=>?_
   rw[List.mem_range,ht]at ha hb;obtain⟨l1,h1,e1⟩:=hms a ha;obtain⟨l2,h2,e2⟩:=hms b hb;have ma:a∈ms:=e1▸hmm l1 h1;have mb:b∈ms:=e2▸hmm l2 h2;have:=List.getElem_idxOf (List.idxOf_lt_length_iff.2 ma);have h':=List.getElem_idxOf (List.idxOf_lt_length_iff.2 mb)
   have:a=b:=by
    rw[←this,←h'];simp only[e]
   omega
  ·intro x hx
   obtain⟨y,hy,rfl⟩:=List.mem_map.1 hx;rw[List.mem_range,ht]at hy;obtain⟨l,hl,e⟩:=hms y hy;have:=List.idxOf_lt_length_iff.2 (show y∈ms from e▸hmm l hl);rw[J.msl]at this;exact this
 have hof:∀t,M.bare.live t→∃l,l<L.length∧t=ms.getD l 0∧M.live t∧∀j,j<3→M.bare.w t j=tr L l j:=fun t hl=>by
  have hl':=(bare_live M t).1 hl;obtain⟨l,h1,h2⟩:=hms t (by rw[←ht];exact hl'.1);exact⟨l,h1,h2.symm,hl',fun j hj=>by rw[bare_w,←h2];exact hw l h1 j hj⟩
 have hpoly:Poly c.D (gS N) M.bare:={
  vs:=fun t hl j hj=>by
   obtain⟨l,h1,_,_,h4⟩:=hof t hl;rw[h4 j hj];exact h.vs l j h1 hj
  ne:=fun t hl=>by
   obtain⟨l,h1,_,_,h4⟩:=hof t hl;rw[h4 0 (by omega),h4 1 (by omega),h4 2 (by omega)];exact⟨h.fine.ne l h1 0 1 (by omega) (by omega) (by omega),h.fine.ne l h1 1 2 (by omega) (by omega) (by omega),h.fine.ne l h1 2 0 (by omega) (by omega) (by omega)⟩
  nb:=fun t hl j hj=>by
   obtain⟨l,h1,h2,h3,h4⟩:=hof t hl;obtain⟨m,k,hm,hk,e1,e2⟩:=h.rev l j h1 hj;have s1:sdOf (ms.getD l 0) (tr L l) j∈Q:=(hQm _).2 ⟨l,j,h1,hj,rfl⟩;have s2:sdOf (ms.getD m 0) (tr L m) k∈Q:=(hQm _).2 ⟨m,k,hm,hk,rfl⟩;have n1:=hQ.nb _ s1 _ s2 e1 e2;have n2:=hQ.nb _ s2 _ s1 e2.symm e1.symm;refine⟨ms.getD m 0,k,?_,(bare_live M _).2 (hlive m hm),hk,?_,?_,?_⟩
   ·rw[bare_n,ht,h2];exact n1
   ·rw[bare_n,ht,h2];exact n2
   ·rw[bare_w,hw m hm _ (by omega),h4 _ (by omega)];exact e1
   ·rw[bare_w,hw m hm _ (by omega),h4 _ (by omega)];exact e2
  un:=fun t u hl hu j k hj hk e1 e2=>by
   obtain⟨l,h1,h2,_,h4⟩:=hof t hl;obtain⟨m,g1,g2,_,g4⟩:=hof u hu;rw[h4 _ (by omega),g4 _ (by omega)]at e1 e2;obtain⟨e3,e4⟩:=h.fine.un l m h1 g1 j k hj hk e1 e2;exact⟨by rw[h2,g2,e3],e4⟩
  emp:=fun t hl x hx n0 n1 n2=>by
   obtain⟨l,h1,_,_,h4⟩:=hof t hl;rw[h4 0 (by omega)]at n0 ⊢;rw[h4 1 (by omega)]at n1 ⊢;rw[h4 2 (by omega)]at n2 ⊢;exact h.emp l h1 x hx n0 n1 n2 }
 have hatl:M.at_.length=N+1:=by rw[ha,List.length_append,J.atl,h0];rfl
 have hiat:∀x,x<N→iat M.at_ x=iat A.1.at_ x:=fun x hx=>by
  unfold iat;rw[ha,List.getD_eq_getElem?_getD,List.getD_eq_getElem?_getD,List.getElem?_append_left (by rw[J.atl,h0];exact hx)]
 exact {
  del:=⟨hpoly,hp,.inl rfl,fun x hx=>by
   rcases hx with e|⟨m,e,hm⟩
   ·exact .inl e
   ·exact .inr ⟨m,e,by omega⟩,z,flat,fun t hl i j k e0 e1 e2=>by
   obtain⟨l,h1,_,_,h4⟩:=hof t hl;rw[h4 _ (by omega)]at e0 e1 e2;exact h.real l h1 i j k e0 e1 e2,fun i j hi hj hij=>dist i j ((gS_nat N i).1 hi) ((gS_nat N j).1 hj) hij⟩
  plain:=bare_plain M
  free:=fun n hn=>by
   have hn':n∈M.free:=hn;rw[hf,hfree]at hn';cases hn'
  fnod:=by
   show M.free.Nodup
   rw[hf,hfree];exact List.nodup_nil
  dead:=fun x hx e=>by
   exfalso
   rw[bare_len,ht]at hx;obtain⟨l,h1,h2⟩:=hms x hx;rw[bare_at]at e;have:=(hlive l h1).2;rw[h2]at this;exact this e
  atl:=by
   show M.at_.length=M.pts.length
   rw[hatl,hp,hc]
  at1:=fun x hx=>by
   have hx':=(gS_nat N x).1 hx;obtain⟨l,j,h1,h2,h3⟩:=h.has x hx;obtain⟨m,k,g1,g2,g3,g4⟩:=J.at1 x (by omega) ⟨l,j,h1,h2,h3⟩;refine⟨ms.getD m 0,?_,(bare_live M _).2 (hlive m g1),k,g2,?_⟩
   ·show iat M.at_ x=_
    rw[hiat x hx'];exact g4
   ·rw[bare_w,hw m g1 k g2];exact g3
  at0:=fun x hx hn=>by
   have hx':x<M.pts.length:=hx;rw[hp,hc]at hx';rw[gS_nat]at hn;have:x=N:=by omega
   show iat M.at_ x=-1
   unfold iat;rw[ha,this,List.getD_eq_getElem?_getD,List.getElem?_append_right (by rw[J.atl,h0];omega),J.atl,h0];simp
  few:=by rw[bare_len];exact hL
  gh:=by
   obtain⟨l,j,h1,h2,h3⟩:=h.has (-1) (.inl rfl);exact⟨ms.getD l 0,(bare_live M _).2 (hlive l h1),j,h2,by rw[bare_w,hw l h1 j h2];exact h3⟩ }
end Df
end Go.Proofs.YtdihefgleefhmaaGreat
namespace Go.Proofs.YtdihefgleefhmaaGreat
abbrev T3:=Int×Int×Int
def edges3(x:T3):List (Int×Int):=[(x.2.1,x.2.2),(x.2.2,x.1),(x.1,x.2.1)]
def ghost3(e:Int×Int):T3:=(e.2,e.1,-1)
def border3(R:List T3):List (Int×Int):=(R.flatMap edges3).filter fun e=>decide ((e.2,e.1) ∉ R.flatMap edges3)
def gridPts(w h:Nat):List Pt:=(List.range (h+1)).flatMap fun(y:Nat)=>(List.range (w+1)).map fun(x:Nat)=>(⟨2*(x:Int),2*(y:Int)⟩:Pt)
def gridSq(w:Nat)(d:Nat→Bool)(y x:Nat):List T3:=
 let a:Int:=(y*(w+1)+x:Nat)
 let b:Int:=(y*(w+1)+(x+1):Nat)
 let c:Int:=((y+1)*(w+1)+(x+1):Nat)
 let e:Int:=((y+1)*(w+1)+x:Nat)
 if d (y*w+x)=true then [(a,b,c),(c,e,a)] else [(b,e,a),(e,b,c)]
def gridTris(w h:Nat)(d:Nat→Bool):List T3:=(List.range h).flatMap fun y=>(List.range w).flatMap fun x=>gridSq w d y x
def gridE(w h:Nat)(d:Nat→Bool)(v:Nat):Int:=
 if v<(w+1)*(h+1) then
  (if v%(w+1)%2=0∧v / (w+1)%2=0 then (if d (v / (w+1) / 2*w+v%(w+1) / 2)=decide (v%(w+1)=v / (w+1)) then 1 else 3) else 2)
 else 2722258935367507707706996859454145691648
def gridK:Int:=3705346855594118253554271520278013051304639509300498049262642688253220148477952
def gridN:Int:=6097165137335922326917182089439777940915230747392521779021790936768304177382354726797472857545882756171536974846497310342671827498609932238848
def gridC(w h:Nat)(d:Nat→Bool)(l:List Pt):Cfg:=⟨l,⟨0,0⟩,⟨2,0⟩,⟨0,2⟩,gridE w h d,gridK,gridN⟩
def shapeB(w h:Nat)(d:Nat→Bool):Bool:=
 let R:=gridTris w h d
 let L:=R++(border3 R).map ghost3
 let E:=L.flatMap edges3
 let c:=gridC w h d (gridPts w h)
 let V:List Int:=-1::(List.range ((w+1)*(h+1))).map fun(n:Nat)=>(n:Int)
 decide (E.Nodup)&&(decide (4≤L.length)&&(E.all (fun e=>decide ((e.2,e.1)∈E))&&(V.all (fun x=>L.any fun t=>x==t.1||(x==t.2.1||x==t.2.2))&&
  L.all (fun t=>decide (t.1≠t.2.1)&&(decide (t.2.1≠t.2.2)&&(decide (t.2.2≠t.1)&&(decide (t.1∈V)&&(decide (t.2.1∈V)&&(decide (t.2.2∈V)&&
   (V.all (fun x=>x==t.1||(x==t.2.1||(x==t.2.2||decide (c.D t.1 t.2.1 t.2.2 x<0))))&&
    (decide (t.1<0)||(decide (t.2.1<0)||(decide (t.2.2<0)||decide (0<ori (pat c.pts t.1.toNat) (pat c.pts t.2.1.toNat) (pat c.pts t.2.2.toNat)))))))))))))))
def bits4(a b c e:Bool)(k:Nat):Bool:=if k=0 then a else if k=1 then b else if k=2 then c else e
def allShapes:Bool:=[1,2].all fun w=>[1,2].all fun h=>[true,false].all fun a=>[true,false].all fun b=>[true,false].all fun c=>[true,false].all fun e=>shapeB w h (bits4 a b c e)
namespace Di
set_option maxRecDepth 100000 in
theorem shapes:allShapes=true:=by kernel_rfl
end Di
end Go.Proofs.YtdihefgleefhmaaGreat
namespace Go.Proofs.YtdihefgleefhmaaGreat
namespace Dj
open De
theorem shape(w h:Nat)(hw:w=1∨w=2)(hh:h=1∨h=2)(a b c e:Bool):shapeB w h (bits4 a b c e)=true:=by
 have hs:=Di.shapes;unfold allShapes at hs;simp only[List.all_eq_true]at hs;have hb:∀x:Bool,x∈[true,false]:=fun x=>by cases x<;>simp
 exact hs w (by rcases hw with rfl|rfl<;>simp) h (by rcases hh with rfl|rfl<;>simp) a (hb a) b (hb b) c (hb c) e (hb e)
theorem pat_app(l:List Pt)(p:Pt){n:Nat}(h:n<l.length):pat (l++[p]) n=pat l n:=by
 unfold pat;rw[List.getD_eq_getElem?_getD,List.getD_eq_getElem?_getD,List.getElem?_append_left h]
theorem vec_app(w h:Nat)(d:Nat→Bool)(l:List Pt)(p:Pt){x:Int}(hx:gS l.length x):(gridC w h d (l++[p])).vec x=(gridC w h d l).vec x:=by
 rcases hx with rfl|⟨n,rfl,hn⟩
 ·rfl
 ·have e:∀c:Cfg,c.vec (n:Int)=lift c.K (c.e n) (pat c.pts n):=fun c=>by
   unfold Cfg.vec;rw[if_neg (by omega)];rfl
  rw[e,e];show lift gridK _ (pat (l++[p]) n)=lift gridK _ (pat l n)
  rw[pat_app l p hn];rfl
theorem D_app(w h:Nat)(d:Nat→Bool)(l:List Pt)(p:Pt){i j k x:Int}(hi:gS l.length i)(hj:gS l.length j)(hk:gS l.length k)(hx:gS l.length x):(gridC w h d (l++[p])).D i j k x=(gridC w h d l).D i j k x:=by
 unfold Cfg.D;rw[vec_app w h d l p hi,vec_app w h d l p hj,vec_app w h d l p hk,vec_app w h d l p hx]
theorem edge_at(x:T3)(i:Nat)(hi:i<3):(edges3 x)[i]? =some (tri3 x.1 x.2.1 x.2.2 ((i+1)%3),tri3 x.1 x.2.1 x.2.2 ((i+2)%3)):=by
 rcases(show i=0∨i=1∨i=2 by omega)with rfl|rfl|rfl<;>rfl
theorem at_edge{x:T3}{e:Int×Int}(h:e∈edges3 x):∃i,i<3∧e=(tri3 x.1 x.2.1 x.2.2 ((i+1)%3),tri3 x.1 x.2.1 x.2.2 ((i+2)%3)):=by
 obtain⟨i,hi,e'⟩:=List.getElem_of_mem h;have hi':i<3:=hi;have:=edge_at x i hi';rw[List.getElem?_eq_getElem hi,e']at this;exact⟨i,hi',Option.some.inj this⟩
theorem get_mem{L:List T3}{l:Nat}(h:l<L.length):L.getD l (0,0,0)∈L:=by
 rw[List.getD_eq_getElem?_getD,List.getElem?_eq_getElem h];exact List.getElem_mem _
theorem mem_get{L:List T3}{x:T3}(h:x∈L):∃l,l<L.length∧L.getD l (0,0,0)=x:=by
 obtain⟨i,hi,e⟩:=List.getElem_of_mem h;exact⟨i,hi,by rw[List.getD_eq_getElem?_getD,List.getElem?_eq_getElem hi];exact e⟩
theorem fine{L:List T3}(hn:(L.flatMap edges3).Nodup)(hne:∀x∈L,x.1≠x.2.1∧x.2.1≠x.2.2∧x.2.2≠x.1):Fine L:=by
 have hp:(L.flatMap edges3).Pairwise (· ≠ ·):=hn;rw[List.pairwise_flatMap]at hp;obtain⟨h1,h2⟩:=hp;refine⟨fun l hl j k hj hk hjk=>?_,fun l m hl hm i j hi hj e1 e2=>?_⟩
 ·obtain⟨a,b,c⟩:=hne _ (get_mem hl)
  unfold tr;rcases(show j=0∨j=1∨j=2 by omega)with rfl|rfl|rfl<;>rcases(show k=0∨k=1∨k=2 by omega)with rfl|rfl|rfl<;>first| exact absurd rfl hjk|exact a|exact b|exact c|exact a.symm|exact b.symm|exact c.symm
 ·have g1:=edge_at (L.getD l (0,0,0)) i hi
  have g2:=edge_at (L.getD m (0,0,0)) j hj;have e:((tr L l ((i+1)%3),tr L l ((i+2)%3)):Int×Int)=(tr L m ((j+1)%3),tr L m ((j+2)%3)):=by rw[e1,e2]
  unfold tr at e
  have key:∀l m,l<L.length→m<L.length→l<m→∀i j,i<3→j<3→((tr L l ((i+1)%3),tr L l ((i+2)%3)):Int×Int)=(tr L m ((j+1)%3),tr L m ((j+2)%3))→False:=fun l m hl hm hlm i j hi hj e=>by
   have:=List.pairwise_iff_getElem.1 h2 l m hl hm hlm _ (List.mem_of_getElem? (edge_at L[l] i hi)) _ (List.mem_of_getElem? (edge_at L[m] j hj));refine this ?_;unfold tr at e;rw[List.getD_eq_getElem?_getD,List.getElem?_eq_getElem hl,List.getD_eq_getElem?_getD,List.getElem?_eq_getElem hm]at e;exact e
  have hlm:l=m:=by
   rcases Nat.lt_trichotomy l m with h'|h'|h'
   ·exact absurd (by unfold tr;exact e) (key l m hl hm h' i j hi hj)
   ·exact h'
   ·exact absurd (by unfold tr;exact e.symm) (key m l hm hl h' j i hj hi)
  subst hlm;refine⟨rfl,?_⟩;rw[←e]at g2;obtain⟨a1,a2⟩:=List.getElem?_eq_some_iff.1 g1;obtain⟨b1,b2⟩:=List.getElem?_eq_some_iff.1 g2;have hnd:(edges3 (L.getD l (0,0,0))).Nodup:=h1 _ (get_mem hl);exact(List.getElem_inj hnd).1 (a2.trans b2.symm)
theorem pts_len(w h:Nat):(gridPts w h).length=(w+1)*(h+1):=by
 unfold gridPts;rw[List.length_flatMap];simp only[List.length_map,List.length_range];rw[List.map_const',List.sum_replicate_nat,List.length_range,Nat.mul_comm]
theorem tiles(w h:Nat)(hw:w=1∨w=2)(hh:h=1∨h=2)(b0 b1 b2 b3:Bool)(p:Pt)(B:List (Int×Int))(hB:B.Perm (border3 (gridTris w h (bits4 b0 b1 b2 b3)))) :
 Tiles (gridC w h (bits4 b0 b1 b2 b3) (gridPts w h++[p])) ((w+1)*(h+1)) (gridTris w h (bits4 b0 b1 b2 b3)++B.map ghost3):=by
 have hs:=shape w h hw hh b0 b1 b2 b3;generalize bits4 b0 b1 b2 b3=d at *;unfold shapeB at hs;simp only[Bool.and_eq_true,decide_eq_true_eq,List.all_eq_true,List.any_eq_true,Bool.or_eq_true,beq_iff_eq]at hs;obtain⟨s1,s2,s3,s4,s5⟩:=hs;have hp:(gridTris w h d++B.map ghost3).Perm (gridTris w h d++(border3 (gridTris w h d)).map ghost3):=(List.Perm.refl _).append (hB.map _);have hpe:=hp.flatMap_right edges3;generalize gridTris w h d++(border3 (gridTris w h d)).map ghost3=L0 at *;generalize gridTris w h d++B.map ghost3=L at *
 have hV:∀x:Int,x∈(-1::(List.range ((w+1)*(h+1))).map fun(n:Nat)=>(n:Int))↔gS ((w+1)*(h+1)) x:=fun x=>by
  rw[List.mem_cons,List.mem_map];constructor
  ·rintro(e|⟨m,hm,e⟩)
   ·exact .inl e
   ·exact .inr ⟨m,e.symm,List.mem_range.1 hm⟩
  ·rintro(e|⟨m,e,hm⟩)
   ·exact .inl e
   ·exact .inr ⟨m,List.mem_range.2 hm,e.symm⟩
 have hpl:=pts_len w h;have t5:=fun x (hx:x∈L)=>s5 x (hp.mem_iff.1 hx)
 have hvs:∀x∈L,∀j,j<3→gS ((w+1)*(h+1)) (tri3 x.1 x.2.1 x.2.2 j):=fun x hx j hj=>by
  obtain⟨_,_,_,v0,v1,v2,_⟩:=t5 x hx;rw[hV]at v0 v1 v2;rcases(show j=0∨j=1∨j=2 by omega)with rfl|rfl|rfl
  ·exact v0
  ·exact v1
  ·exact v2
 exact {
  fine:=fine (hpe.nodup_iff.2 s1) fun x hx=>by
   obtain⟨n0,n1,n2,_⟩:=t5 x hx;exact⟨n0,n1,n2⟩
  len:=by rw[hp.length_eq];exact s2
  rev:=fun l i hl hi=>by
   have hm:(tr L l ((i+1)%3),tr L l ((i+2)%3))∈L.flatMap edges3:=List.mem_flatMap.2 ⟨_,get_mem hl,List.mem_of_getElem? (edge_at _ i hi)⟩;have:=s3 _ (hpe.mem_iff.1 hm);obtain⟨y,hy,he⟩:=List.mem_flatMap.1 (hpe.mem_iff.2 this);obtain⟨m,hm1,hm2⟩:=mem_get hy;obtain⟨j,hj,e⟩:=at_edge he;rw[Prod.mk.injEq]at e;refine⟨m,j,hm1,hj,?_,?_⟩
   ·show tri3 (L.getD m (0,0,0)).1 _ _ _=_
    rw[hm2];exact e.1.symm
   ·show tri3 (L.getD m (0,0,0)).1 _ _ _=_
    rw[hm2];exact e.2.symm
  vs:=fun l j hl hj=>hvs _ (get_mem hl) j hj
  has:=fun x hx=>by
   obtain⟨t,ht,h'⟩:=s4 x ((hV x).2 hx);obtain⟨l,hl,e⟩:=mem_get (hp.mem_iff.2 ht);unfold tr;rcases h' with h'|h'|h'
   ·exact⟨l,0,hl,by omega,by rw[e];exact h'.symm⟩
   ·exact⟨l,1,hl,by omega,by rw[e];exact h'.symm⟩
   ·exact⟨l,2,hl,by omega,by rw[e];exact h'.symm⟩
  emp:=fun l hl x hx n0 n1 n2=>by
   obtain⟨_,_,_,_,_,_,he,_⟩:=t5 _ (get_mem hl);have h0:=hvs _ (get_mem hl) 0 (by omega);have h1:=hvs _ (get_mem hl) 1 (by omega);have h2:=hvs _ (get_mem hl) 2 (by omega);rw[←hpl]at h0 h1 h2;rcases he x ((hV x).2 hx)with e|e|e|e
   ·exact absurd e n0
   ·exact absurd e n1
   ·exact absurd e n2
   ·rw[←hpl]at hx
    have:=D_app w h d _ p h0 h1 h2 hx;unfold tr;rw[this];exact e
  real:=fun l hl i j k e0 e1 e2=>by
   obtain⟨_,_,_,v0,v1,v2,_,hr⟩:=t5 _ (get_mem hl);have e0':(L.getD l (0,0,0)).1=i:=e0;have e1':(L.getD l (0,0,0)).2.1=j:=e1;have e2':(L.getD l (0,0,0)).2.2=k:=e2;rw[hV]at v0 v1 v2;rw[e0',e1',e2']at hr;rw[e0',Df.gS_nat,←hpl]at v0;rw[e1',Df.gS_nat,←hpl]at v1;rw[e2',Df.gS_nat,←hpl]at v2;rcases hr with hr|hr|hr|hr
   ·omega
   ·omega
   ·omega
   ·show 0<ori (pat (gridPts w h++[p]) i) (pat (gridPts w h++[p]) j) (pat (gridPts w h++[p]) k)
    rw[pat_app _ p v0,pat_app _ p v1,pat_app _ p v2];exact hr }
end Dj
end Go.Proofs.YtdihefgleefhmaaGreat
namespace Go.Proofs.YtdihefgleefhmaaGreat
def Mesh.add(M:Mesh)(p:Pt):Mesh:={M with pts:=M.pts++[p],at_:=M.at_++[-1] }
def grid0(w h:Nat)(a b c:Nat):Mesh:=dropN (newOf (gridPts w h) a b c) [0,1,2,3] 4
def gridR(fa:Int→Int→Bool)(w h:Nat)(d:Nat→Bool)(a b c:Nat):Mesh×Open:=joinAll fa (grid0 w h a b c,[]) (gridTris w h d)
def gridG(fa:Int→Int→Bool)(w h:Nat)(d:Nat→Bool)(a b c:Nat)(B:List (Int×Int)):Mesh:=(joinAll fa (gridR fa w h d a b c) (B.map ghost3)).1
namespace Dk
open De Pe Cu Cv Po Cz Db Ki
variable {fa:Int→Int→Bool} {w h:Nat} {d:Nat→Bool} {a b c:Nat} {B:List (Int×Int)}
theorem start(L:List T3)(l:List Pt)(a b c:Nat):Js L (dropN (newOf l a b c) [0,1,2,3] 4,[]) (dropN (newOf l a b c) [0,1,2,3] 4,[]) 0 []:=by
 rw[Jb.new_eq];have e:dropN (Jb.N0 l a b c) [0,1,2,3] 4=⟨l,[Tri.gone,Tri.gone,Tri.gone,Tri.gone],[0,1,2,3],Jb.at0 l a b c⟩:=rfl;rw[e];refine⟨rfl,List.nodup_nil,fun y hy=>(by cases hy),fun m hm=>(by omega),fun n hn=>?_,(by decide:([0,1,2,3]:List Nat).Nodup),fun x hx=>?_,.inl rfl,rfl,rfl,⟨[],⟨fun s hs=>(by cases hs),List.nodup_nil,fun x=>?_,fun s hs=>(by cases hs)⟩,⟨fun s hs=>(by cases hs),fun s hs=>(by cases hs)⟩,fun s=>?_⟩,fun x hx=>?_,fun x _=>rfl⟩
 ·have hn':n∈[0,1,2,3]:=hn
  refine⟨?_,by simp⟩;show n<4
  simp only[List.mem_cons,List.not_mem_nil,or_false]at hn';omega
 ·right
  have hx':x<4:=hx;show x∈[0,1,2,3]
  simp only[List.mem_cons,List.not_mem_nil,or_false];omega
 ·constructor
  ·intro h;cases h
  ·rintro⟨s,hs,_⟩;cases hs
 ·constructor
  ·intro h;cases h
  ·rintro⟨m,i,hm,_⟩;omega
 ·rintro⟨m,j,hm,_⟩;omega
theorem fine_pre{R G:List T3}(h:Fine (R++G)):Fine R:=by
 have ht:∀l,l<R.length→tr (R++G) l=tr R l:=fun l hl=>by
  unfold tr;rw[List.getD_eq_getElem?_getD,List.getElem?_append_left hl,←List.getD_eq_getElem?_getD]
 refine⟨fun l hl j k hj hk hjk=>?_,fun l m hl hm i j hi hj e1 e2=>?_⟩
 ·rw[←ht l hl]
  exact h.ne l (by rw[List.length_append];omega) j k hj hk hjk
 ·rw[←ht l hl,←ht m hm]at e1 e2
  exact h.un l m (by rw[List.length_append];omega) (by rw[List.length_append];omega) i j hi hj e1 e2
theorem shape_nodup(w h:Nat)(hw:w=1∨w=2)(hh:h=1∨h=2)(b0 b1 b2 b3:Bool):((gridTris w h (bits4 b0 b1 b2 b3)).flatMap edges3).Nodup∧Fine (gridTris w h (bits4 b0 b1 b2 b3)):=by
 have ht:=Dj.tiles w h hw hh b0 b1 b2 b3 ⟨0,0⟩ _ (List.Perm.refl _);refine⟨?_,fine_pre ht.fine⟩;have hs:=Dj.shape w h hw hh b0 b1 b2 b3;unfold shapeB at hs;simp only[Bool.and_eq_true,decide_eq_true_eq]at hs;have:=hs.1;rw[List.flatMap_append,List.nodup_append]at this;exact this.1
theorem keys(w h:Nat)(hw:w=1∨w=2)(hh:h=1∨h=2)(b0 b1 b2 b3:Bool)(a b c:Nat):(((gridR fa w h (bits4 b0 b1 b2 b3) a b c).2).map (·.1)).Perm (border3 (gridTris w h (bits4 b0 b1 b2 b3))):=by
 obtain⟨hn,hf⟩:=shape_nodup w h hw hh b0 b1 b2 b3;generalize bits4 b0 b1 b2 b3=d at *;obtain⟨ms,J⟩:=all (fa:=fa) hf (start (gridTris w h d) (gridPts w h) a b c) (gridTris w h d).length (Nat.le_refl _);rw[List.take_length]at J;obtain⟨Q,hQ,hU,hQm⟩:=J.inv
 have hE:∀e:Int×Int,e∈(gridTris w h d).flatMap edges3↔∃s∈Q,(s.a,s.b)=e:=fun e=>by
  rw[List.mem_flatMap];constructor
  ·rintro⟨x,hx,he⟩
   obtain⟨l,hl,rfl⟩:=Dj.mem_get hx;obtain⟨i,hi,rfl⟩:=Dj.at_edge he;exact⟨_,(hQm _).2 ⟨l,i,hl,hi,rfl⟩,rfl⟩
  ·rintro⟨s,hs,rfl⟩
   obtain⟨m,i,hm,hi,rfl⟩:=(hQm s).1 hs;exact⟨_,Dj.get_mem hm,List.mem_of_getElem? (Dj.edge_at _ i hi)⟩
 refine(List.perm_ext_iff_of_nodup hQ.nod (hn.filter _)).2 fun e=>?_
 rw[List.mem_filter,decide_eq_true_eq,hE,hE,List.mem_map];constructor
 ·rintro⟨x,hx,rfl⟩
  obtain⟨s,hs,rfl,hno⟩:=(hQ.op x).1 hx;exact⟨⟨s,hs,rfl⟩,fun⟨y,hy,e⟩=>hno y hy (by rw[Prod.mk.injEq]at e;exact e)⟩
 ·rintro⟨⟨s,hs,rfl⟩,hno⟩
  exact⟨_,(hQ.op _).2 ⟨s,hs,rfl,fun y hy e=>hno ⟨y,hy,by rw[e.1,e.2]⟩⟩,rfl⟩
theorem grid_near(w h:Nat)(hw:w=1∨w=2)(hh:h=1∨h=2):∀q∈gridPts w h,q.near:=fun q hq=>by
 unfold gridPts at hq;obtain⟨y,hy,hq⟩:=List.mem_flatMap.1 hq;obtain⟨x,hx,rfl⟩:=List.mem_map.1 hq;rw[List.mem_range]at hx hy;unfold Pt.near;simp only;omega
theorem e_pos(w h:Nat)(d:Nat→Bool)(v:Nat):0<gridE w h d v∧gridE w h d v≤2722258935367507707706996859454145691648∧(v<(w+1)*(h+1)→gridE w h d v≤3):=by
 unfold gridE
 repeat' split
 all_goals exact⟨by decide,by decide,fun h=>by first| decide|contradiction⟩
theorem ok(w h:Nat)(hw:w=1∨w=2)(hh:h=1∨h=2)(d:Nat→Bool)(p:Pt)(hp:p.near):(gridC w h d (gridPts w h++[p])).Ok where
 near:=fun i=>by
  show(pat (gridPts w h++[p]) i).near
  unfold pat;rw[List.getD_eq_getElem?_getD];cases hi:(gridPts w h++[p])[i]? with
  | none=>exact zero_near
  | some q=>
   have:=List.mem_of_getElem? hi;rcases List.mem_append.1 this with h'|h'
   ·exact grid_near w h hw hh q h'
   ·rw[List.mem_singleton]at h'
    rw[h'];exact hp
 n0:=by show Pt.near ⟨0,0⟩;unfold Pt.near;simp only;omega
 n1:=by show Pt.near ⟨2,0⟩;unfold Pt.near;simp only;omega
 n2:=by show Pt.near ⟨0,2⟩;unfold Pt.near;simp only;omega
 pos v:=(e_pos w h d v).1
 top v:=by
  have:=(e_pos w h d v).2.1;show _*gridE w h d v≤gridK
  unfold gridK;omega
 far:=by show _*gridK≤gridN;decide
theorem pat_at(w h:Nat)(hw:w=1∨w=2)(hh:h=1∨h=2)(p:Pt):pat (gridPts w h++[p]) 0=⟨0,0⟩∧pat (gridPts w h++[p]) 1=⟨2,0⟩∧pat (gridPts w h++[p]) (w+1)=⟨0,2⟩:=by
 rcases hw with rfl|rfl<;>rcases hh with rfl|rfl<;>exact⟨rfl,rfl,rfl⟩
theorem grid_dist(w h:Nat)(hw:w=1∨w=2)(hh:h=1∨h=2):(gridPts w h).Nodup:=by
 rcases hw with rfl|rfl<;>rcases hh with rfl|rfl<;>decide
theorem dist(w h:Nat)(hw:w=1∨w=2)(hh:h=1∨h=2)(p:Pt)(i j:Nat)(hi:i<(w+1)*(h+1))(hj:j<(w+1)*(h+1))(hij:i≠j):pat (gridPts w h++[p]) i≠pat (gridPts w h++[p]) j:=by
 rw[←Dj.pts_len]at hi hj;rw[Dj.pat_app _ p hi,Dj.pat_app _ p hj];unfold pat;rw[List.getD_eq_getElem?_getD,List.getD_eq_getElem?_getD,List.getElem?_eq_getElem hi,List.getElem?_eq_getElem hj];exact fun e=>hij ((List.getElem_inj (grid_dist w h hw hh)).1 e)
theorem good(w h:Nat)(hw:w=1∨w=2)(hh:h=1∨h=2)(b0 b1 b2 b3:Bool)(a b c:Nat)(p:Pt)(B:List (Int×Int))(hB:B.Perm (border3 (gridTris w h (bits4 b0 b1 b2 b3)))) :
 Good (gridC w h (bits4 b0 b1 b2 b3) (gridPts w h++[p])) (gS ((w+1)*(h+1))) ((gridG fa w h (bits4 b0 b1 b2 b3) a b c B).add p).bare (gridTris w h (bits4 b0 b1 b2 b3)++B.map ghost3).length:=by
 have ht:=Dj.tiles w h hw hh b0 b1 b2 b3 p B hB;generalize bits4 b0 b1 b2 b3=d at *;obtain⟨ms,J⟩:=all (fa:=fa) ht.fine (start (gridTris w h d++B.map ghost3) (gridPts w h) a b c) _ (Nat.le_refl _);rw[List.take_length]at J
 have hG:gridG fa w h d a b c B=(joinAll fa (grid0 w h a b c,[]) (gridTris w h d++B.map ghost3)).1:=by
  unfold gridG gridR joinAll;rw[List.foldl_append]
 have e0:(dropN (newOf (gridPts w h) a b c) [0,1,2,3] 4).pts=gridPts w h:=by rw[Jb.new_eq];rfl
 have e1:(dropN (newOf (gridPts w h) a b c) [0,1,2,3] 4).at_.length=(w+1)*(h+1):=by
  rw[Jb.new_eq,←Dj.pts_len];show(Jb.at0 (gridPts w h) a b c).length=_
  unfold Jb.at0;simp only[Kp.setAt_len];unfold Mesh.empty;simp
 obtain⟨p0,p1,p2⟩:=pat_at w h hw hh p;refine Df.good ht J (by rw[hG];rfl) (by rw[hG];rfl) ?_ (by rw[hG];rfl) e1 ?_ ?_ (show ori ⟨0,0⟩ ⟨2,0⟩ ⟨0,2⟩≠0 by decide) (dist w h hw hh p)
 ·rw[hG]
  show(joinAll fa (grid0 w h a b c,[]) (gridTris w h d++B.map ghost3)).1.pts++[p]=gridPts w h++[p]
  have:=J.pts;rw[e0]at this;unfold grid0;rw[this]
 ·show(gridPts w h++[p]).length=_
  rw[List.length_append,Dj.pts_len];rfl
 ·refine⟨0,1,w+1,(Df.gS_nat _ _).2 ?_,(Df.gS_nat _ _).2 ?_,(Df.gS_nat _ _).2 ?_,p0,p1,p2⟩<;>rcases hw with rfl|rfl<;>rcases hh with rfl|rfl<;>decide
theorem new(w h:Nat)(d:Nat→Bool)(p:Pt)(hp:p ∉ gridPts w h):New (gridC w h d (gridPts w h++[p])) (gS ((w+1)*(h+1))) ((w+1)*(h+1)) where
 new:=by rw[Df.gS_nat];omega
 lt:=by
  show _<(gridPts w h++[p]).length
  rw[List.length_append,Dj.pts_len];simp
 dist i hi:=by
  rw[Df.gS_nat]at hi;have hi':=hi;rw[←Dj.pts_len]at hi';show pat (gridPts w h++[p]) i≠pat (gridPts w h++[p]) _
  rw[Dj.pat_app _ p hi'];unfold pat;rw[List.getD_eq_getElem?_getD,List.getElem?_eq_getElem hi',←Dj.pts_len,List.getD_eq_getElem?_getD,List.getElem?_concat_length];exact fun e=>hp (by rw[←show(gridPts w h)[i]=p from e];exact List.getElem_mem _)
 top i hi:=by
  rw[Df.gS_nat]at hi;have h1:=(e_pos w h d i).2.2 hi
  have h2:gridE w h d ((w+1)*(h+1))=2722258935367507707706996859454145691648:=by
   unfold gridE;rw[if_neg (by omega)]
  show _*gridE w h d i≤gridE w h d _
  rw[h2];omega
end Dk
end Go.Proofs.YtdihefgleefhmaaGreat
