import Derived.Test.YtdihefgleefhmaaGreatCf
import Derived.Test.YtdihefgleefhmaaGreatMp
import Derived.Test.YtdihefgleefhmaaGreatFn
import Derived.Sort.OwnSortedInts
namespace Go.Proofs.YtdihefgleefhmaaGreat
open Go.RowKit
def cornerNot(t:Tri)(a c:Int)(k:Nat):Bool:=t.v k != a&&t.v k != c
def acrossOf(t:Tri)(a c:Int):Int:=if cornerNot t a c 0 then t.n 0 else if cornerNot t a c 1 then t.n 1 else if cornerNot t a c 2 then t.n 2 else -1
namespace Ac
set_option maxRecDepth 100000 in
set_option maxHeartbeats 1000000 in
theorem across_any(M:Mesh)(b t:Nat)(a c:Int)(w:World)(h:MeshR w b M)(htl:t<M.tris.length) :
  Calls Tryz.prog 68 #[.pointer (some ⟨b,0,none⟩),.int .i64 t,.int .i64 a,.int .i64 c] w fun e w'=>e=.returned (.int .i64 (acrossOf (tat M.tris t) a c))∧Below w.heap.size w w':=by
 obtain⟨gp,cp,gt,ct,ga,ca,fV,h⟩:=h;have k1:=h.head.cell 1 (.slice (some ⟨gt,0,none⟩) M.tris.length ct) rfl;obtain⟨t0,t1,t2,t3,t4,t5,t6,t7,t8⟩:=h.tris t htl;have tt0:(0:Int)≤(t:Int):=by omega
 have tt1:(t:Int)<(M.tris.length:Int):=by omega
 generalize tat M.tris t=T at *;obtain⟨r,hr⟩:∃r,acrossOf T a c=r:=⟨_,rfl⟩;have HR:=Hd hr;rw[hr];clear hr h
 go_enter Tryz.func68,Tryz.ntmps68
 go_upto_region 2 with(fail)
 have hX:=Blk.new w 43 #[.int .i64 T.v0,.int .i64 T.v1,.int .i64 T.v2,.int .i64 T.n0,.int .i64 T.n1,.int .i64 T.n2,.bool T.f0,.bool T.f1,.bool T.f2];have hB:=bel_alloc (bel_refl w) (.cells #[.int .i64 T.v0,.int .i64 T.v1,.int .i64 T.v2,.int .i64 T.n0,.int .i64 T.n1,.int .i64 T.n2,.bool T.f0,.bool T.f1,.bool T.f2] 43);obtain⟨U,hU⟩:∃U,w.alloc (.cells #[.int .i64 T.v0,.int .i64 T.v1,.int .i64 T.v2,.int .i64 T.n0,.int .i64 T.n1,.int .i64 T.n2,.bool T.f0,.bool T.f1,.bool T.f2] 43)=U:=⟨_,rfl⟩;rw[hU]at hX hB ⊢;have HX:=Hd hX;have HB:=Hd hB;clear hX hB hU k1 t0 t1 t2 t3 t4 t5 t6 t7 t8;go_wp2
 go_loopw [18] (fun q wr=>∃k:Nat,q=.int .i64 k∧k≤3∧Hid (∀j,j<k→cornerNot T a c j=false)∧Hid (U=wr)) (fun q _=>3-(intOf q).toNat)
 case atStart=>exact⟨0,rfl,by omega,fun j hj=>absurd hj (by omega),rfl⟩
 case round=>
  obtain⟨k,rfl,hk,HE,HU⟩:=hrel;have hUe:=HU.out;subst hUe;clear HU;obtain⟨y0,y1,y2,y3,y4,y5,_,_,_⟩:=Blk.all9 HX.out;rcases(show k=0∨k=1∨k=2∨k=3 by omega)with rfl|rfl|rfl|rfl
  ·obtain⟨q1,hq1⟩:∃q,(T.v0 != a)=q:=⟨_,rfl⟩
   obtain⟨q2,hq2⟩:∃q,(T.v0 != c)=q:=⟨_,rfl⟩
   have HQ:Hid (cornerNot T a c 0=(q1&&q2)):=by
    show(T.v0 != a&&T.v0 != c)=_
    rw[hq1,hq2]
   have hend:cornerNot T a c 0=true→acrossOf T a c=T.n0:=by
    intro hh;unfold acrossOf;rw[if_pos hh];rfl
   have HEND:=Hd hend;clear hend;cases q1
   ·go_wp2
    go_roundw
    case rel=>exact⟨1,by go_num,by omega,fun j hj=>by rcases Nat.lt_succ_iff_lt_or_eq.1 hj with h|h;exact HE.out j h;exact h▸HQ.out,trivial⟩
    case measure=>simp[intOf]
   ·cases q2
    ·go_wp2
     go_roundw
     case rel=>exact⟨1,by go_num,by omega,fun j hj=>by rcases Nat.lt_succ_iff_lt_or_eq.1 hj with h|h;exact HE.out j h;exact h▸HQ.out,trivial⟩
     case measure=>simp[intOf]
    ·go_wp2
     go_ret
     exact⟨congrArg (fun x=>Ending.returned (Value.int .i64 x)) ((HEND.out HQ.out).symm.trans HR.out),HB.out⟩
  ·obtain⟨q1,hq1⟩:∃q,(T.v1 != a)=q:=⟨_,rfl⟩
   obtain⟨q2,hq2⟩:∃q,(T.v1 != c)=q:=⟨_,rfl⟩
   have HQ:Hid (cornerNot T a c 1=(q1&&q2)):=by
    show(T.v1 != a&&T.v1 != c)=_
    rw[hq1,hq2]
   have hend:cornerNot T a c 1=true→acrossOf T a c=T.n1:=by
    intro hh;unfold acrossOf;rw[if_neg (by rw[HE.out 0 (by omega)];simp),if_pos hh];rfl
   have HEND:=Hd hend;clear hend;cases q1
   ·go_wp2
    go_roundw
    case rel=>exact⟨2,by go_num,by omega,fun j hj=>by rcases Nat.lt_succ_iff_lt_or_eq.1 hj with h|h;exact HE.out j h;exact h▸HQ.out,trivial⟩
    case measure=>simp[intOf]
   ·cases q2
    ·go_wp2
     go_roundw
     case rel=>exact⟨2,by go_num,by omega,fun j hj=>by rcases Nat.lt_succ_iff_lt_or_eq.1 hj with h|h;exact HE.out j h;exact h▸HQ.out,trivial⟩
     case measure=>simp[intOf]
    ·go_wp2
     go_ret
     exact⟨congrArg (fun x=>Ending.returned (Value.int .i64 x)) ((HEND.out HQ.out).symm.trans HR.out),HB.out⟩
  ·obtain⟨q1,hq1⟩:∃q,(T.v2 != a)=q:=⟨_,rfl⟩
   obtain⟨q2,hq2⟩:∃q,(T.v2 != c)=q:=⟨_,rfl⟩
   have HQ:Hid (cornerNot T a c 2=(q1&&q2)):=by
    show(T.v2 != a&&T.v2 != c)=_
    rw[hq1,hq2]
   have hend:cornerNot T a c 2=true→acrossOf T a c=T.n2:=by
    intro hh;unfold acrossOf;rw[if_neg (by rw[HE.out 0 (by omega)];simp),if_neg (by rw[HE.out 1 (by omega)];simp),if_pos hh];rfl
   have HEND:=Hd hend;clear hend;cases q1
   ·go_wp2
    go_roundw
    case rel=>exact⟨3,by go_num,by omega,fun j hj=>by rcases Nat.lt_succ_iff_lt_or_eq.1 hj with h|h;exact HE.out j h;exact h▸HQ.out,trivial⟩
    case measure=>simp[intOf]
   ·cases q2
    ·go_wp2
     go_roundw
     case rel=>exact⟨3,by go_num,by omega,fun j hj=>by rcases Nat.lt_succ_iff_lt_or_eq.1 hj with h|h;exact HE.out j h;exact h▸HQ.out,trivial⟩
     case measure=>simp[intOf]
    ·go_wp2
     go_ret
     exact⟨congrArg (fun x=>Ending.returned (Value.int .i64 x)) ((HEND.out HQ.out).symm.trans HR.out),HB.out⟩
  ·have hend:acrossOf T a c=-1:=by
    unfold acrossOf;rw[if_neg (by rw[HE.out 0 (by omega)];simp),if_neg (by rw[HE.out 1 (by omega)];simp),if_neg (by rw[HE.out 2 (by omega)];simp)]
   have HEND:=Hd hend;clear hend;go_wp2
   go_ret
   exact⟨congrArg (fun x=>Ending.returned (Value.int .i64 x)) (HEND.out.symm.trans HR.out),HB.out⟩
end Ac
end Go.Proofs.YtdihefgleefhmaaGreat
namespace Go.Proofs.YtdihefgleefhmaaGreat
open Go.RowKit
structure Side where
 a:Int
 b:Int
 out:Int
 i:Int
 fault:Bool
deriving DecidableEq
def Side.zero:Side:=⟨0,0,0,0,false⟩
abbrev sv(s:Side):Value:=.agg #[.int .i64 s.a,.int .i64 s.b,.int .i64 s.out,.int .i64 s.i,.bool s.fault]
abbrev Side.cs(s:Side):List Value:=[.int .i64 s.a,.int .i64 s.b,.int .i64 s.out,.int .i64 s.i,.bool s.fault]
def digOne(M:Mesh)(p:Pt)(cs:List Nat)(u:Nat)(f:Bool):List Nat:=
 if u∈cs then cs else if f=true then cs else if conflict M (tat M.tris u) p=true then cs++[u] else cs
def digTri(M:Mesh)(p:Pt)(T:Tri):Nat→List Nat→List Nat
 | 0,cs=>cs
 | k+1,cs=>digOne M p (digTri M p T k cs) (T.n k).toNat (T.f k)
def digGo(M:Mesh)(p:Pt):Nat→Nat→List Nat→List Nat
 | 0,_,cs=>cs
 | f+1,k,cs=>if k<cs.length then digGo M p f (k+1) (digTri M p (tat M.tris (cs.getD k 0)) 3 cs) else cs
def nidx(T:Tri)(t:Int):Int:=if T.n0=t then 0 else if T.n1=t then 1 else if T.n2=t then 2 else -1
def sideOf(M:Mesh)(t:Nat)(T:Tri)(i:Nat):Side:=⟨T.v ((i+1)%3),T.v ((i+2)%3),T.n i,nidx (tat M.tris (T.n i).toNat) t,T.f i⟩
structure Rims where
 begins:List (Int×Side)
 least:Int
 cut:Bool
deriving DecidableEq
def Rims.with(M:Mesh)(p:Pt)(r:Rims)(s:Side):Rims:=⟨mput s.a s r.begins,min r.least s.a,r.cut||(s.fault&&conflict M (tat M.tris s.out.toNat) p)⟩
def rimOne(M:Mesh)(p:Pt)(cs:List Nat)(t:Nat)(T:Tri)(r:Rims)(i:Nat):Rims:=
 if (T.n i).toNat∈cs then r else r.with M p (sideOf M t T i)
def rimTri(M:Mesh)(p:Pt)(cs:List Nat)(t:Nat)(T:Tri):Nat→Rims→Rims
 | 0,r=>r
 | k+1,r=>rimOne M p cs t T (rimTri M p cs t T k r) k
def rimAll(M:Mesh)(p:Pt)(cs:List Nat)(r:Rims):List Nat→Rims
 | []=>r
 | t::l=>rimAll M p cs (rimTri M p cs t (tat M.tris t) 3 r) l
def rimGo(l:List (Int×Side)):Nat→Int→List Side
 | 0,_=>[]
 | n+1,a=>mget Side.zero a l::rimGo l n (mget Side.zero a l).b
def isert(x:Nat):List Nat→List Nat
 | []=>[x]
 | y::l=>if x≤y then x::y::l else y::isert x l
def isort:List Nat→List Nat
 | []=>[]
 | x::l=>isert x (isort l)
structure Cavity where
 tris:List Nat
 rim:List Side
 cut:Bool
deriving DecidableEq
def digStart(M:Mesh)(q:Place):List Nat:=if q.kind=1 then [q.tri.toNat,(acrossOf (tat M.tris q.tri.toNat) q.a q.b).toNat] else [q.tri.toNat]
def digRims(M:Mesh)(p:Pt)(cs:List Nat):Rims:=rimAll M p cs ⟨[],M.pts.length,false⟩ cs
def dig(M:Mesh)(p:Pt)(q:Place):Cavity:=
 let cs:=isort (digGo M p (M.tris.length+1) 0 (digStart M q))
 let r:=digRims M p cs
 ⟨cs,rimGo r.begins r.begins.length r.least,r.cut⟩
def Mesh.live(M:Mesh)(t:Nat):Prop:=t<M.tris.length∧(tat M.tris t).v0≠-2
structure Mesh.sane(M:Mesh):Prop where
 nb:∀t,M.live t→∀j,j<3→∃u:Nat,(tat M.tris t).n j=u∧M.live u
 vs:∀t,M.live t→∀j,j<3→(tat M.tris t).v j≠-1→0≤(tat M.tris t).v j∧(tat M.tris t).v j<M.pts.length
 g0:∀t,M.live t→(tat M.tris t).v0=-1→(tat M.tris t).v1≠-1∧(tat M.tris t).v2≠-1
 g1:∀t,M.live t→(tat M.tris t).v1=-1→(tat M.tris t).v2≠-1
def Mesh.circ(M:Mesh)(p:Pt):Prop:=∀t,M.live t→CircOk (pat M.pts (tat M.tris t).v0.toNat) (pat M.pts (tat M.tris t).v1.toNat) (pat M.pts (tat M.tris t).v2.toNat) p
namespace Dq
theorem conflict_live(M:Mesh)(p:Pt)(ho:M.ok)(hp:p.near)(hs:M.sane)(hc:M.circ p)(b t:Nat)(ht:M.live t)(w:World)(h:MeshR w b M) :
  Calls Tryz.prog 15 #[.pointer (some ⟨b,0,none⟩),.int .i64 t,pv p] w fun e w'=>e=.returned (.bool (conflict M (tat M.tris t) p))∧Below w.heap.size w w':=
 Cf.conflict_any M b t p w h ho hp ht.1 _ rfl (hs.vs t ht) (hs.g0 t ht) (hs.g1 t ht) (hc t ht)
theorem nodup_len:∀(n:Nat) (l:List Nat),l.Nodup→(∀x∈l,x<n)→l.length≤n
 | 0,[],_,_=>Nat.le_refl _
 | 0,x::_,_,h=>absurd (h x (by simp)) (by omega)
 | n+1,l,hd,h=>by
  have h1:(l.erase n).length≤n:=nodup_len n _ (hd.erase _) fun x hx=>by
   have hx1:=h x (List.mem_of_mem_erase hx);have hx2:x≠n:=fun e=>by subst e;exact(hd.mem_erase_iff.1 hx).1 rfl
   omega
  rw[List.length_erase]at h1
  split at h1<;>omega
structure Taken(M:Mesh)(cs:List Nat):Prop where
 nodup:cs.Nodup
 live:∀u∈cs,M.live u
theorem Taken.len{M:Mesh}{cs:List Nat}(h:Taken M cs):cs.length≤M.tris.length:=nodup_len _ _ h.nodup fun x hx=>(h.live x hx).1
theorem Taken.one{M:Mesh}{p:Pt}{cs:List Nat}(h:Taken M cs){u:Nat}(hu:M.live u)(f:Bool):Taken M (digOne M p cs u f):=by
 unfold digOne
 split
 ·exact h
 ·rename_i hm
  split
  ·exact h
  ·split
   ·refine⟨?_,fun x hx=>?_⟩
    ·rw[List.nodup_append]
     exact⟨h.nodup,by simp,fun a ha b hb e=>hm (by simp only[List.mem_singleton]at hb;rw[←hb,←e];exact ha)⟩
    ·rcases List.mem_append.1 hx with hx|hx
     ·exact h.live x hx
     ·simp only[List.mem_singleton]at hx
      exact hx▸hu
   ·exact h
theorem one_le(M:Mesh)(p:Pt)(cs:List Nat)(u:Nat)(f:Bool):cs <+: digOne M p cs u f:=by
 unfold digOne
 split
 ·exact List.prefix_rfl
 ·split
  ·exact List.prefix_rfl
  ·split
   ·exact List.prefix_append _ _
   ·exact List.prefix_rfl
theorem Taken.tri{M:Mesh}{p:Pt}{cs:List Nat}(h:Taken M cs)(hs:M.sane){t:Nat}(ht:M.live t):∀k,k≤3→Taken M (digTri M p (tat M.tris t) k cs)
 | 0,_=>h
 | k+1,hk=>by
  obtain⟨u,hu,hl⟩:=hs.nb t ht k (by omega);unfold digTri;refine(h.tri hs ht k (by omega)).one ?_ _;rw[hu];exact hl
end Dq
end Go.Proofs.YtdihefgleefhmaaGreat
namespace Go.Proofs.YtdihefgleefhmaaGreat
open Go.RowKit
namespace Dq
theorem isert_perm(x:Nat):∀l:List Nat,(isert x l).Perm (x::l)
 | []=>.refl _
 | y::l=>by
  unfold isert
  split
  ·exact .refl _
  ·exact((isert_perm x l).cons y).trans (.swap x y l)
theorem isort_perm:∀l:List Nat,(isort l).Perm l
 | []=>.refl _
 | x::l=>(isert_perm x (isort l)).trans ((isort_perm l).cons x)
theorem isert_pair(x:Nat):∀l:List Nat,l.Pairwise (· ≤ ·)→(isert x l).Pairwise (· ≤ ·)
 | [],_=>by simp[isert]
 | y::l,h=>by
  obtain⟨h1,h2⟩:=List.pairwise_cons.1 h;unfold isert
  split
  ·rename_i hx
   exact List.pairwise_cons.2 ⟨fun z hz=>by
    rcases List.mem_cons.1 hz with rfl|hz
    ·exact hx
    ·have:=h1 z hz
     omega,h⟩
  ·rename_i hx
   exact List.pairwise_cons.2 ⟨fun z hz=>by
    rcases List.mem_cons.1 ((isert_perm x l).mem_iff.1 hz)with rfl|hz
    ·omega
    ·exact h1 z hz,isert_pair x l h2⟩
theorem isort_pair:∀l:List Nat,(isort l).Pairwise (· ≤ ·)
 | []=>.nil
 | x::l=>isert_pair x _ (isort_pair l)
theorem merge_isort(l:List Nat):((l.map fun(n:Nat)=>(n:Int)).mergeSort fun x y=>decide (x≤y))=(isort l).map fun(n:Nat)=>(n:Int):=by
 refine List.Perm.eq_of_pairwise (le:=fun x y:Int=>x≤y) (fun a b _ _ h1 h2=>by omega) ?_ ?_ ?_
 ·have:=List.pairwise_mergeSort (le:=fun x y:Int=>decide (x≤y)) (fun a b c h1 h2=>by simp only[decide_eq_true_eq]at *;omega) (fun a b=>by simp only[Bool.or_eq_true,decide_eq_true_eq];omega) (l.map fun(n:Nat)=>(n:Int))
  exact this.imp fun h=>by simpa using h
 ·rw[List.pairwise_map]
  exact(isort_pair l).imp fun h=>by omega
 ·exact(List.mergeSort_perm _ _).trans ((isort_perm l).symm.map _)
theorem isort_mem(l:List Nat)(x:Nat):x∈isort l↔x∈l:=(isort_perm l).mem_iff
theorem isort_len(l:List Nat):(isort l).length=l.length:=(isort_perm l).length_eq
theorem Taken.sort{M:Mesh}{cs:List Nat}(h:Taken M cs):Taken M (isort cs):=⟨(isort_perm cs).nodup_iff.2 h.nodup,fun u hu=>h.live u ((isort_mem cs u).1 hu)⟩
theorem tri_le(M:Mesh)(p:Pt)(T:Tri)(cs:List Nat):∀k,cs <+: digTri M p T k cs
 | 0=>List.prefix_rfl
 | k+1=>(tri_le M p T cs k).trans (one_le _ _ _ _ _)
theorem own_sorted{W:World}{B g n cap k:Nat}{cs:List Nat}{os:Array Obj}(h:W.ownsRow B 3 1 (.slice (some ⟨g,0,none⟩) n cap) n (cs.map fun(n:Nat)=>Value.int .i64 n)) :
  Go.Sort.Holds (Value.int .i64) W g 0 (cs.map fun(n:Nat)=>(n:Int)).toArray∧g<W.heap.size∧
  (Go.Sort.grow (Go.Sort.putRow (Value.int .i64) (Go.Sort.ahead W k) g 0 ((cs.map fun(n:Nat)=>(n:Int)).mergeSort fun x y=>decide (x≤y)).toArray) os).ownsRow B 3 1 (.slice (some ⟨g,0,none⟩) n cap) n ((isort cs).map fun(n:Nat)=>Value.int .i64 n)∧
  W.grownBy (Go.Sort.grow (Go.Sort.putRow (Value.int .i64) (Go.Sort.ahead W k) g 0 ((cs.map fun(n:Nat)=>(n:Int)).mergeSort fun x y=>decide (x≤y)).toArray) os) (some g):=by
 obtain⟨hl,⟨h0,_⟩|⟨g',cap',cur,hv,hB,hc,h1,h2,h3,h4⟩⟩:=h
 ·cases h0
 ·simp only[Value.slice.injEq,Option.some.injEq,Addr.mk.injEq,and_true,true_and]at hv
  obtain⟨rfl,rfl⟩:=hv;have hn:cs.length=n:=by simpa using hl
  subst hn;refine⟨holds_of_blockI hc (by simpa [List.map_map,Function.comp_def] using h4),(Array.getElem?_eq_some_iff.1 hc).1,?_,grownBy_sortedI _⟩;have:=ownsRow_sortedI (w:=W) (base:=B) (n:=k) (os:=os) (ss:=cs.map fun(n:Nat)=>(n:Int)) (ts:=(isort cs).map fun(n:Nat)=>(n:Int)) (by simp[isort_len]) hB hc (by simpa using h1) h2 h3;rw[merge_isort]
  simpa [List.map_map,Function.comp_def] using this
end Dq
end Go.Proofs.YtdihefgleefhmaaGreat
