import Derived.Test.YtdihefgleefhmaaGreatWd
import Derived.Laws.OwnMore
import Derived.OwnWalk
namespace Go.Proofs.YtdihefgleefhmaaGreat
open Go.RowKit
def Pt.zero:Pt:=⟨0,0⟩
def pat(l:List Pt)(i:Nat):Pt:=l.getD i Pt.zero
def PtsAt(W:World)(g:Nat)(l:List Pt):Prop:=l.length≤4294967296∧∀i,i<l.length→W.cell? ⟨g,i*2,none⟩=some (.int .i64 (pat l i).x)∧W.cell? ⟨g,i*2+1,none⟩=some (.int .i64 (pat l i).y)
theorem PtsAt.later{W W':World}{g:Nat}{l:List Pt}(h:PtsAt W g l)(hb:Below W.heap.size W W'):PtsAt W' g l:=
 ⟨h.1,fun i hi=>⟨(hb.cell (World.block_lt_of_cell? _ _ (h.2 i hi).1)).trans (h.2 i hi).1,(hb.cell (World.block_lt_of_cell? _ _ (h.2 i hi).2)).trans (h.2 i hi).2⟩⟩
theorem PtsAt.cells{W:World}{g:Nat}{l:List Pt}(h:PtsAt W g l)(i:Nat)(hi:i<l.length):(∀u:Gq.Later W,u.w.cell? ⟨g,i*2,none⟩=some (.int .i64 (pat l i).x))∧(∀u:Gq.Later W,u.w.cell? ⟨g,i*2+1,none⟩=some (.int .i64 (pat l i).y)):=
 ⟨Gq.Later.cell (h.2 i hi).1,Gq.Later.cell (h.2 i hi).2⟩
def nearAll(l:List Pt):Prop:=∀i,(pat l i).near
theorem zero_near:Pt.zero.near:=by unfold Pt.near Pt.zero;dsimp only;omega
end Go.Proofs.YtdihefgleefhmaaGreat
namespace Go.Proofs.YtdihefgleefhmaaGreat
open Go.RowKit
structure Tri where
 v0:Int
 v1:Int
 v2:Int
 n0:Int
 n1:Int
 n2:Int
 f0:Bool
 f1:Bool
 f2:Bool
deriving DecidableEq
def Tri.gone:Tri:=⟨-2,-2,-2,-1,-1,-1,false,false,false⟩
def Tri.v(t:Tri):Nat→Int
 | 0=>t.v0
 | 1=>t.v1
 | _=>t.v2
def Tri.n(t:Tri):Nat→Int
 | 0=>t.n0
 | 1=>t.n1
 | _=>t.n2
def Tri.f(t:Tri):Nat→Bool
 | 0=>t.f0
 | 1=>t.f1
 | _=>t.f2
abbrev Tri.cs(t:Tri):List Value:=[.int .i64 t.v0,.int .i64 t.v1,.int .i64 t.v2,.int .i64 t.n0,.int .i64 t.n1,.int .i64 t.n2,.bool t.f0,.bool t.f1,.bool t.f2]
abbrev tv(t:Tri):Value:=.agg #[.int .i64 t.v0,.int .i64 t.v1,.int .i64 t.v2,.int .i64 t.n0,.int .i64 t.n1,.int .i64 t.n2,.bool t.f0,.bool t.f1,.bool t.f2]
abbrev Pt.cs(p:Pt):List Value:=[.int .i64 p.x,.int .i64 p.y]
structure Mesh where
 pts:List Pt
 tris:List Tri
 free:List Nat
 at_:List Int
deriving DecidableEq
def tat(l:List Tri)(i:Nat):Tri:=l.getD i Tri.gone
def iat(l:List Int)(i:Nat):Int:=l.getD i 0
theorem flat_get{α β:Type}(f:α→List β)(k:Nat)(hf:∀a,(f a).length=k):∀(l:List α) (i j:Nat),j<k→(l.flatMap f)[i*k+j]? =(l[i]?).bind fun a=>(f a)[j]?
 | [],i,j,_=>by simp
 | a::l,0,j,hj=>by
  rw[List.flatMap_cons,Nat.zero_mul,Nat.zero_add,List.getElem?_append_left (by rw[hf];exact hj)];rfl
 | a::l,i+1,j,hj=>by
  rw[List.flatMap_cons,List.getElem?_append_right (by rw[hf,Nat.add_mul];omega),hf];have e:(i+1)*k+j-k=i*k+j:=by rw[Nat.add_mul];omega
  rw[e,flat_get f k hf l i j hj];rfl
theorem flat_len{α β:Type}(f:α→List β)(k:Nat)(hf:∀a,(f a).length=k):∀l:List α,(l.flatMap f).length=l.length*k
 | []=>by simp
 | a::l=>by rw[List.flatMap_cons,List.length_append,hf,flat_len f k hf l,List.length_cons,Nat.add_mul];omega
theorem flat_set{α β:Type}(f:α→List β)(k:Nat)(hf:∀a,(f a).length=k)(a':α)(u:β):∀(l:List α) (i j:Nat),j<k→(∀a,l[i]? =some a→f a'=(f a).set j u)→(l.flatMap f).set (i*k+j) u=(l.set i a').flatMap f
 | [],i,j,_,_=>by simp
 | a::l,0,j,hj,h=>by
  have h':=h a rfl;rw[List.flatMap_cons,Nat.zero_mul,Nat.zero_add,List.set_append_left _ _ (by rw[hf];exact hj),List.set_cons_zero,List.flatMap_cons,h']
 | a::l,i+1,j,hj,h=>by
  rw[List.flatMap_cons,List.set_append_right _ _ (by rw[hf,Nat.add_mul];omega),hf];have e:(i+1)*k+j-k=i*k+j:=by rw[Nat.add_mul];omega
  rw[e,flat_set f k hf a' u l i j hj (fun b hb=>h b hb),List.set_cons_succ,List.flatMap_cons]
theorem grown_later{W W':World}(hb:Below W.heap.size W W'):W.grownBy W' none:=⟨hb.os,hb.tape,hb.output,hb.size,fun k hk _=>hb.block k hk⟩
theorem own_shape{W:World}{B e s n:Nat}{v:Value}{xs:List Value}(h:W.ownsRow B e s v n xs)(hn:0<n):∃g c,v=.slice (some ⟨g,0,none⟩) n c∧B≤g:=by
 obtain⟨_,⟨_,h0⟩|⟨g,c,cur,hv,hB,_⟩⟩:=h
 ·omega
 ·exact⟨g,c,hv,hB⟩
theorem own_later{W W':World}{B e s n:Nat}{v:Value}{xs:List Value}(h:W.ownsRow B e s v n xs)(hb:Below W.heap.size W W'):W'.ownsRow B e s v n xs:=by
 cases ho:v.ownBlock with
 | none=>exact h.kept (grown_later hb) (.inl ho)
 | some g=>exact h.kept (grown_later hb) (.inr (by rw[ho];simp))
structure MAt(B:Nat)(W:World)(b:Nat)(M:Mesh)(pV tV fV aV:Value):Prop where
 head:Blk W b 39 #[pV,tV,fV,aV]
 le:B≤b
 pts:W.ownsRow B 24 2 pV M.pts.length (M.pts.flatMap Pt.cs)
 tris:W.ownsRow B 43 9 tV M.tris.length (M.tris.flatMap Tri.cs)
 free:W.ownsRow B 3 1 fV M.free.length (M.free.map fun(n:Nat)=>Value.int .i64 n)
 at_:W.ownsRow B 3 1 aV M.at_.length (M.at_.map (Value.int .i64))
 apart:fV.ownBlock=none∨fV.ownBlock≠aV.ownBlock
def MeshAt(B:Nat)(W:World)(b:Nat)(M:Mesh):Prop:=∃pV tV fV aV,MAt B W b M pV tV fV aV
theorem MAt.later{B:Nat}{W W':World}{b:Nat}{M:Mesh}{pV tV fV aV:Value}(h:MAt B W b M pV tV fV aV)(hb:Below W.heap.size W W'):MAt B W' b M pV tV fV aV:=
 ⟨h.head.later hb,h.le,own_later h.pts hb,own_later h.tris hb,own_later h.free hb,own_later h.at_ hb,h.apart⟩
theorem MeshAt.later{B:Nat}{W W':World}{b:Nat}{M:Mesh}(h:MeshAt B W b M)(hb:Below W.heap.size W W'):MeshAt B W' b M:=by
 obtain⟨pV,tV,fV,aV,h⟩:=h;exact⟨pV,tV,fV,aV,h.later hb⟩
def TriAt(W:World)(g i:Nat)(t:Tri):Prop:=
 W.cell? ⟨g,i*9,none⟩=some (.int .i64 t.v0)∧W.cell? ⟨g,i*9+1,none⟩=some (.int .i64 t.v1)∧W.cell? ⟨g,i*9+2,none⟩=some (.int .i64 t.v2)∧
 W.cell? ⟨g,i*9+3,none⟩=some (.int .i64 t.n0)∧W.cell? ⟨g,i*9+4,none⟩=some (.int .i64 t.n1)∧W.cell? ⟨g,i*9+5,none⟩=some (.int .i64 t.n2)∧
 W.cell? ⟨g,i*9+6,none⟩=some (.bool t.f0)∧W.cell? ⟨g,i*9+7,none⟩=some (.bool t.f1)∧W.cell? ⟨g,i*9+8,none⟩=some (.bool t.f2)
structure MR(W:World)(b:Nat)(M:Mesh)(gp cp gt ct ga ca:Nat)(fV:Value):Prop where
 head:Blk W b 39 #[.slice (some ⟨gp,0,none⟩) M.pts.length cp,.slice (some ⟨gt,0,none⟩) M.tris.length ct,fV,.slice (some ⟨ga,0,none⟩) M.at_.length ca]
 pts:∀i,i<M.pts.length→W.cell? ⟨gp,i*2,none⟩=some (.int .i64 (pat M.pts i).x)∧W.cell? ⟨gp,i*2+1,none⟩=some (.int .i64 (pat M.pts i).y)
 tris:∀i,i<M.tris.length→TriAt W gt i (tat M.tris i)
 at_:∀i,i<M.at_.length→W.cell? ⟨ga,i,none⟩=some (.int .i64 (iat M.at_ i))
def MeshR(W:World)(b:Nat)(M:Mesh):Prop:=∃gp cp gt ct ga ca fV,MR W b M gp cp gt ct ga ca fV
theorem cell_later{W W':World}{p:Addr}{v:Value}(h:W.cell? p=some v)(hb:Below W.heap.size W W'):W'.cell? p=some v:=(hb.cell (World.block_lt_of_cell? _ _ h)).trans h
theorem TriAt.later{W W':World}{g i:Nat}{t:Tri}(h:TriAt W g i t)(hb:Below W.heap.size W W'):TriAt W' g i t:=by
 obtain⟨h0,h1,h2,h3,h4,h5,h6,h7,h8⟩:=h;exact⟨cell_later h0 hb,cell_later h1 hb,cell_later h2 hb,cell_later h3 hb,cell_later h4 hb,cell_later h5 hb,cell_later h6 hb,cell_later h7 hb,cell_later h8 hb⟩
theorem MR.later{W W':World}{b:Nat}{M:Mesh}{gp cp gt ct ga ca:Nat}{fV:Value}(h:MR W b M gp cp gt ct ga ca fV)(hb:Below W.heap.size W W'):MR W' b M gp cp gt ct ga ca fV:=
 ⟨h.head.later hb,fun i hi=>⟨cell_later (h.pts i hi).1 hb,cell_later (h.pts i hi).2 hb⟩,fun i hi=>(h.tris i hi).later hb,fun i hi=>cell_later (h.at_ i hi) hb⟩
theorem MeshR.later{W W':World}{b:Nat}{M:Mesh}(h:MeshR W b M)(hb:Below W.heap.size W W'):MeshR W' b M:=by
 obtain⟨gp,cp,gt,ct,ga,ca,fV,h⟩:=h;exact⟨gp,cp,gt,ct,ga,ca,fV,h.later hb⟩
theorem pat_get{l:List Pt}{i:Nat}(h:i<l.length):l[i]? =some (pat l i):=by unfold pat;rw[List.getD_eq_getElem?_getD,List.getElem?_eq_getElem h];rfl
theorem tat_get{l:List Tri}{i:Nat}(h:i<l.length):l[i]? =some (tat l i):=by unfold tat;rw[List.getD_eq_getElem?_getD,List.getElem?_eq_getElem h];rfl
theorem iat_get{l:List Int}{i:Nat}(h:i<l.length):l[i]? =some (iat l i):=by unfold iat;rw[List.getD_eq_getElem?_getD,List.getElem?_eq_getElem h];rfl
theorem MeshAt.read{B:Nat}{W:World}{b:Nat}{M:Mesh}(h:MeshAt B W b M)(hp:0<M.pts.length)(ht:0<M.tris.length)(ha:0<M.at_.length):MeshR W b M:=by
 obtain⟨pV,tV,fV,aV,h⟩:=h;obtain⟨gp,cp,rfl,_⟩:=own_shape h.pts hp;obtain⟨gt,ct,rfl,_⟩:=own_shape h.tris ht;obtain⟨ga,ca,rfl,_⟩:=own_shape h.at_ ha;refine⟨gp,cp,gt,ct,ga,ca,fV,h.head,fun i hi=>?_,fun i hi=>?_,fun i hi=>?_⟩
 ·have k:=fun j (hj:j<2)=>(h.pts.cellAt (i*2+j) (by omega)).trans ((flat_get Pt.cs 2 (fun _=>rfl) M.pts i j hj).trans (by rw[pat_get hi]))
  exact⟨k 0 (by omega),k 1 (by omega)⟩
 ·have k:=fun j (hj:j<9)=>(h.tris.cellAt (i*9+j) (by omega)).trans ((flat_get Tri.cs 9 (fun _=>rfl) M.tris i j hj).trans (by rw[tat_get hi]))
  exact⟨k 0 (by omega),k 1 (by omega),k 2 (by omega),k 3 (by omega),k 4 (by omega),k 5 (by omega),k 6 (by omega),k 7 (by omega),k 8 (by omega)⟩
 ·have:=h.at_.cellAt i (by omega)
  rw[this,List.getElem?_map,iat_get hi];rfl
end Go.Proofs.YtdihefgleefhmaaGreat
namespace Go.Proofs.YtdihefgleefhmaaGreat
open Go.RowKit
namespace Mr
open Wd Pr
theorem at_any(M:Mesh)(b:Nat)(v:Nat)(w:World)(h:MeshR w b M)(hv:v<M.at_.length) :
  Calls Tryz.prog 12 #[.pointer (some ⟨b,0,none⟩),.int .i64 v] w fun e w'=>e=.returned (.int .i64 (iat M.at_ v))∧w=w':=by
 obtain⟨gp,cp,gt,ct,ga,ca,fV,h⟩:=h;have k:=h.head.cell 3 _ rfl;have k2:=h.at_ v hv;clear h
 go_enter Tryz.func12,Tryz.ntmps12
 go_wp2
 go_ret
 exact⟨rfl,rfl⟩
def realB(M:Mesh)(t:Int):Bool:=decide (0≤t∧t<M.tris.length)&&(decide (0≤(tat M.tris t.toNat).v0)&&decide (0≤(tat M.tris t.toNat).v1)&&decide (0≤(tat M.tris t.toNat).v2))
theorem real_any(M:Mesh)(b:Nat)(t:Int)(w:World)(h:MeshR w b M) :
  Calls Tryz.prog 56 #[.pointer (some ⟨b,0,none⟩),.int .i64 t] w fun e w'=>e=.returned (.bool (realB M t))∧Below w.heap.size w w':=by
 obtain⟨gp,cp,gt,ct,ga,ca,fV,h⟩:=h;have k:=h.head.cell 1 _ rfl;by_cases h1:t<0
 ·have e:realB M t=false:=by unfold realB;rw[decide_eq_false (by omega)];rfl
  rw[e];clear h e
  go_enter Tryz.func56,Tryz.ntmps56
  go_wp2
  go_ret
  exact⟨rfl,bel_refl _⟩
 obtain⟨i,rfl⟩:=Int.eq_ofNat_of_zero_le (Int.not_lt.mp h1);by_cases h2:i<M.tris.length
 ·have e:realB M (i:Int)=(decide (0≤(tat M.tris i).v0)&&decide (0≤(tat M.tris i).v1)&&decide (0≤(tat M.tris i).v2)):=by unfold realB;rw[decide_eq_true (by omega)];rfl
  rw[e];obtain⟨t0,t1,t2,_,_,_,_,_,_⟩:=h.tris i h2;clear h e;generalize (tat M.tris i).v0=x0 at *;generalize (tat M.tris i).v1=x1 at *;generalize (tat M.tris i).v2=x2 at *;cases c0:decide (0≤x0)
  ·go_enter Tryz.func56,Tryz.ntmps56
   go_wp2
   go_ret
   exact⟨rfl,bel_alloc (bel_refl _) _⟩
  cases c1:decide (0≤x1)
  ·go_enter Tryz.func56,Tryz.ntmps56
   go_wp2
   go_ret
   exact⟨rfl,bel_alloc (bel_refl _) _⟩
  go_enter Tryz.func56,Tryz.ntmps56
  go_wp2
  go_ret
  exact⟨rfl,bel_alloc (bel_refl _) _⟩
 ·have e:realB M (i:Int)=false:=by unfold realB;rw[decide_eq_false (by omega)];rfl
  rw[e];clear h e
  go_enter Tryz.func56,Tryz.ntmps56
  go_wp2
  go_ret
  exact⟨rfl,bel_refl _⟩
def place(t:Tri)(v:Int):Int:=if t.v0=v then 0 else if t.v1=v then 1 else if t.v2=v then 2 else -1
theorem place_any(t:Tri)(v:Int)(w:World) :
  Calls Tryz.prog 42 #[tv t,.int .i64 v] w fun e w'=>e=.returned (.int .i64 (place t v))∧Below w.heap.size w w':=by
 obtain⟨v0,v1,v2,n0,n1,n2,f0,f1,f2⟩:=t;have hB:=Blk.new w 43 #[.int .i64 v0,.int .i64 v1,.int .i64 v2,.int .i64 n0,.int .i64 n1,.int .i64 n2,.bool f0,.bool f1,.bool f2]
 have hI:=Tryz.slices_Index_int w.heap.size 0 3 3 [v0,v1,v2] v (w.alloc (.cells #[.int .i64 v0,.int .i64 v1,.int .i64 v2,.int .i64 n0,.int .i64 n1,.int .i64 n2,.bool f0,.bool f1,.bool f2] 43)) (by simp) (by omega) (by
  intro j hj
  match j,hj with
  | 0,_=>exact hB.cell 0 _ rfl
  | 1,_=>exact hB.cell 1 _ rfl
  | 2,_=>exact hB.cell 2 _ rfl
  | j+3,hj=>simp at hj;omega)
 have e:(Lib.idxOf ([v0,v1,v2].take 3) v:Int)=place ⟨v0,v1,v2,n0,n1,n2,f0,f1,f2⟩ v:=by
  unfold place;simp only[Lib.idxOf,Lib.idxFrom,List.take_succ_cons,List.take_zero]
  split<;>(try split)<;>(try split)<;>simp_all
 rw[e]at hI;have HI:=Hd hI;clear hI e hB
 go_enter Tryz.func42,Tryz.ntmps42
 go_wp2_with (go_at_call 70;refine HI.out.mono ?_;rintro e w1 ⟨rfl,rfl⟩)
 go_ret
 exact⟨rfl,bel_alloc (bel_refl _) _⟩
end Mr
end Go.Proofs.YtdihefgleefhmaaGreat
namespace Go.Proofs.YtdihefgleefhmaaGreat
open Go.RowKit
structure Mesh.ok(M:Mesh):Prop where
 near:nearAll M.pts
 pts:M.pts.length≤1000000000
 tris:M.tris.length≤1000000000
 at_:M.at_.length=M.pts.length
def oriE(M:Mesh)(a b:Int)(p:Pt):Int:=ori (pat M.pts a.toNat) (pat M.pts b.toNat) p
def beyond(M:Mesh)(t:Tri)(i:Nat)(p:Pt):Bool:=decide (oriE M (t.v ((i+1)%3)) (t.v ((i+2)%3)) p<0)
namespace By
open Wd Pr
theorem sign_lt(n:Int):decide (n.sign<0)=decide (n<0):=by
 rw[Bool.eq_iff_iff];simp[Int.sign_neg_iff]
set_option maxHeartbeats 1000000 in
set_option maxRecDepth 100000 in
theorem beyond_any(M:Mesh)(b:Nat)(t:Tri)(i:Nat)(p:Pt)(w:World)(h:MeshR w b M)(ho:M.ok)(hi:i<3)(hp:p.near)(x y:Nat)(hx:t.v ((i+1)%3)=x)(hy:t.v ((i+2)%3)=y)(hxl:x<M.pts.length)(hyl:y<M.pts.length) :
  Calls Tryz.prog 65 #[.pointer (some ⟨b,0,none⟩),tv t,.int .i64 i,pv p] w fun e w'=>e=.returned (.bool (beyond M t i p))∧Below w.heap.size w w':=by
 obtain⟨gp,cp,gt,ct,ga,ca,fV,h⟩:=h;have hO:=fun w=>orient_any (pat M.pts x) (pat M.pts y) p w (ho.near x) (ho.near y) hp
 have e:beyond M t i p=decide ((ori (pat M.pts x) (pat M.pts y) p).sign<0):=by
  rw[sign_lt];unfold beyond oriE;rw[hx,hy];rfl
 rw[e];clear e;have h2:=h.later (bel_alloc (bel_alloc (bel_refl w) (.cells #[.int .i64 t.v0,.int .i64 t.v1,.int .i64 t.v2,.int .i64 t.n0,.int .i64 t.n1,.int .i64 t.n2,.bool t.f0,.bool t.f1,.bool t.f2] 43)) (.cells #[.int .i64 p.x,.int .i64 p.y] 24));generalize (ori (pat M.pts x) (pat M.pts y) p).sign=s at hO ⊢;have HO:=Hd hO;have B1:=(Blk.new w 43 #[.int .i64 t.v0,.int .i64 t.v1,.int .i64 t.v2,.int .i64 t.n0,.int .i64 t.n1,.int .i64 t.n2,.bool t.f0,.bool t.f1,.bool t.f2]).alloc (.cells #[.int .i64 p.x,.int .i64 p.y] 24);have B2:=Blk.new' (n:=w.heap.size+1) (w.alloc (.cells #[.int .i64 t.v0,.int .i64 t.v1,.int .i64 t.v2,.int .i64 t.n0,.int .i64 t.n1,.int .i64 t.n2,.bool t.f0,.bool t.f1,.bool t.f2] 43)) 24 #[.int .i64 p.x,.int .i64 p.y] (by simp);have HB:=Hd (bel_alloc (bel_alloc (bel_refl w) (.cells #[.int .i64 t.v0,.int .i64 t.v1,.int .i64 t.v2,.int .i64 t.n0,.int .i64 t.n1,.int .i64 t.n2,.bool t.f0,.bool t.f1,.bool t.f2] 43)) (.cells #[.int .i64 p.x,.int .i64 p.y] 24));clear hO h
 go_enter Tryz.func65,Tryz.ntmps65
 go_upto_region 1 with(fail)
 obtain⟨W,hW⟩:∃W,(w.alloc (.cells #[.int .i64 t.v0,.int .i64 t.v1,.int .i64 t.v2,.int .i64 t.n0,.int .i64 t.n1,.int .i64 t.n2,.bool t.f0,.bool t.f1,.bool t.f2] 43)).alloc (.cells #[.int .i64 p.x,.int .i64 p.y] 24)=W:=⟨_,rfl⟩;rw[hW]at h2 B1 B2 HB ⊢;clear hW;have lx:=Gq.Later.cell (h2.head.cell 0 (.slice (some ⟨gp,0,none⟩) M.pts.length cp) rfl);have px0:=Gq.Later.cell (h2.pts x hxl).1;have px1:=Gq.Later.cell (h2.pts x hxl).2;have py0:=Gq.Later.cell (h2.pts y hyl).1;have py1:=Gq.Later.cell (h2.pts y hyl).2;have q0:=B2.cells 0 (.int .i64 p.x) rfl;have q1:=B2.cells 1 (.int .i64 p.y) rfl;have xi:(0:Int)≤(x:Int):=by omega
 have xi1:(x:Int)<(M.pts.length:Int):=by omega
 have yi:(0:Int)≤(y:Int):=by omega
 have yi1:(y:Int)<(M.pts.length:Int):=by omega
 rcases(show i=0∨i=1∨i=2 by omega)with rfl|rfl|rfl
 ·have r0:∀u:Gq.Later W,u.w.cell? ⟨w.heap.size,1,none⟩=some (.int .i64 x):=hx▸B1.cells 1 (.int .i64 t.v1) rfl
  have r1:∀u:Gq.Later W,u.w.cell? ⟨w.heap.size,2,none⟩=some (.int .i64 y):=hy▸B1.cells 2 (.int .i64 t.v2) rfl;clear hx hy h2 B1 B2;refine Go.Gq.region (by kernel_rfl) (by kernel_rfl) ?_
  repeat (go_big_quiet_step ((go_at_call 16;exact Gq.call (HO.out _))))
  refine wpQuiet_nil ?_;intro wx hw';have HX:=Hd (Go.Gq.later_bel hw');clear hw' lx px0 px1 py0 py1 q0 q1 r0 r1;go_wp2
  go_ret
  exact⟨rfl,bel_step HB.out HX.out⟩
 ·have r0:∀u:Gq.Later W,u.w.cell? ⟨w.heap.size,2,none⟩=some (.int .i64 x):=hx▸B1.cells 2 (.int .i64 t.v2) rfl
  have r1:∀u:Gq.Later W,u.w.cell? ⟨w.heap.size,0,none⟩=some (.int .i64 y):=hy▸B1.cells 0 (.int .i64 t.v0) rfl;clear hx hy h2 B1 B2;refine Go.Gq.region (by kernel_rfl) (by kernel_rfl) ?_
  repeat (go_big_quiet_step ((go_at_call 16;exact Gq.call (HO.out _))))
  refine wpQuiet_nil ?_;intro wx hw';have HX:=Hd (Go.Gq.later_bel hw');clear hw' lx px0 px1 py0 py1 q0 q1 r0 r1;go_wp2
  go_ret
  exact⟨rfl,bel_step HB.out HX.out⟩
 ·have r0:∀u:Gq.Later W,u.w.cell? ⟨w.heap.size,0,none⟩=some (.int .i64 x):=hx▸B1.cells 0 (.int .i64 t.v0) rfl
  have r1:∀u:Gq.Later W,u.w.cell? ⟨w.heap.size,1,none⟩=some (.int .i64 y):=hy▸B1.cells 1 (.int .i64 t.v1) rfl;clear hx hy h2 B1 B2;refine Go.Gq.region (by kernel_rfl) (by kernel_rfl) ?_
  repeat (go_big_quiet_step ((go_at_call 16;exact Gq.call (HO.out _))))
  refine wpQuiet_nil ?_;intro wx hw';have HX:=Hd (Go.Gq.later_bel hw');clear hw' lx px0 px1 py0 py1 q0 q1 r0 r1;go_wp2
  go_ret
  exact⟨rfl,bel_step HB.out HX.out⟩
end By
end Go.Proofs.YtdihefgleefhmaaGreat
namespace Go.Proofs.YtdihefgleefhmaaGreat
open Go.RowKit
def baseGo(l:List Pt):Nat→Nat→Nat→Option (Nat×Nat)
 | 0,_,_=>none
 | f+1,i,b=>if b=0 then (if pat l i=pat l 0 then baseGo l f (i+1) 0 else baseGo l f (i+1) i) else (if ori (pat l 0) (pat l b) (pat l i)=0 then baseGo l f (i+1) b else some (b,i))
def baseOf(l:List Pt):Option (Nat×Nat):=baseGo l l.length 0 0
def baseV:Option (Nat×Nat)→Value
 | none=>.tuple #[.agg #[.int .i64 0,.int .i64 0,.int .i64 0],.bool false]
 | some (b,i)=>.tuple #[.agg #[.int .i64 0,.int .i64 b,.int .i64 i],.bool true]
namespace Ba
open Wd Pr
attribute [local go_sem high] run_eql32 run_neq32
theorem go_succ(l:List Pt)(i b:Nat)(hi:i<l.length):baseGo l (l.length-i) i b=if b=0 then (if pat l i=pat l 0 then baseGo l (l.length-(i+1)) (i+1) 0 else baseGo l (l.length-(i+1)) (i+1) i) else (if ori (pat l 0) (pat l b) (pat l i)=0 then baseGo l (l.length-(i+1)) (i+1) b else some (b,i)):=by
 have:l.length-i=(l.length-(i+1))+1:=by omega
 rw[this];rfl
theorem go_end(l:List Pt)(i b:Nat)(hi:¬i<l.length):baseGo l (l.length-i) i b=none:=by
 have:l.length-i=0:=by omega
 rw[this];rfl
set_option maxHeartbeats 2000000 in
theorem base_at(g c:Nat)(l:List Pt)(w:World)(hP:PtsAt w g l)(hn:nearAll l) :
  Calls Tryz.prog 47 #[.slice (some ⟨g,0,none⟩) l.length c] w fun e w'=>e=.returned (baseV (baseOf l))∧Below w.heap.size w w':=by
 have hlen:=hP.1;have HP:=Hd hP;have HN:=Hd hn;obtain⟨r,hr⟩:∃r,baseOf l=r:=⟨_,rfl⟩;have HR:=Hd hr;rw[hr];clear hP hn hr
 go_enter Tryz.func47,Tryz.ntmps47
 go_wp2
 go_loopw [9,4] (fun p q wr=>∃i b:Nat,p=.int .i64 i∧q=.int .i64 b∧i≤l.length∧b≤i∧Hid (baseGo l (l.length-i) i b=r)∧Hid (Below w.heap.size w wr)∧Hid (Blk wr w.heap.size 40 #[.int .i64 0,.int .i64 0,.int .i64 0])) (fun p _ _=>l.length-(intOf p).toNat)
 case atStart=>exact⟨0,0,rfl,rfl,Nat.zero_le _,Nat.le_refl _,HR,Hd (bel_alloc (bel_refl w) _),Hd (Blk.new _ _ _)⟩
 case round=>
  obtain⟨i,b,rfl,rfl,hi,hbi,HG,HB,HK⟩:=hrel;by_cases hlt:i<l.length
  ·have hstep:=go_succ l i b hlt
   have hP:=HP.out.later (Hd HB.out).out;obtain⟨p0,p1⟩:=hP.2 i hlt;have he:=ptEq_iff (pat l i) (pat l 0);by_cases hb0:b=0
   ·have hbz:((b:Int)==0)=true:=by simp;omega
    have hbg:decide (0<b)=false:=by simp;omega
    rw[if_pos hb0]at hstep;by_cases hz:pat l i=pat l 0
    ·rw[decide_eq_true hz]at he
     have HS:Hid (baseGo l (l.length-(i+1)) (i+1) b=r):=Hd (by have h:=HG.out;rw[hstep,if_pos hz]at h;rw[hb0];exact h);clear hstep hz hP hb0
     go_upto_region 5 with(fail)
     have hP1:=HP.out.later (bel_alloc HB.out (.cells #[.int .i64 (pat l i).x,.int .i64 (pat l i).y] 24));have B1:=Blk.new wr 24 #[.int .i64 (pat l i).x,.int .i64 (pat l i).y];have HB1:=Hd (bel_alloc HB.out (.cells #[.int .i64 (pat l i).x,.int .i64 (pat l i).y] 24));have HK1:=Hd (HK.out.alloc (.cells #[.int .i64 (pat l i).x,.int .i64 (pat l i).y] 24));obtain⟨W,hW⟩:∃W,wr.alloc (.cells #[.int .i64 (pat l i).x,.int .i64 (pat l i).y] 24)=W:=⟨_,rfl⟩;rw[hW]at hP1 B1 HB1 HK1 ⊢;clear hW p0 p1;obtain⟨l0,l1⟩:=hP1.cells 0 (by omega);have l4:=B1.cells 0 _ rfl;have l5:=B1.cells 1 _ rfl;have HP1:=Hd hP1;have HQ1:=Hd B1;clear hP1 B1;refine Go.Gq.region (by kernel_rfl) (by kernel_rfl) ?_
     repeat (go_big_quiet_step ((fail)))
     refine wpQuiet_nil ?_;intro wx hw';have HX:=Hd (Go.Gq.later_bel hw');clear hw' l0 l1 l4 l5
     go_upto_region 7 with(fail)
     have HP2:=Hd (HP1.out.later HX.out);obtain⟨l0,l1⟩:=HP2.out.cells 0 (by omega);obtain⟨l2,l3⟩:=HP2.out.cells b (by omega);have l4:=(HQ1.out.later HX.out).cells 0 _ rfl;have l5:=(HQ1.out.later HX.out).cells 1 _ rfl;refine Go.Gq.region (by kernel_rfl) (by kernel_rfl) ?_
     repeat (go_big_quiet_step ((fail)))
     refine wpQuiet_nil ?_;intro wy hw';have HY:=Hd (Go.Gq.later_bel hw');clear hw' l0 l1 l2 l3 l4 l5;go_wp2;go_roundw
     case rel=>exact⟨i+1,b,by go_num,rfl,by omega,by omega,HS,Hd (bel_step (bel_step HB1.out HX.out) HY.out),Hd ((HK1.out.later HX.out).later HY.out)⟩
     case measure=>simp[intOf];omega
    ·rw[decide_eq_false hz]at he
     have HS:Hid (baseGo l (l.length-(i+1)) (i+1) i=r):=Hd (by have h:=HG.out;rw[hstep,if_neg hz]at h;exact h);clear hstep hz hP hb0
     go_upto_region 5 with(fail)
     have hP1:=HP.out.later (bel_alloc HB.out (.cells #[.int .i64 (pat l i).x,.int .i64 (pat l i).y] 24));have B1:=Blk.new wr 24 #[.int .i64 (pat l i).x,.int .i64 (pat l i).y];have HB1:=Hd (bel_alloc HB.out (.cells #[.int .i64 (pat l i).x,.int .i64 (pat l i).y] 24));have HK1:=Hd (HK.out.alloc (.cells #[.int .i64 (pat l i).x,.int .i64 (pat l i).y] 24));obtain⟨W,hW⟩:∃W,wr.alloc (.cells #[.int .i64 (pat l i).x,.int .i64 (pat l i).y] 24)=W:=⟨_,rfl⟩;rw[hW]at hP1 B1 HB1 HK1 ⊢;clear hW p0 p1;obtain⟨l0,l1⟩:=hP1.cells 0 (by omega);have l4:=B1.cells 0 _ rfl;have l5:=B1.cells 1 _ rfl;have HP1:=Hd hP1;have HQ1:=Hd B1;clear hP1 B1;refine Go.Gq.region (by kernel_rfl) (by kernel_rfl) ?_
     repeat (go_big_quiet_step ((fail)))
     refine wpQuiet_nil ?_;intro wx hw';have HX:=Hd (Go.Gq.later_bel hw');clear hw' l0 l1 l4 l5;go_wp2;go_roundw
     case rel=>exact⟨i+1,i,by go_num,rfl,by omega,by omega,HS,Hd (bel_step HB1.out HX.out),Hd (HK1.out.later HX.out)⟩
     case measure=>simp[intOf];omega
   ·have hbz:((b:Int)==0)=false:=by simp;omega
    have hbg:decide (0<b)=true:=by simp;omega
    rw[if_neg hb0]at hstep;have hS:=sign_eq0 (ori (pat l 0) (pat l b) (pat l i));have hO:=Hd (fun w=>orient_any (pat l 0) (pat l b) (pat l i) w (HN.out 0) (HN.out b) (HN.out i));by_cases hz:ori (pat l 0) (pat l b) (pat l i)=0
    ·rw[decide_eq_true hz]at hS
     have HS:Hid (baseGo l (l.length-(i+1)) (i+1) b=r):=Hd (by rw[←HG.out,hstep,if_pos hz]);clear hstep hz hP hb0 he;generalize (ori (pat l 0) (pat l b) (pat l i)).sign=s at *;have hS2:(s != 0)=false:=by simpa using hS
     go_upto_region 5 with(fail)
     have hP1:=HP.out.later (bel_alloc HB.out (.cells #[.int .i64 (pat l i).x,.int .i64 (pat l i).y] 24));have B1:=Blk.new wr 24 #[.int .i64 (pat l i).x,.int .i64 (pat l i).y];have HB1:=Hd (bel_alloc HB.out (.cells #[.int .i64 (pat l i).x,.int .i64 (pat l i).y] 24));have HK1:=Hd (HK.out.alloc (.cells #[.int .i64 (pat l i).x,.int .i64 (pat l i).y] 24));obtain⟨W,hW⟩:∃W,wr.alloc (.cells #[.int .i64 (pat l i).x,.int .i64 (pat l i).y] 24)=W:=⟨_,rfl⟩;rw[hW]at hP1 B1 HB1 HK1 ⊢;clear hW p0 p1;obtain⟨l0,l1⟩:=hP1.cells 0 (by omega);have l4:=B1.cells 0 _ rfl;have l5:=B1.cells 1 _ rfl;have HP1:=Hd hP1;have HQ1:=Hd B1;clear hP1 B1;refine Go.Gq.region (by kernel_rfl) (by kernel_rfl) ?_
     repeat (go_big_quiet_step ((fail)))
     refine wpQuiet_nil ?_;intro wx hw';have HX:=Hd (Go.Gq.later_bel hw');clear hw' l0 l1 l4 l5
     go_upto_region 7 with(fail)
     have HP2:=Hd (HP1.out.later HX.out);obtain⟨l0,l1⟩:=HP2.out.cells 0 (by omega);obtain⟨l2,l3⟩:=HP2.out.cells b (by omega);have l4:=(HQ1.out.later HX.out).cells 0 _ rfl;have l5:=(HQ1.out.later HX.out).cells 1 _ rfl;refine Go.Gq.region (by kernel_rfl) (by kernel_rfl) ?_
     repeat (go_big_quiet_step ((go_at_call 16;exact Gq.call (hO.out _))))
     refine wpQuiet_nil ?_;intro wy hw';have HY:=Hd (Go.Gq.later_bel hw');clear hw' l0 l1 l2 l3 l4 l5;go_wp2;go_roundw
     case rel=>exact⟨i+1,b,by go_num,rfl,by omega,by omega,HS,Hd (bel_step (bel_step HB1.out HX.out) HY.out),Hd ((HK1.out.later HX.out).later HY.out)⟩
     case measure=>simp[intOf];omega
    ·rw[decide_eq_false hz]at hS
     have HS:Hid (some (b,i)=r):=Hd (by rw[←HG.out,hstep,if_neg hz]);clear hstep hz hP hb0 he;generalize (ori (pat l 0) (pat l b) (pat l i)).sign=s at *;have hS2:(s != 0)=true:=by simpa using hS
     go_upto_region 5 with(fail)
     have hP1:=HP.out.later (bel_alloc HB.out (.cells #[.int .i64 (pat l i).x,.int .i64 (pat l i).y] 24));have B1:=Blk.new wr 24 #[.int .i64 (pat l i).x,.int .i64 (pat l i).y];have HB1:=Hd (bel_alloc HB.out (.cells #[.int .i64 (pat l i).x,.int .i64 (pat l i).y] 24));have HK1:=Hd (HK.out.alloc (.cells #[.int .i64 (pat l i).x,.int .i64 (pat l i).y] 24));obtain⟨W,hW⟩:∃W,wr.alloc (.cells #[.int .i64 (pat l i).x,.int .i64 (pat l i).y] 24)=W:=⟨_,rfl⟩;rw[hW]at hP1 B1 HB1 HK1 ⊢;clear hW p0 p1;obtain⟨l0,l1⟩:=hP1.cells 0 (by omega);have l4:=B1.cells 0 _ rfl;have l5:=B1.cells 1 _ rfl;have HP1:=Hd hP1;have HQ1:=Hd B1;clear hP1 B1;refine Go.Gq.region (by kernel_rfl) (by kernel_rfl) ?_
     repeat (go_big_quiet_step ((fail)))
     refine wpQuiet_nil ?_;intro wx hw';have HX:=Hd (Go.Gq.later_bel hw');clear hw' l0 l1 l4 l5
     go_upto_region 7 with(fail)
     have HP2:=Hd (HP1.out.later HX.out);obtain⟨l0,l1⟩:=HP2.out.cells 0 (by omega);obtain⟨l2,l3⟩:=HP2.out.cells b (by omega);have l4:=(HQ1.out.later HX.out).cells 0 _ rfl;have l5:=(HQ1.out.later HX.out).cells 1 _ rfl;refine Go.Gq.region (by kernel_rfl) (by kernel_rfl) ?_
     repeat (go_big_quiet_step ((go_at_call 16;exact Gq.call (hO.out _))))
     refine wpQuiet_nil ?_;intro wy hw';have HY:=Hd (Go.Gq.later_bel hw');clear hw' l0 l1 l2 l3 l4 l5;have HK3:=Hd ((HK1.out.later HX.out).later HY.out);obtain⟨k0,k1,k2,k3,k4,k5⟩:=HK3.out.three;obtain⟨m0,m1,m2⟩:=HK3.out.three_set (u:=.int .i64 0) (v:=.int .i64 b) (s:=.int .i64 i);go_wp2;rw[←HS.out];exact bodyPost_ret (v:=baseV (some (b,i))) (by simp[results,Tryz.results47,go_sem,m0,m1,m2,baseV]) rfl ⟨rfl,bel_set (bel_set (bel_set (bel_step (bel_step HB1.out HX.out) HY.out) (Nat.le_refl _) _ _) (Nat.le_refl _) _ _) (Nat.le_refl _) _ _⟩
  ·have hE:=Hd ((go_end l i b hlt).symm.trans HG.out)
   obtain⟨k0,k1,k2,k3,k4,k5⟩:=HK.out.three;obtain⟨m0,m1,m2⟩:=HK.out.three_set (u:=.int .i64 0) (v:=.int .i64 0) (s:=.int .i64 0);go_wp2;rw[←hE.out];exact bodyPost_ret (v:=baseV none) (by simp[results,Tryz.results47,go_sem,m0,m1,m2,baseV]) rfl ⟨rfl,bel_set (bel_set (bel_set HB.out (Nat.le_refl _) _ _) (Nat.le_refl _) _ _) (Nat.le_refl _) _ _⟩
end Ba
end Go.Proofs.YtdihefgleefhmaaGreat
namespace Go.Proofs.YtdihefgleefhmaaGreat
open Go.RowKit
namespace Bp
end Bp
end Go.Proofs.YtdihefgleefhmaaGreat
