import Derived.Test.YtdihefgleefhmaaGreatMs
import Derived.Test.YtdihefgleefhmaaGreatIt
import Derived.Test.YtdihefgleefhmaaGreatMp
import Derived.Maps.RangeWalk
import Derived.Maps.Views
import Derived.Carry
namespace Go.Proofs.YtdihefgleefhmaaGreat
open Go.RowKit
def nextRound(M:Mesh)(v:Int)(t:Nat):Int:=(tat M.tris t).n ((Mr.place (tat M.tris t) v+1)%3).toNat
structure RoundOk(M:Mesh)(v:Int)(ts:Nat→Nat)(k:Nat):Prop where
 pos:0<k
 few:k≤M.tris.length
 lt:∀i,i<k→ts i<M.tris.length
 there:∀i,i<k→0≤Mr.place (tat M.tris (ts i)) v
 next:∀i,i<k→nextRound M v (ts i)=ts (i+1)
 last:ts k=ts 0
 apart:∀i,0<i→i<k→ts i≠ts 0
namespace Rd
theorem place_lt3(T:Tri)(v:Int):Mr.place T v<3:=by
 unfold Mr.place
 split<;>(try split)<;>(try split)<;>omega
set_option maxHeartbeats 2000000 in
set_option maxRecDepth 100000 in
theorem round_any(M:Mesh)(b:Nat)(v:Int)(ts:Nat→Nat)(k:Nat)(w:World)(h:MeshR w b M)(ho:M.ok)(hr:RoundOk M v ts k) :
  Calls Tryz.prog 92 #[.pointer (some ⟨b,0,none⟩),.int .i64 v,.int .i64 (ts 0:Nat)] w fun e w'=>e=.returned (.int .i64 k)∧Below w.heap.size w w':=by
 obtain⟨gp,cp,gt,ct,ga,ca,fV,h⟩:=h;have T9:=ho.tris;have H:=Hd h;have HR:=Hd hr;have kf:=hr.few;obtain⟨L,hL⟩:∃L,M.tris.length=L:=⟨_,rfl⟩;rw[hL]at T9 kf;have HL:=Hd hL;clear h hr ho hL
 go_enter Tryz.func92,Tryz.ntmps92
 go_wp2
 go_loopw [7,8] (fun x y wr=>∃i:Nat,x=.int .i64 i∧y=.int .i64 (ts i:Nat)∧i<k∧Hid (Below w.heap.size w wr)) (fun x _ _=>k-(intOf x).toNat)
 case atStart=>exact⟨0,rfl,rfl,HR.out.pos,Hd (bel_refl w)⟩
 case round=>
  obtain⟨i,rfl,rfl,hi,HB⟩:=hrel;have hM:=H.out.later HB.out;have hh:=hM.head.cell 1 (.slice (some ⟨gt,0,none⟩) M.tris.length ct) rfl;rw[HL.out]at hh;have hlt:=HR.out.lt i hi;obtain⟨e0,e1,e2,e3,e4,e5,e6,e7,e8⟩:=hM.tris (ts i) hlt;rw[HL.out]at hlt;have hth:=HR.out.there i hi;have hnx:=HR.out.next i hi;unfold nextRound at hnx;generalize hT:tat M.tris (ts i)=T at *;have hp:=Mr.place_any T v wr;have hp3:=place_lt3 T v;obtain⟨q,hq⟩:∃q:Nat,Mr.place T v=q:=⟨(Mr.place T v).toNat,by omega⟩;rw[hq]at hp hnx hp3;have q3:q<3:=by omega
  have t0:(0:Int)≤(ts i:Int):=by omega
  have t1:(ts i:Int)<(L:Int):=by omega
  have HP:=Hd hp;have hml:Hid (MR wr b M gp cp gt ct ga ca fV):=Hd hM;clear hM hT hth hp hq hp3;rcases(show q=0∨q=1∨q=2 by omega)with rfl|rfl|rfl
  ·have hn:T.n1=(ts (i+1):Nat):=by
    have:=hnx
    simpa [Tri.n] using this
   have HN:=Hd hn;clear hnx hn
   go_upto_region 4 with(go_at_call 42;refine HP.out.mono ?_;rintro e w1 ⟨rfl,hb1⟩;have HB1:=Hd hb1;clear hb1)
   have hm1:=hml.out.later HB1.out;have hh1:=hm1.head.cell 1 (.slice (some ⟨gt,0,none⟩) M.tris.length ct) rfl;rw[HL.out]at hh1;have e9:=cell_later e4 HB1.out;rw[HN.out]at e9;have HB2:=Hd (bel_step HB.out HB1.out);clear hm1 hh e0 e1 e2 e3 e4 e5 e6 e7 e8 HB1 HB HP;by_cases hk:i+1=k
   ·have hend:ts (i+1)=ts 0:=by rw[hk];exact HR.out.last
    have HE:=Hd hend;have HK:=Hd hk;have q1:((ts (i+1):Int)==(ts 0:Int))=true:=by simp[hend]
    clear hk hend;go_wp2
    go_ret
    exact⟨by rw[←HK.out];rfl,HB2.out⟩
   ·have hlt2:i+1<k:=by omega
    have hne:=HR.out.apart (i+1) (by omega) hlt2;have q1:((ts (i+1):Int)==(ts 0:Int))=false:=by simp;omega
    have q2:¬(L:Int)<(i:Int)+1:=by omega
    clear hne hk;go_wp2;go_roundw
    case rel=>exact⟨i+1,by go_num,rfl,hlt2,HB2⟩
    case measure=>simp[intOf];omega
  ·have hn:T.n2=(ts (i+1):Nat):=by
    have:=hnx
    simpa [Tri.n] using this
   have HN:=Hd hn;clear hnx hn
   go_upto_region 4 with(go_at_call 42;refine HP.out.mono ?_;rintro e w1 ⟨rfl,hb1⟩;have HB1:=Hd hb1;clear hb1)
   have hm1:=hml.out.later HB1.out;have hh1:=hm1.head.cell 1 (.slice (some ⟨gt,0,none⟩) M.tris.length ct) rfl;rw[HL.out]at hh1;have e9:=cell_later e5 HB1.out;rw[HN.out]at e9;have HB2:=Hd (bel_step HB.out HB1.out);clear hm1 hh e0 e1 e2 e3 e4 e5 e6 e7 e8 HB1 HB HP;by_cases hk:i+1=k
   ·have hend:ts (i+1)=ts 0:=by rw[hk];exact HR.out.last
    have HE:=Hd hend;have HK:=Hd hk;have q1:((ts (i+1):Int)==(ts 0:Int))=true:=by simp[hend]
    clear hk hend;go_wp2
    go_ret
    exact⟨by rw[←HK.out];rfl,HB2.out⟩
   ·have hlt2:i+1<k:=by omega
    have hne:=HR.out.apart (i+1) (by omega) hlt2;have q1:((ts (i+1):Int)==(ts 0:Int))=false:=by simp;omega
    have q2:¬(L:Int)<(i:Int)+1:=by omega
    clear hne hk;go_wp2;go_roundw
    case rel=>exact⟨i+1,by go_num,rfl,hlt2,HB2⟩
    case measure=>simp[intOf];omega
  ·have hn:T.n0=(ts (i+1):Nat):=by
    have:=hnx
    simpa [Tri.n] using this
   have HN:=Hd hn;clear hnx hn
   go_upto_region 4 with(go_at_call 42;refine HP.out.mono ?_;rintro e w1 ⟨rfl,hb1⟩;have HB1:=Hd hb1;clear hb1)
   have hm1:=hml.out.later HB1.out;have hh1:=hm1.head.cell 1 (.slice (some ⟨gt,0,none⟩) M.tris.length ct) rfl;rw[HL.out]at hh1;have e9:=cell_later e3 HB1.out;rw[HN.out]at e9;have HB2:=Hd (bel_step HB.out HB1.out);clear hm1 hh e0 e1 e2 e3 e4 e5 e6 e7 e8 HB1 HB HP;by_cases hk:i+1=k
   ·have hend:ts (i+1)=ts 0:=by rw[hk];exact HR.out.last
    have HE:=Hd hend;have HK:=Hd hk;have q1:((ts (i+1):Int)==(ts 0:Int))=true:=by simp[hend]
    clear hk hend;go_wp2
    go_ret
    exact⟨by rw[←HK.out];rfl,HB2.out⟩
   ·have hlt2:i+1<k:=by omega
    have hne:=HR.out.apart (i+1) (by omega) hlt2;have q1:((ts (i+1):Int)==(ts 0:Int))=false:=by simp;omega
    have q2:¬(L:Int)<(i:Int)+1:=by omega
    clear hne hk;go_wp2;go_roundw
    case rel=>exact⟨i+1,by go_num,rfl,hlt2,HB2⟩
    case measure=>simp[intOf];omega
end Rd
end Go.Proofs.YtdihefgleefhmaaGreat
namespace Go.Proofs.YtdihefgleefhmaaGreat
open Go.RowKit
def bump(T:Tri)(f:Int→Int):Nat→Int→Int
 | 0=>f
 | k+1=>if T.v k=-2 then bump T f k else fun u=>if u=T.v k then bump T f k u+1 else bump T f k u
def cntM(M:Mesh):Nat→Int→Int
 | 0=>fun _=>0
 | n+1=>bump (tat M.tris n) (cntM M n) 3
def mark(T:Tri)(n:Int)(f:Int→Int):Nat→Int→Int
 | 0=>f
 | k+1=>if T.v k=-2 then mark T n f k else fun u=>if u=T.v k then n else mark T n f k u
def oneM(M:Mesh):Nat→Int→Int
 | 0=>fun _=>0
 | n+1=>mark (tat M.tris n) n (oneM M n) 3
structure StarsOk(M:Mesh):Prop where
 vs:∀t,t<M.tris.length→∀j,j<3→(tat M.tris t).v j=-1∨(tat M.tris t).v j=-2∨(0≤(tat M.tris t).v j∧(tat M.tris t).v j<M.pts.length)
 round:∀v,cntM M M.tris.length v≠0→∃(ts:Nat→Nat) (k:Nat),RoundOk M v ts k∧oneM M M.tris.length v=(ts 0:Nat)∧cntM M M.tris.length v=k
 at_:∀i,i<M.at_.length→(iat M.at_ i<0↔cntM M M.tris.length i=0)∧iat M.at_ i<M.tris.length∧(0≤iat M.at_ i→0≤Mr.place (tat M.tris (iat M.at_ i).toNat) i)
 ghost:0<cntM M M.tris.length (-1)
namespace Sq
open Go.Maps
theorem bump_bound(T:Tri)(f:Int→Int)(m:Int)(hf:∀u,0≤f u∧f u≤m):∀k u,0≤bump T f k u∧bump T f k u≤m+k
 | 0,u=>by have:=hf u;unfold bump;omega
 | k+1,u=>by
  have:=bump_bound T f m hf k u;unfold bump
  split
  ·omega
  ·simp only
   split<;>omega
theorem cnt_bound(M:Mesh):∀n u,0≤cntM M n u∧cntM M n u≤3*n
 | 0,u=>by unfold cntM;omega
 | n+1,u=>by
  have:=bump_bound (tat M.tris n) (cntM M n) (3*n) (cnt_bound M n) 3 u;unfold cntM;omega
abbrev IMap(W:World)(b n:Nat)(D:DataW Unit):Prop:=W.ownsMap Tryz.prog 3 (plainElem Tryz.prog 3) b n D
def CntAt(W:World)(b N:Nat)(f:Int→Int):Prop:=∃n D,IMap W b n D∧n≤N∧∀v zd,D.atKey (.int .i64 v) zd=if f v=0 then zd else .lit (.int .i64 (f v))
theorem wf_of{v:Int}(h:-1000000000000≤v∧v≤1000000000000):(Lit.int .i64 v).wf=true:=by
 simp only[Lit.wf,IntKind.min,IntKind.max,IntKind.signed,IntKind.bits,Bool.and_eq_true,decide_eq_true_eq,if_true];omega
theorem zero3(w:World):(zeroValue 3).run Tryz.prog w=.ok (.int .i64 0) w:=by kernel_rfl
theorem CntAt.new(W:World):CntAt (W.alloc (.map #[] 0)) W.heap.size 0 fun _=>0:=⟨0,_,World.ownsMap_made _ _ _ _,Nat.le_refl _,fun v zd=>by simp[DataW.atKey]⟩
theorem CntAt.kept{W W':World}{b N:Nat}{f:Int→Int}(h:CntAt W b N f){row:Option Nat}(hg:W.grownBy W' row)(hr:some b≠row):CntAt W' b N f:=by
 obtain⟨n,D,h1,h2,h3⟩:=h;exact⟨n,D,h1.kept hg hr,h2,h3⟩
theorem CntAt.later{W W':World}{b N:Nat}{f:Int→Int}(h:CntAt W b N f)(hb:Below W.heap.size W W'):CntAt W' b N f:=h.kept (grown_later hb) (by simp)
theorem CntAt.other{W:World}{b N:Nat}{f:Int→Int}(h:CntAt W b N f){c:Nat}(hc:b≠c)(i:Nat)(v:Value):CntAt (W.setCell ⟨c,i,none⟩ v) b N f:=by
 obtain⟨n,D,h1,h2,h3⟩:=h;exact⟨n,D,h1.setCell hc v,h2,h3⟩
theorem CntAt.lt{W:World}{b N:Nat}{f:Int→Int}(h:CntAt W b N f):b<W.heap.size:=by
 obtain⟨_,_,h,_⟩:=h;exact h.lt
theorem CntAt.look{W:World}{b N:Nat}{f:Int→Int}(h:CntAt W b N f){v:Int}(hw:(Lit.int .i64 v).wf=true):(Instr.lookup 124 (.map (some b)) (.int .i64 v) false).run Tryz.prog W=.ok (.int .i64 (f v)) W:=by
 obtain⟨n,D,h1,h2,h3⟩:=h;obtain⟨c,hc,hat,_⟩:=h1.lookup_int (int_keyed Tryz.underlying3) Tryz.underlying124 Tryz.underlying3 (zero3 W) (keyOf_int_mk Tryz.underlying3 hw);rw[hc];have:=h3 v (.lit (.int .i64 0));rw[hat]at this
 split at this
 ·rename_i h0
  simp only[DataW.lit.injEq,Lit.int.injEq,true_and]at this;rw[this,h0]
 ·simp only[DataW.lit.injEq,Lit.int.injEq,true_and]at this
  rw[this]
theorem CntAt.put{W:World}{b N:Nat}{f:Int→Int}(h:CntAt W b N f){v c:Int}(hw:(Lit.int .i64 v).wf=true)(hc:(Lit.int .i64 c).wf=true)(h0:c≠0)(hN:N<maxLen) :
  ∃w',(Instr.mapUpdate 124 (.map (some b)) (.int .i64 v) (.int .i64 c)).run Tryz.prog W=.ok () w'∧CntAt w' b (N+1) (fun u=>if u=v then c else f u)∧W.grownBy w' (some b):=by
 obtain⟨n,D,h1,h2,h3⟩:=h;obtain⟨w',r1,r2,r3⟩:=h1.update (int_keyed Tryz.underlying3) Tryz.underlying124 (by omega) (keyOf_int_mk Tryz.underlying3 hw) (plainElem_int Tryz.underlying3 hc);refine⟨w',r1,⟨n+1,_,r2,by omega,fun u zd=>?_⟩,r3⟩;by_cases hu:u=v
 ·subst hu
  rw[atKey_put_same h1.isMap (by trivial)];simp[h0]
 ·rw[atKey_put_other (by intro e;simp at e;exact hu e),h3]
  simp only[if_neg hu]
theorem wpList_cnt_put{P:Program}(hP:P=Tryz.prog)(w:World){ops:Array Oper}{rest:List Oper}{o:Oper}{a:Act}{Q:Exit→Act→World→Prop}(hg:o.guard=none)(m x v:Operand)(hop:o.op=Op.mapUpdate 124 m x v)(b N:Nat){f:Int→Int}(hm:a.eval m=.map (some b))
  (h:CntAt w b N f) (y z:Int) (hx:a.eval x=.int .i64 y) (hv:a.eval v=.int .i64 z) (hw:(Lit.int .i64 y).wf=true) (hc:(Lit.int .i64 z).wf=true) (h0:z≠0) (hN:N<maxLen)
  (hK:∀w',CntAt w' b (N+1) (fun u=>if u=y then z else f u)→w.grownBy w' (some b)→wpList P ops Q rest (a.put o.dst undef) w'):wpList P ops Q (o::rest) a w:=by
 subst hP;refine wpList_plain hg fun K' hK'=>?_
 obtain⟨w',hrun,r1,r2⟩:=h.put hw hc h0 hN;unfold Oper.wp;simp[execOp,hop,hm,hx,hv,hrun,Result.andThen];exact hK' _ _ (hK w' r1 r2)
structure StarS(w W:World)(m1 m2 N:Nat)(f o:Int→Int):Prop where
 cnt:CntAt W m1 N f
 one:∃l:List (Int×Int),MapAt (Value.int .i64) (Value.int .i64) W m2 l∧∀v,mget 0 v l=o v
 ne:m1≠m2
 bel:Below w.heap.size w W
 b1:w.heap.size≤m1
 b2:w.heap.size≤m2
theorem StarS.later{w W W':World}{m1 m2 N:Nat}{f o:Int→Int}(h:StarS w W m1 m2 N f o)(hb:Below W.heap.size W W'):StarS w W' m1 m2 N f o:=by
 obtain⟨l,hl,hv⟩:=h.one;exact⟨h.cnt.later hb,⟨l,hl.later hb,hv⟩,h.ne,bel_step h.bel hb,h.b1,h.b2⟩
theorem bel_grown{w W W':World}{m:Nat}(h:Below w.heap.size w W)(hg:W.grownBy W' (some m))(hm:w.heap.size≤m):Below w.heap.size w W':=by
 refine⟨hg.os.trans h.os,hg.tape.trans h.tape,hg.output.trans h.output,Nat.le_trans h.size hg.size,fun k hk=>?_⟩;exact(hg.block k (Nat.lt_of_lt_of_le hk h.size) (fun e=>by have:=Option.some.inj e;omega)).trans (h.block k hk)
theorem StarS.put1{w W W':World}{m1 m2 N:Nat}{f o f':Int→Int}(h:StarS w W m1 m2 N f o)(hc:CntAt W' m1 (N+1) f')(hg:W.grownBy W' (some m1)):StarS w W' m1 m2 (N+1) f' o:=by
 obtain⟨l,hl,hv⟩:=h.one;exact⟨hc,⟨l,hl.grown hg (fun e=>h.ne (Option.some.inj e).symm),hv⟩,h.ne,bel_grown h.bel hg h.b1,h.b1,h.b2⟩
theorem get_put(l:List (Int×Int))(u x y:Int):mget 0 u (mput x y l)=if u=x then y else mget 0 u l:=by
 induction l with
 | nil=>
  unfold mput mget mget;by_cases h:x=u
  ·simp[h]
  ·have:¬u=x:=fun e=>h e.symm
   simp[h,this]
 | cons z l ih=>
  unfold mput;by_cases hz:z.1=x
  ·rw[if_pos hz]
   unfold mget;by_cases hu:x=u
   ·simp[hu]
   ·have:¬u=x:=fun e=>hu e.symm
    simp[hu,hz,this]
  ·rw[if_neg hz]
   unfold mget;rw[ih];by_cases hu:z.1=u
   ·have:¬u=x:=fun e=>hz (hu.trans e)
    simp[hu,this]
   ·simp[hu]
theorem StarS.put2{w W W':World}{m1 m2 N:Nat}{f o:Int→Int}(h:StarS w W m1 m2 N f o){l:List (Int×Int)}(hv:∀v,mget 0 v l=o v){x y:Int}(hl:MapAt (Value.int .i64) (Value.int .i64) W' m2 (mput x y l))(hg:W.grownBy W' (some m2)):StarS w W' m1 m2 N f (fun u=>if u=x then y else o u):=
 ⟨h.cnt.kept hg (fun e=>h.ne (Option.some.inj e)),⟨_,hl,fun v=>by rw[get_put,hv]⟩,h.ne,bel_grown h.bel hg h.b2,h.b1,h.b2⟩
end Sq
end Go.Proofs.YtdihefgleefhmaaGreat
namespace Go.Proofs.YtdihefgleefhmaaGreat
open Go.RowKit
namespace St
open Sq Go.Maps
theorem CntMono{W:World}{b N N':Nat}{f:Int→Int}(h:CntAt W b N f)(hN:N≤N'):CntAt W b N' f:=by
 obtain⟨n,D,h1,h2,h3⟩:=h;exact⟨n,D,h1,by omega,h3⟩
theorem StarS.mono{w W:World}{m1 m2 N N':Nat}{f o:Int→Int}(h:StarS w W m1 m2 N f o)(hN:N≤N'):StarS w W m1 m2 N' f o:=⟨CntMono h.cnt hN,h.one,h.ne,h.bel,h.b1,h.b2⟩
set_option maxHeartbeats 4000000 in
set_option maxRecDepth 100000 in
theorem stars_any(M:Mesh)(b:Nat)(w:World)(h:MeshR w b M)(ho:M.ok)(hs:StarsOk M) :
  Calls Tryz.prog 61 #[.pointer (some ⟨b,0,none⟩)] w fun e w'=>e=.returned (.bool true)∧Below w.heap.size w w':=by
 obtain⟨gp,cp,gt,ct,ga,ca,fV,h⟩:=h;have T9:=ho.tris;have P9:=ho.pts;have A9:=ho.at_;have H:=Hd h;have HS:=Hd hs;have HO:=Hd ho;have hM1:=h.later (bel_alloc (bel_alloc (bel_refl w) (.map #[] 0)) (.map #[] 0));have hh:=hM1.head.cell 1 (.slice (some ⟨gt,0,none⟩) M.tris.length ct) rfl;have hmm:=@run_makeMap Tryz.prog;obtain⟨L,hL⟩:∃L,M.tris.length=L:=⟨_,rfl⟩;rw[hL]at T9 hh;have HL:=Hd hL;clear h hs ho hL hM1
 go_enter Tryz.func61,Tryz.ntmps61
 go_upto_region 2 with(fail)
 have hS:StarS w ((w.alloc (.map #[] 0)).alloc (.map #[] 0)) w.heap.size (w.heap.size+1) 0 (cntM M 0) (oneM M 0):=by
  refine⟨(CntAt.new w).later (bel_alloc (bel_refl _) _),⟨[],?_,fun v=>rfl⟩,by omega,bel_alloc (bel_alloc (bel_refl w) _) _,Nat.le_refl _,by omega⟩;have:=MapAt.new (Value.int .i64) (Value.int .i64) (w.alloc (.map #[] 0)) (α:=Int) (β:=Int);rw[show(w.alloc (.map #[] 0)).heap.size=w.heap.size+1 by simp]at this;exact this
 have HSS:=Hd hS;clear hS;obtain⟨m1,hm1⟩:∃m,w.heap.size=m:=⟨_,rfl⟩;generalize (w.alloc (.map #[] 0)).alloc (.map #[] 0)=W1 at *;have HW:Hid (∀W',Below w.heap.size w W'→MR W' b M gp cp gt ct ga ca fV):=Hd fun W' hb=>H.out.later hb
 rw[hm1]at HSS ⊢;obtain⟨m2,hm2⟩:∃m,m1+1=m:=⟨_,rfl⟩;rw[hm2]at HSS ⊢;clear hm1 hm2;go_wp2
 go_loopw [20] (fun a wr=>∃n:Nat,a=.int .i64 n∧n≤L∧Hid (StarS w wr m1 m2 (3*n) (cntM M n) (oneM M n))) (fun a _=>L-(intOf a).toNat)
 case atStart=>exact⟨0,rfl,Nat.zero_le _,HSS⟩
 case round=>
  obtain⟨n,rfl,hn,HN⟩:=hrel;by_cases hlt:n<L
  ·have hM:=HW.out wr HN.out.bel
   obtain⟨e0,e1,e2,e3,e4,e5,e6,e7,e8⟩:=hM.tris n (by rw[HL.out];exact hlt);have hvs:=HS.out.vs n (by rw[HL.out];exact hlt);have hcn:cntM M (n+1)=bump (tat M.tris n) (cntM M n) 3:=rfl;have hon:oneM M (n+1)=mark (tat M.tris n) n (oneM M n) 3:=rfl;have hcb:=cnt_bound M n;generalize tat M.tris n=T at *;have HVS:=Hd hvs;have HCN:=Hd hcn;have HON:=Hd hon;have HCB:=Hd hcb;have n0:(0:Int)≤(n:Int):=by omega
   have n1:(n:Int)<(L:Int):=by omega
   clear hM hvs hcn hon hcb
   go_upto_region 5 with(fail)
   have hS2:=HN.out.later (bel_alloc (bel_refl wr) (.cells #[.int .i64 T.v0,.int .i64 T.v1,.int .i64 T.v2,.int .i64 T.n0,.int .i64 T.n1,.int .i64 T.n2,.bool T.f0,.bool T.f1,.bool T.f2] 43));have hB2:=(Blk.new wr 43 #[.int .i64 T.v0,.int .i64 T.v1,.int .i64 T.v2,.int .i64 T.n0,.int .i64 T.n1,.int .i64 T.n2,.bool T.f0,.bool T.f1,.bool T.f2]);obtain⟨tb,htb⟩:∃tb,wr.heap.size=tb:=⟨_,rfl⟩;rw[htb]at hB2 ⊢;clear htb e0 e1 e2 e3 e4 e5 e6 e7 e8;generalize (wr.alloc (.cells #[.int .i64 T.v0,.int .i64 T.v1,.int .i64 T.v2,.int .i64 T.n0,.int .i64 T.n1,.int .i64 T.n2,.bool T.f0,.bool T.f1,.bool T.f2] 43))=W2 at *;obtain⟨x0,x1,x2⟩:W2.cell? ⟨tb,0,none⟩=some (.int .i64 T.v0)∧W2.cell? ⟨tb,1,none⟩=some (.int .i64 T.v1)∧W2.cell? ⟨tb,2,none⟩=some (.int .i64 T.v2):=⟨hB2.cell 0 _ rfl,hB2.cell 1 _ rfl,hB2.cell 2 _ rfl⟩;have HS2:=Hd hS2;clear hS2 hB2;go_wp2
   go_loopw [27] (fun a wq=>∃k:Nat,a=.int .i64 k∧k≤3∧Hid (StarS w wq m1 m2 (3*n+k) (bump T (cntM M n) k) (mark T n (oneM M n) k))) (fun a _=>3-(intOf a).toNat)
   case atStart=>exact⟨0,rfl,by omega,HS2⟩
   case round=>
    obtain⟨k,rfl,hk,HK⟩:=hrel;rcases(show k=0∨k=1∨k=2∨k=3 by omega)with rfl|rfl|rfl|rfl
    ·have ix:∀w,(Instr.index 40 (.agg #[.int .i64 T.v0,.int .i64 T.v1,.int .i64 T.v2]) (.int .i64 0)).run Tryz.prog w=.ok (.int .i64 T.v0) w:=fun _=>by kernel_rfl
     have hb1:bump T (cntM M n) 1=if T.v0=-2 then bump T (cntM M n) 0 else fun u=>if u=T.v0 then bump T (cntM M n) 0 u+1 else bump T (cntM M n) 0 u:=rfl
     have hm1:mark T n (oneM M n) 1=if T.v0=-2 then mark T n (oneM M n) 0 else fun u=>if u=T.v0 then (n:Int) else mark T n (oneM M n) 0 u:=rfl
     by_cases hg:T.v0=-2
     ·have q1:(T.v0 != -2)=false:=by simp[hg]
      rw[if_pos hg]at hb1 hm1;have HB1:=Hd hb1;have HM1:=Hd hm1;clear hb1 hm1 hg;go_wp2;go_roundw
      case rel=>exact⟨1,by go_num,by omega,Hd (by rw[HB1.out,HM1.out];exact StarS.mono HK.out (by omega))⟩
      case measure=>simp[intOf]
     ·have q1:(T.v0 != -2)=true:=by simpa using hg
      rw[if_neg hg]at hb1 hm1;have hwv:(Lit.int .i64 T.v0).wf=true:=wf_of (by have:=HVS.out 0 (by omega);simp only[Tri.v]at this;omega);have hbd:=bump_bound T (cntM M n) (3*n) HCB.out 0 T.v0;have hlk:=HK.out.cnt.look hwv;have HB1:=Hd hb1;have HM1:=Hd hm1;clear hb1 hm1 hg;obtain⟨l,hl,hv⟩:=HK.out.one;have HV:=Hd hv;have HLm:=Hd hl;clear hv hl;obtain⟨c,hc⟩:∃c,bump T (cntM M n) 0 T.v0=c:=⟨_,rfl⟩;rw[hc]at hbd hlk;have HC:=Hd hc;have wc:IntKind.i64.wrap (c+1)=c+1:=IntWalk.i64_in _ (by omega);have HWV:=Hd hwv;have hwc:(Lit.int .i64 (c+1)).wf=true:=wf_of (by omega);have HWC:=Hd hwc
      have hfe:(fun u=>if u=T.v0 then c+1 else bump T (cntM M n) 0 u)=bump T (cntM M n) 1:=by
       rw[HB1.out]
       funext u
       by_cases hu:u=T.v0
       ·simp[hu,HC.out]
       ·simp[hu]
      have HFE:=Hd hfe;clear hc hwv hwc hfe
      go_upto_region 10 with(at_mapUpdate;refine wpList_cnt_put rfl _ rfl _ _ _ rfl m1 (3*n+0) rfl HK.out.cnt T.v0 (c+1) rfl rfl HWV.out HWC.out (by omega) (by unfold maxLen;omega) ?_;intro w3 hc3 hg3;have HS3:=Hd (HK.out.put1 hc3 hg3);have HL3:=Hd (HLm.out.grown hg3 (fun e=>HK.out.ne (Option.some.inj e).symm));clear hc3 hg3)
      go_wp2_with (at_mapUpdate;refine wpList_map_put _ rfl _ _ _ 124 rfl Tryz.underlying124 (Mp.int_ok Tryz.underlying3) m2 rfl HL3.out T.v0 (n:Int) rfl rfl ?_;intro w4 hl4 hg4;have HS4:=Hd (HS3.out.put2 HV.out hl4 hg4);clear hl4 hg4)
      go_roundw
      case rel=>
       refine⟨1,by go_num,by omega,Hd ?_⟩;have h4:=HS4.out;rw[HFE.out,←HM1.out]at h4;exact h4
      case measure=>simp[intOf]
    ·have ix:∀w,(Instr.index 40 (.agg #[.int .i64 T.v0,.int .i64 T.v1,.int .i64 T.v2]) (.int .i64 1)).run Tryz.prog w=.ok (.int .i64 T.v1) w:=fun _=>by kernel_rfl
     have hb1:bump T (cntM M n) 2=if T.v1=-2 then bump T (cntM M n) 1 else fun u=>if u=T.v1 then bump T (cntM M n) 1 u+1 else bump T (cntM M n) 1 u:=rfl
     have hm1:mark T n (oneM M n) 2=if T.v1=-2 then mark T n (oneM M n) 1 else fun u=>if u=T.v1 then (n:Int) else mark T n (oneM M n) 1 u:=rfl
     by_cases hg:T.v1=-2
     ·have q1:(T.v1 != -2)=false:=by simp[hg]
      rw[if_pos hg]at hb1 hm1;have HB1:=Hd hb1;have HM1:=Hd hm1;clear hb1 hm1 hg;go_wp2;go_roundw
      case rel=>exact⟨2,by go_num,by omega,Hd (by rw[HB1.out,HM1.out];exact StarS.mono HK.out (by omega))⟩
      case measure=>simp[intOf]
     ·have q1:(T.v1 != -2)=true:=by simpa using hg
      rw[if_neg hg]at hb1 hm1;have hwv:(Lit.int .i64 T.v1).wf=true:=wf_of (by have:=HVS.out 1 (by omega);simp only[Tri.v]at this;omega);have hbd:=bump_bound T (cntM M n) (3*n) HCB.out 1 T.v1;have hlk:=HK.out.cnt.look hwv;have HB1:=Hd hb1;have HM1:=Hd hm1;clear hb1 hm1 hg;obtain⟨l,hl,hv⟩:=HK.out.one;have HV:=Hd hv;have HLm:=Hd hl;clear hv hl;obtain⟨c,hc⟩:∃c,bump T (cntM M n) 1 T.v1=c:=⟨_,rfl⟩;rw[hc]at hbd hlk;have HC:=Hd hc;have wc:IntKind.i64.wrap (c+1)=c+1:=IntWalk.i64_in _ (by omega);have HWV:=Hd hwv;have hwc:(Lit.int .i64 (c+1)).wf=true:=wf_of (by omega);have HWC:=Hd hwc
      have hfe:(fun u=>if u=T.v1 then c+1 else bump T (cntM M n) 1 u)=bump T (cntM M n) 2:=by
       rw[HB1.out]
       funext u
       by_cases hu:u=T.v1
       ·simp[hu,HC.out]
       ·simp[hu]
      have HFE:=Hd hfe;clear hc hwv hwc hfe
      go_upto_region 10 with(at_mapUpdate;refine wpList_cnt_put rfl _ rfl _ _ _ rfl m1 (3*n+1) rfl HK.out.cnt T.v1 (c+1) rfl rfl HWV.out HWC.out (by omega) (by unfold maxLen;omega) ?_;intro w3 hc3 hg3;have HS3:=Hd (HK.out.put1 hc3 hg3);have HL3:=Hd (HLm.out.grown hg3 (fun e=>HK.out.ne (Option.some.inj e).symm));clear hc3 hg3)
      go_wp2_with (at_mapUpdate;refine wpList_map_put _ rfl _ _ _ 124 rfl Tryz.underlying124 (Mp.int_ok Tryz.underlying3) m2 rfl HL3.out T.v1 (n:Int) rfl rfl ?_;intro w4 hl4 hg4;have HS4:=Hd (HS3.out.put2 HV.out hl4 hg4);clear hl4 hg4)
      go_roundw
      case rel=>
       refine⟨2,by go_num,by omega,Hd ?_⟩;have h4:=HS4.out;rw[HFE.out,←HM1.out]at h4;exact h4
      case measure=>simp[intOf]
    ·have ix:∀w,(Instr.index 40 (.agg #[.int .i64 T.v0,.int .i64 T.v1,.int .i64 T.v2]) (.int .i64 2)).run Tryz.prog w=.ok (.int .i64 T.v2) w:=fun _=>by kernel_rfl
     have hb1:bump T (cntM M n) 3=if T.v2=-2 then bump T (cntM M n) 2 else fun u=>if u=T.v2 then bump T (cntM M n) 2 u+1 else bump T (cntM M n) 2 u:=rfl
     have hm1:mark T n (oneM M n) 3=if T.v2=-2 then mark T n (oneM M n) 2 else fun u=>if u=T.v2 then (n:Int) else mark T n (oneM M n) 2 u:=rfl
     by_cases hg:T.v2=-2
     ·have q1:(T.v2 != -2)=false:=by simp[hg]
      rw[if_pos hg]at hb1 hm1;have HB1:=Hd hb1;have HM1:=Hd hm1;clear hb1 hm1 hg;go_wp2;go_roundw
      case rel=>exact⟨3,by go_num,by omega,Hd (by rw[HB1.out,HM1.out];exact StarS.mono HK.out (by omega))⟩
      case measure=>simp[intOf]
     ·have q1:(T.v2 != -2)=true:=by simpa using hg
      rw[if_neg hg]at hb1 hm1;have hwv:(Lit.int .i64 T.v2).wf=true:=wf_of (by have:=HVS.out 2 (by omega);simp only[Tri.v]at this;omega);have hbd:=bump_bound T (cntM M n) (3*n) HCB.out 2 T.v2;have hlk:=HK.out.cnt.look hwv;have HB1:=Hd hb1;have HM1:=Hd hm1;clear hb1 hm1 hg;obtain⟨l,hl,hv⟩:=HK.out.one;have HV:=Hd hv;have HLm:=Hd hl;clear hv hl;obtain⟨c,hc⟩:∃c,bump T (cntM M n) 2 T.v2=c:=⟨_,rfl⟩;rw[hc]at hbd hlk;have HC:=Hd hc;have wc:IntKind.i64.wrap (c+1)=c+1:=IntWalk.i64_in _ (by omega);have HWV:=Hd hwv;have hwc:(Lit.int .i64 (c+1)).wf=true:=wf_of (by omega);have HWC:=Hd hwc
      have hfe:(fun u=>if u=T.v2 then c+1 else bump T (cntM M n) 2 u)=bump T (cntM M n) 3:=by
       rw[HB1.out]
       funext u
       by_cases hu:u=T.v2
       ·simp[hu,HC.out]
       ·simp[hu]
      have HFE:=Hd hfe;clear hc hwv hwc hfe
      go_upto_region 10 with(at_mapUpdate;refine wpList_cnt_put rfl _ rfl _ _ _ rfl m1 (3*n+2) rfl HK.out.cnt T.v2 (c+1) rfl rfl HWV.out HWC.out (by omega) (by unfold maxLen;omega) ?_;intro w3 hc3 hg3;have HS3:=Hd (HK.out.put1 hc3 hg3);have HL3:=Hd (HLm.out.grown hg3 (fun e=>HK.out.ne (Option.some.inj e).symm));clear hc3 hg3)
      go_wp2_with (at_mapUpdate;refine wpList_map_put _ rfl _ _ _ 124 rfl Tryz.underlying124 (Mp.int_ok Tryz.underlying3) m2 rfl HL3.out T.v2 (n:Int) rfl rfl ?_;intro w4 hl4 hg4;have HS4:=Hd (HS3.out.put2 HV.out hl4 hg4);clear hl4 hg4)
      go_roundw
      case rel=>
       refine⟨3,by go_num,by omega,Hd ?_⟩;have h4:=HS4.out;rw[HFE.out,←HM1.out]at h4;exact h4
      case measure=>simp[intOf]
    ·have hend:=HK.out
     rw[←HCN.out,←HON.out]at hend;have HEND:=Hd hend;clear hend;go_wp2;go_roundw
     case rel=>exact⟨n+1,by go_num,by omega,Hd (StarS.mono HEND.out (by omega))⟩
     case measure=>simp[intOf];omega
  ·have hnn:n=L:=by omega
   subst hnn;obtain⟨nn,D,hown,hle,hD⟩:=HN.out.cnt;obtain⟨l,hl,hv⟩:=HN.out.one;have HD:=Hd hD;have HV:=Hd hv;have HLm:=Hd hl;have HBe:=Hd HN.out.bel;have HNE:=Hd HN.out.ne;have HB1:=Hd HN.out.b1;clear hD hl hv HN
   go_wp2_with (first| (at_range;refine wpList_range_own _ rfl _ 124 rfl 3 3 (int_keyed Tryz.underlying3) Tryz.underlying124 _ m1 nn D rfl hown ?_;intro w0 hrg0 hg0 hs0))
   go_frame
   have HBe0:=Hd (bel_step HBe.out ⟨hg0.os,hg0.tape,hg0.output,hg0.size,fun k hk=>hg0.block k hk (by simp)⟩);have HLm0:=Hd (HLm.out.grown hg0 (by simp));obtain⟨ri,hri⟩:∃r,wr.heap.size=r:=⟨_,rfl⟩;rw[hri]at hrg0 ⊢;have hrB:w.heap.size≤ri:=by rw[←hri];exact HBe.out.size
   have hrm:m2≠ri:=by have:=HLm.out.lt;omega
   have HRG:=Hd hrg0;have HRM:=Hd hrm;clear hrg0 hg0 hs0 hri hown hrm HBe HLm
   go_loopw [9] (fun _ wq=>∃(left:Lit→Bool) (cnt:Nat),Hid (wq.ranges Tryz.prog 3 (plainElem Tryz.prog 3) m1 ri nn D left cnt)∧Hid (MapAt (Value.int .i64) (Value.int .i64) wq m2 l)∧Hid (Below w.heap.size w wq)) (fun _ wq=>wq.rangeLeft m1 ri)
   case atStart=>exact⟨_,_,HRG,HLm0,HBe0⟩
   case round=>
    obtain⟨left,cnt,HR,HLq,HBq⟩:=hrel
    go_wp2_with (first| (at_next;refine wpList_next_ranges_ii _ rfl _ rfl 3 3 .i64 .i64 (int_keyed Tryz.underlying3) Tryz.underlying3 Tryz.underlying3 m1 ri nn D left cnt rfl HR.out ?_ ?_))
    ·intro _ _
     have hct:CntAt wr m1 nn (cntM M n):=⟨nn,D,HR.out.owns,Nat.le_refl _,HD.out⟩;have hM:=HW.out wr HBq.out;have hh:=hM.head.cell 3 (.slice (some ⟨ga,0,none⟩) M.at_.length ca) rfl;obtain⟨A,hA⟩:∃A,M.at_.length=A:=⟨_,rfl⟩;rw[hA]at hh A9;have HA:=Hd hA;have HCT:=Hd hct;clear hM HR hct hA;go_wp2
     go_loopw [61] (fun a wz=>∃i:Nat,a=.int .i64 i∧i≤A∧Hid (CntAt wz m1 nn (cntM M n))∧Hid (Below w.heap.size w wz)) (fun a _=>A-(intOf a).toNat)
     case atStart=>exact⟨0,rfl,Nat.zero_le _,HCT,HBq⟩
     case round=>
      obtain⟨i,rfl,hi,HCi,HBi⟩:=hrel;by_cases hlt3:i<A
      ·have hM:=HW.out wr HBi.out
       have hh1:=hM.head.cell 1 (.slice (some ⟨gt,0,none⟩) M.tris.length ct) rfl;rw[HL.out]at hh1;have hai:=hM.at_ i (by rw[HA.out];exact hlt3);obtain⟨s1,s2,s3⟩:=HS.out.at_ i (by rw[HA.out];exact hlt3);rw[HL.out]at s1 s2;have hwi:(Lit.int .i64 (i:Int)).wf=true:=wf_of (by omega);have hlk:=HCi.out.look hwi;have i0:(0:Int)≤(i:Int):=by omega
       have i1:(i:Int)<(A:Int):=by omega
       obtain⟨t,ht⟩:∃t,iat M.at_ i=t:=⟨_,rfl⟩;obtain⟨c,hc⟩:∃c,cntM M n i=c:=⟨_,rfl⟩;rw[ht]at hai s1 s2 s3;rw[hc]at hlk s1;have HWI:=Hd hwi;have HMi:=Hd hM;clear ht hc hwi hM;by_cases hneg:t<0
       ·have q1:(c==0)=true:=by simpa using s1.1 hneg
        have g1:¬(n:Int)≤t:=by omega
        have g2:¬(0:Int)≤t:=by omega
        clear s1 s2 s3;go_wp2;go_roundw
        case rel=>exact⟨i+1,by go_num,by omega,HCi,HBi⟩
        case measure=>simp[intOf];omega
       ·have q1:(c==0)=false:=by
         have:=s1.2;simp only[beq_eq_false_iff_ne,ne_eq];intro h0;exact hneg (this h0)
        have g1:¬(n:Int)≤t:=by omega
        have g2:(0:Int)≤t:=by omega
        have g3:=s3 g2;obtain⟨tn,htn⟩:∃tn:Nat,t=tn:=⟨t.toNat,by omega⟩;subst htn;rw[Int.toNat_natCast]at g3;obtain⟨e0,e1,e2,e3,e4,e5,e6,e7,e8⟩:=HMi.out.tris tn (by rw[HL.out];omega);generalize tat M.tris tn=T at *;have hpl:=Mr.place_any T (i:Int) wr;obtain⟨pl,hpe⟩:∃pl,Mr.place T (i:Int)=pl:=⟨_,rfl⟩;rw[hpe]at hpl g3;have g4:¬pl<0:=by omega
        have HPL:=Hd hpl;clear s1 s2 s3 hpl hpe g3
        go_wp2_with (go_at_call 42;refine HPL.out.mono ?_;rintro e w5 ⟨rfl,hb5⟩;have HC5:=Hd (HCi.out.later hb5);have HB5:=Hd (bel_step HBi.out hb5);clear hb5)
        go_roundw
        case rel=>exact⟨i+1,by go_num,by omega,HC5,HB5⟩
        case measure=>simp[intOf];omega
      ·have hg:(Lit.int .i64 (-1)).wf=true:=wf_of (by omega)
       have hlk:=HCi.out.look hg;have h0:=HS.out.ghost;rw[HL.out]at h0;obtain⟨c,hc⟩:∃c,cntM M n (-1)=c:=⟨_,rfl⟩;rw[hc]at hlk h0;have HC2:=Hd hc;clear hc hg;have hiA:A=i:=by omega
       subst hiA;go_wp2
       go_ret
       exact⟨rfl,HBi.out⟩
    ·intro x c w2 cnt2 hwx _ _ hat hrg1 hlt2 hg1 hs1 hen
     have hb2:Below w.heap.size w w2:=bel_grown HBq.out hg1 hrB;have hl2:=HLq.out.grown hg1 (fun e=>HRM.out (Option.some.inj e))
     have hcx:cntM M n x≠0∧c=cntM M n x:=by
      have h1:=HD.out x (.lit (.int .i64 (c+1)));rw[hat]at h1
      split at h1
      ·simp only[DataW.lit.injEq,Lit.int.injEq,true_and]at h1
       omega
      ·rename_i h0
       simp only[DataW.lit.injEq,Lit.int.injEq,true_and]at h1;exact⟨h0,h1⟩
     obtain⟨ts,kk,hro,hone,hcnt⟩:=HS.out.round x (by rw[HL.out];exact hcx.1);rw[HL.out]at hone hcnt;have hlk:=hl2.look (z:=(0:Int)) Tryz.underlying124 (Mp.int_ok Tryz.underlying3) (zero3 w2) x;rw[HV.out x,hone]at hlk;have hrd:=Rd.round_any M b x ts kk w2 ⟨_,_,_,_,_,_,_,HW.out w2 hb2⟩ HO.out hro;obtain rfl:c=(kk:Int):=hcx.2.trans hcnt;have HRD:=Hd hrd;have HRG1:=Hd hrg1;have HL2:=Hd hl2;have HB2:=Hd hb2;have hlf:=HR.out.left_eq;have HLF:=Hd hlf;clear hro hone hcnt hcx hat hrg1 hg1 hs1 hrd hl2 hb2 hlf hwx
     go_wp2_with (go_at_call 92;refine HRD.out.mono ?_;rintro e w3 ⟨rfl,hb3⟩;have HR3:=Hd (HRG1.out.kept (grown_later hb3) (by simp) (by simp));have HL3:=Hd (HL2.out.later hb3);have HB3:=Hd (bel_step HB2.out hb3);clear hb3)
     go_roundw
     case rel=>exact⟨_,_,HR3,HL3,HB3⟩
     case measure=>
      rw[HR3.out.left_eq,HLF.out];omega
end St
end Go.Proofs.YtdihefgleefhmaaGreat
