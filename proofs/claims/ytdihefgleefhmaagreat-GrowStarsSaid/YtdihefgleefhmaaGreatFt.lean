import Derived.Test.YtdihefgleefhmaaGreatBd
import Derived.Test.YtdihefgleefhmaaGreatSd
import Derived.Test.YtdihefgleefhmaaGreatAw
namespace Go.Proofs.YtdihefgleefhmaaGreat
open Go.RowKit
namespace Ft
def sq:List Pt:=[⟨0,0⟩,⟨2,0⟩,⟨0,2⟩,⟨2,2⟩]
def t3(a b c x y z:Int):Tri:=⟨a,b,c,x,y,z,false,false,false⟩
def M0:Mesh:=⟨sq,[t3 0 1 2 1 2 3,t3 2 1 (-1) 3 2 0,t3 0 2 (-1) 1 3 0,t3 1 0 (-1) 2 1 0],[],[3,3,2,-1]⟩
def M1:Mesh:=⟨sq,[t3 0 1 2 4 2 3,t3 (-1) 2 3 4 5 2,t3 0 2 (-1) 1 3 0,t3 1 0 (-1) 2 5 0,t3 2 1 3 5 1 0,t3 1 (-1) 3 1 4 3],[],[3,5,4,5]⟩
def q:Place:=⟨3,1,0,0⟩
theorem m0_new:newMesh sq 0 1 2=M0:=by decide
theorem find_at:findGo M0 ⟨2,2⟩ (M0.tris.length+1) 0 0=some (q,1):=by decide
theorem m1_ins:insertIn M0 3 q (fun _=>false)=M1:=by decide
theorem dig_at:dig M0 (pat M0.pts 3) q=⟨[1],[⟨-1,2,2,0,false⟩,⟨2,1,0,0,false⟩,⟨1,-1,3,1,false⟩],false⟩:=by decide
theorem near_all:nearAll sq:=by
 intro i;unfold pat sq;rcases i with _|_|_|_|i
 all_goals simp[Pt.near,Pt.zero]
theorem pat_sq(M:Mesh)(h:M.pts=sq)(n:Nat):0≤(pat M.pts n).x∧(pat M.pts n).x≤2∧0≤(pat M.pts n).y∧(pat M.pts n).y≤2:=by
 rw[h];unfold pat sq;rcases n with _|_|_|_|n
 all_goals simp[Pt.zero]
theorem circ_at(M:Mesh)(h:M.pts=sq)(p:Pt)(hp:0≤p.x∧p.x≤2∧0≤p.y∧p.y≤2):M.circ p:=by
 intro t _ w;have k:=fun n=>pat_sq M h n
 have nr:∀r:Pt,(0≤r.x∧r.x≤2∧0≤r.y∧r.y≤2)→r.near:=fun r hr=>by unfold Pt.near;omega
 have qk:∀r:Pt,(0≤r.x∧r.x≤2∧0≤r.y∧r.y≤2)→Ci.quickOk r p:=fun r hr=>by unfold Ci.quickOk Qk.small;omega
 exact Ci.circle_quick _ _ _ p w (nr _ (k _)) (nr _ (k _)) (nr _ (k _)) (nr _ hp) (qk _ (k _)) (qk _ (k _)) (qk _ (k _))
theorem ok0:M0.ok:=⟨near_all,by decide,by decide,by decide⟩
theorem ok1:M1.ok:=⟨near_all,by decide,by decide,by decide⟩
theorem wf_of_list(M:Mesh)(h:∀T∈M.tris,T.v0<M.pts.length∧T.v1<M.pts.length∧T.v2<M.pts.length):M.wf:=by
 intro i hi j;have ht:tat M.tris i∈M.tris:=List.mem_of_getElem? (tat_get hi);obtain⟨h0,h1,h2⟩:=h _ ht;rcases j with _|_|j
 ·exact h0
 ·exact h1
 ·exact h2
theorem wf0:M0.wf:=wf_of_list _ (by decide)
theorem sane_of(M:Mesh)(h:∀t,t<M.tris.length→(∀j,j<3→(0≤(tat M.tris t).n j∧(tat M.tris t).n j<M.tris.length)∧(tat M.tris t).v j≠-2∧((tat M.tris t).v j≠-1→0≤(tat M.tris t).v j∧(tat M.tris t).v j<M.pts.length))∧((tat M.tris t).v0=-1→(tat M.tris t).v1≠-1∧(tat M.tris t).v2≠-1)∧((tat M.tris t).v1=-1→(tat M.tris t).v2≠-1)):M.sane where
 nb t ht j hj:=by
  obtain⟨h1,h2⟩:=((h t ht.1).1 j hj).1;refine⟨((tat M.tris t).n j).toNat,by omega,by omega,?_⟩;exact((h _ (by omega)).1 0 (by omega)).2.1
 vs t ht j hj:=((h t ht.1).1 j hj).2.2
 g0 t ht:=(h t ht.1).2.1
 g1 t ht:=(h t ht.1).2.2
theorem sane0:M0.sane:=sane_of _ (by decide)
instance (A:Mesh) (s:Side) (v:Nat):Decidable (StepOk A s v):=by unfold StepOk;infer_instance
instance (A:Mesh) (x y:Nat):Decidable (LinkOk A x y):=by unfold LinkOk;infer_instance
theorem fill:FillOk M0 3 (dig M0 (pat M0.pts 3) q) fun _=>false:=by
 rw[dig_at];exact⟨by decide,by decide,by decide,by decide,by decide,by decide⟩
theorem ins_good:InsGood M0 3 3 M1:=by
 intro F0 B b w hM hF hB;rw[←m1_ins];exact Is.insert_any 0 0 F0 B b 3 M0 3 0 1 q w hM hF hB ok0 wf0 (by decide) (by decide) (by decide) (by decide) find_at (fun u _=>Pd.parted_off b q u (by decide)) (fun u hu=>Dg.dig_off M0 b _ q u hu ok0 (ok0.near 3) sane0 (circ_at M0 rfl _ (by decide)) 1 (by decide) rfl ⟨by decide,by decide⟩) (by decide) fill
theorem beside_of(M:Mesh)(n:Nat)(h:∀i,i<3→(0≤(tat M.tris n).n i∧(tat M.tris n).n i<M.tris.length)∧((tat M.tris n).f i=true→0≤(tat M.tris n).v ((i+1)%3)∧0≤(tat M.tris n).v ((i+2)%3))∧
 foundN (tat M.tris ((tat M.tris n).n i).toNat) ((tat M.tris n).v ((i+1)%3)) ((tat M.tris n).v ((i+2)%3)) n ((tat M.tris n).f i) 3=true):besideOk M n:=fun i hi=>by
 obtain⟨h1,h2,h3⟩:=h i hi;exact⟨((tat M.tris n).n i).toNat,by omega,by omega,h2,h3⟩
theorem bump_in(T:Tri)(f:Int→Int)(u:Int):∀k,bump T f k u≠f u→∃j,j<k∧T.v j=u∧u≠-2
 | 0,h=>absurd rfl h
 | k+1,h=>by
  unfold bump at h
  split at h
  ·obtain⟨j,h1,h2⟩:=bump_in T f u k h
   exact⟨j,by omega,h2⟩
  ·rename_i hg
   simp only at h
   split at h
   ·rename_i hu
    exact⟨k,by omega,hu.symm,by rw[hu];exact hg⟩
   ·obtain⟨j,h1,h2⟩:=bump_in T f u k h
    exact⟨j,by omega,h2⟩
theorem cnt_in(M:Mesh)(u:Int):∀n,cntM M n u≠0→∃t,t<n∧∃j,j<3∧(tat M.tris t).v j=u∧u≠-2
 | 0,h=>absurd rfl h
 | n+1,h=>by
  by_cases hb:bump (tat M.tris n) (cntM M n) 3 u=cntM M n u
  ·have h':cntM M n u≠0:=fun e=>h (by unfold cntM;rw[hb,e])
   obtain⟨t,h1,h2⟩:=cnt_in M u n h';exact⟨t,by omega,h2⟩
  ·obtain⟨j,h1,h2⟩:=bump_in _ _ _ _ hb
   exact⟨n,by omega,j,h1,h2⟩
def at_(l:List Nat)(i:Nat):Nat:=l.getD i 0
theorem apart_of{ts:Nat→Nat}{k:Nat}(h:∀i,i<k→0<i→ts i≠ts 0):∀i,0<i→i<k→ts i≠ts 0:=fun i a b=>h i b a
theorem stars1:StarsOk M1 where
 vs:=by decide
 round v hv:=by
  obtain⟨t,ht,j,hj,hvj,hg⟩:=cnt_in M1 v _ hv;have hin:∀t,t<6→∀j,j<3→(tat M1.tris t).v j=-1∨(tat M1.tris t).v j=0∨(tat M1.tris t).v j=1∨(tat M1.tris t).v j=2∨(tat M1.tris t).v j=3:=by decide
  have:=hin t ht j hj;rw[hvj]at this;rcases this with rfl|rfl|rfl|rfl|rfl
  ·exact⟨at_ [5,3,2,1,5],4,⟨by decide,by decide,by decide,by decide,by decide,by decide,apart_of (by decide)⟩,by decide,by decide⟩
  ·exact⟨at_ [3,0,2,3],3,⟨by decide,by decide,by decide,by decide,by decide,by decide,apart_of (by decide)⟩,by decide,by decide⟩
  ·exact⟨at_ [5,4,0,3,5],4,⟨by decide,by decide,by decide,by decide,by decide,by decide,apart_of (by decide)⟩,by decide,by decide⟩
  ·exact⟨at_ [4,1,2,0,4],4,⟨by decide,by decide,by decide,by decide,by decide,by decide,apart_of (by decide)⟩,by decide,by decide⟩
  ·exact⟨at_ [5,1,4,5],3,⟨by decide,by decide,by decide,by decide,by decide,by decide,apart_of (by decide)⟩,by decide,by decide⟩
 at_:=by decide
 ghost:=by decide
theorem sound1:SoundOk M1 where
 made:=by decide
 beside t ht _:=by
  refine beside_of M1 t ?_;rcases(show t=0∨t=1∨t=2∨t=3∨t=4∨t=5 by have:M1.tris.length=6:=rfl;omega)with rfl|rfl|rfl|rfl|rfl|rfl<;>decide
 stars:=stars1
 ways:=by decide
theorem hull1:hull M1=[0,1,3,2]:=by decide
theorem base1:baseOf sq=some (1,2):=by decide
def Ms(v:Nat):Mesh:=if v≤3 then M0 else M1
def La(v:Nat):Nat:=if v≤3 then 0 else 3
theorem grown:Grown sq 1 2 Ms La where
 m0:=m0_new.symm
 l0:=rfl
 same v hv h:=by
  have:v=0∨v=1∨v=2:=by omega
  rcases this with rfl|rfl|rfl<;>exact⟨rfl,rfl⟩
 step v hv h:=by
  have:v=3:=by have:sq.length=4:=rfl;omega
  subst this;exact⟨ins_good,rfl⟩
 read v hv:=by
  have:v=0∨v=1∨v=2∨v=3:=by have:sq.length=4:=rfl;omega
  rcases this with rfl|rfl|rfl|rfl<;>decide
theorem build1(g c:Nat)(w:World)(hP:PtsAt w g sq) :
 Calls Tryz.prog 19 #[.slice (some ⟨g,0,none⟩) 4 c] w fun e w'=>∃mb:Nat,e=.returned (.tuple #[.pointer (some ⟨mb,0,none⟩),.bool true])∧MeshAt w.heap.size w' mb M1∧Below w.heap.size w w':=
 Bd.build_some g c sq w hP near_all 1 2 base1 (by decide) (by decide) (by decide) (by decide) (by decide) Ms La grown
end Ft
end Go.Proofs.YtdihefgleefhmaaGreat
namespace Go.Proofs.YtdihefgleefhmaaGreat
open Go.RowKit
namespace Ff
open Ft
def cr(i:Nat):Nat:=[0,1,1,1,1,2,2].getD i 0
set_option maxHeartbeats 2000000 in
set_option maxRecDepth 100000 in
theorem fit_any(ha:areaOk M1)(w:World):Calls Tryz.prog 6 #[] w fun e w'=>e=.returned (.bool true)∧Below w.heap.size w w':=by
 have hb:=Blk.new w 24 #[.int .i64 0,.int .i64 0,.int .i64 2,.int .i64 0,.int .i64 0,.int .i64 2,.int .i64 2,.int .i64 2];have hbl:=bel_alloc (bel_refl w) (.cells #[.int .i64 0,.int .i64 0,.int .i64 2,.int .i64 0,.int .i64 0,.int .i64 2,.int .i64 2,.int .i64 2] 24)
 have hP:PtsAt (w.alloc (.cells #[.int .i64 0,.int .i64 0,.int .i64 2,.int .i64 0,.int .i64 0,.int .i64 2,.int .i64 2,.int .i64 2] 24)) w.heap.size sq:=by
  refine⟨by decide,fun i hi=>?_⟩;have:i=0∨i=1∨i=2∨i=3:=by have:sq.length=4:=rfl;omega
  rcases this with rfl|rfl|rfl|rfl
  ·exact⟨hb.cell 0 _ rfl,hb.cell 1 _ rfl⟩
  ·exact⟨hb.cell 2 _ rfl,hb.cell 3 _ rfl⟩
  ·exact⟨hb.cell 4 _ rfl,hb.cell 5 _ rfl⟩
  ·exact⟨hb.cell 6 _ rfl,hb.cell 7 _ rfl⟩
 have hbd:=build1 w.heap.size 4 _ hP;have HBD:=Hd hbd;have HBL:=Hd hbl;have HAR:=Hd ha;clear hb hP hbd hbl ha
 go_enter Tryz.func6,Tryz.ntmps6
 go_upto_region 2 with(go_at_call 19;refine HBD.out.mono ?_;rintro e w3 ⟨mb,rfl,hm3,hb3⟩;have HM3:=Hd hm3;have HB3:=Hd (bel_step HBL.out hb3);clear hm3 hb3)
 have hR:=HM3.out.read (by decide) (by decide) (by decide);have hsd:=Sd.sound_any M1 mb w3 hR ok1 sound1 HAR.out;have HSD:=Hd hsd;obtain⟨gp,cp,gt,ct,ga,ca,fV,hM⟩:=hR;have HM:=Hd hM;clear hsd hM
 go_upto_region 4 with(go_at_call 27;refine HSD.out.mono ?_;rintro e w4 ⟨rfl,hb4⟩;have HB4:=Hd (bel_step HB3.out hb4);have HM4:=Hd (HM.out.later hb4);clear hb4)
 have hh:=HM4.out.head.cell 1 (.slice (some ⟨gt,0,none⟩) 6 ct) rfl;go_wp2
 go_loopw [3,31] (fun z q wr=>∃i:Nat,q=.int .i64 i∧z=.int .i64 (cr i:Nat)∧i≤6∧Hid (Below w.heap.size w wr)∧Hid (MR wr mb M1 gp cp gt ct ga ca fV)) (fun _ q _=>6-(intOf q).toNat)
 case atStart=>exact⟨0,rfl,rfl,by omega,HB4,HM4⟩
 case round=>
  obtain⟨i,rfl,rfl,hi,HB,HMr⟩:=hrel;rcases(show i=0∨i=1∨i=2∨i=3∨i=4∨i=5∨i=6 by omega)with rfl|rfl|rfl|rfl|rfl|rfl|rfl
  ·obtain⟨e0,e1,e2,e3,e4,e5,e6,e7,e8⟩:wr.cell? ⟨gt,0,none⟩=some (.int .i64 (0))∧wr.cell? ⟨gt,1,none⟩=some (.int .i64 (1))∧wr.cell? ⟨gt,2,none⟩=some (.int .i64 (2))∧wr.cell? ⟨gt,3,none⟩=some (.int .i64 (4))∧wr.cell? ⟨gt,4,none⟩=some (.int .i64 (2))∧wr.cell? ⟨gt,5,none⟩=some (.int .i64 (3))∧wr.cell? ⟨gt,6,none⟩=some (.bool false)∧wr.cell? ⟨gt,7,none⟩=some (.bool false)∧wr.cell? ⟨gt,8,none⟩=some (.bool false):=HMr.out.tris 0 (by decide)
   have hbn:=bel_alloc (bel_refl wr) (.cells #[.int .i64 (0),.int .i64 (1),.int .i64 (2),.int .i64 (4),.int .i64 (2),.int .i64 (3),.bool false,.bool false,.bool false] 43);have HB2:=Hd (bel_step HB.out hbn);have HM2:=Hd (HMr.out.later hbn);have ww:IntKind.i64.wrap 1=1:=by decide
   have ww2:IntKind.i64.wrap 2=2:=by decide
   clear hbn;rw[show cr 0=0 from rfl];go_wp2;go_roundw
   case rel=>exact⟨1,by go_num,rfl,by omega,HB2,HM2⟩
   case measure=>simp[intOf]
  ·obtain⟨e0,e1,e2,e3,e4,e5,e6,e7,e8⟩:wr.cell? ⟨gt,9,none⟩=some (.int .i64 (-1))∧wr.cell? ⟨gt,10,none⟩=some (.int .i64 (2))∧wr.cell? ⟨gt,11,none⟩=some (.int .i64 (3))∧wr.cell? ⟨gt,12,none⟩=some (.int .i64 (4))∧wr.cell? ⟨gt,13,none⟩=some (.int .i64 (5))∧wr.cell? ⟨gt,14,none⟩=some (.int .i64 (2))∧wr.cell? ⟨gt,15,none⟩=some (.bool false)∧wr.cell? ⟨gt,16,none⟩=some (.bool false)∧wr.cell? ⟨gt,17,none⟩=some (.bool false):=HMr.out.tris 1 (by decide)
   have hbn:=bel_alloc (bel_refl wr) (.cells #[.int .i64 (-1),.int .i64 (2),.int .i64 (3),.int .i64 (4),.int .i64 (5),.int .i64 (2),.bool false,.bool false,.bool false] 43);have HB2:=Hd (bel_step HB.out hbn);have HM2:=Hd (HMr.out.later hbn);have ww:IntKind.i64.wrap 1=1:=by decide
   have ww2:IntKind.i64.wrap 2=2:=by decide
   clear hbn;rw[show cr 1=1 from rfl];go_wp2;go_roundw
   case rel=>exact⟨2,by go_num,rfl,by omega,HB2,HM2⟩
   case measure=>simp[intOf]
  ·obtain⟨e0,e1,e2,e3,e4,e5,e6,e7,e8⟩:wr.cell? ⟨gt,18,none⟩=some (.int .i64 (0))∧wr.cell? ⟨gt,19,none⟩=some (.int .i64 (2))∧wr.cell? ⟨gt,20,none⟩=some (.int .i64 (-1))∧wr.cell? ⟨gt,21,none⟩=some (.int .i64 (1))∧wr.cell? ⟨gt,22,none⟩=some (.int .i64 (3))∧wr.cell? ⟨gt,23,none⟩=some (.int .i64 (0))∧wr.cell? ⟨gt,24,none⟩=some (.bool false)∧wr.cell? ⟨gt,25,none⟩=some (.bool false)∧wr.cell? ⟨gt,26,none⟩=some (.bool false):=HMr.out.tris 2 (by decide)
   have hbn:=bel_alloc (bel_refl wr) (.cells #[.int .i64 (0),.int .i64 (2),.int .i64 (-1),.int .i64 (1),.int .i64 (3),.int .i64 (0),.bool false,.bool false,.bool false] 43);have HB2:=Hd (bel_step HB.out hbn);have HM2:=Hd (HMr.out.later hbn);have ww:IntKind.i64.wrap 1=1:=by decide
   have ww2:IntKind.i64.wrap 2=2:=by decide
   clear hbn;rw[show cr 2=1 from rfl];go_wp2;go_roundw
   case rel=>exact⟨3,by go_num,rfl,by omega,HB2,HM2⟩
   case measure=>simp[intOf]
  ·obtain⟨e0,e1,e2,e3,e4,e5,e6,e7,e8⟩:wr.cell? ⟨gt,27,none⟩=some (.int .i64 (1))∧wr.cell? ⟨gt,28,none⟩=some (.int .i64 (0))∧wr.cell? ⟨gt,29,none⟩=some (.int .i64 (-1))∧wr.cell? ⟨gt,30,none⟩=some (.int .i64 (2))∧wr.cell? ⟨gt,31,none⟩=some (.int .i64 (5))∧wr.cell? ⟨gt,32,none⟩=some (.int .i64 (0))∧wr.cell? ⟨gt,33,none⟩=some (.bool false)∧wr.cell? ⟨gt,34,none⟩=some (.bool false)∧wr.cell? ⟨gt,35,none⟩=some (.bool false):=HMr.out.tris 3 (by decide)
   have hbn:=bel_alloc (bel_refl wr) (.cells #[.int .i64 (1),.int .i64 (0),.int .i64 (-1),.int .i64 (2),.int .i64 (5),.int .i64 (0),.bool false,.bool false,.bool false] 43);have HB2:=Hd (bel_step HB.out hbn);have HM2:=Hd (HMr.out.later hbn);have ww:IntKind.i64.wrap 1=1:=by decide
   have ww2:IntKind.i64.wrap 2=2:=by decide
   clear hbn;rw[show cr 3=1 from rfl];go_wp2;go_roundw
   case rel=>exact⟨4,by go_num,rfl,by omega,HB2,HM2⟩
   case measure=>simp[intOf]
  ·obtain⟨e0,e1,e2,e3,e4,e5,e6,e7,e8⟩:wr.cell? ⟨gt,36,none⟩=some (.int .i64 (2))∧wr.cell? ⟨gt,37,none⟩=some (.int .i64 (1))∧wr.cell? ⟨gt,38,none⟩=some (.int .i64 (3))∧wr.cell? ⟨gt,39,none⟩=some (.int .i64 (5))∧wr.cell? ⟨gt,40,none⟩=some (.int .i64 (1))∧wr.cell? ⟨gt,41,none⟩=some (.int .i64 (0))∧wr.cell? ⟨gt,42,none⟩=some (.bool false)∧wr.cell? ⟨gt,43,none⟩=some (.bool false)∧wr.cell? ⟨gt,44,none⟩=some (.bool false):=HMr.out.tris 4 (by decide)
   have hbn:=bel_alloc (bel_refl wr) (.cells #[.int .i64 (2),.int .i64 (1),.int .i64 (3),.int .i64 (5),.int .i64 (1),.int .i64 (0),.bool false,.bool false,.bool false] 43);have HB2:=Hd (bel_step HB.out hbn);have HM2:=Hd (HMr.out.later hbn);have ww:IntKind.i64.wrap 1=1:=by decide
   have ww2:IntKind.i64.wrap 2=2:=by decide
   clear hbn;rw[show cr 4=1 from rfl];go_wp2;go_roundw
   case rel=>exact⟨5,by go_num,rfl,by omega,HB2,HM2⟩
   case measure=>simp[intOf]
  ·obtain⟨e0,e1,e2,e3,e4,e5,e6,e7,e8⟩:wr.cell? ⟨gt,45,none⟩=some (.int .i64 (1))∧wr.cell? ⟨gt,46,none⟩=some (.int .i64 (-1))∧wr.cell? ⟨gt,47,none⟩=some (.int .i64 (3))∧wr.cell? ⟨gt,48,none⟩=some (.int .i64 (1))∧wr.cell? ⟨gt,49,none⟩=some (.int .i64 (4))∧wr.cell? ⟨gt,50,none⟩=some (.int .i64 (3))∧wr.cell? ⟨gt,51,none⟩=some (.bool false)∧wr.cell? ⟨gt,52,none⟩=some (.bool false)∧wr.cell? ⟨gt,53,none⟩=some (.bool false):=HMr.out.tris 5 (by decide)
   have hbn:=bel_alloc (bel_refl wr) (.cells #[.int .i64 (1),.int .i64 (-1),.int .i64 (3),.int .i64 (1),.int .i64 (4),.int .i64 (3),.bool false,.bool false,.bool false] 43);have HB2:=Hd (bel_step HB.out hbn);have HM2:=Hd (HMr.out.later hbn);have ww:IntKind.i64.wrap 1=1:=by decide
   have ww2:IntKind.i64.wrap 2=2:=by decide
   clear hbn;rw[show cr 5=2 from rfl];go_wp2;go_roundw
   case rel=>exact⟨6,by go_num,rfl,by omega,HB2,HM2⟩
   case measure=>simp[intOf]
  ·rw[show cr 6=2 from rfl]
   have h0:=HMr.out.head.cell 0 (.slice (some ⟨gp,0,none⟩) 4 cp) rfl;have hhu:=Hu.hull_any M1 mb wr ⟨_,_,_,_,_,_,_,HMr.out⟩ ok1 (by decide) (by decide);rw[hull1]at hhu;have HHU:=Hd hhu;clear hhu
   go_wp2_with (go_at_call 29;refine HHU.out.mono ?_;rintro e w6 ⟨v,rfl,hown,hb6⟩;obtain⟨A6,c6,rfl⟩:=own_slice hown;have HB6:=Hd (bel_step HB.out hb6);clear hown hb6)
   go_ret
   exact⟨rfl,HB6.out⟩
end Ff
end Go.Proofs.YtdihefgleefhmaaGreat
namespace Go.Proofs.YtdihefgleefhmaaGreat
namespace Fa
open Ft
theorem real_lt(M:Mesh)(t:Nat)(h:Mr.realB M t=true):t<M.tris.length:=by
 unfold Mr.realB at h;simp only[Bool.and_eq_true,decide_eq_true_eq]at h;omega
theorem ok:AreaOk M1 where
 pos t ht:=by
  have hl:=real_lt M1 t ht;revert ht;rcases(show t=0∨t=1∨t=2∨t=3∨t=4∨t=5 by have:M1.tris.length=6:=rfl;omega)with rfl|rfl|rfl|rfl|rfl|rfl<;>decide
 some:=by decide
 few:=by decide
 inn:=by decide
 turn i j hi hj:=by
  have h:∀i,i<(hull M1).length→∀j,j<(hull M1).length→0≤ori (pat M1.pts (hullN M1 i)) (pat M1.pts (hullN M1 ((i+1)%(hull M1).length))) (pat M1.pts (hullN M1 j)):=by decide
  exact h i hi j hj
 eq:=by decide
theorem area1:areaOk M1:=fun b w h=>Aw.area_any M1 b w h ok1 (by decide) (by decide) (wf_of_list _ (by decide)) ok
end Fa
end Go.Proofs.YtdihefgleefhmaaGreat
