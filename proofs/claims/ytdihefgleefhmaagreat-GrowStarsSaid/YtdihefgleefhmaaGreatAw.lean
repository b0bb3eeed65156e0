import Derived.Test.YtdihefgleefhmaaGreatHu
import Derived.Test.YtdihefgleefhmaaGreatNc
import Derived.Test.YtdihefgleefhmaaGreatFn
namespace Go.Proofs.YtdihefgleefhmaaGreat
open Go.RowKit
theorem MagN.grown{A B:World}{g n c N:Nat}{row:Option Nat}(h:MagN A (some ⟨g,0,none⟩) n c N)(hg:A.grownBy B row)(hr:∀r,row=some r→∃o:Obj,A.heap[r]? =some o∧o.isCells=false):MagN B (some ⟨g,0,none⟩) n c N:=by
 obtain⟨f,h1,h2,h3⟩:=h;refine⟨f,⟨h1.words,h1.le,h1.big,fun h0=>?_⟩,h2,h3⟩;obtain⟨g',hp,hc⟩:=h1.at_ h0;cases hp;refine⟨g,rfl,fun i hi=>?_⟩;have h4:=hc i hi;refine(World.cell?_of_block (hg.block g (World.block_lt_of_cell? _ _ h4) fun e=>?_)).trans h4
 ·obtain⟨o,ho,hc'⟩:=hr g e.symm
  unfold World.cell? at h4;simp only[ho]at h4;cases o<;>simp_all [Obj.isCells]
theorem MagN.lt{W:World}{g n c N:Nat}(h:MagN W (some ⟨g,0,none⟩) n c N)(h0:0<n):g<W.heap.size:=by
 obtain⟨f,h1,_,_⟩:=h;obtain⟨g',hp,hc⟩:=h1.at_ h0;cases hp;exact World.block_lt_of_cell? _ _ (hc 0 h0)
theorem MagN.far'{W:World}{g n c N:Nat}(h:MagN W (some ⟨g,0,none⟩) n c N){b:Nat}(hb:0<n→g≠b)(i:Nat)(v:Value):MagN (W.setCell ⟨b,i,none⟩ v) (some ⟨g,0,none⟩) n c N:=by
 by_cases h0:0<n
 ·exact h.far (hb h0) i v
 ·obtain⟨f,h1,h2,h3⟩:=h
  exact⟨f,⟨h1.words,h1.le,h1.big,fun h=>absurd h h0⟩,h2,h3⟩
def SumAt(W:World)(s x y N:Nat):Prop:=∃g k c,Blk W s 143 #[.bool false,.slice (some ⟨g,0,none⟩) k c]∧MagN W (some ⟨g,0,none⟩) k c N∧(0<k→g≠x∧g≠y)
theorem SumAt.later{W W':World}{s x y N:Nat}(h:SumAt W s x y N)(hb:Below W.heap.size W W'):SumAt W' s x y N:=by
 obtain⟨g,k,c,h1,h2,h3⟩:=h;exact⟨g,k,c,h1.later hb,h2.later hb,h3⟩
theorem SumAt.grown{A B:World}{s x y N:Nat}{row:Option Nat}(h:SumAt A s x y N)(hg:A.grownBy B row)(hr:∀r,row=some r→∃o:Obj,A.heap[r]? =some o∧o.isCells=false):SumAt B s x y N:=by
 obtain⟨g,k,c,h1,h2,h3⟩:=h;exact⟨g,k,c,blk_kept h1 hg hr,h2.grown hg hr,h3⟩
theorem SumAt.far{W:World}{s x y N:Nat}(h:SumAt W s x y N){b:Nat}(hb:b=x∨b=y)(hs:s≠b)(i:Nat)(v:Value):SumAt (W.setCell ⟨b,i,none⟩ v) s x y N:=by
 obtain⟨g,k,c,h1,h2,h3⟩:=h;exact⟨g,k,c,h1.other hs i v,h2.far' (fun hk=>by rcases hb with rfl|rfl<;>simp[h3 hk]) i v,h3⟩
def Rest(s:Nat)(W u:World):Prop:=∀k,k<W.heap.size→k≠s→u.heap[k]? =W.heap[k]?
theorem Rest.drew(s:Nat)(W:World):Rest s W W.drew:=fun _ _ _=>rfl
theorem Rest.of{s:Nat}{W u:World}(h:Below W.heap.size W u):Rest s W u:=fun k hk _=>h.block k hk
theorem Rest.cell{s:Nat}{W u:World}(h:Rest s W u){b t:Nat}{cs:Array Value}(hb:Blk W b t cs)(hs:b≠s)(i:Nat)(v:Value)(hv:cs[i]? =some v):u.cell? ⟨b,i,none⟩=some v:=
 (World.cell?_of_block (h b hb.lt hs)).trans (hb.cell i v hv)
theorem Rest.cell'{s:Nat}{W u:World}(h:Rest s W u){p:Addr}{v:Value}(hb:W.cell? p=some v)(hs:p.block≠s):u.cell? p=some v:=
 (World.cell?_of_block (h p.block (World.block_lt_of_cell? _ _ hb) hs)).trans hb
theorem ori_rot(a b c:Pt):ori a b c=ori b c a:=by unfold ori;grind
theorem Rest.set{s:Nat}{W u:World}(h:Rest s W u){i j:Nat}{x y:Value} : Rest s W ((u.setCell ⟨s,i,none⟩ x).setCell ⟨s,j,none⟩ y):=fun k hk hs=>
 (Below.heap_setCell _ _ _ _ hs).trans ((Below.heap_setCell _ _ _ _ hs).trans (h k hk hs))
theorem st2{W:World}{g t:Nat}{u v:Value}(h:Blk W g t #[u,v])(x y:Value):Blk ((W.setCell ⟨g,0,none⟩ x).setCell ⟨g,1,none⟩ y) g t #[x,y]:=(h.set 0 x).set 1 y
theorem ot2{W:World}{g t c:Nat}{cs:Array Value}(h:Blk W g t cs)(hc:g≠c)(x y:Value):Blk ((W.setCell ⟨c,0,none⟩ x).setCell ⟨c,1,none⟩ y) g t cs:=(h.other hc 0 x).other hc 1 y
structure AreaAt(w W:World)(b s N N':Nat):Prop where
 box:Blk W w.heap.size 26 #[.pointer (some ⟨b,0,none⟩)]
 sum:SumAt W s s (s+1) N
 out:SumAt W (s+1) s (s+1) N'
 lt:w.heap.size<s
 bel:Below w.heap.size w W
theorem AreaAt.later{w W W':World}{b s N N':Nat}(h:AreaAt w W b s N N')(hb:Below W.heap.size W W'):AreaAt w W' b s N N':=⟨h.box.later hb,h.sum.later hb,h.out.later hb,h.lt,bel_step h.bel hb⟩
theorem AreaAt.kept{w A B:World}{b s N N':Nat}{row:Option Nat}(h:AreaAt w A b s N N')(hg:A.grownBy B row)(hr:∀r,row=some r→w.heap.size+1≤r∧∃o:Obj,A.heap[r]? =some o∧o.isCells=false):AreaAt w B b s N N':=
 ⟨blk_kept h.box hg fun r e=>(hr r e).2,h.sum.grown hg fun r e=>(hr r e).2,h.out.grown hg fun r e=>(hr r e).2,h.lt,h.bel.grown hg h.bel.size (fun k e=>by have:=(hr k e).1;omega)⟩
def areaN(M:Mesh)(t:Nat):Nat:=(ori (pat M.pts (tat M.tris t).v0.toNat) (pat M.pts (tat M.tris t).v1.toNat) (pat M.pts (tat M.tris t).v2.toNat)).toNat
def areaTo(M:Mesh):List Nat→Nat
 | []=>0
 | t::l=>areaTo M l+areaN M t
theorem areaTo_snoc(M:Mesh):∀(l:List Nat) (t:Nat),areaTo M (l++[t])=areaTo M l+areaN M t
 | [],t=>rfl
 | u::l,t=>by
  show areaTo M (l++[t])+areaN M u=areaTo M l+areaN M u+areaN M t
  rw[areaTo_snoc M l t];omega
theorem area_le(M:Mesh)(ho:M.ok)(t:Nat):areaN M t≤170141183460469231731687303715884105727:=by
 have:=Pr.ori_fits _ _ _ (ho.near (tat M.tris t).v0.toNat) (ho.near (tat M.tris t).v1.toNat) (ho.near (tat M.tris t).v2.toNat);unfold Wd.Fits at this;unfold areaN;omega
theorem area_bound(M:Mesh)(ho:M.ok):∀l:List Nat,areaTo M l≤l.length*170141183460469231731687303715884105727
 | []=>by simp[areaTo]
 | t::l=>by
  have h1:=area_bound M ho l;have h2:=area_le M ho t;show areaTo M l+areaN M t≤(l.length+1)*_
  rw[Nat.add_mul];omega
def hullN(M:Mesh)(i:Nat):Nat:=((hull M).getD i 0).toNat
def fanN(M:Mesh)(n i:Nat):Nat:=(ori (pat M.pts (hullN M 0)) (pat M.pts (hullN M i)) (pat M.pts (hullN M ((i+1)%n)))).toNat
def fanTo(M:Mesh)(n:Nat):Nat→Nat
 | 0=>0
 | i+1=>fanTo M n i+fanN M n i
theorem fan_bound(M:Mesh)(ho:M.ok)(n:Nat):∀i,fanTo M n i≤i*170141183460469231731687303715884105727
 | 0=>by simp[fanTo]
 | i+1=>by
  have h1:=fan_bound M ho n i
  have h2:fanN M n i≤170141183460469231731687303715884105727:=by
   have:=Pr.ori_fits _ _ _ (ho.near (hullN M 0)) (ho.near (hullN M i)) (ho.near (hullN M ((i+1)%n)));unfold Wd.Fits at this;unfold fanN;omega
  show fanTo M n i+fanN M n i≤(i+1)*_
  rw[Nat.add_mul];omega
structure AreaOk(M:Mesh):Prop where
 pos:∀t:Nat,Mr.realB M t=true→0≤ori (pat M.pts (tat M.tris t).v0.toNat) (pat M.pts (tat M.tris t).v1.toNat) (pat M.pts (tat M.tris t).v2.toNat)
 some:0<(hull M).length
 few:(hull M).length≤1000000000000
 inn:∀i,i<(hull M).length→0≤(hull M).getD i 0∧(hull M).getD i 0<M.pts.length
 turn:∀i j,i<(hull M).length→j<(hull M).length→0≤ori (pat M.pts (hullN M i)) (pat M.pts (hullN M ((i+1)%(hull M).length))) (pat M.pts (hullN M j))
 eq:areaTo M (realsTo M M.tris.length)=fanTo M (hull M).length (hull M).length
structure FanW(w W:World)(b s N F D g n:Nat)(p:Nat→Nat):Prop where
 area:AreaAt w W b s N F
 row:∀i,i<n→W.cell? ⟨g,i,none⟩=Option.some (.int .i64 (p i:Nat))
 dd:W.heap[D]? =Option.some (.deferred (Option.some []))
 gs:s+1<g
theorem FanW.later{w W W':World}{b s N F D g n:Nat}{p:Nat→Nat}(h:FanW w W b s N F D g n p)(hb:Below W.heap.size W W'):FanW w W' b s N F D g n p:=
 ⟨h.area.later hb,fun i hi=>cell_later (h.row i hi) hb,(hb.block D (Array.getElem?_eq_some_iff.1 h.dd).1).trans h.dd,h.gs⟩
theorem FanW.put{w W W':World}{b s N F D g n:Nat}{p:Nat→Nat}(h:FanW w W b s N F D g n p)(hb:Below W.heap.size W W'){g8 k8 c8 gs ks cs A0:Nat}(hg:W.heap.size≤g8)(hm:MagN W' (some ⟨g8,0,none⟩) k8 c8 (F+A0))(hB:Blk W' (s+1) 143 #[.bool false,.slice (Option.some ⟨gs,0,none⟩) ks cs]) :
  FanW w ((W'.setCell ⟨s+1,0,none⟩ (.bool false)).setCell ⟨s+1,1,none⟩ (.slice (Option.some ⟨g8,0,none⟩) k8 c8)) b s N (F+A0) D g n p:=by
 have h1:=h.later hb;have h2:=h.area.lt;have h3:=h.gs
 have hs1:s+1<W.heap.size:=by
  obtain⟨_,_,_,q,_⟩:=h.area.out;exact q.lt
 refine⟨⟨ot2 h1.area.box (by omega) _ _,(h1.area.sum.far (.inr rfl) (by omega) _ _).far (.inr rfl) (by omega) _ _,⟨g8,k8,c8,st2 hB _ _,(hm.far' (fun _=>by omega) _ _).far' (fun _=>by omega) _ _,fun _=>by omega⟩,h2,bel_set (bel_set h1.area.bel (by omega) _ _) (by omega) _ _⟩,fun i hi=>?_,?_,h3⟩
 ·rw[World.cell?_setCell_far _ _ _ _ (by show s+1≠g;omega),World.cell?_setCell_far _ _ _ _ (by show s+1≠g;omega)]
  exact h1.row i hi
 ·have hne:D≠s+1:=fun e=>by
   obtain⟨_,_,_,q,_⟩:=h.area.out;unfold Blk at q;rw[←e,h.dd]at q;cases q
  exact(Below.heap_setCell _ _ _ _ hne).trans ((Below.heap_setCell _ _ _ _ hne).trans h1.dd)
namespace Aw
open Nu
set_option maxHeartbeats 4000000 in
set_option maxRecDepth 100000 in
theorem area_any(M:Mesh)(b:Nat)(w:World)(h:MeshR w b M)(ho:M.ok)(hp:0<M.pts.length)(ht:0<M.tris.length)(hw:M.wf)(hE:AreaOk M) :
  Calls Tryz.prog 62 #[.pointer (some ⟨b,0,none⟩)] w fun e w'=>e=.returned (.bool true)∧Below w.heap.size w w':=by
 have hHU:=fun u hu=>Hu.hull_any M b u hu ho hp ht
 obtain⟨gp,cp,gt,ct,ga,ca,fV,h⟩:=h;have hlt:=h.lt hp ht (by rw[ho.at_];exact hp);have H:=Hd h;have HLT:=Hd hlt;have HO:=Hd ho;have HHU:=Hd hHU;have HWF:=Hd hw;have HPOS:=Hd hE.pos;have HE:=Hd hE;clear h hlt ho hHU hw hE;refine(callsIn_wide (n:=9)).1 (callsIn_of_wp_marks Tryz.func62 rfl trivial (wpIn_wide.2 ?_) rfl);simp only[Tryz.ntmps62,List.size_toArray,List.length_cons,List.length_nil,Nat.reduceAdd,Nat.reduceSub,Array.replicate_succ,Array.replicate_zero,List.push_toArray,List.append_toArray,List.nil_append,List.cons_append]
 go_wp2_with fail
 refine(of_any 0 _ (by omega)).mono ?_;rintro e w1 ⟨⟨g1,k1,c1,hg1,rfl,hm1⟩,hb1⟩;simp only[World.size_alloc]at hg1;have HM1:=Hd hm1;have HB1:=Hd hb1;have HBX1:=Hd ((Blk.new w 26 #[.pointer (some ⟨b,0,none⟩)]).later hb1);clear hm1 hb1
 go_wp2_with fail
 refine(of_any 0 _ (by omega)).mono ?_;rintro e w2 ⟨⟨g2,k2,c2,hg2,rfl,hm2⟩,hb2⟩;have HM2:=Hd hm2;have HB2:=Hd hb2;have HBX2:=Hd (HBX1.out.later hb2);have HM12:=Hd (HM1.out.later hb2);clear hm2 hb2
 have hA:AreaAt w (((w2.alloc (.cells #[.bool false,.slice (some ⟨g1,0,none⟩) k1 c1] 143)).alloc (.cells #[.bool false,.slice (some ⟨g2,0,none⟩) k2 c2] 143)).alloc (.cells #[.pointer (some ⟨b,0,none⟩)] 26)) b w2.heap.size 0 0:=by
  have q1:Below w2.heap.size w2 (((w2.alloc (.cells #[.bool false,.slice (some ⟨g1,0,none⟩) k1 c1] 143)).alloc (.cells #[.bool false,.slice (some ⟨g2,0,none⟩) k2 c2] 143)).alloc (.cells #[.pointer (some ⟨b,0,none⟩)] 26)):=bel_alloc (bel_alloc (bel_alloc (bel_refl w2) _) _) _;have s1:=HB1.out.size;have s2:=HB2.out.size;simp only[World.size_alloc]at s1;refine⟨HBX2.out.later q1,⟨g1,k1,c1,((Blk.new w2 143 _).alloc _).alloc _,HM12.out.later q1,fun hk=>by have:=HM12.out.lt hk;omega⟩,⟨g2,k2,c2,(Blk.new' _ 143 _ (by simp)).alloc _,HM2.out.later q1,fun hk=>by have:=HM2.out.lt hk;omega⟩,by omega,?_⟩;exact bel_step (bel_step (bel_step (bel_alloc (bel_refl w) _) HB1.out) HB2.out) q1
 have z1:=(((HBX2.out.alloc (.cells #[.bool false,.slice (some ⟨g1,0,none⟩) k1 c1] 143)).alloc (.cells #[.bool false,.slice (some ⟨g2,0,none⟩) k2 c2] 143))).one;have hX:=Blk.new' (n:=w2.heap.size+2) ((w2.alloc (.cells #[.bool false,.slice (some ⟨g1,0,none⟩) k1 c1] 143)).alloc (.cells #[.bool false,.slice (some ⟨g2,0,none⟩) k2 c2] 143)) 26 #[.pointer (some ⟨b,0,none⟩)] (by simp);have hs:(((w2.alloc (.cells #[.bool false,.slice (some ⟨g1,0,none⟩) k1 c1] 143)).alloc (.cells #[.bool false,.slice (some ⟨g2,0,none⟩) k2 c2] 143)).alloc (.cells #[.pointer (some ⟨b,0,none⟩)] 26)).heap.size=w2.heap.size+3:=by simp
 have HA0:=Hd hA;have HX0:=Hd hX;have HS0:=Hd hs;obtain⟨z0,_⟩:=z1;clear hA hX hs
 go_wp2_with (go_at_call 55;refine(callsIn_wide.1 (It.all_in b 9 _)).mono ?_;rintro e w5 ⟨rfl,rfl⟩)
 simp only[Nat.add_assoc,Nat.reduceAdd];have hA:=HA0.out;have hX:=HX0.out;have hs:=HS0.out;clear z0 HA0 HX0 HS0;obtain⟨W,hW⟩:∃W,(((w2.alloc (.cells #[.bool false,.slice (some ⟨g1,0,none⟩) k1 c1] 143)).alloc (.cells #[.bool false,.slice (some ⟨g2,0,none⟩) k2 c2] 143)).alloc (.cells #[.pointer (some ⟨b,0,none⟩)] 26))=W:=⟨_,rfl⟩;rw[hW]at hA hX hs ⊢;obtain⟨s,hse⟩:∃s,w2.heap.size=s:=⟨_,rfl⟩;rw[hse]at hA hX hs ⊢;clear hW hse;clear HBX1 HBX2 HM1 HM2 HM12 HB1 HB2 hg1 hg2;have hR:=H.out.later hA.bel
 have hcell:∀k∈(s+2)::mblocks b gp gt ga,∃o,W.heap[k]? =some o∧o.isCells=true:=by
  intro k hk;rcases List.mem_cons.1 hk with rfl|hk
  ·exact hX.isCells
  ·exact hR.isCells hp ht (by rw[HO.out.at_];exact hp) k hk
 have hin:∀k∈(s+2)::mblocks b gp gt ga,k<W.heap.size:=by
  intro k hk;obtain⟨o,ho,_⟩:=hcell k hk;exact(Array.getElem?_eq_some_iff.1 ho).1
 have hsw:=hA.lt;have HC:=Hd hcell;have HR:=Hd hR;have HIN:=Hd hin;have HLW:=Hd hsw
 have hKK:∀{V V':World},Keep ((s+2)::mblocks b gp gt ga) W V→Below V.heap.size V V'→Keep ((s+2)::mblocks b gp gt ga) V V':=fun {V V'} h1 h2 k hk=>by
  obtain⟨o,ho,_⟩:=HC.out k hk;exact h2.block k (Array.getElem?_eq_some_iff.1 ((h1 k hk).trans ho)).1
 have hlc:∀(A:World) (i:Nat) (v:Value),Keep ((s+2)::mblocks b gp gt ga) A (A.setCell ⟨s,i,none⟩ v):=fun A i v k hk=>by
  refine Below.heap_setCell _ _ _ _ (fun e=>?_);have e':k=s:=e;rcases List.mem_cons.1 hk with rfl|hk
  ·omega
  ·have:=HLT.out k hk;have:=HLW.out;omega
 have HLC:=Hd hlc;have HS3:=Hd hs;clear hlc hsw
 refine range_set (n:=9) (by omega) (gf:=89) (lb:=#[.pointer (some ⟨s+2,0,none⟩)]) rfl (enters_of Tryz.func89 (by kernel_rfl) rfl)
  (It.all_pos M b (s+2) gp cp gt ct ga ca fV 8 ((s+2)::mblocks b gp gt ga) W (by simp[mblocks]) HO.out.tris hX hR) Keep.trans (Keep.put hin) (fun _=>rfl)
  (fun(pre:List (It.RealOf M)) V=>AreaAt w V b s (areaTo M (pre.map (·.1))) 0∧Keep ((s+2)::mblocks b gp gt ga) W V∧W.heap.size≤V.heap.size)
  (fun _ _ _=>False)
  (fun _ A B row h hg' hr=>⟨h.1.kept hg' (fun r e=>⟨by have:=(hr r e).1;have:=HLW.out;omega,(hr r e).2⟩),h.2.1.kept HC.out hg' (fun r e=>(hr r e).2),Nat.le_trans h.2.2 hg'.size⟩)
  (fun _ _ _ _ _ h _ _=>h)
  ⟨hA,Keep.refl _ _,Nat.le_refl _⟩
  (fun x Bx V=>W.heap.size≤Bx∧Blk V Bx 43 #[.int .i64 (tat M.tris x.1).v0,.int .i64 (tat M.tris x.1).v1,.int .i64 (tat M.tris x.1).v2,.int .i64 (tat M.tris x.1).n0,.int .i64 (tat M.tris x.1).n1,.int .i64 (tat M.tris x.1).n2,.bool (tat M.tris x.1).f0,.bool (tat M.tris x.1).f1,.bool (tat M.tris x.1).f2])
  (fun x Bx _ A B row h hg' hr=>⟨h.1,blk_kept h.2 hg' (fun r e=>(hr r e).2)⟩)
  (fun x Bx t=>((t.setIfInBounds 20 (.int .i64 x.1)).setIfInBounds 21 (tv (tat M.tris x.1))).setIfInBounds 6 (.pointer (some ⟨Bx,0,none⟩)))
  ?assign ?body ?done ?stop
 case assign=>
  intro l pre x V K hi hK2;simp only[It.encT]
  gi_wp2
  rw[Oper.semAt_eq _ _ _ (by simp)];simp[go_sem]
  gi_wp2
  rw[Oper.semAt_eq _ _ _ (by simp)];simp[go_sem]
  gi_wp2
  refine hK2 _ _ (keeps_later (bel_alloc (bel_refl V) _)) (hKK hi.2.1 (bel_alloc (bel_refl V) _)) ⟨hi.1.later (bel_alloc (bel_refl V) _),hi.2.1.later HC.out (bel_alloc (bel_refl V) _),by have:=hi.2.2;simp;omega⟩ ⟨V.heap.size,⟨hi.2.2,Blk.new _ _ _⟩,?_⟩;simp only[List.setIfInBounds_toArray,List.set_cons_succ,List.set_cons_zero]
 case body=>
  rintro l pre x Bx V ⟨hha,hk,hsz⟩ ⟨hBx,hbx⟩ hpl;simp only[List.setIfInBounds_toArray,List.set_cons_succ,List.set_cons_zero]
  have hsn:areaTo M ((pre++[x]).map (·.1))=areaTo M (pre.map (·.1))+areaN M x.1:=by
   rw[List.map_append];exact areaTo_snoc M _ _
  obtain⟨xl,p0,p1,p2,e0,e1,e2,l0,l1,l2⟩:=real_v M HWF.out x.1 x.2.2;have hori:=HPOS.out x.1 x.2.2
  have hbd:areaTo M (pre.map (·.1))+areaN M x.1<18446744073709551616 ^ 3:=by
   have h1:=area_bound M HO.out (pre.map (·.1));have h2:=area_le M HO.out x.1
   have h3:(realsTo M M.tris.length).length≤M.tris.length:=by
    unfold realsTo;have:=List.length_filter_le (fun k:Nat=>Mr.realB M k) (List.range M.tris.length)
    simpa using this
   have h4:=HO.out.tris;have h5:(18446744073709551616:Nat) ^ 3=6277101735386680763835789423207666416102355444464034512896:=by decide
   rw[List.length_map]at h1;have h6:pre.length*170141183460469231731687303715884105727≤1000000000*170141183460469231731687303715884105727:=Nat.mul_le_mul_right _ (by omega);omega
  unfold areaN at hsn hbd;rw[e0,e1,e2]at hsn hori hbd;simp only[Int.toNat_natCast]at hsn hori hbd;have har:=fun u=>Nu.area_any (pat M.pts p0) (pat M.pts p1) (pat M.pts p2) _ u (HO.out.near p0) (HO.out.near p1) (HO.out.near p2) (Int.toNat_of_nonneg hori).symm
  have hM:=HR.out.keep hk (by simp[mblocks]) (by simp[mblocks]) (by simp[mblocks]) (by simp[mblocks]);have hs0:=hha.sum;generalize areaTo M (pre.map (·.1))=N at *;generalize (ori (pat M.pts p0) (pat M.pts p1) (pat M.pts p2)).toNat=A0 at *;have HSN:=Hd hsn;have HAR:=Hd har;have HBD:=Hd hbd;have c0:∀u,Below V.heap.size V u→u.cell? ⟨w.heap.size,0,none⟩=some (.pointer (some ⟨b,0,none⟩)):=fun u hu=>(hha.box.later hu).cell 0 _ rfl
  have c1:∀u,Below V.heap.size V u→u.cell? ⟨b,0,none⟩=some (.slice (some ⟨gp,0,none⟩) M.pts.length cp):=fun u hu=>(hM.head.later hu).cell 0 _ rfl
  have c2:∀u,Below V.heap.size V u→u.cell? ⟨Bx,0,none⟩=some (.int .i64 p0):=fun u hu=>e0▸(hbx.later hu).cell 0 _ rfl
  have c3:∀u,Below V.heap.size V u→u.cell? ⟨Bx,1,none⟩=some (.int .i64 p1):=fun u hu=>e1▸(hbx.later hu).cell 1 _ rfl
  have c4:∀u,Below V.heap.size V u→u.cell? ⟨Bx,2,none⟩=some (.int .i64 p2):=fun u hu=>e2▸(hbx.later hu).cell 2 _ rfl
  have d0:∀u,Below V.heap.size V u→u.cell? ⟨gp,p0*2,none⟩=some (.int .i64 (pat M.pts p0).x):=fun u hu=>cell_later (hM.pts p0 l0).1 hu
  have d1:∀u,Below V.heap.size V u→u.cell? ⟨gp,p0*2+1,none⟩=some (.int .i64 (pat M.pts p0).y):=fun u hu=>cell_later (hM.pts p0 l0).2 hu
  have d2:∀u,Below V.heap.size V u→u.cell? ⟨gp,p1*2,none⟩=some (.int .i64 (pat M.pts p1).x):=fun u hu=>cell_later (hM.pts p1 l1).1 hu
  have d3:∀u,Below V.heap.size V u→u.cell? ⟨gp,p1*2+1,none⟩=some (.int .i64 (pat M.pts p1).y):=fun u hu=>cell_later (hM.pts p1 l1).2 hu
  have d4:∀u,Below V.heap.size V u→u.cell? ⟨gp,p2*2,none⟩=some (.int .i64 (pat M.pts p2).x):=fun u hu=>cell_later (hM.pts p2 l2).1 hu
  have d5:∀u,Below V.heap.size V u→u.cell? ⟨gp,p2*2+1,none⟩=some (.int .i64 (pat M.pts p2).y):=fun u hu=>cell_later (hM.pts p2 l2).2 hu
  have i0:(0:Int)≤(p0:Int):=by omega
  have i1:(p0:Int)<(M.pts.length:Int):=by omega
  have i2:(0:Int)≤(p1:Int):=by omega
  have i3:(p1:Int)<(M.pts.length:Int):=by omega
  have i4:(0:Int)≤(p2:Int):=by omega
  have i5:(p2:Int)<(M.pts.length:Int):=by omega
  have HHA:=Hd hha;have HK0:=Hd hk;have HBX:=Hd hbx;have HSZ:=Hd hsz;have HBZ:=Hd hBx;clear hsn har hbd hori hM hha hk hbx hsz hs0 e0 e1 e2 l0 l1 l2 xl hBx
  gi_wp2
  refine Go.Gq.region_held_in (fun w'=>Below V.heap.size V w') (by kernel_rfl) (by kernel_rfl) (bel_drew (bel_refl V)) (fun hHeld=>?_);refine wpAnyH_take (i:=0) (v:=?_) rfl (by kernel_rfl) (by kernel_rfl) (by kernel_rfl) (fun _ _ _ h=>h) (Or.inl ⟨by rfl,?_⟩) (by assumption) ?_;rotate_left
  ·intro u hu;go_simp;(try with_reducible rfl)
  try simp only[List.getElem_toArray,List.getElem_cons_zero,Act.put,List.setIfInBounds_toArray,List.set_cons_zero,List.set_cons_succ]
  refine wpAnyH_take (i:=1) (v:=?_) rfl (by kernel_rfl) (by kernel_rfl) (by kernel_rfl) (fun _ _ _ h=>h) (Or.inl ⟨by rfl,?_⟩) (by assumption) ?_;rotate_left
  ·intro u hu;go_simp;(try with_reducible rfl)
  try simp only[Act.put,pu]
  refine wpAnyH_take (i:=2) (v:=?_) rfl (by kernel_rfl) (by kernel_rfl) (by kernel_rfl) (fun _ _ _ h=>h) (Or.inl ⟨by rfl,?_⟩) (by assumption) ?_;rotate_left
  ·intro u hu;go_simp;(try with_reducible rfl)
  try simp only[Act.put,pu]
  refine wpAnyH_take (i:=3) (v:=?_) rfl (by kernel_rfl) (by kernel_rfl) (by kernel_rfl) (fun _ _ _ h=>h) (Or.inl ⟨by rfl,?_⟩) (by assumption) ?_;rotate_left
  ·intro u hu;go_simp;(try with_reducible rfl)
  try simp only[Act.put,pu]
  refine wpAnyH_take (i:=4) (v:=?_) rfl (by kernel_rfl) (by kernel_rfl) (by kernel_rfl) (fun _ _ _ h=>h) (Or.inl ⟨by rfl,?_⟩) (by assumption) ?_;rotate_left
  ·intro u hu;go_simp;(try with_reducible rfl)
  try simp only[Act.put,pu]
  refine wpAnyH_take (i:=5) (v:=?_) rfl (by kernel_rfl) (by kernel_rfl) (by kernel_rfl) (fun _ _ _ h=>h) (Or.inl ⟨by rfl,?_⟩) (by assumption) ?_;rotate_left
  ·intro u hu;go_simp;(try with_reducible rfl)
  try simp only[Act.put,pu]
  refine wpAnyH_take (i:=6) (v:=?_) rfl (by kernel_rfl) (by kernel_rfl) (by kernel_rfl) (fun _ _ _ h=>h) (Or.inl ⟨by rfl,?_⟩) (by assumption) ?_;rotate_left
  ·intro u hu;go_simp;(try with_reducible rfl)
  try simp only[Act.put,pu]
  refine wpAnyH_take (i:=7) (v:=?_) rfl (by kernel_rfl) (by kernel_rfl) (by kernel_rfl) (fun _ _ _ h=>h) (Or.inl ⟨by rfl,?_⟩) (by assumption) ?_;rotate_left
  ·intro u hu;go_simp;(try with_reducible rfl)
  try simp only[Act.put,pu]
  refine wpAnyH_take (i:=8) (v:=?_) rfl (by kernel_rfl) (by kernel_rfl) (by kernel_rfl) (fun _ _ _ h=>h) (Or.inl ⟨by rfl,?_⟩) (by assumption) ?_;rotate_left
  ·intro u hu;go_simp;(try with_reducible rfl)
  try simp only[Act.put,pu]
  refine wpAnyH_take (i:=9) (v:=?_) rfl (by kernel_rfl) (by kernel_rfl) (by kernel_rfl) (fun _ _ _ h=>h) (Or.inl ⟨by rfl,?_⟩) (by assumption) ?_;rotate_left
  ·intro u hu;go_simp;(try with_reducible rfl)
  try simp only[Act.put,pu]
  refine wpAnyH_take (i:=10) (v:=?_) rfl (by kernel_rfl) (by kernel_rfl) (by kernel_rfl) (fun _ _ _ h=>h) (Or.inl ⟨by rfl,?_⟩) (by assumption) ?_;rotate_left
  ·intro u hu;go_simp;(try with_reducible rfl)
  try simp only[Act.put,pu]
  refine wpAnyH_take (i:=11) (v:=?_) rfl (by kernel_rfl) (by kernel_rfl) (by kernel_rfl) (fun _ _ _ h=>h) (Or.inl ⟨by rfl,?_⟩) (by assumption) ?_;rotate_left
  ·intro u hu;go_simp;(try with_reducible rfl)
  try simp only[Act.put,pu]
  refine wpAnyH_take (i:=12) (v:=?_) rfl (by kernel_rfl) (by kernel_rfl) (by kernel_rfl) (fun _ _ _ h=>h) (Or.inl ⟨by rfl,?_⟩) (by assumption) ?_;rotate_left
  ·intro u hu;go_simp;(try with_reducible rfl)
  try simp only[Act.put,pu]
  refine wpAnyH_take (i:=13) (v:=?_) rfl (by kernel_rfl) (by kernel_rfl) (by kernel_rfl) (fun _ _ _ h=>h) (Or.inl ⟨by rfl,?_⟩) (by assumption) ?_;rotate_left
  ·intro u hu;go_simp;(try with_reducible rfl)
  try simp only[Act.put,pu]
  refine wpAnyH_take (i:=14) (v:=?_) rfl (by kernel_rfl) (by kernel_rfl) (by kernel_rfl) (fun _ _ _ h=>h) (Or.inl ⟨by rfl,?_⟩) (by assumption) ?_;rotate_left
  ·intro u hu;go_simp;(try with_reducible rfl)
  try simp only[Act.put,pu]
  refine wpAnyH_take (i:=15) (v:=?_) rfl (by kernel_rfl) (by kernel_rfl) (by kernel_rfl) (fun _ _ _ h=>h) (Or.inl ⟨by rfl,?_⟩) (by assumption) ?_;rotate_left
  ·intro u hu;go_simp;(try with_reducible rfl)
  try simp only[Act.put,pu]
  refine wpAnyH_take (i:=16) (v:=?_) rfl (by kernel_rfl) (by kernel_rfl) (by kernel_rfl) (fun _ _ _ h=>h) (Or.inl ⟨by rfl,?_⟩) (by assumption) ?_;rotate_left
  ·intro u hu;go_simp;(try with_reducible rfl)
  try simp only[Act.put,pu]
  refine wpAnyH_take (i:=17) (v:=?_) rfl (by kernel_rfl) (by kernel_rfl) (by kernel_rfl) (fun _ _ _ h=>h) (Or.inl ⟨by rfl,?_⟩) (by assumption) ?_;rotate_left
  ·intro u hu;go_simp;(try with_reducible rfl)
  try simp only[Act.put,pu]
  refine wpAnyH_take (i:=18) (v:=?_) rfl (by kernel_rfl) (by kernel_rfl) (by kernel_rfl) (fun _ _ _ h=>h) (Or.inl ⟨by rfl,?_⟩) (by assumption) ?_;rotate_left
  ·intro u hu;go_simp;(try with_reducible rfl)
  try simp only[Act.put,pu]
  refine wpAnyH_take (i:=19) (v:=?_) rfl (by kernel_rfl) (by kernel_rfl) (by kernel_rfl) (fun _ _ _ h=>h) (Or.inl ⟨by rfl,?_⟩) (by assumption) ?_;rotate_left
  ·intro u hu;go_simp;(try with_reducible rfl)
  try simp only[Act.put,pu]
  refine wpAnyH_take (i:=20) (v:=?_) rfl (by kernel_rfl) (by kernel_rfl) (by kernel_rfl) (fun _ _ _ h=>h) (Or.inl ⟨by rfl,?_⟩) (by assumption) ?_;rotate_left
  ·intro u hu;go_simp;(try with_reducible rfl)
  try simp only[Act.put,pu]
  refine wpAnyH_take (i:=21) (v:=?_) rfl (by kernel_rfl) (by kernel_rfl) (by kernel_rfl) (fun _ _ _ h=>h) (Or.inl ⟨by rfl,?_⟩) (by assumption) ?_;rotate_left
  ·intro u hu;go_simp;(try with_reducible rfl)
  try simp only[Act.put,pu]
  refine wpAnyH_take (i:=22) (v:=?_) rfl (by kernel_rfl) (by kernel_rfl) (by kernel_rfl) (fun _ _ _ h=>h) (Or.inl ⟨by rfl,?_⟩) (by assumption) ?_;rotate_left
  ·intro u hu;go_simp;(try with_reducible rfl)
  try simp only[Act.put,pu]
  refine wpAnyH_take (i:=23) (v:=?_) rfl (by kernel_rfl) (by kernel_rfl) (by kernel_rfl) (fun _ _ _ h=>h) (Or.inl ⟨by rfl,?_⟩) (by assumption) ?_;rotate_left
  ·intro u hu;go_simp;(try with_reducible rfl)
  try simp only[Act.put,pu]
  refine wpAnyH_take (i:=24) (v:=?_) rfl (by kernel_rfl) (by kernel_rfl) (by kernel_rfl) (fun _ _ _ h=>h) (Or.inl ⟨by rfl,?_⟩) (by assumption) ?_;rotate_left
  ·intro u hu;go_simp;(try with_reducible rfl)
  try simp only[Act.put,pu]
  refine wpAnyH_take (i:=25) (v:=?_) rfl (by kernel_rfl) (by kernel_rfl) (by kernel_rfl) (fun _ _ _ h=>h) (Or.inl ⟨by rfl,?_⟩) (by assumption) ?_;rotate_left
  ·intro u hu;go_simp;(try with_reducible rfl)
  try simp only[Act.put,pu]
  refine wpAnyH_take (i:=26) (v:=?_) rfl (by kernel_rfl) (by kernel_rfl) (by kernel_rfl) (fun _ _ _ h=>h) (Or.inl ⟨by rfl,?_⟩) (by assumption) ?_;rotate_left
  ·intro u hu;go_simp;(try with_reducible rfl)
  try simp only[Act.put,pu]
  have fin:∀(W6 w8:World) (g8 k8 c8 gs ks cs:Nat),AreaAt w W6 b s N 0→Keep ((s+2)::mblocks b gp gt ga) W W6→KeepsFrom W.heap.size V W6→Keep ((s+2)::mblocks b gp gt ga) V W6→W.heap.size≤W6.heap.size→s+1<W6.heap.size→Below W6.heap.size W6 w8→W6.heap.size≤g8→
    Blk w8 s 143 #[.bool false,.slice (some ⟨gs,0,none⟩) ks cs]→MagN w8 (some ⟨g8,0,none⟩) k8 c8 (N+A0)→
    KeepsFrom W.heap.size V ((w8.setCell ⟨s,0,none⟩ (.bool false)).setCell ⟨s,1,none⟩ (.slice (some ⟨g8,0,none⟩) k8 c8))∧Keep ((s+2)::mblocks b gp gt ga) V ((w8.setCell ⟨s,0,none⟩ (.bool false)).setCell ⟨s,1,none⟩ (.slice (some ⟨g8,0,none⟩) k8 c8))∧
    AreaAt w ((w8.setCell ⟨s,0,none⟩ (.bool false)).setCell ⟨s,1,none⟩ (.slice (some ⟨g8,0,none⟩) k8 c8)) b s (areaTo M ((pre++[x]).map (·.1))) 0∧Keep ((s+2)::mblocks b gp gt ga) W ((w8.setCell ⟨s,0,none⟩ (.bool false)).setCell ⟨s,1,none⟩ (.slice (some ⟨g8,0,none⟩) k8 c8))∧
    W.heap.size≤((w8.setCell ⟨s,0,none⟩ (.bool false)).setCell ⟨s,1,none⟩ (.slice (some ⟨g8,0,none⟩) k8 c8)).heap.size:=by
   intro W6 w8 g8 k8 c8 gs ks cs ha hk hf hkv hz hs1 hb hg hB hm;have h8:=hb.size;have hlt:=ha.lt;have o8:=ha.out.later hb;refine⟨((hf.trans (keeps_later hb)).trans ((KeepsOthers.setCell _ _ _).from _)).trans ((KeepsOthers.setCell _ _ _).from _),((hkv.trans (hKK hk hb)).trans (HLC.out _ _ _)).trans (HLC.out _ _ _),⟨?_,?_,?_,hlt,?_⟩,((hk.trans (hKK hk hb)).trans (HLC.out _ _ _)).trans (HLC.out _ _ _),by simp;omega⟩
   ·exact ot2 (ha.box.later hb) (by omega) _ _
   ·rw[HSN.out]
    exact⟨g8,k8,c8,st2 hB _ _,(hm.far' (fun _=>by omega) _ _).far' (fun _=>by omega) _ _,fun _=>by omega⟩
   ·exact(o8.far (.inl rfl) (by omega) _ _).far (.inl rfl) (by omega) _ _
   ·exact bel_set (bel_set (bel_step ha.bel hb) (by omega) _ _) (by omega) _ _
  have FIN:=Hd fin;clear fin;have kA:=(((Blk.new V 24 #[.int .i64 0,.int .i64 0]).alloc (.cells #[.int .i64 0,.int .i64 0] 24)).alloc (.cells #[.int .i64 0,.int .i64 0] 24)).drew;have kB:=((Blk.new' (n:=V.heap.size+1) (V.alloc (.cells #[.int .i64 0,.int .i64 0] 24)) 24 #[.int .i64 0,.int .i64 0] (by simp)).alloc (.cells #[.int .i64 0,.int .i64 0] 24)).drew;have kC:=(Blk.new' (n:=V.heap.size+2) ((V.alloc (.cells #[.int .i64 0,.int .i64 0] 24)).alloc (.cells #[.int .i64 0,.int .i64 0] 24)) 24 #[.int .i64 0,.int .i64 0] (by simp)).drew;refine wpAnyH_ready (rs:=[27,28,29]) (by kernel_rfl) (by simp) ?_;refine AllReadyH.cons rfl (fun K hK=>?_) ?_
  ·go_simp
   refine hK.out _ _ (by first| exact bel_drew (bel_alloc (bel_refl V) _)|exact bel_drew (bel_alloc (bel_alloc (bel_refl V) _) _)|exact bel_drew (bel_alloc (bel_alloc (bel_alloc (bel_refl V) _) _) _)) (fun hHeld=>?_);clear hK K
   try simp only[Act.put,pu]
   refine wpAnyH_ready (rs:=[28,29]) (by kernel_rfl) (by simp) ?_;refine AllReadyH.cons rfl (fun K hK=>?_) ?_
   ·go_simp
    refine hK.out _ _ (by first| exact bel_drew (bel_alloc (bel_refl V) _)|exact bel_drew (bel_alloc (bel_alloc (bel_refl V) _) _)|exact bel_drew (bel_alloc (bel_alloc (bel_alloc (bel_refl V) _) _) _)) (fun hHeld=>?_);clear hK K
    try simp only[Act.put,pu]
    refine wpAnyH_ready (rs:=[29]) (by kernel_rfl) (by simp) ?_;refine AllReadyH.cons rfl (fun K hK=>?_) ?_
    ·go_simp
     refine hK.out _ _ (by first| exact bel_drew (bel_alloc (bel_refl V) _)|exact bel_drew (bel_alloc (bel_alloc (bel_refl V) _) _)|exact bel_drew (bel_alloc (bel_alloc (bel_alloc (bel_refl V) _) _) _)) (fun hHeld=>?_);clear hK K
     try simp only[Act.put,pu]
     generalize ((((V.alloc (.cells #[.int .i64 0,.int .i64 0] 24)).alloc (.cells #[.int .i64 0,.int .i64 0] 24)).alloc (.cells #[.int .i64 0,.int .i64 0] 24)).drew)=W3 at *;obtain⟨x0,x1,x2,x3⟩:=kA.two;refine wpAnyH_ready (rs:=[30]) (by kernel_rfl) (by simp) ?_;refine AllReadyH.cons rfl (fun K hK=>?_) AllReadyH.nil;go_simp;have hB:Below V.heap.size V ((W3.setCell ⟨V.heap.size,0,none⟩ (.int .i64 (pat M.pts p0).x)).setCell ⟨V.heap.size,1,none⟩ (.int .i64 (pat M.pts p0).y)):=bel_set (bel_set hHeld (by omega) _ _) (by omega) _ _;have kA':=st2 kA (.int .i64 (pat M.pts p0).x) (.int .i64 (pat M.pts p0).y);have kB':=ot2 kB (c:=V.heap.size) (by omega) (.int .i64 (pat M.pts p0).x) (.int .i64 (pat M.pts p0).y);have kC':=ot2 kC (c:=V.heap.size) (by omega) (.int .i64 (pat M.pts p0).x) (.int .i64 (pat M.pts p0).y);clear kA kB kC x0 x1 x2 x3;refine hK.out _ _ hB (fun hHeld=>?_);clear hK K
     try simp only[Act.put,pu]
     have kA:=kA';have kB:=kB';have kC:=kC';clear kA' kB' kC' hB;generalize ((W3.setCell ⟨V.heap.size,0,none⟩ (.int .i64 (pat M.pts p0).x)).setCell ⟨V.heap.size,1,none⟩ (.int .i64 (pat M.pts p0).y))=W4 at *;obtain⟨x0,x1,x2,x3⟩:=kB.two;refine wpAnyH_ready (rs:=[31]) (by kernel_rfl) (by simp) ?_;refine AllReadyH.cons rfl (fun K hK=>?_) AllReadyH.nil;go_simp;have hB:Below V.heap.size V ((W4.setCell ⟨V.heap.size+1,0,none⟩ (.int .i64 (pat M.pts p1).x)).setCell ⟨V.heap.size+1,1,none⟩ (.int .i64 (pat M.pts p1).y)):=bel_set (bel_set hHeld (by omega) _ _) (by omega) _ _;have kA':=ot2 kA (c:=V.heap.size+1) (by omega) (.int .i64 (pat M.pts p1).x) (.int .i64 (pat M.pts p1).y);have kB':=st2 kB (.int .i64 (pat M.pts p1).x) (.int .i64 (pat M.pts p1).y);have kC':=ot2 kC (c:=V.heap.size+1) (by omega) (.int .i64 (pat M.pts p1).x) (.int .i64 (pat M.pts p1).y);clear kA kB kC x0 x1 x2 x3;refine hK.out _ _ hB (fun hHeld=>?_);clear hK K
     try simp only[Act.put,pu]
     have kA:=kA';have kB:=kB';have kC:=kC';clear kA' kB' kC' hB;generalize ((W4.setCell ⟨V.heap.size+1,0,none⟩ (.int .i64 (pat M.pts p1).x)).setCell ⟨V.heap.size+1,1,none⟩ (.int .i64 (pat M.pts p1).y))=W5 at *;obtain⟨x0,x1,x2,x3⟩:=kC.two;refine wpAnyH_ready (rs:=[32]) (by kernel_rfl) (by simp) ?_;refine AllReadyH.cons rfl (fun K hK=>?_) AllReadyH.nil;go_simp;have hB:Below V.heap.size V ((W5.setCell ⟨V.heap.size+2,0,none⟩ (.int .i64 (pat M.pts p2).x)).setCell ⟨V.heap.size+2,1,none⟩ (.int .i64 (pat M.pts p2).y)):=bel_set (bel_set hHeld (by omega) _ _) (by omega) _ _;have kA':=ot2 kA (c:=V.heap.size+2) (by omega) (.int .i64 (pat M.pts p2).x) (.int .i64 (pat M.pts p2).y);have kB':=ot2 kB (c:=V.heap.size+2) (by omega) (.int .i64 (pat M.pts p2).x) (.int .i64 (pat M.pts p2).y);have kC':=st2 kC (.int .i64 (pat M.pts p2).x) (.int .i64 (pat M.pts p2).y);clear kA kB kC x0 x1 x2 x3;refine hK.out _ _ hB (fun hHeld=>?_);clear hK K
     try simp only[Act.put,pu]
     have kA:=kA';have kB:=kB';have kC:=kC';clear kA' kB' kC' hB;generalize ((W5.setCell ⟨V.heap.size+2,0,none⟩ (.int .i64 (pat M.pts p2).x)).setCell ⟨V.heap.size+2,1,none⟩ (.int .i64 (pat M.pts p2).y))=W6 at *;refine wpAnyH_done (by kernel_rfl) ?_ _;unfold Go.Gq.OnlyN;have HA6:=Hd (HHA.out.later hHeld);have HK6:=Hd (HK0.out.trans (hKK HK0.out hHeld));have HF6:=Hd (keeps_later (B:=W.heap.size) hHeld);have HZ6:=Hd (Nat.le_trans HSZ.out hHeld.size);have HKV6:=Hd (hKK HK0.out hHeld);have hVs:=hHeld.size;have hsV:s+1<V.heap.size:=by have:=HSZ.out;have:=HS3.out;omega
     clear hHeld
     gi_wp2
     have a0:∀u:World,Rest s W6 u→u.cell? ⟨V.heap.size,0,none⟩=some (.int .i64 (pat M.pts p0).x):=fun u hu=>hu.cell kA (by omega) 0 _ rfl
     have a1:∀u:World,Rest s W6 u→u.cell? ⟨V.heap.size,1,none⟩=some (.int .i64 (pat M.pts p0).y):=fun u hu=>hu.cell kA (by omega) 1 _ rfl
     have b0:∀u:World,Rest s W6 u→u.cell? ⟨V.heap.size+1,0,none⟩=some (.int .i64 (pat M.pts p1).x):=fun u hu=>hu.cell kB (by omega) 0 _ rfl
     have b1:∀u:World,Rest s W6 u→u.cell? ⟨V.heap.size+1,1,none⟩=some (.int .i64 (pat M.pts p1).y):=fun u hu=>hu.cell kB (by omega) 1 _ rfl
     have c0:∀u:World,Rest s W6 u→u.cell? ⟨V.heap.size+2,0,none⟩=some (.int .i64 (pat M.pts p2).x):=fun u hu=>hu.cell kC (by omega) 0 _ rfl
     have c1:∀u:World,Rest s W6 u→u.cell? ⟨V.heap.size+2,1,none⟩=some (.int .i64 (pat M.pts p2).y):=fun u hu=>hu.cell kC (by omega) 1 _ rfl
     obtain⟨gs,ks,cs,hs1,hs2,hs3⟩:=HA6.out.sum;refine Go.Gq.region_held_in (Rest s W6) (by kernel_rfl) (by kernel_rfl) (Rest.drew s W6) (fun hHeld=>?_);refine wpAnyH_take (i:=1) (v:=?_) rfl (by kernel_rfl) (by kernel_rfl) (by kernel_rfl) (fun _ _ _ h=>h) (Or.inl ⟨by rfl,?_⟩) (by assumption) ?_;rotate_left
     ·intro u hu;go_simp;(try with_reducible rfl)
     try simp only[Act.put,pu]
     refine wpAnyH_take (i:=2) (v:=?_) rfl (by kernel_rfl) (by kernel_rfl) (by kernel_rfl) (fun _ _ _ h=>h) (Or.inl ⟨by rfl,?_⟩) (by assumption) ?_;rotate_left
     ·intro u hu;go_simp;(try with_reducible rfl)
     try simp only[Act.put,pu]
     refine wpAnyH_take (i:=3) (v:=?_) rfl (by kernel_rfl) (by kernel_rfl) (by kernel_rfl) (fun _ _ _ h=>h) (Or.inl ⟨by rfl,?_⟩) (by assumption) ?_;rotate_left
     ·intro u hu;go_simp;(try with_reducible rfl)
     try simp only[Act.put,pu]
     refine wpAnyH_ready (rs:=[0,4]) (by kernel_rfl) (by simp) ?_;refine AllReadyH.cons rfl (fun K hK=>?_) ?_
     ·obtain⟨x0,x1,x2,x3⟩:=hs1.two
      go_simp;refine hK.out _ _ (Rest.drew s W6) (fun hHeld=>?_);clear hK K x0 x1 x2 x3
      try simp only[Act.put,pu]
      refine wpAnyH_ready (rs:=[4]) (by kernel_rfl) (by simp) ?_;refine AllReadyH.cons rfl (fun K hK=>?_) AllReadyH.nil;go_simp
      go_at_call 94
      refine(HAR.out _).mono ?_;rintro e w7 ⟨⟨g7,k7,c7,hg7,rfl,hm7⟩,hb7'⟩;have hb7:=bel_step (bel_drew (bel_refl W6)) hb7';refine hK.out _ _ (Rest.of hb7) (fun hHeld=>?_);clear hK K
      try simp only[Act.put,pu]
      refine wpAnyH_ready (rs:=[5]) (by kernel_rfl) (by simp) ?_;refine AllReadyH.cons rfl (fun K hK=>?_) AllReadyH.nil;go_simp
      go_at_call 74
      refine(plus_any _ _ ks cs k7 c7 N A0 3 3 _ ((hs2.later hb7).short (by have:=HBD.out;omega)) (hm7.short (by have:=HBD.out;omega)) (by omega) (by omega) HBD.out).mono ?_;rintro e w8 ⟨⟨g8,k8,c8,hg8,rfl,hm8⟩,hb8⟩;have hb68:=bel_step hb7 hb8;refine hK.out _ _ (Rest.of hb68) (fun hHeld=>?_);clear hK K
      try simp only[Act.put,pu]
      have k8s:=hs1.later hb68;obtain⟨x0,x1,x2,x3⟩:=k8s.two;refine wpAnyH_ready (rs:=[6]) (by kernel_rfl) (by simp) ?_;refine AllReadyH.cons rfl (fun K hK=>?_) AllReadyH.nil;go_simp;refine hK.out _ _ (Rest.set hHeld) (fun hHeld=>?_);clear hK K
      try simp only[Act.put,pu]
      refine wpAnyH_done (by kernel_rfl) ?_ _;unfold Go.Gq.OnlyN
      gi_wp2
      exact FIN.out _ _ _ _ _ _ _ _ HA6.out HK6.out HF6.out HKV6.out HZ6.out (by omega) hb68 (by have:=hb7.size;omega) k8s hm8
     refine AllReadyH.cons rfl (fun K hK=>?_) AllReadyH.nil;go_simp
     go_at_call 94
     refine(HAR.out _).mono ?_;rintro e w7 ⟨⟨g7,k7,c7,hg7,rfl,hm7⟩,hb7'⟩;have hb7:=bel_step (bel_drew (bel_refl W6)) hb7';refine hK.out _ _ (Rest.of hb7) (fun hHeld=>?_);clear hK K
     try simp only[Act.put,pu]
     refine wpAnyH_ready (rs:=[0]) (by kernel_rfl) (by simp) ?_;refine AllReadyH.cons rfl (fun K hK=>?_) AllReadyH.nil;obtain⟨x0,x1,x2,x3⟩:=(hs1.later hb7).two;go_simp;refine hK.out _ _ hHeld (fun hHeld=>?_);clear hK K x0 x1 x2 x3
     try simp only[Act.put,pu]
     refine wpAnyH_ready (rs:=[5]) (by kernel_rfl) (by simp) ?_;refine AllReadyH.cons rfl (fun K hK=>?_) AllReadyH.nil;go_simp
     go_at_call 74
     refine(plus_any _ _ ks cs k7 c7 N A0 3 3 _ ((hs2.later hb7).short (by have:=HBD.out;omega)) (hm7.short (by have:=HBD.out;omega)) (by omega) (by omega) HBD.out).mono ?_;rintro e w8 ⟨⟨g8,k8,c8,hg8,rfl,hm8⟩,hb8⟩;have hb68:=bel_step hb7 hb8;refine hK.out _ _ (Rest.of hb68) (fun hHeld=>?_);clear hK K
     try simp only[Act.put,pu]
     have k8s:=hs1.later hb68;obtain⟨x0,x1,x2,x3⟩:=k8s.two;refine wpAnyH_ready (rs:=[6]) (by kernel_rfl) (by simp) ?_;refine AllReadyH.cons rfl (fun K hK=>?_) AllReadyH.nil;go_simp;refine hK.out _ _ (Rest.set hHeld) (fun hHeld=>?_);clear hK K
     try simp only[Act.put,pu]
     refine wpAnyH_done (by kernel_rfl) ?_ _;unfold Go.Gq.OnlyN
     gi_wp2
     exact FIN.out _ _ _ _ _ _ _ _ HA6.out HK6.out HF6.out HKV6.out HZ6.out (by omega) hb68 (by have:=hb7.size;omega) k8s hm8
    exact AllReadyH.nil
   refine AllReadyH.cons rfl (fun K hK=>?_) ?_
   ·go_simp
    refine hK.out _ _ (by first| exact bel_drew (bel_alloc (bel_refl V) _)|exact bel_drew (bel_alloc (bel_alloc (bel_refl V) _) _)|exact bel_drew (bel_alloc (bel_alloc (bel_alloc (bel_refl V) _) _) _)) (fun hHeld=>?_);clear hK K
    try simp only[Act.put,pu]
    refine wpAnyH_ready (rs:=[28]) (by kernel_rfl) (by simp) ?_;refine AllReadyH.cons rfl (fun K hK=>?_) ?_
    ·go_simp
     refine hK.out _ _ (by first| exact bel_drew (bel_alloc (bel_refl V) _)|exact bel_drew (bel_alloc (bel_alloc (bel_refl V) _) _)|exact bel_drew (bel_alloc (bel_alloc (bel_alloc (bel_refl V) _) _) _)) (fun hHeld=>?_);clear hK K
     try simp only[Act.put,pu]
     generalize ((((V.alloc (.cells #[.int .i64 0,.int .i64 0] 24)).alloc (.cells #[.int .i64 0,.int .i64 0] 24)).alloc (.cells #[.int .i64 0,.int .i64 0] 24)).drew)=W3 at *;obtain⟨x0,x1,x2,x3⟩:=kA.two;refine wpAnyH_ready (rs:=[30]) (by kernel_rfl) (by simp) ?_;refine AllReadyH.cons rfl (fun K hK=>?_) AllReadyH.nil;go_simp;have hB:Below V.heap.size V ((W3.setCell ⟨V.heap.size,0,none⟩ (.int .i64 (pat M.pts p0).x)).setCell ⟨V.heap.size,1,none⟩ (.int .i64 (pat M.pts p0).y)):=bel_set (bel_set hHeld (by omega) _ _) (by omega) _ _;have kA':=st2 kA (.int .i64 (pat M.pts p0).x) (.int .i64 (pat M.pts p0).y);have kB':=ot2 kB (c:=V.heap.size) (by omega) (.int .i64 (pat M.pts p0).x) (.int .i64 (pat M.pts p0).y);have kC':=ot2 kC (c:=V.heap.size) (by omega) (.int .i64 (pat M.pts p0).x) (.int .i64 (pat M.pts p0).y);clear kA kB kC x0 x1 x2 x3;refine hK.out _ _ hB (fun hHeld=>?_);clear hK K
     try simp only[Act.put,pu]
     have kA:=kA';have kB:=kB';have kC:=kC';clear kA' kB' kC' hB;generalize ((W3.setCell ⟨V.heap.size,0,none⟩ (.int .i64 (pat M.pts p0).x)).setCell ⟨V.heap.size,1,none⟩ (.int .i64 (pat M.pts p0).y))=W4 at *;obtain⟨x0,x1,x2,x3⟩:=kC.two;refine wpAnyH_ready (rs:=[31]) (by kernel_rfl) (by simp) ?_;refine AllReadyH.cons rfl (fun K hK=>?_) AllReadyH.nil;go_simp;have hB:Below V.heap.size V ((W4.setCell ⟨V.heap.size+2,0,none⟩ (.int .i64 (pat M.pts p1).x)).setCell ⟨V.heap.size+2,1,none⟩ (.int .i64 (pat M.pts p1).y)):=bel_set (bel_set hHeld (by omega) _ _) (by omega) _ _;have kA':=ot2 kA (c:=V.heap.size+2) (by omega) (.int .i64 (pat M.pts p1).x) (.int .i64 (pat M.pts p1).y);have kB':=ot2 kB (c:=V.heap.size+2) (by omega) (.int .i64 (pat M.pts p1).x) (.int .i64 (pat M.pts p1).y);have kC':=st2 kC (.int .i64 (pat M.pts p1).x) (.int .i64 (pat M.pts p1).y);clear kA kB kC x0 x1 x2 x3;refine hK.out _ _ hB (fun hHeld=>?_);clear hK K
     try simp only[Act.put,pu]
     have kA:=kA';have kB:=kB';have kC:=kC';clear kA' kB' kC' hB;generalize ((W4.setCell ⟨V.heap.size+2,0,none⟩ (.int .i64 (pat M.pts p1).x)).setCell ⟨V.heap.size+2,1,none⟩ (.int .i64 (pat M.pts p1).y))=W5 at *;obtain⟨x0,x1,x2,x3⟩:=kB.two;refine wpAnyH_ready (rs:=[32]) (by kernel_rfl) (by simp) ?_;refine AllReadyH.cons rfl (fun K hK=>?_) AllReadyH.nil;go_simp;have hB:Below V.heap.size V ((W5.setCell ⟨V.heap.size+1,0,none⟩ (.int .i64 (pat M.pts p2).x)).setCell ⟨V.heap.size+1,1,none⟩ (.int .i64 (pat M.pts p2).y)):=bel_set (bel_set hHeld (by omega) _ _) (by omega) _ _;have kA':=ot2 kA (c:=V.heap.size+1) (by omega) (.int .i64 (pat M.pts p2).x) (.int .i64 (pat M.pts p2).y);have kB':=st2 kB (.int .i64 (pat M.pts p2).x) (.int .i64 (pat M.pts p2).y);have kC':=ot2 kC (c:=V.heap.size+1) (by omega) (.int .i64 (pat M.pts p2).x) (.int .i64 (pat M.pts p2).y);clear kA kB kC x0 x1 x2 x3;refine hK.out _ _ hB (fun hHeld=>?_);clear hK K
     try simp only[Act.put,pu]
     have kA:=kA';have kB:=kB';have kC:=kC';clear kA' kB' kC' hB;generalize ((W5.setCell ⟨V.heap.size+1,0,none⟩ (.int .i64 (pat M.pts p2).x)).setCell ⟨V.heap.size+1,1,none⟩ (.int .i64 (pat M.pts p2).y))=W6 at *;refine wpAnyH_done (by kernel_rfl) ?_ _;unfold Go.Gq.OnlyN;have HA6:=Hd (HHA.out.later hHeld);have HK6:=Hd (HK0.out.trans (hKK HK0.out hHeld));have HF6:=Hd (keeps_later (B:=W.heap.size) hHeld);have HZ6:=Hd (Nat.le_trans HSZ.out hHeld.size);have HKV6:=Hd (hKK HK0.out hHeld);have hVs:=hHeld.size;have hsV:s+1<V.heap.size:=by have:=HSZ.out;have:=HS3.out;omega
     clear hHeld
     gi_wp2
     have a0:∀u:World,Rest s W6 u→u.cell? ⟨V.heap.size,0,none⟩=some (.int .i64 (pat M.pts p0).x):=fun u hu=>hu.cell kA (by omega) 0 _ rfl
     have a1:∀u:World,Rest s W6 u→u.cell? ⟨V.heap.size,1,none⟩=some (.int .i64 (pat M.pts p0).y):=fun u hu=>hu.cell kA (by omega) 1 _ rfl
     have b0:∀u:World,Rest s W6 u→u.cell? ⟨V.heap.size+2,0,none⟩=some (.int .i64 (pat M.pts p1).x):=fun u hu=>hu.cell kC (by omega) 0 _ rfl
     have b1:∀u:World,Rest s W6 u→u.cell? ⟨V.heap.size+2,1,none⟩=some (.int .i64 (pat M.pts p1).y):=fun u hu=>hu.cell kC (by omega) 1 _ rfl
     have c0:∀u:World,Rest s W6 u→u.cell? ⟨V.heap.size+1,0,none⟩=some (.int .i64 (pat M.pts p2).x):=fun u hu=>hu.cell kB (by omega) 0 _ rfl
     have c1:∀u:World,Rest s W6 u→u.cell? ⟨V.heap.size+1,1,none⟩=some (.int .i64 (pat M.pts p2).y):=fun u hu=>hu.cell kB (by omega) 1 _ rfl
     obtain⟨gs,ks,cs,hs1,hs2,hs3⟩:=HA6.out.sum;refine Go.Gq.region_held_in (Rest s W6) (by kernel_rfl) (by kernel_rfl) (Rest.drew s W6) (fun hHeld=>?_);refine wpAnyH_take (i:=1) (v:=?_) rfl (by kernel_rfl) (by kernel_rfl) (by kernel_rfl) (fun _ _ _ h=>h) (Or.inl ⟨by rfl,?_⟩) (by assumption) ?_;rotate_left
     ·intro u hu;go_simp;(try with_reducible rfl)
     try simp only[Act.put,pu]
     refine wpAnyH_take (i:=2) (v:=?_) rfl (by kernel_rfl) (by kernel_rfl) (by kernel_rfl) (fun _ _ _ h=>h) (Or.inl ⟨by rfl,?_⟩) (by assumption) ?_;rotate_left
     ·intro u hu;go_simp;(try with_reducible rfl)
     try simp only[Act.put,pu]
     refine wpAnyH_take (i:=3) (v:=?_) rfl (by kernel_rfl) (by kernel_rfl) (by kernel_rfl) (fun _ _ _ h=>h) (Or.inl ⟨by rfl,?_⟩) (by assumption) ?_;rotate_left
     ·intro u hu;go_simp;(try with_reducible rfl)
     try simp only[Act.put,pu]
     refine wpAnyH_ready (rs:=[0,4]) (by kernel_rfl) (by simp) ?_;refine AllReadyH.cons rfl (fun K hK=>?_) ?_
     ·obtain⟨x0,x1,x2,x3⟩:=hs1.two
      go_simp;refine hK.out _ _ (Rest.drew s W6) (fun hHeld=>?_);clear hK K x0 x1 x2 x3
      try simp only[Act.put,pu]
      refine wpAnyH_ready (rs:=[4]) (by kernel_rfl) (by simp) ?_;refine AllReadyH.cons rfl (fun K hK=>?_) AllReadyH.nil;go_simp
      go_at_call 94
      refine(HAR.out _).mono ?_;rintro e w7 ⟨⟨g7,k7,c7,hg7,rfl,hm7⟩,hb7'⟩;have hb7:=bel_step (bel_drew (bel_refl W6)) hb7';refine hK.out _ _ (Rest.of hb7) (fun hHeld=>?_);clear hK K
      try simp only[Act.put,pu]
      refine wpAnyH_ready (rs:=[5]) (by kernel_rfl) (by simp) ?_;refine AllReadyH.cons rfl (fun K hK=>?_) AllReadyH.nil;go_simp
      go_at_call 74
      refine(plus_any _ _ ks cs k7 c7 N A0 3 3 _ ((hs2.later hb7).short (by have:=HBD.out;omega)) (hm7.short (by have:=HBD.out;omega)) (by omega) (by omega) HBD.out).mono ?_;rintro e w8 ⟨⟨g8,k8,c8,hg8,rfl,hm8⟩,hb8⟩;have hb68:=bel_step hb7 hb8;refine hK.out _ _ (Rest.of hb68) (fun hHeld=>?_);clear hK K
      try simp only[Act.put,pu]
      have k8s:=hs1.later hb68;obtain⟨x0,x1,x2,x3⟩:=k8s.two;refine wpAnyH_ready (rs:=[6]) (by kernel_rfl) (by simp) ?_;refine AllReadyH.cons rfl (fun K hK=>?_) AllReadyH.nil;go_simp;refine hK.out _ _ (Rest.set hHeld) (fun hHeld=>?_);clear hK K
      try simp only[Act.put,pu]
      refine wpAnyH_done (by kernel_rfl) ?_ _;unfold Go.Gq.OnlyN
      gi_wp2
      exact FIN.out _ _ _ _ _ _ _ _ HA6.out HK6.out HF6.out HKV6.out HZ6.out (by omega) hb68 (by have:=hb7.size;omega) k8s hm8
     refine AllReadyH.cons rfl (fun K hK=>?_) AllReadyH.nil;go_simp
     go_at_call 94
     refine(HAR.out _).mono ?_;rintro e w7 ⟨⟨g7,k7,c7,hg7,rfl,hm7⟩,hb7'⟩;have hb7:=bel_step (bel_drew (bel_refl W6)) hb7';refine hK.out _ _ (Rest.of hb7) (fun hHeld=>?_);clear hK K
     try simp only[Act.put,pu]
     refine wpAnyH_ready (rs:=[0]) (by kernel_rfl) (by simp) ?_;refine AllReadyH.cons rfl (fun K hK=>?_) AllReadyH.nil;obtain⟨x0,x1,x2,x3⟩:=(hs1.later hb7).two;go_simp;refine hK.out _ _ hHeld (fun hHeld=>?_);clear hK K x0 x1 x2 x3
     try simp only[Act.put,pu]
     refine wpAnyH_ready (rs:=[5]) (by kernel_rfl) (by simp) ?_;refine AllReadyH.cons rfl (fun K hK=>?_) AllReadyH.nil;go_simp
     go_at_call 74
     refine(plus_any _ _ ks cs k7 c7 N A0 3 3 _ ((hs2.later hb7).short (by have:=HBD.out;omega)) (hm7.short (by have:=HBD.out;omega)) (by omega) (by omega) HBD.out).mono ?_;rintro e w8 ⟨⟨g8,k8,c8,hg8,rfl,hm8⟩,hb8⟩;have hb68:=bel_step hb7 hb8;refine hK.out _ _ (Rest.of hb68) (fun hHeld=>?_);clear hK K
     try simp only[Act.put,pu]
     have k8s:=hs1.later hb68;obtain⟨x0,x1,x2,x3⟩:=k8s.two;refine wpAnyH_ready (rs:=[6]) (by kernel_rfl) (by simp) ?_;refine AllReadyH.cons rfl (fun K hK=>?_) AllReadyH.nil;go_simp;refine hK.out _ _ (Rest.set hHeld) (fun hHeld=>?_);clear hK K
     try simp only[Act.put,pu]
     refine wpAnyH_done (by kernel_rfl) ?_ _;unfold Go.Gq.OnlyN
     gi_wp2
     exact FIN.out _ _ _ _ _ _ _ _ HA6.out HK6.out HF6.out HKV6.out HZ6.out (by omega) hb68 (by have:=hb7.size;omega) k8s hm8
    exact AllReadyH.nil
   exact AllReadyH.nil
  refine AllReadyH.cons rfl (fun K hK=>?_) ?_
  ·go_simp
   refine hK.out _ _ (by first| exact bel_drew (bel_alloc (bel_refl V) _)|exact bel_drew (bel_alloc (bel_alloc (bel_refl V) _) _)|exact bel_drew (bel_alloc (bel_alloc (bel_alloc (bel_refl V) _) _) _)) (fun hHeld=>?_);clear hK K
   try simp only[Act.put,pu]
   refine wpAnyH_ready (rs:=[27,29]) (by kernel_rfl) (by simp) ?_;refine AllReadyH.cons rfl (fun K hK=>?_) ?_
   ·go_simp
    refine hK.out _ _ (by first| exact bel_drew (bel_alloc (bel_refl V) _)|exact bel_drew (bel_alloc (bel_alloc (bel_refl V) _) _)|exact bel_drew (bel_alloc (bel_alloc (bel_alloc (bel_refl V) _) _) _)) (fun hHeld=>?_);clear hK K
    try simp only[Act.put,pu]
    refine wpAnyH_ready (rs:=[29]) (by kernel_rfl) (by simp) ?_;refine AllReadyH.cons rfl (fun K hK=>?_) ?_
    ·go_simp
     refine hK.out _ _ (by first| exact bel_drew (bel_alloc (bel_refl V) _)|exact bel_drew (bel_alloc (bel_alloc (bel_refl V) _) _)|exact bel_drew (bel_alloc (bel_alloc (bel_alloc (bel_refl V) _) _) _)) (fun hHeld=>?_);clear hK K
     try simp only[Act.put,pu]
     generalize ((((V.alloc (.cells #[.int .i64 0,.int .i64 0] 24)).alloc (.cells #[.int .i64 0,.int .i64 0] 24)).alloc (.cells #[.int .i64 0,.int .i64 0] 24)).drew)=W3 at *;obtain⟨x0,x1,x2,x3⟩:=kB.two;refine wpAnyH_ready (rs:=[30]) (by kernel_rfl) (by simp) ?_;refine AllReadyH.cons rfl (fun K hK=>?_) AllReadyH.nil;go_simp;have hB:Below V.heap.size V ((W3.setCell ⟨V.heap.size+1,0,none⟩ (.int .i64 (pat M.pts p0).x)).setCell ⟨V.heap.size+1,1,none⟩ (.int .i64 (pat M.pts p0).y)):=bel_set (bel_set hHeld (by omega) _ _) (by omega) _ _;have kA':=ot2 kA (c:=V.heap.size+1) (by omega) (.int .i64 (pat M.pts p0).x) (.int .i64 (pat M.pts p0).y);have kB':=st2 kB (.int .i64 (pat M.pts p0).x) (.int .i64 (pat M.pts p0).y);have kC':=ot2 kC (c:=V.heap.size+1) (by omega) (.int .i64 (pat M.pts p0).x) (.int .i64 (pat M.pts p0).y);clear kA kB kC x0 x1 x2 x3;refine hK.out _ _ hB (fun hHeld=>?_);clear hK K
     try simp only[Act.put,pu]
     have kA:=kA';have kB:=kB';have kC:=kC';clear kA' kB' kC' hB;generalize ((W3.setCell ⟨V.heap.size+1,0,none⟩ (.int .i64 (pat M.pts p0).x)).setCell ⟨V.heap.size+1,1,none⟩ (.int .i64 (pat M.pts p0).y))=W4 at *;obtain⟨x0,x1,x2,x3⟩:=kA.two;refine wpAnyH_ready (rs:=[31]) (by kernel_rfl) (by simp) ?_;refine AllReadyH.cons rfl (fun K hK=>?_) AllReadyH.nil;go_simp;have hB:Below V.heap.size V ((W4.setCell ⟨V.heap.size,0,none⟩ (.int .i64 (pat M.pts p1).x)).setCell ⟨V.heap.size,1,none⟩ (.int .i64 (pat M.pts p1).y)):=bel_set (bel_set hHeld (by omega) _ _) (by omega) _ _;have kA':=st2 kA (.int .i64 (pat M.pts p1).x) (.int .i64 (pat M.pts p1).y);have kB':=ot2 kB (c:=V.heap.size) (by omega) (.int .i64 (pat M.pts p1).x) (.int .i64 (pat M.pts p1).y);have kC':=ot2 kC (c:=V.heap.size) (by omega) (.int .i64 (pat M.pts p1).x) (.int .i64 (pat M.pts p1).y);clear kA kB kC x0 x1 x2 x3;refine hK.out _ _ hB (fun hHeld=>?_);clear hK K
     try simp only[Act.put,pu]
     have kA:=kA';have kB:=kB';have kC:=kC';clear kA' kB' kC' hB;generalize ((W4.setCell ⟨V.heap.size,0,none⟩ (.int .i64 (pat M.pts p1).x)).setCell ⟨V.heap.size,1,none⟩ (.int .i64 (pat M.pts p1).y))=W5 at *;obtain⟨x0,x1,x2,x3⟩:=kC.two;refine wpAnyH_ready (rs:=[32]) (by kernel_rfl) (by simp) ?_;refine AllReadyH.cons rfl (fun K hK=>?_) AllReadyH.nil;go_simp;have hB:Below V.heap.size V ((W5.setCell ⟨V.heap.size+2,0,none⟩ (.int .i64 (pat M.pts p2).x)).setCell ⟨V.heap.size+2,1,none⟩ (.int .i64 (pat M.pts p2).y)):=bel_set (bel_set hHeld (by omega) _ _) (by omega) _ _;have kA':=ot2 kA (c:=V.heap.size+2) (by omega) (.int .i64 (pat M.pts p2).x) (.int .i64 (pat M.pts p2).y);have kB':=ot2 kB (c:=V.heap.size+2) (by omega) (.int .i64 (pat M.pts p2).x) (.int .i64 (pat M.pts p2).y);have kC':=st2 kC (.int .i64 (pat M.pts p2).x) (.int .i64 (pat M.pts p2).y);clear kA kB kC x0 x1 x2 x3;refine hK.out _ _ hB (fun hHeld=>?_);clear hK K
     try simp only[Act.put,pu]
     have kA:=kA';have kB:=kB';have kC:=kC';clear kA' kB' kC' hB;generalize ((W5.setCell ⟨V.heap.size+2,0,none⟩ (.int .i64 (pat M.pts p2).x)).setCell ⟨V.heap.size+2,1,none⟩ (.int .i64 (pat M.pts p2).y))=W6 at *;refine wpAnyH_done (by kernel_rfl) ?_ _;unfold Go.Gq.OnlyN;have HA6:=Hd (HHA.out.later hHeld);have HK6:=Hd (HK0.out.trans (hKK HK0.out hHeld));have HF6:=Hd (keeps_later (B:=W.heap.size) hHeld);have HZ6:=Hd (Nat.le_trans HSZ.out hHeld.size);have HKV6:=Hd (hKK HK0.out hHeld);have hVs:=hHeld.size;have hsV:s+1<V.heap.size:=by have:=HSZ.out;have:=HS3.out;omega
     clear hHeld
     gi_wp2
     have a0:∀u:World,Rest s W6 u→u.cell? ⟨V.heap.size+1,0,none⟩=some (.int .i64 (pat M.pts p0).x):=fun u hu=>hu.cell kB (by omega) 0 _ rfl
     have a1:∀u:World,Rest s W6 u→u.cell? ⟨V.heap.size+1,1,none⟩=some (.int .i64 (pat M.pts p0).y):=fun u hu=>hu.cell kB (by omega) 1 _ rfl
     have b0:∀u:World,Rest s W6 u→u.cell? ⟨V.heap.size,0,none⟩=some (.int .i64 (pat M.pts p1).x):=fun u hu=>hu.cell kA (by omega) 0 _ rfl
     have b1:∀u:World,Rest s W6 u→u.cell? ⟨V.heap.size,1,none⟩=some (.int .i64 (pat M.pts p1).y):=fun u hu=>hu.cell kA (by omega) 1 _ rfl
     have c0:∀u:World,Rest s W6 u→u.cell? ⟨V.heap.size+2,0,none⟩=some (.int .i64 (pat M.pts p2).x):=fun u hu=>hu.cell kC (by omega) 0 _ rfl
     have c1:∀u:World,Rest s W6 u→u.cell? ⟨V.heap.size+2,1,none⟩=some (.int .i64 (pat M.pts p2).y):=fun u hu=>hu.cell kC (by omega) 1 _ rfl
     obtain⟨gs,ks,cs,hs1,hs2,hs3⟩:=HA6.out.sum;refine Go.Gq.region_held_in (Rest s W6) (by kernel_rfl) (by kernel_rfl) (Rest.drew s W6) (fun hHeld=>?_);refine wpAnyH_take (i:=1) (v:=?_) rfl (by kernel_rfl) (by kernel_rfl) (by kernel_rfl) (fun _ _ _ h=>h) (Or.inl ⟨by rfl,?_⟩) (by assumption) ?_;rotate_left
     ·intro u hu;go_simp;(try with_reducible rfl)
     try simp only[Act.put,pu]
     refine wpAnyH_take (i:=2) (v:=?_) rfl (by kernel_rfl) (by kernel_rfl) (by kernel_rfl) (fun _ _ _ h=>h) (Or.inl ⟨by rfl,?_⟩) (by assumption) ?_;rotate_left
     ·intro u hu;go_simp;(try with_reducible rfl)
     try simp only[Act.put,pu]
     refine wpAnyH_take (i:=3) (v:=?_) rfl (by kernel_rfl) (by kernel_rfl) (by kernel_rfl) (fun _ _ _ h=>h) (Or.inl ⟨by rfl,?_⟩) (by assumption) ?_;rotate_left
     ·intro u hu;go_simp;(try with_reducible rfl)
     try simp only[Act.put,pu]
     refine wpAnyH_ready (rs:=[0,4]) (by kernel_rfl) (by simp) ?_;refine AllReadyH.cons rfl (fun K hK=>?_) ?_
     ·obtain⟨x0,x1,x2,x3⟩:=hs1.two
      go_simp;refine hK.out _ _ (Rest.drew s W6) (fun hHeld=>?_);clear hK K x0 x1 x2 x3
      try simp only[Act.put,pu]
      refine wpAnyH_ready (rs:=[4]) (by kernel_rfl) (by simp) ?_;refine AllReadyH.cons rfl (fun K hK=>?_) AllReadyH.nil;go_simp
      go_at_call 94
      refine(HAR.out _).mono ?_;rintro e w7 ⟨⟨g7,k7,c7,hg7,rfl,hm7⟩,hb7'⟩;have hb7:=bel_step (bel_drew (bel_refl W6)) hb7';refine hK.out _ _ (Rest.of hb7) (fun hHeld=>?_);clear hK K
      try simp only[Act.put,pu]
      refine wpAnyH_ready (rs:=[5]) (by kernel_rfl) (by simp) ?_;refine AllReadyH.cons rfl (fun K hK=>?_) AllReadyH.nil;go_simp
      go_at_call 74
      refine(plus_any _ _ ks cs k7 c7 N A0 3 3 _ ((hs2.later hb7).short (by have:=HBD.out;omega)) (hm7.short (by have:=HBD.out;omega)) (by omega) (by omega) HBD.out).mono ?_;rintro e w8 ⟨⟨g8,k8,c8,hg8,rfl,hm8⟩,hb8⟩;have hb68:=bel_step hb7 hb8;refine hK.out _ _ (Rest.of hb68) (fun hHeld=>?_);clear hK K
      try simp only[Act.put,pu]
      have k8s:=hs1.later hb68;obtain⟨x0,x1,x2,x3⟩:=k8s.two;refine wpAnyH_ready (rs:=[6]) (by kernel_rfl) (by simp) ?_;refine AllReadyH.cons rfl (fun K hK=>?_) AllReadyH.nil;go_simp;refine hK.out _ _ (Rest.set hHeld) (fun hHeld=>?_);clear hK K
      try simp only[Act.put,pu]
      refine wpAnyH_done (by kernel_rfl) ?_ _;unfold Go.Gq.OnlyN
      gi_wp2
      exact FIN.out _ _ _ _ _ _ _ _ HA6.out HK6.out HF6.out HKV6.out HZ6.out (by omega) hb68 (by have:=hb7.size;omega) k8s hm8
     refine AllReadyH.cons rfl (fun K hK=>?_) AllReadyH.nil;go_simp
     go_at_call 94
     refine(HAR.out _).mono ?_;rintro e w7 ⟨⟨g7,k7,c7,hg7,rfl,hm7⟩,hb7'⟩;have hb7:=bel_step (bel_drew (bel_refl W6)) hb7';refine hK.out _ _ (Rest.of hb7) (fun hHeld=>?_);clear hK K
     try simp only[Act.put,pu]
     refine wpAnyH_ready (rs:=[0]) (by kernel_rfl) (by simp) ?_;refine AllReadyH.cons rfl (fun K hK=>?_) AllReadyH.nil;obtain⟨x0,x1,x2,x3⟩:=(hs1.later hb7).two;go_simp;refine hK.out _ _ hHeld (fun hHeld=>?_);clear hK K x0 x1 x2 x3
     try simp only[Act.put,pu]
     refine wpAnyH_ready (rs:=[5]) (by kernel_rfl) (by simp) ?_;refine AllReadyH.cons rfl (fun K hK=>?_) AllReadyH.nil;go_simp
     go_at_call 74
     refine(plus_any _ _ ks cs k7 c7 N A0 3 3 _ ((hs2.later hb7).short (by have:=HBD.out;omega)) (hm7.short (by have:=HBD.out;omega)) (by omega) (by omega) HBD.out).mono ?_;rintro e w8 ⟨⟨g8,k8,c8,hg8,rfl,hm8⟩,hb8⟩;have hb68:=bel_step hb7 hb8;refine hK.out _ _ (Rest.of hb68) (fun hHeld=>?_);clear hK K
     try simp only[Act.put,pu]
     have k8s:=hs1.later hb68;obtain⟨x0,x1,x2,x3⟩:=k8s.two;refine wpAnyH_ready (rs:=[6]) (by kernel_rfl) (by simp) ?_;refine AllReadyH.cons rfl (fun K hK=>?_) AllReadyH.nil;go_simp;refine hK.out _ _ (Rest.set hHeld) (fun hHeld=>?_);clear hK K
     try simp only[Act.put,pu]
     refine wpAnyH_done (by kernel_rfl) ?_ _;unfold Go.Gq.OnlyN
     gi_wp2
     exact FIN.out _ _ _ _ _ _ _ _ HA6.out HK6.out HF6.out HKV6.out HZ6.out (by omega) hb68 (by have:=hb7.size;omega) k8s hm8
    exact AllReadyH.nil
   refine AllReadyH.cons rfl (fun K hK=>?_) ?_
   ·go_simp
    refine hK.out _ _ (by first| exact bel_drew (bel_alloc (bel_refl V) _)|exact bel_drew (bel_alloc (bel_alloc (bel_refl V) _) _)|exact bel_drew (bel_alloc (bel_alloc (bel_alloc (bel_refl V) _) _) _)) (fun hHeld=>?_);clear hK K
    try simp only[Act.put,pu]
    refine wpAnyH_ready (rs:=[27]) (by kernel_rfl) (by simp) ?_;refine AllReadyH.cons rfl (fun K hK=>?_) ?_
    ·go_simp
     refine hK.out _ _ (by first| exact bel_drew (bel_alloc (bel_refl V) _)|exact bel_drew (bel_alloc (bel_alloc (bel_refl V) _) _)|exact bel_drew (bel_alloc (bel_alloc (bel_alloc (bel_refl V) _) _) _)) (fun hHeld=>?_);clear hK K
     try simp only[Act.put,pu]
     generalize ((((V.alloc (.cells #[.int .i64 0,.int .i64 0] 24)).alloc (.cells #[.int .i64 0,.int .i64 0] 24)).alloc (.cells #[.int .i64 0,.int .i64 0] 24)).drew)=W3 at *;obtain⟨x0,x1,x2,x3⟩:=kC.two;refine wpAnyH_ready (rs:=[30]) (by kernel_rfl) (by simp) ?_;refine AllReadyH.cons rfl (fun K hK=>?_) AllReadyH.nil;go_simp;have hB:Below V.heap.size V ((W3.setCell ⟨V.heap.size+2,0,none⟩ (.int .i64 (pat M.pts p0).x)).setCell ⟨V.heap.size+2,1,none⟩ (.int .i64 (pat M.pts p0).y)):=bel_set (bel_set hHeld (by omega) _ _) (by omega) _ _;have kA':=ot2 kA (c:=V.heap.size+2) (by omega) (.int .i64 (pat M.pts p0).x) (.int .i64 (pat M.pts p0).y);have kB':=ot2 kB (c:=V.heap.size+2) (by omega) (.int .i64 (pat M.pts p0).x) (.int .i64 (pat M.pts p0).y);have kC':=st2 kC (.int .i64 (pat M.pts p0).x) (.int .i64 (pat M.pts p0).y);clear kA kB kC x0 x1 x2 x3;refine hK.out _ _ hB (fun hHeld=>?_);clear hK K
     try simp only[Act.put,pu]
     have kA:=kA';have kB:=kB';have kC:=kC';clear kA' kB' kC' hB;generalize ((W3.setCell ⟨V.heap.size+2,0,none⟩ (.int .i64 (pat M.pts p0).x)).setCell ⟨V.heap.size+2,1,none⟩ (.int .i64 (pat M.pts p0).y))=W4 at *;obtain⟨x0,x1,x2,x3⟩:=kA.two;refine wpAnyH_ready (rs:=[31]) (by kernel_rfl) (by simp) ?_;refine AllReadyH.cons rfl (fun K hK=>?_) AllReadyH.nil;go_simp;have hB:Below V.heap.size V ((W4.setCell ⟨V.heap.size,0,none⟩ (.int .i64 (pat M.pts p1).x)).setCell ⟨V.heap.size,1,none⟩ (.int .i64 (pat M.pts p1).y)):=bel_set (bel_set hHeld (by omega) _ _) (by omega) _ _;have kA':=st2 kA (.int .i64 (pat M.pts p1).x) (.int .i64 (pat M.pts p1).y);have kB':=ot2 kB (c:=V.heap.size) (by omega) (.int .i64 (pat M.pts p1).x) (.int .i64 (pat M.pts p1).y);have kC':=ot2 kC (c:=V.heap.size) (by omega) (.int .i64 (pat M.pts p1).x) (.int .i64 (pat M.pts p1).y);clear kA kB kC x0 x1 x2 x3;refine hK.out _ _ hB (fun hHeld=>?_);clear hK K
     try simp only[Act.put,pu]
     have kA:=kA';have kB:=kB';have kC:=kC';clear kA' kB' kC' hB;generalize ((W4.setCell ⟨V.heap.size,0,none⟩ (.int .i64 (pat M.pts p1).x)).setCell ⟨V.heap.size,1,none⟩ (.int .i64 (pat M.pts p1).y))=W5 at *;obtain⟨x0,x1,x2,x3⟩:=kB.two;refine wpAnyH_ready (rs:=[32]) (by kernel_rfl) (by simp) ?_;refine AllReadyH.cons rfl (fun K hK=>?_) AllReadyH.nil;go_simp;have hB:Below V.heap.size V ((W5.setCell ⟨V.heap.size+1,0,none⟩ (.int .i64 (pat M.pts p2).x)).setCell ⟨V.heap.size+1,1,none⟩ (.int .i64 (pat M.pts p2).y)):=bel_set (bel_set hHeld (by omega) _ _) (by omega) _ _;have kA':=ot2 kA (c:=V.heap.size+1) (by omega) (.int .i64 (pat M.pts p2).x) (.int .i64 (pat M.pts p2).y);have kB':=st2 kB (.int .i64 (pat M.pts p2).x) (.int .i64 (pat M.pts p2).y);have kC':=ot2 kC (c:=V.heap.size+1) (by omega) (.int .i64 (pat M.pts p2).x) (.int .i64 (pat M.pts p2).y);clear kA kB kC x0 x1 x2 x3;refine hK.out _ _ hB (fun hHeld=>?_);clear hK K
     try simp only[Act.put,pu]
     have kA:=kA';have kB:=kB';have kC:=kC';clear kA' kB' kC' hB;generalize ((W5.setCell ⟨V.heap.size+1,0,none⟩ (.int .i64 (pat M.pts p2).x)).setCell ⟨V.heap.size+1,1,none⟩ (.int .i64 (pat M.pts p2).y))=W6 at *;refine wpAnyH_done (by kernel_rfl) ?_ _;unfold Go.Gq.OnlyN;have HA6:=Hd (HHA.out.later hHeld);have HK6:=Hd (HK0.out.trans (hKK HK0.out hHeld));have HF6:=Hd (keeps_later (B:=W.heap.size) hHeld);have HZ6:=Hd (Nat.le_trans HSZ.out hHeld.size);have HKV6:=Hd (hKK HK0.out hHeld);have hVs:=hHeld.size;have hsV:s+1<V.heap.size:=by have:=HSZ.out;have:=HS3.out;omega
     clear hHeld
     gi_wp2
     have a0:∀u:World,Rest s W6 u→u.cell? ⟨V.heap.size+2,0,none⟩=some (.int .i64 (pat M.pts p0).x):=fun u hu=>hu.cell kC (by omega) 0 _ rfl
     have a1:∀u:World,Rest s W6 u→u.cell? ⟨V.heap.size+2,1,none⟩=some (.int .i64 (pat M.pts p0).y):=fun u hu=>hu.cell kC (by omega) 1 _ rfl
     have b0:∀u:World,Rest s W6 u→u.cell? ⟨V.heap.size,0,none⟩=some (.int .i64 (pat M.pts p1).x):=fun u hu=>hu.cell kA (by omega) 0 _ rfl
     have b1:∀u:World,Rest s W6 u→u.cell? ⟨V.heap.size,1,none⟩=some (.int .i64 (pat M.pts p1).y):=fun u hu=>hu.cell kA (by omega) 1 _ rfl
     have c0:∀u:World,Rest s W6 u→u.cell? ⟨V.heap.size+1,0,none⟩=some (.int .i64 (pat M.pts p2).x):=fun u hu=>hu.cell kB (by omega) 0 _ rfl
     have c1:∀u:World,Rest s W6 u→u.cell? ⟨V.heap.size+1,1,none⟩=some (.int .i64 (pat M.pts p2).y):=fun u hu=>hu.cell kB (by omega) 1 _ rfl
     obtain⟨gs,ks,cs,hs1,hs2,hs3⟩:=HA6.out.sum;refine Go.Gq.region_held_in (Rest s W6) (by kernel_rfl) (by kernel_rfl) (Rest.drew s W6) (fun hHeld=>?_);refine wpAnyH_take (i:=1) (v:=?_) rfl (by kernel_rfl) (by kernel_rfl) (by kernel_rfl) (fun _ _ _ h=>h) (Or.inl ⟨by rfl,?_⟩) (by assumption) ?_;rotate_left
     ·intro u hu;go_simp;(try with_reducible rfl)
     try simp only[Act.put,pu]
     refine wpAnyH_take (i:=2) (v:=?_) rfl (by kernel_rfl) (by kernel_rfl) (by kernel_rfl) (fun _ _ _ h=>h) (Or.inl ⟨by rfl,?_⟩) (by assumption) ?_;rotate_left
     ·intro u hu;go_simp;(try with_reducible rfl)
     try simp only[Act.put,pu]
     refine wpAnyH_take (i:=3) (v:=?_) rfl (by kernel_rfl) (by kernel_rfl) (by kernel_rfl) (fun _ _ _ h=>h) (Or.inl ⟨by rfl,?_⟩) (by assumption) ?_;rotate_left
     ·intro u hu;go_simp;(try with_reducible rfl)
     try simp only[Act.put,pu]
     refine wpAnyH_ready (rs:=[0,4]) (by kernel_rfl) (by simp) ?_;refine AllReadyH.cons rfl (fun K hK=>?_) ?_
     ·obtain⟨x0,x1,x2,x3⟩:=hs1.two
      go_simp;refine hK.out _ _ (Rest.drew s W6) (fun hHeld=>?_);clear hK K x0 x1 x2 x3
      try simp only[Act.put,pu]
      refine wpAnyH_ready (rs:=[4]) (by kernel_rfl) (by simp) ?_;refine AllReadyH.cons rfl (fun K hK=>?_) AllReadyH.nil;go_simp
      go_at_call 94
      refine(HAR.out _).mono ?_;rintro e w7 ⟨⟨g7,k7,c7,hg7,rfl,hm7⟩,hb7'⟩;have hb7:=bel_step (bel_drew (bel_refl W6)) hb7';refine hK.out _ _ (Rest.of hb7) (fun hHeld=>?_);clear hK K
      try simp only[Act.put,pu]
      refine wpAnyH_ready (rs:=[5]) (by kernel_rfl) (by simp) ?_;refine AllReadyH.cons rfl (fun K hK=>?_) AllReadyH.nil;go_simp
      go_at_call 74
      refine(plus_any _ _ ks cs k7 c7 N A0 3 3 _ ((hs2.later hb7).short (by have:=HBD.out;omega)) (hm7.short (by have:=HBD.out;omega)) (by omega) (by omega) HBD.out).mono ?_;rintro e w8 ⟨⟨g8,k8,c8,hg8,rfl,hm8⟩,hb8⟩;have hb68:=bel_step hb7 hb8;refine hK.out _ _ (Rest.of hb68) (fun hHeld=>?_);clear hK K
      try simp only[Act.put,pu]
      have k8s:=hs1.later hb68;obtain⟨x0,x1,x2,x3⟩:=k8s.two;refine wpAnyH_ready (rs:=[6]) (by kernel_rfl) (by simp) ?_;refine AllReadyH.cons rfl (fun K hK=>?_) AllReadyH.nil;go_simp;refine hK.out _ _ (Rest.set hHeld) (fun hHeld=>?_);clear hK K
      try simp only[Act.put,pu]
      refine wpAnyH_done (by kernel_rfl) ?_ _;unfold Go.Gq.OnlyN
      gi_wp2
      exact FIN.out _ _ _ _ _ _ _ _ HA6.out HK6.out HF6.out HKV6.out HZ6.out (by omega) hb68 (by have:=hb7.size;omega) k8s hm8
     refine AllReadyH.cons rfl (fun K hK=>?_) AllReadyH.nil;go_simp
     go_at_call 94
     refine(HAR.out _).mono ?_;rintro e w7 ⟨⟨g7,k7,c7,hg7,rfl,hm7⟩,hb7'⟩;have hb7:=bel_step (bel_drew (bel_refl W6)) hb7';refine hK.out _ _ (Rest.of hb7) (fun hHeld=>?_);clear hK K
     try simp only[Act.put,pu]
     refine wpAnyH_ready (rs:=[0]) (by kernel_rfl) (by simp) ?_;refine AllReadyH.cons rfl (fun K hK=>?_) AllReadyH.nil;obtain⟨x0,x1,x2,x3⟩:=(hs1.later hb7).two;go_simp;refine hK.out _ _ hHeld (fun hHeld=>?_);clear hK K x0 x1 x2 x3
     try simp only[Act.put,pu]
     refine wpAnyH_ready (rs:=[5]) (by kernel_rfl) (by simp) ?_;refine AllReadyH.cons rfl (fun K hK=>?_) AllReadyH.nil;go_simp
     go_at_call 74
     refine(plus_any _ _ ks cs k7 c7 N A0 3 3 _ ((hs2.later hb7).short (by have:=HBD.out;omega)) (hm7.short (by have:=HBD.out;omega)) (by omega) (by omega) HBD.out).mono ?_;rintro e w8 ⟨⟨g8,k8,c8,hg8,rfl,hm8⟩,hb8⟩;have hb68:=bel_step hb7 hb8;refine hK.out _ _ (Rest.of hb68) (fun hHeld=>?_);clear hK K
     try simp only[Act.put,pu]
     have k8s:=hs1.later hb68;obtain⟨x0,x1,x2,x3⟩:=k8s.two;refine wpAnyH_ready (rs:=[6]) (by kernel_rfl) (by simp) ?_;refine AllReadyH.cons rfl (fun K hK=>?_) AllReadyH.nil;go_simp;refine hK.out _ _ (Rest.set hHeld) (fun hHeld=>?_);clear hK K
     try simp only[Act.put,pu]
     refine wpAnyH_done (by kernel_rfl) ?_ _;unfold Go.Gq.OnlyN
     gi_wp2
     exact FIN.out _ _ _ _ _ _ _ _ HA6.out HK6.out HF6.out HKV6.out HZ6.out (by omega) hb68 (by have:=hb7.size;omega) k8s hm8
    exact AllReadyH.nil
   exact AllReadyH.nil
  refine AllReadyH.cons rfl (fun K hK=>?_) ?_
  ·go_simp
   refine hK.out _ _ (by first| exact bel_drew (bel_alloc (bel_refl V) _)|exact bel_drew (bel_alloc (bel_alloc (bel_refl V) _) _)|exact bel_drew (bel_alloc (bel_alloc (bel_alloc (bel_refl V) _) _) _)) (fun hHeld=>?_);clear hK K
   try simp only[Act.put,pu]
   refine wpAnyH_ready (rs:=[27,28]) (by kernel_rfl) (by simp) ?_;refine AllReadyH.cons rfl (fun K hK=>?_) ?_
   ·go_simp
    refine hK.out _ _ (by first| exact bel_drew (bel_alloc (bel_refl V) _)|exact bel_drew (bel_alloc (bel_alloc (bel_refl V) _) _)|exact bel_drew (bel_alloc (bel_alloc (bel_alloc (bel_refl V) _) _) _)) (fun hHeld=>?_);clear hK K
    try simp only[Act.put,pu]
    refine wpAnyH_ready (rs:=[28]) (by kernel_rfl) (by simp) ?_;refine AllReadyH.cons rfl (fun K hK=>?_) ?_
    ·go_simp
     refine hK.out _ _ (by first| exact bel_drew (bel_alloc (bel_refl V) _)|exact bel_drew (bel_alloc (bel_alloc (bel_refl V) _) _)|exact bel_drew (bel_alloc (bel_alloc (bel_alloc (bel_refl V) _) _) _)) (fun hHeld=>?_);clear hK K
     try simp only[Act.put,pu]
     generalize ((((V.alloc (.cells #[.int .i64 0,.int .i64 0] 24)).alloc (.cells #[.int .i64 0,.int .i64 0] 24)).alloc (.cells #[.int .i64 0,.int .i64 0] 24)).drew)=W3 at *;obtain⟨x0,x1,x2,x3⟩:=kB.two;refine wpAnyH_ready (rs:=[30]) (by kernel_rfl) (by simp) ?_;refine AllReadyH.cons rfl (fun K hK=>?_) AllReadyH.nil;go_simp;have hB:Below V.heap.size V ((W3.setCell ⟨V.heap.size+1,0,none⟩ (.int .i64 (pat M.pts p0).x)).setCell ⟨V.heap.size+1,1,none⟩ (.int .i64 (pat M.pts p0).y)):=bel_set (bel_set hHeld (by omega) _ _) (by omega) _ _;have kA':=ot2 kA (c:=V.heap.size+1) (by omega) (.int .i64 (pat M.pts p0).x) (.int .i64 (pat M.pts p0).y);have kB':=st2 kB (.int .i64 (pat M.pts p0).x) (.int .i64 (pat M.pts p0).y);have kC':=ot2 kC (c:=V.heap.size+1) (by omega) (.int .i64 (pat M.pts p0).x) (.int .i64 (pat M.pts p0).y);clear kA kB kC x0 x1 x2 x3;refine hK.out _ _ hB (fun hHeld=>?_);clear hK K
     try simp only[Act.put,pu]
     have kA:=kA';have kB:=kB';have kC:=kC';clear kA' kB' kC' hB;generalize ((W3.setCell ⟨V.heap.size+1,0,none⟩ (.int .i64 (pat M.pts p0).x)).setCell ⟨V.heap.size+1,1,none⟩ (.int .i64 (pat M.pts p0).y))=W4 at *;obtain⟨x0,x1,x2,x3⟩:=kC.two;refine wpAnyH_ready (rs:=[31]) (by kernel_rfl) (by simp) ?_;refine AllReadyH.cons rfl (fun K hK=>?_) AllReadyH.nil;go_simp;have hB:Below V.heap.size V ((W4.setCell ⟨V.heap.size+2,0,none⟩ (.int .i64 (pat M.pts p1).x)).setCell ⟨V.heap.size+2,1,none⟩ (.int .i64 (pat M.pts p1).y)):=bel_set (bel_set hHeld (by omega) _ _) (by omega) _ _;have kA':=ot2 kA (c:=V.heap.size+2) (by omega) (.int .i64 (pat M.pts p1).x) (.int .i64 (pat M.pts p1).y);have kB':=ot2 kB (c:=V.heap.size+2) (by omega) (.int .i64 (pat M.pts p1).x) (.int .i64 (pat M.pts p1).y);have kC':=st2 kC (.int .i64 (pat M.pts p1).x) (.int .i64 (pat M.pts p1).y);clear kA kB kC x0 x1 x2 x3;refine hK.out _ _ hB (fun hHeld=>?_);clear hK K
     try simp only[Act.put,pu]
     have kA:=kA';have kB:=kB';have kC:=kC';clear kA' kB' kC' hB;generalize ((W4.setCell ⟨V.heap.size+2,0,none⟩ (.int .i64 (pat M.pts p1).x)).setCell ⟨V.heap.size+2,1,none⟩ (.int .i64 (pat M.pts p1).y))=W5 at *;obtain⟨x0,x1,x2,x3⟩:=kA.two;refine wpAnyH_ready (rs:=[32]) (by kernel_rfl) (by simp) ?_;refine AllReadyH.cons rfl (fun K hK=>?_) AllReadyH.nil;go_simp;have hB:Below V.heap.size V ((W5.setCell ⟨V.heap.size,0,none⟩ (.int .i64 (pat M.pts p2).x)).setCell ⟨V.heap.size,1,none⟩ (.int .i64 (pat M.pts p2).y)):=bel_set (bel_set hHeld (by omega) _ _) (by omega) _ _;have kA':=st2 kA (.int .i64 (pat M.pts p2).x) (.int .i64 (pat M.pts p2).y);have kB':=ot2 kB (c:=V.heap.size) (by omega) (.int .i64 (pat M.pts p2).x) (.int .i64 (pat M.pts p2).y);have kC':=ot2 kC (c:=V.heap.size) (by omega) (.int .i64 (pat M.pts p2).x) (.int .i64 (pat M.pts p2).y);clear kA kB kC x0 x1 x2 x3;refine hK.out _ _ hB (fun hHeld=>?_);clear hK K
     try simp only[Act.put,pu]
     have kA:=kA';have kB:=kB';have kC:=kC';clear kA' kB' kC' hB;generalize ((W5.setCell ⟨V.heap.size,0,none⟩ (.int .i64 (pat M.pts p2).x)).setCell ⟨V.heap.size,1,none⟩ (.int .i64 (pat M.pts p2).y))=W6 at *;refine wpAnyH_done (by kernel_rfl) ?_ _;unfold Go.Gq.OnlyN;have HA6:=Hd (HHA.out.later hHeld);have HK6:=Hd (HK0.out.trans (hKK HK0.out hHeld));have HF6:=Hd (keeps_later (B:=W.heap.size) hHeld);have HZ6:=Hd (Nat.le_trans HSZ.out hHeld.size);have HKV6:=Hd (hKK HK0.out hHeld);have hVs:=hHeld.size;have hsV:s+1<V.heap.size:=by have:=HSZ.out;have:=HS3.out;omega
     clear hHeld
     gi_wp2
     have a0:∀u:World,Rest s W6 u→u.cell? ⟨V.heap.size+1,0,none⟩=some (.int .i64 (pat M.pts p0).x):=fun u hu=>hu.cell kB (by omega) 0 _ rfl
     have a1:∀u:World,Rest s W6 u→u.cell? ⟨V.heap.size+1,1,none⟩=some (.int .i64 (pat M.pts p0).y):=fun u hu=>hu.cell kB (by omega) 1 _ rfl
     have b0:∀u:World,Rest s W6 u→u.cell? ⟨V.heap.size+2,0,none⟩=some (.int .i64 (pat M.pts p1).x):=fun u hu=>hu.cell kC (by omega) 0 _ rfl
     have b1:∀u:World,Rest s W6 u→u.cell? ⟨V.heap.size+2,1,none⟩=some (.int .i64 (pat M.pts p1).y):=fun u hu=>hu.cell kC (by omega) 1 _ rfl
     have c0:∀u:World,Rest s W6 u→u.cell? ⟨V.heap.size,0,none⟩=some (.int .i64 (pat M.pts p2).x):=fun u hu=>hu.cell kA (by omega) 0 _ rfl
     have c1:∀u:World,Rest s W6 u→u.cell? ⟨V.heap.size,1,none⟩=some (.int .i64 (pat M.pts p2).y):=fun u hu=>hu.cell kA (by omega) 1 _ rfl
     obtain⟨gs,ks,cs,hs1,hs2,hs3⟩:=HA6.out.sum;refine Go.Gq.region_held_in (Rest s W6) (by kernel_rfl) (by kernel_rfl) (Rest.drew s W6) (fun hHeld=>?_);refine wpAnyH_take (i:=1) (v:=?_) rfl (by kernel_rfl) (by kernel_rfl) (by kernel_rfl) (fun _ _ _ h=>h) (Or.inl ⟨by rfl,?_⟩) (by assumption) ?_;rotate_left
     ·intro u hu;go_simp;(try with_reducible rfl)
     try simp only[Act.put,pu]
     refine wpAnyH_take (i:=2) (v:=?_) rfl (by kernel_rfl) (by kernel_rfl) (by kernel_rfl) (fun _ _ _ h=>h) (Or.inl ⟨by rfl,?_⟩) (by assumption) ?_;rotate_left
     ·intro u hu;go_simp;(try with_reducible rfl)
     try simp only[Act.put,pu]
     refine wpAnyH_take (i:=3) (v:=?_) rfl (by kernel_rfl) (by kernel_rfl) (by kernel_rfl) (fun _ _ _ h=>h) (Or.inl ⟨by rfl,?_⟩) (by assumption) ?_;rotate_left
     ·intro u hu;go_simp;(try with_reducible rfl)
     try simp only[Act.put,pu]
     refine wpAnyH_ready (rs:=[0,4]) (by kernel_rfl) (by simp) ?_;refine AllReadyH.cons rfl (fun K hK=>?_) ?_
     ·obtain⟨x0,x1,x2,x3⟩:=hs1.two
      go_simp;refine hK.out _ _ (Rest.drew s W6) (fun hHeld=>?_);clear hK K x0 x1 x2 x3
      try simp only[Act.put,pu]
      refine wpAnyH_ready (rs:=[4]) (by kernel_rfl) (by simp) ?_;refine AllReadyH.cons rfl (fun K hK=>?_) AllReadyH.nil;go_simp
      go_at_call 94
      refine(HAR.out _).mono ?_;rintro e w7 ⟨⟨g7,k7,c7,hg7,rfl,hm7⟩,hb7'⟩;have hb7:=bel_step (bel_drew (bel_refl W6)) hb7';refine hK.out _ _ (Rest.of hb7) (fun hHeld=>?_);clear hK K
      try simp only[Act.put,pu]
      refine wpAnyH_ready (rs:=[5]) (by kernel_rfl) (by simp) ?_;refine AllReadyH.cons rfl (fun K hK=>?_) AllReadyH.nil;go_simp
      go_at_call 74
      refine(plus_any _ _ ks cs k7 c7 N A0 3 3 _ ((hs2.later hb7).short (by have:=HBD.out;omega)) (hm7.short (by have:=HBD.out;omega)) (by omega) (by omega) HBD.out).mono ?_;rintro e w8 ⟨⟨g8,k8,c8,hg8,rfl,hm8⟩,hb8⟩;have hb68:=bel_step hb7 hb8;refine hK.out _ _ (Rest.of hb68) (fun hHeld=>?_);clear hK K
      try simp only[Act.put,pu]
      have k8s:=hs1.later hb68;obtain⟨x0,x1,x2,x3⟩:=k8s.two;refine wpAnyH_ready (rs:=[6]) (by kernel_rfl) (by simp) ?_;refine AllReadyH.cons rfl (fun K hK=>?_) AllReadyH.nil;go_simp;refine hK.out _ _ (Rest.set hHeld) (fun hHeld=>?_);clear hK K
      try simp only[Act.put,pu]
      refine wpAnyH_done (by kernel_rfl) ?_ _;unfold Go.Gq.OnlyN
      gi_wp2
      exact FIN.out _ _ _ _ _ _ _ _ HA6.out HK6.out HF6.out HKV6.out HZ6.out (by omega) hb68 (by have:=hb7.size;omega) k8s hm8
     refine AllReadyH.cons rfl (fun K hK=>?_) AllReadyH.nil;go_simp
     go_at_call 94
     refine(HAR.out _).mono ?_;rintro e w7 ⟨⟨g7,k7,c7,hg7,rfl,hm7⟩,hb7'⟩;have hb7:=bel_step (bel_drew (bel_refl W6)) hb7';refine hK.out _ _ (Rest.of hb7) (fun hHeld=>?_);clear hK K
     try simp only[Act.put,pu]
     refine wpAnyH_ready (rs:=[0]) (by kernel_rfl) (by simp) ?_;refine AllReadyH.cons rfl (fun K hK=>?_) AllReadyH.nil;obtain⟨x0,x1,x2,x3⟩:=(hs1.later hb7).two;go_simp;refine hK.out _ _ hHeld (fun hHeld=>?_);clear hK K x0 x1 x2 x3
     try simp only[Act.put,pu]
     refine wpAnyH_ready (rs:=[5]) (by kernel_rfl) (by simp) ?_;refine AllReadyH.cons rfl (fun K hK=>?_) AllReadyH.nil;go_simp
     go_at_call 74
     refine(plus_any _ _ ks cs k7 c7 N A0 3 3 _ ((hs2.later hb7).short (by have:=HBD.out;omega)) (hm7.short (by have:=HBD.out;omega)) (by omega) (by omega) HBD.out).mono ?_;rintro e w8 ⟨⟨g8,k8,c8,hg8,rfl,hm8⟩,hb8⟩;have hb68:=bel_step hb7 hb8;refine hK.out _ _ (Rest.of hb68) (fun hHeld=>?_);clear hK K
     try simp only[Act.put,pu]
     have k8s:=hs1.later hb68;obtain⟨x0,x1,x2,x3⟩:=k8s.two;refine wpAnyH_ready (rs:=[6]) (by kernel_rfl) (by simp) ?_;refine AllReadyH.cons rfl (fun K hK=>?_) AllReadyH.nil;go_simp;refine hK.out _ _ (Rest.set hHeld) (fun hHeld=>?_);clear hK K
     try simp only[Act.put,pu]
     refine wpAnyH_done (by kernel_rfl) ?_ _;unfold Go.Gq.OnlyN
     gi_wp2
     exact FIN.out _ _ _ _ _ _ _ _ HA6.out HK6.out HF6.out HKV6.out HZ6.out (by omega) hb68 (by have:=hb7.size;omega) k8s hm8
    exact AllReadyH.nil
   refine AllReadyH.cons rfl (fun K hK=>?_) ?_
   ·go_simp
    refine hK.out _ _ (by first| exact bel_drew (bel_alloc (bel_refl V) _)|exact bel_drew (bel_alloc (bel_alloc (bel_refl V) _) _)|exact bel_drew (bel_alloc (bel_alloc (bel_alloc (bel_refl V) _) _) _)) (fun hHeld=>?_);clear hK K
    try simp only[Act.put,pu]
    refine wpAnyH_ready (rs:=[27]) (by kernel_rfl) (by simp) ?_;refine AllReadyH.cons rfl (fun K hK=>?_) ?_
    ·go_simp
     refine hK.out _ _ (by first| exact bel_drew (bel_alloc (bel_refl V) _)|exact bel_drew (bel_alloc (bel_alloc (bel_refl V) _) _)|exact bel_drew (bel_alloc (bel_alloc (bel_alloc (bel_refl V) _) _) _)) (fun hHeld=>?_);clear hK K
     try simp only[Act.put,pu]
     generalize ((((V.alloc (.cells #[.int .i64 0,.int .i64 0] 24)).alloc (.cells #[.int .i64 0,.int .i64 0] 24)).alloc (.cells #[.int .i64 0,.int .i64 0] 24)).drew)=W3 at *;obtain⟨x0,x1,x2,x3⟩:=kC.two;refine wpAnyH_ready (rs:=[30]) (by kernel_rfl) (by simp) ?_;refine AllReadyH.cons rfl (fun K hK=>?_) AllReadyH.nil;go_simp;have hB:Below V.heap.size V ((W3.setCell ⟨V.heap.size+2,0,none⟩ (.int .i64 (pat M.pts p0).x)).setCell ⟨V.heap.size+2,1,none⟩ (.int .i64 (pat M.pts p0).y)):=bel_set (bel_set hHeld (by omega) _ _) (by omega) _ _;have kA':=ot2 kA (c:=V.heap.size+2) (by omega) (.int .i64 (pat M.pts p0).x) (.int .i64 (pat M.pts p0).y);have kB':=ot2 kB (c:=V.heap.size+2) (by omega) (.int .i64 (pat M.pts p0).x) (.int .i64 (pat M.pts p0).y);have kC':=st2 kC (.int .i64 (pat M.pts p0).x) (.int .i64 (pat M.pts p0).y);clear kA kB kC x0 x1 x2 x3;refine hK.out _ _ hB (fun hHeld=>?_);clear hK K
     try simp only[Act.put,pu]
     have kA:=kA';have kB:=kB';have kC:=kC';clear kA' kB' kC' hB;generalize ((W3.setCell ⟨V.heap.size+2,0,none⟩ (.int .i64 (pat M.pts p0).x)).setCell ⟨V.heap.size+2,1,none⟩ (.int .i64 (pat M.pts p0).y))=W4 at *;obtain⟨x0,x1,x2,x3⟩:=kB.two;refine wpAnyH_ready (rs:=[31]) (by kernel_rfl) (by simp) ?_;refine AllReadyH.cons rfl (fun K hK=>?_) AllReadyH.nil;go_simp;have hB:Below V.heap.size V ((W4.setCell ⟨V.heap.size+1,0,none⟩ (.int .i64 (pat M.pts p1).x)).setCell ⟨V.heap.size+1,1,none⟩ (.int .i64 (pat M.pts p1).y)):=bel_set (bel_set hHeld (by omega) _ _) (by omega) _ _;have kA':=ot2 kA (c:=V.heap.size+1) (by omega) (.int .i64 (pat M.pts p1).x) (.int .i64 (pat M.pts p1).y);have kB':=st2 kB (.int .i64 (pat M.pts p1).x) (.int .i64 (pat M.pts p1).y);have kC':=ot2 kC (c:=V.heap.size+1) (by omega) (.int .i64 (pat M.pts p1).x) (.int .i64 (pat M.pts p1).y);clear kA kB kC x0 x1 x2 x3;refine hK.out _ _ hB (fun hHeld=>?_);clear hK K
     try simp only[Act.put,pu]
     have kA:=kA';have kB:=kB';have kC:=kC';clear kA' kB' kC' hB;generalize ((W4.setCell ⟨V.heap.size+1,0,none⟩ (.int .i64 (pat M.pts p1).x)).setCell ⟨V.heap.size+1,1,none⟩ (.int .i64 (pat M.pts p1).y))=W5 at *;obtain⟨x0,x1,x2,x3⟩:=kA.two;refine wpAnyH_ready (rs:=[32]) (by kernel_rfl) (by simp) ?_;refine AllReadyH.cons rfl (fun K hK=>?_) AllReadyH.nil;go_simp;have hB:Below V.heap.size V ((W5.setCell ⟨V.heap.size,0,none⟩ (.int .i64 (pat M.pts p2).x)).setCell ⟨V.heap.size,1,none⟩ (.int .i64 (pat M.pts p2).y)):=bel_set (bel_set hHeld (by omega) _ _) (by omega) _ _;have kA':=st2 kA (.int .i64 (pat M.pts p2).x) (.int .i64 (pat M.pts p2).y);have kB':=ot2 kB (c:=V.heap.size) (by omega) (.int .i64 (pat M.pts p2).x) (.int .i64 (pat M.pts p2).y);have kC':=ot2 kC (c:=V.heap.size) (by omega) (.int .i64 (pat M.pts p2).x) (.int .i64 (pat M.pts p2).y);clear kA kB kC x0 x1 x2 x3;refine hK.out _ _ hB (fun hHeld=>?_);clear hK K
     try simp only[Act.put,pu]
     have kA:=kA';have kB:=kB';have kC:=kC';clear kA' kB' kC' hB;generalize ((W5.setCell ⟨V.heap.size,0,none⟩ (.int .i64 (pat M.pts p2).x)).setCell ⟨V.heap.size,1,none⟩ (.int .i64 (pat M.pts p2).y))=W6 at *;refine wpAnyH_done (by kernel_rfl) ?_ _;unfold Go.Gq.OnlyN;have HA6:=Hd (HHA.out.later hHeld);have HK6:=Hd (HK0.out.trans (hKK HK0.out hHeld));have HF6:=Hd (keeps_later (B:=W.heap.size) hHeld);have HZ6:=Hd (Nat.le_trans HSZ.out hHeld.size);have HKV6:=Hd (hKK HK0.out hHeld);have hVs:=hHeld.size;have hsV:s+1<V.heap.size:=by have:=HSZ.out;have:=HS3.out;omega
     clear hHeld
     gi_wp2
     have a0:∀u:World,Rest s W6 u→u.cell? ⟨V.heap.size+2,0,none⟩=some (.int .i64 (pat M.pts p0).x):=fun u hu=>hu.cell kC (by omega) 0 _ rfl
     have a1:∀u:World,Rest s W6 u→u.cell? ⟨V.heap.size+2,1,none⟩=some (.int .i64 (pat M.pts p0).y):=fun u hu=>hu.cell kC (by omega) 1 _ rfl
     have b0:∀u:World,Rest s W6 u→u.cell? ⟨V.heap.size+1,0,none⟩=some (.int .i64 (pat M.pts p1).x):=fun u hu=>hu.cell kB (by omega) 0 _ rfl
     have b1:∀u:World,Rest s W6 u→u.cell? ⟨V.heap.size+1,1,none⟩=some (.int .i64 (pat M.pts p1).y):=fun u hu=>hu.cell kB (by omega) 1 _ rfl
     have c0:∀u:World,Rest s W6 u→u.cell? ⟨V.heap.size,0,none⟩=some (.int .i64 (pat M.pts p2).x):=fun u hu=>hu.cell kA (by omega) 0 _ rfl
     have c1:∀u:World,Rest s W6 u→u.cell? ⟨V.heap.size,1,none⟩=some (.int .i64 (pat M.pts p2).y):=fun u hu=>hu.cell kA (by omega) 1 _ rfl
     obtain⟨gs,ks,cs,hs1,hs2,hs3⟩:=HA6.out.sum;refine Go.Gq.region_held_in (Rest s W6) (by kernel_rfl) (by kernel_rfl) (Rest.drew s W6) (fun hHeld=>?_);refine wpAnyH_take (i:=1) (v:=?_) rfl (by kernel_rfl) (by kernel_rfl) (by kernel_rfl) (fun _ _ _ h=>h) (Or.inl ⟨by rfl,?_⟩) (by assumption) ?_;rotate_left
     ·intro u hu;go_simp;(try with_reducible rfl)
     try simp only[Act.put,pu]
     refine wpAnyH_take (i:=2) (v:=?_) rfl (by kernel_rfl) (by kernel_rfl) (by kernel_rfl) (fun _ _ _ h=>h) (Or.inl ⟨by rfl,?_⟩) (by assumption) ?_;rotate_left
     ·intro u hu;go_simp;(try with_reducible rfl)
     try simp only[Act.put,pu]
     refine wpAnyH_take (i:=3) (v:=?_) rfl (by kernel_rfl) (by kernel_rfl) (by kernel_rfl) (fun _ _ _ h=>h) (Or.inl ⟨by rfl,?_⟩) (by assumption) ?_;rotate_left
     ·intro u hu;go_simp;(try with_reducible rfl)
     try simp only[Act.put,pu]
     refine wpAnyH_ready (rs:=[0,4]) (by kernel_rfl) (by simp) ?_;refine AllReadyH.cons rfl (fun K hK=>?_) ?_
     ·obtain⟨x0,x1,x2,x3⟩:=hs1.two
      go_simp;refine hK.out _ _ (Rest.drew s W6) (fun hHeld=>?_);clear hK K x0 x1 x2 x3
      try simp only[Act.put,pu]
      refine wpAnyH_ready (rs:=[4]) (by kernel_rfl) (by simp) ?_;refine AllReadyH.cons rfl (fun K hK=>?_) AllReadyH.nil;go_simp
      go_at_call 94
      refine(HAR.out _).mono ?_;rintro e w7 ⟨⟨g7,k7,c7,hg7,rfl,hm7⟩,hb7'⟩;have hb7:=bel_step (bel_drew (bel_refl W6)) hb7';refine hK.out _ _ (Rest.of hb7) (fun hHeld=>?_);clear hK K
      try simp only[Act.put,pu]
      refine wpAnyH_ready (rs:=[5]) (by kernel_rfl) (by simp) ?_;refine AllReadyH.cons rfl (fun K hK=>?_) AllReadyH.nil;go_simp
      go_at_call 74
      refine(plus_any _ _ ks cs k7 c7 N A0 3 3 _ ((hs2.later hb7).short (by have:=HBD.out;omega)) (hm7.short (by have:=HBD.out;omega)) (by omega) (by omega) HBD.out).mono ?_;rintro e w8 ⟨⟨g8,k8,c8,hg8,rfl,hm8⟩,hb8⟩;have hb68:=bel_step hb7 hb8;refine hK.out _ _ (Rest.of hb68) (fun hHeld=>?_);clear hK K
      try simp only[Act.put,pu]
      have k8s:=hs1.later hb68;obtain⟨x0,x1,x2,x3⟩:=k8s.two;refine wpAnyH_ready (rs:=[6]) (by kernel_rfl) (by simp) ?_;refine AllReadyH.cons rfl (fun K hK=>?_) AllReadyH.nil;go_simp;refine hK.out _ _ (Rest.set hHeld) (fun hHeld=>?_);clear hK K
      try simp only[Act.put,pu]
      refine wpAnyH_done (by kernel_rfl) ?_ _;unfold Go.Gq.OnlyN
      gi_wp2
      exact FIN.out _ _ _ _ _ _ _ _ HA6.out HK6.out HF6.out HKV6.out HZ6.out (by omega) hb68 (by have:=hb7.size;omega) k8s hm8
     refine AllReadyH.cons rfl (fun K hK=>?_) AllReadyH.nil;go_simp
     go_at_call 94
     refine(HAR.out _).mono ?_;rintro e w7 ⟨⟨g7,k7,c7,hg7,rfl,hm7⟩,hb7'⟩;have hb7:=bel_step (bel_drew (bel_refl W6)) hb7';refine hK.out _ _ (Rest.of hb7) (fun hHeld=>?_);clear hK K
     try simp only[Act.put,pu]
     refine wpAnyH_ready (rs:=[0]) (by kernel_rfl) (by simp) ?_;refine AllReadyH.cons rfl (fun K hK=>?_) AllReadyH.nil;obtain⟨x0,x1,x2,x3⟩:=(hs1.later hb7).two;go_simp;refine hK.out _ _ hHeld (fun hHeld=>?_);clear hK K x0 x1 x2 x3
     try simp only[Act.put,pu]
     refine wpAnyH_ready (rs:=[5]) (by kernel_rfl) (by simp) ?_;refine AllReadyH.cons rfl (fun K hK=>?_) AllReadyH.nil;go_simp
     go_at_call 74
     refine(plus_any _ _ ks cs k7 c7 N A0 3 3 _ ((hs2.later hb7).short (by have:=HBD.out;omega)) (hm7.short (by have:=HBD.out;omega)) (by omega) (by omega) HBD.out).mono ?_;rintro e w8 ⟨⟨g8,k8,c8,hg8,rfl,hm8⟩,hb8⟩;have hb68:=bel_step hb7 hb8;refine hK.out _ _ (Rest.of hb68) (fun hHeld=>?_);clear hK K
     try simp only[Act.put,pu]
     have k8s:=hs1.later hb68;obtain⟨x0,x1,x2,x3⟩:=k8s.two;refine wpAnyH_ready (rs:=[6]) (by kernel_rfl) (by simp) ?_;refine AllReadyH.cons rfl (fun K hK=>?_) AllReadyH.nil;go_simp;refine hK.out _ _ (Rest.set hHeld) (fun hHeld=>?_);clear hK K
     try simp only[Act.put,pu]
     refine wpAnyH_done (by kernel_rfl) ?_ _;unfold Go.Gq.OnlyN
     gi_wp2
     exact FIN.out _ _ _ _ _ _ _ _ HA6.out HK6.out HF6.out HKV6.out HZ6.out (by omega) hb68 (by have:=hb7.size;omega) k8s hm8
    exact AllReadyH.nil
   exact AllReadyH.nil
  exact AllReadyH.nil
 case done=>
  rintro D ys V hD hys ⟨hha,hk,hsz⟩ hK;rw[hys]at hha;obtain⟨n,hn⟩:∃n,(hull M).length=n:=⟨_,rfl⟩;obtain⟨p,hp'⟩:∃p:Nat→Nat,hullN M=p:=⟨_,rfl⟩;have hn0:=HE.out.some;have hn9:=HE.out.few
  have hinn:∀i,i<n→(hull M)[i]? =some ((p i:Nat):Int)∧p i<M.pts.length:=fun i hi=>by
   have h1:=HE.out.inn i (by omega);have h2:(hull M).getD i 0=(p i:Nat):=by rw[←hp'];unfold hullN;omega
   refine⟨?_,by omega⟩;rw[←h2,List.getD_eq_getElem?_getD,List.getElem?_eq_getElem (by omega)];rfl
  have hturn:∀i j,i<n→j<n→0≤ori (pat M.pts (p i)) (pat M.pts (p ((i+1)%n))) (pat M.pts (p j)):=fun i j hi hj=>by
   have:=HE.out.turn i j (by omega) (by omega);rw[hp',hn]at this;exact this
  have hfan:∀i,fanTo M n (i+1)=fanTo M n i+(ori (pat M.pts (p 0)) (pat M.pts (p i)) (pat M.pts (p ((i+1)%n)))).toNat:=fun i=>by
   rw[←hp'];rfl
  have hfb:∀i,i≤n→fanTo M n i<18446744073709551616 ^ 3:=fun i hi=>by
   have:=fan_bound M HO.out n i;have:(18446744073709551616:Nat) ^ 3=6277101735386680763835789423207666416102355444464034512896:=by decide
   omega
  have heq:areaTo M (realsTo M M.tris.length)=fanTo M n n:=by rw[←hn];exact HE.out.eq
  rw[heq]at hha;rw[hn]at hn0 hn9;have HN:=Hd hn;have HINN:=Hd hinn;have HTURN:=Hd hturn;have HFAN:=Hd hfan;have HFB:=Hd hfb;have hMV:=H.out.later hha.bel;have HHU2:=Hd (HHU.out V ⟨_,_,_,_,_,_,_,hMV⟩);have HDD:=Hd hK;have z0:=hha.box.cell 0 _ rfl;have HA0:=Hd hha;clear hha hk hsz hK hys hn hp' hinn hturn hfan hfb heq hMV HE HHU
  go_upto_region 7 with(go_at_call 29;refine HHU2.out.mono ?_;rintro e w3 ⟨v,rfl,hown,hb3⟩;rw[HN.out]at hown;obtain⟨g,cp3,rfl,hgB⟩:=own_shape hown hn0;have HOWN:=Hd hown;have HB3:=Hd hb3;clear hown hb3)
  have hrow:∀i,i<n→w3.cell? ⟨g,i,none⟩=some (.int .i64 (p i:Nat)):=fun i hi=>by
   have:=HOWN.out.cellAt i (by omega);rw[this,List.getElem?_map,(HINN.out i hi).1];rfl
  have hDlt:D<V.heap.size:=(Array.getElem?_eq_some_iff.1 HDD.out).1
  have h0:FanW w w3 b s (fanTo M n n) (fanTo M n 0) D g n p:=⟨HA0.out.later HB3.out,hrow,(HB3.out.block D hDlt).trans HDD.out,by
   obtain⟨g',k',c',q1,_⟩:=HA0.out.out;have:=q1.lt;omega⟩
  have H0:=Hd h0;clear z0 HHU2 HA0 HDD HOWN HB3 hrow hDlt h0 hgB;go_wp2
  go_loopw [59] (fun v wr=>∃i:Nat,v=.int .i64 i∧i≤n∧Hid (FanW w wr b s (fanTo M n n) (fanTo M n i) D g n p)) (fun v _=>n-(intOf v).toNat)
  case atStart=>exact⟨0,rfl,Nat.zero_le _,H0⟩
  case round=>
   obtain⟨i,rfl,hi,HF⟩:=hrel;by_cases hin:i<n
   ·have i0:(0:Int)≤(i:Int):=by omega
    have i1:(i:Int)<(n:Int):=by omega
    have wk:IntKind.i64.wrap ((i:Int)+1)=((i+1:Nat):Int):=by rw[IntWalk.i64_in _ (by omega)];omega
    have hmn:(i+1)%n<n:=Nat.mod_lt _ (by omega);have m0:(0:Int)≤((i:Int)+1)%(n:Int):=Int.emod_nonneg _ (by omega);have m1:((i:Int)+1)%(n:Int)<(n:Int):=Int.emod_lt_of_pos _ (by omega);have x1:=HF.out.row i hin;have x2:=HF.out.row _ hmn;have nz:((n:Int)==0)=false:=by simp;omega
    go_wp2;have hfi:=HFAN.out i;have hti:=fun j=>HTURN.out i j hin
    generalize hm:(i+1)%n=m at *;have HFI:=Hd hfi;have HTI:=Hd hti;clear x1 x2 wk m0 m1 hfi hti hm
    go_loopw [74] (fun v wq=>∃j:Nat,v=.int .i64 j∧j≤n∧Hid (FanW w wq b s (fanTo M n n) (fanTo M n i) D g n p)) (fun v _=>n-(intOf v).toNat)
    case atStart=>exact⟨0,rfl,Nat.zero_le _,HF⟩
    case round=>
     obtain⟨j,rfl,hj,HJ⟩:=hrel;have hMq:=H.out.later HJ.out.area.bel;have pl0:=(HINN.out 0 hn0).2;have pl1:=(HINN.out i hin).2;have pl2:=(HINN.out m hmn).2;by_cases hjn:j<n
     ·have j0:(0:Int)≤(j:Int):=by omega
      have j1:(j:Int)<(n:Int):=by omega
      have pl3:=(HINN.out j hjn).2;have x1:=HJ.out.row j hjn;have hor:=fun u=>Pr.orient_any (pat M.pts (p i)) (pat M.pts (p m)) (pat M.pts (p j)) u (HO.out.near _) (HO.out.near _) (HO.out.near _)
      have hsg:¬(ori (pat M.pts (p i)) (pat M.pts (p m)) (pat M.pts (p j))).sign<0:=by
       have:=HTI.out j hjn;rw[Int.sign_neg_iff];omega
      generalize (ori (pat M.pts (p i)) (pat M.pts (p m)) (pat M.pts (p j))).sign=sg at *;have HOR:=Hd hor;clear hor
      go_upto_region 14 with(fail)
      have c0:=HJ.out.area.box.cells 0 _ rfl;have c1:=hMq.head.cells 0 _ rfl;have d0:=Gq.Later.cell (hMq.pts _ pl1).1;have d1:=Gq.Later.cell (hMq.pts _ pl1).2;have d2:=Gq.Later.cell (hMq.pts _ pl2).1;have d3:=Gq.Later.cell (hMq.pts _ pl2).2;have d4:=Gq.Later.cell (hMq.pts _ pl3).1;have d5:=Gq.Later.cell (hMq.pts _ pl3).2;have q1:((p i:Nat):Int)<(M.pts.length:Int):=by omega
      have q2:((p m:Nat):Int)<(M.pts.length:Int):=by omega
      have q3:((p j:Nat):Int)<(M.pts.length:Int):=by omega
      have r1:(0:Int)≤((p i:Nat):Int):=by omega
      have r2:(0:Int)≤((p m:Nat):Int):=by omega
      have r3:(0:Int)≤((p j:Nat):Int):=by omega
      clear hMq pl0 pl1 pl2 pl3 x1;refine Go.Gq.region (by kernel_rfl) (by kernel_rfl) ?_
      repeat (go_big_quiet_step ((go_at_call 16;exact Gq.call (HOR.out _))))
      refine wpQuiet_nil ?_;intro wx hw';have HX:=Hd (HJ.out.later (Go.Gq.later_bel hw'));clear hw' c0 c1 d0 d1 d2 d3 d4 d5;go_wp2;go_roundw
      case rel=>exact⟨j+1,by go_num,by omega,HX⟩
      case measure=>simp[intOf];omega
     ·have hjl:¬(j:Int)<(n:Int):=by omega
      go_upto_region 17 with(fail)
      obtain⟨gs,ks,cs,hs1,hs2,hs3⟩:=HJ.out.area.out;have hgs:=HJ.out.gs;have hxs:=HJ.out.area.lt;have hgl:g<wr.heap.size:=World.block_lt_of_cell? _ _ (HJ.out.row 0 hn0);have hbx:=HLT.out b (by simp[mblocks]);have hgx:=HLT.out gp (by simp[mblocks]);have hsl:s+1<wr.heap.size:=by omega
      have q0:0≤ori (pat M.pts (p 0)) (pat M.pts (p i)) (pat M.pts (p m)):=by
       have:=HTI.out 0 hn0;rw[ori_rot];exact this
      have har:=fun u=>Nu.area_any (pat M.pts (p 0)) (pat M.pts (p i)) (pat M.pts (p m)) _ u (HO.out.near _) (HO.out.near _) (HO.out.near _) (Int.toNat_of_nonneg q0).symm
      have hfi:=HFI.out;have hfb:=HFB.out (i+1) (by omega);rw[hfi]at hfb;generalize (ori (pat M.pts (p 0)) (pat M.pts (p i)) (pat M.pts (p m))).toNat=A0 at *;generalize fanTo M n i=F at *;have HAR:=Hd har;have HFI':=Hd hfi;have HFB':=Hd hfb;have c0:∀u,Rest (s+1) wr u→u.cell? ⟨w.heap.size,0,none⟩=some (.pointer (some ⟨b,0,none⟩)):=fun u hu=>hu.cell HJ.out.area.box (by omega) 0 _ rfl
      have c1:∀u,Rest (s+1) wr u→u.cell? ⟨b,0,none⟩=some (.slice (some ⟨gp,0,none⟩) M.pts.length cp):=fun u hu=>hu.cell hMq.head (by omega) 0 _ rfl
      have c2:∀u,Rest (s+1) wr u→u.cell? ⟨g,0,none⟩=some (.int .i64 (p 0:Nat)):=fun u hu=>hu.cell' (HJ.out.row 0 hn0) (by show g≠s+1;omega)
      have d0:∀u,Rest (s+1) wr u→u.cell? ⟨gp,p 0*2,none⟩=some (.int .i64 (pat M.pts (p 0)).x):=fun u hu=>hu.cell' (hMq.pts _ pl0).1 (by show gp≠s+1;omega)
      have d1:∀u,Rest (s+1) wr u→u.cell? ⟨gp,p 0*2+1,none⟩=some (.int .i64 (pat M.pts (p 0)).y):=fun u hu=>hu.cell' (hMq.pts _ pl0).2 (by show gp≠s+1;omega)
      have d2:∀u,Rest (s+1) wr u→u.cell? ⟨gp,p i*2,none⟩=some (.int .i64 (pat M.pts (p i)).x):=fun u hu=>hu.cell' (hMq.pts _ pl1).1 (by show gp≠s+1;omega)
      have d3:∀u,Rest (s+1) wr u→u.cell? ⟨gp,p i*2+1,none⟩=some (.int .i64 (pat M.pts (p i)).y):=fun u hu=>hu.cell' (hMq.pts _ pl1).2 (by show gp≠s+1;omega)
      have d4:∀u,Rest (s+1) wr u→u.cell? ⟨gp,p m*2,none⟩=some (.int .i64 (pat M.pts (p m)).x):=fun u hu=>hu.cell' (hMq.pts _ pl2).1 (by show gp≠s+1;omega)
      have d5:∀u,Rest (s+1) wr u→u.cell? ⟨gp,p m*2+1,none⟩=some (.int .i64 (pat M.pts (p m)).y):=fun u hu=>hu.cell' (hMq.pts _ pl2).2 (by show gp≠s+1;omega)
      have q1:((p 0:Nat):Int)<(M.pts.length:Int):=by omega
      have q2:((p i:Nat):Int)<(M.pts.length:Int):=by omega
      have q3:((p m:Nat):Int)<(M.pts.length:Int):=by omega
      have r1:(0:Int)≤((p 0:Nat):Int):=by omega
      have r2:(0:Int)≤((p i:Nat):Int):=by omega
      have r3:(0:Int)≤((p m:Nat):Int):=by omega
      have nl:(0:Int)<(n:Int):=by omega
      have HJ':=Hd HJ.out;have HS1:=Hd hs1;have HS2:=Hd hs2;obtain⟨x0,x1,x2,x3⟩:=hs1.two;clear hMq pl0 pl1 pl2 hs1 hs2 hs3 har hfi hfb HJ q0;clear x0 x1 x2 x3;refine Go.Gq.region_held (Rest (s+1) wr) (by kernel_rfl) (Rest.drew _ _) (fun hHeld=>?_);refine wpAnyH_take (i:=1) (v:=?_) rfl (by kernel_rfl) (by kernel_rfl) (by kernel_rfl) (fun _ _ _ h=>h) (Or.inl ⟨by rfl,?_⟩) (by assumption) ?_;rotate_left
      ·intro u hu;go_simp;(try with_reducible rfl)
      try simp only[Act.put,pu]
      refine wpAnyH_take (i:=2) (v:=?_) rfl (by kernel_rfl) (by kernel_rfl) (by kernel_rfl) (fun _ _ _ h=>h) (Or.inl ⟨by rfl,?_⟩) (by assumption) ?_;rotate_left
      ·intro u hu;go_simp;(try with_reducible rfl)
      try simp only[Act.put,pu]
      refine wpAnyH_take (i:=3) (v:=?_) rfl (by kernel_rfl) (by kernel_rfl) (by kernel_rfl) (fun _ _ _ h=>h) (Or.inl ⟨by rfl,?_⟩) (by assumption) ?_;rotate_left
      ·intro u hu;go_simp;(try with_reducible rfl)
      try simp only[Act.put,pu]
      refine wpAnyH_take (i:=4) (v:=?_) rfl (by kernel_rfl) (by kernel_rfl) (by kernel_rfl) (fun _ _ _ h=>h) (Or.inl ⟨by rfl,?_⟩) (by assumption) ?_;rotate_left
      ·intro u hu;go_simp;(try with_reducible rfl)
      try simp only[Act.put,pu]
      refine wpAnyH_take (i:=5) (v:=?_) rfl (by kernel_rfl) (by kernel_rfl) (by kernel_rfl) (fun _ _ _ h=>h) (Or.inl ⟨by rfl,?_⟩) (by assumption) ?_;rotate_left
      ·intro u hu;go_simp;(try with_reducible rfl)
      try simp only[Act.put,pu]
      refine wpAnyH_take (i:=6) (v:=?_) rfl (by kernel_rfl) (by kernel_rfl) (by kernel_rfl) (fun _ _ _ h=>h) (Or.inl ⟨by rfl,?_⟩) (by assumption) ?_;rotate_left
      ·intro u hu;go_simp;(try with_reducible rfl)
      try simp only[Act.put,pu]
      refine wpAnyH_take (i:=7) (v:=?_) rfl (by kernel_rfl) (by kernel_rfl) (by kernel_rfl) (fun _ _ _ h=>h) (Or.inl ⟨by rfl,?_⟩) (by assumption) ?_;rotate_left
      ·intro u hu;go_simp;(try with_reducible rfl)
      try simp only[Act.put,pu]
      refine wpAnyH_take (i:=8) (v:=?_) rfl (by kernel_rfl) (by kernel_rfl) (by kernel_rfl) (fun _ _ _ h=>h) (Or.inl ⟨by rfl,?_⟩) (by assumption) ?_;rotate_left
      ·intro u hu;go_simp;(try with_reducible rfl)
      try simp only[Act.put,pu]
      refine wpAnyH_take (i:=9) (v:=?_) rfl (by kernel_rfl) (by kernel_rfl) (by kernel_rfl) (fun _ _ _ h=>h) (Or.inl ⟨by rfl,?_⟩) (by assumption) ?_;rotate_left
      ·intro u hu;go_simp;(try with_reducible rfl)
      try simp only[Act.put,pu]
      refine wpAnyH_take (i:=10) (v:=?_) rfl (by kernel_rfl) (by kernel_rfl) (by kernel_rfl) (fun _ _ _ h=>h) (Or.inl ⟨by rfl,?_⟩) (by assumption) ?_;rotate_left
      ·intro u hu;go_simp;(try with_reducible rfl)
      try simp only[Act.put,pu]
      refine wpAnyH_take (i:=11) (v:=?_) rfl (by kernel_rfl) (by kernel_rfl) (by kernel_rfl) (fun _ _ _ h=>h) (Or.inl ⟨by rfl,?_⟩) (by assumption) ?_;rotate_left
      ·intro u hu;go_simp;(try with_reducible rfl)
      try simp only[Act.put,pu]
      refine wpAnyH_take (i:=12) (v:=?_) rfl (by kernel_rfl) (by kernel_rfl) (by kernel_rfl) (fun _ _ _ h=>h) (Or.inl ⟨by rfl,?_⟩) (by assumption) ?_;rotate_left
      ·intro u hu;go_simp;(try with_reducible rfl)
      try simp only[Act.put,pu]
      refine wpAnyH_take (i:=13) (v:=?_) rfl (by kernel_rfl) (by kernel_rfl) (by kernel_rfl) (fun _ _ _ h=>h) (Or.inl ⟨by rfl,?_⟩) (by assumption) ?_;rotate_left
      ·intro u hu;go_simp;(try with_reducible rfl)
      try simp only[Act.put,pu]
      refine wpAnyH_take (i:=14) (v:=?_) rfl (by kernel_rfl) (by kernel_rfl) (by kernel_rfl) (fun _ _ _ h=>h) (Or.inl ⟨by rfl,?_⟩) (by assumption) ?_;rotate_left
      ·intro u hu;go_simp;(try with_reducible rfl)
      try simp only[Act.put,pu]
      refine wpAnyH_take (i:=15) (v:=?_) rfl (by kernel_rfl) (by kernel_rfl) (by kernel_rfl) (fun _ _ _ h=>h) (Or.inl ⟨by rfl,?_⟩) (by assumption) ?_;rotate_left
      ·intro u hu;go_simp;(try with_reducible rfl)
      try simp only[Act.put,pu]
      refine wpAnyH_take (i:=16) (v:=?_) rfl (by kernel_rfl) (by kernel_rfl) (by kernel_rfl) (fun _ _ _ h=>h) (Or.inl ⟨by rfl,?_⟩) (by assumption) ?_;rotate_left
      ·intro u hu;go_simp;(try with_reducible rfl)
      try simp only[Act.put,pu]
      refine wpAnyH_take (i:=17) (v:=?_) rfl (by kernel_rfl) (by kernel_rfl) (by kernel_rfl) (fun _ _ _ h=>h) (Or.inl ⟨by rfl,?_⟩) (by assumption) ?_;rotate_left
      ·intro u hu;go_simp;(try with_reducible rfl)
      try simp only[Act.put,pu]
      refine wpAnyH_take (i:=18) (v:=?_) rfl (by kernel_rfl) (by kernel_rfl) (by kernel_rfl) (fun _ _ _ h=>h) (Or.inl ⟨by rfl,?_⟩) (by assumption) ?_;rotate_left
      ·intro u hu;go_simp;(try with_reducible rfl)
      try simp only[Act.put,pu]
      refine wpAnyH_take (i:=19) (v:=?_) rfl (by kernel_rfl) (by kernel_rfl) (by kernel_rfl) (fun _ _ _ h=>h) (Or.inl ⟨by rfl,?_⟩) (by assumption) ?_;rotate_left
      ·intro u hu;go_simp;(try with_reducible rfl)
      try simp only[Act.put,pu]
      refine wpAnyH_take (i:=20) (v:=?_) rfl (by kernel_rfl) (by kernel_rfl) (by kernel_rfl) (fun _ _ _ h=>h) (Or.inl ⟨by rfl,?_⟩) (by assumption) ?_;rotate_left
      ·intro u hu;go_simp;(try with_reducible rfl)
      try simp only[Act.put,pu]
      refine wpAnyH_take (i:=21) (v:=?_) rfl (by kernel_rfl) (by kernel_rfl) (by kernel_rfl) (fun _ _ _ h=>h) (Or.inl ⟨by rfl,?_⟩) (by assumption) ?_;rotate_left
      ·intro u hu;go_simp;(try with_reducible rfl)
      try simp only[Act.put,pu]
      refine wpAnyH_take (i:=22) (v:=?_) rfl (by kernel_rfl) (by kernel_rfl) (by kernel_rfl) (fun _ _ _ h=>h) (Or.inl ⟨by rfl,?_⟩) (by assumption) ?_;rotate_left
      ·intro u hu;go_simp;(try with_reducible rfl)
      try simp only[Act.put,pu]
      refine wpAnyH_take (i:=23) (v:=?_) rfl (by kernel_rfl) (by kernel_rfl) (by kernel_rfl) (fun _ _ _ h=>h) (Or.inl ⟨by rfl,?_⟩) (by assumption) ?_;rotate_left
      ·intro u hu;go_simp;(try with_reducible rfl)
      try simp only[Act.put,pu]
      refine wpAnyH_ready (rs:=[0,24]) (by kernel_rfl) (by simp) ?_;refine AllReadyH.cons rfl (fun K hK=>?_) ?_
      ·obtain⟨x0,x1,x2,x3⟩:=HS1.out.two
       go_simp;refine hK.out _ _ (Rest.drew _ _) (fun hHeld=>?_);clear hK K x0 x1 x2 x3
       try simp only[Act.put,pu]
       refine wpAnyH_ready (rs:=[24]) (by kernel_rfl) (by simp) ?_;refine AllReadyH.cons rfl (fun K hK=>?_) AllReadyH.nil;go_simp
       go_at_call 94
       refine(HAR.out _).mono ?_;rintro e w7 ⟨⟨g7,k7,c7,hg7,rfl,hm7⟩,hb7'⟩;have hb7:=bel_step (bel_drew (bel_refl wr)) hb7';have HM7:=Hd hm7;refine hK.out _ _ (Rest.of hb7) (fun hHeld=>?_);clear hK K hm7 hb7'
       try simp only[Act.put,pu]
       refine wpAnyH_ready (rs:=[25]) (by kernel_rfl) (by simp) ?_;refine AllReadyH.cons rfl (fun K hK=>?_) AllReadyH.nil;go_simp
       go_at_call 74
       refine(plus_any _ _ ks cs k7 c7 F A0 3 3 _ ((HS2.out.later hb7).short (by have:=HFB'.out;omega)) (HM7.out.short (by have:=HFB'.out;omega)) (by omega) (by omega) HFB'.out).mono ?_;rintro e w8 ⟨⟨g8,k8,c8,hg8,rfl,hm8⟩,hb8⟩;have hb68:=bel_step hb7 hb8;have HM8:=Hd hm8;refine hK.out _ _ (Rest.of hb68) (fun hHeld=>?_);clear hK K hm8
       try simp only[Act.put,pu]
       obtain⟨z0,z1,z2,z3⟩:=(HS1.out.later hb68).two;refine wpAnyH_ready (rs:=[26]) (by kernel_rfl) (by simp) ?_;refine AllReadyH.cons rfl (fun K hK=>?_) AllReadyH.nil;go_simp;refine hK.out _ _ (Rest.set hHeld) (fun hHeld=>?_);clear hK K
       try simp only[Act.put,pu]
       refine wpAnyH_done (by kernel_rfl) ?_ _;unfold Go.Gq.OnlyN;have hF9:=HJ'.out.put hb68 (by have:=hb7.size;omega) HM8.out (HS1.out.later hb68);rw[←HFI'.out]at hF9;have HF9:=Hd hF9;clear hF9 z0 z1 z2 z3 c0 c1 c2 d0 d1 d2 d3 d4 d5;go_wp2;go_roundw
       case rel=>exact⟨i+1,by go_num,by omega,HF9⟩
       case measure=>simp[intOf];omega
      refine AllReadyH.cons rfl (fun K hK=>?_) AllReadyH.nil;go_simp
      go_at_call 94
      refine(HAR.out _).mono ?_;rintro e w7 ⟨⟨g7,k7,c7,hg7,rfl,hm7⟩,hb7'⟩;have hb7:=bel_step (bel_drew (bel_refl wr)) hb7';have HM7:=Hd hm7;refine hK.out _ _ (Rest.of hb7) (fun hHeld=>?_);clear hK K hm7 hb7'
      try simp only[Act.put,pu]
      refine wpAnyH_ready (rs:=[0]) (by kernel_rfl) (by simp) ?_;refine AllReadyH.cons rfl (fun K hK=>?_) AllReadyH.nil;obtain⟨x0,x1,x2,x3⟩:=(HS1.out.later hb7).two;go_simp;refine hK.out _ _ hHeld (fun hHeld=>?_);clear hK K x0 x1 x2 x3
      try simp only[Act.put,pu]
      refine wpAnyH_ready (rs:=[25]) (by kernel_rfl) (by simp) ?_;refine AllReadyH.cons rfl (fun K hK=>?_) AllReadyH.nil;go_simp
      go_at_call 74
      refine(plus_any _ _ ks cs k7 c7 F A0 3 3 _ ((HS2.out.later hb7).short (by have:=HFB'.out;omega)) (HM7.out.short (by have:=HFB'.out;omega)) (by omega) (by omega) HFB'.out).mono ?_;rintro e w8 ⟨⟨g8,k8,c8,hg8,rfl,hm8⟩,hb8⟩;have hb68:=bel_step hb7 hb8;have HM8:=Hd hm8;refine hK.out _ _ (Rest.of hb68) (fun hHeld=>?_);clear hK K hm8
      try simp only[Act.put,pu]
      obtain⟨z0,z1,z2,z3⟩:=(HS1.out.later hb68).two;refine wpAnyH_ready (rs:=[26]) (by kernel_rfl) (by simp) ?_;refine AllReadyH.cons rfl (fun K hK=>?_) AllReadyH.nil;go_simp;refine hK.out _ _ (Rest.set hHeld) (fun hHeld=>?_);clear hK K
      try simp only[Act.put,pu]
      refine wpAnyH_done (by kernel_rfl) ?_ _;unfold Go.Gq.OnlyN;have hF9:=HJ'.out.put hb68 (by have:=hb7.size;omega) HM8.out (HS1.out.later hb68);rw[←HFI'.out]at hF9;have HF9:=Hd hF9;clear hF9 z0 z1 z2 z3 c0 c1 c2 d0 d1 d2 d3 d4 d5;go_wp2;go_roundw
      case rel=>exact⟨i+1,by go_num,by omega,HF9⟩
      case measure=>simp[intOf];omega
   ·obtain rfl:i=n:=by omega
    obtain⟨g3,k3,c3,a1,a2,_⟩:=HF.out.area.sum;obtain⟨g4,k4,c4,b1,b2,_⟩:=HF.out.area.out;have hil:¬(i:Int)<(i:Int):=by omega
    have HA2:=Hd a2;have HB2:=Hd b2;obtain⟨x0,x1,_,_⟩:=a1.two;obtain⟨y0,y1,_,_⟩:=b1.two;clear a1 a2 b1 b2
    go_wp2_with (go_at_call 95;refine(Nc.cmp_any _ _ k3 k4 c3 c4 _ _ HA2.out HB2.out).mono ?_;rintro e w5 ⟨rfl,hb5⟩;have HB5:=Hd hb5;clear hb5)
    have fD:=(HB5.out.block D (Array.getElem?_eq_some_iff.1 HF.out.dd).1).trans HF.out.dd;refine⟨by simp,.inl ⟨_,_,rfl,run_takeDeferred fD,?_⟩⟩;refine⟨.bool true,by simp[results,Tryz.results62,go_sem],⟨rfl,?_⟩⟩;exact(bel_step HF.out.area.bel HB5.out).trans (belowK_b (w:=w) (Nat.le_refl _) _ D _ _ (by have:=HLW.out;omega) fD rfl rfl)
 case stop=>
  intro D c pre V _ _ h _;exact h.elim
end Aw
end Go.Proofs.YtdihefgleefhmaaGreat
