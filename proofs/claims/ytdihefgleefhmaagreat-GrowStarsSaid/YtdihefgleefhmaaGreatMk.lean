import Derived.Test.YtdihefgleefhmaaGreatMs
import Derived.Deep.AppendLies
import Derived.Deep.RegionLaw
import Derived.Deep.DeepCutAuto
import Derived.StillTailTactics
namespace Go.Proofs.YtdihefgleefhmaaGreat
open Go.RowKit
attribute [local go_sem ↓] Go.wp_at_zero Go.wp_at_succ
def Tri.new(a b c:Int):Tri:=⟨a,b,c,-1,-1,-1,false,false,false⟩
def setAt(l:List Int)(v:Int)(n:Nat):List Int:=if 0≤v then l.set v.toNat n else l
def Mesh.made(M:Mesh)(t:Tri):Mesh×Nat:=match M.free.getLast? with
 | some n=>({M with tris:=M.tris.set n t,free:=M.free.dropLast },n)
 | none=>({M with tris:=M.tris++[t] },M.tris.length)
def Mesh.make(M:Mesh)(a b c:Int):Mesh×Nat:=
 let r:=M.made (Tri.new a b c)
 ({r.1 with at_:=setAt (setAt (setAt r.1.at_ a r.2) b r.2) c r.2 },r.2)
theorem own_cap{W:World}{B e s n c g:Nat}{xs:List Value}(h:W.ownsRow B e s (.slice (some ⟨g,0,none⟩) n c) n xs):n≤c:=by
 obtain⟨hl,⟨h0,_⟩|⟨g',c',cur,hv,hB,hh,h1,h2,h3,h4⟩⟩:=h
 ·simp at h0
 ·simp only[Value.slice.injEq,Option.some.injEq,Addr.mk.injEq,and_true,true_and]at hv
  obtain⟨rfl,rfl⟩:=hv;exact h1
theorem own_take{W:World}{B e k c g:Nat}{xs:List Value}{x:Value}(h:W.ownsRow B e 1 (.slice (some ⟨g,0,none⟩) (k+1) c) (k+1) (xs++[x])):W.ownsRow B e 1 (.slice (some ⟨g,0,none⟩) k c) k xs:=by
 obtain⟨hl,⟨h0,_⟩|⟨g',c',cur,hv,hB,hh,h1,h2,h3,h4⟩⟩:=h
 ·simp at h0
 ·simp only[Value.slice.injEq,Option.some.injEq,Addr.mk.injEq,and_true,true_and]at hv
  obtain⟨rfl,rfl⟩:=hv;have hxl:xs.length=k:=by simpa using hl
  refine⟨by simpa using hxl,.inr ⟨g,c,cur,rfl,hB,hh,by omega,h2,h3,?_⟩⟩;have:=congrArg (List.take k) h4;rw[List.take_take]at this;simp only[Nat.mul_one]at this ⊢;rw[show min k (k+1)=k by omega]at this;rw[this,List.take_append_of_le_length (by omega),List.take_of_length_le (by omega)]
theorem MAt.cutFree{B:Nat}{W:World}{b:Nat}{M:Mesh}{pV tV aV:Value}{gf k cf:Nat}{l:List Nat}{n:Nat}(h:MAt B W b M pV tV (.slice (some ⟨gf,0,none⟩) (k+1) cf) aV)(hl:M.free=l++[n])(hk:l.length=k) :
  MAt B (W.setCell ⟨b,2,none⟩ (.slice (some ⟨gf,0,none⟩) k cf)) b {M with free:=l } pV tV (.slice (some ⟨gf,0,none⟩) k cf) aV:=by
 have hf:=h.free;rw[hl]at hf;simp only[List.length_append,List.length_cons,List.length_nil,Nat.zero_add,hk,List.map_append,List.map_cons,List.map_nil]at hf;have hf2:=own_take hf;refine⟨h.head.set 2 _,h.le,ownsRow_setCell_other (a:=⟨b,2,none⟩) h.pts ?_ _,ownsRow_setCell_other (a:=⟨b,2,none⟩) h.tris ?_ _,ownsRow_setCell_other (a:=⟨b,2,none⟩) (by show World.ownsRow _ _ _ _ _ l.length _;rw[hk];exact hf2) ?_ _,ownsRow_setCell_other (a:=⟨b,2,none⟩) h.at_ ?_ _,?_⟩
 ·exact fun e=>blk_ne h.head h.pts (by decide) e rfl
 ·exact fun e=>blk_ne h.head h.tris (by decide) e rfl
 ·exact fun e=>blk_ne h.head hf2 (by decide) e rfl
 ·exact fun e=>blk_ne h.head h.at_ (by decide) e rfl
 ·exact h.apart
theorem own_slice{W:World}{B e s n:Nat}{v:Value}{xs:List Value}(h:W.ownsRow B e s v n xs):∃A c,v=.slice A n c:=by
 obtain⟨_,⟨rfl,rfl⟩|⟨g,c,cur,rfl,_⟩⟩:=h
 ·exact⟨none,0,rfl⟩
 ·exact⟨_,c,rfl⟩
theorem Tryz.info61':(Tryz.prog.info? 43).map (fun i=>(i.zero,i.size,i.bytes))=some (some (.agg #[.int .i64 0,.int .i64 0,.int .i64 0,.int .i64 0,.int .i64 0,.int .i64 0,.bool false,.bool false,.bool false]),9,56):=by kernel_rfl
theorem Blk.nine{W:World}{b t:Nat}{x0 x1 x2 x3 x4 x5 x6 x7 x8:Value}(h:Blk W b t #[x0,x1,x2,x3,x4,x5,x6,x7,x8]):W.cell? ⟨b,0,none⟩=some x0∧W.cell? ⟨b,1,none⟩=some x1∧W.cell? ⟨b,2,none⟩=some x2∧W.cell? ⟨b,3,none⟩=some x3∧W.cell? ⟨b,4,none⟩=some x4∧W.cell? ⟨b,5,none⟩=some x5:=
 ⟨h.cell 0 x0 rfl,h.cell 1 x1 rfl,h.cell 2 x2 rfl,h.cell 3 x3 rfl,h.cell 4 x4 rfl,h.cell 5 x5 rfl⟩
section
variable {B:Nat} {W:World} {b:Nat} {M:Mesh} {pV tV fV aV:Value}
theorem MAt.grownTris(h:MAt B W b M pV tV fV aV){W1:World}{v':Value}{l:List Tri}(hrow:W1.ownsRow B 43 9 v' l.length (l.flatMap Tri.cs))(hg:W.grownBy W1 tV.ownBlock) :
  MAt B (W1.setCell ⟨b,1,none⟩ v') b {M with tris:=l } pV v' fV aV:=by
 have fne:∀{g:Nat},tV.ownBlock=some g→b≠g:=fun hg=>blk_ne h.head h.tris (by decide) hg
 have kh:Blk W1 b 39 #[pV,tV,fV,aV]:=(hg.block b h.head.lt (fun e=>fne e.symm rfl)).trans h.head
 have kept:∀{e s n:Nat} {v:Value} {xs:List Value},W.ownsRow B e s v n xs→e≠43→W1.ownsRow B e s v n xs:=by
  intro e s n v xs hv he;refine hv.kept hg ?_;cases ho:tV.ownBlock with
  | none=>cases hv':v.ownBlock with
   | none=>exact .inl rfl
   | some g=>exact .inr (by simp)
  | some g=>exact .inr (own_ne hv h.tris he ho)
 have ra:=kept h.at_ (by decide);have rp:=kept h.pts (by decide);have rf:=kept h.free (by decide);refine⟨kh.set 1 v',h.le,ownsRow_setCell_other (a:=⟨b,1,none⟩) rp ?_ _,ownsRow_setCell_other (a:=⟨b,1,none⟩) hrow ?_ _,ownsRow_setCell_other (a:=⟨b,1,none⟩) rf ?_ _,ownsRow_setCell_other (a:=⟨b,1,none⟩) ra ?_ _,h.apart⟩
 ·exact fun e=>blk_ne kh rp (by decide) e rfl
 ·exact fun e=>blk_ne kh hrow (by decide) e rfl
 ·exact fun e=>blk_ne kh rf (by decide) e rfl
 ·exact fun e=>blk_ne kh ra (by decide) e rfl
theorem tris_block(h:MAt B W b M pV tV fV aV):tV.ownBlock≠some W.heap.size:=by
 intro e;have:=(h.tris.lt _ e).2;omega
theorem tris_step(h:MAt B W b M pV tV fV aV){o:Obj}{W1:World}{v':Value}{t:Tri}(h1:W1.ownsRow B 43 9 v' (M.tris.length+1) ((M.tris.flatMap Tri.cs)++t.cs))(h2:(W.alloc o).grownBy W1 tV.ownBlock) :
  MAt B (W1.setCell ⟨b,1,none⟩ v') b {M with tris:=M.tris++[t] } pV v' fV aV∧Below B W W1∧W1.cell? ⟨b,1,none⟩=some tV∧W1.frozen? ⟨b,1,none⟩=false:=by
 have hA:MAt B (W.alloc o) b M pV tV fV aV:=h.later (bel_alloc (bel_refl W) o);have hne:some b≠tV.ownBlock:=fun e=>blk_ne hA.head hA.tris (by decide) e.symm rfl
 refine⟨MAt.grownTris (l:=M.tris++[t]) hA (by simpa using h1) h2,⟨h2.os,h2.tape,h2.output,Nat.le_trans (by simp) h2.size,fun k hk=>?_⟩,h2.cell (hA.head.cell 1 tV rfl) hne,(World.frozen?_of_block (a:=⟨b,1,none⟩) (h2.block b hA.head.lt hne)).trans (hA.head.frozen 1)⟩;have hkB:k<W.heap.size:=Nat.lt_of_lt_of_le hk (Nat.le_trans h.le (Nat.le_of_lt h.head.lt));refine(h2.block k (by simp;omega) (fun e=>?_)).trans (Below.heap_alloc _ _ _ hkB);have:=(h.tris.lt k e.symm).1;omega
theorem grown_drew{W1:World}{row:Option Nat}(h:W.drew.grownBy W1 row):W.grownBy W1 row:=⟨h.os,h.tape,h.output,h.size,h.block⟩
theorem blk_grown{c t:Nat}{cs:Array Value}(h:Blk W c t cs){o:Obj}{W1:World}{row:Option Nat}(h2:(W.alloc o).grownBy W1 row)(hr:some c≠row):Blk W1 c t cs:=
 (h2.block c (h.alloc o).lt hr).trans (h.alloc o)
end
def ats(l:List Int)(a1 a2 a3:Int)(n:Nat):Nat→List Int
 | 0=>l
 | 1=>setAt l a1 n
 | 2=>setAt (setAt l a1 n) a2 n
 | _=>setAt (setAt (setAt l a1 n) a2 n) a3 n
theorem setAt_len(l:List Int)(v:Int)(n:Nat):(setAt l v n).length=l.length:=by unfold setAt;split<;>simp
theorem ats_len(l:List Int)(a1 a2 a3:Int)(n k:Nat):(ats l a1 a2 a3 n k).length=l.length:=by
 match k with
 | 0=>rfl
 | 1=>exact setAt_len _ _ _
 | 2=>exact(setAt_len _ _ _).trans (setAt_len _ _ _)
 | k+3=>exact(setAt_len _ _ _).trans ((setAt_len _ _ _).trans (setAt_len _ _ _))
theorem made_at(M:Mesh)(t:Tri):(M.made t).1.at_=M.at_:=by unfold Mesh.made;split<;>rfl
theorem MAt.storeAt{B:Nat}{W:World}{b:Nat}{M:Mesh}{pV tV fV:Value}{ga ca n i:Nat}(h:MAt B W b M pV tV fV (.slice (some ⟨ga,0,none⟩) n ca))(hn:M.at_.length=n)(hi:i<n)(x:Int) :
  MAt B (W.setCell ⟨ga,i,none⟩ (.int .i64 x)) b {M with at_:=M.at_.set i x } pV tV fV (.slice (some ⟨ga,0,none⟩) n ca):=by
 subst hn;obtain⟨hs,hg⟩:=h.at_.stored i (.int .i64 x);refine⟨h.head.other (blk_ne h.head h.at_ (by decide) rfl) _ _,h.le,ownsRow_setCell_other (a:=⟨ga,i,none⟩) h.pts (own_ne h.pts h.at_ (by decide) rfl) _,ownsRow_setCell_other (a:=⟨ga,i,none⟩) h.tris (own_ne h.tris h.at_ (by decide) rfl) _,ownsRow_setCell_other (a:=⟨ga,i,none⟩) h.free ?_ _,?_,h.apart⟩
 ·rcases h.apart with h1|h1
  ·rw[h1];simp
  ·exact h1
 ·show World.ownsRow _ _ _ _ _ (M.at_.set i x).length ((M.at_.set i x).map _)
  rw[List.length_set,List.map_set];exact hs
theorem at_cell{B:Nat}{W:World}{b:Nat}{M:Mesh}{pV tV fV:Value}{ga ca n i:Nat}(h:MAt B W b M pV tV fV (.slice (some ⟨ga,0,none⟩) n ca))(hi:i<M.at_.length)(hn:M.at_.length=n:=by rfl):∃x,W.cell? ⟨ga,i,none⟩=some x:=by
 subst hn;have:=h.at_.cellAt i (by omega);rw[List.getElem?_map,iat_get hi]at this;exact⟨_,this⟩
namespace Mk
theorem put_new(W:World)(g o:Nat)(a1 a2 a3:Int):World.putTri W g o (Tri.new a1 a2 a3)=((((((((W.setCell ⟨g,o,none⟩ (.int .i64 a1)).setCell ⟨g,o+1,none⟩ (.int .i64 a2)).setCell ⟨g,o+2,none⟩ (.int .i64 a3)).setCell ⟨g,o+3,none⟩ (.int .i64 (-1))).setCell ⟨g,o+4,none⟩ (.int .i64 (-1))).setCell ⟨g,o+5,none⟩ (.int .i64 (-1))).setCell ⟨g,o+6,none⟩ (.bool false)).setCell ⟨g,o+7,none⟩ (.bool false)).setCell ⟨g,o+8,none⟩ (.bool false):=rfl
theorem blk_put{W:World}{c t:Nat}{cs:Array Value}(h:Blk W c t cs){g:Nat}(hg:c≠g)(o:Nat)(x:Tri):Blk (World.putTri W g o x) c t cs:=
 ((((((((h.other hg _ _).other hg _ _).other hg _ _).other hg _ _).other hg _ _).other hg _ _).other hg _ _).other hg _ _).other hg _ _
theorem made_some{M:Mesh}{l:List Nat}{n:Nat}(h:M.free=l++[n])(t:Tri):M.made t=({M with tris:=M.tris.set n t,free:=l },n):=by
 unfold Mesh.made;rw[h,List.getLast?_concat,List.dropLast_concat]
theorem made_none{M:Mesh}(h:M.free=[])(t:Tri):M.made t=({M with tris:=M.tris++[t] },M.tris.length):=by
 unfold Mesh.made;rw[h];rfl
def Got(F:Nat→Prop)(B b c:Nat)(M:Mesh)(a1 a2 a3:Int)(w:World)(v:Value)(w':World):Prop:=
 v=.int .i64 (M.made (Tri.new a1 a2 a3)).2∧MeshF F B w' b (M.made (Tri.new a1 a2 a3)).1∧Blk w' c 43 #[.int .i64 a1,.int .i64 a2,.int .i64 a3,.int .i64 (-1),.int .i64 (-1),.int .i64 (-1),.bool false,.bool false,.bool false]∧Below B w w'∧Same F w w'
set_option maxRecDepth 100000 in
set_option maxHeartbeats 2000000 in
theorem make_any(F:Nat→Prop)(B b:Nat)(a1 a2 a3:Int)(M:Mesh)(w:World)(h:MeshF F B w b M)(hFs:∀k,F k→k<w.heap.size)(hn:M.tris.length≤1000000000)(hf:M.free.length≤1000000000)(hBw:B≤w.heap.size)(hfree:∀n∈M.free,n<M.tris.length)(ha1:a1<M.at_.length)(ha2:a2<M.at_.length)(ha3:a3<M.at_.length) :
  Calls Tryz.prog 39 #[.pointer (some ⟨b,0,none⟩),.int .i64 a1,.int .i64 a2,.int .i64 a3] w fun e w'=>e=.returned (.int .i64 (M.make a1 a2 a3).2)∧MeshF F B w' b (M.make a1 a2 a3).1∧Below B w w'∧Same F w w':=by
 obtain⟨pV,tV,fV,aV,h,hF⟩:=h;obtain⟨tA,ct,rfl⟩:=own_slice h.tris;obtain⟨fA,cf,rfl⟩:=own_slice h.free;obtain⟨fl,hfl⟩:∃fl,M.free.length=fl:=⟨_,rfl⟩;rw[hfl]at h hf hF;have HFL:=Hd hfl;have HF:=Hd hF;have NF:=Hd hFs;clear hfl hF hFs;have hA:MAt B (w.alloc (.cells #[.int .i64 a1,.int .i64 a2,.int .i64 a3,.int .i64 (-1),.int .i64 (-1),.int .i64 (-1),.bool false,.bool false,.bool false] 43)) b M pV (.slice tA M.tris.length ct) (.slice fA fl cf) aV:=h.later (bel_alloc (bel_refl w) _);have hbw:b<w.heap.size:=h.head.lt;have hbB:B≤b:=h.le;have hBx:=Blk.new w 43 #[.int .i64 a1,.int .i64 a2,.int .i64 a3,.int .i64 (-1),.int .i64 (-1),.int .i64 (-1),.bool false,.bool false,.bool false];have HBB:=Hd (bel_alloc (bel_refl w) (.cells #[.int .i64 a1,.int .i64 a2,.int .i64 a3,.int .i64 (-1),.int .i64 (-1),.int .i64 (-1),.bool false,.bool false,.bool false] 43));have hh1:=hA.head.cell 1 (.slice tA M.tris.length ct) rfl;have hh2:=hA.head.cell 2 (.slice fA fl cf) rfl;have HSS:=Hd ((Same.refl F w).alloc NF.out (.cells #[.int .i64 a1,.int .i64 a2,.int .i64 a3,.int .i64 (-1),.int .i64 (-1),.int .i64 (-1),.bool false,.bool false,.bool false] 43));have HA0:=Hd h;have HA:=Hd hA;have HBx:=Hd hBx;clear h hA hBx
 go_enter Tryz.func39,Tryz.ntmps39
 go_upto_if 31 with(fail)
 go_cut [10] (fun v w'=>Got F B b w.heap.size M a1 a2 a3 w v w')
 case first=>
  rcases List.eq_nil_or_concat M.free with hnil|⟨l,n,hl⟩
  ·skip
   obtain rfl:fl=0:=by have:=HFL.out;rw[hnil]at this;exact this.symm
   have hMade:=made_none hnil (Tri.new a1 a2 a3);have HMade:=Hd hMade;obtain⟨W,hW⟩:∃W,(w.alloc (.cells #[.int .i64 a1,.int .i64 a2,.int .i64 a3,.int .i64 (-1),.int .i64 (-1),.int .i64 (-1),.bool false,.bool false,.bool false] 43))=W:=⟨_,rfl⟩;have hbW:w.heap.size<(w.alloc (.cells #[.int .i64 a1,.int .i64 a2,.int .i64 a3,.int .i64 (-1),.int .i64 (-1),.int .i64 (-1),.bool false,.bool false,.bool false] 43)).heap.size:=by simp
   have hwt:(Value.slice tA M.tris.length ct).ownBlock≠some w.heap.size:=tris_block HA0.out;rw[hW]at HA HBB HBx HSS hh1 hbW ⊢;clear HA0 hW hMade hnil hfree hh2;have hX2:=HBx.out;have b0:=hX2.cell 0 (.int .i64 a1) rfl;have b1:=hX2.cell 1 (.int .i64 a2) rfl;have b2:=hX2.cell 2 (.int .i64 a3) rfl;have b3:=hX2.cell 3 (.int .i64 (-1)) rfl;have b4:=hX2.cell 4 (.int .i64 (-1)) rfl;have b5:=hX2.cell 5 (.int .i64 (-1)) rfl;have b6:=hX2.cell 6 (.bool false) rfl;have b7:=hX2.cell 7 (.bool false) rfl;have b8:=hX2.cell 8 (.bool false) rfl;clear hX2;have hh1a:=cell_later hh1 (bel_alloc (bel_refl W) (.cells #[.int .i64 a1,.int .i64 a2,.int .i64 a3,.int .i64 (-1),.int .i64 (-1),.int .i64 (-1),.bool false,.bool false,.bool false] 43))
   go_upto_region 7 with(fail)
   obtain⟨i0,hi,hz0,hz1,hz2⟩:=info_parts Tryz.info61'
   go_region_law ((refine step_append_lies _ (by rfl) _ _ _ (by rfl) B 43 i0 (.agg #[.int .i64 0,.int .i64 0,.int .i64 0,.int .i64 0,.int .i64 0,.int .i64 0,.bool false,.bool false,.bool false]) 9 56 Tryz.underlying36 hi hz0 hz1 hz2 rfl (by decide) (.slice tA M.tris.length ct) M.tris.length (M.tris.flatMap Tri.cs) (by rfl) ((HA.out.tris.alloc _).drew) ⟨W.heap.size,0,none⟩ 1 1 (Tri.new a1 a2 a3).cs (by rfl) (by rfl) (World.news_of_block (cs:=#[.int .i64 a1,.int .i64 a2,.int .i64 a3,.int .i64 (-1),.int .i64 (-1),.int .i64 (-1),.bool false,.bool false,.bool false]) (t:=43) (fr:=(0,0)) (heap_alloc_new W _)) (by simp[Tri.new,Value.oneCell']) (by omega) (by unfold maxLen;omega) (by omega) (by simp;omega) (W.heap.size+1) (by simp) ?_;intro g cap w1 hown' hgrow hat hlt;have HX:=Hd (tris_step HA.out hown' (grown_drew hgrow));have HY:=Hd (blk_grown HBx.out (grown_drew hgrow) (fun e=>hwt e.symm));have hc1:=HX.out.2.2.1;have hc2:=HX.out.2.2.2;have HGR:=Hd (grown_drew hgrow);have HAT:=Hd hat;clear hown' hgrow hat))
   all_goals
    go_wp2_with fail
    go_meet
    have hFW:∀k,F k→k<W.heap.size:=fun k hk=>by have:=NF.out k hk;omega
    refine⟨by rw[HMade.out],?_,?_,?_,?_⟩
    ·rw[HMade.out]
     refine⟨_,_,_,_,HX.out.1,HF.out.1,fun g' hg=>?_⟩;rcases hg with hg|hg|hg|hg
     ·exact HF.out.2 g' (.inl hg)
     ·obtain rfl:g=g':=by simpa [Value.ownBlock] using hg
      rcases HAT.out with h1|h1
      ·exact HF.out.2 g (.inr (.inl h1))
      ·intro hk
       have:=hFW g hk;omega
     ·exact HF.out.2 g' (.inr (.inr (.inl hg)))
     ·exact HF.out.2 g' (.inr (.inr (.inr hg)))
    ·exact HY.out.other (by omega) 1 _
    ·exact((HBB.out.mono hBw).trans HX.out.2.1).setCell (p:=⟨b,1,none⟩) hbB _
    ·exact((HSS.out.alloc hFW _).grown (fun k hk=>by have:=hFW k hk;simp;omega) HGR.out (fun g hg=>HF.out.2 g (.inr (.inl hg)))).set HF.out.1 _ _
  ·skip
   rw[List.concat_eq_append]at hl;have hk0:M.free.length=l.length+1:=by rw[hl,List.length_append];rfl
   obtain⟨k,hkk⟩:∃k,l.length=k:=⟨_,rfl⟩;obtain rfl:fl=k+1:=by have:=HFL.out;omega
   have hfr:n<M.tris.length:=hfree n (by rw[hl];simp);have hfree2:=HA.out.free;rw[HFL.out]at hfree2;obtain⟨gf,c',hv,_⟩:=own_shape hfree2 (by omega);simp only[Value.slice.injEq,true_and]at hv;obtain⟨rfl,rfl⟩:=hv;obtain⟨gt,c',hv,hB⟩:=own_shape HA.out.tris (by omega);simp only[Value.slice.injEq,true_and]at hv;obtain⟨rfl,rfl⟩:=hv;have hcf:=own_cap hfree2;have hk:=HFL.out
   have hfc:(w.alloc (.cells #[.int .i64 a1,.int .i64 a2,.int .i64 a3,.int .i64 (-1),.int .i64 (-1),.int .i64 (-1),.bool false,.bool false,.bool false] 43)).cell? ⟨gf,k,none⟩=some (.int .i64 n):=by
    rw[hfree2.cellAt k (by omega),hl];simp[←hkk]
   have hz2:=HA.out.head.frozen 2
   have hgw:gt<w.heap.size:=by
    have h1:=(HA0.out.tris.lt gt rfl).2;exact h1
   have hMade:=made_some hl (Tri.new a1 a2 a3);have HMade:=Hd hMade;have HKK:=Hd hkk;have HLL:=Hd hl;clear hfree2;have HA1:Hid (MAt B (w.alloc (.cells #[.int .i64 a1,.int .i64 a2,.int .i64 a3,.int .i64 (-1),.int .i64 (-1),.int .i64 (-1),.bool false,.bool false,.bool false] 43)) b M pV (.slice (some ⟨gt,0,none⟩) M.tris.length ct) (.slice (some ⟨gf,0,none⟩) (k+1) cf) aV):=Hd HA.out;clear hMade hkk hl hfree hh1 hk0;obtain⟨W,hW⟩:∃W,(w.alloc (.cells #[.int .i64 a1,.int .i64 a2,.int .i64 a3,.int .i64 (-1),.int .i64 (-1),.int .i64 (-1),.bool false,.bool false,.bool false] 43))=W:=⟨_,rfl⟩;rw[hW]at HA1 HBB HBx HSS hh2 hz2 hfc ⊢;clear HA HA0 hW hk;have hd:decide (0<k+1)=true:=by simp
   have hc1:(k:Int)≤(cf:Int):=by omega
   have e1:IntKind.i64.wrap (k:Int)=k:=IntWalk.i64_in _ (by omega);have e0:(0:Int)≤(k:Int):=by omega
   have e2:(k:Int)<(k:Int)+1:=by omega
   go_upto_region 5 with(fail)
   go_region
   go_upto_region 6 with(fail)
   have hA2:=(MAt.cutFree HA1.out HLL.out HKK.out).drew;have hX2:Blk (W.setCell ⟨b,2,none⟩ (.slice (some ⟨gf,0,none⟩) k cf)).drew w.heap.size 43 #[.int .i64 a1,.int .i64 a2,.int .i64 a3,.int .i64 (-1),.int .i64 (-1),.int .i64 (-1),.bool false,.bool false,.bool false]:=(HBx.out.other (by omega) 2 (.slice (some ⟨gf,0,none⟩) k cf)).drew;have hS2:Same F w (W.setCell ⟨b,2,none⟩ (.slice (some ⟨gf,0,none⟩) k cf)).drew:=(HSS.out.set HF.out.1 2 _).drew;have HF2:Hid (Far F b pV (.slice (some ⟨gt,0,none⟩) M.tris.length ct) (.slice (some ⟨gf,0,none⟩) k cf) aV):=Hd ⟨HF.out.1,fun g hg=>HF.out.2 g hg⟩;have hB2:Below B w (W.setCell ⟨b,2,none⟩ (.slice (some ⟨gf,0,none⟩) k cf)).drew:=((HBB.out.mono hBw).setCell (p:=⟨b,2,none⟩) hbB _).drew;obtain⟨W2,hW2⟩:∃W2,(W.setCell ⟨b,2,none⟩ (.slice (some ⟨gf,0,none⟩) k cf)).drew=W2:=⟨_,rfl⟩;rw[hW2]at hA2 hX2 hB2 hS2 ⊢;clear hW2 hh2 hz2 hfc e0 e1 e2 hc1;have HA2:=Hd hA2;have HX2:=Hd hX2;have HB2:=Hd hB2;have HS2:=Hd hS2;have hh1:=hA2.head.cell 1 (.slice (some ⟨gt,0,none⟩) M.tris.length ct) rfl;have hfz:∀k,W2.frozen? ⟨gt,k,none⟩=false:=fun k=>hA2.tris.frozenAt k
   obtain⟨x0,c0⟩:=Lk.cells hA2 n 0 hfr (by omega);obtain⟨x1,c1⟩:=Lk.cells hA2 n 1 hfr (by omega);obtain⟨x2,c2⟩:=Lk.cells hA2 n 2 hfr (by omega);obtain⟨x3,c3⟩:=Lk.cells hA2 n 3 hfr (by omega);obtain⟨x4,c4⟩:=Lk.cells hA2 n 4 hfr (by omega);obtain⟨x5,c5⟩:=Lk.cells hA2 n 5 hfr (by omega);obtain⟨x6,c6⟩:=Lk.cells hA2 n 6 hfr (by omega);obtain⟨x7,c7⟩:=Lk.cells hA2 n 7 hfr (by omega);obtain⟨x8,c8⟩:=Lk.cells hA2 n 8 hfr (by omega);simp only[Nat.add_zero]at c0;have b0:=hX2.cell 0 (.int .i64 a1) rfl;have b1:=hX2.cell 1 (.int .i64 a2) rfl;have b2:=hX2.cell 2 (.int .i64 a3) rfl;have b3:=hX2.cell 3 (.int .i64 (-1)) rfl;have b4:=hX2.cell 4 (.int .i64 (-1)) rfl;have b5:=hX2.cell 5 (.int .i64 (-1)) rfl;have b6:=hX2.cell 6 (.bool false) rfl;have b7:=hX2.cell 7 (.bool false) rfl;have b8:=hX2.cell 8 (.bool false) rfl;clear hA2 hX2 hB2 hS2
   go_still_tail 7,(by kernel_rfl)
   show wpList _ _ _ _ _ W2.drew
   go_wp2
   go_meet
   have hP:=((HA2.out.putTri rfl n hfr (Tri.new a1 a2 a3)).drew);have hQ:Blk (World.putTri W2 gt (n*9) (Tri.new a1 a2 a3)).drew w.heap.size 43 #[.int .i64 a1,.int .i64 a2,.int .i64 a3,.int .i64 (-1),.int .i64 (-1),.int .i64 (-1),.bool false,.bool false,.bool false]:=(blk_put HX2.out (by omega) (n*9) (Tri.new a1 a2 a3)).drew;have hR:=(below_putTri hB HB2.out (n*9) (Tri.new a1 a2 a3)).drew;have hT:=(same_putTri (HF2.out.2 gt (.inr (.inl rfl))) HS2.out (n*9) (Tri.new a1 a2 a3)).drew;rw[put_new]at hP hQ hR hT;refine⟨by rw[HMade.out],?_,hQ,hR,hT⟩;rw[HMade.out];exact⟨_,_,_,_,hP,HF2.out⟩
 case rest=>
  rename_i wz
  obtain⟨hv,hM,hX,hBz,hSz⟩:=hcut;subst hv;have HMz:=Hd hM;have HXz:=Hd hX;have HBz:=Hd hBz;have HSz:=Hd hSz;obtain⟨k0,k1,k2,_,_,_⟩:=hX.nine;clear hM hX hBz hSz HA HA0 HBx HBB hh1 hh2 HF HSS;go_wp2;have hR:M.make a1 a2 a3=({(M.made (Tri.new a1 a2 a3)).1 with at_:=ats (M.made (Tri.new a1 a2 a3)).1.at_ a1 a2 a3 (M.made (Tri.new a1 a2 a3)).2 3 },(M.made (Tri.new a1 a2 a3)).2):=rfl;have HR:=Hd hR;have hal:(M.made (Tri.new a1 a2 a3)).1.at_.length=M.at_.length:=by rw[made_at]
  clear hR;generalize (M.made (Tri.new a1 a2 a3)).1=R at *;generalize (M.made (Tri.new a1 a2 a3)).2=n at *;rw[←hal]at ha1 ha2 ha3;clear hal
  go_loopw [69] (fun p wr=>∃k:Nat,p=.int .i64 k∧k≤3∧Hid (MeshF F B wr b {R with at_:=ats R.at_ a1 a2 a3 n k })∧Hid (Below B w wr)∧Hid (Same F w wr)) (fun p _=>3-(intOf p).toNat)
  case atStart=>exact⟨0,rfl,by omega,HMz,HBz,HSz⟩
  case round=>
   obtain⟨k,rfl,hk,HMw,HBw,HSw⟩:=hrel;rcases(show k=0∨k=1∨k=2∨k=3 by omega)with rfl|rfl|rfl|rfl
   ·have ix:∀w,(Instr.index 40 (.agg #[.int .i64 a1,.int .i64 a2,.int .i64 a3]) (.int .i64 0)).run Tryz.prog w=.ok (.int .i64 a1) w:=fun _=>by kernel_rfl
    by_cases hp:0≤a1
    ·obtain⟨pV,tV,fV,aV,hm,hf⟩:=HMw.out
     have hlen:(ats R.at_ a1 a2 a3 n 0).length=R.at_.length:=ats_len _ _ _ _ _ _;obtain⟨ga,ca,rfl,hBa⟩:=own_shape hm.at_ (by rw[show(Mesh.at_ {R with at_:=ats R.at_ a1 a2 a3 n 0 })=ats R.at_ a1 a2 a3 n 0 from rfl];omega);have hq:(a1.toNat)<(ats R.at_ a1 a2 a3 n 0).length:=by omega
     have hh3:=hm.head.cell 3 (.slice (some ⟨ga,0,none⟩) (ats R.at_ a1 a2 a3 n 0).length ca) rfl;have hfz:wr.frozen? ⟨ga,a1.toNat,none⟩=false:=hm.at_.frozenAt _;have hcx:∃x,wr.cell? ⟨ga,a1.toNat,none⟩=some x:=at_cell hm hq;obtain⟨x,hx⟩:=hcx;have HM2:=Hd (hm.storeAt rfl hq (n:Int));have NG:=Hd (hf.2 ga (.inr (.inr (.inr rfl))));have HFw:=Hd hf;have hqi:a1<((ats R.at_ a1 a2 a3 n 0).length:Int):=by omega
     have HBa:=Hd hBa;have e:ats R.at_ a1 a2 a3 n (0+1)=(ats R.at_ a1 a2 a3 n 0).set a1.toNat (n:Int):=by simp only[ats];rw[setAt,if_pos hp]
     have E:=Hd e;clear hm hBa e hlen hf;generalize ats R.at_ a1 a2 a3 n 0=L at *;go_wp2;go_roundw
     case rel=>exact⟨0+1,by go_num,by omega,Hd (by rw[E.out];exact⟨_,_,_,_,HM2.out,HFw.out⟩),Hd (HBw.out.setCell (p:=⟨ga,a1.toNat,none⟩) HBa.out _),Hd (HSw.out.set NG.out _ _)⟩
     case measure=>simp[intOf]
    ·have e:ats R.at_ a1 a2 a3 n (0+1)=ats R.at_ a1 a2 a3 n 0:=by simp only[ats];rw[setAt,if_neg hp]
     have E:=Hd e;clear e;go_wp2;go_roundw
     case rel=>exact⟨0+1,by go_num,by omega,Hd (by rw[E.out];exact HMw.out),HBw,HSw⟩
     case measure=>simp[intOf]
   ·have ix:∀w,(Instr.index 40 (.agg #[.int .i64 a1,.int .i64 a2,.int .i64 a3]) (.int .i64 1)).run Tryz.prog w=.ok (.int .i64 a2) w:=fun _=>by kernel_rfl
    by_cases hp:0≤a2
    ·obtain⟨pV,tV,fV,aV,hm,hf⟩:=HMw.out
     have hlen:(ats R.at_ a1 a2 a3 n 1).length=R.at_.length:=ats_len _ _ _ _ _ _;obtain⟨ga,ca,rfl,hBa⟩:=own_shape hm.at_ (by rw[show(Mesh.at_ {R with at_:=ats R.at_ a1 a2 a3 n 1 })=ats R.at_ a1 a2 a3 n 1 from rfl];omega);have hq:(a2.toNat)<(ats R.at_ a1 a2 a3 n 1).length:=by omega
     have hh3:=hm.head.cell 3 (.slice (some ⟨ga,0,none⟩) (ats R.at_ a1 a2 a3 n 1).length ca) rfl;have hfz:wr.frozen? ⟨ga,a2.toNat,none⟩=false:=hm.at_.frozenAt _;have hcx:∃x,wr.cell? ⟨ga,a2.toNat,none⟩=some x:=at_cell hm hq;obtain⟨x,hx⟩:=hcx;have HM2:=Hd (hm.storeAt rfl hq (n:Int));have NG:=Hd (hf.2 ga (.inr (.inr (.inr rfl))));have HFw:=Hd hf;have hqi:a2<((ats R.at_ a1 a2 a3 n 1).length:Int):=by omega
     have HBa:=Hd hBa;have e:ats R.at_ a1 a2 a3 n (1+1)=(ats R.at_ a1 a2 a3 n 1).set a2.toNat (n:Int):=by simp only[ats];rw[setAt,if_pos hp]
     have E:=Hd e;clear hm hBa e hlen hf;generalize ats R.at_ a1 a2 a3 n 1=L at *;go_wp2;go_roundw
     case rel=>exact⟨1+1,by go_num,by omega,Hd (by rw[E.out];exact⟨_,_,_,_,HM2.out,HFw.out⟩),Hd (HBw.out.setCell (p:=⟨ga,a2.toNat,none⟩) HBa.out _),Hd (HSw.out.set NG.out _ _)⟩
     case measure=>simp[intOf]
    ·have e:ats R.at_ a1 a2 a3 n (1+1)=ats R.at_ a1 a2 a3 n 1:=by simp only[ats];rw[setAt,if_neg hp]
     have E:=Hd e;clear e;go_wp2;go_roundw
     case rel=>exact⟨1+1,by go_num,by omega,Hd (by rw[E.out];exact HMw.out),HBw,HSw⟩
     case measure=>simp[intOf]
   ·have ix:∀w,(Instr.index 40 (.agg #[.int .i64 a1,.int .i64 a2,.int .i64 a3]) (.int .i64 2)).run Tryz.prog w=.ok (.int .i64 a3) w:=fun _=>by kernel_rfl
    by_cases hp:0≤a3
    ·obtain⟨pV,tV,fV,aV,hm,hf⟩:=HMw.out
     have hlen:(ats R.at_ a1 a2 a3 n 2).length=R.at_.length:=ats_len _ _ _ _ _ _;obtain⟨ga,ca,rfl,hBa⟩:=own_shape hm.at_ (by rw[show(Mesh.at_ {R with at_:=ats R.at_ a1 a2 a3 n 2 })=ats R.at_ a1 a2 a3 n 2 from rfl];omega);have hq:(a3.toNat)<(ats R.at_ a1 a2 a3 n 2).length:=by omega
     have hh3:=hm.head.cell 3 (.slice (some ⟨ga,0,none⟩) (ats R.at_ a1 a2 a3 n 2).length ca) rfl;have hfz:wr.frozen? ⟨ga,a3.toNat,none⟩=false:=hm.at_.frozenAt _;have hcx:∃x,wr.cell? ⟨ga,a3.toNat,none⟩=some x:=at_cell hm hq;obtain⟨x,hx⟩:=hcx;have HM2:=Hd (hm.storeAt rfl hq (n:Int));have NG:=Hd (hf.2 ga (.inr (.inr (.inr rfl))));have HFw:=Hd hf;have hqi:a3<((ats R.at_ a1 a2 a3 n 2).length:Int):=by omega
     have HBa:=Hd hBa;have e:ats R.at_ a1 a2 a3 n (2+1)=(ats R.at_ a1 a2 a3 n 2).set a3.toNat (n:Int):=by simp only[ats];rw[setAt,if_pos hp]
     have E:=Hd e;clear hm hBa e hlen hf;generalize ats R.at_ a1 a2 a3 n 2=L at *;go_wp2;go_roundw
     case rel=>exact⟨2+1,by go_num,by omega,Hd (by rw[E.out];exact⟨_,_,_,_,HM2.out,HFw.out⟩),Hd (HBw.out.setCell (p:=⟨ga,a3.toNat,none⟩) HBa.out _),Hd (HSw.out.set NG.out _ _)⟩
     case measure=>simp[intOf]
    ·have e:ats R.at_ a1 a2 a3 n (2+1)=ats R.at_ a1 a2 a3 n 2:=by simp only[ats];rw[setAt,if_neg hp]
     have E:=Hd e;clear e;go_wp2;go_roundw
     case rel=>exact⟨2+1,by go_num,by omega,Hd (by rw[E.out];exact HMw.out),HBw,HSw⟩
     case measure=>simp[intOf]
   ·go_wp2
    go_ret
    rw[HR.out];exact⟨rfl,HMw.out,HBw.out,HSw.out⟩
end Mk
end Go.Proofs.YtdihefgleefhmaaGreat
