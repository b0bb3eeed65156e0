import Derived.Lib.BufferMore
import Derived.Test.YtdihefgleefhmaaGreatDf
namespace Go.Proofs.YtdihefgleefhmaaGreat
open Go.RowKit
namespace Cl
theorem row_cells{W:World}{B e s n g c:Nat}{xs:List Value}(h:W.ownsRow B e s (.slice (some ⟨g,0,none⟩) n c) n xs):∀j u,xs[j]? =some u→W.cell? ((⟨g,0,none⟩:Addr).add j)=some u:=fun j u hu=>by
 have hj:j<xs.length:=(List.getElem?_eq_some_iff.1 hu).1;have hl:=h.1;have:=h.cellAt j (by omega);rw[hu]at this;have e:(⟨g,0,none⟩:Addr).add j=⟨g,j,none⟩:=by cases j<;>simp[Addr.add]
 rw[e]
 simpa using this
set_option maxRecDepth 100000 in
theorem clone32(B n:Nat)(v:Value)(xs:List Value)(w:World)(h:w.ownsRow B 24 2 v n xs)(h1:∀u∈xs,u.oneCell'=true)(hn:n≤1000000000) :
 Calls Tryz.prog 32 #[v] w fun e w'=>∃v',e=.returned v'∧w'.ownsRow w.heap.size 24 2 v' n xs∧Below w.heap.size w w':=by
 obtain⟨i0,hi,hz0,hz1,hz2⟩:=info_parts Nw.Tryz.info32';have h0:=h;obtain⟨hl,⟨rfl,rfl⟩|⟨g,c,cur,rfl,_⟩⟩:=h
 ·clear h0
  have hq:∀u:World,(binOp BinOp.eql 35 (.slice none 0 0) (.slice none 0 0)).run Tryz.prog u=.ok (.bool true) u:=fun u=>Lib.run_eql_slice_nil_nil u _ _ Tryz.underlying35
  go_enter Tryz.func32,Tryz.ntmps32
  go_wp2
  go_ret
  exact⟨_,rfl,⟨hl,.inl ⟨rfl,rfl⟩⟩,bel_refl w⟩
 ·have hc:=row_cells (own_later h0 (bel_alloc (bel_refl w) (.cells #[] 24)))
  have hq:∀u:World,(binOp BinOp.eql 35 (.slice (some ⟨g,0,none⟩) n c) (.slice none 0 0)).run Tryz.prog u=.ok (.bool false) u:=fun u=>Lib.run_eql_slice_some_nil u _ _ _ Tryz.underlying35
  have HC:=Hd hc;have H1:=Hd h1;have HL:=Hd hl;clear hc h1 h0 hl
  go_enter Tryz.func32,Tryz.ntmps32
  go_wp2_with (at_builtin;refine wpList_append_own_at _ rfl _ _ 35 rfl w.heap.size 24 i0 (.agg #[.int .i64 0,.int .i64 0]) 2 16 Tryz.underlying35 hi hz0 hz1 hz2 rfl (by decide) (.slice (some ⟨w.heap.size,0,none⟩) 0 0) 0 [] rfl ⟨rfl,.inr ⟨w.heap.size,0,#[],rfl,Nat.le_refl _,heap_alloc_new _ _,Nat.le_refl _,by decide,rfl,rfl⟩⟩ ⟨g,0,none⟩ n c xs rfl HL.out HC.out H1.out (by unfold maxLen;omega) (by omega) (by simp) ?_;intro v' w1 hown hgrow _ hat;have HOW:=Hd hown;have HGR:=Hd hgrow;clear hown hgrow hat)
  go_ret
  refine⟨v',rfl,by have:=HOW.out;simpa using this,⟨HGR.out.os,HGR.out.tape,HGR.out.output,Nat.le_trans (by simp) HGR.out.size,fun k hk=>?_⟩⟩;refine(HGR.out.block k (by simp;omega) (fun e=>?_)).trans (Below.heap_alloc _ _ _ hk);have:k=w.heap.size:=Option.some.inj e;omega
set_option maxRecDepth 100000 in
theorem clone33(B n:Nat)(v:Value)(xs:List Value)(w:World)(h:w.ownsRow B 43 9 v n xs)(h1:∀u∈xs,u.oneCell'=true)(hn:n≤1000000000) :
 Calls Tryz.prog 33 #[v] w fun e w'=>∃v',e=.returned v'∧w'.ownsRow w.heap.size 43 9 v' n xs∧Below w.heap.size w w':=by
 obtain⟨i0,hi,hz0,hz1,hz2⟩:=info_parts Tryz.info61';have h0:=h;obtain⟨hl,⟨rfl,rfl⟩|⟨g,c,cur,rfl,_⟩⟩:=h
 ·clear h0
  have hq:∀u:World,(binOp BinOp.eql 36 (.slice none 0 0) (.slice none 0 0)).run Tryz.prog u=.ok (.bool true) u:=fun u=>Lib.run_eql_slice_nil_nil u _ _ Tryz.underlying36
  go_enter Tryz.func33,Tryz.ntmps33
  go_wp2
  go_ret
  exact⟨_,rfl,⟨hl,.inl ⟨rfl,rfl⟩⟩,bel_refl w⟩
 ·have hc:=row_cells (own_later h0 (bel_alloc (bel_refl w) (.cells #[] 43)))
  have hq:∀u:World,(binOp BinOp.eql 36 (.slice (some ⟨g,0,none⟩) n c) (.slice none 0 0)).run Tryz.prog u=.ok (.bool false) u:=fun u=>Lib.run_eql_slice_some_nil u _ _ _ Tryz.underlying36
  have HC:=Hd hc;have H1:=Hd h1;have HL:=Hd hl;clear hc h1 h0 hl
  go_enter Tryz.func33,Tryz.ntmps33
  go_wp2_with (at_builtin;refine wpList_append_own_at _ rfl _ _ 36 rfl w.heap.size 43 i0 (.agg #[.int .i64 0,.int .i64 0,.int .i64 0,.int .i64 0,.int .i64 0,.int .i64 0,.bool false,.bool false,.bool false]) 9 56 Tryz.underlying36 hi hz0 hz1 hz2 rfl (by decide) (.slice (some ⟨w.heap.size,0,none⟩) 0 0) 0 [] rfl ⟨rfl,.inr ⟨w.heap.size,0,#[],rfl,Nat.le_refl _,heap_alloc_new _ _,Nat.le_refl _,by decide,rfl,rfl⟩⟩ ⟨g,0,none⟩ n c xs rfl HL.out HC.out H1.out (by unfold maxLen;omega) (by omega) (by simp) ?_;intro v' w1 hown hgrow _ hat;have HOW:=Hd hown;have HGR:=Hd hgrow;clear hown hgrow hat)
  go_ret
  refine⟨v',rfl,by have:=HOW.out;simpa using this,⟨HGR.out.os,HGR.out.tape,HGR.out.output,Nat.le_trans (by simp) HGR.out.size,fun k hk=>?_⟩⟩;refine(HGR.out.block k (by simp;omega) (fun e=>?_)).trans (Below.heap_alloc _ _ _ hk);have:k=w.heap.size:=Option.some.inj e;omega
theorem info3:(Tryz.prog.info? 3).map (fun i=>(i.zero,i.size,i.bytes))=some (some (.int .i64 0),1,8):=by kernel_rfl
set_option maxRecDepth 100000 in
theorem clone34(B n:Nat)(v:Value)(xs:List Value)(w:World)(h:w.ownsRow B 3 1 v n xs)(h1:∀u∈xs,u.oneCell'=true)(hn:n≤1000000000) :
 Calls Tryz.prog 34 #[v] w fun e w'=>∃v',e=.returned v'∧w'.ownsRow w.heap.size 3 1 v' n xs∧Below w.heap.size w w':=by
 obtain⟨i0,hi,hz0,hz1,hz2⟩:=info_parts info3;have h0:=h;obtain⟨hl,⟨rfl,rfl⟩|⟨g,c,cur,rfl,_⟩⟩:=h
 ·clear h0
  have hq:∀u:World,(binOp BinOp.eql 37 (.slice none 0 0) (.slice none 0 0)).run Tryz.prog u=.ok (.bool true) u:=fun u=>Lib.run_eql_slice_nil_nil u _ _ Tryz.underlying37
  go_enter Tryz.func34,Tryz.ntmps34
  go_wp2
  go_ret
  exact⟨_,rfl,⟨hl,.inl ⟨rfl,rfl⟩⟩,bel_refl w⟩
 ·have hc:=row_cells (own_later h0 (bel_alloc (bel_refl w) (.cells #[] 3)))
  have hq:∀u:World,(binOp BinOp.eql 37 (.slice (some ⟨g,0,none⟩) n c) (.slice none 0 0)).run Tryz.prog u=.ok (.bool false) u:=fun u=>Lib.run_eql_slice_some_nil u _ _ _ Tryz.underlying37
  have HC:=Hd hc;have H1:=Hd h1;have HL:=Hd hl;clear hc h1 h0 hl
  go_enter Tryz.func34,Tryz.ntmps34
  go_wp2_with (at_builtin;refine wpList_append_own_at _ rfl _ _ 37 rfl w.heap.size 3 i0 (.int .i64 0) 1 8 Tryz.underlying37 hi hz0 hz1 hz2 rfl (by decide) (.slice (some ⟨w.heap.size,0,none⟩) 0 0) 0 [] rfl ⟨rfl,.inr ⟨w.heap.size,0,#[],rfl,Nat.le_refl _,heap_alloc_new _ _,Nat.le_refl _,by decide,rfl,rfl⟩⟩ ⟨g,0,none⟩ n c xs rfl HL.out HC.out H1.out (by unfold maxLen;omega) (by omega) (by simp) ?_;intro v' w1 hown hgrow _ hat;have HOW:=Hd hown;have HGR:=Hd hgrow;clear hown hgrow hat)
  go_ret
  refine⟨v',rfl,by have:=HOW.out;simpa using this,⟨HGR.out.os,HGR.out.tape,HGR.out.output,Nat.le_trans (by simp) HGR.out.size,fun k hk=>?_⟩⟩;refine(HGR.out.block k (by simp;omega) (fun e=>?_)).trans (Below.heap_alloc _ _ _ hk);have:k=w.heap.size:=Option.some.inj e;omega
end Cl
end Go.Proofs.YtdihefgleefhmaaGreat
namespace Go.Proofs.YtdihefgleefhmaaGreat
open Go.RowKit
namespace Cl
theorem own_down{W:World}{B B' e s n:Nat}{v:Value}{xs:List Value}(h:W.ownsRow B e s v n xs)(hb:B'≤B):W.ownsRow B' e s v n xs:=by
 obtain⟨h1,h2|⟨g,c,cur,h2,h3,h4⟩⟩:=h
 ·exact⟨h1,.inl h2⟩
 ·exact⟨h1,.inr ⟨g,c,cur,h2,Nat.le_trans hb h3,h4⟩⟩
theorem pts_one(l:List Pt):∀u∈l.flatMap Pt.cs,u.oneCell'=true:=by
 intro u hu;obtain⟨q,_,hq⟩:=List.mem_flatMap.1 hu;simp[Pt.cs]at hq;rcases hq with rfl|rfl<;>rfl
theorem tris_one(l:List Tri):∀u∈l.flatMap Tri.cs,u.oneCell'=true:=by
 intro u hu;obtain⟨q,_,hq⟩:=List.mem_flatMap.1 hu;simp only[Tri.cs,List.mem_cons,List.not_mem_nil,or_false]at hq;rcases hq with rfl|rfl|rfl|rfl|rfl|rfl|rfl|rfl|rfl<;>rfl
theorem ints_one(l:List Int):∀u∈l.map (Value.int .i64),u.oneCell'=true:=by
 intro u hu;obtain⟨q,_,rfl⟩:=List.mem_map.1 hu;rfl
theorem nats_one(l:List Nat):∀u∈l.map (fun(n:Nat)=>Value.int .i64 n),u.oneCell'=true:=by
 intro u hu;obtain⟨q,_,rfl⟩:=List.mem_map.1 hu;rfl
set_option maxRecDepth 100000 in
set_option maxHeartbeats 2000000 in
theorem copy_any(B b:Nat)(M:Mesh)(w:World)(h:MeshAt B w b M)(hp:M.pts.length≤1000000000)(ht:M.tris.length≤1000000000)(hf:M.free.length≤1000000000)(ha:M.at_.length≤1000000000) :
 Calls Tryz.prog 10 #[.pointer (some ⟨b,0,none⟩)] w fun e w'=>∃b',e=.returned (.pointer (some ⟨b',0,none⟩))∧MeshAt w.heap.size w' b' M∧Below w.heap.size w w':=by
 obtain⟨pV,tV,fV,aV,h⟩:=h;have c0:∀u,Below w.heap.size w u→u.cell? ⟨b,0,none⟩=some pV:=fun u hu=>cell_later (h.head.cell 0 pV rfl) hu
 have c1:∀u,Below w.heap.size w u→u.cell? ⟨b,1,none⟩=some tV:=fun u hu=>cell_later (h.head.cell 1 tV rfl) hu
 have c2:∀u,Below w.heap.size w u→u.cell? ⟨b,2,none⟩=some fV:=fun u hu=>cell_later (h.head.cell 2 fV rfl) hu
 have c3:∀u,Below w.heap.size w u→u.cell? ⟨b,3,none⟩=some aV:=fun u hu=>cell_later (h.head.cell 3 aV rfl) hu
 have HA:=Hd h;clear h
 go_enter Tryz.func10,Tryz.ntmps10
 go_upto_region 1 with(fail)
 go_region_held3 (fun w'=>Below w.heap.size w w') (first| exact bel_drew (bel_refl _)|exact bel_step (by assumption) (by assumption)|assumption|(repeat (first| assumption|refine bel_drew ?_|refine bel_alloc ?_ _))) (first
  | (go_at_call 32;refine(clone32 B _ pV _ _ (own_later HA.out.pts (by assumption)) (pts_one _) hp).mono ?_;rintro e w2 ⟨pW,rfl,hO,hb2⟩;obtain⟨gp,cp,rfl⟩:=own_slice hO;have HP2:=Hd (own_down (B':=w.heap.size) hO (Below.size (by assumption:Below w.heap.size w _)));clear hO)
  | (go_at_call 33;have hp2:=HP2.out;refine(clone33 B _ tV _ _ (own_later HA.out.tris (by assumption)) (tris_one _) ht).mono ?_;rintro e w3 ⟨tW,rfl,hO,hb3⟩;obtain⟨gt,ct,rfl⟩:=own_slice hO;have HP3:=Hd (own_later hp2 hb3);have HT3:=Hd (own_down (B':=w.heap.size) hO (Below.size (by assumption:Below w.heap.size w _)));clear hO hp2)
  | (go_at_call 34;have hf4:=HF4.out;refine(clone34 B _ aV _ _ (own_later HA.out.at_ (by assumption)) (ints_one _) ha).mono ?_;rintro e w5 ⟨aW,rfl,hO,hb5⟩;obtain⟨ga,ca,rfl⟩:=own_slice hO;have HP5:=Hd (own_later HP4.out hb5);have HT5:=Hd (own_later HT4.out hb5);have HF5:=Hd (own_later hf4 hb5);have HA5:=Hd hO;clear hO hf4)
  | (go_at_call 34;have hp3:=HP3.out;refine(clone34 B _ fV _ _ (own_later HA.out.free (by assumption)) (nats_one _) hf).mono ?_;rintro e w4 ⟨fW,rfl,hO,hb4⟩;obtain⟨gf,cf,rfl⟩:=own_slice hO;have HP4:=Hd (own_later hp3 hb4);have HT4:=Hd (own_later HT3.out hb4);have HF4:=Hd (own_down (B':=w.heap.size) hO (Below.size (by assumption:Below w.heap.size w _)));clear hO hp3))
 go_wp2_with fail
 go_ret
 have hB5:Below w.heap.size w w5:=bel_step (bel_step (bel_step (bel_step (bel_drew (bel_refl w)) hb2) hb3) hb4) hb5;have hB4:Below w.heap.size w w4:=bel_step (bel_step (bel_step (bel_drew (bel_refl w)) hb2) hb3) hb4;refine⟨w5.heap.size,rfl,⟨_,_,_,_,Blk.new w5 39 _,hB5.size,HP5.out.alloc _,HT5.out.alloc _,HF5.out.alloc _,(own_down HA5.out hB4.size).alloc _,?_⟩,bel_alloc hB5 _⟩;cases hg:(Value.slice gf M.free.length cf).ownBlock with
 | none=>exact .inl rfl
 | some k=>
  refine .inr fun e=>?_
  have h1:=(HF4.out.lt k hg).2;have h2:=(HA5.out.lt k e.symm).1;omega
end Cl
end Go.Proofs.YtdihefgleefhmaaGreat
namespace Go.Proofs.YtdihefgleefhmaaGreat
open Go.RowKit
section
variable {B:Nat} {W:World} {b:Nat} {M:Mesh} {pV tV fV aV:Value}
theorem MAt.grownPts(h:MAt B W b M pV tV fV aV){W1:World}{v':Value}{l:List Pt}(hrow:W1.ownsRow B 24 2 v' l.length (l.flatMap Pt.cs))(hg:W.grownBy W1 pV.ownBlock) :
 MAt B (W1.setCell ⟨b,0,none⟩ v') b {M with pts:=l } v' tV fV aV:=by
 have fne:∀{g:Nat},pV.ownBlock=some g→b≠g:=fun hg=>blk_ne h.head h.pts (by decide) hg
 have kh:Blk W1 b 39 #[pV,tV,fV,aV]:=(hg.block b h.head.lt (fun e=>fne e.symm rfl)).trans h.head
 have kept:∀{e s n:Nat} {v:Value} {xs:List Value},W.ownsRow B e s v n xs→e≠24→W1.ownsRow B e s v n xs:=by
  intro e s n v xs hv he;refine hv.kept hg ?_;cases ho:pV.ownBlock with
  | none=>cases hv':v.ownBlock with
   | none=>exact .inl rfl
   | some g=>exact .inr (by simp)
  | some g=>exact .inr (own_ne hv h.pts he ho)
 have ra:=kept h.at_ (by decide);have rt:=kept h.tris (by decide);have rf:=kept h.free (by decide);refine⟨kh.set 0 v',h.le,ownsRow_setCell_other (a:=⟨b,0,none⟩) hrow ?_ _,ownsRow_setCell_other (a:=⟨b,0,none⟩) rt ?_ _,ownsRow_setCell_other (a:=⟨b,0,none⟩) rf ?_ _,ownsRow_setCell_other (a:=⟨b,0,none⟩) ra ?_ _,h.apart⟩
 ·exact fun e=>blk_ne kh hrow (by decide) e rfl
 ·exact fun e=>blk_ne kh rt (by decide) e rfl
 ·exact fun e=>blk_ne kh rf (by decide) e rfl
 ·exact fun e=>blk_ne kh ra (by decide) e rfl
theorem MAt.grownAts(h:MAt B W b M pV tV fV aV){W1:World}{v':Value}{l:List Int}(hrow:W1.ownsRow B 3 1 v' l.length (l.map (Value.int .i64)))(hg:W.grownBy W1 aV.ownBlock)(hv:v'.ownBlock=aV.ownBlock∨v'.ownBlock=some W.heap.size) :
 MAt B (W1.setCell ⟨b,3,none⟩ v') b {M with at_:=l } pV tV fV v':=by
 have fne:∀{g:Nat},aV.ownBlock=some g→b≠g:=fun hg=>blk_ne h.head h.at_ (by decide) hg
 have kh:Blk W1 b 39 #[pV,tV,fV,aV]:=(hg.block b h.head.lt (fun e=>fne e.symm rfl)).trans h.head
 have kept:∀{e s n:Nat} {v:Value} {xs:List Value},W.ownsRow B e s v n xs→(v.ownBlock=none∨v.ownBlock≠aV.ownBlock)→W1.ownsRow B e s v n xs:=by
  intro e s n v xs hv he;exact hv.kept hg he
 have other:∀{e s n:Nat} {v:Value} {xs:List Value},W.ownsRow B e s v n xs→e≠3→W1.ownsRow B e s v n xs:=by
  intro e s n v xs hv he;refine kept hv ?_;cases ho:aV.ownBlock with
  | none=>cases hv':v.ownBlock with
   | none=>exact .inl rfl
   | some g=>exact .inr (by simp)
  | some g=>exact .inr (own_ne hv h.at_ he ho)
 have rp:=other h.pts (by decide);have rt:=other h.tris (by decide);have rf:=kept h.free h.apart;refine⟨kh.set 3 v',h.le,ownsRow_setCell_other (a:=⟨b,3,none⟩) rp ?_ _,ownsRow_setCell_other (a:=⟨b,3,none⟩) rt ?_ _,ownsRow_setCell_other (a:=⟨b,3,none⟩) rf ?_ _,ownsRow_setCell_other (a:=⟨b,3,none⟩) hrow ?_ _,?_⟩
 ·exact fun e=>blk_ne kh rp (by decide) e rfl
 ·exact fun e=>blk_ne kh rt (by decide) e rfl
 ·exact fun e=>blk_ne kh rf (by decide) e rfl
 ·exact fun e=>blk_ne kh hrow (by decide) e rfl
 ·rcases h.apart with h1|h1
  ·exact .inl h1
  ·rcases hv with h2|h2
   ·rw[h2];exact .inr h1
   ·rw[h2]
    refine .inr fun e=>?_
    have:=(h.free.lt _ e).2;omega
theorem pts_step(h:MAt B W b M pV tV fV aV){o:Obj}{W1:World}{v':Value}{p:Pt}(h1:W1.ownsRow B 24 2 v' (M.pts.length+1) ((M.pts.flatMap Pt.cs)++p.cs))(h2:(W.alloc o).grownBy W1 pV.ownBlock) :
 MAt B (W1.setCell ⟨b,0,none⟩ v') b {M with pts:=M.pts++[p] } v' tV fV aV∧Below B W W1∧W1.cell? ⟨b,0,none⟩=some pV∧W1.frozen? ⟨b,0,none⟩=false:=by
 have hA:MAt B (W.alloc o) b M pV tV fV aV:=h.later (bel_alloc (bel_refl W) o);have hne:some b≠pV.ownBlock:=fun e=>blk_ne hA.head hA.pts (by decide) e.symm rfl
 refine⟨MAt.grownPts (l:=M.pts++[p]) hA (by simpa using h1) h2,⟨h2.os,h2.tape,h2.output,Nat.le_trans (by simp) h2.size,fun k hk=>?_⟩,h2.cell (hA.head.cell 0 _ rfl) hne,(World.frozen?_of_block (a:=⟨b,0,none⟩) (h2.block b hA.head.lt hne)).trans (hA.head.frozen 0)⟩;have hkB:k<W.heap.size:=Nat.lt_of_lt_of_le hk (Nat.le_trans h.le (Nat.le_of_lt h.head.lt));refine(h2.block k (by simp;omega) (fun e=>?_)).trans (Below.heap_alloc _ _ _ hkB);have:=(h.pts.lt k e.symm).1;omega
theorem ats_step(h:MAt B W b M pV tV fV aV){o:Obj}{W1:World}{v':Value}{p:Int}(h1:W1.ownsRow B 3 1 v' (M.at_.length+1) ((M.at_.map (Value.int .i64))++[.int .i64 p]))(h2:(W.alloc o).grownBy W1 aV.ownBlock)(hv:v'.ownBlock=aV.ownBlock∨v'.ownBlock=some (W.alloc o).heap.size) :
 MAt B (W1.setCell ⟨b,3,none⟩ v') b {M with at_:=M.at_++[p] } pV tV fV v'∧Below B W W1∧W1.cell? ⟨b,3,none⟩=some aV∧W1.frozen? ⟨b,3,none⟩=false:=by
 have hA:MAt B (W.alloc o) b M pV tV fV aV:=h.later (bel_alloc (bel_refl W) o);have hne:some b≠aV.ownBlock:=fun e=>blk_ne hA.head hA.at_ (by decide) e.symm rfl
 refine⟨MAt.grownAts (l:=M.at_++[p]) hA (by simpa using h1) h2 hv,⟨h2.os,h2.tape,h2.output,Nat.le_trans (by simp) h2.size,fun k hk=>?_⟩,h2.cell (hA.head.cell 3 _ rfl) hne,(World.frozen?_of_block (a:=⟨b,3,none⟩) (h2.block b hA.head.lt hne)).trans (hA.head.frozen 3)⟩;have hkB:k<W.heap.size:=Nat.lt_of_lt_of_le hk (Nat.le_trans h.le (Nat.le_of_lt h.head.lt));refine(h2.block k (by simp;omega) (fun e=>?_)).trans (Below.heap_alloc _ _ _ hkB);have:=(h.at_.lt k e.symm).1;omega
end
namespace Ad
set_option maxRecDepth 100000 in
set_option maxHeartbeats 2000000 in
theorem add_any(F:Nat→Prop)(B b:Nat)(M:Mesh)(p:Pt)(w:World)(h:MeshF F B w b M)(hFs:∀k,F k→k<w.heap.size)(hB:B≤w.heap.size)(hp:M.pts.length≤1000000)(ha:M.at_.length≤1000000) :
 Calls Tryz.prog 8 #[.pointer (some ⟨b,0,none⟩),.agg #[.int .i64 p.x,.int .i64 p.y]] w fun e w'=>e=.returned (.int .i64 (M.pts.length:Nat))∧MeshF F B w' b (M.add p)∧Below B w w'∧Same F w w':=by
 obtain⟨pV,tV,fV,aV,h,hF⟩:=h;obtain⟨pA,cp,rfl⟩:=own_slice h.pts;obtain⟨aA,ca,rfl⟩:=own_slice h.at_;have hA:MAt B (w.alloc (.cells #[.int .i64 p.x,.int .i64 p.y] 24)) b M (.slice pA M.pts.length cp) tV fV (.slice aA M.at_.length ca):=h.later (bel_alloc (bel_refl w) _);have hBx:=Blk.new w 24 #[.int .i64 p.x,.int .i64 p.y];have HB0:=Hd (bel_alloc (bel_refl w) (.cells #[.int .i64 p.x,.int .i64 p.y] 24));have HSW:=Hd ((Same.refl F w).alloc hFs (.cells #[.int .i64 p.x,.int .i64 p.y] 24));have hbw:b<w.heap.size:=h.head.lt;have hbB:B≤b:=h.le;have hszw:w.heap.size<(w.alloc (.cells #[.int .i64 p.x,.int .i64 p.y] 24)).heap.size:=by simp
 obtain⟨x,hx⟩:∃x,p.x=x:=⟨_,rfl⟩;obtain⟨y,hy⟩:∃y,p.y=y:=⟨_,rfl⟩;obtain⟨n,hn⟩:∃n,M.pts.length=n:=⟨_,rfl⟩;obtain⟨k,hk⟩:∃k,M.at_.length=k:=⟨_,rfl⟩;have hcs:p.cs=[.int .i64 x,.int .i64 y]:=by rw[←hx,←hy]
 rw[hx,hy]at hA hBx HB0 hszw HSW ⊢;rw[hn]at hA hp hF ⊢;rw[hk]at hA ha hF;have HFR:=Hd hF;have HFS:=Hd hFs;have HN:=Hd hn;have HK:=Hd hk;have HCS:=Hd hcs;clear h hn hk hcs hx hy hF hFs
 go_enter Tryz.func8,Tryz.ntmps8
 go_upto_region 1 with(fail)
 obtain⟨W,hW⟩:∃W,w.alloc (.cells #[.int .i64 x,.int .i64 y] 24)=W:=⟨_,rfl⟩;rw[hW]at hA hBx HB0 hszw HSW ⊢;have HFW:=Hd (fun k (hk:F k)=>Nat.lt_trans (HFS.out k hk) hszw);have b0:=hBx.cell 0 (.int .i64 x) rfl;have b1:=hBx.cell 1 (.int .i64 y) rfl;have h0:=hA.head.cell 0 (.slice pA n cp) rfl;have h0a:=cell_later h0 (bel_alloc (bel_refl W) (.cells #[.int .i64 x,.int .i64 y] 24));have HA:=Hd hA;clear hW hA hBx;obtain⟨i0,hi,hz0,hz1,hz2⟩:=info_parts Nw.Tryz.info32'
 go_region_law ((refine step_append_lies _ (by rfl) _ _ _ (by rfl) B 24 i0 (.agg #[.int .i64 0,.int .i64 0]) 2 16 Tryz.underlying35 hi hz0 hz1 hz2 rfl (by decide) (.slice pA n cp) n (M.pts.flatMap Pt.cs) (by rfl) ((by have:=HA.out.pts;rw[HN.out]at this;exact(this.alloc _).drew)) ⟨W.heap.size,0,none⟩ 1 1 [.int .i64 x,.int .i64 y] (by rfl) (by rfl) (World.news_of_block (cs:=#[.int .i64 x,.int .i64 y]) (t:=24) (fr:=(0,0)) (heap_alloc_new W _)) (by simp[Value.oneCell']) (by omega) (by unfold maxLen;omega) (by omega) (by simp;omega) (W.heap.size+1) (by simp) ?_;intro g cap w1 hown' hgrow hat hlt;have HX:=Hd (pts_step (p:=p) HA.out (by rw[HN.out,HCS.out];exact hown') (grown_drew hgrow));have hc1:=HX.out.2.2.1;have hc2:=HX.out.2.2.2;have HS1:=Hd (((HSW.out.alloc HFW.out (.cells #[.int .i64 x,.int .i64 y] 24)).grown (fun k hk=>by have:=HFW.out k hk;simp;omega) (grown_drew hgrow) (fun g hg=>HFR.out.2 g (.inl hg))));have HAT:=Hd hat;clear hown' hgrow hat))
 all_goals
  obtain⟨i3,hj,y0,y1,y2⟩:=info_parts Cl.info3;have hM:=HX.out.1;have hBe:=HX.out.2.1;obtain⟨W2,hW2⟩:∃W2,w1.setCell ⟨b,0,none⟩ (.slice (some ⟨g,0,none⟩) (n+1) cap)=W2:=⟨_,rfl⟩;rw[hW2]at hM ⊢;have hB2:Below B w W2:=by rw[←hW2];exact((HB0.out.mono hB).trans hBe).setCell (p:=⟨b,0,none⟩) hbB _
  have h3:=hM.head.cell 3 (.slice aA k ca) rfl;have HM:=Hd hM;have HB2:=Hd hB2;have hS2:Same F w W2:=by rw[←hW2];exact HS1.out.set HFR.out.1 _ _
  have hF2:∀k,F k→k<W2.heap.size:=fun k hk=>Nat.lt_of_lt_of_le (HFS.out k hk) hB2.size
  have hg2:¬F g:=fun hk=>by
   rcases HAT.out with h1|h1
   ·exact HFR.out.2 g (.inl h1) hk
   ·have:=HFW.out g hk
    omega
  have HS2:=Hd hS2;have HF2:=Hd hF2;have HG2:=Hd hg2;clear hM hB2 hBe hW2 hc1 hc2 HX h0 h0a b0 b1 hS2 hF2 hg2 HS1 HAT
  go_wp2_with (at_builtin;refine wpList_append_own_at _ rfl _ _ 37 rfl B 3 i3 (.int .i64 0) 1 8 Tryz.underlying37 hj y0 y1 y2 rfl (by decide) (.slice aA k ca) k (M.at_.map (Value.int .i64)) rfl (by have:=HM.out.at_;dsimp only at this;rw[HK.out]at this;exact this.alloc _) ⟨W2.heap.size,0,none⟩ 1 1 [.int .i64 (-1)] rfl rfl (cell_one_new _ _ _) (by simp[Value.oneCell']) (by unfold maxLen;omega) (by omega) (by have:=HB2.out.size;simp;omega) ?_;intro v5 w5 hown5 hgrow _ hat5;obtain⟨g5,c5,rfl⟩:=own_slice hown5;have HX5:=Hd (ats_step (p:=-1) HM.out (by dsimp only;rw[HK.out];exact hown5) hgrow hat5);have hc1:=HX5.out.2.2.1;have hc2:=HX5.out.2.2.2;have hd0:=HX5.out.1.head.cell 0 _ rfl;have HS5:=Hd ((HS2.out.alloc HF2.out (.cells #[.int .i64 (-1)] 3)).grown (fun k hk=>by have:=HF2.out k hk;simp;omega) hgrow (fun g hg=>HFR.out.2 g (.inr (.inr (.inr hg)))));have HAT5:=Hd hat5;clear hown5 hgrow hat5)
  go_ret
  refine⟨by simp,⟨_,_,_,_,HX5.out.1,HFR.out.1,fun g' hg=>?_⟩,(HB2.out.trans HX5.out.2.1).setCell (p:=⟨b,3,none⟩) hbB _,HS5.out.set HFR.out.1 _ _⟩;rcases hg with hg|hg|hg|hg
  ·obtain rfl:g=g':=by simpa [Value.ownBlock] using hg
   exact HG2.out
  ·exact HFR.out.2 g' (.inr (.inl hg))
  ·exact HFR.out.2 g' (.inr (.inr (.inl hg)))
  ·rcases HAT5.out with h1|h1
   ·exact HFR.out.2 g' (.inr (.inr (.inr (h1▸hg))))
   ·have e:=h1.symm.trans hg
    simp at e;exact fun hk=>by have:=HF2.out g' hk;omega
end Ad
end Go.Proofs.YtdihefgleefhmaaGreat
