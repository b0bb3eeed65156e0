import Derived.Test.YtdihefgleefhmaaGreatBl
namespace Go.Proofs.YtdihefgleefhmaaGreat
open Go.RowKit
namespace Gd
open Jo Jw Bl
theorem bit_low(x:Int):∃r:Nat,bits BinOp.and IntKind.i64 x 1=r∧r≤1:=by
 have h:((BitVec.ofInt 64 x) &&& (BitVec.ofInt 64 1)).toNat≤1:=by
  rw[BitVec.toNat_and];exact Nat.and_le_right
 have e:bits BinOp.and IntKind.i64 x 1=IntKind.i64.wrap (((BitVec.ofInt 64 x) &&& (BitVec.ofInt 64 1)).toNat:Int):=rfl;rw[e];generalize ((BitVec.ofInt 64 x) &&& (BitVec.ofInt 64 1)).toNat=k at h;exact⟨k,by rw[IntWalk.i64_in _ (by omega)],h⟩
theorem four(w h:Nat)(hw:w=1∨w=2)(hh:h=1∨h=2)(d:Nat→Bool):gridTris w h d=gridTris w h (bits4 (d 0) (d 1) (d 2) (d 3)):=by
 rcases hw with rfl|rfl<;>rcases hh with rfl|rfl<;>rfl
def firstB(w h:Nat)(d:Nat→Bool):Bool:=
 let R:=gridTris w h d
 let l:=gridPts w h
 decide (0<R.length)&&(decide (R.length≤8)&&(decide (l.length≤9)&&(R.all (fun t=>decide (0≤t.1)&&(decide (t.1<l.length)&&(decide (0≤t.2.1)&&(decide (t.2.1<l.length)&&(decide (0≤t.2.2)&&decide (t.2.2<l.length))))))&&
  decide (0<ori (pat l (De.tr R 0 0).toNat) (pat l (De.tr R 0 1).toNat) (pat l (De.tr R 0 2).toNat)))))
theorem firsts:([1,2].all fun w=>[1,2].all fun h=>[true,false].all fun a=>[true,false].all fun b=>[true,false].all fun c=>[true,false].all fun e=>firstB w h (bits4 a b c e))=true:=by kernel_rfl
theorem first(w h:Nat)(hw:w=1∨w=2)(hh:h=1∨h=2)(d:Nat→Bool):firstB w h d=true:=by
 have e:firstB w h d=firstB w h (bits4 (d 0) (d 1) (d 2) (d 3)):=by
  unfold firstB;dsimp only;rw[←four w h hw hh d]
 rw[e];have:=firsts;simp only[List.all_cons,List.all_nil,Bool.and_true,Bool.and_eq_true]at this;rcases hw with rfl|rfl<;>rcases hh with rfl|rfl<;>cases d 0<;>cases d 1<;>cases d 2<;>cases d 3<;>simp only[this]
theorem near_all(w h:Nat)(hw:w=1∨w=2)(hh:h=1∨h=2):nearAll (gridPts w h):=fun i=>by
 by_cases hi:i<(gridPts w h).length
 ·refine Dk.grid_near w h hw hh _ ?_
  unfold pat;rw[List.getD_eq_getElem?_getD,List.getElem?_eq_getElem hi];exact List.getElem_mem hi
 ·unfold pat
  rw[List.getD_eq_getElem?_getD,List.getElem?_eq_none (by omega)];exact zero_near
def rowP(y n:Nat):List Pt:=(List.range n).map fun(x:Nat)=>(⟨2*(x:Int),2*(y:Int)⟩:Pt)
def rowsP(wd y:Nat):List Pt:=(List.range y).flatMap fun y=>rowP y (wd+1)
theorem rowP_succ(y n:Nat):rowP y (n+1)=rowP y n++[⟨2*(n:Int),2*(y:Int)⟩]:=by
 unfold rowP;rw[List.range_succ,List.map_append];rfl
theorem rowsP_succ(wd y:Nat):rowsP wd (y+1)=rowsP wd y++rowP y (wd+1):=by
 unfold rowsP;rw[List.range_succ,List.flatMap_append];simp
theorem rowP_len(y n:Nat):(rowP y n).length=n:=by simp[rowP]
theorem rowsP_len(wd y:Nat):(rowsP wd y).length=y*(wd+1):=by
 induction y with
 | zero=>simp[rowsP]
 | succ y ih=>rw[rowsP_succ,List.length_append,ih,rowP_len,Nat.add_mul];omega
set_option maxRecDepth 100000 in
theorem at_any(x y:Int)(wd g:Nat)(w:World)(h:w.cell? ⟨g,0,none⟩=some (.int .i64 wd))(hx0:0≤x)(hx:x≤3)(hy0:0≤y)(hy:y≤3)(hw:wd≤2):Calls Tryz.prog 30 #[.int .i64 x,.int .i64 y,.pointer (some ⟨g,0,none⟩)] w fun e w'=>∃v,e=.returned (.int .i64 v)∧v=y*((wd:Int)+1)+x∧Below w.heap.size w w':=by
 have e1:IntKind.i64.wrap ((wd:Int)+1)=(wd:Int)+1:=IntWalk.i64_in _ (by omega);have hyw:y*((wd:Int)+1)≤9:=Int.le_trans (Int.mul_le_mul hy (show(wd:Int)+1≤3 by omega) (by omega) (by omega)) (by omega);have hy1:0≤y*((wd:Int)+1):=Int.mul_nonneg hy0 (by omega);have e2:IntKind.i64.wrap (y*((wd:Int)+1))=y*((wd:Int)+1):=IntWalk.i64_in _ (by omega);have e3:IntKind.i64.wrap (y*((wd:Int)+1)+x)=y*((wd:Int)+1)+x:=IntWalk.i64_in _ (by omega);clear hyw hy1
 go_enter Tryz.func30,Tryz.ntmps30
 go_wp2
 go_ret
 exact⟨_,rfl,rfl,bel_refl w⟩
abbrev t3cs(v:T3):List Value:=[.int .i64 v.1,.int .i64 v.2.1,.int .i64 v.2.2]
def rowT(wd:Nat)(d:Nat→Bool)(y n:Nat):List T3:=(List.range n).flatMap fun x=>gridSq wd d y x
def rowsT(wd:Nat)(d:Nat→Bool)(y:Nat):List T3:=(List.range y).flatMap fun y=>rowT wd d y wd
theorem rowT_succ(wd:Nat)(d:Nat→Bool)(y n:Nat):rowT wd d y (n+1)=rowT wd d y n++gridSq wd d y n:=by
 unfold rowT;rw[List.range_succ,List.flatMap_append];simp
theorem rowsT_succ(wd:Nat)(d:Nat→Bool)(y:Nat):rowsT wd d (y+1)=rowsT wd d y++rowT wd d y wd:=by
 unfold rowsT;rw[List.range_succ,List.flatMap_append];simp
theorem sq_len(wd:Nat)(d:Nat→Bool)(y x:Nat):(gridSq wd d y x).length=2:=by
 unfold gridSq;dsimp only
 split<;>rfl
theorem rowT_len(wd:Nat)(d:Nat→Bool)(y n:Nat):(rowT wd d y n).length=2*n:=by
 induction n with
 | zero=>rfl
 | succ n ih=>rw[rowT_succ,List.length_append,ih,sq_len];omega
theorem rowsT_len(wd:Nat)(d:Nat→Bool)(y:Nat):(rowsT wd d y).length=y*(2*wd):=by
 induction y with
 | zero=>simp[rowsT]
 | succ y ih=>rw[rowsT_succ,List.length_append,ih,rowT_len,Nat.add_mul];omega
theorem info40':(Tryz.prog.info? 40).map (fun i=>(i.zero,i.size,i.bytes))=some (some (.agg #[.int .i64 0,.int .i64 0,.int .i64 0]),3,24):=by kernel_rfl
attribute [local go_sem high] Pr.run_minI Pr.run_maxI
set_option maxHeartbeats 40000000 in
set_option maxRecDepth 100000 in
theorem grid_any(W H:Int)(bs fs:Int)(w:World):Calls Tryz.prog 7 #[.int .i64 W,.int .i64 H,.int .u32 bs,.int .u32 fs] w fun e w'=>∃(wd ht:Nat) (b0 b1 b2 b3:Bool) (fa:Int→Int→Bool) (a b c mb:Nat) (B:List (Int×Int)) (v2:Value),(wd=1∨wd=2)∧(ht=1∨ht=2)∧e=.returned (.tuple #[.pointer (some ⟨mb,0,none⟩),v2])∧B.Perm (border3 (gridTris wd ht (bits4 b0 b1 b2 b3)))∧MeshAt w.heap.size w' mb (gridG fa wd ht (bits4 b0 b1 b2 b3) a b c B)∧Below w.heap.size w w':=by
 obtain⟨r1,hr1,hq1⟩:=bit_low W;obtain⟨r2,hr2,hq2⟩:=bit_low H;have e1:IntKind.i64.wrap (1+(r1:Int))=((r1+1:Nat):Int):=by rw[IntWalk.i64_in _ (by omega)];omega
 have e2:IntKind.i64.wrap (1+(r2:Int))=((r2+1:Nat):Int):=by rw[IntWalk.i64_in _ (by omega)];omega
 have hmm:=@run_makeMap Tryz.prog
 go_enter Tryz.func7,Tryz.ntmps7
 go_upto_region 3 with(fail)
 obtain⟨wd,hw1,hw2⟩:∃wd:Nat,(r1:Int)+1=wd∧(wd=1∨wd=2):=⟨r1+1,by omega,by omega⟩;obtain⟨ht,hh1,hh2⟩:∃wd:Nat,(r2:Int)+1=wd∧(wd=1∨wd=2):=⟨r2+1,by omega,by omega⟩;rw[hw1,hh1];clear hr1 hr2 e1 e2 hw1 hh1;have hwb:=Blk.new w 3 #[.int .i64 wd];have hb1:=bel_alloc (bel_refl w) (.cells #[.int .i64 wd] 3);obtain⟨wb,hwbe⟩:∃wb,w.heap.size=wb:=⟨_,rfl⟩;rw[hwbe]at hwb ⊢;have HWE:=Hd hwbe;generalize w.alloc (.cells #[.int .i64 wd] 3)=W1 at *;have HWB:=Hd hwb;have HB1:=Hd hb1;have e3:IntKind.i64.wrap ((ht:Int)+1)=((ht+1:Nat):Int):=by rw[IntWalk.i64_in _ (by omega)];omega
 obtain⟨h1,hh1⟩:∃h1:Nat,ht+1=h1:=⟨_,rfl⟩;rw[hh1]at e3;have hl1:(h1:Int)≤3:=by omega
 have HH1:=Hd hh1;clear hwb hb1 hwbe hh1;obtain⟨i0,hi,hz0,hz1,hz2⟩:=info_parts Nw.Tryz.info32';go_wp2
 go_loopw [10,35] (fun v a wq=>∃y:Nat,a=.int .i64 y∧y≤h1∧Hid (wq.ownsRow W1.heap.size 24 2 v (rowsP wd y).length ((rowsP wd y).flatMap Pt.cs))∧Hid (Below W1.heap.size W1 wq)) (fun _ a _=>h1-(intOf a).toNat)
 case atStart=>exact⟨0,rfl,Nat.zero_le _,Hd ⟨rfl,.inl ⟨rfl,rfl⟩⟩,Hd (bel_refl W1)⟩
 case round=>
  obtain⟨y,rfl,hy,HO,HB⟩:=hrel;by_cases hlt:y<h1
  ·have c4:=(HWB.out.later HB.out).cell 0 (.int .i64 wd) rfl
   have e4:IntKind.i64.wrap ((wd:Int)+1)=((wd+1:Nat):Int):=by rw[IntWalk.i64_in _ (by omega)];omega
   obtain⟨w1,hw1⟩:∃h1:Nat,wd+1=h1:=⟨_,rfl⟩;rw[hw1]at e4;have hl2:(w1:Int)≤3:=by omega
   have HW1:=Hd hw1;have wy:IntKind.i64.wrap (2*(y:Int))=((2*y:Nat):Int):=by rw[IntWalk.i64_in _ (by omega)];omega
   obtain⟨y2,hy2⟩:∃y2:Nat,2*y=y2:=⟨_,rfl⟩;rw[hy2]at wy;have HY2:=Hd hy2;have HO0:=Hd (show wr.ownsRow W1.heap.size 24 2 _ (rowsP wd y++rowP y 0).length ((rowsP wd y++rowP y 0).flatMap Pt.cs)by rw[show rowP y 0=[]from rfl,List.append_nil];exact HO.out);clear hw1 hy2 HO;go_wp2
   go_loopw [10,40] (fun v a wq=>∃x:Nat,a=.int .i64 x∧x≤w1∧Hid (wq.ownsRow W1.heap.size 24 2 v (rowsP wd y++rowP y x).length ((rowsP wd y++rowP y x).flatMap Pt.cs))∧Hid (Below W1.heap.size W1 wq)) (fun _ a _=>w1-(intOf a).toNat)
   case atStart=>exact⟨0,rfl,Nat.zero_le _,HO0,HB⟩
   case round=>
    obtain⟨x,rfl,hx,HOx,HBx⟩:=hrel;by_cases hlx:x<w1
    ·have wx:IntKind.i64.wrap (2*(x:Int))=((2*x:Nat):Int):=by rw[IntWalk.i64_in _ (by omega)];omega
     obtain⟨x2,hx2⟩:∃x2:Nat,2*x=x2:=⟨_,rfl⟩;rw[hx2]at wx
     have hnx:(rowsP wd y++rowP y (x+1)).flatMap Pt.cs=(rowsP wd y++rowP y x).flatMap Pt.cs++[.int .i64 x2,.int .i64 y2]:=by
      rw[rowP_succ,←List.append_assoc,List.flatMap_append,List.flatMap_singleton,←hx2,←HY2.out];simp[Pt.cs]
     have hnl:(rowsP wd y++rowP y (x+1)).length=(rowsP wd y++rowP y x).length+1:=by
      rw[rowP_succ,←List.append_assoc,List.length_append];rfl
     have hll:(rowsP wd y++rowP y x).length≤30:=by
      rw[List.length_append,rowsP_len,rowP_len];have:=Nat.mul_le_mul (show y≤3 by omega) (show wd+1≤3 by omega);omega
     obtain⟨L,hL⟩:∃L,(rowsP wd y++rowP y x).flatMap Pt.cs=L:=⟨_,rfl⟩;obtain⟨nl,hnle⟩:∃nl,(rowsP wd y++rowP y x).length=nl:=⟨_,rfl⟩;rw[hL]at hnx HOx;rw[hnle]at hnl HOx hll;have HNX:=Hd hnx;have HNL:=Hd hnl;obtain⟨A3,c3,rfl⟩:=own_slice HOx.out;have hsz:=HBx.out.size;clear hnx hnl hL hnle hx2
     go_wp2_with (at_builtin;refine wpList_append_own_at _ rfl _ _ 35 rfl W1.heap.size 24 i0 (.agg #[.int .i64 0,.int .i64 0]) 2 16 Tryz.underlying35 hi hz0 hz1 hz2 rfl (by decide) (.slice A3 nl c3) nl L rfl (HOx.out.alloc _) ⟨wr.heap.size,0,none⟩ 1 1 [.int .i64 x2,.int .i64 y2] rfl rfl (World.news_of_block (cs:=#[.int .i64 x2,.int .i64 y2]) (heap_alloc_new _ _)) (by simp[Value.oneCell']) (by unfold maxLen;omega) (by omega) (by simp;omega) ?_;intro v5 w5 hown5 hgrow _ hat5;have HO5:=Hd hown5;have HGR:=Hd hgrow;clear hown5 hgrow hat5)
     go_roundw
     case rel=>
      refine⟨x+1,by go_num,by omega,Hd ?_,Hd (grown_bel HBx.out HGR.out HOx.out (Nat.le_refl _))⟩;rw[HNX.out,HNL.out];exact HO5.out
     case measure=>simp[intOf];omega
    ·have hxw:w1=x:=by omega
     subst hxw;have hnx:rowsP wd (y+1)=rowsP wd y++rowP y w1:=by rw[rowsP_succ,HW1.out]
     have HNX:=Hd hnx;clear hnx;go_wp2;go_roundw
     case rel=>exact⟨y+1,by go_num,by omega,by rw[HNX.out];exact HOx,HBx⟩
     case measure=>simp[intOf];omega
  ·have hyh:h1=y:=by omega
   subst hyh;have hps:rowsP wd h1=gridPts wd ht:=by rw[←HH1.out];rfl
   rw[hps]at HO;obtain⟨pA,pc,rfl⟩:=own_slice HO.out;obtain⟨pn,hpn⟩:∃pn,(gridPts wd ht).length=pn:=⟨_,rfl⟩;rw[hpn]at HO ⊢;have HPN:=Hd hpn;obtain⟨Wp,rfl⟩:∃W,W=wr:=⟨_,rfl⟩;obtain⟨d,hd⟩:∃d:Nat→Bool,d=fun k=>(bits BinOp.and .u32 (bs / 2 ^ k) 1==1):=⟨_,rfl⟩
   have HD:=Hd hd;obtain⟨j0,hj,y0,y1,y2⟩:=info_parts info40';clear hlt hy hps hpn hd;go_wp2
   go_loopw [13,15,55] (fun v k a wq=>∃y:Nat,a=.int .i64 y∧y≤ht∧k=.int .i64 ((y*wd:Nat):Int)∧Hid (wq.ownsRow Wp.heap.size 40 3 v (rowsT wd d y).length ((rowsT wd d y).flatMap t3cs))∧Hid (Below Wp.heap.size Wp wq)) (fun _ _ a _=>ht-(intOf a).toNat)
   case atStart=>exact⟨0,rfl,Nat.zero_le _,by simp,Hd ⟨rfl,.inl ⟨rfl,rfl⟩⟩,Hd (bel_refl Wp)⟩
   case round=>
    obtain⟨y,rfl,hy,rfl,HT,HBT⟩:=hrel;by_cases hlt:y<ht
    ·have c4:=((HWB.out.later HB.out).later HBT.out).cell 0 (.int .i64 wd) rfl
     have hyk:y*wd≤4:=Nat.le_trans (Nat.mul_le_mul (show y≤2 by omega) (show wd≤2 by omega)) (by omega);obtain⟨k0,hk0⟩:∃k0,y*wd=k0:=⟨_,rfl⟩;rw[hk0]at hyk ⊢;have HK0:=Hd hk0;have HT0:=Hd (show wr.ownsRow Wp.heap.size 40 3 _ (rowsT wd d y++rowT wd d y 0).length ((rowsT wd d y++rowT wd d y 0).flatMap t3cs)by rw[show rowT wd d y 0=[]from rfl,List.append_nil];exact HT.out);clear hk0 HT;go_wp2
     go_loopw [13,15,59] (fun v k a wq=>∃x:Nat,a=.int .i64 x∧x≤wd∧k=.int .i64 ((k0+x:Nat):Int)∧Hid (wq.ownsRow Wp.heap.size 40 3 v (rowsT wd d y++rowT wd d y x).length ((rowsT wd d y++rowT wd d y x).flatMap t3cs))∧Hid (Below Wp.heap.size Wp wq)) (fun _ _ a _=>wd-(intOf a).toNat)
     case atStart=>exact⟨0,rfl,Nat.zero_le _,by simp,HT0,HBT⟩
     case round=>
      obtain⟨x,rfl,hx,rfl,HOx,HBx⟩:=hrel;by_cases hlx:x<wd
      ·have wx:IntKind.i64.wrap ((x:Int)+1)=(x:Int)+1:=IntWalk.i64_in _ (by omega)
       have wy:IntKind.i64.wrap ((y:Int)+1)=(y:Int)+1:=IntWalk.i64_in _ (by omega);have hce:∀u,Below wr.heap.size wr u→u.cell? ⟨wb,0,none⟩=some (.int .i64 wd):=fun u hu=>(((HWB.out.later HB.out).later HBx.out).later hu).cell 0 (.int .i64 wd) rfl
       have HCE:=Hd hce;clear hce c4;obtain⟨k,hk⟩:∃k,k0+x=k:=⟨_,rfl⟩;rw[hk];have hk4:k≤6:=by omega
       have hkz:(0:Int)≤(k:Int):=by omega
       go_upto_if 86 with(first
        | (go_at_call 30;have h3:=HV3.out;have hb3':=HB3.out;refine(at_any _ _ wd wb _ (HCE.out _ hb3') (by omega) (by omega) (by omega) (by omega) (by omega)).mono ?_;rintro e w4 ⟨v4,rfl,hv4,hb4⟩;have HV4:=Hd hv4;have HB4:=Hd (bel_step hb3' hb4);clear hv4 hb4 h3 hb3')
        | (go_at_call 30;have h3:=HV2.out;have hb3':=HB2.out;refine(at_any _ _ wd wb _ (HCE.out _ hb3') (by omega) (by omega) (by omega) (by omega) (by omega)).mono ?_;rintro e w3 ⟨v3,rfl,hv4,hb4⟩;have HV3:=Hd hv4;have HB3:=Hd (bel_step hb3' hb4);clear hv4 hb4 h3 hb3')
        | (go_at_call 30;have h3:=HV1.out;have hb3':=HBa.out;refine(at_any _ _ wd wb _ (HCE.out _ hb3') (by omega) (by omega) (by omega) (by omega) (by omega)).mono ?_;rintro e w2 ⟨v2,rfl,hv4,hb4⟩;have HV2:=Hd hv4;have HB2:=Hd (bel_step hb3' hb4);clear hv4 hb4 h3 hb3')
        | (go_at_call 30;refine(at_any _ _ wd wb _ (HCE.out _ (bel_refl _)) (by omega) (by omega) (by omega) (by omega) (by omega)).mono ?_;rintro e wa ⟨v1,rfl,hv4,hb4⟩;have HV1:=Hd hv4;have HBa:=Hd hb4;clear hv4 hb4))
       have hdk:d (y*wd+x)=(bits BinOp.and .u32 (bs / 2 ^ k) 1==1):=by rw[HK0.out,hk,HD.out]
       have hsq:gridSq wd d y x=if (bits BinOp.and .u32 (bs / 2 ^ k) 1==1)=true then [(v1,v2,v3),(v3,v4,v1)] else [(v2,v4,v1),(v4,v2,v3)]:=by
        unfold gridSq;dsimp only;rw[hdk,HV1.out,HV2.out,HV3.out,HV4.out];simp only[Int.natCast_add,Int.natCast_mul,Int.natCast_one]
       obtain⟨b1,hb1e⟩:∃b1,bits BinOp.and .u32 (bs / 2 ^ k) 1=b1:=⟨_,rfl⟩;rw[hb1e]at hsq ⊢;obtain⟨q,hq⟩:∃q,(b1==(1:Int))=q:=⟨_,rfl⟩;rw[hq]at hsq ⊢;have HKX:=Hd hk;have wk:IntKind.i64.wrap ((k:Int)+1)=(k:Int)+1:=IntWalk.i64_in _ (by omega);obtain⟨A3,c3,rfl⟩:=own_slice HOx.out;have ho4:=own_later HOx.out HB4.out;have hB5:Below Wp.heap.size Wp w4:=bel_step HBx.out HB4.out
       have hnl:(rowsT wd d y++rowT wd d y (x+1)).length=(rowsT wd d y++rowT wd d y x).length+2:=by
        rw[rowT_succ,←List.append_assoc,List.length_append,sq_len]
       have hll:(rowsT wd d y++rowT wd d y x).length≤30:=by
        rw[List.length_append,rowsT_len,rowT_len];have:=Nat.mul_le_mul (show y≤2 by omega) (show 2*wd≤4 by omega);omega
       obtain⟨L,hL⟩:∃L,(rowsT wd d y++rowT wd d y x).flatMap t3cs=L:=⟨_,rfl⟩;obtain⟨nl,hnle⟩:∃nl,(rowsT wd d y++rowT wd d y x).length=nl:=⟨_,rfl⟩;rw[hL,hnle]at ho4;rw[hnle]at hnl hll ⊢;have HNL:=Hd hnl;have HO4:=Hd ho4;have HB5:=Hd hB5;clear hdk hb1e hq hk hnl hnle ho4 hB5 HOx HV1 HV2 HV3 HV4 HBa HB2 HB3 HB4 HCE;generalize bs / 2 ^ k=b2;cases q with
       | true=>
        simp only[if_true]at hsq
        have hnx:(rowsT wd d y++rowT wd d y (x+1)).flatMap t3cs=(rowsT wd d y++rowT wd d y x).flatMap t3cs++[.int .i64 v1,.int .i64 v2,.int .i64 v3,.int .i64 v3,.int .i64 v4,.int .i64 v1]:=by
         rw[rowT_succ,←List.append_assoc,List.flatMap_append,hsq];rfl
        rw[hL]at hnx;have HNX:=Hd hnx;clear hnx hL hsq
        go_wp2_with (at_builtin;refine wpList_append_own_at _ rfl _ _ 27 rfl Wp.heap.size 40 j0 (.agg #[.int .i64 0,.int .i64 0,.int .i64 0]) 3 24 Tryz.underlying27 hj y0 y1 y2 rfl (by decide) (.slice A3 nl c3) nl L rfl (HO4.out.alloc _) ⟨w4.heap.size,0,none⟩ 2 2 [.int .i64 v1,.int .i64 v2,.int .i64 v3,.int .i64 v3,.int .i64 v4,.int .i64 v1] rfl rfl (World.news_of_block (cs:=#[.int .i64 v1,.int .i64 v2,.int .i64 v3,.int .i64 v3,.int .i64 v4,.int .i64 v1]) (heap_alloc_new _ _)) (by simp[Value.oneCell']) (by unfold maxLen;omega) (by omega) (by have:=HB5.out.size;simp;omega) ?_;intro v5 w5 hown5 hgrow _ hat5;have HO5:=Hd hown5;have HGR:=Hd hgrow;clear hown5 hgrow hat5)
        go_roundw
        case rel=>
         refine⟨x+1,by go_num,by omega,by rw[show((k0+(x+1):Nat):Int)=(k:Int)+1 by have:=HKX.out;omega],Hd ?_,Hd (grown_bel HB5.out HGR.out HO4.out (Nat.le_refl _))⟩;rw[HNX.out,HNL.out];exact HO5.out
        case measure=>simp[intOf];omega
       | false=>
        simp only[Bool.false_eq_true,if_false]at hsq
        have hnx:(rowsT wd d y++rowT wd d y (x+1)).flatMap t3cs=(rowsT wd d y++rowT wd d y x).flatMap t3cs++[.int .i64 v2,.int .i64 v4,.int .i64 v1,.int .i64 v4,.int .i64 v2,.int .i64 v3]:=by
         rw[rowT_succ,←List.append_assoc,List.flatMap_append,hsq];rfl
        rw[hL]at hnx;have HNX:=Hd hnx;clear hnx hL hsq
        go_wp2_with (at_builtin;refine wpList_append_own_at _ rfl _ _ 27 rfl Wp.heap.size 40 j0 (.agg #[.int .i64 0,.int .i64 0,.int .i64 0]) 3 24 Tryz.underlying27 hj y0 y1 y2 rfl (by decide) (.slice A3 nl c3) nl L rfl (HO4.out.alloc _) ⟨w4.heap.size,0,none⟩ 2 2 [.int .i64 v2,.int .i64 v4,.int .i64 v1,.int .i64 v4,.int .i64 v2,.int .i64 v3] rfl rfl (World.news_of_block (cs:=#[.int .i64 v2,.int .i64 v4,.int .i64 v1,.int .i64 v4,.int .i64 v2,.int .i64 v3]) (heap_alloc_new _ _)) (by simp[Value.oneCell']) (by unfold maxLen;omega) (by omega) (by have:=HB5.out.size;simp;omega) ?_;intro v5 w5 hown5 hgrow _ hat5;have HO5:=Hd hown5;have HGR:=Hd hgrow;clear hown5 hgrow hat5)
        go_roundw
        case rel=>
         refine⟨x+1,by go_num,by omega,by rw[show((k0+(x+1):Nat):Int)=(k:Int)+1 by have:=HKX.out;omega],Hd ?_,Hd (grown_bel HB5.out HGR.out HO4.out (Nat.le_refl _))⟩;rw[HNX.out,HNL.out];exact HO5.out
        case measure=>simp[intOf];omega
      ·have hxw:wd=x:=by omega
       subst hxw;have hnx:rowsT wd d (y+1)=rowsT wd d y++rowT wd d y wd:=rowsT_succ wd d y;have HNX:=Hd hnx;clear hnx;go_wp2;go_roundw
       case rel=>exact⟨y+1,by go_num,by omega,by rw[show(((y+1)*wd:Nat):Int)=((k0+wd:Nat):Int)by rw[Nat.add_mul,HK0.out,Nat.one_mul]],by rw[HNX.out];exact HOx,HBx⟩
       case measure=>simp[intOf];omega
    ·have hyh:ht=y:=by omega
     subst hyh;have hts:rowsT wd d ht=gridTris wd ht d:=rfl;rw[hts]at HT;obtain⟨tA,tc,rfl⟩:=own_slice HT.out;obtain⟨R,hR⟩:∃R,gridTris wd ht d=R:=⟨_,rfl⟩;obtain⟨tn,htn⟩:∃tn,R.length=tn:=⟨_,rfl⟩;rw[hR,htn]at HT;rw[hR,htn];have hfi:=first wd ht hw2 hh2 d;unfold firstB at hfi;dsimp only at hfi;rw[hR]at hfi;simp only[Bool.and_eq_true,decide_eq_true_eq,List.all_eq_true]at hfi;obtain⟨f1,f2,f3,f4,f5⟩:=hfi
     have hbd:∀l,l<tn→∀j,j<3→0≤De.tr R l j∧De.tr R l j<(gridPts wd ht).length:=fun l hl j hj=>by
      have hm:=f4 _ (Dj.get_mem (L:=R) (l:=l) (by omega));unfold De.tr
      match j with
      | 0=>exact⟨hm.1,hm.2.1⟩
      | 1=>exact⟨hm.2.2.1,hm.2.2.2.1⟩
      | 2=>exact⟨hm.2.2.2.2.1,hm.2.2.2.2.2⟩
     obtain⟨Wt,rfl⟩:∃W,W=wr:=⟨_,rfl⟩
     obtain⟨gt,rfl,htr⟩:∃g,tA=some ⟨g,0,none⟩∧TrisAt Wt g R:=by
      obtain⟨q1,⟨q2,q3⟩|⟨g,c',cur,q2,q3,q4⟩⟩:=HT.out
      ·omega
      ·simp only[Value.slice.injEq,true_and]at q2
       obtain⟨rfl,rfl⟩:=q2;refine⟨g,rfl,fun l hl j hj=>?_⟩;have:=(HT.out.cellAt (l*3+j) (by omega)).trans (flat_get t3cs 3 (fun _=>rfl) R l j hj);rw[List.getElem?_eq_getElem hl]at this;rw[this];unfold De.tr;rw[List.getD_eq_getElem?_getD,List.getElem?_eq_getElem hl]
       match j with
       | 0=>rfl
       | 1=>rfl
       | 2=>rfl
     obtain⟨gp,rfl,hpt⟩:∃g,pA=some ⟨g,0,none⟩∧PtsAt Wt g (gridPts wd ht):=by
      obtain⟨q1,⟨q2,q3⟩|⟨g,c',cur,q2,q3,q4⟩⟩:=HO.out
      ·have:=hbd 0 (by omega) 0 (by omega)
       have:=HPN.out;omega
      ·simp only[Value.slice.injEq,true_and]at q2
       obtain⟨rfl,rfl⟩:=q2;refine⟨g,rfl,by omega,fun i hi=>?_⟩;have hO2:=own_later HO.out HBT.out;have kk:=fun j (hj:j<2)=>(hO2.cellAt (i*2+j) (by have:=HPN.out;omega)).trans ((flat_get Pt.cs 2 (fun _=>rfl) (gridPts wd ht) i j hj).trans (by rw[pat_get hi]))
       exact⟨kk 0 (by omega),kk 1 (by omega)⟩
     have HR:=Hd hR;have HTN:=Hd htn;have HTR:=Hd htr;have HPT:=Hd hpt;have HBD:=Hd hbd;have HF1:=Hd f1;have HF2:=Hd f2;have HF5:=Hd f5;have tn0:0<tn:=by omega
     have tn8:tn≤8:=by omega
     have hl9:(gridPts wd ht).length≤9:=f3;have HL9:=Hd hl9;have HBW:=Hd (show Below w.heap.size w Wt from bel_step (bel_step HB1.out HB.out) HBT.out);clear hR htn htr hpt hbd f1 f2 f3 f4 f5 hl9 hts hj y0 y1 y2 hi hz0 hz1 hz2 HT HO hlt hy HB1 HWB HB HBT HD e3 hl1
     go_upto_region 30 with(fail)
     generalize ((ht*wd:Nat):Int)=kk;have hmA:=bel_alloc (bel_refl Wt) (.map #[] 0);have hM0:MapAt (fun p:Way=>wayV p.1) (Value.int .i64) (Wt.alloc (.map #[] 0)) Wt.heap.size ([]:List (Way×Int)):=MapAt.new _ _ Wt;obtain⟨fm,hfm⟩:∃fm,Wt.heap.size=fm:=⟨_,rfl⟩;rw[hfm]at hM0 ⊢;have HFM:=Hd hfm;generalize Wt.alloc (.map #[] 0)=W4 at *;have HM0:=Hd hM0;have HMA:=Hd hmA;clear hM0 hmA hfm;go_wp2
     go_loopw [23,116] (fun n a wq=>∃l:Nat,a=.int .i64 l∧l≤tn∧n=.int .i64 ((3*l:Nat):Int)∧∃fl,Hid (MapAt (fun p:Way=>wayV p.1) (Value.int .i64) wq fm fl)∧Hid (Below Wt.heap.size Wt wq)) (fun _ a _=>tn-(intOf a).toNat)
     case atStart=>exact⟨0,rfl,Nat.zero_le _,rfl,[],HM0,HMA⟩
     case round=>
      obtain⟨l,rfl,hl,rfl,fl,HM,HB⟩:=hrel;by_cases hlt:l<tn
      ·have htr:=HTR.out
       have hlR:l<R.length:=by have:=HTN.out;omega
       have c0:=cell_later (htr l hlR 0 (by omega)) HB.out;have c1:=cell_later (htr l hlR 1 (by omega)) HB.out;have c2:=cell_later (htr l hlR 2 (by omega)) HB.out;have c0':wr.cell? ⟨gt,l*3,none⟩=_:=c0;have b0:=HBD.out l hlt 0 (by omega);have b1:=HBD.out l hlt 1 (by omega);have b2:=HBD.out l hlt 2 (by omega);have l9:=HL9.out;obtain⟨v,hv⟩:∃v,De.tr R l=v:=⟨_,rfl⟩;rw[hv]at c0' c1 c2 b0 b1 b2
       have hvb:∀j,j<3→0≤v j∧v j≤8:=fun j hj=>by
        match j with
        | 0=>omega
        | 1=>omega
        | 2=>omega
       have HVB:=Hd hvb;have x0:(0:Int)≤(l:Int):=by omega
       have x1:(l:Int)<(tn:Int):=by omega
       clear c0 htr hlR hv hvb b0 b1 b2 l9
       go_upto_region 33 with(fail)
       have hA5:=bel_alloc (bel_refl wr) (.cells #[.int .i64 (v 0),.int .i64 (v 1),.int .i64 (v 2)] 40);have hV5:=Blk.new wr 40 #[.int .i64 (v 0),.int .i64 (v 1),.int .i64 (v 2)];have hvbx:Wt.heap.size≤wr.heap.size∧fm≠wr.heap.size:=by have:=HB.out.size;have:=HM.out.lt;omega
       obtain⟨vb,hvbe⟩:∃vb,wr.heap.size=vb:=⟨_,rfl⟩;rw[hvbe]at hV5 hvbx ⊢;have HM5:=Hd (HM.out.later hA5);have HB5:=Hd (bel_step HB.out hA5);generalize wr.alloc (.cells #[.int .i64 (v 0),.int .i64 (v 1),.int .i64 (v 2)] 40)=W5 at *;have HV5:=Hd hV5;obtain⟨n0,hn0⟩:∃n0,3*l=n0:=⟨_,rfl⟩;rw[hn0];have hn0b:n0≤24:=by omega
       have HN0:=Hd hn0;clear hV5 hA5 hvbe c0' c1 c2 hn0 HM HB;go_wp2
       go_loopw [23,120] (fun n a wq=>∃i:Nat,a=.int .i64 i∧i≤3∧n=.int .i64 ((n0+i:Nat):Int)∧∃fl,Hid (MapAt (fun p:Way=>wayV p.1) (Value.int .i64) wq fm fl)∧Hid (Below Wt.heap.size Wt wq)∧Hid (Blk wq vb 40 #[.int .i64 (v 0),.int .i64 (v 1),.int .i64 (v 2)])) (fun _ a _=>3-(intOf a).toNat)
       case atStart=>exact⟨0,rfl,Nat.zero_le _,rfl,fl,HM5,HB5,HV5⟩
       case round=>
        obtain⟨i,rfl,hi,rfl,fl,HM,HB,HV⟩:=hrel;by_cases hli:i<3
        ·obtain⟨n,hn⟩:∃n,n0+i=n:=⟨_,rfl⟩
         rw[hn];have hn30:n≤30:=by omega
         have HN:=Hd hn;obtain⟨m,hm⟩:∃m,n%32=m:=⟨_,rfl⟩;have w32:Int.tmod (n:Int) 32=(m:Int):=by rw[←hm,Int.tmod_eq_emod_of_nonneg (by omega)];simp
         have wm:IntKind.i64.wrap (m:Int)=(m:Int):=IntWalk.i64_in _ (by omega);have hm0:(0:Int)≤(m:Int):=by omega
         have wn:IntKind.i64.wrap ((n:Int)+1)=(n:Int)+1:=IntWalk.i64_in _ (by omega);clear hm hn
         go_upto_if 128 with(fail)
         obtain⟨b1,hb1e⟩:∃b1,bits BinOp.and .u32 (fs / 2 ^ min m 32) 1=b1:=⟨_,rfl⟩;rw[hb1e];obtain⟨q,hq⟩:∃q,(b1==(1:Int))=q:=⟨_,rfl⟩;rw[hq];clear hb1e hq;generalize fs / 2 ^ min m 32=b2;have hrel2:(n:Int)+1=((n0+(i+1):Nat):Int):=by have:=HN.out;omega
         have HREL:=Hd hrel2;clear hrel2;cases q with
         | false=>
          go_wp2;go_roundw
          case rel=>exact⟨i+1,by go_num,by omega,by rw[HREL.out],fl,HM,HB,HV⟩
          case measure=>simp[intOf];omega
         | true=>
          obtain⟨j1,hj1⟩:∃j1,(i+1)%3=j1:=⟨_,rfl⟩;have j1l:j1<3:=by omega
          have hcv:∀j,j<3→wr.cell? ⟨vb,j,none⟩=some (.int .i64 (v j)):=fun j hj=>by
           rcases(show j=0∨j=1∨j=2 by omega)with rfl|rfl|rfl
           ·exact HV.out.cell 0 _ rfl
           ·exact HV.out.cell 1 _ rfl
           ·exact HV.out.cell 2 _ rfl
          have hp1:=HVB.out i hli;have hp2:=HVB.out j1 j1l;have l1:=Gq.Later.cell (hcv i hli);have l2:=Gq.Later.cell (hcv j1 j1l);obtain⟨va,hva⟩:∃va,v i=va:=⟨_,rfl⟩;obtain⟨vc,hvc⟩:∃vc,v j1=vc:=⟨_,rfl⟩;rw[hva]at l1 hp1;rw[hvc]at l2 hp2;have w1':IntKind.i64.wrap ((i:Int)+1)=(i:Int)+1:=IntWalk.i64_in _ (by omega);have m1:Int.tmod ((i:Int)+1) 3=(j1:Int):=by rw[←hj1,Int.tmod_eq_emod_of_nonneg (by omega)];simp
          have x1:IntKind.i64.wrap (j1:Int)=(j1:Int):=IntWalk.i64_in _ (by omega);have i0':(0:Int)≤(i:Int):=by omega
          have i3:(i:Int)<3:=by omega
          have p1:(0:Int)≤(j1:Int):=by omega
          have p2:(j1:Int)<3:=by omega
          have HFB:=Hd (show Wt.heap.size≤fm from Nat.le_of_eq HFM.out);obtain⟨kf,hkf⟩:∃kf:Way,kf=⟨(min va vc,max va vc),int_wf' _ (by omega) (by omega),int_wf' _ (by omega) (by omega)⟩:=⟨_,rfl⟩;have hkf1:wayV kf.1=.agg #[.int .i64 (min va vc),.int .i64 (max va vc)]:=by rw[hkf];rfl
          have HKF:=Hd hkf1;clear hcv hva hvc hkf hkf1 hp1 hp2 hj1;go_wp2;refine Go.Gq.region_tail 20 (by kernel_rfl) (by kernel_rfl) ?_;simp only[List.take_succ_cons,List.take_zero,List.drop_succ_cons,List.drop_zero]
          repeat (go_big_quiet_step (fail))
          refine wpQuiet_nil ?_;intro wx hw';have HX:=Hd (Go.Gq.later_bel hw');have HMx:=Hd (HM.out.later HX.out);clear hw' l1 l2
          go_wp2_with (at_mapUpdate;refine wpList_map_put _ rfl _ _ _ 63 rfl Tryz.underlying63 pr_ok fm rfl HMx.out kf (1:Int) (by exact HKF.out.symm) rfl ?_;intro w5 hm5 hg5;have HM6:=Hd hm5;have HB6:=Hd (Sq.bel_grown (bel_step HB.out HX.out) hg5 HFB.out);have HV6:=Hd (show Blk w5 vb 40 _ from(hg5.block vb (HV.out.later HX.out).lt (fun e=>hvbx.2 (Option.some.inj e).symm)).trans (HV.out.later HX.out));clear hm5 hg5)
          go_roundw
          case rel=>exact⟨i+1,by go_num,by omega,by rw[HREL.out],_,HM6,HB6,HV6⟩
          case measure=>simp[intOf];omega
        ·have hi3:i=3:=by omega
         subst hi3;obtain⟨q3,hq3,hq4⟩:∃q:Int,((3:Nat):Int)=q∧¬q<3:=⟨_,rfl,by omega⟩;rw[hq3];clear hq3;go_wp2;go_roundw
         case rel=>exact⟨l+1,by go_num,by omega,by rw[show((3*(l+1):Nat):Int)=((n0+3:Nat):Int)by have:=HN0.out;omega],fl,HM,HB⟩
         case measure=>simp[intOf];omega
      ·have hlt':tn=l:=by omega
       subst hlt';have hpn:=HPN.out;have htn:=HTN.out
       have hk:=Bl.build_any gp pc gt tc fm (gridPts wd ht) R fl (De.tr R 0 0).toNat (De.tr R 0 1).toNat (De.tr R 0 2).toNat wr (HPT.out.later HB.out) (near_all wd ht hw2 hh2) (fun l hl j hj=>cell_later (HTR.out l hl j hj) HB.out) HM.out HF1.out (by omega) (by have:=HL9.out;omega)
        (by have:=HBD.out 0 (by omega) 0 (by omega);omega) (by have:=HBD.out 0 (by omega) 1 (by omega);omega) (by have:=HBD.out 0 (by omega) 2 (by omega);omega) HF5.out
        (by have:=HBD.out 0 (by omega) 0 (by omega);omega) (by have:=HBD.out 0 (by omega) 1 (by omega);omega) (by have:=HBD.out 0 (by omega) 2 (by omega);omega)
        (fun x hx j hj=>HBD.out x (by omega) j hj) _ rfl _ rfl
       rw[hpn,htn]at hk;have HK:=Hd hk;clear hk hpn htn
       go_wp2_with (go_at_call 31;refine HK.out.mono ?_;rintro e w9 ⟨mb,D,rfl,hp9,hm9,hb9⟩;have HP9:=Hd hp9;have HM9:=Hd hm9;have HB9:=Hd hb9;clear hp9 hm9 hb9)
       refine bodyPost_ret (v:=.tuple #[.pointer (some ⟨mb,0,none⟩),.slice (some ⟨gt,0,none⟩) tn tc]) (by simp[results,Tryz.results7,go_sem]) rfl ?_;have h4:=four wd ht hw2 hh2 d;rw[HR.out]at h4;have hsz:=(HBW.out.trans (HB.out.mono HBW.out.size)).size;have hbel:Below w.heap.size w w9:=bel_step (bel_step HBW.out HB.out) HB9.out;have hp:=HP9.out;have hm:=HM9.out;rw[h4]at hp hm;refine⟨wd,ht,d 0,d 1,d 2,d 3,faOf fl,(De.tr (gridTris wd ht (bits4 (d 0) (d 1) (d 2) (d 3))) 0 0).toNat,(De.tr (gridTris wd ht (bits4 (d 0) (d 1) (d 2) (d 3))) 0 1).toNat,(De.tr (gridTris wd ht (bits4 (d 0) (d 1) (d 2) (d 3))) 0 2).toNat,mb,D,_,hw2,hh2,rfl,hp.trans (Dk.keys wd ht hw2 hh2 (d 0) (d 1) (d 2) (d 3) _ _ _),?_,hbel⟩;obtain⟨pV,tV,fV,aV,hM⟩:=hm;exact⟨pV,tV,fV,aV,MAt.down hM hsz⟩
end Gd
end Go.Proofs.YtdihefgleefhmaaGreat
