import Derived.Test.YtdihefgleefhmaaGreatFl
import Derived.WalkMore
namespace Go.Proofs.YtdihefgleefhmaaGreat
open Go.RowKit
def trimF(f:Nat→Nat):Nat→Nat
 | 0=>0
 | k+1=>if f k=0 then trimF f k else k+1
def sumTo(f:Nat→Nat):Nat→Nat
 | 0=>0
 | k+1=>sumTo f k+f k*18446744073709551616 ^ k
structure MagP(W:World)(p:Option Addr)(n c:Nat)(f:Nat→Nat):Prop where
 words:∀i,i<n→f i<18446744073709551616
 le:n≤c
 big:n≤1000000
 at_:0<n→∃g,p=some ⟨g,0,none⟩∧∀i,i<n→W.cell? ⟨g,i,none⟩=some (.int .u64 (f i:Nat))
theorem MagP.later{W W':World}{p:Option Addr}{n c:Nat}{f:Nat→Nat}(h:MagP W p n c f)(hb:Below W.heap.size W W'):MagP W' p n c f:=
 ⟨h.words,h.le,h.big,fun h0=>by obtain⟨g,hp,hg⟩:=h.at_ h0;exact⟨g,hp,fun i hi=>cell_later (hg i hi) hb⟩⟩
namespace Mg
theorem trim_le(f:Nat→Nat):∀k,trimF f k≤k
 | 0=>Nat.le_refl _
 | k+1=>by
  unfold trimF
  split
  ·have:=trim_le f k;omega
  ·omega
theorem sum_trim(f:Nat→Nat):∀k,sumTo f (trimF f k)=sumTo f k
 | 0=>rfl
 | k+1=>by
  unfold trimF
  split
  ·rename_i h
   rw[sum_trim f k];show _=sumTo f k+f k*18446744073709551616 ^ k
   rw[h,Nat.zero_mul,Nat.add_zero]
  ·rfl
theorem trim_last(f:Nat→Nat):∀k j,trimF f k=j+1→f j≠0
 | 0,j,h=>by simp[trimF]at h
 | k+1,j,h=>by
  unfold trimF at h
  split at h
  ·exact trim_last f k j h
  ·rename_i h0
   obtain rfl:k=j:=by omega
   exact h0
theorem trim_same(f:Nat→Nat)(k:Nat)(h:∀j,k=j+1→f j≠0):trimF f k=k:=by
 cases k with
 | zero=>rfl
 | succ k=>unfold trimF;rw[if_neg (h k rfl)]
theorem _root_.Go.Proofs.YtdihefgleefhmaaGreat.MagP.trim{W:World}{p:Option Addr}{n c:Nat}{f:Nat→Nat}(h:MagP W p n c f):MagP W p (trimF f n) c f:=by
 have:=trim_le f n;refine⟨fun i hi=>h.words i (by omega),by have:=h.le;omega,by have:=h.big;omega,fun h0=>?_⟩;obtain⟨g,hp,hg⟩:=h.at_ (by omega);exact⟨g,hp,fun i hi=>hg i (by omega)⟩
set_option maxRecDepth 100000 in
theorem right_any(p:Option Addr)(n c:Nat)(f:Nat→Nat)(w:World)(h:MagP w p n c f) :
  Calls Tryz.prog 135 #[.slice p n c] w fun e w'=>e=.returned (.slice p (trimF f n) c)∧Below w.heap.size w w':=by
 obtain⟨R,hR⟩:∃R,trimF f n=R:=⟨_,rfl⟩;rw[hR];have HR:=Hd hR;have H:=Hd h.at_;have hc:=h.le;have hn:=h.big;clear hR h
 go_enter Tryz.func135,Tryz.ntmps135
 go_wp2
 go_loopw [0] (fun v wr=>∃k:Nat,v=.slice p k c∧k≤n∧Hid (trimF f k=R)∧Hid (w=wr)) (fun v _=>match v with| .slice _ k _=>k|_=>0)
 case atStart=>exact⟨n,rfl,Nat.le_refl _,HR,rfl⟩
 case round=>
  obtain⟨k,rfl,hk,HK,HU⟩:=hrel;have hUe:=HU.out;subst hUe;clear HU;cases k with
  | zero=>
   go_wp2
   go_ret
   exact⟨by rw[←HK.out];rfl,bel_refl w⟩
  | succ k=>
   obtain⟨g,rfl,hg⟩:=H.out (by omega);have hx:=hg k (by omega);clear hg;have wk:IntKind.i64.wrap (((k+1:Nat):Int)-1)=(k:Int):=by rw[IntWalk.i64_in _ (by omega)];omega
   have i0:(0:Int)≤(k:Int):=by omega
   have i1:(k:Int)<((k+1:Nat):Int):=by omega
   have hst:trimF f (k+1)=if f k=0 then trimF f k else k+1:=rfl
   have hpos:(0:Int)<((k+1:Nat):Int):=by omega
   have hkc:(k:Int)≤(c:Int):=by omega
   by_cases hz:f k=0
   ·rw[hz]at hx
    rw[if_pos hz]at hst;have HST:=Hd (hst.symm.trans HK.out);clear hz hst;go_wp2;go_roundw
    case rel=>exact⟨k,rfl,by omega,HST,trivial⟩
    case measure=>simp
   ·obtain⟨q,hq⟩:∃q,f k=q:=⟨_,rfl⟩
    rw[hq]at hx hz;rw[hq,if_neg hz]at hst;have HST:=Hd (hst.symm.trans HK.out);have hb:((q:Int)==0)=false:=by simpa using hz
    clear hst hq hz;go_wp2
    go_ret
    exact⟨congrArg (fun x=>Ending.returned (Value.slice (some ⟨g,0,none⟩) x c)) HST.out,bel_refl w⟩
def carryF(f h:Nat→Nat):Nat→Nat
 | 0=>0
 | k+1=>(f k+h k+carryF f h k) / 18446744073709551616
def wordF(f h:Nat→Nat)(k:Nat):Nat:=(f k+h k+carryF f h k)%18446744073709551616
def maskF(n:Nat)(f:Nat→Nat)(i:Nat):Nat:=if i<n then f i else 0
def addF(f h:Nat→Nat)(n:Nat)(i:Nat):Nat:=if i<n then wordF f h i else carryF f h n
theorem sum_congr(f h:Nat→Nat):∀k,(∀i,i<k→f i=h i)→sumTo f k=sumTo h k
 | 0,_=>rfl
 | k+1,e=>by
  unfold sumTo;rw[sum_congr f h k (fun i hi=>e i (by omega)),e k (by omega)]
theorem sum_mask(f:Nat→Nat)(m:Nat):∀k,m≤k→sumTo (maskF m f) k=sumTo f m
 | 0,h=>by obtain rfl:m=0:=by omega
           rfl
 | k+1,h=>by
  by_cases hm:m=k+1
  ·subst hm
   exact sum_congr _ _ _ fun i hi=>by simp[maskF,hi]
  ·show sumTo (maskF m f) k+maskF m f k*_=_
   rw[sum_mask f m k (by omega),show maskF m f k=0 by simp[maskF];omega,Nat.zero_mul,Nat.add_zero]
theorem sum_word(f h:Nat→Nat):∀k,sumTo (wordF f h) k+carryF f h k*18446744073709551616 ^ k=sumTo f k+sumTo h k
 | 0=>rfl
 | k+1=>by
  have ih:=sum_word f h k;have e1:sumTo (wordF f h) (k+1)=sumTo (wordF f h) k+wordF f h k*18446744073709551616 ^ k:=rfl;have e2:sumTo f (k+1)=sumTo f k+f k*18446744073709551616 ^ k:=rfl;have e3:sumTo h (k+1)=sumTo h k+h k*18446744073709551616 ^ k:=rfl;have e4:carryF f h (k+1)=(f k+h k+carryF f h k) / 18446744073709551616:=rfl;have e5:wordF f h k=(f k+h k+carryF f h k)%18446744073709551616:=rfl;have e6:wordF f h k+18446744073709551616*carryF f h (k+1)=f k+h k+carryF f h k:=by rw[e4,e5];exact Nat.mod_add_div _ _
  have e7:(18446744073709551616:Nat) ^ (k+1)=18446744073709551616*18446744073709551616 ^ k:=by rw[Nat.pow_succ,Nat.mul_comm]
  rw[e1,e2,e3,e7];clear e1 e2 e3 e4 e5 e7;generalize wordF f h k=a at *;generalize carryF f h (k+1)=c' at *;generalize carryF f h k=c at *;generalize 18446744073709551616 ^ k=P at *;have:c'*(18446744073709551616*P)=(18446744073709551616*c')*P:=by rw[Nat.mul_comm 18446744073709551616 P,←Nat.mul_assoc,Nat.mul_right_comm,Nat.mul_comm c' _]
  rw[this];have e8:a*P+(18446744073709551616*c')*P=f k*P+h k*P+c*P:=by rw[←Nat.add_mul,e6,Nat.add_mul,Nat.add_mul]
  omega
theorem sum_addF(f h:Nat→Nat)(n m:Nat)(hm:m≤n):sumTo (addF f (maskF m h) n) (n+1)=sumTo f n+sumTo h m:=by
 show sumTo (addF f (maskF m h) n) n+addF f (maskF m h) n n*_=_
 rw[sum_congr _ (wordF f (maskF m h)) n (fun i hi=>by simp[addF,hi]),show addF f (maskF m h) n n=carryF f (maskF m h) n by simp[addF],sum_word,sum_mask h m n hm]
theorem carry_le(f h:Nat→Nat)(n:Nat)(hf:∀i,i<n→f i<18446744073709551616)(hh:∀i,i<n→h i<18446744073709551616):∀k,k≤n→carryF f h k≤1
 | 0,_=>by simp[carryF]
 | k+1,hk=>by
  have:=carry_le f h n hf hh k (by omega);have:=hf k (by omega);have:=hh k (by omega);unfold carryF;omega
end Mg
end Go.Proofs.YtdihefgleefhmaaGreat
namespace Go.Proofs.YtdihefgleefhmaaGreat
open Go.RowKit
theorem Tryz.info86':(Tryz.prog.info? 96).map (fun i=>(i.zero,i.size,i.bytes))=some (some (.int .u64 0),1,8):=by kernel_rfl
namespace Mg
def outL(f h:Nat→Nat)(n k:Nat):List Value:=(List.range (n+1)).map fun i=>Value.int .u64 ((if i<k then wordF f h i else 0:Nat):Int)
theorem outL_set(f h:Nat→Nat)(n k:Nat):(outL f h n k).set k (.int .u64 (wordF f h k:Nat))=outL f h n (k+1):=by
 apply List.ext_getElem? ;intro i;unfold outL;simp only[List.getElem?_set,List.getElem?_map,List.length_map,List.length_range];by_cases hi:k=i
 ·subst hi
  by_cases hl:k<n+1
  ·simp[hl]
  ·simp[hl]
 ·simp only[hi,if_false]
  by_cases hl:i<n+1
  ·simp[hl,show(i<k+1)=(i<k)by simp;omega]
  ·simp[hl]
theorem made_words(n:Nat)(f h:Nat→Nat):(madeCells (Value.int .u64 0).cells (n*1)).toList=outL f h (n-1) 0∨n=0:=by
 cases n with
 | zero=>exact .inr rfl
 | succ n=>
  left
  unfold madeCells outL;simp[Value.cells,Array.toList_range];intro a _;rw[Nat.mod_one];rfl
theorem outL_at(f h:Nat→Nat)(n k:Nat)(hk:k≤n):(outL f h n k)[k]? =some (.int .u64 0):=by
 unfold outL;rw[List.getElem?_map,List.getElem?_range (by omega)];simp
structure AddAt(w W:World)(f h:Nat→Nat)(n k:Nat):Prop where
 own:W.ownsRow w.heap.size 96 1 (.slice (some ⟨w.heap.size,0,none⟩) (n+1) (n+1)) (n+1) (outL f h n k)
 bel:Below w.heap.size w W
set_option maxRecDepth 100000 in
set_option maxHeartbeats 2000000 in
theorem add_ge(p q:Option Addr)(n c m d:Nat)(f h:Nat→Nat)(w:World)(hf:MagP w p n c f)(hh:MagP w q m d h)(hmn:m≤n)(hn:n≤999999) :
  Calls Tryz.prog 101 #[.slice p n c,.slice q m d] w fun e w'=>(∃k c',e=.returned (.slice (some ⟨w.heap.size,0,none⟩) k c')∧MagP w' (some ⟨w.heap.size,0,none⟩) k c' (addF f (maskF m h) n)∧k=trimF (addF f (maskF m h) n) (n+1))∧Below w.heap.size w w':=by
 obtain⟨R,hR⟩:∃R,trimF (addF f (maskF m h) n) (n+1)=R:=⟨_,rfl⟩;rw[hR];have HR:=Hd hR;have HF:=Hd hf;have HH:=Hd hh;have hm:=hh.big;have hcl:∀k,k≤n→carryF f (maskF m h) k≤1:=carry_le f (maskF m h) n hf.words (fun i _=>by unfold maskF;split<;>first| (rename_i hi;exact hh.words i hi)|omega);have HCL:=Hd hcl;clear hR hf hh hcl;obtain⟨i0,hi',hz0,hz1,hz2⟩:=info_parts Tryz.info86';have wn1:IntKind.i64.wrap ((n:Int)+1)=((n+1:Nat):Int):=by rw[IntWalk.i64_in _ (by omega)];omega
 have gd:¬(n:Int)<(m:Int):=by omega
 go_enter Tryz.func101,Tryz.ntmps101
 go_wp2_with (at_make;refine wpList_make_full _ rfl _ _ 141 rfl w.heap.size 96 i0 (.int .u64 0) 1 Tryz.underlying141 hi' hz0 hz1 _ _ _ _ (n+1) rfl rfl rfl rfl (by rw[hz2];omega) (by unfold maxLen;omega) (Nat.le_refl _) ?_;intro w1 hown hgrow;have HOW:=Hd hown;have HGR:=Hd hgrow;clear hown hgrow)
 have hA:AddAt w w1 f (maskF m h) n 0:=⟨by
  have:=HOW.out;rcases made_words (n+1) f (maskF m h)with e|e
  ·rw[e]at this;exact this
  ·omega,⟨HGR.out.os,HGR.out.tape,HGR.out.output,HGR.out.size,fun k hk=>HGR.out.block k hk (by simp)⟩⟩
 have HA:=Hd hA;clear hA HOW HGR
 go_loopw [6,23] (fun u v wr=>∃k:Nat,v=.int .i64 k∧u=.int .u64 (carryF f (maskF m h) k:Nat)∧k≤n∧Hid (AddAt w wr f (maskF m h) n k)) (fun u v _=>n-(intOf v).toNat)
 case atStart=>exact⟨0,rfl,rfl,Nat.zero_le _,HA⟩
 case round=>
  obtain⟨k,rfl,rfl,hk,HK⟩:=hrel;by_cases hkn:k<n
  ·obtain⟨g,rfl,hg⟩:=HF.out.at_ (by omega)
   have hx:=cell_later (hg k hkn) HK.out.bel;have hfk:=HF.out.words k hkn;have hc1:=HCL.out k hk;clear hg;have hst:=HK.out.own.stored k (.int .u64 (wordF f (maskF m h) k:Nat));rw[outL_set]at hst;have hfz:=HK.out.own.frozenAt k;have hex:=HK.out.own.cellAt k (by omega);rw[outL_at _ _ _ _ hk]at hex;have HST:=Hd hst.1;have HBL:=Hd (bel_set HK.out.bel (Nat.le_refl _) k (.int .u64 (wordF f (maskF m h) k:Nat)));have l1:(k:Int)<(n:Int):=by omega
   have l2:(k:Int)<((n+1:Nat):Int):=by omega
   have l0:(0:Int)≤(k:Int):=by omega
   have wk:IntKind.i64.wrap ((k:Int)+1)=((k+1:Nat):Int):=by rw[IntWalk.i64_in _ (by omega)];omega
   clear hst;by_cases hkm:k<m
   ·obtain⟨g',rfl,hg'⟩:=HH.out.at_ (by omega)
    have hy:=cell_later (hg' k hkm) HK.out.bel;have hhk:=HH.out.words k hkm;have e0:maskF m h k=h k:=by simp[maskF,hkm]
    have e1:((wordF f (maskF m h) k:Nat):Int)=((f k:Int)+(h k:Int)+(carryF f (maskF m h) k:Nat))%18446744073709551616:=by unfold wordF;rw[e0];omega
    have e2:((carryF f (maskF m h) (k+1):Nat):Int)=((f k:Int)+(h k:Int)+(carryF f (maskF m h) k:Nat)) / 18446744073709551616:=by
     show(((f k+maskF m h k+carryF f (maskF m h) k) / 18446744073709551616:Nat):Int)=_
     rw[e0];omega
    have hadd:=fun w=>Wd.add64' (f k) (h k) (carryF f (maskF m h) k:Nat) _ _ (by omega) (by omega) (by omega) (by omega) e1 e2 w
    have l3:(k:Int)<(m:Int):=by omega
    clear hg' e0 e1 e2 hc1 hfk hhk;generalize wordF f (maskF m h) k=S at *;generalize hC:carryF f (maskF m h) k=C at *;generalize hC':carryF f (maskF m h) (k+1)=C' at *;have HC':=Hd hC';clear hC hC';generalize f k=a at *;generalize h k=b at *;go_wp2;go_roundw
    case rel=>exact⟨k+1,by go_num,by rw[HC'.out],by omega,Hd ⟨HST.out,HBL.out⟩⟩
    case measure=>simp[intOf];omega
   ·have e0:maskF m h k=0:=by simp[maskF,hkm]
    have e1:((wordF f (maskF m h) k:Nat):Int)=((f k:Int)+0+(carryF f (maskF m h) k:Nat))%18446744073709551616:=by unfold wordF;rw[e0];omega
    have e2:((carryF f (maskF m h) (k+1):Nat):Int)=((f k:Int)+0+(carryF f (maskF m h) k:Nat)) / 18446744073709551616:=by
     show(((f k+maskF m h k+carryF f (maskF m h) k) / 18446744073709551616:Nat):Int)=_
     rw[e0];omega
    have hadd:=fun w=>Wd.add64' (f k) 0 (carryF f (maskF m h) k:Nat) _ _ (by omega) (by omega) (by omega) (by omega) e1 e2 w
    have l3:¬(k:Int)<(m:Int):=by omega
    clear e0 e1 e2 hc1 hfk;generalize wordF f (maskF m h) k=S at *;generalize hC:carryF f (maskF m h) k=C at *;generalize hC':carryF f (maskF m h) (k+1)=C' at *;have HC':=Hd hC';clear hC hC';generalize f k=a at *;go_wp2;go_roundw
    case rel=>exact⟨k+1,by go_num,by rw[HC'.out],by omega,Hd ⟨HST.out,HBL.out⟩⟩
    case measure=>simp[intOf];omega
  ·obtain rfl:k=n:=by omega
   have hst:=HK.out.own.stored k (.int .u64 (carryF f (maskF m h) k:Nat));have hfz:=HK.out.own.frozenAt k;have hex:=HK.out.own.cellAt k (by omega);rw[outL_at _ _ _ _ (Nat.le_refl _)]at hex
   have hM:MagP (wr.setCell ⟨w.heap.size,k,none⟩ (.int .u64 (carryF f (maskF m h) k:Nat))) (some ⟨w.heap.size,0,none⟩) (k+1) (k+1) (addF f (maskF m h) k):=by
    refine⟨fun i hi=>?_,Nat.le_refl _,by omega,fun _=>⟨_,rfl,fun i hi=>?_⟩⟩
    ·unfold addF
     split
     ·unfold wordF;omega
     ·have:=HCL.out k hk;omega
    ·rw[hst.1.cellAt i (by omega),List.getElem?_set]
     unfold outL addF;by_cases e:k=i
     ·subst e;simp
     ·simp only[e,if_false,List.getElem?_map]
      have:i<k:=by omega
      simp[this,hi]
   have HM:=Hd hM;have HBL:=Hd (bel_set HK.out.bel (Nat.le_refl _) k (.int .u64 (carryF f (maskF m h) k:Nat)));have l2:(k:Int)<((k+1:Nat):Int):=by omega
   have l0:(0:Int)≤(k:Int):=by omega
   clear hst hM;generalize hC:carryF f (maskF m h) k=C at *;clear hC
   go_wp2_with (go_at_call 135;refine(right_any _ _ _ _ _ HM.out).mono ?_;rintro e w2 ⟨rfl,hb2⟩;have HB2:=Hd hb2;have HM2:=Hd (HM.out.trim.later hb2);clear hb2)
   go_ret
   refine⟨⟨_,_,rfl,HM2.out,HR.out⟩,bel_step HBL.out HB2.out⟩
set_option maxRecDepth 100000 in
set_option maxHeartbeats 2000000 in
theorem add_lt(p q:Option Addr)(n c m d:Nat)(f h:Nat→Nat)(w:World)(hf:MagP w p n c f)(hh:MagP w q m d h)(hmn:m<n)(hn:n≤999999) :
  Calls Tryz.prog 101 #[.slice q m d,.slice p n c] w fun e w'=>(∃k c',e=.returned (.slice (some ⟨w.heap.size,0,none⟩) k c')∧MagP w' (some ⟨w.heap.size,0,none⟩) k c' (addF f (maskF m h) n)∧k=trimF (addF f (maskF m h) n) (n+1))∧Below w.heap.size w w':=by
 obtain⟨R,hR⟩:∃R,trimF (addF f (maskF m h) n) (n+1)=R:=⟨_,rfl⟩;rw[hR];have HR:=Hd hR;have HF:=Hd hf;have HH:=Hd hh;have hm:=hh.big;have hcl:∀k,k≤n→carryF f (maskF m h) k≤1:=carry_le f (maskF m h) n hf.words (fun i _=>by unfold maskF;split<;>first| (rename_i hi;exact hh.words i hi)|omega);have HCL:=Hd hcl;clear hR hf hh hcl;obtain⟨i0,hi',hz0,hz1,hz2⟩:=info_parts Tryz.info86';have wn1:IntKind.i64.wrap ((n:Int)+1)=((n+1:Nat):Int):=by rw[IntWalk.i64_in _ (by omega)];omega
 have gd:(m:Int)<(n:Int):=by omega
 go_enter Tryz.func101,Tryz.ntmps101
 go_wp2_with (at_make;refine wpList_make_full _ rfl _ _ 141 rfl w.heap.size 96 i0 (.int .u64 0) 1 Tryz.underlying141 hi' hz0 hz1 _ _ _ _ (n+1) rfl rfl rfl rfl (by rw[hz2];omega) (by unfold maxLen;omega) (Nat.le_refl _) ?_;intro w1 hown hgrow;have HOW:=Hd hown;have HGR:=Hd hgrow;clear hown hgrow)
 have hA:AddAt w w1 f (maskF m h) n 0:=⟨by
  have:=HOW.out;rcases made_words (n+1) f (maskF m h)with e|e
  ·rw[e]at this;exact this
  ·omega,⟨HGR.out.os,HGR.out.tape,HGR.out.output,HGR.out.size,fun k hk=>HGR.out.block k hk (by simp)⟩⟩
 have HA:=Hd hA;clear hA HOW HGR
 go_loopw [6,23] (fun u v wr=>∃k:Nat,v=.int .i64 k∧u=.int .u64 (carryF f (maskF m h) k:Nat)∧k≤n∧Hid (AddAt w wr f (maskF m h) n k)) (fun u v _=>n-(intOf v).toNat)
 case atStart=>exact⟨0,rfl,rfl,Nat.zero_le _,HA⟩
 case round=>
  obtain⟨k,rfl,rfl,hk,HK⟩:=hrel;by_cases hkn:k<n
  ·obtain⟨g,rfl,hg⟩:=HF.out.at_ (by omega)
   have hx:=cell_later (hg k hkn) HK.out.bel;have hfk:=HF.out.words k hkn;have hc1:=HCL.out k hk;clear hg;have hst:=HK.out.own.stored k (.int .u64 (wordF f (maskF m h) k:Nat));rw[outL_set]at hst;have hfz:=HK.out.own.frozenAt k;have hex:=HK.out.own.cellAt k (by omega);rw[outL_at _ _ _ _ hk]at hex;have HST:=Hd hst.1;have HBL:=Hd (bel_set HK.out.bel (Nat.le_refl _) k (.int .u64 (wordF f (maskF m h) k:Nat)));have l1:(k:Int)<(n:Int):=by omega
   have l2:(k:Int)<((n+1:Nat):Int):=by omega
   have l0:(0:Int)≤(k:Int):=by omega
   have wk:IntKind.i64.wrap ((k:Int)+1)=((k+1:Nat):Int):=by rw[IntWalk.i64_in _ (by omega)];omega
   clear hst;by_cases hkm:k<m
   ·obtain⟨g',rfl,hg'⟩:=HH.out.at_ (by omega)
    have hy:=cell_later (hg' k hkm) HK.out.bel;have hhk:=HH.out.words k hkm;have e0:maskF m h k=h k:=by simp[maskF,hkm]
    have e1:((wordF f (maskF m h) k:Nat):Int)=((f k:Int)+(h k:Int)+(carryF f (maskF m h) k:Nat))%18446744073709551616:=by unfold wordF;rw[e0];omega
    have e2:((carryF f (maskF m h) (k+1):Nat):Int)=((f k:Int)+(h k:Int)+(carryF f (maskF m h) k:Nat)) / 18446744073709551616:=by
     show(((f k+maskF m h k+carryF f (maskF m h) k) / 18446744073709551616:Nat):Int)=_
     rw[e0];omega
    have hadd:=fun w=>Wd.add64' (f k) (h k) (carryF f (maskF m h) k:Nat) _ _ (by omega) (by omega) (by omega) (by omega) e1 e2 w
    have l3:(k:Int)<(m:Int):=by omega
    clear hg' e0 e1 e2 hc1 hfk hhk;generalize wordF f (maskF m h) k=S at *;generalize hC:carryF f (maskF m h) k=C at *;generalize hC':carryF f (maskF m h) (k+1)=C' at *;have HC':=Hd hC';clear hC hC';generalize f k=a at *;generalize h k=b at *;go_wp2;go_roundw
    case rel=>exact⟨k+1,by go_num,by rw[HC'.out],by omega,Hd ⟨HST.out,HBL.out⟩⟩
    case measure=>simp[intOf];omega
   ·have e0:maskF m h k=0:=by simp[maskF,hkm]
    have e1:((wordF f (maskF m h) k:Nat):Int)=((f k:Int)+0+(carryF f (maskF m h) k:Nat))%18446744073709551616:=by unfold wordF;rw[e0];omega
    have e2:((carryF f (maskF m h) (k+1):Nat):Int)=((f k:Int)+0+(carryF f (maskF m h) k:Nat)) / 18446744073709551616:=by
     show(((f k+maskF m h k+carryF f (maskF m h) k) / 18446744073709551616:Nat):Int)=_
     rw[e0];omega
    have hadd:=fun w=>Wd.add64' (f k) 0 (carryF f (maskF m h) k:Nat) _ _ (by omega) (by omega) (by omega) (by omega) e1 e2 w
    have l3:¬(k:Int)<(m:Int):=by omega
    clear e0 e1 e2 hc1 hfk;generalize wordF f (maskF m h) k=S at *;generalize hC:carryF f (maskF m h) k=C at *;generalize hC':carryF f (maskF m h) (k+1)=C' at *;have HC':=Hd hC';clear hC hC';generalize f k=a at *;go_wp2;go_roundw
    case rel=>exact⟨k+1,by go_num,by rw[HC'.out],by omega,Hd ⟨HST.out,HBL.out⟩⟩
    case measure=>simp[intOf];omega
  ·obtain rfl:k=n:=by omega
   have hst:=HK.out.own.stored k (.int .u64 (carryF f (maskF m h) k:Nat));have hfz:=HK.out.own.frozenAt k;have hex:=HK.out.own.cellAt k (by omega);rw[outL_at _ _ _ _ (Nat.le_refl _)]at hex
   have hM:MagP (wr.setCell ⟨w.heap.size,k,none⟩ (.int .u64 (carryF f (maskF m h) k:Nat))) (some ⟨w.heap.size,0,none⟩) (k+1) (k+1) (addF f (maskF m h) k):=by
    refine⟨fun i hi=>?_,Nat.le_refl _,by omega,fun _=>⟨_,rfl,fun i hi=>?_⟩⟩
    ·unfold addF
     split
     ·unfold wordF;omega
     ·have:=HCL.out k hk;omega
    ·rw[hst.1.cellAt i (by omega),List.getElem?_set]
     unfold outL addF;by_cases e:k=i
     ·subst e;simp
     ·simp only[e,if_false,List.getElem?_map]
      have:i<k:=by omega
      simp[this,hi]
   have HM:=Hd hM;have HBL:=Hd (bel_set HK.out.bel (Nat.le_refl _) k (.int .u64 (carryF f (maskF m h) k:Nat)));have l2:(k:Int)<((k+1:Nat):Int):=by omega
   have l0:(0:Int)≤(k:Int):=by omega
   clear hst hM;generalize hC:carryF f (maskF m h) k=C at *;clear hC
   go_wp2_with (go_at_call 135;refine(right_any _ _ _ _ _ HM.out).mono ?_;rintro e w2 ⟨rfl,hb2⟩;have HB2:=Hd hb2;have HM2:=Hd (HM.out.trim.later hb2);clear hb2)
   go_ret
   refine⟨⟨_,_,rfl,HM2.out,HR.out⟩,bel_step HBL.out HB2.out⟩
end Mg
end Go.Proofs.YtdihefgleefhmaaGreat
