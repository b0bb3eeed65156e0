import Derived.Test.YtdihefgleefhmaaGreatNu
import Derived.Deep.DeepCutAuto
import Derived.Test.YtdihefgleefhmaaGreatWf
namespace Go.Proofs.YtdihefgleefhmaaGreat
open Go.RowKit
namespace Nc
open Mg Nu
theorem sum_lt(f:Nat→Nat):∀n,(∀i,i<n→f i<18446744073709551616)→sumTo f n<18446744073709551616 ^ n
 | 0,_=>by simp[sumTo]
 | n+1,h=>by
  have h1:=sum_lt f n (fun i hi=>h i (by omega));have h2:=h n (by omega);show sumTo f n+f n*18446744073709551616 ^ n<_
  have h3:(f n+1)*18446744073709551616 ^ n≤18446744073709551616*18446744073709551616 ^ n:=Nat.mul_le_mul_right _ (by omega);rw[Nat.add_mul,Nat.one_mul]at h3;rw[Nat.pow_succ,Nat.mul_comm _ 18446744073709551616];omega
theorem sum_inj(f h:Nat→Nat):∀n,(∀i,i<n→f i<18446744073709551616)→(∀i,i<n→h i<18446744073709551616)→sumTo f n=sumTo h n→∀i,i<n→f i=h i
 | 0,_,_,_,i,hi=>by omega
 | n+1,hf,hh,e,i,hi=>by
  have a1:=sum_lt f n (fun i hi=>hf i (by omega));have a2:=sum_lt h n (fun i hi=>hh i (by omega));have e':sumTo f n+f n*18446744073709551616 ^ n=sumTo h n+h n*18446744073709551616 ^ n:=e;have pos:0<18446744073709551616 ^ n:=Nat.pow_pos (by omega);generalize 18446744073709551616 ^ n=P at *;have q1:(sumTo f n+f n*P) / P=f n:=by rw[Nat.add_mul_div_right _ _ pos,Nat.div_eq_of_lt a1,Nat.zero_add]
  have q2:(sumTo h n+h n*P) / P=h n:=by rw[Nat.add_mul_div_right _ _ pos,Nat.div_eq_of_lt a2,Nat.zero_add]
  have q3:f n=h n:=by rw[←q1,←q2,e']
  by_cases hin:i=n
  ·rw[hin];exact q3
  ·rw[q3]at e'
   exact sum_inj f h n (fun i hi=>hf i (by omega)) (fun i hi=>hh i (by omega)) (by omega) i (by omega)
theorem sum_big(f:Nat→Nat)(n j:Nat)(h:n=j+1)(h0:f j≠0):18446744073709551616 ^ j≤sumTo f n:=by
 subst h;show _≤sumTo f j+f j*18446744073709551616 ^ j
 have:18446744073709551616 ^ j≤f j*18446744073709551616 ^ j:=Nat.le_mul_of_pos_left _ (by omega);omega
theorem len_le(f h:Nat→Nat)(n m:Nat)(hf:∀i,i<n→f i<18446744073709551616)(hm:∀j,m=j+1→h j≠0)(e:sumTo f n=sumTo h m):m≤n:=by
 cases m with
 | zero=>omega
 | succ j=>
  have h1:=sum_lt f n hf;have h2:=sum_big h (j+1) j rfl (hm j rfl);have h3:18446744073709551616 ^ j<18446744073709551616 ^ n:=by omega
  have:=(Nat.pow_lt_pow_iff_right (by omega)).1 h3;omega
theorem same(W:World)(p q:Option Addr)(n c m d N:Nat)(ha:MagN W p n c N)(hb:MagN W q m d N):n=m∧∃f,MagP W p n c f∧MagP W q n d f∧∀j,n=j+1→f j≠0:=by
 obtain⟨f,f1,f2,f3⟩:=ha;obtain⟨h,h1,h2,h3⟩:=hb;have l1:=len_le f h n m f1.words h3 (f2.trans h2.symm);have l2:=len_le h f m n h1.words f3 (h2.trans f2.symm);obtain rfl:n=m:=by omega
 have hi:=sum_inj f h n f1.words h1.words (f2.trans h2.symm);refine⟨rfl,f,f1,⟨f1.words,h1.le,h1.big,fun h0=>?_⟩,f3⟩;obtain⟨g,hg,hc⟩:=h1.at_ h0;exact⟨g,hg,fun i h=>by rw[hi i h];exact hc i h⟩
set_option maxRecDepth 100000 in
theorem cmp_mag(p q:Option Addr)(n c d:Nat)(f:Nat→Nat)(w:World)(ha:MagP w p n c f)(hb:MagP w q n d f)(h0:∀j,n=j+1→f j≠0) :
  Calls Tryz.prog 102 #[.slice p n c,.slice q n d] w fun e w'=>e=.returned (.int .i64 0)∧Below w.heap.size w w':=by
 have r1:=fun u (hu:Below w.heap.size w u)=>right_any p n c f u (ha.later hu)
 have r2:=fun u (hu:Below w.heap.size w u)=>right_any q n d f u (hb.later hu)
 rw[trim_same f n h0]at r1 r2;have R1:=Hd r1;have R2:=Hd r2;have HA:=Hd ha;have HB:=Hd hb;have hn:=ha.big;clear r1 r2 ha hb h0
 go_enter Tryz.func102,Tryz.ntmps102
 go_wp2_with fail
 refine(R1.out _ (bel_refl _)).mono ?_;rintro e w1 ⟨rfl,hb1⟩;have HB1:=Hd hb1;clear hb1
 go_wp2_with fail
 refine(R2.out _ HB1.out).mono ?_;rintro e w2 ⟨rfl,hb2⟩;have HB2:=Hd (bel_step HB1.out hb2);clear hb2;have wn:IntKind.i64.wrap ((n:Int)-1)=(n:Int)-1:=IntWalk.i64_in _ (by omega);go_wp2
 go_loopw [5] (fun v wr=>∃k:Nat,v=.int .i64 ((k:Int)-1)∧k≤n∧Hid (Below w.heap.size w wr)) (fun v _=>(intOf v+1).toNat)
 case atStart=>exact⟨n,rfl,Nat.le_refl _,HB2⟩
 case round=>
  obtain⟨k,rfl,hk,HK⟩:=hrel;cases k with
  | zero=>
   go_wp2
   go_ret
   exact⟨rfl,HK.out⟩
  | succ k=>
   have e1:(((k+1:Nat):Int)-1)=(k:Int):=by omega
   rw[e1];obtain⟨g,rfl,hg⟩:=HA.out.at_ (by omega);obtain⟨g',rfl,hg'⟩:=HB.out.at_ (by omega);have y1:=cell_later (hg k (by omega)) HK.out;have y2:=cell_later (hg' k (by omega)) HK.out;have x1:∀u:Gq.Later wr,u.w.cell? ⟨g,k,none⟩=some (.int .u64 (f k:Nat)):=fun u=>cell_later y1 u.bel
   have x2:∀u:Gq.Later wr,u.w.cell? ⟨g',k,none⟩=some (.int .u64 (f k:Nat)):=fun u=>cell_later y2 u.bel
   clear y1 y2;have i1:(k:Int)<(n:Int):=by omega
   have i0:(0:Int)≤(k:Int):=by omega
   have wk:IntKind.i64.wrap ((k:Int)-1)=(k:Int)-1:=IntWalk.i64_in _ (by omega);clear hg hg';generalize f k=a at *;go_wp2;refine Go.Gq.region (by kernel_rfl) (by kernel_rfl) ?_
   repeat (go_big_quiet_step (fail))
   refine wpQuiet_nil ?_;intro wx hw';have HX:=Hd (bel_step HK.out (Go.Gq.later_bel hw'));clear hw' x1 x2;have ea:((a:Int) != (a:Int))=false:=by simp
   go_wp2;go_roundw
   case rel=>exact⟨k,rfl,by omega,HX⟩
   case measure=>simp[intOf]
theorem aux_le:∀f x,Lib.bitLenAux f x≤f
 | 0,_=>Nat.le_refl _
 | f+1,x=>by
  unfold Lib.bitLenAux
  split
  ·omega
  ·have:=aux_le f (x / 2);omega
theorem bit_bounds(a:Nat)(h:a≠0):1≤Lib.bitLen a∧Lib.bitLen a≤64:=by
 refine⟨?_,aux_le 64 a⟩;unfold Lib.bitLen Lib.bitLenAux;rw[if_neg h];omega
set_option maxRecDepth 100000 in
theorem len_any(p:Option Addr)(n c:Nat)(f:Nat→Nat)(w:World)(ha:MagP w p n c f)(h0:∀j,n=j+1→f j≠0) :
  Calls Tryz.prog 108 #[.slice p n c] w fun e w'=>(∃L:Int,e=.returned (.int .i64 L)∧(L==0)=(n==0))∧Below w.heap.size w w':=by
 have r1:=fun u (hu:Below w.heap.size w u)=>right_any p n c f u (ha.later hu)
 rw[trim_same f n h0]at r1;have R1:=Hd r1;have HA:=Hd ha;have hn:=ha.big;have H0:=Hd h0;clear r1 ha h0;cases n with
 | zero=>
  go_enter Tryz.func108,Tryz.ntmps108
  go_wp2_with (go_at_call 135;refine(R1.out _ (bel_refl _)).mono ?_;rintro e w1 ⟨rfl,hb1⟩;have HB1:=Hd hb1;clear hb1)
  go_ret
  exact⟨⟨0,rfl,rfl⟩,HB1.out⟩
 | succ k=>
  obtain⟨g,rfl,hg⟩:=HA.out.at_ (by omega);have hx:=hg k (by omega);have hw:=HA.out.words k (by omega);have hz:=H0.out k rfl;clear hg;generalize f k=a at *;have hb64:=fun w=>Tryz.bits_Len64 (a:Int) w (by omega) (by omega)
  rw[Int.toNat_natCast]at hb64;have hbb:=bit_bounds a hz;generalize Lib.bitLen a=b at *;have wk:IntKind.i64.wrap (((k+1:Nat):Int)-1)=(k:Int):=by rw[IntWalk.i64_in _ (by omega)];omega
  have wk2:IntKind.i64.wrap (64*(k:Int))=64*(k:Int):=IntWalk.i64_in _ (by omega);have wk3:IntKind.i64.wrap (64*(k:Int)+(b:Int))=64*(k:Int)+(b:Int):=IntWalk.i64_in _ (by omega);have wne:(((k+1:Nat):Int)==0)=false:=by simp;omega
  have i1:(k:Int)<((k+1:Nat):Int):=by omega
  have i0:(0:Int)≤(k:Int):=by omega
  go_enter Tryz.func108,Tryz.ntmps108
  go_wp2_with (first| (go_at_call 135;refine(R1.out _ (bel_refl _)).mono ?_;rintro e w1 ⟨rfl,hb1⟩;have HB1:=Hd hb1;have hx1:=cell_later hx hb1;clear hb1)|(go_at_call 122;refine(hb64 _).mono ?_;rintro e w2 ⟨rfl,rfl⟩))
  go_ret
  refine⟨⟨_,rfl,?_⟩,HB1.out⟩;have:¬64*(k:Int)+(b:Int)=0:=by omega
  simp[this]
set_option maxRecDepth 100000 in
theorem sign_any(p:Option Addr)(n c:Nat)(f:Nat→Nat)(w:World)(ha:MagP w p n c f)(h0:∀j,n=j+1→f j≠0) :
  Calls Tryz.prog 79 #[nv p n c] w fun e w'=>e=.returned (.int .i64 (if n=0 then 0 else 1))∧Below w.heap.size w w':=by
 have hL:=fun u (hu:Below w.heap.size w u)=>len_any p n c f u (ha.later hu) h0
 have HL:=Hd hL;clear hL ha h0;cases hq:(n==0)
 ·have hn:n≠0:=by simpa using hq
  rw[if_neg hn];rw[hq]at HL;clear hn hq
  go_enter Tryz.func79,Tryz.ntmps79
  go_wp2_with (go_at_call 108;refine(HL.out _ (bel_alloc (bel_refl w) _)).mono ?_;rintro e w1 ⟨⟨L,rfl,hLz⟩,hb1⟩;have HB:=Hd (bel_step (bel_alloc (bel_refl w) _) hb1);obtain⟨k0,k1,_,_⟩:=((Blk.new w 143 #[.bool false,.slice p n c]).later hb1).two;clear hb1)
  go_ret
  exact⟨rfl,HB.out⟩
 ·have hn:n=0:=by simpa using hq
  rw[if_pos hn];rw[hq]at HL;clear hn hq
  go_enter Tryz.func79,Tryz.ntmps79
  go_wp2_with (go_at_call 108;refine(HL.out _ (bel_alloc (bel_refl w) _)).mono ?_;rintro e w1 ⟨⟨L,rfl,hLz⟩,hb1⟩;have HB:=Hd (bel_step (bel_alloc (bel_refl w) _) hb1);obtain⟨k0,k1,_,_⟩:=((Blk.new w 143 #[.bool false,.slice p n c]).later hb1).two;clear hb1)
  go_ret
  exact⟨rfl,HB.out⟩
set_option maxRecDepth 100000 in
theorem cmp_any(p q:Option Addr)(n m c d N:Nat)(w:World)(ha:MagN w p n c N)(hb:MagN w q m d N) :
  Calls Tryz.prog 95 #[nv p n c,nv q m d] w fun e w'=>e=.returned (.int .i64 0)∧Below w.heap.size w w':=by
 obtain⟨rfl,f,f1,f2,f3⟩:=same w p q n c m d N ha hb
 have s1:∀p' c',(p'=p∧c'=c)∨(p'=q∧c'=d)→∀u,Below w.heap.size w u→Calls Tryz.prog 79 #[nv p' n c'] u fun e w'=>e=.returned (.int .i64 (if n=0 then 0 else 1))∧Below u.heap.size u w':=by
  rintro p' c' (⟨rfl,rfl⟩|⟨rfl,rfl⟩) u hu
  ·exact sign_any _ n _ f u (f1.later hu) f3
  ·exact sign_any _ n _ f u (f2.later hu) f3
 have s3:=fun u (hu:Below w.heap.size w u)=>cmp_mag p q n c d f u (f1.later hu) (f2.later hu) f3
 obtain⟨s,hs⟩:∃s:Int,(if n=0 then 0 else 1)=s:=⟨_,rfl⟩;rw[hs]at s1;have S1:=Hd s1;have S3:=Hd s3;clear ha hb f1 f2 f3 s1 s3 hs
 go_enter Tryz.func95,Tryz.ntmps95
 go_wp2_with fail
 have b0:=(Blk.new w 143 #[.bool false,.slice p n c]).alloc (.cells #[.bool false,.slice q n d] 143);have b1:=(Blk.new' (n:=w.heap.size+1) (w.alloc (.cells #[.bool false,.slice p n c] 143)) 143 #[.bool false,.slice q n d] (by simp));have hb:=bel_alloc (bel_alloc (bel_refl w) (.cells #[.bool false,.slice p n c] 143)) (.cells #[.bool false,.slice q n d] 143);generalize (w.alloc (.cells #[.bool false,.slice p n c] 143)).alloc (.cells #[.bool false,.slice q n d] 143)=W at *;have HW:=Hd hb;have B0:=Hd b0;have B1:=Hd b1;have hlb:Below w.heap.size W W.drew:=(Below.refl _ W).drew;clear b0 b1 hb hlb
 go_cut [5,6] (fun v5 v6 wx=>v5=.int .i64 s∧v6=.int .i64 s∧Hid (Below W.heap.size W wx))
 case first=>
  have l0:∀u,Below W.heap.size W u→u.cell? ⟨w.heap.size,0,none⟩=some (.bool false):=fun u hu=>(B0.out.later hu).two.1
  have l1:∀u,Below W.heap.size W u→u.cell? ⟨w.heap.size,1,none⟩=some (.slice p n c):=fun u hu=>(B0.out.later hu).two.2.1
  have l2:∀u,Below W.heap.size W u→u.cell? ⟨w.heap.size+1,0,none⟩=some (.bool false):=fun u hu=>(B1.out.later hu).two.1
  have l3:∀u,Below W.heap.size W u→u.cell? ⟨w.heap.size+1,1,none⟩=some (.slice q n d):=fun u hu=>(B1.out.later hu).two.2.1
  go_region_held3 (fun w'=>Below W.heap.size W w') (first| exact bel_drew (bel_refl _)|assumption|exact bel_step (by assumption) (by assumption)) ((go_at_call 79;refine(S1.out _ _ (by first| exact .inl ⟨rfl,rfl⟩|exact .inr ⟨rfl,rfl⟩) _ (HW.out.trans ((show Below W.heap.size W _ by assumption).mono HW.out.size))).mono ?_;rintro e w2 ⟨rfl,hb2⟩))
  all_goals go_wp2
  all_goals go_meet
  all_goals exact⟨rfl,rfl,Hd (by assumption)⟩
 case rest=>
  obtain⟨rfl,rfl,HX⟩:=hcut;have ss:¬s<s:=Int.lt_irrefl s;have ss2:¬s>s:=Int.lt_irrefl s;have sz:IntKind.i64.wrap (s*0)=0:=by rw[Int.mul_zero];decide
  have K0:=(B0.out.later HX.out).two.2.1;have K1:=(B1.out.later HX.out).two.2.1
  go_wp2_with (go_at_call 102;refine(S3.out _ (HW.out.trans (HX.out.mono HW.out.size))).mono ?_;rintro e w3 ⟨rfl,hb3⟩;have HB3:=Hd hb3;clear hb3)
  go_ret
  exact⟨rfl,bel_step (HW.out.trans (HX.out.mono HW.out.size)) HB3.out⟩
end Nc
end Go.Proofs.YtdihefgleefhmaaGreat
namespace Go.Proofs.YtdihefgleefhmaaGreat
open Go.RowKit
def cmpI(a b:Nat):Int:=if a<b then -1 else if b<a then 1 else 0
namespace Np
open Mg Nu Nc
theorem sum_split(f h:Nat→Nat)(k:Nat)(hf:∀i,i<k→f i<18446744073709551616)(hlt:f k<h k) :
  ∀n,k<n→(∀i,k<i→i<n→f i=h i)→sumTo f n<sumTo h n
 | 0,h0,_=>by omega
 | n+1,h0,he=>by
  show sumTo f n+f n*18446744073709551616 ^ n<sumTo h n+h n*18446744073709551616 ^ n
  by_cases hk:k=n
  ·subst hk
   have h1:=sum_lt f k hf;have h3:(f k+1)*18446744073709551616 ^ k≤h k*18446744073709551616 ^ k:=Nat.mul_le_mul_right _ hlt;rw[Nat.add_mul,Nat.one_mul]at h3;omega
  ·have:=sum_split f h k hf hlt n (by omega) (fun i a b=>he i a (by omega))
   rw[he n (by omega) (by omega)];omega
theorem cmp_lt{a b:Nat}(h:a<b):cmpI a b=-1:=by unfold cmpI;rw[if_pos h]
theorem cmp_gt{a b:Nat}(h:b<a):cmpI a b=1:=by unfold cmpI;rw[if_neg (by omega),if_pos h]
theorem cmp_eq{a:Nat} : cmpI a a=0:=by unfold cmpI;rw[if_neg (by omega),if_neg (by omega)]
theorem len_lt(f h:Nat→Nat)(n m:Nat)(hf:∀i,i<n→f i<18446744073709551616)(hm:∀j,m=j+1→h j≠0)(hn:n<m):sumTo f n<sumTo h m:=by
 cases m with
 | zero=>omega
 | succ j=>
  have h1:=sum_lt f n hf;have h2:=sum_big h (j+1) j rfl (hm j rfl);have h3:18446744073709551616 ^ n≤18446744073709551616 ^ j:=Nat.pow_le_pow_right (by omega) (by omega);omega
set_option maxRecDepth 100000 in
theorem cmp_gen(p q:Option Addr)(n c m d N N':Nat)(w:World)(ha:MagN w p n c N)(hb:MagN w q m d N') :
  Calls Tryz.prog 102 #[.slice p n c,.slice q m d] w fun e w'=>e=.returned (.int .i64 (cmpI N N'))∧Below w.heap.size w w':=by
 obtain⟨f,ha,fN,f0⟩:=ha;obtain⟨h,hb,hN,h0⟩:=hb;have r1:=fun u (hu:Below w.heap.size w u)=>right_any p n c f u (ha.later hu)
 have r2:=fun u (hu:Below w.heap.size w u)=>right_any q m d h u (hb.later hu)
 rw[trim_same f n f0]at r1;rw[trim_same h m h0]at r2;have hlt:n<m→cmpI N N'=-1:=fun hl=>cmp_lt (by rw[←fN,←hN];exact len_lt f h n m ha.words h0 hl)
 have hgt:m<n→cmpI N N'=1:=fun hl=>cmp_gt (by rw[←fN,←hN];exact len_lt h f m n hb.words f0 hl)
 have hlo:n=m→∀k,k<n→(∀i,k<i→i<n→f i=h i)→f k<h k→cmpI N N'=-1:=fun e k hk he hl=>
  cmp_lt (by rw[←fN,←hN,←e];exact sum_split f h k (fun i hi=>ha.words i (by omega)) hl n hk he)
 have hhi:n=m→∀k,k<n→(∀i,k<i→i<n→f i=h i)→h k<f k→cmpI N N'=1:=fun e k hk he hl=>
  cmp_gt (by rw[←fN,←hN,←e];exact sum_split h f k (fun i hi=>hb.words i (by omega)) hl n hk (fun i a b=>(he i a b).symm))
 have heq:n=m→(∀i,i<n→f i=h i)→cmpI N N'=0:=fun e he=>by
  have:N=N':=by rw[←fN,←hN,←e];exact sum_congr f h n he
  rw[this];exact cmp_eq
 generalize cmpI N N'=R at *;have HLT:=Hd hlt;have HGT:=Hd hgt;have HLO:=Hd hlo;have HHI:=Hd hhi;have HEQ:=Hd heq;have R1:=Hd r1;have R2:=Hd r2;have HA:=Hd ha;have HB:=Hd hb;have hn:=ha.big;have hm:=hb.big;clear r1 r2 ha hb f0 h0 fN hN hlt hgt hlo hhi heq
 go_enter Tryz.func102,Tryz.ntmps102
 go_wp2_with fail
 refine(R1.out _ (bel_refl _)).mono ?_;rintro e w1 ⟨rfl,hb1⟩;have HB1:=Hd hb1;clear hb1
 go_wp2_with fail
 refine(R2.out _ HB1.out).mono ?_;rintro e w2 ⟨rfl,hb2⟩;have HB2:=Hd (bel_step HB1.out hb2);clear hb2;have wn:IntKind.i64.wrap ((n:Int)-1)=(n:Int)-1:=IntWalk.i64_in _ (by omega);rcases Nat.lt_trichotomy n m with hnm|hnm|hnm
 ·obtain rfl:=HLT.out hnm
  have g1:((n:Int) != (m:Int))=true:=by simp;omega
  have g2:(n:Int)<(m:Int):=by omega
  clear hnm;go_wp2
  go_ret
  exact⟨rfl,HB2.out⟩
 ·subst hnm
  have g1:((n:Int) != (n:Int))=false:=by simp
  go_wp2
  go_loopw [5] (fun v wr=>∃k:Nat,v=.int .i64 ((k:Int)-1)∧k≤n∧Hid (∀i,k≤i→i<n→f i=h i)∧Hid (Below w.heap.size w wr)) (fun v _=>(intOf v+1).toNat)
  case atStart=>exact⟨n,rfl,Nat.le_refl _,Hd (fun i a b=>by omega),HB2⟩
  case round=>
   obtain⟨k,rfl,hk,HE,HK⟩:=hrel;cases k with
   | zero=>
    obtain rfl:=HEQ.out trivial (fun i hi=>HE.out i (by omega) hi);go_wp2
    go_ret
    exact⟨rfl,HK.out⟩
   | succ k=>
    have e1:(((k+1:Nat):Int)-1)=(k:Int):=by omega
    rw[e1];obtain⟨g,rfl,hg⟩:=HA.out.at_ (by omega);obtain⟨g',rfl,hg'⟩:=HB.out.at_ (by omega);have y1:=cell_later (hg k (by omega)) HK.out;have y2:=cell_later (hg' k (by omega)) HK.out;have x1:∀u:Gq.Later wr,u.w.cell? ⟨g,k,none⟩=some (.int .u64 (f k:Nat)):=fun u=>cell_later y1 u.bel
    have x2:∀u:Gq.Later wr,u.w.cell? ⟨g',k,none⟩=some (.int .u64 (h k:Nat)):=fun u=>cell_later y2 u.bel
    have i1:(k:Int)<(n:Int):=by omega
    have i0:(0:Int)≤(k:Int):=by omega
    have wk:IntKind.i64.wrap ((k:Int)-1)=(k:Int)-1:=IntWalk.i64_in _ (by omega);clear hg hg';have hlo:=HLO.out trivial k (by omega) (fun i a b=>HE.out i (by omega) b);have hhi:=HHI.out trivial k (by omega) (fun i a b=>HE.out i (by omega) b)
    have hnx:f k=h k→∀i,k≤i→i<n→f i=h i:=fun e i a b=>by
     by_cases hik:i=k
     ·rw[hik];exact e
     ·exact HE.out i (by omega) b
    have hLO:=Hd hlo;have hHI:=Hd hhi;have hNX:=Hd hnx;clear hlo hhi hnx;generalize f k=a at *;generalize h k=b at *;have YY:=Hd (And.intro y1 y2);clear y1 y2;go_wp2;refine Go.Gq.region (by kernel_rfl) (by kernel_rfl) ?_
    repeat (go_big_quiet_step (fail))
    refine wpQuiet_nil ?_;intro wx hw';have HX:=Hd (bel_step HK.out (Go.Gq.later_bel hw'));clear x1 x2;obtain⟨y1,y2⟩:=YY.out;rcases Nat.lt_trichotomy a b with hab|hab|hab
    ·obtain rfl:=hLO.out hab
     have ea:((a:Int) != (b:Int))=true:=by simp;omega
     have eb:(a:Int)<(b:Int):=by omega
     have z1:=cell_later y1 (Go.Gq.later_bel hw');have z2:=cell_later y2 (Go.Gq.later_bel hw');have x1:∀u:Gq.Later wx,u.w.cell? ⟨g,k,none⟩=some (.int .u64 (a:Nat)):=fun u=>cell_later z1 u.bel
     have x2:∀u:Gq.Later wx,u.w.cell? ⟨g',k,none⟩=some (.int .u64 (b:Nat)):=fun u=>cell_later z2 u.bel
     clear hw' y1 y2 z1 z2;go_wp2;refine Go.Gq.region (by kernel_rfl) (by kernel_rfl) ?_
     repeat (go_big_quiet_step (fail))
     refine wpQuiet_nil ?_;intro wy hw';have HY:=Hd (bel_step HX.out (Go.Gq.later_bel hw'));clear hw' x1 x2;go_wp2
     go_ret
     exact⟨rfl,HY.out⟩
    ·have ea:((a:Int) != (b:Int))=false:=by simp;omega
     clear hw' y1 y2;go_wp2;go_roundw
     case rel=>exact⟨k,rfl,by omega,Hd (hNX.out hab),HX⟩
     case measure=>simp[intOf]
    ·obtain rfl:=hHI.out hab
     have ea:((a:Int) != (b:Int))=true:=by simp;omega
     have eb:¬(a:Int)<(b:Int):=by omega
     have z1:=cell_later y1 (Go.Gq.later_bel hw');have z2:=cell_later y2 (Go.Gq.later_bel hw');have x1:∀u:Gq.Later wx,u.w.cell? ⟨g,k,none⟩=some (.int .u64 (a:Nat)):=fun u=>cell_later z1 u.bel
     have x2:∀u:Gq.Later wx,u.w.cell? ⟨g',k,none⟩=some (.int .u64 (b:Nat)):=fun u=>cell_later z2 u.bel
     clear hw' y1 y2 z1 z2;go_wp2;refine Go.Gq.region (by kernel_rfl) (by kernel_rfl) ?_
     repeat (go_big_quiet_step (fail))
     refine wpQuiet_nil ?_;intro wy hw';have HY:=Hd (bel_step HX.out (Go.Gq.later_bel hw'));clear hw' x1 x2;go_wp2
     go_ret
     exact⟨rfl,HY.out⟩
 ·obtain rfl:=HGT.out hnm
  have g1:((n:Int) != (m:Int))=true:=by simp;omega
  have g2:¬(n:Int)<(m:Int):=by omega
  clear hnm;go_wp2
  go_ret
  exact⟨rfl,HB2.out⟩
end Np
end Go.Proofs.YtdihefgleefhmaaGreat
namespace Go.Proofs.YtdihefgleefhmaaGreat
open Go.RowKit
namespace Np
open Mg Nu Nc
def rowF(O:Nat→Nat)(n:Nat):List Value:=(List.range n).map fun i=>Value.int .u64 ((O i:Nat):Int)
def upd(O:Nat→Nat)(k x:Nat)(i:Nat):Nat:=if i=k then x else O i
theorem row_set(O:Nat→Nat)(n k x:Nat):(rowF O n).set k (.int .u64 (x:Nat))=rowF (upd O k x) n:=by
 apply List.ext_getElem? ;intro i;unfold rowF upd;simp only[List.getElem?_set,List.getElem?_map,List.length_map,List.length_range];by_cases hi:k=i
 ·subst hi
  by_cases hl:k<n
  ·simp[hl]
  ·simp[hl]
 ·by_cases hl:i<n
  ·have:¬i=k:=fun e=>hi e.symm
   simp[hl,hi,this]
  ·simp[hl,hi]
theorem row_at(O:Nat→Nat)(n k:Nat)(hk:k<n):(rowF O n)[k]? =some (.int .u64 (O k:Nat)):=by
 unfold rowF;rw[List.getElem?_map,List.getElem?_range hk];rfl
theorem row_made(n:Nat):(madeCells (Value.int .u64 0).cells (n*1)).toList=rowF (fun _=>0) n:=by
 unfold madeCells rowF;simp[Value.cells,Array.toList_range];intro a _;rw[Nat.mod_one];rfl
theorem row_congr(O P:Nat→Nat)(n:Nat)(h:∀i,i<n→O i=P i):rowF O n=rowF P n:=by
 unfold rowF;apply List.map_congr_left;intro i hi;rw[h i (List.mem_range.1 hi)]
structure RowAt(w W:World)(O:Nat→Nat)(n:Nat):Prop where
 own:W.ownsRow w.heap.size 96 1 (.slice (some ⟨w.heap.size,0,none⟩) n n) n (rowF O n)
 bel:Below w.heap.size w W
theorem RowAt.set{w W:World}{O:Nat→Nat}{n:Nat}(h:RowAt w W O n)(k x:Nat):RowAt w (W.setCell ⟨w.heap.size,k,none⟩ (.int .u64 (x:Nat))) (upd O k x) n:=by
 have hst:=(h.own.stored k (.int .u64 (x:Nat))).1;rw[row_set]at hst;exact⟨hst,bel_set h.bel (Nat.le_refl _) k _⟩
theorem RowAt.cell{w W:World}{O:Nat→Nat}{n:Nat}(h:RowAt w W O n)(k:Nat)(hk:k<n):W.cell? ⟨w.heap.size,k,none⟩=some (.int .u64 (O k:Nat)):=by
 rw[h.own.cellAt k (by omega),row_at O n k hk]
theorem RowAt.frozen{w W:World}{O:Nat→Nat}{n:Nat}(h:RowAt w W O n)(k:Nat):W.frozen? ⟨w.heap.size,k,none⟩=false:=h.own.frozenAt k
theorem RowAt.mag{w W:World}{O:Nat→Nat}{n:Nat}(h:RowAt w W O n)(hO:∀i,i<n→O i<18446744073709551616)(hn:n≤1000000):MagP W (some ⟨w.heap.size,0,none⟩) n n O:=
 ⟨hO,Nat.le_refl _,hn,fun _=>⟨_,rfl,fun i hi=>h.cell i hi⟩⟩
theorem RowAt.made{w w1:World}{n:Nat}(h:w1.ownsRow w.heap.size 96 1 (.slice (some ⟨w.heap.size,0,none⟩) n n) n (madeCells (Value.int .u64 0).cells (n*1)).toList)(hg:w.grownBy w1 none):RowAt w w1 (fun _=>0) n:=by
 rw[row_made]at h;exact⟨h,hg.os,hg.tape,hg.output,hg.size,fun k hk=>hg.block k hk (by simp)⟩
theorem RowAt.congr{w W:World}{O P:Nat→Nat}{n:Nat}(h:RowAt w W O n)(e:∀i,i<n→O i=P i):RowAt w W P n:=
 ⟨row_congr O P n e▸h.own,h.bel⟩
def borF(f h:Nat→Nat):Nat→Nat
 | 0=>0
 | k+1=>if f k<h k+borF f h k then 1 else 0
def difF(f h:Nat→Nat)(k:Nat):Nat:=(f k+18446744073709551616-h k-borF f h k)%18446744073709551616
theorem bor_le(f h:Nat→Nat):∀k,borF f h k≤1
 | 0=>by simp[borF]
 | k+1=>by unfold borF;split<;>omega
theorem sum_dif(f h:Nat→Nat):∀k,(∀i,i<k→f i<18446744073709551616)→(∀i,i<k→h i<18446744073709551616)→sumTo (difF f h) k+sumTo h k=sumTo f k+borF f h k*18446744073709551616 ^ k
 | 0,_,_=>by simp[sumTo,borF]
 | k+1,hf,hh=>by
  have ih:=sum_dif f h k (fun i hi=>hf i (by omega)) (fun i hi=>hh i (by omega));have b1:=bor_le f h k;have f1:=hf k (by omega);have h1:=hh k (by omega);show sumTo (difF f h) k+difF f h k*18446744073709551616 ^ k+(sumTo h k+h k*18446744073709551616 ^ k)=sumTo f k+f k*18446744073709551616 ^ k+borF f h (k+1)*18446744073709551616 ^ (k+1)
  have e:difF f h k+h k+borF f h k=f k+borF f h (k+1)*18446744073709551616:=by
   unfold difF;show _=f k+(if f k<h k+borF f h k then 1 else 0)*18446744073709551616
   split<;>omega
  have e2:difF f h k*18446744073709551616 ^ k+h k*18446744073709551616 ^ k+borF f h k*18446744073709551616 ^ k=f k*18446744073709551616 ^ k+borF f h (k+1)*18446744073709551616 ^ (k+1):=by
   rw[Nat.pow_succ,←Nat.add_mul,←Nat.add_mul,e,Nat.add_mul,Nat.mul_assoc,Nat.mul_comm 18446744073709551616]
  omega
theorem sub_law(f h:Nat→Nat)(n m:Nat)(hf:∀i,i<n→f i<18446744073709551616)(hh:∀i,i<m→h i<18446744073709551616)(hm:m≤n)(hlt:sumTo h m<sumTo f n):sumTo (difF f (maskF m h)) n=sumTo f n-sumTo h m:=by
 have h1:=sum_dif f (maskF m h) n hf (fun i _=>by unfold maskF;split<;>first| (rename_i hi;exact hh i hi)|omega);rw[sum_mask h m n hm]at h1;have h2:=bor_le f (maskF m h) n;have h3:=sum_lt (difF f (maskF m h)) n (fun i _=>by unfold difF;omega);rcases(show borF f (maskF m h) n=0∨borF f (maskF m h) n=1 by omega)with e|e
 ·rw[e]at h1;omega
 ·rw[e]at h1;omega
theorem dif_step(f h:Nat→Nat)(k:Nat)(i:Nat):upd (fun i=>if i<k then difF f h i else 0) k (difF f h k) i=if i<k+1 then difF f h i else 0:=by
 unfold upd;by_cases hi:i=k
 ·subst hi;simp
 ·by_cases hl:i<k
  ·have:i<k+1:=by omega
   simp[hi,hl,this]
  ·have:¬i<k+1:=by omega
   simp[hi,hl,this]
set_option maxRecDepth 100000 in
set_option maxHeartbeats 2000000 in
theorem sub_mag(p q:Option Addr)(n c m d N N':Nat)(w:World)(ha:MagN w p n c N)(hb:MagN w q m d N')(hn9:n≤999999) :
  Calls Tryz.prog 103 #[.slice p n c,.slice q m d] w fun e w'=>(∃p' k c',e=.returned (.slice p' k c')∧MagN w' p' k c' (N-N')∧k≤n)∧Below w.heap.size w w':=by
 have hcm:=fun u (hu:Below w.heap.size w u)=>cmp_gen p q n c m d N N' u (ha.later hu) (hb.later hu)
 obtain⟨f,hf,fN,f0⟩:=ha;obtain⟨h,hh,hN,h0⟩:=hb;have r1:=fun u (hu:Below w.heap.size w u)=>right_any p n c f u (hf.later hu)
 have r2:=fun u (hu:Below w.heap.size w u)=>right_any q m d h u (hh.later hu)
 rw[trim_same f n f0]at r1;rw[trim_same h m h0]at r2;have R1:=Hd r1;have R2:=Hd r2;have HF:=Hd hf;have HH:=Hd hh;have hm:=hh.big;clear r1 r2;by_cases hlt:N'<N
 ·rw[cmp_gt hlt]at hcm
  have HCM:=Hd hcm
  have hmn:m≤n:=by
   by_cases hc:n<m
   ·have:=len_lt f h n m hf.words h0 hc;omega
   ·omega
  have hlaw:sumTo (difF f (maskF m h)) n=N-N':=by rw[sub_law f h n m hf.words hh.words hmn (by omega),fN,hN]
  have HLW:=Hd hlaw;clear hcm hf hh f0 h0 fN hN hlaw hlt;obtain⟨i0,hi',hz0,hz1,hz2⟩:=info_parts Tryz.info86'
  go_enter Tryz.func103,Tryz.ntmps103
  go_wp2_with fail
  refine(R1.out _ (bel_refl _)).mono ?_;rintro e w1 ⟨rfl,hb1⟩;have HB1:=Hd hb1;clear hb1
  go_wp2_with fail
  refine(R2.out _ HB1.out).mono ?_;rintro e w2 ⟨rfl,hb2⟩;have HB2:=Hd (bel_step HB1.out hb2);clear hb2
  go_wp2_with fail
  refine(HCM.out _ HB2.out).mono ?_;rintro e w3 ⟨rfl,hb3⟩;have HB3:=Hd (bel_step HB2.out hb3);clear hb3
  go_wp2_with (at_make;refine wpList_make_full _ rfl _ _ 141 rfl w3.heap.size 96 i0 (.int .u64 0) 1 Tryz.underlying141 hi' hz0 hz1 _ _ _ _ n rfl rfl rfl rfl (by rw[hz2];omega) (by unfold maxLen;omega) (Nat.le_refl _) ?_;intro w4 hown hgrow;have HA0:=Hd (RowAt.made hown hgrow);clear hown hgrow)
  have HA:=Hd ((HA0.out).congr (P:=fun i=>if i<0 then difF f (maskF m h) i else 0) (fun i _=>by simp));clear HA0
  go_loopw [6,23] (fun u v wr=>∃k:Nat,v=.int .i64 k∧u=.int .u64 (borF f (maskF m h) k:Nat)∧k≤n∧Hid (RowAt w3 wr (fun i=>if i<k then difF f (maskF m h) i else 0) n)) (fun u v _=>n-(intOf v).toNat)
  case atStart=>exact⟨0,rfl,rfl,Nat.zero_le _,HA⟩
  case round=>
   obtain⟨k,rfl,rfl,hk,HK⟩:=hrel;by_cases hkn:k<n
   ·obtain⟨g,rfl,hg⟩:=HF.out.at_ (by omega)
    have hx:=cell_later (hg k hkn) (bel_step HB3.out HK.out.bel);have hfk:=HF.out.words k hkn;have hc1:=bor_le f (maskF m h) k;clear hg;have HST:=Hd ((HK.out.set k (difF f (maskF m h) k)).congr fun i _=>dif_step f (maskF m h) k i);have hfz:=HK.out.frozen k;have hex:=HK.out.cell k hkn;have l1:(k:Int)<(n:Int):=by omega
    have l0:(0:Int)≤(k:Int):=by omega
    have wk:IntKind.i64.wrap ((k:Int)+1)=((k+1:Nat):Int):=by rw[IntWalk.i64_in _ (by omega)];omega
    by_cases hkm:k<m
    ·obtain⟨g',rfl,hg'⟩:=HH.out.at_ (by omega)
     have hy:=cell_later (hg' k hkm) (bel_step HB3.out HK.out.bel);have hhk:=HH.out.words k hkm;have e0:maskF m h k=h k:=by simp[maskF,hkm]
     have e1:((difF f (maskF m h) k:Nat):Int)=((f k:Int)-(h k:Int)-(borF f (maskF m h) k:Nat))%18446744073709551616:=by unfold difF;rw[e0];omega
     have e2:((borF f (maskF m h) (k+1):Nat):Int)=if (f k:Int)<(h k:Int)+(borF f (maskF m h) k:Nat) then 1 else 0:=by
      show((if f k<maskF m h k+borF f (maskF m h) k then 1 else 0:Nat):Int)=_
      rw[e0];split<;>split<;>omega
     have hadd:=fun w=>Wd.sub64' (f k) (h k) (borF f (maskF m h) k:Nat) _ _ (by omega) (by omega) (by omega) (by omega) (by omega) (by omega) e1 e2 w
     have l3:(k:Int)<(m:Int):=by omega
     clear hg' e0 e1 e2 hc1 hfk hhk;generalize difF f (maskF m h) k=S at *;generalize hC:borF f (maskF m h) k=C at *;generalize hC':borF f (maskF m h) (k+1)=C' at *;have HC':=Hd hC';clear hC hC';generalize f k=a at *;generalize h k=b at *;go_wp2;go_roundw
     case rel=>exact⟨k+1,by go_num,by rw[HC'.out],by omega,HST⟩
     case measure=>simp[intOf];omega
    ·have e0:maskF m h k=0:=by simp[maskF,hkm]
     have e1:((difF f (maskF m h) k:Nat):Int)=((f k:Int)-0-(borF f (maskF m h) k:Nat))%18446744073709551616:=by unfold difF;rw[e0];omega
     have e2:((borF f (maskF m h) (k+1):Nat):Int)=if (f k:Int)<0+(borF f (maskF m h) k:Nat) then 1 else 0:=by
      show((if f k<maskF m h k+borF f (maskF m h) k then 1 else 0:Nat):Int)=_
      rw[e0];split<;>split<;>omega
     have hadd:=fun w=>Wd.sub64' (f k) 0 (borF f (maskF m h) k:Nat) _ _ (by omega) (by omega) (by omega) (by omega) (by omega) (by omega) e1 e2 w
     have l3:¬(k:Int)<(m:Int):=by omega
     clear e0 e1 e2 hc1 hfk;generalize difF f (maskF m h) k=S at *;generalize hC:borF f (maskF m h) k=C at *;generalize hC':borF f (maskF m h) (k+1)=C' at *;have HC':=Hd hC';clear hC hC';generalize f k=a at *;go_wp2;go_roundw
     case rel=>exact⟨k+1,by go_num,by rw[HC'.out],by omega,HST⟩
     case measure=>simp[intOf];omega
   ·obtain rfl:k=n:=by omega
    have hM:=(HK.out.congr (P:=difF f (maskF m h)) (fun i hi=>by simp[hi])).mag (fun i _=>by unfold difF;omega) (by omega);have HM:=Hd hM;have HKB:=Hd HK.out.bel;clear hM
    go_wp2_with (go_at_call 135;refine(right_any _ _ _ _ _ HM.out).mono ?_;rintro e w5 ⟨rfl,hb5⟩;have HB5:=Hd hb5;have HM2:=Hd (HM.out.trim.later hb5);clear hb5)
    go_ret
    refine⟨⟨_,_,_,rfl,⟨_,HM2.out,?_,fun j hj=>trim_last _ _ _ hj⟩,trim_le _ _⟩,bel_step (bel_step HB3.out HKB.out) HB5.out⟩;rw[sum_trim,HLW.out]
 ·have hc0:cmpI N N'≤0:=by unfold cmpI;split<;>(try split)<;>omega
  have hnn:N-N'=0:=by omega
  rw[hnn];generalize cmpI N N'=R at *;have HCM:=Hd hcm;clear hcm hf hh f0 h0 fN hN hlt hnn
  go_enter Tryz.func103,Tryz.ntmps103
  go_wp2_with fail
  refine(R1.out _ (bel_refl _)).mono ?_;rintro e w1 ⟨rfl,hb1⟩;have HB1:=Hd hb1;clear hb1
  go_wp2_with fail
  refine(R2.out _ HB1.out).mono ?_;rintro e w2 ⟨rfl,hb2⟩;have HB2:=Hd (bel_step HB1.out hb2);clear hb2
  go_wp2_with fail
  refine(HCM.out _ HB2.out).mono ?_;rintro e w3 ⟨rfl,hb3⟩;have HB3:=Hd (bel_step HB2.out hb3);clear hb3;go_wp2
  go_ret
  exact⟨⟨_,_,_,rfl,⟨fun _=>0,⟨fun _ h=>by omega,Nat.le_refl _,by omega,fun h=>by omega⟩,rfl,fun j h=>by omega⟩,by omega⟩,HB3.out⟩
end Np
end Go.Proofs.YtdihefgleefhmaaGreat
namespace Go.Proofs.YtdihefgleefhmaaGreat
open Go.RowKit
namespace Np
open Mg Nu Nc
theorem sum_upd(O:Nat→Nat)(k x:Nat):∀n,k<n→sumTo (upd O k x) n+O k*18446744073709551616 ^ k=sumTo O n+x*18446744073709551616 ^ k
 | 0,h=>by omega
 | n+1,h=>by
  show sumTo (upd O k x) n+upd O k x n*_+_=sumTo O n+O n*_+_
  by_cases hk:k=n
  ·subst hk
   rw[sum_congr (upd O k x) O k (fun i hi=>by unfold upd;rw[if_neg (by omega)])];unfold upd;rw[if_pos rfl];omega
  ·have:=sum_upd O k x n (by omega)
   have e:upd O k x n=O n:=by unfold upd;rw[if_neg (by omega)]
   rw[e];omega
theorem mul_arith(x y c o:Nat)(hx:x<18446744073709551616)(hy:y<18446744073709551616)(hc:c<18446744073709551616)(ho:o<18446744073709551616) :
  ∃P hi lo lo1 c1 hi1 o' c2 k':Nat,x*y=P∧P / 18446744073709551616=hi∧P%18446744073709551616=lo∧lo<18446744073709551616∧lo1<18446744073709551616∧c1≤1∧c2≤1∧hi1<18446744073709551616∧k'<18446744073709551616∧o'<18446744073709551616∧hi+c1=hi1∧hi1+c2=k'∧
   ((lo1:Nat):Int)=((lo:Int)+c+0)%18446744073709551616∧((c1:Nat):Int)=((lo:Int)+c+0) / 18446744073709551616∧
   ((o':Nat):Int)=((o:Int)+lo1+0)%18446744073709551616∧((c2:Nat):Int)=((o:Int)+lo1+0) / 18446744073709551616∧P+c+o=k'*18446744073709551616+o':=by
 obtain⟨P,hP⟩:∃P,x*y=P:=⟨_,rfl⟩;have hb:P≤18446744073709551615*18446744073709551615:=hP▸Nat.mul_le_mul (by omega) (by omega)
 refine⟨P,P / 18446744073709551616,P%18446744073709551616,(P%18446744073709551616+c)%18446744073709551616,(P%18446744073709551616+c) / 18446744073709551616,P / 18446744073709551616+(P%18446744073709551616+c) / 18446744073709551616,
  (o+(P%18446744073709551616+c)%18446744073709551616)%18446744073709551616,(o+(P%18446744073709551616+c)%18446744073709551616) / 18446744073709551616,P / 18446744073709551616+(P%18446744073709551616+c) / 18446744073709551616+(o+(P%18446744073709551616+c)%18446744073709551616) / 18446744073709551616,hP,rfl,rfl,?_⟩
 clear hP hx hy;generalize hhi:P / 18446744073709551616=hi;generalize hlo:P%18446744073709551616=lo;have e1:P=hi*18446744073709551616+lo:=by omega
 have l1:lo<18446744073709551616:=by omega
 clear hhi hlo;generalize hlo1:(lo+c)%18446744073709551616=lo1;generalize hc1:(lo+c) / 18446744073709551616=c1;have e2:lo+c=c1*18446744073709551616+lo1:=by omega
 have l2:lo1<18446744073709551616:=by omega
 generalize ho1:(o+lo1)%18446744073709551616=o';generalize hc2:(o+lo1) / 18446744073709551616=c2;have e3:o+lo1=c2*18446744073709551616+o':=by omega
 have l3:o'<18446744073709551616:=by omega
 refine⟨l1,l2,by omega,by omega,by omega,by omega,l3,rfl,rfl,by omega,by omega,by omega,by omega,by omega⟩
structure MulAt(f h:Nat→Nat)(n m i j:Nat)(O:Nat→Nat)(c:Nat):Prop where
 words:∀t,t<n+m→O t<18446744073709551616
 zero:∀t,i+m≤t→O t=0
 cw:c<18446744073709551616
 sum:sumTo O (n+m)+c*18446744073709551616 ^ (i+j)=sumTo f i*sumTo h m+f i*sumTo h j*18446744073709551616 ^ i
theorem MulAt.step{f h:Nat→Nat}{n m i j:Nat}{O:Nat→Nat}{c o' k':Nat}(H:MulAt f h n m i j O c)(hi:i<n)(hj:j<m)(ho:o'<18446744073709551616)(hk:k'<18446744073709551616)(he:f i*h j+c+O (i+j)=k'*18446744073709551616+o') :
  MulAt f h n m i (j+1) (upd O (i+j) o') k':=by
 refine⟨fun t ht=>?_,fun t ht=>?_,hk,?_⟩
 ·unfold upd;split
  ·exact ho
  ·exact H.words t ht
 ·unfold upd;rw[if_neg (by omega)];exact H.zero t ht
 ·have h1:=sum_upd O (i+j) o' (n+m) (by omega)
  have h2:=H.sum
  have e1:k'*18446744073709551616 ^ (i+(j+1))+o'*18446744073709551616 ^ (i+j)=f i*h j*18446744073709551616 ^ (i+j)+c*18446744073709551616 ^ (i+j)+O (i+j)*18446744073709551616 ^ (i+j):=by
   rw[←Nat.add_mul,←Nat.add_mul,he,Nat.add_mul,←Nat.add_assoc,Nat.pow_succ,Nat.mul_assoc,Nat.mul_comm 18446744073709551616]
  have e2:f i*sumTo h (j+1)*18446744073709551616 ^ i=f i*sumTo h j*18446744073709551616 ^ i+f i*h j*18446744073709551616 ^ (i+j):=by
   show f i*(sumTo h j+h j*18446744073709551616 ^ j)*_=_
   rw[Nat.mul_add,Nat.add_mul,Nat.pow_add,←Nat.mul_assoc (f i) (h j),Nat.mul_assoc (f i*h j),Nat.mul_comm (18446744073709551616 ^ j)]
  rw[e2];omega
theorem MulAt.next{f h:Nat→Nat}{n m i:Nat}{O:Nat→Nat}{c:Nat}(H:MulAt f h n m i m O c)(hi:i<n):MulAt f h n m (i+1) 0 (upd O (i+m) c) 0:=by
 refine⟨fun t ht=>?_,fun t ht=>?_,by omega,?_⟩
 ·unfold upd;split
  ·exact H.cw
  ·exact H.words t ht
 ·unfold upd;rw[if_neg (by omega)];exact H.zero t (by omega)
 ·have h1:=sum_upd O (i+m) c (n+m) (by omega)
  rw[H.zero (i+m) (by omega),Nat.zero_mul]at h1;have h2:=H.sum
  have e:sumTo f (i+1)*sumTo h m=sumTo f i*sumTo h m+f i*sumTo h m*18446744073709551616 ^ i:=by
   show(sumTo f i+f i*_)*_=_
   rw[Nat.add_mul,Nat.mul_assoc,Nat.mul_assoc,Nat.mul_comm (18446744073709551616 ^ i)]
  rw[e];have:f (i+1)*sumTo h 0*18446744073709551616 ^ (i+1)=0:=by simp[sumTo]
  rw[this];omega
theorem MulAt.start(f h:Nat→Nat)(n m:Nat):MulAt f h n m 0 0 (fun _=>0) 0:=by
 refine⟨fun _ _=>by omega,fun _ _=>rfl,by omega,?_⟩
 have:∀k,sumTo (fun _=>0) k=0:=fun k=>by
  induction k with
  | zero=>rfl
  | succ k ih=>simp[sumTo,ih]
 rw[this];simp[sumTo]
theorem MulAt.done{f h:Nat→Nat}{n m:Nat}{O:Nat→Nat}(H:MulAt f h n m n 0 O 0):sumTo O (n+m)=sumTo f n*sumTo h m:=by
 have:=H.sum
 simpa [sumTo] using this
set_option maxRecDepth 100000 in
set_option maxHeartbeats 4000000 in
theorem mul_mag(p q:Option Addr)(n c m d N N' L L':Nat)(w:World)(ha:MagV w p n c N L)(hb:MagV w q m d N' L')(hL:L≤100000)(hL':L'≤100000) :
  Calls Tryz.prog 109 #[.slice p n c,.slice q m d] w fun e w'=>(∃p' k c',e=.returned (.slice p' k c')∧MagN w' p' k c' (N*N')∧k≤L+L')∧Below w.heap.size w w':=by
 obtain⟨f,hf,fN,fL⟩:=ha;obtain⟨h,hh,hN,hLm⟩:=hb;have HF:=Hd hf;have HH:=Hd hh;have hlaw:∀O,MulAt f h n m n 0 O 0→sumTo O (n+m)=N*N':=fun O H=>by rw[H.done,fN,hN]
 have HLW:=Hd hlaw;have hn9:n≤100000:=by omega
 have hm9:m≤100000:=by omega
 have HLL:=Hd (show n+m≤L+L' by omega);clear hf hh fN hN hlaw fL hLm hL hL';obtain⟨i0,hi',hz0,hz1,hz2⟩:=info_parts Tryz.info86';have wn:IntKind.i64.wrap ((n:Int)+(m:Int))=((n+m:Nat):Int):=by rw[IntWalk.i64_in _ (by omega)];omega
 go_enter Tryz.func109,Tryz.ntmps109
 go_wp2_with (at_make;refine wpList_make_full _ rfl _ _ 141 rfl w.heap.size 96 i0 (.int .u64 0) 1 Tryz.underlying141 hi' hz0 hz1 _ _ _ _ (n+m) rfl rfl rfl rfl (by rw[hz2];omega) (by unfold maxLen;omega) (Nat.le_refl _) ?_;intro w1 hown hgrow;have HA:=Hd (RowAt.made hown hgrow);clear hown hgrow)
 go_loopw [22] (fun v wr=>∃(i:Nat) (O:Nat→Nat),v=.int .i64 i∧i≤n∧Hid (MulAt f h n m i 0 O 0)∧Hid (RowAt w wr O (n+m))) (fun v _=>n-(intOf v).toNat)
 case atStart=>exact⟨0,_,rfl,Nat.zero_le _,Hd (MulAt.start f h n m),HA⟩
 case round=>
  obtain⟨i,O,rfl,hi,HM,HR⟩:=hrel;by_cases hin:i<n
  ·obtain⟨g,rfl,hg⟩:=HF.out.at_ (by omega)
   have hx:=cell_later (hg i hin) HR.out.bel;have l1:(i:Int)<(n:Int):=by omega
   have l0:(0:Int)≤(i:Int):=by omega
   have wi:IntKind.i64.wrap ((i:Int)+1)=((i+1:Nat):Int):=by rw[IntWalk.i64_in _ (by omega)];omega
   have wim:IntKind.i64.wrap ((i:Int)+(m:Int))=((i+m:Nat):Int):=by rw[IntWalk.i64_in _ (by omega)];omega
   clear hg;obtain⟨x,hxx⟩:∃x,f i=x:=⟨_,rfl⟩;have HXX:=Hd hxx;rw[hxx]at hx;clear hxx;go_wp2
   go_loopw [8,29] (fun u v wr=>∃(j k:Nat) (O:Nat→Nat),v=.int .i64 j∧u=.int .u64 k∧j≤m∧Hid (MulAt f h n m i j O k)∧Hid (RowAt w wr O (n+m))) (fun u v _=>m-(intOf v).toNat)
   case atStart=>exact⟨0,0,O,rfl,rfl,Nat.zero_le _,HM,HR⟩
   case round=>
    obtain⟨j,k,P,rfl,rfl,hj,HMj,HRj⟩:=hrel;by_cases hjm:j<m
    ·obtain⟨g',rfl,hg'⟩:=HH.out.at_ (by omega)
     have hy:=cell_later (hg' j hjm) HRj.out.bel;obtain⟨A,hi2,lo,lo1,c1,hi1,o',c2,k',q1,q2,q3,q4,q5,q6,q7,q8,q9,q10,q11,q12,q13,q14,q15,q16,q17⟩:=mul_arith (f i) (h j) k (P (i+j)) (HF.out.words i hin) (HH.out.words j hjm) HMj.out.cw (HMj.out.words (i+j) (by omega));have hmm:=fun w=>Wd.mul64_all (f i) (h j) (by have:=HF.out.words i hin;omega) (by have:=HH.out.words j hjm;omega) w
     rw[q1,q2,q3]at hmm;have hk0:=HMj.out.cw;have ho0:=HMj.out.words (i+j) (by omega);have ha1:=fun w=>Wd.add64' lo k 0 lo1 c1 (by omega) (by omega) (by omega) (by omega) q13 q14 w
     have ha2:=fun w=>Wd.add64' (P (i+j)) lo1 0 o' c2 (by omega) (by omega) (by omega) (by omega) q15 q16 w
     have wh1:IntKind.u64.wrap ((hi2:Int)+(c1:Int))=(hi1:Int):=by rw[Wd.wrap_u64];omega
     have wh2:IntKind.u64.wrap ((hi1:Int)+(c2:Int))=(k':Int):=by rw[Wd.wrap_u64];omega
     have HMn:=Hd (HMj.out.step hin hjm q10 q9 (by rw[q1];exact q17));have HRn:=Hd (HRj.out.set (i+j) o');have hfz:=HRj.out.frozen (i+j);have hex:=HRj.out.cell (i+j) (by omega);have l2:(j:Int)<(m:Int):=by omega
     have l3:(0:Int)≤(j:Int):=by omega
     have l4:((i+j:Nat):Int)<((n+m:Nat):Int):=by omega
     have l5:(0:Int)≤((i+j:Nat):Int):=by omega
     have wj:IntKind.i64.wrap ((j:Int)+1)=((j+1:Nat):Int):=by rw[IntWalk.i64_in _ (by omega)];omega
     have wij:IntKind.i64.wrap ((i:Int)+(j:Int))=((i+j:Nat):Int):=by rw[IntWalk.i64_in _ (by omega)];omega
     rw[HXX.out]at hmm;have HMM:=Hd hmm;clear hg' q1 q2 q3 q4 q5 q6 q7 q8 q9 q10 q11 q12 q13 q14 q15 q16 q17 hk0 ho0 hmm;generalize h j=y at *;generalize hv:P (i+j)=v at *;clear hv;generalize i+j=ij at *
     go_wp2_with (go_at_call 105;refine(HMM.out _).mono ?_;rintro e w2 ⟨rfl,rfl⟩)
     go_roundw
     case rel=>exact⟨j+1,k',_,by go_num,rfl,by omega,HMn,HRn⟩
     case measure=>simp[intOf];omega
    ·obtain rfl:j=m:=by omega
     have HMn:=Hd (HMj.out.next hin);have HRn:=Hd (HRj.out.set (i+j) k);have hfz:=HRj.out.frozen (i+j);have hex:=HRj.out.cell (i+j) (by omega);have l4:((i+j:Nat):Int)<((n+j:Nat):Int):=by omega
     have l5:(0:Int)≤((i+j:Nat):Int):=by omega
     go_wp2;go_roundw
     case rel=>exact⟨i+1,_,by go_num,by omega,HMn,HRn⟩
     case measure=>simp[intOf];omega
  ·obtain rfl:i=n:=by omega
   have hM:=HR.out.mag HM.out.words (by omega);have HMg:=Hd hM;have HKB:=Hd HR.out.bel;have HS:=Hd (HLW.out O HM.out);clear hM
   go_wp2_with (go_at_call 135;refine(right_any _ _ _ _ _ HMg.out).mono ?_;rintro e w5 ⟨rfl,hb5⟩;have HB5:=Hd hb5;have HM2:=Hd (HMg.out.trim.later hb5);clear hb5)
   go_ret
   refine⟨⟨_,_,_,rfl,⟨_,HM2.out,?_,fun j hj=>trim_last _ _ _ hj⟩,Nat.le_trans (trim_le _ _) HLL.out⟩,bel_step HKB.out HB5.out⟩;rw[sum_trim,HS.out]
end Np
end Go.Proofs.YtdihefgleefhmaaGreat
