import Derived.Test.YtdihefgleefhmaaGreatWf
namespace Go.Proofs.YtdihefgleefhmaaGreat
open Go.RowKit
def incDet(a b c d e f:Int):Int:=(c*f-d*e)*(a*a+b*b)+(e*b-f*a)*(c*c+d*d)+(a*d-b*c)*(e*e+f*f)
namespace Qk
open Wd
def small(x:Int):Prop:=-1073741824≤x∧x≤1073741824
theorem mul_bd{x y A B:Int}(hx0:-A≤x)(hx:x≤A)(hy0:-B≤y)(hy:y≤B):-(A*B)≤x*y∧x*y≤A*B:=by
 have h1:x.natAbs≤A.natAbs:=by omega
 have h2:y.natAbs≤B.natAbs:=by omega
 have h3:=Nat.mul_le_mul h1 h2;rw[←Int.natAbs_mul,←Int.natAbs_mul]at h3;have h4:((A*B).natAbs:Int)=A*B:=Int.natAbs_of_nonneg (Int.mul_nonneg (by omega) (by omega));omega
theorem sq_bd{x A:Int}(hx0:-A≤x)(hx:x≤A):0≤x*x∧x*x≤A*A:=by
 have h1:x.natAbs≤A.natAbs:=by omega
 have h3:=Nat.mul_le_mul h1 h1;rw[←Int.natAbs_mul,←Int.natAbs_mul]at h3;have h4:((A*A).natAbs:Int)=A*A:=Int.natAbs_of_nonneg (Int.mul_nonneg (by omega) (by omega))
 have h5:0≤x*x:=by
  rcases Int.le_total 0 x with h|h
  ·exact Int.mul_nonneg h h
  ·exact Int.mul_nonneg_of_nonpos_of_nonpos h h
 omega
theorem term(a b c d e f:Int)(ha:small a)(hb:small b)(hc:small c)(hd:small d)(he:small e)(hf:small f) :
  (-1152921504606846976≤c*f∧c*f≤1152921504606846976)∧(-1152921504606846976≤d*e∧d*e≤1152921504606846976)∧(0≤a*a∧a*a≤1152921504606846976)∧(0≤b*b∧b*b≤1152921504606846976)∧
  (-5316911983139663491615228241121378304≤(c*f-d*e)*(a*a+b*b)∧(c*f-d*e)*(a*a+b*b)≤5316911983139663491615228241121378304):=by
 unfold small at *;have h1:=mul_bd (A:=1073741824) (B:=1073741824) hc.1 hc.2 hf.1 hf.2;have h2:=mul_bd (A:=1073741824) (B:=1073741824) hd.1 hd.2 he.1 he.2;have h3:=sq_bd (A:=1073741824) ha.1 ha.2;have h4:=sq_bd (A:=1073741824) hb.1 hb.2;have h5:=mul_bd (A:=2305843009213693952) (B:=2305843009213693952) (x:=c*f-d*e) (y:=a*a+b*b) (by omega) (by omega) (by omega) (by omega);refine⟨by omega,by omega,by omega,by omega,by omega⟩
theorem wrap_in(x:Int)(h0:-9223372036854775808≤x)(h1:x≤9223372036854775807):IntKind.i64.wrap x=x:=IntWalk.i64_in x ⟨h0,h1⟩
set_option maxHeartbeats 2000000 in
set_option maxRecDepth 100000 in
theorem quick_any(a b c d e f:Int)(w:World)(ha:small a)(hb:small b)(hc:small c)(hd:small d)(he:small e)(hf:small f) :
  Calls Tryz.prog 72 #[.int .i64 a,.int .i64 b,.int .i64 c,.int .i64 d,.int .i64 e,.int .i64 f] w fun r w'=>r=.returned (.int .i64 (incDet a b c d e f).sign)∧Below w.heap.size w w':=by
 obtain⟨p1,p2,p3,p4,p5⟩:=term a b c d e f ha hb hc hd he hf;obtain⟨q1,q2,q3,q4,q5⟩:=term c d e f a b hc hd he hf ha hb;obtain⟨r1,r2,r3,r4,r5⟩:=term e f a b c d he hf ha hb hc hd;unfold small at *;have d1:=fun w=>det_wv c d e f w (by omega) (by omega) (by omega) (by omega) (by omega) (by omega) (by omega) (by omega) (by unfold Fits;omega) (by unfold Fits;omega) (by unfold Fits;omega)
 have d2:=fun w=>det_wv e f a b w (by omega) (by omega) (by omega) (by omega) (by omega) (by omega) (by omega) (by omega) (by unfold Fits;omega) (by unfold Fits;omega) (by unfold Fits;omega)
 have d3:=fun w=>det_wv a b c d w (by omega) (by omega) (by omega) (by omega) (by omega) (by omega) (by omega) (by omega) (by unfold Fits;omega) (by unfold Fits;omega) (by unfold Fits;omega)
 have e1:Fits (c*f-d*e):=by unfold Fits;omega
 have e2:Fits (e*b-f*a):=by unfold Fits;omega
 have e3:Fits (a*d-b*c):=by unfold Fits;omega
 have t1:=fun w=>times_wv (c*f-d*e) (a*a+b*b) w e1 (by omega) (by omega) (by rw[←Int.natAbs_mul];omega)
 have t2:=fun w=>times_wv (e*b-f*a) (c*c+d*d) w e2 (by omega) (by omega) (by rw[←Int.natAbs_mul];omega)
 have t3:=fun w=>times_wv (a*d-b*c) (e*e+f*f) w e3 (by omega) (by omega) (by rw[←Int.natAbs_mul];omega)
 have wab:IntKind.i64.wrap (a*a+b*b)=a*a+b*b:=wrap_in _ (by omega) (by omega);have wcd:IntKind.i64.wrap (c*c+d*d)=c*c+d*d:=wrap_in _ (by omega) (by omega);have wef:IntKind.i64.wrap (e*e+f*f)=e*e+f*f:=wrap_in _ (by omega) (by omega);have wa:=wrap_in (a*a) (by omega) (by omega);have wb:=wrap_in (b*b) (by omega) (by omega);have wc:=wrap_in (c*c) (by omega) (by omega);have wd:=wrap_in (d*d) (by omega) (by omega);have we:=wrap_in (e*e) (by omega) (by omega);have wf:=wrap_in (f*f) (by omega) (by omega);have s1:=fun w=>add_wv ((c*f-d*e)*(a*a+b*b)) ((e*b-f*a)*(c*c+d*d)) w (by unfold Fits;omega) (by unfold Fits;omega) (by unfold Fits;omega)
 have s2:=fun w=>add_wv ((c*f-d*e)*(a*a+b*b)+(e*b-f*a)*(c*c+d*d)) ((a*d-b*c)*(e*e+f*f)) w (by unfold Fits;omega) (by unfold Fits;omega) (by unfold Fits;omega)
 have sg:=fun w=>sign_wv ((c*f-d*e)*(a*a+b*b)+(e*b-f*a)*(c*c+d*d)+(a*d-b*c)*(e*e+f*f)) w (by unfold Fits;omega)
 have hz:(incDet a b c d e f)=(c*f-d*e)*(a*a+b*b)+(e*b-f*a)*(c*c+d*d)+(a*d-b*c)*(e*e+f*f):=rfl;rw[hz];clear hz p1 p2 p3 p4 p5 q1 q2 q3 q4 q5 r1 r2 r3 r4 r5 e1 e2 e3 ha hb hc hd he hf;generalize (c*f-d*e)*(a*a+b*b)+(e*b-f*a)*(c*c+d*d)+(a*d-b*c)*(e*e+f*f)=z at d1 d2 d3 t1 t2 t3 s1 s2 sg ⊢;generalize (c*f-d*e)*(a*a+b*b)+(e*b-f*a)*(c*c+d*d)=y at d1 d2 d3 t1 t2 t3 s1 s2 sg ⊢;generalize (c*f-d*e)*(a*a+b*b)=y1 at d1 d2 d3 t1 t2 t3 s1 s2 sg ⊢;generalize (e*b-f*a)*(c*c+d*d)=y2 at d1 d2 d3 t1 t2 t3 s1 s2 sg ⊢;generalize (a*d-b*c)*(e*e+f*f)=y3 at d1 d2 d3 t1 t2 t3 s1 s2 sg ⊢;generalize c*f-d*e=x1 at d1 d2 d3 t1 t2 t3 s1 s2 sg ⊢;generalize e*b-f*a=x2 at d1 d2 d3 t1 t2 t3 s1 s2 sg ⊢;generalize a*d-b*c=x3 at d1 d2 d3 t1 t2 t3 s1 s2 sg ⊢;simp only[wv]at d1 d2 d3 t1 t2 t3 s1 s2 sg;generalize z.sign=sz at d1 d2 d3 t1 t2 t3 s1 s2 sg ⊢;generalize hi z=hz at d1 d2 d3 t1 t2 t3 s1 s2 sg ⊢;generalize lo z=lz at d1 d2 d3 t1 t2 t3 s1 s2 sg ⊢;generalize hi y=hy at d1 d2 d3 t1 t2 t3 s1 s2 sg ⊢;generalize lo y=ly at d1 d2 d3 t1 t2 t3 s1 s2 sg ⊢;generalize hi y1=hy1 at d1 d2 d3 t1 t2 t3 s1 s2 sg ⊢;generalize lo y1=ly1 at d1 d2 d3 t1 t2 t3 s1 s2 sg ⊢;generalize hi y2=hy2 at d1 d2 d3 t1 t2 t3 s1 s2 sg ⊢;generalize lo y2=ly2 at d1 d2 d3 t1 t2 t3 s1 s2 sg ⊢;generalize hi y3=hy3 at d1 d2 d3 t1 t2 t3 s1 s2 sg ⊢;generalize lo y3=ly3 at d1 d2 d3 t1 t2 t3 s1 s2 sg ⊢;generalize hi x1=hx1 at d1 d2 d3 t1 t2 t3 s1 s2 sg ⊢;generalize lo x1=lx1 at d1 d2 d3 t1 t2 t3 s1 s2 sg ⊢;generalize hi x2=hx2 at d1 d2 d3 t1 t2 t3 s1 s2 sg ⊢;generalize lo x2=lx2 at d1 d2 d3 t1 t2 t3 s1 s2 sg ⊢;generalize hi x3=hx3 at d1 d2 d3 t1 t2 t3 s1 s2 sg ⊢;generalize lo x3=lx3 at d1 d2 d3 t1 t2 t3 s1 s2 sg ⊢;have D1:=Hd d1;have D2:=Hd d2;have D3:=Hd d3;have T1:=Hd t1;have T2:=Hd t2;have T3:=Hd t3;have S1:=Hd s1;have S2:=Hd s2;have SG:=Hd sg;clear d1 d2 d3 t1 t2 t3 s1 s2 sg
 go_enter Tryz.func72,Tryz.ntmps72
 go_upto_region 2 with(first| (go_at_call 78;refine(D1.out _).mono ?_;rintro e w1 ⟨rfl,hb1⟩;have HB1:=Hd hb1;clear hb1)|(go_at_call 98;refine(T1.out _).mono ?_;rintro e w2 ⟨rfl,hb2⟩;have HB2:=Hd (bel_step HB1.out hb2);clear hb2))
 have K1:=Hd (Blk.new w2 98 #[.int .u64 hy1,.int .u64 ly1]);have G1:=Hd (bel_alloc HB2.out (.cells #[.int .u64 hy1,.int .u64 ly1] 98));have hn1:w.heap.size≤w2.heap.size:=HB2.out.size;obtain⟨W1,hW1⟩:∃W,w2.alloc (.cells #[.int .u64 hy1,.int .u64 ly1] 98)=W:=⟨_,rfl⟩;obtain⟨B1,hB1⟩:∃B,w2.heap.size=B:=⟨_,rfl⟩;rw[hW1]at K1 G1 ⊢;rw[hB1]at K1 hn1 ⊢;clear hW1 hB1
 go_upto_region 3 with(first| (go_at_call 78;refine(D2.out _).mono ?_;rintro e w3 ⟨rfl,hb1⟩;have HB3:=Hd hb1;clear hb1)|(go_at_call 98;refine(T2.out _).mono ?_;rintro e w4 ⟨rfl,hb2⟩;have HB4:=Hd (bel_step HB3.out hb2);clear hb2))
 have K2:=Hd (Blk.new w4 98 #[.int .u64 hy2,.int .u64 ly2]);have HA4:=Hd (bel_alloc HB4.out (.cells #[.int .u64 hy2,.int .u64 ly2] 98));obtain⟨W2,hW2⟩:∃W,w4.alloc (.cells #[.int .u64 hy2,.int .u64 ly2] 98)=W:=⟨_,rfl⟩;have hlt:B1<w4.heap.size:=Nat.lt_of_lt_of_le K1.out.lt HB4.out.size;obtain⟨B2,hB2⟩:∃B,w4.heap.size=B:=⟨_,rfl⟩;rw[hW2]at K2 HA4 ⊢;rw[hB2]at K2 hlt ⊢;have G2:=Hd (bel_step G1.out HA4.out);have K1':=Hd (K1.out.later HA4.out);clear hW2 hB2
 go_upto_region 4 with(first| (go_at_call 78;refine(D3.out _).mono ?_;rintro e w5 ⟨rfl,hb1⟩;have HB5:=Hd hb1;clear hb1)|(go_at_call 98;refine(T3.out _).mono ?_;rintro e w6 ⟨rfl,hb2⟩;have HB6:=Hd (bel_step HB5.out hb2);clear hb2))
 have K3:=Hd (Blk.new w6 98 #[.int .u64 hy3,.int .u64 ly3]);have HA6:=Hd (bel_alloc HB6.out (.cells #[.int .u64 hy3,.int .u64 ly3] 98));obtain⟨W3,hW3⟩:∃W,w6.alloc (.cells #[.int .u64 hy3,.int .u64 ly3] 98)=W:=⟨_,rfl⟩;have hlt3:B2<w6.heap.size:=Nat.lt_of_lt_of_le K2.out.lt HB6.out.size;obtain⟨B3,hB3⟩:∃B,w6.heap.size=B:=⟨_,rfl⟩;rw[hW3]at K3 HA6 ⊢;rw[hB3]at K3 hlt3 ⊢;have G3:=Hd (bel_step G2.out HA6.out);have L1:=Hd (K1'.out.later HA6.out);have L2:=Hd (K2.out.later HA6.out);clear hW3 hB3;obtain⟨a0,a1,_,_⟩:=L1.out.two;obtain⟨a2,a3,_,_⟩:=L2.out.two
 go_upto_region 5 with(go_at_call 99;refine(S1.out _).mono ?_;rintro e w7 ⟨rfl,hb1⟩;have M1:=Hd (L1.out.later hb1);have M3:=Hd (K3.out.later hb1);have G4:=Hd (bel_step G3.out hb1);clear hb1 a0 a1 a2 a3;obtain⟨b0,b1,b2,b3⟩:=M1.out.two;obtain⟨c0,c1,c2,c3⟩:=M1.out.two_set (u:=.int .u64 hy) (v:=.int .u64 ly))
 have N1:=Hd ((M1.out.set 0 (.int .u64 hy)).set 1 (.int .u64 ly));have N3:=Hd ((M3.out.other (c:=B1) (by omega) 0 (.int .u64 hy)).other (c:=B1) (by omega) 1 (.int .u64 ly));have G5:=Hd (bel_set (bel_set G4.out hn1 0 (.int .u64 hy)) hn1 1 (.int .u64 ly));obtain⟨W4,hW4⟩:∃W,(w7.setCell ⟨B1,0,none⟩ (.int .u64 hy)).setCell ⟨B1,1,none⟩ (.int .u64 ly)=W:=⟨_,rfl⟩;rw[hW4]at N1 N3 G5 ⊢;clear hW4 b0 b1 b2 b3 c0 c1 c2 c3;obtain⟨a0,a1,_,_⟩:=Blk.two (x:=.int .u64 hy) (y:=.int .u64 ly) N1.out;obtain⟨a2,a3,_,_⟩:=N3.out.two
 go_upto_region 6 with(go_at_call 99;refine(S2.out _).mono ?_;rintro e w8 ⟨rfl,hb1⟩;have M1':=Hd (Blk.later (cs:=#[.int .u64 hy,.int .u64 ly]) N1.out hb1);have G6:=Hd (bel_step G5.out hb1);clear hb1 a0 a1 a2 a3;obtain⟨b0,b1,b2,b3⟩:=M1'.out.two;obtain⟨c0,c1,c2,c3⟩:=M1'.out.two_set (u:=.int .u64 hz) (v:=.int .u64 lz))
 have G7:=Hd (bel_set (bel_set G6.out hn1 0 (.int .u64 hz)) hn1 1 (.int .u64 lz))
 go_wp2_with (go_at_call 45;refine(SG.out _).mono ?_;rintro e w9 ⟨rfl,hb1⟩;have G8:=Hd (bel_step G7.out hb1);clear hb1)
 go_ret
 exact⟨rfl,G8.out⟩
end Qk
end Go.Proofs.YtdihefgleefhmaaGreat
namespace Go.Proofs.YtdihefgleefhmaaGreat
open Go.RowKit
namespace Qk
def smallB(x:Int):Bool:=decide (x < -1073741824)||decide (x>1073741824)
theorem small_no{l:List Int}{k:Nat}(h:k<l.length)(hs:smallB l[k]=true):(l.all fun x=> !smallB x)=false:=by
 rw[List.all_eq_false];exact⟨l[k],List.getElem_mem h,by rw[hs];simp⟩
set_option maxHeartbeats 1000000 in
theorem small_any(l:List Int)(g c:Nat)(w:World)(hl:l.length≤1000)(hc:∀i (h:i<l.length),w.cell? ⟨g,i,none⟩=some (.int .i64 l[i])) :
  Calls Tryz.prog 71 #[.slice (some ⟨g,0,none⟩) l.length c] w fun e w'=>e=.returned (.bool (l.all fun x=> !smallB x))∧w'=w:=by
 have HC:=Hd hc;obtain⟨r,hr⟩:∃r,(l.all fun x=> !smallB x)=r:=⟨_,rfl⟩;have HR:=Hd hr;rw[hr];clear hc hr
 go_enter Tryz.func71,Tryz.ntmps71
 go_wp2
 go_loopw [7] (fun q wr=>∃k:Nat,q=.int .i64 k∧k≤l.length∧Hid (∀j (h:j<l.length),j<k→smallB l[j]=false)∧Hid (wr=w)) (fun q _=>l.length-(intOf q).toNat)
 case atStart=>exact⟨0,rfl,by omega,fun j _ hj=>absurd hj (by omega),rfl⟩
 case round=>
  obtain⟨k,rfl,hk,HE,HW⟩:=hrel;have hw:=HW.out;subst hw;clear HW;by_cases hlt:k<l.length
  ·have k0:=HC.out k hlt
   obtain⟨x,hx⟩:∃x,l[k]=x:=⟨_,rfl⟩;rw[hx]at k0;have HX:=Hd hx;clear hx;by_cases h1:x < -1073741824
   ·have HB:Hid (smallB x=true):=Hd (by unfold smallB;simp;omega)
    go_wp2
    go_ret
    exact⟨congrArg (fun q=>Ending.returned (Value.bool q)) ((small_no hlt (by rw[HX.out];exact HB.out)).symm.trans HR.out),rfl⟩
   ·by_cases h2:1073741824<x
    ·have HB:Hid (smallB x=true):=Hd (by unfold smallB;simp;omega)
     go_wp2
     go_ret
     exact⟨congrArg (fun q=>Ending.returned (Value.bool q)) ((small_no hlt (by rw[HX.out];exact HB.out)).symm.trans HR.out),rfl⟩
    ·have HB:Hid (smallB x=false):=Hd (by unfold smallB;simp;omega)
     go_wp2;go_roundw
     case rel=>exact⟨k+1,by go_num,by omega,fun j h hj=>by rcases Nat.lt_succ_iff_lt_or_eq.1 hj with h'|h';exact HE.out j h h';subst h';rw[HX.out];exact HB.out,trivial⟩
     case measure=>simp[intOf];omega
  ·have hkl:k=l.length:=by omega
   subst hkl
   have HB:Hid (r=true):=Hd (by
    rw[←HR.out,List.all_eq_true];intro y hy;obtain⟨j,hj,rfl⟩:=List.mem_iff_getElem.1 hy;rw[HE.out j hj hj];rfl)
   go_wp2
   go_ret
   exact⟨congrArg (fun q=>Ending.returned (Value.bool q)) HB.out.symm,rfl⟩
end Qk
end Go.Proofs.YtdihefgleefhmaaGreat
namespace Go.Proofs.YtdihefgleefhmaaGreat
open Go.RowKit
def inc(a b c p:Pt):Int:=incDet (a.x-p.x) (a.y-p.y) (b.x-p.x) (b.y-p.y) (c.x-p.x) (c.y-p.y)
namespace Ci
open Wd Pr Qk
def quickOk(a p:Pt):Prop:=small (a.x-p.x)∧small (a.y-p.y)
theorem small_of{x:Int}(h:small x):smallB x=false:=by unfold small at h;unfold smallB;simp;omega
theorem small6(x0 x1 x2 x3 x4 x5:Int)(g t c:Nat)(w:World)(h:Blk w g t #[.int .i64 x0,.int .i64 x1,.int .i64 x2,.int .i64 x3,.int .i64 x4,.int .i64 x5])(hs:small x0∧small x1∧small x2∧small x3∧small x4∧small x5) :
  Calls Tryz.prog 71 #[.slice (some ⟨g,0,none⟩) 6 c] w fun e w'=>e=.returned (.bool true)∧w'=w:=by
 have k:=small_any [x0,x1,x2,x3,x4,x5] g c w (by simp) (fun i hi=>h.cell i _ (by
  rcases(show i=0∨i=1∨i=2∨i=3∨i=4∨i=5 by simp at hi;omega)with rfl|rfl|rfl|rfl|rfl|rfl<;>rfl))
 have e:([x0,x1,x2,x3,x4,x5].all fun x=> !smallB x)=true:=by
  simp[small_of hs.1,small_of hs.2.1,small_of hs.2.2.1,small_of hs.2.2.2.1,small_of hs.2.2.2.2.1,small_of hs.2.2.2.2.2]
 rw[e]at k;exact k
set_option maxHeartbeats 2000000 in
set_option maxRecDepth 100000 in
theorem circle_quick(a b c p:Pt)(w:World)(ha:a.near)(hb:b.near)(hc:c.near)(hp:p.near)(qa:quickOk a p)(qb:quickOk b p)(qc:quickOk c p) :
  Calls Tryz.prog 44 #[pv a,pv b,pv c,pv p] w fun e w'=>e=.returned (.int .i64 (inc a b c p).sign)∧Below w.heap.size w w':=by
 obtain⟨ax,ay⟩:=a;obtain⟨bx,bz⟩:=b;obtain⟨cx,cy⟩:=c;obtain⟨px,py⟩:=p;simp only[inc,quickOk,small,Pt.near]at *;have hQ:=fun w=>quick_any (ax-px) (ay-py) (bx-px) (bz-py) (cx-px) (cy-py) w qa.1 qa.2 qb.1 qb.2 qc.1 qc.2
 generalize (incDet (ax-px) (ay-py) (bx-px) (bz-py) (cx-px) (cy-py)).sign=r at hQ ⊢;have HQ:=Hd hQ;have HSM:Hid (small (ax-px)∧small (ay-py)∧small (bx-px)∧small (bz-py)∧small (cx-px)∧small (cy-py)):=⟨qa.1,qa.2,qb.1,qb.2,qc.1,qc.2⟩;clear hQ;have w1:=wrap_in (ax-px) (by omega) (by omega);have w2:=wrap_in (ay-py) (by omega) (by omega);have w3:=wrap_in (bx-px) (by omega) (by omega);have w4:=wrap_in (bz-py) (by omega) (by omega);have w5:=wrap_in (cx-px) (by omega) (by omega);have w6:=wrap_in (cy-py) (by omega) (by omega)
 go_enter Tryz.func44,Tryz.ntmps44
 go_upto_region 1 with(fail)
 simp only[Nat.add_assoc,Nat.reduceAdd];have hA:=(((Blk.new w 24 #[.int .i64 ax,.int .i64 ay]).alloc (.cells #[.int .i64 bx,.int .i64 bz] 24)).alloc (.cells #[.int .i64 cx,.int .i64 cy] 24)).alloc (.cells #[.int .i64 px,.int .i64 py] 24);have hB:=((Blk.new' (n:=w.heap.size+1) (w.alloc (.cells #[.int .i64 ax,.int .i64 ay] 24)) 24 #[.int .i64 bx,.int .i64 bz] (by simp)).alloc (.cells #[.int .i64 cx,.int .i64 cy] 24)).alloc (.cells #[.int .i64 px,.int .i64 py] 24);have hC:=(Blk.new' (n:=w.heap.size+2) ((w.alloc (.cells #[.int .i64 ax,.int .i64 ay] 24)).alloc (.cells #[.int .i64 bx,.int .i64 bz] 24)) 24 #[.int .i64 cx,.int .i64 cy] (by simp)).alloc (.cells #[.int .i64 px,.int .i64 py] 24);have hP:=Blk.new' (n:=w.heap.size+3) (((w.alloc (.cells #[.int .i64 ax,.int .i64 ay] 24)).alloc (.cells #[.int .i64 bx,.int .i64 bz] 24)).alloc (.cells #[.int .i64 cx,.int .i64 cy] 24)) 24 #[.int .i64 px,.int .i64 py] (by simp);have HB:=Hd (bel_alloc (bel_alloc (bel_alloc (bel_alloc (bel_refl w) (.cells #[.int .i64 ax,.int .i64 ay] 24)) (.cells #[.int .i64 bx,.int .i64 bz] 24)) (.cells #[.int .i64 cx,.int .i64 cy] 24)) (.cells #[.int .i64 px,.int .i64 py] 24));obtain⟨W,hW⟩:∃W,(((w.alloc (.cells #[.int .i64 ax,.int .i64 ay] 24)).alloc (.cells #[.int .i64 bx,.int .i64 bz] 24)).alloc (.cells #[.int .i64 cx,.int .i64 cy] 24)).alloc (.cells #[.int .i64 px,.int .i64 py] 24)=W:=⟨_,rfl⟩;rw[hW]at hA hB hC hP HB ⊢;clear hW;have k0:=hA.cells 0 (.int .i64 ax) rfl;have k1:=hA.cells 1 (.int .i64 ay) rfl;have k2:=hB.cells 0 (.int .i64 bx) rfl;have k3:=hB.cells 1 (.int .i64 bz) rfl;have k4:=hC.cells 0 (.int .i64 cx) rfl;have k5:=hC.cells 1 (.int .i64 cy) rfl;have k6:=hP.cells 0 (.int .i64 px) rfl;have k7:=hP.cells 1 (.int .i64 py) rfl;clear hA hB hC hP ha hb hc hp qa qb qc;refine Go.Gq.region (by kernel_rfl) (by kernel_rfl) ?_
 repeat (go_big_quiet_step ((fail)))
 refine wpQuiet_nil ?_;intro wx hw';have HX:=Hd (Go.Gq.later_bel hw');clear hw' k0 k1 k2 k3 k4 k5 k6 k7 w1 w2 w3 w4 w5 w6;generalize ax-px=x0 at *;generalize ay-py=x1 at *;generalize bx-px=x2 at *;generalize bz-py=x3 at *;generalize cx-px=x4 at *;generalize cy-py=x5 at *
 go_wp2_with (first| (go_at_call 71;refine(small6 x0 x1 x2 x3 x4 x5 _ _ 6 _ (Blk.new _ _ _) HSM.out).mono ?_;rintro e w2 ⟨rfl,rfl⟩)|(go_at_call 72;refine(HQ.out _).mono ?_;rintro e w3 ⟨rfl,hb⟩;have HB3:=Hd hb;clear hb))
 go_ret
 exact⟨rfl,bel_step (bel_alloc (bel_step HB.out HX.out) _) HB3.out⟩
end Ci
end Go.Proofs.YtdihefgleefhmaaGreat
