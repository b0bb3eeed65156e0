import Derived.Test.YtdihefgleefhmaaGreatHd
import Derived.Test.YtdihefgleefhmaaGreatGq
import Derived.Test.YtdihefgleefhmaaGreatShelf
import Derived.Laws.Externs
import Derived.Shelf.Spec.BitsCarry
import Derived.Laws.StructEq
namespace Go.Proofs.YtdihefgleefhmaaGreat
open Go.RowKit
namespace Wd
theorem add64'(x y c s k:Int)(hx:0≤x)(hy:0≤y)(hc0:0≤c)(hc:c≤1)(hs:s=(x+y+c)%18446744073709551616)(hk:k=(x+y+c) / 18446744073709551616)(w:World) :
  (callFunc 133 #[.int .u64 x,.int .u64 y,.int .u64 c]).run Tryz.prog w=.ok (.value (.tuple #[.int .u64 s,.int .u64 k])) w:=by
 rw[run_callFunc_extern Tryz.func133 (by kernel_rfl) (by kernel_rfl) (by kernel_rfl) (e:=add64Entry) (by kernel_rfl),run_add64 x y c hx hy hc0 hc,hs,hk];rfl
theorem sub64'(x y c s k:Int)(hx:0≤x)(hx1:x≤18446744073709551615)(hy:0≤y)(hy1:y≤18446744073709551615)(hc0:0≤c)(hc:c≤1)(hs:s=(x-y-c)%18446744073709551616)(hk:k=if x<y+c then 1 else 0)(w:World) :
  (callFunc 136 #[.int .u64 x,.int .u64 y,.int .u64 c]).run Tryz.prog w=.ok (.value (.tuple #[.int .u64 s,.int .u64 k])) w:=by
 obtain⟨x,rfl⟩:=Int.eq_ofNat_of_zero_le hx;obtain⟨y,rfl⟩:=Int.eq_ofNat_of_zero_le hy;obtain⟨c,rfl⟩:=Int.eq_ofNat_of_zero_le hc0;have e1:(((x+18446744073709551616-y-c)%18446744073709551616:Nat):Int)=s:=by omega
 have e2:((if x<y+c then 1 else 0:Nat):Int)=k:=by rw[hk];split<;>split<;>omega
 rw[run_callFunc_extern Tryz.func136 (by kernel_rfl) (by kernel_rfl) (by kernel_rfl) (e:=sub64Entry) (by kernel_rfl),run_sub64 x y c (by omega),e1,e2];rfl
theorem not64(l:Int)(h0:0≤l)(h1:l≤18446744073709551615):bits BinOp.xor IntKind.u64 IntKind.u64.max l=18446744073709551615-l:=by
 obtain⟨n,rfl⟩:=Int.eq_ofNat_of_zero_le h0;have e:bits BinOp.xor IntKind.u64 IntKind.u64.max (n:Int)=IntKind.u64.wrap ((BitVec.ofInt 64 IntKind.u64.max ^^^ BitVec.ofInt 64 (n:Int)).toNat:Int):=rfl;have e1:BitVec.ofInt 64 IntKind.u64.max=BitVec.allOnes 64:=by decide
 have e2:(BitVec.allOnes 64 ^^^ BitVec.ofInt 64 (n:Int))= ~~~ BitVec.ofInt 64 (n:Int):=by rw[BitVec.allOnes_xor]
 rw[e,e1,e2,BitVec.toNat_not];simp[IntKind.wrap,IntKind.bits,IntKind.signed];omega
theorem signed_u64:IntKind.u64.signed=false:=rfl
attribute [local go_sem] signed_u64
def hi(n:Int):Int:=n / 18446744073709551616%18446744073709551616
def lo(n:Int):Int:=n%18446744073709551616
theorem hi_0(n:Int):0≤hi n:=by unfold hi;omega
theorem hi_1(n:Int):hi n≤18446744073709551615:=by unfold hi;omega
theorem lo_0(n:Int):0≤lo n:=by unfold lo;omega
theorem lo_1(n:Int):lo n≤18446744073709551615:=by unfold lo;omega
abbrev wv(n:Int):Value:=.agg #[.int .u64 (hi n),.int .u64 (lo n)]
def Fits(n:Int):Prop:=-170141183460469231731687303715884105728≤n∧n≤170141183460469231731687303715884105727
set_option maxHeartbeats 1000000 in
theorem minus_any(h l:Int)(w:World):Calls Tryz.prog 82 #[.agg #[.int .u64 h,.int .u64 l]] w fun e w'=>e=.returned (.bool (h / 9223372036854775808==1))∧Below w.heap.size w w':=by
 go_enter Tryz.func82,Tryz.ntmps82
 go_wp2
 go_ret
 exact⟨rfl,(Below.refl _ _).alloc (Nat.le_refl _) _⟩
theorem hi_minus(n:Int)(h:Fits n):(hi n / 9223372036854775808==1)=decide (n<0):=by
 unfold Fits at h;unfold hi;rw[Bool.eq_iff_iff];simp only[beq_iff_eq,decide_eq_true_eq];omega
theorem minus_wv(n:Int)(h:Fits n)(b:Bool)(hb:decide (n<0)=b)(w:World):Calls Tryz.prog 82 #[wv n] w fun e w'=>e=.returned (.bool b)∧Below w.heap.size w w':=by
 rw[←hb,←hi_minus n h];exact minus_any _ _ w
set_option maxHeartbeats 1000000 in
set_option maxRecDepth 100000 in
theorem turn_any(h l h' l':Int)(w:World)(h0:0≤h)(h1:h≤18446744073709551615)(l0:0≤l)(l1:l≤18446744073709551615)(k:Int)(hk:k=(18446744073709551616-l) / 18446744073709551616)(hl:l'=(18446744073709551616-l)%18446744073709551616)(hh:h'=(18446744073709551615-h+k)%18446744073709551616) :
  Calls Tryz.prog 104 #[.agg #[.int .u64 h,.int .u64 l]] w fun e w'=>e=.returned (.agg #[.int .u64 h',.int .u64 l'])∧Below w.heap.size w w':=by
 have x1:=not64 l l0 l1;have x2:=not64 h h0 h1;have c1:0≤k:=by omega
 have c2:k≤1:=by omega
 have a1:=fun w=>add64' (18446744073709551615-l) 1 0 l' k (by omega) (by omega) (by omega) (by omega) (by omega) (by omega) w
 obtain⟨m,hm⟩:∃m:Int,m=(18446744073709551615-h+0+k) / 18446744073709551616:=⟨_,rfl⟩;have a2:=fun w=>add64' (18446744073709551615-h) 0 k h' m (by omega) (by omega) c1 c2 (by omega) hm w
 clear c1 c2 hk hm hl hh
 go_enter Tryz.func104,Tryz.ntmps104
 go_wp2;exact bodyPost_ret (v:=.agg #[.int .u64 h',.int .u64 l']) (by simp[results,Tryz.results104,go_sem]) rfl ⟨rfl,((Below.refl _ _).alloc (Nat.le_refl _) _).alloc (by simp) _⟩
theorem turn_wv(n:Int)(w:World):Calls Tryz.prog 104 #[wv n] w fun e w'=>e=.returned (wv (-n))∧Below w.heap.size w w':=
 turn_any (hi n) (lo n) (hi (-n)) (lo (-n)) w (hi_0 n) (hi_1 n) (lo_0 n) (lo_1 n) _ rfl (by unfold lo;omega) (by unfold hi lo;omega)
theorem wrap_u64(n:Int):IntKind.u64.wrap n=n%18446744073709551616:=by simp[IntKind.wrap,IntKind.bits,IntKind.signed]
set_option maxHeartbeats 1000000 in
theorem abs_any(n:Int)(w:World)(h0:-9223372036854775808≤n)(h1:n≤9223372036854775807):Calls Tryz.prog 106 #[.int .i64 n] w fun e w'=>e=.returned (.int .u64 (n.natAbs:Int))∧w=w':=by
 by_cases hn:n<0
 ·have e:IntKind.u64.wrap (-IntKind.u64.wrap n)=n.natAbs:=by rw[wrap_u64,wrap_u64];omega
  have E:=Hd e;clear e
  go_enter Tryz.func106,Tryz.ntmps106
  go_wp2
  go_ret
  rw[←E.out];exact⟨rfl,rfl⟩
 ·have e:(n.natAbs:Int)=n:=by omega
  rw[e];clear e
  go_enter Tryz.func106,Tryz.ntmps106
  go_wp2
  go_ret
  exact⟨rfl,rfl⟩
theorem natAbs_mul_cases(a b:Int):(decide (a<0)≠decide (b<0)∧a*b=-((a.natAbs*b.natAbs:Nat):Int))∨(decide (a<0)=decide (b<0)∧a*b=((a.natAbs*b.natAbs:Nat):Int)):=by
 by_cases ha:a<0<;>by_cases hb:b<0
 ·right
  refine⟨by simp[ha,hb],?_⟩;rw[Int.natCast_mul,show(a.natAbs:Int)=-a by omega,show(b.natAbs:Int)=-b by omega,Int.neg_mul_neg]
 ·left
  refine⟨by simp[ha,hb],?_⟩;rw[Int.natCast_mul,show(a.natAbs:Int)=-a by omega,show(b.natAbs:Int)=b by omega,Int.neg_mul,Int.neg_neg]
 ·left
  refine⟨by simp[ha,hb],?_⟩;rw[Int.natCast_mul,show(a.natAbs:Int)=a by omega,show(b.natAbs:Int)=-b by omega,Int.mul_neg,Int.neg_neg]
 ·right
  refine⟨by simp[ha,hb],?_⟩;rw[Int.natCast_mul,show(a.natAbs:Int)=a by omega,show(b.natAbs:Int)=b by omega]
theorem mul64_any(x y:Nat)(hx:x≤9223372036854775808)(hy:y≤9223372036854775808)(w:World):Calls Tryz.prog 105 #[.int .u64 x,.int .u64 y] w fun e w'=>e=.returned (.tuple #[.int .u64 (hi ((x*y:Nat):Int)),.int .u64 (lo ((x*y:Nat):Int))])∧w=w':=by
 refine(Tryz.bits_Mul64 x y (by omega) (by omega) w).mono fun e w' h=>?_
 have hp:x*y≤9223372036854775808*9223372036854775808:=Nat.mul_le_mul hx hy;rw[h.1,h.2];refine⟨?_,rfl⟩
 have e1:((x*y / 18446744073709551616:Nat):Int)=hi ((x*y:Nat):Int):=by
  unfold hi;generalize x*y=p at hp ⊢;omega
 have e2:((x*y%18446744073709551616:Nat):Int)=lo ((x*y:Nat):Int):=by
  unfold lo;generalize x*y=p;omega
 rw[e1,e2]
set_option maxHeartbeats 1000000 in
theorem mul_wv(a b:Int)(w:World)(a0:-9223372036854775808≤a)(a1:a≤9223372036854775807)(b0:-9223372036854775808≤b)(b1:b≤9223372036854775807) :
  Calls Tryz.prog 76 #[.int .i64 a,.int .i64 b] w fun e w'=>e=.returned (wv (a*b))∧Below w.heap.size w w':=by
 have hM:=mul64_any a.natAbs b.natAbs (by omega) (by omega);rcases natAbs_mul_cases a b with⟨hs,he⟩|⟨hs,he⟩
 ·rw[he]
  clear he;generalize a.natAbs*b.natAbs=p at hM ⊢;have hT:=turn_wv (p:Int);have HM:=Hd hM;have HT:=Hd hT;clear hM hT;cases ha:decide (a<0)<;>cases hb:decide (b<0)<;>simp[ha,hb]at hs
  all_goals
   go_enter Tryz.func76,Tryz.ntmps76
   go_wp2_with (first| (go_at_call 106;refine(abs_any _ _ (by omega) (by omega)).mono ?_;rintro e w1 ⟨rfl,rfl⟩)|(go_at_call 105;refine(HM.out _).mono ?_;rintro e w1 ⟨rfl,rfl⟩)|(go_at_call 104;refine(HT.out _).mono ?_;rintro e w1 ⟨rfl,hb1⟩;have HB:=Hd hb1;have k:=((Blk.new w 98 #[.int .u64 0,.int .u64 0]).alloc (.cells #[.int .u64 (hi p),.int .u64 (lo p)] 98)).later hb1;obtain⟨k0,k1,k2,k3⟩:=k.two;obtain⟨m0,m1,m2,m3⟩:=k.two_set (u:=.int .u64 (hi (-p))) (v:=.int .u64 (lo (-p)));clear k hb1))
   exact bodyPost_ret (v:=wv (-(p:Int))) (by simp[results,Tryz.results76,go_sem,m0,m1]) rfl ⟨rfl,((bel_step (bel_alloc (bel_alloc (Below.refl _ _) _) _) HB.out).setCell (by simp) _).setCell (by simp) _⟩
 ·rw[he]
  clear he;generalize a.natAbs*b.natAbs=p at hM ⊢;have HM:=Hd hM;clear hM;cases ha:decide (a<0)<;>cases hb:decide (b<0)<;>simp[ha,hb]at hs
  all_goals
   go_enter Tryz.func76,Tryz.ntmps76
   go_wp2_with (first| (go_at_call 106;refine(abs_any _ _ (by omega) (by omega)).mono ?_;rintro e w1 ⟨rfl,rfl⟩)|(go_at_call 105;refine(HM.out _).mono ?_;rintro e w1 ⟨rfl,rfl⟩))
   exact bodyPost_ret (v:=wv (p:Int)) (by simp[results,Tryz.results76,go_sem]) rfl ⟨rfl,bel_alloc (bel_alloc (Below.refl _ _) _) _⟩
theorem sub_words(a b:Int):lo (a-b)=(lo a-lo b-0)%18446744073709551616∧hi (a-b)=(hi a-hi b-(if lo a<lo b+0 then 1 else 0))%18446744073709551616:=by
 unfold hi lo;refine⟨by omega,?_⟩
 split<;>omega
theorem add_words(a b:Int):lo (a+b)=(lo a+lo b+0)%18446744073709551616∧hi (a+b)=(hi a+hi b+(lo a+lo b+0) / 18446744073709551616)%18446744073709551616:=by
 unfold hi lo;omega
set_option maxHeartbeats 1000000 in
set_option maxRecDepth 100000 in
theorem sub_wv(a b:Int)(w:World)(ha:Fits a)(hb:Fits b)(hab:Fits (a-b)):Calls Tryz.prog 107 #[wv a,wv b] w fun e w'=>e=.returned (.tuple #[wv (a-b),.bool true])∧Below w.heap.size w w':=by
 obtain⟨h1,h2⟩:=sub_words a b;have s1:=fun w=>sub64' (lo a) (lo b) 0 (lo (a-b)) (if lo a<lo b+0 then 1 else 0) (lo_0 a) (lo_1 a) (lo_0 b) (lo_1 b) (by omega) (by omega) h1 rfl w
 have k0:0≤(if lo a<lo b+0 then 1 else 0:Int):=by split<;>omega
 have k1:(if lo a<lo b+0 then 1 else 0:Int)≤1:=by split<;>omega
 generalize (if lo a<lo b+0 then 1 else 0:Int)=k at s1 k0 k1 h2;obtain⟨m,hm⟩:∃m:Int,m=if hi a<hi b+k then 1 else 0:=⟨_,rfl⟩
 have s2:=fun w=>sub64' (hi a) (hi b) k (hi (a-b)) m (hi_0 a) (hi_1 a) (hi_0 b) (hi_1 b) k0 k1 h2 hm w
 have ma:=fun w=>minus_wv a ha _ rfl w
 have mb:=fun w=>minus_wv b hb _ rfl w
 have mab:=fun w=>minus_wv (a-b) hab _ rfl w
 have hg:(decide (a<0) != decide (b<0))=true→(decide (a-b<0) != decide (a<0))=false:=by
  intro h;by_cases h3:a<0<;>by_cases h4:b<0<;>simp[h3,h4]at h ⊢ <;> omega
 generalize decide (a<0)=sa at ma hg;generalize decide (b<0)=sb at mb hg;generalize decide (a-b<0)=sab at mab hg;generalize a-b=d at s1 s2 mab ⊢;have MA:=Hd ma;have MB:=Hd mb;have MD:=Hd mab;clear ma mb mab h1 h2 k0 k1 hm ha hb hab
 go_enter Tryz.func107,Tryz.ntmps107
 go_upto_region 4 with(fail)
 have B0:=(((Blk.new w 98 #[.int .u64 (hi a),.int .u64 (lo a)]).alloc (.cells #[.int .u64 (hi b),.int .u64 (lo b)] 98)).alloc (.cells #[.int .u64 0,.int .u64 0] 98)).alloc (.cells #[.int .u64 (hi d),.int .u64 (lo d)] 98);have B1:=((Blk.new' (n:=w.heap.size+1) (w.alloc (.cells #[.int .u64 (hi a),.int .u64 (lo a)] 98)) 98 #[.int .u64 (hi b),.int .u64 (lo b)] (by simp)).alloc (.cells #[.int .u64 0,.int .u64 0] 98)).alloc (.cells #[.int .u64 (hi d),.int .u64 (lo d)] 98);have B2:=(Blk.new' (n:=w.heap.size+1+1) ((w.alloc (.cells #[.int .u64 (hi a),.int .u64 (lo a)] 98)).alloc (.cells #[.int .u64 (hi b),.int .u64 (lo b)] 98)) 98 #[.int .u64 0,.int .u64 0] (by simp)).alloc (.cells #[.int .u64 (hi d),.int .u64 (lo d)] 98);have B3:=Blk.new' (n:=w.heap.size+1+1+1) (((w.alloc (.cells #[.int .u64 (hi a),.int .u64 (lo a)] 98)).alloc (.cells #[.int .u64 (hi b),.int .u64 (lo b)] 98)).alloc (.cells #[.int .u64 0,.int .u64 0] 98)) 98 #[.int .u64 (hi d),.int .u64 (lo d)] (by simp);have HB:=Hd (bel_alloc (bel_alloc (bel_alloc (bel_alloc (bel_refl w) (.cells #[.int .u64 (hi a),.int .u64 (lo a)] 98)) (.cells #[.int .u64 (hi b),.int .u64 (lo b)] 98)) (.cells #[.int .u64 0,.int .u64 0] 98)) (.cells #[.int .u64 (hi d),.int .u64 (lo d)] 98));generalize (((w.alloc (.cells #[.int .u64 (hi a),.int .u64 (lo a)] 98)).alloc (.cells #[.int .u64 (hi b),.int .u64 (lo b)] 98)).alloc (.cells #[.int .u64 0,.int .u64 0] 98)).alloc (.cells #[.int .u64 (hi d),.int .u64 (lo d)] 98)=W at B0 B1 B2 B3 HB ⊢;have l0:=B0.cells 0 _ rfl;have l1:=B0.cells 1 _ rfl;have l2:=B1.cells 0 _ rfl;have l3:=B1.cells 1 _ rfl;have l4:=B3.cells 0 _ rfl;have l5:=B3.cells 1 _ rfl;have H0:=Hd B0;have H2:=Hd B2;have H3:=Hd B3;clear B0 B1 B2 B3;cases sa<;>cases sb<;>cases sab<;>simp at hg
 all_goals
  refine Go.Gq.region (by kernel_rfl) (by kernel_rfl) ?_
  repeat (go_big_quiet_step ((first| (go_at_call 82;exact Gq.call (MA.out _))|(go_at_call 82;exact Gq.call (MB.out _))|(go_at_call 82;exact Gq.call (MD.out _)))))
  refine wpQuiet_nil ?_;intro wx hw';have hwx:=Go.Gq.later_bel hw';clear hw' l0 l1 l2 l3 l4 l5;obtain⟨k0,k1,_,_⟩:=(H3.out.later hwx).two;obtain⟨n0,n1,n2,n3⟩:=(H2.out.later hwx).two;have HX:=Hd hwx;obtain⟨m0,m1,m2,m3⟩:=(H2.out.later hwx).two_set (u:=.int .u64 (hi d)) (v:=.int .u64 (lo d));clear hwx;go_wp2;exact bodyPost_ret (v:=.tuple #[wv d,.bool true]) (by simp[results,Tryz.results107,go_sem,m0,m1]) rfl ⟨rfl,bel_set (bel_set (bel_step HB.out HX.out) (by omega) _ _) (by omega) _ _⟩
end Wd
end Go.Proofs.YtdihefgleefhmaaGreat
namespace Go.Proofs.YtdihefgleefhmaaGreat
open Go.RowKit
namespace Wd
set_option maxRecDepth 100000 in
theorem eq88(a b c d:Int)(w:World):(Op.equalIn 10000 98 (.agg #[.int .u64 a,.int .u64 b]) (.agg #[.int .u64 c,.int .u64 d])).run Tryz.prog w=.ok (a==c&&b==d) w:=by
 have u3:=Tryz.underlying96;have a3:=Tryz.isAgg86;have z3:=Tryz.sizeOf86;have hS:Tryz.prog.underlying 98=some (.struct (Tryz.prog.fieldsOf 98)):=by kernel_rfl
 rw[show(10000:Nat)=9999+1 from rfl,run_equalIn_agg w 9999 98 _ _ hS (by kernel_rfl)];simp only[Program.fieldsOf,Tryz.underlying98];go_simp;by_cases h1:a=c<;>by_cases h2:b=d<;>simp[h1,h2]
attribute [local go_sem] eq88
theorem sign_pos(n:Int)(h:Fits n)(h1:0<n):(hi n==0)=false∨(hi n=0∧(lo n==0)=false):=by
 unfold Fits at h;unfold hi lo;simp only[beq_eq_false_iff_ne];omega
set_option maxHeartbeats 1000000 in
theorem sign_wv(n:Int)(w:World)(h:Fits n):Calls Tryz.prog 45 #[wv n] w fun e w'=>e=.returned (.int .i64 n.sign)∧Below w.heap.size w w':=by
 have hm:=fun w=>minus_wv n h _ rfl w
 rcases Int.lt_trichotomy n 0 with h1|h1|h1
 ·rw[decide_eq_true h1]at hm
  have HM:=Hd hm;rw[Int.sign_eq_neg_one_of_neg h1];clear hm
  go_enter Tryz.func45,Tryz.ntmps45
  go_wp2_with (go_at_call 82;refine(HM.out _).mono ?_;rintro e w1 ⟨rfl,hb1⟩)
  go_ret
  exact⟨rfl,bel_step (bel_alloc (bel_refl _) _) hb1⟩
 ·subst h1
  have HM:=Hd hm;have e1:hi 0=0:=rfl;have e2:lo 0=0:=rfl;simp only[wv,e1,e2]at HM ⊢;clear hm e1 e2
  go_enter Tryz.func45,Tryz.ntmps45
  go_wp2_with (go_at_call 82;refine(HM.out _).mono ?_;rintro e w1 ⟨rfl,hb1⟩;obtain⟨k0,k1,k2,k3⟩:=((Blk.new w 98 #[.int .u64 0,.int .u64 0]).later hb1).two;have HB:=Hd hb1;clear hb1)
  go_ret
  exact⟨rfl,bel_step (bel_alloc (bel_refl _) _) HB.out⟩
 ·rw[decide_eq_false (by omega:¬n<0)]at hm
  have HM:=Hd hm;rw[Int.sign_eq_one_of_pos h1];clear hm;rcases sign_pos n h h1 with hs|⟨hs,ht⟩
  ·go_enter Tryz.func45,Tryz.ntmps45
   go_wp2_with (go_at_call 82;refine(HM.out _).mono ?_;rintro e w1 ⟨rfl,hb1⟩;obtain⟨k0,k1,k2,k3⟩:=((Blk.new w 98 #[.int .u64 (hi n),.int .u64 (lo n)]).later hb1).two;have HB:=Hd hb1;clear hb1)
   go_ret
   exact⟨rfl,bel_step (bel_alloc (bel_refl _) _) HB.out⟩
  ·simp only[wv,hs]at HM ⊢
   clear hs
   go_enter Tryz.func45,Tryz.ntmps45
   go_wp2_with (go_at_call 82;refine(HM.out _).mono ?_;rintro e w1 ⟨rfl,hb1⟩;obtain⟨k0,k1,k2,k3⟩:=((Blk.new w 98 #[.int .u64 0,.int .u64 (lo n)]).later hb1).two;have HB:=Hd hb1;clear hb1)
   go_ret
   exact⟨rfl,bel_step (bel_alloc (bel_refl _) _) HB.out⟩
set_option maxHeartbeats 1000000 in
theorem det_wv(a b c d:Int)(w:World)(a0:-9223372036854775808≤a)(a1:a≤9223372036854775807)(b0:-9223372036854775808≤b)(b1:b≤9223372036854775807)(c0:-9223372036854775808≤c)(c1:c≤9223372036854775807)(d0:-9223372036854775808≤d)(d1:d≤9223372036854775807)
  (h1:Fits (a*d)) (h2:Fits (b*c)) (h3:Fits (a*d-b*c)) :
  Calls Tryz.prog 78 #[.int .i64 a,.int .i64 b,.int .i64 c,.int .i64 d] w fun e w'=>e=.returned (wv (a*d-b*c))∧Below w.heap.size w w':=by
 have m1:=fun w=>mul_wv a d w a0 a1 d0 d1
 have m2:=fun w=>mul_wv b c w b0 b1 c0 c1
 generalize a*d=x at *;generalize b*c=y at *;have m3:=fun w=>sub_wv x y w h1 h2 h3
 generalize x-y=z at *;have M1:=Hd m1;have M2:=Hd m2;have M3:=Hd m3;clear m1 m2 m3 h1 h2 h3 a0 a1 b0 b1 c0 c1 d0 d1
 go_enter Tryz.func78,Tryz.ntmps78
 go_wp2_with fail
 refine(M1.out _).mono ?_;rintro e w1 ⟨rfl,hb1⟩;have K1:=Hd ((Blk.new w 98 #[.int .u64 0,.int .u64 0]).later hb1);have HB1:=Hd (bel_step (bel_alloc (bel_refl w) _) hb1);clear hb1
 go_wp2_with fail
 refine(M2.out _).mono ?_;rintro e w2 ⟨rfl,hb2⟩;have K2:=Hd (K1.out.later hb2);have HB2:=Hd (bel_step HB1.out hb2);clear hb2
 go_wp2_with fail
 refine(M3.out _).mono ?_;rintro e w3 ⟨rfl,hb3⟩;have K3:=Hd ((K2.out.later hb3).alloc (.cells #[.int .u64 (hi z),.int .u64 (lo z)] 98));have HB3:=Hd (bel_step HB2.out hb3);obtain⟨k0,k1,k2,k3⟩:=K3.out.two;obtain⟨n0,n1,_,_⟩:=K3.out.two_set (u:=.int .u64 (hi z)) (v:=.int .u64 (lo z));clear hb3;go_wp2;exact bodyPost_ret (v:=wv z) (by simp[results,Tryz.results78,go_sem,n0,n1]) rfl ⟨rfl,bel_set (bel_set (bel_alloc HB3.out _) (Nat.le_refl _) _ _) (Nat.le_refl _) _ _⟩
end Wd
end Go.Proofs.YtdihefgleefhmaaGreat
namespace Go.Proofs.YtdihefgleefhmaaGreat
open Go.RowKit
structure Pt where
 x:Int
 y:Int
deriving DecidableEq
def Pt.near(p:Pt):Prop:=-2147483648≤p.x∧p.x≤2147483648∧-2147483648≤p.y∧p.y≤2147483648
abbrev pv(p:Pt):Value:=.agg #[.int .i64 p.x,.int .i64 p.y]
def ori(a b c:Pt):Int:=(b.x-a.x)*(c.y-a.y)-(b.y-a.y)*(c.x-a.x)
namespace Pr
open Wd
theorem eq32(a b c d:Int)(w:World):(Op.equalIn 10000 24 (.agg #[.int .i64 a,.int .i64 b]) (.agg #[.int .i64 c,.int .i64 d])).run Tryz.prog w=.ok (a==c&&b==d) w:=by
 have u3:=Tryz.underlying3;have a3:=Tryz.isAgg3;have z3:=Tryz.sizeOf3;have hS:Tryz.prog.underlying 24=some (.struct (Tryz.prog.fieldsOf 24)):=by kernel_rfl
 rw[show(10000:Nat)=9999+1 from rfl,run_equalIn_agg w 9999 24 _ _ hS (by kernel_rfl)];simp only[Program.fieldsOf,Tryz.underlying24];go_simp;by_cases h1:a=c<;>by_cases h2:b=d<;>simp[h1,h2]
def ptEq(a b c d:Int):Bool:=decide (a=c∧b=d)
theorem ptEq_iff(p q:Pt):ptEq p.x p.y q.x q.y=decide (p=q):=by
 unfold ptEq;rw[Bool.eq_iff_iff];cases p;cases q;simp
theorem eqP32(a b c d:Int)(w:World):(Op.equalIn 10000 24 (.agg #[.int .i64 a,.int .i64 b]) (.agg #[.int .i64 c,.int .i64 d])).run Tryz.prog w=.ok (ptEq a b c d) w:=by
 rw[eq32]
 congr 1
 unfold ptEq;rw[Bool.eq_iff_iff];simp
theorem run_eql32(a b c d:Int)(w:World):(binOp .eql 24 (.agg #[.int .i64 a,.int .i64 b]) (.agg #[.int .i64 c,.int .i64 d])).run Tryz.prog w=.ok (.bool (ptEq a b c d)) w:=by
 simp only[binOp];simp[Op.equal,Op.maxDepth,eqP32 a b c d w]
theorem run_neq32(a b c d:Int)(w:World):(binOp .neq 24 (.agg #[.int .i64 a,.int .i64 b]) (.agg #[.int .i64 c,.int .i64 d])).run Tryz.prog w=.ok (.bool (!ptEq a b c d)) w:=by
 simp only[binOp];simp[Op.equal,Op.maxDepth,eqP32 a b c d w]
theorem mul_bd(a b:Int)(a0:-4294967296≤a)(a1:a≤4294967296)(b0:-4294967296≤b)(b1:b≤4294967296):-18446744073709551616≤a*b∧a*b≤18446744073709551616:=by
 have h1:a.natAbs*b.natAbs≤4294967296*4294967296:=Nat.mul_le_mul (by omega) (by omega);rw[←Int.natAbs_mul]at h1;omega
theorem area2_any(a b c:Pt)(w:World)(ha:a.near)(hb:b.near)(hc:c.near) :
  Calls Tryz.prog 46 #[pv a,pv b,pv c] w fun e w'=>e=.returned (wv (ori a b c))∧Below w.heap.size w w':=by
 obtain⟨ax,ay⟩:=a;obtain⟨bx,bY⟩:=b;obtain⟨cx,cy⟩:=c;obtain⟨p1,p2,p3,p4⟩:=ha;obtain⟨p5,p6,p7,p8⟩:=hb;obtain⟨p9,p10,p11,p12⟩:=hc;simp only[ori]at *;have h1:=mul_bd (bx-ax) (cy-ay) (by omega) (by omega) (by omega) (by omega);have h2:=mul_bd (bY-ay) (cx-ax) (by omega) (by omega) (by omega) (by omega);have hd:=fun w=>det_wv (bx-ax) (bY-ay) (cx-ax) (cy-ay) w (by omega) (by omega) (by omega) (by omega) (by omega) (by omega) (by omega) (by omega) (by unfold Fits;omega) (by unfold Fits;omega) (by unfold Fits;omega)
 clear h1 h2;generalize (bx-ax)*(cy-ay)-(bY-ay)*(cx-ax)=d at *;have HD:=Hd hd;clear hd
 go_enter Tryz.func46,Tryz.ntmps46
 go_wp2_with fail
 refine(HD.out _).mono ?_;rintro e w1 ⟨rfl,hb1⟩;have K:=((Blk.new' (n:=w.heap.size+1+1+1) (((w.alloc (.cells #[.int .i64 ax,.int .i64 ay] 24)).alloc (.cells #[.int .i64 bx,.int .i64 bY] 24)).alloc (.cells #[.int .i64 cx,.int .i64 cy] 24)) 98 #[.int .u64 0,.int .u64 0] (by simp)).later hb1);have HB:=Hd (bel_step (bel_alloc (bel_alloc (bel_alloc (bel_alloc (bel_refl w) _) _) _) _) hb1);obtain⟨k0,k1,k2,k3⟩:=K.two;obtain⟨n0,n1,_,_⟩:=K.two_set (u:=.int .u64 (hi d)) (v:=.int .u64 (lo d));clear K hb1;go_wp2;exact bodyPost_ret (v:=wv d) (by simp[results,Tryz.results46,go_sem,n0,n1]) rfl ⟨rfl,bel_set (bel_set HB.out (by omega) _ _) (by omega) _ _⟩
theorem ori_fits(a b c:Pt)(ha:a.near)(hb:b.near)(hc:c.near):Fits (ori a b c):=by
 obtain⟨p1,p2,p3,p4⟩:=ha;obtain⟨p5,p6,p7,p8⟩:=hb;obtain⟨p9,p10,p11,p12⟩:=hc;have h1:=mul_bd (b.x-a.x) (c.y-a.y) (by omega) (by omega) (by omega) (by omega);have h2:=mul_bd (b.y-a.y) (c.x-a.x) (by omega) (by omega) (by omega) (by omega);unfold ori Fits;omega
theorem orient_any(a b c:Pt)(w:World)(ha:a.near)(hb:b.near)(hc:c.near) :
  Calls Tryz.prog 16 #[pv a,pv b,pv c] w fun e w'=>e=.returned (.int .i64 (ori a b c).sign)∧Below w.heap.size w w':=by
 have h1:=Hd (fun w=>area2_any a b c w ha hb hc);have h2:=Hd (fun w=>sign_wv (ori a b c) w (ori_fits a b c ha hb hc));clear ha hb hc
 go_enter Tryz.func16,Tryz.ntmps16
 go_wp2_with fail
 refine(h1.out _).mono ?_;rintro e w1 ⟨rfl,hb1⟩;have HB:=Hd (bel_step (bel_alloc (bel_alloc (bel_alloc (bel_refl w) _) _) _) hb1);clear hb1
 go_wp2_with fail
 refine(h2.out _).mono ?_;rintro e w2 ⟨rfl,hb2⟩;have HB2:=Hd (bel_step HB.out hb2);clear hb2;go_wp2
 go_ret
 exact⟨rfl,HB2.out⟩
def tame(p:Pt):Pt:=⟨min (max p.x (-2147483648)) 2147483648,min (max p.y (-2147483648)) 2147483648⟩
theorem tame_near(p:Pt):(tame p).near:=by unfold tame Pt.near;dsimp only;omega
theorem run_maxI(P:Program)(ts:Array TypeId)(t:TypeId)(k k':IntKind)(x y:Int)(w:World):(Builtin.max_ ts t #[.int k x,.int k' y]).run P w=.ok (.int k (max x y)) w:=by
 rw[run_max_int2];congr 2;split<;>omega
theorem run_minI(P:Program)(ts:Array TypeId)(t:TypeId)(k k':IntKind)(x y:Int)(w:World):(Builtin.min_ ts t #[.int k x,.int k' y]).run P w=.ok (.int k (min x y)) w:=by
 rw[run_min_int2];congr 2;split<;>omega
attribute [local go_sem high] run_maxI run_minI
theorem tame_any(p:Pt)(w:World):Calls Tryz.prog 9 #[pv p] w fun e w'=>e=.returned (pv (tame p))∧Below w.heap.size w w':=by
 obtain⟨x,y⟩:=p;simp only[tame]
 go_enter Tryz.func9,Tryz.ntmps9
 go_wp2;exact bodyPost_ret (v:=pv ⟨min (max x (-2147483648)) 2147483648,min (max y (-2147483648)) 2147483648⟩) (by simp[results,Tryz.results9,go_sem]) rfl ⟨rfl,bel_alloc (bel_alloc (bel_refl w) _) _⟩
def onB(p a b:Pt):Bool:=decide (ori a b p=0)&&decide (min a.x b.x≤p.x)&&decide (p.x≤max a.x b.x)&&decide (min a.y b.y≤p.y)&&decide (p.y≤max a.y b.y)
theorem sign_eq0(n:Int):(n.sign==0)=decide (n=0):=by
 rw[Bool.eq_iff_iff];simp[Int.sign_eq_zero_iff_zero]
set_option maxHeartbeats 1000000 in
theorem on_any(p a b:Pt)(w:World)(hp:p.near)(ha:a.near)(hb:b.near) :
  Calls Tryz.prog 52 #[pv p,pv a,pv b] w fun e w'=>e=.returned (.bool (onB p a b))∧Below w.heap.size w w':=by
 have h1:=Hd (fun w=>orient_any a b p w ha hb hp);clear ha hb hp;obtain⟨px,py⟩:=p;obtain⟨ax,ay⟩:=a;obtain⟨bx,bY⟩:=b;unfold onB;have hs:=sign_eq0 (ori ⟨ax,ay⟩ ⟨bx,bY⟩ ⟨px,py⟩);generalize ori ⟨ax,ay⟩ ⟨bx,bY⟩ ⟨px,py⟩=d at *;generalize d.sign=s at *;dsimp only;cases c1:decide (d=0)
 ·rw[c1]at hs
  clear c1
  go_enter Tryz.func52,Tryz.ntmps52
  go_wp2_with (go_at_call 16;refine(h1.out _).mono ?_;rintro e w1 ⟨rfl,hb1⟩;have HB:=Hd (bel_step (bel_alloc (bel_alloc (bel_alloc (bel_refl w) _) _) _) hb1);clear hb1)
  go_ret
  exact⟨rfl,HB.out⟩
 rw[c1]at hs;clear c1;cases c2:decide (min ax bx≤px)
 ·go_enter Tryz.func52,Tryz.ntmps52
  go_wp2_with (go_at_call 16;refine(h1.out _).mono ?_;rintro e w1 ⟨rfl,hb1⟩;have HB:=Hd (bel_step (bel_alloc (bel_alloc (bel_alloc (bel_refl w) _) _) _) hb1);obtain⟨k0,k1,_,_⟩:=(((Blk.new w 24 #[.int .i64 px,.int .i64 py]).alloc (.cells #[.int .i64 ax,.int .i64 ay] 24)).alloc (.cells #[.int .i64 bx,.int .i64 bY] 24)).later hb1 |>.two;obtain⟨k2,k3,_,_⟩:=((Blk.new' (n:=w.heap.size+1) (w.alloc (.cells #[.int .i64 px,.int .i64 py] 24)) 24 #[.int .i64 ax,.int .i64 ay] (by simp)).alloc (.cells #[.int .i64 bx,.int .i64 bY] 24)).later hb1 |>.two;obtain⟨k4,k5,_,_⟩:=(Blk.new' (n:=w.heap.size+1+1) ((w.alloc (.cells #[.int .i64 px,.int .i64 py] 24)).alloc (.cells #[.int .i64 ax,.int .i64 ay] 24)) 24 #[.int .i64 bx,.int .i64 bY] (by simp)).later hb1 |>.two;clear hb1)
  go_ret
  exact⟨rfl,HB.out⟩
 cases c3:decide (px≤max ax bx)
 ·go_enter Tryz.func52,Tryz.ntmps52
  go_wp2_with (go_at_call 16;refine(h1.out _).mono ?_;rintro e w1 ⟨rfl,hb1⟩;have HB:=Hd (bel_step (bel_alloc (bel_alloc (bel_alloc (bel_refl w) _) _) _) hb1);obtain⟨k0,k1,_,_⟩:=(((Blk.new w 24 #[.int .i64 px,.int .i64 py]).alloc (.cells #[.int .i64 ax,.int .i64 ay] 24)).alloc (.cells #[.int .i64 bx,.int .i64 bY] 24)).later hb1 |>.two;obtain⟨k2,k3,_,_⟩:=((Blk.new' (n:=w.heap.size+1) (w.alloc (.cells #[.int .i64 px,.int .i64 py] 24)) 24 #[.int .i64 ax,.int .i64 ay] (by simp)).alloc (.cells #[.int .i64 bx,.int .i64 bY] 24)).later hb1 |>.two;obtain⟨k4,k5,_,_⟩:=(Blk.new' (n:=w.heap.size+1+1) ((w.alloc (.cells #[.int .i64 px,.int .i64 py] 24)).alloc (.cells #[.int .i64 ax,.int .i64 ay] 24)) 24 #[.int .i64 bx,.int .i64 bY] (by simp)).later hb1 |>.two;clear hb1)
  go_ret
  exact⟨rfl,HB.out⟩
 cases c4:decide (min ay bY≤py)
 ·go_enter Tryz.func52,Tryz.ntmps52
  go_wp2_with (go_at_call 16;refine(h1.out _).mono ?_;rintro e w1 ⟨rfl,hb1⟩;have HB:=Hd (bel_step (bel_alloc (bel_alloc (bel_alloc (bel_refl w) _) _) _) hb1);obtain⟨k0,k1,_,_⟩:=(((Blk.new w 24 #[.int .i64 px,.int .i64 py]).alloc (.cells #[.int .i64 ax,.int .i64 ay] 24)).alloc (.cells #[.int .i64 bx,.int .i64 bY] 24)).later hb1 |>.two;obtain⟨k2,k3,_,_⟩:=((Blk.new' (n:=w.heap.size+1) (w.alloc (.cells #[.int .i64 px,.int .i64 py] 24)) 24 #[.int .i64 ax,.int .i64 ay] (by simp)).alloc (.cells #[.int .i64 bx,.int .i64 bY] 24)).later hb1 |>.two;obtain⟨k4,k5,_,_⟩:=(Blk.new' (n:=w.heap.size+1+1) ((w.alloc (.cells #[.int .i64 px,.int .i64 py] 24)).alloc (.cells #[.int .i64 ax,.int .i64 ay] 24)) 24 #[.int .i64 bx,.int .i64 bY] (by simp)).later hb1 |>.two;clear hb1)
  go_ret
  exact⟨rfl,HB.out⟩
 cases c5:decide (py≤max ay bY)
 ·go_enter Tryz.func52,Tryz.ntmps52
  go_wp2_with (go_at_call 16;refine(h1.out _).mono ?_;rintro e w1 ⟨rfl,hb1⟩;have HB:=Hd (bel_step (bel_alloc (bel_alloc (bel_alloc (bel_refl w) _) _) _) hb1);obtain⟨k0,k1,_,_⟩:=(((Blk.new w 24 #[.int .i64 px,.int .i64 py]).alloc (.cells #[.int .i64 ax,.int .i64 ay] 24)).alloc (.cells #[.int .i64 bx,.int .i64 bY] 24)).later hb1 |>.two;obtain⟨k2,k3,_,_⟩:=((Blk.new' (n:=w.heap.size+1) (w.alloc (.cells #[.int .i64 px,.int .i64 py] 24)) 24 #[.int .i64 ax,.int .i64 ay] (by simp)).alloc (.cells #[.int .i64 bx,.int .i64 bY] 24)).later hb1 |>.two;obtain⟨k4,k5,_,_⟩:=(Blk.new' (n:=w.heap.size+1+1) ((w.alloc (.cells #[.int .i64 px,.int .i64 py] 24)).alloc (.cells #[.int .i64 ax,.int .i64 ay] 24)) 24 #[.int .i64 bx,.int .i64 bY] (by simp)).later hb1 |>.two;clear hb1)
  go_ret
  exact⟨rfl,HB.out⟩
 go_enter Tryz.func52,Tryz.ntmps52
 go_wp2_with (go_at_call 16;refine(h1.out _).mono ?_;rintro e w1 ⟨rfl,hb1⟩;have HB:=Hd (bel_step (bel_alloc (bel_alloc (bel_alloc (bel_refl w) _) _) _) hb1);obtain⟨k0,k1,_,_⟩:=(((Blk.new w 24 #[.int .i64 px,.int .i64 py]).alloc (.cells #[.int .i64 ax,.int .i64 ay] 24)).alloc (.cells #[.int .i64 bx,.int .i64 bY] 24)).later hb1 |>.two;obtain⟨k2,k3,_,_⟩:=((Blk.new' (n:=w.heap.size+1) (w.alloc (.cells #[.int .i64 px,.int .i64 py] 24)) 24 #[.int .i64 ax,.int .i64 ay] (by simp)).alloc (.cells #[.int .i64 bx,.int .i64 bY] 24)).later hb1 |>.two;obtain⟨k4,k5,_,_⟩:=(Blk.new' (n:=w.heap.size+1+1) ((w.alloc (.cells #[.int .i64 px,.int .i64 py] 24)).alloc (.cells #[.int .i64 ax,.int .i64 ay] 24)) 24 #[.int .i64 bx,.int .i64 bY] (by simp)).later hb1 |>.two;clear hb1)
 go_ret
 exact⟨rfl,HB.out⟩
def betB(p a b:Pt):Bool:=decide (p≠a)&&decide (p≠b)&&onB p a b
attribute [local go_sem high] run_eql32 run_neq32
set_option maxRecDepth 100000 in
set_option maxHeartbeats 1000000 in
theorem between_any(p a b:Pt)(w:World)(hp:p.near)(ha:a.near)(hb:b.near) :
  Calls Tryz.prog 43 #[pv p,pv a,pv b] w fun e w'=>e=.returned (.bool (betB p a b))∧Below w.heap.size w w':=by
 have h1:=Hd (fun w=>on_any p a b w hp ha hb);clear ha hb hp;unfold betB;have e1:=ptEq_iff p a;have e2:=ptEq_iff p b;rw[decide_not,decide_not,←e1,←e2];clear e1 e2;obtain⟨px,py⟩:=p;obtain⟨ax,ay⟩:=a;obtain⟨bx,bY⟩:=b;generalize onB ⟨px,py⟩ ⟨ax,ay⟩ ⟨bx,bY⟩=d at *;dsimp only;cases c1:ptEq px py ax ay
 ·cases c2:ptEq px py bx bY
  ·go_enter Tryz.func43,Tryz.ntmps43
   go_wp2_with (go_at_call 52;refine(h1.out _).mono ?_;rintro e w1 ⟨rfl,hb1⟩;have HB:=Hd (bel_step (bel_alloc (bel_alloc (bel_alloc (bel_refl w) _) _) _) hb1);clear hb1)
   go_ret
   exact⟨by simp,HB.out⟩
  ·go_enter Tryz.func43,Tryz.ntmps43
   go_wp2
   go_ret
   exact⟨by simp,bel_alloc (bel_alloc (bel_alloc (bel_refl w) _) _) _⟩
 ·go_enter Tryz.func43,Tryz.ntmps43
  go_wp2
  go_ret
  exact⟨by simp,bel_alloc (bel_alloc (bel_alloc (bel_refl w) _) _) _⟩
end Pr
end Go.Proofs.YtdihefgleefhmaaGreat
