import Derived.Test.YtdihefgleefhmaaGreatPg
namespace Go.Proofs.YtdihefgleefhmaaGreat
structure V4 where
 x:Int
 y:Int
 h:Int
 w:Int
def om(p01 p02 p03 p12 p13 p23:Int)(c d:V4):Int:=p01*(c.h*d.w-c.w*d.h)-p02*(c.y*d.w-c.w*d.y)+p03*(c.y*d.h-c.h*d.y)+p12*(c.x*d.w-c.w*d.x)-p13*(c.x*d.h-c.h*d.x)+p23*(c.x*d.y-c.y*d.x)
def det4(a b c d:V4):Int:=om (a.x*b.y-a.y*b.x) (a.x*b.h-a.h*b.x) (a.x*b.w-a.w*b.x) (a.y*b.h-a.h*b.y) (a.y*b.w-a.w*b.y) (a.h*b.w-a.w*b.h) c d
theorem det4_s1(a b c d:V4):det4 b a c d=- det4 a b c d:=by unfold det4 om;grind
theorem det4_s3(a b c d:V4):det4 a b d c=- det4 a b c d:=by unfold det4 om;grind
theorem det4_s2(a b c d:V4):det4 a c b d=- det4 a b c d:=by unfold det4 om;grind
theorem om_pf(p01 p02 p03 p12 p13 p23:Int)(c d e f:V4)(h:p01*p23-p02*p13+p03*p12=0) :
  om p01 p02 p03 p12 p13 p23 c d*om p01 p02 p03 p12 p13 p23 e f-om p01 p02 p03 p12 p13 p23 c e*om p01 p02 p03 p12 p13 p23 d f+om p01 p02 p03 p12 p13 p23 c f*om p01 p02 p03 p12 p13 p23 d e=0:=by
 have:om p01 p02 p03 p12 p13 p23 c d*om p01 p02 p03 p12 p13 p23 e f-om p01 p02 p03 p12 p13 p23 c e*om p01 p02 p03 p12 p13 p23 d f+om p01 p02 p03 p12 p13 p23 c f*om p01 p02 p03 p12 p13 p23 d e=(p01*p23-p02*p13+p03*p12)*det4 c d e f:=by
  unfold det4 om
  grind
 rw[this,h,Int.zero_mul]
theorem det4_pl(a b c d e f:V4):det4 a b c d*det4 a b e f-det4 a b c e*det4 a b d f+det4 a b c f*det4 a b d e=0:=
 om_pf _ _ _ _ _ _ c d e f (by grind)
end Go.Proofs.YtdihefgleefhmaaGreat
namespace Go.Proofs.YtdihefgleefhmaaGreat
def ptq(p:Pt):Int:=p.x*p.x+p.y*p.y
def lift(K e:Int)(p:Pt):V4:=⟨p.x,p.y,K*ptq p+e,1⟩
def farV(N:Int)(z0 z1 z2:Pt):V4:=⟨-(z0.x+z1.x+z2.x),-(z0.y+z1.y+z2.y),N,-3⟩
def ori3(a b z0 z1 z2:Pt):Int:=ori a b z0+ori a b z1+ori a b z2
def dot2(a b p:Pt):Int:=(p.x-a.x)*(b.x-a.x)+(p.y-a.y)*(b.y-a.y)
namespace Kf
theorem det_real(K ea eb ec ep:Int)(a b c p:Pt):det4 (lift K ea a) (lift K eb b) (lift K ec c) (lift K ep p)=K*inc a b c p+(ea*ori b c p-eb*ori a c p+ec*ori a b p-ep*ori a b c):=by
 unfold det4 om lift inc incDet ori ptq
 grind
theorem det_far(K N ea eb ep:Int)(a b p z0 z1 z2:Pt):det4 (lift K ea a) (lift K eb b) (farV N z0 z1 z2) (lift K ep p) =
  N*ori a b p-((K*ptq a+ea)*ori3 p b z0 z1 z2-(K*ptq b+eb)*ori3 p a z0 z1 z2-(K*ptq p+ep)*ori3 a b z0 z1 z2):=by
 unfold det4 om lift farV ori3 ori ptq
 grind
theorem line_ori(a b p z:Pt)(h:ori a b p=0):dot2 a b b*ori p b z=(dot2 a b b-dot2 a b p)*ori a b z∧dot2 a b b*ori p a z=- (dot2 a b p*ori a b z):=by
 have h1:(b.x-a.x)*(p.y-a.y)=(b.y-a.y)*(p.x-a.x):=by unfold ori at h;omega
 unfold dot2 ori;constructor<;>grind
theorem line_q(a b p:Pt)(h:ori a b p=0):dot2 a b b*ptq p-(dot2 a b b-dot2 a b p)*ptq a-dot2 a b p*ptq b=dot2 a b p*dot2 a b p-dot2 a b p*dot2 a b b:=by
 have h1:(b.x-a.x)*(p.y-a.y)=(b.y-a.y)*(p.x-a.x):=by unfold ori at h;omega
 unfold dot2 ptq
 grind
theorem line_far(K ea eb ep:Int)(a b p z0 z1 z2:Pt)(h:ori a b p=0):dot2 a b b*((K*ptq a+ea)*ori3 p b z0 z1 z2-(K*ptq b+eb)*ori3 p a z0 z1 z2-(K*ptq p+ep)*ori3 a b z0 z1 z2) =
  - ori3 a b z0 z1 z2*(K*(dot2 a b p*dot2 a b p-dot2 a b p*dot2 a b b)+(dot2 a b b*ep-(dot2 a b b-dot2 a b p)*ea-dot2 a b p*eb)):=by
 have q:=line_q a b p h
 have e1:dot2 a b b*ori3 p b z0 z1 z2=(dot2 a b b-dot2 a b p)*ori3 a b z0 z1 z2:=by
  have q0:=(line_ori a b p z0 h).1;have q1:=(line_ori a b p z1 h).1;have q2:=(line_ori a b p z2 h).1;unfold ori3
  grind
 have e2:dot2 a b b*ori3 p a z0 z1 z2=- (dot2 a b p*ori3 a b z0 z1 z2):=by
  have q0:=(line_ori a b p z0 h).2;have q1:=(line_ori a b p z1 h).2;have q2:=(line_ori a b p z2 h).2;unfold ori3
  grind
 generalize ori3 p b z0 z1 z2=X at *;generalize ori3 p a z0 z1 z2=Y at *;generalize ori3 a b z0 z1 z2=W at *;generalize dot2 a b b=m at *;generalize dot2 a b p=s at *;generalize ptq a=qa at *;generalize ptq b=qb at *;generalize ptq p=qp at *
 grind
end Kf
end Go.Proofs.YtdihefgleefhmaaGreat
namespace Go.Proofs.YtdihefgleefhmaaGreat
structure Cfg where
 pts:List Pt
 z0:Pt
 z1:Pt
 z2:Pt
 e:Nat→Int
 K:Int
 N:Int
def Cfg.hi(c:Cfg)(i:Nat):Int:=c.K*ptq (pat c.pts i)+c.e i
def Cfg.vec(c:Cfg)(i:Int):V4:=if i<0 then farV c.N c.z0 c.z1 c.z2 else lift c.K (c.e i.toNat) (pat c.pts i.toNat)
def Cfg.D(c:Cfg)(i j k l:Int):Int:=det4 (c.vec i) (c.vec j) (c.vec k) (c.vec l)
structure Cfg.Ok(c:Cfg):Prop where
 near:nearAll c.pts
 n0:c.z0.near
 n1:c.z1.near
 n2:c.z2.near
 pos:∀v,0<c.e v
 top:∀v,1361129467683753853853498429727072845824*c.e v≤c.K
 far:1645504557321206042154969182557350504982735865633579863348609024*c.K≤c.N
namespace Kg
theorem alt(c:Cfg):Alt c.D:=⟨fun _ _ _ _=>det4_s1 _ _ _ _,fun _ _ _ _=>det4_s2 _ _ _ _,fun _ _ _ _=>det4_s3 _ _ _ _,fun _ _ _ _ _ _=>det4_pl _ _ _ _ _ _⟩
theorem bd{e x X:Int}(he:0≤e)(h0:-X≤x)(h1:x≤X):-(e*X)≤e*x∧e*x≤e*X:=by
 have a:=Int.mul_le_mul_of_nonneg_left h0 he;have b:=Int.mul_le_mul_of_nonneg_left h1 he;rw[Int.mul_neg]at a;exact⟨a,b⟩
theorem ori_bd{a b c:Pt}(ha:a.near)(hb:b.near)(hc:c.near):-170141183460469231731687303715884105728≤ori a b c∧ori a b c≤170141183460469231731687303715884105728:=by
 have:=Pr.ori_fits a b c ha hb hc;unfold Wd.Fits at this;omega
theorem pert_bd{ea eb ec ep:Int}{a b c p:Pt}(ha:a.near)(hb:b.near)(hc:c.near)(hp:p.near)(e1:0<ea)(e2:0<eb)(e3:0<ec)(e4:0<ep){K:Int}
  (k1:1361129467683753853853498429727072845824*ea≤K) (k2:1361129467683753853853498429727072845824*eb≤K) (k3:1361129467683753853853498429727072845824*ec≤K) (k4:1361129467683753853853498429727072845824*ep≤K) :
  -K<ea*ori b c p-eb*ori a c p+ec*ori a b p-ep*ori a b c∧ea*ori b c p-eb*ori a c p+ec*ori a b p-ep*ori a b c<K:=by
 have o1:=ori_bd hb hc hp;have o2:=ori_bd ha hc hp;have o3:=ori_bd ha hb hp;have o4:=ori_bd ha hb hc;have b1:=bd (Int.le_of_lt e1) o1.1 o1.2;have b2:=bd (Int.le_of_lt e2) o2.1 o2.2;have b3:=bd (Int.le_of_lt e3) o3.1 o3.2;have b4:=bd (Int.le_of_lt e4) o4.1 o4.2;generalize ea*ori b c p=x1 at *;generalize eb*ori a c p=x2 at *;generalize ec*ori a b p=x3 at *;generalize ep*ori a b c=x4 at *;omega
section
variable {c:Cfg} (h:c.Ok)
theorem K_pos(h:c.Ok):0<c.K:=by have:=h.top 0;have:=h.pos 0;omega
theorem D_real(c:Cfg)(i j k l:Nat):c.D i j k l=c.K*inc (pat c.pts i) (pat c.pts j) (pat c.pts k) (pat c.pts l)+(c.e i*ori (pat c.pts j) (pat c.pts k) (pat c.pts l)-c.e j*ori (pat c.pts i) (pat c.pts k) (pat c.pts l)+c.e k*ori (pat c.pts i) (pat c.pts j) (pat c.pts l)-c.e l*ori (pat c.pts i) (pat c.pts j) (pat c.pts k)):=by
 unfold Cfg.D Cfg.vec;rw[if_neg (by omega),if_neg (by omega),if_neg (by omega),if_neg (by omega)];exact Kf.det_real _ _ _ _ _ _ _ _ _
theorem D_far(c:Cfg)(i j l:Nat):c.D i j (-1) l=c.N*ori (pat c.pts i) (pat c.pts j) (pat c.pts l)-(c.hi i*ori3 (pat c.pts l) (pat c.pts j) c.z0 c.z1 c.z2-c.hi j*ori3 (pat c.pts l) (pat c.pts i) c.z0 c.z1 c.z2-c.hi l*ori3 (pat c.pts i) (pat c.pts j) c.z0 c.z1 c.z2):=by
 unfold Cfg.D Cfg.vec;rw[if_neg (by omega),if_neg (by omega),if_pos (by omega),if_neg (by omega)];exact Kf.det_far _ _ _ _ _ _ _ _ _ _ _
theorem real_sign(h:c.Ok)(i j k l:Nat):(0<inc (pat c.pts i) (pat c.pts j) (pat c.pts k) (pat c.pts l)→0<c.D i j k l)∧(inc (pat c.pts i) (pat c.pts j) (pat c.pts k) (pat c.pts l)<0→c.D i j k l<0):=by
 have p:=pert_bd (h.near i) (h.near j) (h.near k) (h.near l) (h.pos i) (h.pos j) (h.pos k) (h.pos l) (h.top i) (h.top j) (h.top k) (h.top l);have K0:=K_pos h;rw[D_real];generalize inc (pat c.pts i) (pat c.pts j) (pat c.pts k) (pat c.pts l)=n at *;constructor
 ·intro hn
  have:c.K*1≤c.K*n:=Int.mul_le_mul_of_nonneg_left (by omega) (by omega);omega
 ·intro hn
  have:c.K*n≤c.K*(-1):=Int.mul_le_mul_of_nonneg_left (by omega) (by omega);omega
theorem real_tie(h:c.Ok)(i j k l:Nat)(h0:inc (pat c.pts i) (pat c.pts j) (pat c.pts k) (pat c.pts l)=0)(ho:0<ori (pat c.pts i) (pat c.pts j) (pat c.pts k))
  (e1:680564733841876926926749214863536422912*c.e i≤c.e l) (e2:680564733841876926926749214863536422912*c.e j≤c.e l) (e3:680564733841876926926749214863536422912*c.e k≤c.e l):c.D i j k l<0:=by
 rw[D_real,h0,Int.mul_zero,Int.zero_add];have o1:=ori_bd (h.near j) (h.near k) (h.near l);have o2:=ori_bd (h.near i) (h.near k) (h.near l);have o3:=ori_bd (h.near i) (h.near j) (h.near l);have b1:=bd (Int.le_of_lt (h.pos i)) o1.1 o1.2;have b2:=bd (Int.le_of_lt (h.pos j)) o2.1 o2.2;have b3:=bd (Int.le_of_lt (h.pos k)) o3.1 o3.2;have l0:=h.pos l;have b4:c.e l*1≤c.e l*ori (pat c.pts i) (pat c.pts j) (pat c.pts k):=Int.mul_le_mul_of_nonneg_left (by omega) (by omega);generalize c.e i*ori (pat c.pts j) (pat c.pts k) (pat c.pts l)=x1 at *;generalize c.e j*ori (pat c.pts i) (pat c.pts k) (pat c.pts l)=x2 at *;generalize c.e k*ori (pat c.pts i) (pat c.pts j) (pat c.pts l)=x3 at *;generalize c.e l*ori (pat c.pts i) (pat c.pts j) (pat c.pts k)=x4 at *;omega
theorem q_bd{p:Pt}(hp:p.near):0≤ptq p∧ptq p≤9223372036854775808:=by
 obtain⟨a,b,c,d⟩:=hp;have h1:=Qk.mul_bd (A:=2147483648) (B:=2147483648) a b a b;have h2:=Qk.mul_bd (A:=2147483648) (B:=2147483648) c d c d;have h3:0≤p.x*p.x:=by rcases Int.le_total 0 p.x with h|h;exact Int.mul_nonneg h h;exact Int.mul_nonneg_of_nonpos_of_nonpos h h
 have h4:0≤p.y*p.y:=by rcases Int.le_total 0 p.y with h|h;exact Int.mul_nonneg h h;exact Int.mul_nonneg_of_nonpos_of_nonpos h h
 unfold ptq;omega
theorem hi_bd(h:c.Ok)(i:Nat):0<c.hi i∧c.hi i≤18446744073709551616*c.K:=by
 have q:=q_bd (h.near i);have K0:=K_pos h;have h1:c.K*ptq (pat c.pts i)≤c.K*9223372036854775808:=Int.mul_le_mul_of_nonneg_left q.2 (by omega);have h2:0≤c.K*ptq (pat c.pts i):=Int.mul_nonneg (by omega) q.1;have h3:=h.top i;have h4:=h.pos i;unfold Cfg.hi;omega
theorem ori3_bd(h:c.Ok)(i j:Nat):-510423550381407695195061911147652317184≤ori3 (pat c.pts i) (pat c.pts j) c.z0 c.z1 c.z2∧ori3 (pat c.pts i) (pat c.pts j) c.z0 c.z1 c.z2≤510423550381407695195061911147652317184:=by
 have a:=ori_bd (h.near i) (h.near j) h.n0;have b:=ori_bd (h.near i) (h.near j) h.n1;have d:=ori_bd (h.near i) (h.near j) h.n2;unfold ori3;omega
theorem far_bd(h:c.Ok)(i j l:Nat):-c.N<c.hi i*ori3 (pat c.pts l) (pat c.pts j) c.z0 c.z1 c.z2-c.hi j*ori3 (pat c.pts l) (pat c.pts i) c.z0 c.z1 c.z2-c.hi l*ori3 (pat c.pts i) (pat c.pts j) c.z0 c.z1 c.z2∧
  c.hi i*ori3 (pat c.pts l) (pat c.pts j) c.z0 c.z1 c.z2-c.hi j*ori3 (pat c.pts l) (pat c.pts i) c.z0 c.z1 c.z2-c.hi l*ori3 (pat c.pts i) (pat c.pts j) c.z0 c.z1 c.z2<c.N:=by
 have hi:=hi_bd h i;have hj:=hi_bd h j;have hl:=hi_bd h l;have o1:=ori3_bd h l j;have o2:=ori3_bd h l i;have o3:=ori3_bd h i j;have b1:=bd (Int.le_of_lt hi.1) o1.1 o1.2;have b2:=bd (Int.le_of_lt hj.1) o2.1 o2.2;have b3:=bd (Int.le_of_lt hl.1) o3.1 o3.2;have hN:=h.far;have K0:=K_pos h;generalize c.hi i*ori3 (pat c.pts l) (pat c.pts j) c.z0 c.z1 c.z2=x1 at *;generalize c.hi j*ori3 (pat c.pts l) (pat c.pts i) c.z0 c.z1 c.z2=x2 at *;generalize c.hi l*ori3 (pat c.pts i) (pat c.pts j) c.z0 c.z1 c.z2=x3 at *;omega
theorem far_sign(h:c.Ok)(i j l:Nat):(0<ori (pat c.pts i) (pat c.pts j) (pat c.pts l)→0<c.D i j (-1) l)∧(ori (pat c.pts i) (pat c.pts j) (pat c.pts l)<0→c.D i j (-1) l<0):=by
 have p:=far_bd h i j l;have K0:=K_pos h;have hN:=h.far;rw[D_far];generalize c.hi i*ori3 (pat c.pts l) (pat c.pts j) c.z0 c.z1 c.z2-c.hi j*ori3 (pat c.pts l) (pat c.pts i) c.z0 c.z1 c.z2-c.hi l*ori3 (pat c.pts i) (pat c.pts j) c.z0 c.z1 c.z2=y at *;generalize ori (pat c.pts i) (pat c.pts j) (pat c.pts l)=n at *;constructor
 ·intro hn
  have:c.N*1≤c.N*n:=Int.mul_le_mul_of_nonneg_left (by omega) (by omega);omega
 ·intro hn
  have:c.N*n≤c.N*(-1):=Int.mul_le_mul_of_nonneg_left (by omega) (by omega);omega
theorem dot_bd{a b p:Pt}(ha:a.near)(hb:b.near)(hp:p.near):-36893488147419103232≤dot2 a b p∧dot2 a b p≤36893488147419103232:=by
 obtain⟨a1,a2,a3,a4⟩:=ha;obtain⟨b1,b2,b3,b4⟩:=hb;obtain⟨p1,p2,p3,p4⟩:=hp;have h1:=Qk.mul_bd (x:=p.x-a.x) (y:=b.x-a.x) (A:=4294967296) (B:=4294967296) (by omega) (by omega) (by omega) (by omega);have h2:=Qk.mul_bd (x:=p.y-a.y) (y:=b.y-a.y) (A:=4294967296) (B:=4294967296) (by omega) (by omega) (by omega) (by omega);unfold dot2;omega
theorem far_tie(h:c.Ok)(i j l:Nat)(h0:ori (pat c.pts i) (pat c.pts j) (pat c.pts l)=0)(hz:ori3 (pat c.pts i) (pat c.pts j) c.z0 c.z1 c.z2<0)(hm:0<dot2 (pat c.pts i) (pat c.pts j) (pat c.pts j)) :
  (0<dot2 (pat c.pts i) (pat c.pts j) (pat c.pts l)∧dot2 (pat c.pts i) (pat c.pts j) (pat c.pts l)<dot2 (pat c.pts i) (pat c.pts j) (pat c.pts j)→0<c.D i j (-1) l)∧
  (dot2 (pat c.pts i) (pat c.pts j) (pat c.pts l)<0∨dot2 (pat c.pts i) (pat c.pts j) (pat c.pts j)<dot2 (pat c.pts i) (pat c.pts j) (pat c.pts l)→c.D i j (-1) l<0):=by
 have key:=Kf.line_far c.K (c.e i) (c.e j) (c.e l) _ _ _ c.z0 c.z1 c.z2 h0;rw[D_far,h0,Int.mul_zero,Int.zero_sub];have d1:=dot_bd (h.near i) (h.near j) (h.near l);have d2:=dot_bd (h.near i) (h.near j) (h.near j);have K0:=K_pos h
 change dot2 (pat c.pts i) (pat c.pts j) (pat c.pts j)*(c.hi i*ori3 (pat c.pts l) (pat c.pts j) c.z0 c.z1 c.z2-c.hi j*ori3 (pat c.pts l) (pat c.pts i) c.z0 c.z1 c.z2-c.hi l*ori3 (pat c.pts i) (pat c.pts j) c.z0 c.z1 c.z2)=_ at key
 generalize c.hi i*ori3 (pat c.pts l) (pat c.pts j) c.z0 c.z1 c.z2-c.hi j*ori3 (pat c.pts l) (pat c.pts i) c.z0 c.z1 c.z2-c.hi l*ori3 (pat c.pts i) (pat c.pts j) c.z0 c.z1 c.z2=y at *;generalize ori3 (pat c.pts i) (pat c.pts j) c.z0 c.z1 c.z2=Z at *;generalize dot2 (pat c.pts i) (pat c.pts j) (pat c.pts l)=s at *;generalize dot2 (pat c.pts i) (pat c.pts j) (pat c.pts j)=m at *;have p1:=h.pos i;have p2:=h.pos j;have p3:=h.pos l;have t1:=h.top i;have t2:=h.top j;have t3:=h.top l;have b1:=bd (Int.le_of_lt p1) (x:=m-s) (X:=73786976294838206464) (by omega) (by omega);have b2:=bd (Int.le_of_lt p2) (x:=s) (X:=73786976294838206464) (by omega) (by omega);have b3:=bd (Int.le_of_lt p3) (x:=m) (X:=73786976294838206464) (by omega) (by omega);rw[Int.mul_comm]at b1 b2 b3;rw[Int.mul_comm (c.e i)]at b1;rw[Int.mul_comm (c.e j)]at b2;rw[Int.mul_comm (c.e l)]at b3;have hs:s*s-s*m=s*(s-m):=by rw[Int.mul_sub]
 rw[hs]at key;generalize (m-s)*c.e i=x1 at *;generalize s*c.e j=x2 at *;generalize m*c.e l=x3 at *;constructor
 ·rintro⟨s0,s1⟩
  have n1:s*(s-m)≤-1:=by
   have:s*(s-m)<0:=Int.mul_neg_of_pos_of_neg s0 (by omega);omega
  have n2:c.K*(s*(s-m))≤c.K*(-1):=Int.mul_le_mul_of_nonneg_left n1 (by omega);have n3:c.K*(s*(s-m))+(x3-x1-x2)<0:=by omega
  have n4:m*y<0:=by rw[key];exact Int.mul_neg_of_pos_of_neg (by omega) n3
  have:y<0:=by
   rcases Int.lt_or_le y 0 with hy|hy
   ·exact hy
   ·have:=Int.mul_nonneg (Int.le_of_lt hm) hy;omega
  omega
 ·intro hs'
  have n1:1≤s*(s-m):=by
   have:0<s*(s-m):=by
    rcases hs' with hs'|hs'
    ·exact Int.mul_pos_of_neg_of_neg hs' (by omega)
    ·exact Int.mul_pos (by omega) (by omega)
   omega
  have n2:c.K*1≤c.K*(s*(s-m)):=Int.mul_le_mul_of_nonneg_left n1 (by omega);have n3:0<c.K*(s*(s-m))+(x3-x1-x2):=by omega
  have n4:0<m*y:=by rw[key];exact Int.mul_pos (by omega) n3
  have:0<y:=by
   rcases Int.lt_or_le 0 y with hy|hy
   ·exact hy
   ·have:=Int.mul_nonpos_of_nonneg_of_nonpos (Int.le_of_lt hm) hy;omega
  omega
end
end Kg
end Go.Proofs.YtdihefgleefhmaaGreat
namespace Go.Proofs.YtdihefgleefhmaaGreat
def V4.dot(l v:V4):Int:=l.x*v.x+l.y*v.y+l.h*v.h+l.w*v.w
def Cfg.lam(c:Cfg)(b:Int):V4:=if b<0 then ⟨0,0,3,c.N⟩ else
 ⟨-(2*c.K*(pat c.pts b.toNat).x),-(2*c.K*(pat c.pts b.toNat).y),1,2*c.K*ptq (pat c.pts b.toNat)-c.hi b.toNat⟩
def Cfg.l(c:Cfg)(b v:Int):Int:=(c.lam b).dot (c.vec v)
namespace Kh
theorem det4_fn(l b c d y p:V4):det4 b d y p*l.dot c-det4 b c y p*l.dot d+det4 b c d p*l.dot y-det4 b c d y*l.dot p=l.dot b*det4 c d y p:=by
 unfold det4 om V4.dot
 grind
theorem at_self(c:Cfg)(b:Int):c.l b b=0:=by
 unfold Cfg.l Cfg.lam Cfg.vec
 split
 ·unfold V4.dot farV
  simp;omega
 ·unfold V4.dot lift Cfg.hi ptq
  simp
  grind
theorem fn(c:Cfg)(b i j k l:Int):c.D b j k l*c.l b i-c.D b i k l*c.l b j+c.D b i j l*c.l b k-c.D b i j k*c.l b l=0:=by
 have:=det4_fn (c.lam b) (c.vec b) (c.vec i) (c.vec j) (c.vec k) (c.vec l);have h0:=at_self c b;unfold Cfg.l at h0;rw[h0,Int.zero_mul]at this;exact this
theorem sq_pos{a b:Pt}(h:a≠b):1≤(a.x-b.x)*(a.x-b.x)+(a.y-b.y)*(a.y-b.y):=by
 have sq:∀x:Int,0≤x*x:=fun x=>by rcases Int.le_total 0 x with h|h;exact Int.mul_nonneg h h;exact Int.mul_nonneg_of_nonpos_of_nonpos h h
 have h1:=sq (a.x-b.x);have h2:=sq (a.y-b.y);by_cases hx:a.x=b.x
 ·have hy:a.y-b.y≠0:=fun e=>h (by cases a;cases b;simp at *;omega)
  have:(a.y-b.y)*(a.y-b.y)≠0:=Int.mul_ne_zero hy hy;omega
 ·have hy:a.x-b.x≠0:=by omega
  have:(a.x-b.x)*(a.x-b.x)≠0:=Int.mul_ne_zero hy hy;omega
theorem pos_real{c:Cfg}(h:c.Ok)(i j:Nat)(hij:pat c.pts j≠pat c.pts i):0<c.l i j:=by
 have h1:=sq_pos hij
 have e:c.l i j=c.K*(((pat c.pts j).x-(pat c.pts i).x)*((pat c.pts j).x-(pat c.pts i).x)+((pat c.pts j).y-(pat c.pts i).y)*((pat c.pts j).y-(pat c.pts i).y))+c.e j-c.e i:=by
  unfold Cfg.l Cfg.lam Cfg.vec;rw[if_neg (by omega),if_neg (by omega)];unfold V4.dot lift Cfg.hi ptq;simp only[Int.toNat_natCast]
  grind
 rw[e];have K0:=Kg.K_pos h;have h2:=Int.mul_le_mul_of_nonneg_left h1 (Int.le_of_lt K0);have h3:=h.top i;have h4:=h.pos i;have h5:=h.pos j;generalize c.K*_=x at *;omega
theorem pos_far{c:Cfg}(h:c.Ok)(j:Nat):0<c.l (-1) j:=by
 have e:c.l (-1) j=3*c.hi j+c.N:=by
  unfold Cfg.l Cfg.lam Cfg.vec;rw[if_pos (by omega),if_neg (by omega)];unfold V4.dot lift Cfg.hi;simp only[Int.toNat_natCast]
  grind
 rw[e];have h1:=(Kg.hi_bd h j).1;have h2:=h.far;have h3:=Kg.K_pos h;omega
theorem pos_at{c:Cfg}(h:c.Ok)(i:Nat):0<c.l i (-1):=by
 have e:c.l i (-1)=c.N+2*(c.K*((pat c.pts i).x*(c.z0.x+c.z1.x+c.z2.x)))+2*(c.K*((pat c.pts i).y*(c.z0.y+c.z1.y+c.z2.y)))-6*(c.K*ptq (pat c.pts i))+3*c.hi i:=by
  unfold Cfg.l Cfg.lam Cfg.vec;rw[if_neg (by omega),if_pos (by omega)];unfold V4.dot farV;simp only[Int.toNat_natCast]
  grind
 rw[e];have h1:=(Kg.hi_bd h i).1;have h2:=h.far;have h3:=Kg.K_pos h;have q:=Kg.q_bd (h.near i);obtain⟨a1,a2,a3,a4⟩:=h.near i;obtain⟨b1,b2,b3,b4⟩:=h.n0;obtain⟨c1,c2,c3,c4⟩:=h.n1;obtain⟨d1,d2,d3,d4⟩:=h.n2;have m1:=Qk.mul_bd (x:=(pat c.pts i).x) (y:=c.z0.x+c.z1.x+c.z2.x) (A:=2147483648) (B:=6442450944) (by omega) (by omega) (by omega) (by omega);have m2:=Qk.mul_bd (x:=(pat c.pts i).y) (y:=c.z0.y+c.z1.y+c.z2.y) (A:=2147483648) (B:=6442450944) (by omega) (by omega) (by omega) (by omega);have k1:=Kg.bd (Int.le_of_lt h3) m1.1 m1.2;have k2:=Kg.bd (Int.le_of_lt h3) m2.1 m2.2;have k3:=Kg.bd (Int.le_of_lt h3) (x:=ptq (pat c.pts i)) (X:=9223372036854775808) (by omega) (by omega);generalize c.K*((pat c.pts i).x*(c.z0.x+c.z1.x+c.z2.x))=x1 at *;generalize c.K*((pat c.pts i).y*(c.z0.y+c.z1.y+c.z2.y))=x2 at *;generalize c.K*ptq (pat c.pts i)=x3 at *;omega
theorem dot_pos{a b:Pt}(h:a≠b):0<dot2 a b b:=by
 have:=sq_pos (a:=b) (b:=a) (fun e=>h e.symm);unfold dot2;omega
theorem line_vec(a b p:Pt)(h:ori a b p=0):dot2 a b b*(p.x-a.x)=dot2 a b p*(b.x-a.x)∧dot2 a b b*(p.y-a.y)=dot2 a b p*(b.y-a.y):=by
 have h1:(b.x-a.x)*(p.y-a.y)=(b.y-a.y)*(p.x-a.x):=by unfold ori at h;omega
 unfold dot2;constructor<;>grind
theorem part_le{m s u d:Int}(hm:0<m)(h0:0≤s)(h1:s≤m)(e:m*u=s*d):(0≤d→0≤u∧u≤d)∧(d≤0→d≤u∧u≤0):=by
 have le_of:∀{x y:Int},m*x≤m*y→x≤y:=fun {x y} h=>Int.le_of_mul_le_mul_left h hm
 constructor
 ·intro hd
  have a1:0≤s*d:=Int.mul_nonneg h0 hd;have a2:s*d≤m*d:=Int.mul_le_mul_of_nonneg_right h1 hd;exact⟨le_of (by rw[Int.mul_zero,e];exact a1),le_of (by rw[e];exact a2)⟩
 ·intro hd
  have a1:s*d≤0:=Int.mul_nonpos_of_nonneg_of_nonpos h0 hd;have a2:m*d≤s*d:=Int.mul_le_mul_of_nonpos_right h1 hd;exact⟨le_of (by rw[e];exact a2),le_of (by rw[Int.mul_zero,e];exact a1)⟩
theorem same_of{m u:Int}(hm:0<m)(h:m*u=0):u=0:=by
 rcases Int.mul_eq_zero.1 h with h|h<;>omega
theorem on_box(p a b:Pt)(h0:ori a b p=0):Pr.onB p a b=true↔(min a.x b.x≤p.x∧p.x≤max a.x b.x)∧(min a.y b.y≤p.y∧p.y≤max a.y b.y):=by
 unfold Pr.onB;simp only[Bool.and_eq_true,decide_eq_true_eq,h0,true_and];constructor
 ·rintro⟨⟨⟨q1,q2⟩,q3⟩,q4⟩;exact⟨⟨q1,q2⟩,q3,q4⟩
 ·rintro⟨⟨q1,q2⟩,q3,q4⟩;exact⟨⟨⟨q1,q2⟩,q3⟩,q4⟩
theorem in_box{x a b:Int}(h:min a b≤x∧x≤max a b):0≤(x-a)*(b-a)∧0≤(b-x)*(b-a):=by
 rcases Int.le_total a b with hab|hab
 ·exact⟨Int.mul_nonneg (by omega) (by omega),Int.mul_nonneg (by omega) (by omega)⟩
 ·exact⟨Int.mul_nonneg_of_nonpos_of_nonpos (by omega) (by omega),Int.mul_nonneg_of_nonpos_of_nonpos (by omega) (by omega)⟩
theorem bet_iff(p a b:Pt)(h0:ori a b p=0)(hab:a≠b)(hpa:p≠a)(hpb:p≠b) :
  (Pr.betB p a b=true↔0<dot2 a b p∧dot2 a b p<dot2 a b b)∧(Pr.betB p a b=false↔dot2 a b p<0∨dot2 a b b<dot2 a b p):=by
 have hm:=dot_pos hab;obtain⟨v1,v2⟩:=line_vec a b p h0
 have hs0:dot2 a b p≠0:=fun e=>by
  rw[e,Int.zero_mul]at v1 v2;have:=same_of hm v1;have:=same_of hm v2;exact hpa (by cases p;cases a;simp at *;omega)
 have hsm:dot2 a b p≠dot2 a b b:=fun e=>by
  rw[e]at v1 v2;have w1:=Int.eq_of_mul_eq_mul_left (by omega) v1;have w2:=Int.eq_of_mul_eq_mul_left (by omega) v2;exact hpb (by cases p;cases b;simp at *;omega)
 have hb:Pr.betB p a b=Pr.onB p a b:=by
  unfold Pr.betB;simp[hpa,hpb]
 have key:Pr.onB p a b=true↔0<dot2 a b p∧dot2 a b p<dot2 a b b:=by
  rw[on_box p a b h0];constructor
  ·rintro⟨q1,q2⟩
   have x1:=in_box q1;have x2:=in_box q2;have e1:dot2 a b p=(p.x-a.x)*(b.x-a.x)+(p.y-a.y)*(b.y-a.y):=rfl;have e2:dot2 a b b-dot2 a b p=(b.x-p.x)*(b.x-a.x)+(b.y-p.y)*(b.y-a.y):=by unfold dot2;grind
   omega
  ·rintro⟨q1,q2⟩
   have x1:=part_le hm (Int.le_of_lt q1) (Int.le_of_lt q2) v1;have x2:=part_le hm (Int.le_of_lt q1) (Int.le_of_lt q2) v2;constructor
   ·rcases Int.le_total a.x b.x with hx|hx
    ·have:=x1.1 (by omega);omega
    ·have:=x1.2 (by omega);omega
   ·rcases Int.le_total a.y b.y with hx|hx
    ·have:=x2.1 (by omega);omega
    ·have:=x2.2 (by omega);omega
 rw[hb];refine⟨key,?_⟩;constructor
 ·intro h
  have:¬(0<dot2 a b p∧dot2 a b p<dot2 a b b):=fun hh=>by rw[key.2 hh]at h;cases h
  omega
 ·intro h
  rw[Bool.eq_false_iff];intro hh;have:=key.1 hh;omega
end Kh
end Go.Proofs.YtdihefgleefhmaaGreat
namespace Go.Proofs.YtdihefgleefhmaaGreat
structure Del(c:Cfg)(S:Int→Prop)(M:Mesh):Prop where
 poly:Poly c.D S M
 pts:M.pts=c.pts
 far:S (-1)
 nat:∀x,S x→x=-1∨∃n:Nat,x=n∧n<c.pts.length
 z:∃i j k:Nat,S i∧S j∧S k∧pat c.pts i=c.z0∧pat c.pts j=c.z1∧pat c.pts k=c.z2
 flat:ori c.z0 c.z1 c.z2≠0
 real:∀t,M.live t→∀i j k:Nat,M.w t 0=i→M.w t 1=j→M.w t 2=k→0<ori (pat c.pts i) (pat c.pts j) (pat c.pts k)
 dist:∀i j:Nat,S i→S j→i≠j→pat c.pts i≠pat c.pts j
structure New(c:Cfg)(S:Int→Prop)(v:Nat):Prop where
 new:¬S v
 lt:v<c.pts.length
 dist:∀i:Nat,S i→pat c.pts i≠pat c.pts v
 top:∀i:Nat,S i→680564733841876926926749214863536422912*c.e i≤c.e v
namespace Ki
theorem ori_aab(a b:Pt):ori a b a=0∧ori a b b=0:=by unfold ori;constructor<;>grind
theorem flat_of(a b p q r:Pt)(hab:a≠b)(h1:ori a b p=0)(h2:ori a b q=0)(h3:ori a b r=0):ori p q r=0:=by
 have hm:=Kh.dot_pos hab;obtain⟨a1,a2⟩:=Kh.line_vec a b p h1;obtain⟨b1,b2⟩:=Kh.line_vec a b q h2;obtain⟨c1,c2⟩:=Kh.line_vec a b r h3
 have e:dot2 a b b*(dot2 a b b*ori p q r)=0:=by
  generalize dot2 a b b=m at *;generalize dot2 a b p=s at *;generalize dot2 a b q=t at *;generalize dot2 a b r=u at *;have x1:m*(q.x-p.x)=(t-s)*(b.x-a.x):=by rw[Int.sub_mul,←a1,←b1,←Int.mul_sub];congr 1;omega
  have y1:m*(q.y-p.y)=(t-s)*(b.y-a.y):=by rw[Int.sub_mul,←a2,←b2,←Int.mul_sub];congr 1;omega
  have x2:m*(r.x-p.x)=(u-s)*(b.x-a.x):=by rw[Int.sub_mul,←a1,←c1,←Int.mul_sub];congr 1;omega
  have y2:m*(r.y-p.y)=(u-s)*(b.y-a.y):=by rw[Int.sub_mul,←a2,←c2,←Int.mul_sub];congr 1;omega
  have e1:m*(m*ori p q r)=(m*(q.x-p.x))*(m*(r.y-p.y))-(m*(q.y-p.y))*(m*(r.x-p.x)):=by
   clear a1 a2 b1 b2 c1 c2 x1 x2 y1 y2 hm h1 h2 h3 hab;unfold ori
   grind
  rw[e1,x1,x2,y1,y2];clear a1 a2 b1 b2 c1 c2 x1 x2 y1 y2 hm h1 h2 h3 hab e1
  grind
 exact Kh.same_of hm (Kh.same_of hm e)
section
variable {c:Cfg} {S:Int→Prop} {M:Mesh}
theorem inc_self(a b d:Pt):inc a b d a=0∧inc a b d b=0∧inc a b d d=0:=by unfold inc incDet;refine⟨?_,?_,?_⟩<;>grind
theorem ghost_le(hc:c.Ok)(h:Del c S M){t:Nat}(ht:M.live t){i:Nat}(hi:i<3)(hg:M.w t i=-1){a b:Nat}(ha:M.w t ((i+1)%3)=a)(hb:M.w t ((i+2)%3)=b){x:Nat}(hx:S x):ori (pat c.pts a) (pat c.pts b) (pat c.pts x)≤0:=by
 by_cases e1:x=a
 ·subst e1;rw[(ori_aab _ _).1];exact Int.le_refl _
 by_cases e2:x=b
 ·subst e2;rw[(ori_aab _ _).2];exact Int.le_refl _
 have:=Po.emp_at h.poly (Kg.alt c) ht (i:=(i+1)%3) (by omega) hx (by rw[ha];omega) (by rw[show((i+1)%3+1)%3=(i+2)%3 by omega,hb];omega) (by rw[show((i+1)%3+2)%3=i by omega,hg];omega);rw[show((i+1)%3+1)%3=(i+2)%3 by omega,show((i+1)%3+2)%3=i by omega,ha,hb,hg]at this;rcases Int.lt_or_le 0 (ori (pat c.pts a) (pat c.pts b) (pat c.pts x))with h'|h'
 ·have:=(Kg.far_sign hc a b x).1 h';omega
 ·exact h'
theorem ghost_z(hc:c.Ok)(h:Del c S M){t:Nat}(ht:M.live t){i:Nat}(hi:i<3)(hg:M.w t i=-1){a b:Nat}(ha:M.w t ((i+1)%3)=a)(hb:M.w t ((i+2)%3)=b):ori3 (pat c.pts a) (pat c.pts b) c.z0 c.z1 c.z2<0:=by
 obtain⟨z0,z1,z2,s0,s1,s2,e0,e1,e2⟩:=h.z;have g0:=ghost_le hc h ht hi hg ha hb s0;have g1:=ghost_le hc h ht hi hg ha hb s1;have g2:=ghost_le hc h ht hi hg ha hb s2;rw[e0]at g0;rw[e1]at g1;rw[e2]at g2;have sa:S a:=by rw[←ha];exact h.poly.vs t ht _ (by omega)
 have sb:S b:=by rw[←hb];exact h.poly.vs t ht _ (by omega)
 have hab:a≠b:=fun e=>by
  obtain⟨n1,n2,n3⟩:=h.poly.ne t ht;rcases(show i=0∨i=1∨i=2 by omega)with rfl|rfl|rfl
  ·exact n2 (by rw[show M.w t 1=(a:Int)from ha,show M.w t 2=(b:Int)from hb,e])
  ·exact n3 (by rw[show M.w t 2=(a:Int)from ha,show M.w t 0=(b:Int)from hb,e])
  ·exact n1 (by rw[show M.w t 0=(a:Int)from ha,show M.w t 1=(b:Int)from hb,e])
 unfold ori3;rcases Int.lt_or_le (ori (pat c.pts a) (pat c.pts b) c.z0+ori (pat c.pts a) (pat c.pts b) c.z1+ori (pat c.pts a) (pat c.pts b) c.z2) 0 with hn|hn
 ·exact hn
 ·exact absurd (flat_of _ _ _ _ _ (h.dist a b sa sb hab) (by omega) (by omega) (by omega)) h.flat
theorem ghost_vis(hc:c.Ok)(h:Del c S M){v:Nat}(hv:New c S v){t:Nat}(ht:M.live t){i:Nat}(hi:i<3)(hg:M.w t i=-1){a b:Nat}(ha:M.w t ((i+1)%3)=a)(hb:M.w t ((i+2)%3)=b) :
  (ghostIn M a b (pat c.pts v)=true↔M.vis c.D v t)∧c.D (M.w t 0) (M.w t 1) (M.w t 2) v≠0:=by
 have e:c.D (M.w t 0) (M.w t 1) (M.w t 2) v=c.D a b (-1) v:=by
  rw[←Po.det_rot (M:=M) (Kg.alt c) t v (show(i+1)%3<3 by omega),show((i+1)%3+1)%3=(i+2)%3 by omega,show((i+1)%3+2)%3=i by omega,ha,hb,hg]
 unfold Mesh.vis;rw[e];have hz:=ghost_z hc h ht hi hg ha hb;have sa:S a:=by rw[←ha];exact h.poly.vs t ht _ (by omega)
 have sb:S b:=by rw[←hb];exact h.poly.vs t ht _ (by omega)
 have hab:a≠b:=fun e=>by
  obtain⟨n1,n2,n3⟩:=h.poly.ne t ht;rcases(show i=0∨i=1∨i=2 by omega)with rfl|rfl|rfl
  ·exact n2 (by rw[show M.w t 1=(a:Int)from ha,show M.w t 2=(b:Int)from hb,e])
  ·exact n3 (by rw[show M.w t 2=(a:Int)from ha,show M.w t 0=(b:Int)from hb,e])
  ·exact n1 (by rw[show M.w t 0=(a:Int)from ha,show M.w t 1=(b:Int)from hb,e])
 have pab:=h.dist a b sa sb hab;have pa:=(hv.dist a sa).symm;have pb:=(hv.dist b sb).symm;unfold ghostIn;rw[h.pts];simp only[Int.toNat_natCast,Bool.or_eq_true,decide_eq_true_eq];obtain⟨f1,f2⟩:=Kg.far_sign hc a b v;rcases Int.lt_trichotomy (ori (pat c.pts a) (pat c.pts b) (pat c.pts v)) 0 with h0|h0|h0
 ·have:=f2 h0
  refine⟨⟨fun hh=>?_,fun hh=>by omega⟩,by omega⟩;rcases hh with hh|hh
  ·omega
  ·unfold Pr.betB Pr.onB at hh
   simp only[Bool.and_eq_true,decide_eq_true_eq]at hh;omega
 ·obtain⟨b1,b2⟩:=Kh.bet_iff _ _ _ h0 pab pa pb
  obtain⟨t1,t2⟩:=Kg.far_tie hc a b v h0 hz (Kh.dot_pos pab);cases hq:Pr.betB (pat c.pts v) (pat c.pts a) (pat c.pts b)
  ·have:=t2 (b2.1 hq)
   refine⟨⟨fun hh=>?_,fun hh=>by omega⟩,by omega⟩;rcases hh with hh|hh
   ·omega
   ·cases hh
  ·have:=t1 (b1.1 hq)
   exact⟨⟨fun _=>this,fun _=>.inr rfl⟩,by omega⟩
 ·have:=f1 h0
  exact⟨⟨fun _=>this,fun _=>.inl h0⟩,by omega⟩
theorem not_neg(h:Del c S M){t:Nat}(ht:M.live t){j:Nat}(hj:j<3)(hg:M.w t j≠-1):∃n:Nat,M.w t j=n∧n<c.pts.length∧S n:=by
 have hs:=h.poly.vs t ht j hj;rcases h.nat _ hs with e|⟨n,e,hn⟩
 ·exact absurd e hg
 ·exact⟨n,e,hn,e▸hs⟩
theorem one_ghost(h:Del c S M){t:Nat}(ht:M.live t){i j:Nat}(hi:i<3)(hj:j<3)(h1:M.w t i=-1)(h2:M.w t j=-1):i=j:=by
 obtain⟨n1,n2,n3⟩:=h.poly.ne t ht;rcases(show i=0∨i=1∨i=2 by omega)with rfl|rfl|rfl<;>rcases(show j=0∨j=1∨j=2 by omega)with rfl|rfl|rfl<;>first| rfl|(exfalso;first| exact n1 (h1.trans h2.symm)|exact n1 (h2.trans h1.symm)|exact n2 (h1.trans h2.symm)|exact n2 (h2.trans h1.symm)|exact n3 (h1.trans h2.symm)|exact n3 (h2.trans h1.symm))
theorem conf_eq(M:Mesh)(t:Nat)(p:Pt):conflict M (tat M.tris t) p=if M.w t 0=-1 then ghostIn M (M.w t 1) (M.w t 2) p else if M.w t 1=-1 then ghostIn M (M.w t 2) (M.w t 0) p else if M.w t 2=-1 then ghostIn M (M.w t 0) (M.w t 1) p
  else decide (0<inc (pat M.pts (M.w t 0).toNat) (pat M.pts (M.w t 1).toNat) (pat M.pts (M.w t 2).toNat) p):=rfl
theorem conflict_vis(hc:c.Ok)(h:Del c S M){v:Nat}(hv:New c S v){t:Nat}(ht:M.live t) :
  (conflict M (tat M.tris t) (pat c.pts v)=true↔M.vis c.D v t)∧c.D (M.w t 0) (M.w t 1) (M.w t 2) v≠0:=by
 by_cases g0:M.w t 0=-1
 ·obtain⟨a,ha,_,_⟩:=not_neg h ht (show 1<3 by omega) (fun e=>by have:=one_ghost h ht (by omega) (by omega) g0 e;omega)
  obtain⟨b,hb,_,_⟩:=not_neg h ht (show 2<3 by omega) (fun e=>by have:=one_ghost h ht (by omega) (by omega) g0 e;omega);have:=ghost_vis hc h hv ht (i:=0) (by omega) g0 ha hb;rw[show conflict M (tat M.tris t) (pat c.pts v)=ghostIn M (M.w t 1) (M.w t 2) (pat c.pts v)by rw[conf_eq,if_pos g0],ha,hb];rw[ha,hb]at this;exact this
 by_cases g1:M.w t 1=-1
 ·obtain⟨a,ha,_,_⟩:=not_neg h ht (show 2<3 by omega) (fun e=>by have:=one_ghost h ht (by omega) (by omega) g1 e;omega)
  obtain⟨b,hb,_,_⟩:=not_neg h ht (show 0<3 by omega) g0;have:=ghost_vis hc h hv ht (i:=1) (by omega) g1 ha hb;rw[show conflict M (tat M.tris t) (pat c.pts v)=ghostIn M (M.w t 2) (M.w t 0) (pat c.pts v)by rw[conf_eq,if_neg g0,if_pos g1],ha,hb];rw[ha,hb]at this;exact this
 by_cases g2:M.w t 2=-1
 ·obtain⟨a,ha,_,_⟩:=not_neg h ht (show 0<3 by omega) g0
  obtain⟨b,hb,_,_⟩:=not_neg h ht (show 1<3 by omega) g1;have:=ghost_vis hc h hv ht (i:=2) (by omega) g2 ha hb;rw[show conflict M (tat M.tris t) (pat c.pts v)=ghostIn M (M.w t 0) (M.w t 1) (pat c.pts v)by rw[conf_eq,if_neg g0,if_neg g1,if_pos g2],ha,hb];rw[ha,hb]at this;exact this
 obtain⟨i,hi,_,si⟩:=not_neg h ht (show 0<3 by omega) g0;obtain⟨j,hj,_,sj⟩:=not_neg h ht (show 1<3 by omega) g1;obtain⟨k,hk,_,sk⟩:=not_neg h ht (show 2<3 by omega) g2;have ho:=h.real t ht i j k hi hj hk;obtain⟨r1,r2⟩:=Kg.real_sign hc i j k v;have r3:=fun h0=>Kg.real_tie hc i j k v h0 ho (hv.top i si) (hv.top j sj) (hv.top k sk)
 have e:conflict M (tat M.tris t) (pat c.pts v)=decide (0<inc (pat c.pts i) (pat c.pts j) (pat c.pts k) (pat c.pts v)):=by
  rw[conf_eq,if_neg g0,if_neg g1,if_neg g2,hi,hj,hk,h.pts];rfl
 rw[e];unfold Mesh.vis;rw[hi,hj,hk,decide_eq_true_eq];rcases Int.lt_trichotomy (inc (pat c.pts i) (pat c.pts j) (pat c.pts k) (pat c.pts v)) 0 with h0|h0|h0
 ·have:=r2 h0;exact⟨⟨fun _=>by omega,fun _=>by omega⟩,by omega⟩
 ·have:=r3 h0;exact⟨⟨fun _=>by omega,fun _=>by omega⟩,by omega⟩
 ·have:=r1 h0;exact⟨⟨fun _=>by omega,fun _=>by omega⟩,by omega⟩
theorem apart(hc:c.Ok)(h:Del c S M){v:Nat}(hv:New c S v):Apart M c.D c.l S v where
 gp t ht:=(conflict_vis hc h hv ht).2
 new:=hv.new
 fn:=fun b i j k l=>Kh.fn c b i j k l
 pos b hb x hx hxb:=by
  rcases h.nat b hb with rfl|⟨i,rfl,_⟩
  ·rcases hx with hx|rfl
   ·rcases h.nat x hx with rfl|⟨j,rfl,_⟩
    ·exact absurd rfl hxb
    ·exact Kh.pos_far hc j
   ·exact Kh.pos_far hc v
  ·rcases hx with hx|rfl
   ·rcases h.nat x hx with rfl|⟨j,rfl,_⟩
    ·exact Kh.pos_at hc i
    ·exact Kh.pos_real hc i j (h.dist j i hx hb (by omega))
   ·exact Kh.pos_real hc i v (hv.dist i hb).symm
theorem delaunay(hc:c.Ok)(h:Del c S M){t:Nat}(ht:M.live t){i j k:Nat}(hi:M.w t 0=i)(hj:M.w t 1=j)(hk:M.w t 2=k){x:Nat}(hx:S x):inc (pat c.pts i) (pat c.pts j) (pat c.pts k) (pat c.pts x)≤0:=by
 obtain⟨q1,q2,q3⟩:=inc_self (pat c.pts i) (pat c.pts j) (pat c.pts k);by_cases e1:x=i
 ·rw[e1,q1];exact Int.le_refl _
 by_cases e2:x=j
 ·rw[e2,q2];exact Int.le_refl _
 by_cases e3:x=k
 ·rw[e3,q3];exact Int.le_refl _
 have:=h.poly.emp t ht x hx (by rw[hi];omega) (by rw[hj];omega) (by rw[hk];omega);rw[hi,hj,hk]at this;rcases Int.lt_or_le 0 (inc (pat c.pts i) (pat c.pts j) (pat c.pts k) (pat c.pts x))with h'|h'
 ·have:=(Kg.real_sign hc i j k x).1 h';omega
 ·exact h'
end
end Ki
end Go.Proofs.YtdihefgleefhmaaGreat
namespace Go.Proofs.YtdihefgleefhmaaGreat
namespace Kw
open Ki Po
theorem det_up(a b c d p:V4)(n:V4):det4 a b c d*det4 a b p n-det4 a b c p*det4 a b d n+det4 a b c n*det4 a b d p=0:=det4_pl a b c d p n
theorem det_inf(K ea eb ep:Int)(a b p:Pt):det4 (lift K ea a) (lift K eb b) (lift K ep p) ⟨0,0,1,0⟩=- ori a b p:=by
 unfold det4 om lift ori ptq
 grind
section
variable {c:Cfg} {S:Int→Prop} {M:Mesh}
theorem up(c:Cfg)(i j k l v:Nat):c.D i j k v*ori (pat c.pts i) (pat c.pts j) (pat c.pts l)-ori (pat c.pts i) (pat c.pts j) (pat c.pts k)*c.D i j l v=c.D i j k l*ori (pat c.pts i) (pat c.pts j) (pat c.pts v):=by
 have h:=det_up (c.vec i) (c.vec j) (c.vec k) (c.vec l) (c.vec v) ⟨0,0,1,0⟩
 have e:∀n:Nat,det4 (c.vec i) (c.vec j) (c.vec n) ⟨0,0,1,0⟩=- ori (pat c.pts i) (pat c.pts j) (pat c.pts n):=fun n=>by
  unfold Cfg.vec;rw[if_neg (by omega),if_neg (by omega),if_neg (by omega)];exact det_inf _ _ _ _ _ _ _
 rw[e v,e l,e k]at h;unfold Cfg.D;generalize det4 (c.vec i) (c.vec j) (c.vec k) (c.vec v)=x1 at *;generalize det4 (c.vec i) (c.vec j) (c.vec k) (c.vec l)=x2 at *;generalize det4 (c.vec i) (c.vec j) (c.vec l) (c.vec v)=x3 at *;rw[Int.mul_neg,Int.mul_neg,Int.neg_mul]at h;omega
structure Real(c:Cfg)(S:Int→Prop)(M:Mesh)(t:Nat)(f:Nat→Nat):Prop where
 live:M.live t
 at_:∀i,i<3→M.w t i=f i
 s:∀i,i<3→S (f i)
theorem ori_rot(a b d:Pt):ori b d a=ori a b d:=by unfold ori;grind
theorem Real.ori(h:Del c S M){t:Nat}{f:Nat→Nat}(hr:Real c S M t f){i:Nat}(hi:i<3):0<ori (pat c.pts (f i)) (pat c.pts (f ((i+1)%3))) (pat c.pts (f ((i+2)%3))):=by
 have:=h.real t hr.live _ _ _ (hr.at_ 0 (by omega)) (hr.at_ 1 (by omega)) (hr.at_ 2 (by omega));rcases(show i=0∨i=1∨i=2 by omega)with rfl|rfl|rfl
 ·exact this
 ·show 0<Go.Proofs.YtdihefgleefhmaaGreat.ori (pat c.pts (f 1)) (pat c.pts (f 2)) (pat c.pts (f 0))
  rw[ori_rot];exact this
 ·show 0<Go.Proofs.YtdihefgleefhmaaGreat.ori (pat c.pts (f 2)) (pat c.pts (f 0)) (pat c.pts (f 1))
  rw[←ori_rot];exact this
theorem real_of(h:Del c S M){t:Nat}(hr:Mr.realB M t=true):∃f,Real c S M t f:=by
 unfold Mr.realB at hr;simp only[Bool.and_eq_true,decide_eq_true_eq,Int.toNat_natCast]at hr;obtain⟨⟨_,h1⟩,⟨h2,h3⟩,h4⟩:=hr;have hl:M.live t:=⟨by omega,by omega⟩
 have n:∀i,i<3→0≤M.w t i:=fun i hi=>by
  rcases(show i=0∨i=1∨i=2 by omega)with rfl|rfl|rfl
  ·exact h2
  ·exact h3
  ·exact h4
 refine⟨fun i=>(M.w t i).toNat,hl,fun i hi=>?_,fun i hi=>?_⟩
 ·have:=n i hi;omega
 ·have:=n i hi
  have e:((M.w t i).toNat:Int)=M.w t i:=by omega
  rw[e];exact h.poly.vs t hl i hi
theorem cross(h:Del c S M){t:Nat}{f:Nat→Nat}(hr:Real c S M t f){j:Nat}(hj:j<3):∃u k:Nat,(tat M.tris t).n j=u∧M.live u∧k<3∧M.w u ((k+1)%3)=f ((j+2)%3)∧M.w u ((k+2)%3)=f ((j+1)%3)∧
  ((M.w u k=-1∧Mr.realB M u=false)∨∃d:Nat,M.w u k=d∧S d∧Mr.realB M u=true):=by
 obtain⟨u,k,e1,e2,e3,e4,e5,e6⟩:=h.poly.nb t hr.live j hj;rw[hr.at_ _ (by omega)]at e5 e6;refine⟨u,k,e1,e2,e3,e5,e6,?_⟩;by_cases g:M.w u k=-1
 ·left
  refine⟨g,?_⟩
  have:¬(0≤(tat M.tris u).v0∧0≤(tat M.tris u).v1∧0≤(tat M.tris u).v2):=by
   rcases(show k=0∨k=1∨k=2 by omega)with rfl|rfl|rfl
   ·have:(tat M.tris u).v0=-1:=g;omega
   ·have:(tat M.tris u).v1=-1:=g;omega
   ·have:(tat M.tris u).v2=-1:=g;omega
  unfold Mr.realB;simp only[Int.toNat_natCast,Bool.and_eq_false_iff,decide_eq_false_iff_not];omega
 ·right
  obtain⟨d,hd,_,sd⟩:=not_neg h e2 e3 g;refine⟨d,hd,sd,?_⟩
  have hall:∀i,i<3→0≤M.w u i:=fun i hi=>by
   rcases(show i=k∨i=(k+1)%3∨i=(k+2)%3 by omega)with e|e|e
   ·rw[e,hd];omega
   ·rw[e,e5];omega
   ·rw[e,e6];omega
  unfold Mr.realB;have h0:0≤(tat M.tris u).v0:=hall 0 (by omega);have h1:0≤(tat M.tris u).v1:=hall 1 (by omega);have h2:0≤(tat M.tris u).v2:=hall 2 (by omega);have:=e2.1;simp only[Bool.and_eq_true,decide_eq_true_eq,Int.toNat_natCast];omega
def ar(c:Cfg)(M:Mesh)(t:Nat):Int:=ori (pat c.pts (M.w t 0).toNat) (pat c.pts (M.w t 1).toNat) (pat c.pts (M.w t 2).toNat)
def dp(c:Cfg)(M:Mesh)(v t:Nat):Int:=c.D (M.w t 0) (M.w t 1) (M.w t 2) v
def Lower(c:Cfg)(M:Mesh)(v t u:Nat):Prop:=dp c M v t*ar c M u<dp c M v u*ar c M t
theorem ar_pos(h:Del c S M){t:Nat}{f:Nat→Nat}(hr:Real c S M t f):0<ar c M t:=by
 unfold ar;rw[hr.at_ 0 (by omega),hr.at_ 1 (by omega),hr.at_ 2 (by omega)];exact hr.ori h (i:=0) (by omega)
theorem ar_at{t:Nat}{f:Nat→Nat}(hr:Real c S M t f){i:Nat}(hi:i<3):ar c M t=ori (pat c.pts (f i)) (pat c.pts (f ((i+1)%3))) (pat c.pts (f ((i+2)%3))):=by
 unfold ar;rw[hr.at_ 0 (by omega),hr.at_ 1 (by omega),hr.at_ 2 (by omega)];rcases(show i=0∨i=1∨i=2 by omega)with rfl|rfl|rfl
 ·rfl
 ·exact(ori_rot _ _ _).symm
 ·exact ori_rot _ _ _
theorem lower_trans(v:Nat){t u x:Nat}(ht:0<ar c M t)(hu:0<ar c M u)(hx:0<ar c M x)(h1:Lower c M v t u)(h2:Lower c M v u x):Lower c M v t x:=by
 unfold Lower at *;generalize dp c M v t=a at *;generalize dp c M v u=b at *;generalize dp c M v x=d at *;generalize ar c M t=A at *;generalize ar c M u=B at *;generalize ar c M x=C at *;have m1:a*B*C<b*A*C:=Int.mul_lt_mul_of_pos_right h1 hx;have m2:b*C*A<d*B*A:=Int.mul_lt_mul_of_pos_right h2 ht;have e1:b*A*C=b*C*A:=by grind
 have e2:a*B*C=B*(a*C):=by grind
 have e3:d*B*A=B*(d*A):=by grind
 have m3:B*(a*C)<B*(d*A):=by omega
 exact Int.lt_of_mul_lt_mul_left m3 (Int.le_of_lt hu)
theorem lower_irrefl(v t:Nat):¬Lower c M v t t:=fun h=>Int.lt_irrefl _ h
theorem go_up(h:Del c S M){t u v:Nat}{f:Nat→Nat}(hr:Real c S M t f){j:Nat}(hj:j<3){k:Nat}(hk:k<3)(hu:M.live u)(e1:M.w u ((k+1)%3)=f ((j+2)%3))(e2:M.w u ((k+2)%3)=f ((j+1)%3)){d:Nat}(hd:M.w u k=d)(sd:S d)
  (hb:ori (pat c.pts (f ((j+1)%3))) (pat c.pts (f ((j+2)%3))) (pat c.pts v)<0):Lower c M v t u:=by
 have hru:Real c S M u (fun i=>if i=k then d else if i=(k+1)%3 then f ((j+2)%3) else f ((j+1)%3)):=⟨hu,fun i hi=>by
  by_cases a1:i=k
  ·rw[if_pos a1,a1];exact hd
  ·by_cases a2:i=(k+1)%3
   ·rw[if_neg a1,if_pos a2,a2]
    exact e1
   ·have a3:i=(k+2)%3:=by omega
    rw[if_neg a1,if_neg a2,a3];exact e2,fun i hi=>by
  by_cases a1:i=k
  ·rw[if_pos a1];exact sd
  ·by_cases a2:i=(k+1)%3
   ·rw[if_neg a1,if_pos a2];exact hr.s _ (by omega)
   ·rw[if_neg a1,if_neg a2];exact hr.s _ (by omega)⟩
 have at1:=ar_at hr (i:=(j+1)%3) (by omega);have at2:=ar_at hru (i:=k) hk;rw[show((j+1)%3+1)%3=(j+2)%3 by omega,show((j+1)%3+2)%3=j by omega]at at1;simp only[if_true]at at2;rw[if_neg (show ¬(k+1)%3=k by omega),if_neg (show ¬(k+2)%3=k by omega),if_neg (show ¬(k+2)%3=(k+1)%3 by omega)]at at2
 have d1:dp c M v t=c.D (f ((j+1)%3)) (f ((j+2)%3)) (f j) v:=by
  unfold dp;rw[←det_rot (M:=M) (Kg.alt c) t v (show(j+1)%3<3 by omega),show((j+1)%3+1)%3=(j+2)%3 by omega,show((j+1)%3+2)%3=j by omega,hr.at_ _ (by omega),hr.at_ _ (by omega),hr.at_ _ hj]
 have d2:dp c M v u=- c.D (f ((j+1)%3)) (f ((j+2)%3)) d v:=by
  unfold dp;rw[←det_rot (M:=M) (Kg.alt c) u v (show(k+1)%3<3 by omega),show((k+1)%3+1)%3=(k+2)%3 by omega,show((k+1)%3+2)%3=k by omega,e1,e2,hd];exact(Kg.alt c).s1 _ _ _ _
 have hne:(d:Int)≠M.w t j:=fun e=>by
  have q1:=ar_pos h hr;have q2:=ar_pos h hru;have e':d=f j:=by have:=hr.at_ j hj;omega
  rw[at1]at q1;rw[at2,e']at q2;have:ori (pat c.pts (f j)) (pat c.pts (f ((j+2)%3))) (pat c.pts (f ((j+1)%3)))=- ori (pat c.pts (f ((j+1)%3))) (pat c.pts (f ((j+2)%3))) (pat c.pts (f j)):=by unfold ori;grind
  omega
 have hne1:(d:Int)≠M.w t ((j+1)%3):=fun e=>by
  obtain⟨n1,n2,n3⟩:=h.poly.ne u hu;rw[hr.at_ _ (by omega),←e2,←hd]at e;rcases(show k=0∨k=1∨k=2 by omega)with rfl|rfl|rfl
  ·exact n3 e.symm
  ·exact n1 e.symm
  ·exact n2 e.symm
 have hne2:(d:Int)≠M.w t ((j+2)%3):=fun e=>by
  obtain⟨n1,n2,n3⟩:=h.poly.ne u hu;rw[hr.at_ _ (by omega),←e1,←hd]at e;rcases(show k=0∨k=1∨k=2 by omega)with rfl|rfl|rfl
  ·exact n1 e
  ·exact n2 e
  ·exact n3 e
 have hem:=emp_at h.poly (Kg.alt c) hr.live (i:=(j+1)%3) (by omega) sd hne1 (by rw[show((j+1)%3+1)%3=(j+2)%3 by omega];exact hne2) (by rw[show((j+1)%3+2)%3=j by omega];exact hne);rw[show((j+1)%3+1)%3=(j+2)%3 by omega,show((j+1)%3+2)%3=j by omega,hr.at_ _ (by omega),hr.at_ _ (by omega),hr.at_ _ hj]at hem;have hup:=up c (f ((j+1)%3)) (f ((j+2)%3)) (f j) d v;have ea:ori (pat c.pts d) (pat c.pts (f ((j+2)%3))) (pat c.pts (f ((j+1)%3)))=- ori (pat c.pts (f ((j+1)%3))) (pat c.pts (f ((j+2)%3))) (pat c.pts d):=by unfold ori;grind
 unfold Lower;rw[d1,d2,at1,at2,ea];have mp:=Int.mul_pos_of_neg_of_neg hem hb;generalize c.D (f ((j+1)%3)) (f ((j+2)%3)) (f j) v=x1 at *;generalize c.D (f ((j+1)%3)) (f ((j+2)%3)) d v=x2 at *;generalize ori (pat c.pts (f ((j+1)%3))) (pat c.pts (f ((j+2)%3))) (pat c.pts d)=x3 at *;generalize ori (pat c.pts (f ((j+1)%3))) (pat c.pts (f ((j+2)%3))) (pat c.pts (f j))=x4 at *;rw[Int.mul_neg,Int.neg_mul,Int.mul_comm x2 x4];omega
end
end Kw
end Go.Proofs.YtdihefgleefhmaaGreat
namespace Go.Proofs.YtdihefgleefhmaaGreat
namespace Kx
open Ki Po Kw
theorem inc_eq(a b d p:Pt):inc a b d p=ori b d p*((a.x-p.x)*(a.x-p.x)+(a.y-p.y)*(a.y-p.y))+ori d a p*((b.x-p.x)*(b.x-p.x)+(b.y-p.y)*(b.y-p.y))+ori a b p*((d.x-p.x)*(d.x-p.x)+(d.y-p.y)*(d.y-p.y)):=by
 unfold inc incDet ori
 grind
theorem ori_sum(a b d p:Pt):ori b d p+ori d a p+ori a b p=ori a b d:=by unfold ori;grind
theorem ge_mul{x y:Int}(hx:0≤x)(hy:1≤y):x≤x*y:=by
 have:=Int.mul_le_mul_of_nonneg_left hy hx;omega
theorem inc_in(a b d p:Pt)(h0:0≤ori b d p)(h1:0≤ori d a p)(h2:0≤ori a b p)(hs:0<ori a b d)(ha:a≠p)(hb:b≠p)(hd:d≠p):0<inc a b d p:=by
 rw[inc_eq];have e:=ori_sum a b d p;have k0:=ge_mul h0 (Kh.sq_pos ha);have k1:=ge_mul h1 (Kh.sq_pos hb);have k2:=ge_mul h2 (Kh.sq_pos hd);omega
theorem edge_in(a b d p:Pt)(h0:ori a b p=0)(h1:0≤ori b d p)(h2:0≤ori d a p)(hs:0<ori a b d)(ha:a≠p)(hb:b≠p)(hab:a≠b):0<dot2 a b p∧dot2 a b p<dot2 a b b:=by
 have hm:=Kh.dot_pos hab;obtain⟨q1,q2⟩:=Kf.line_ori a b p d h0;have e1:ori p b d=ori b d p:=by unfold ori;grind
 have e2:ori p a d=- ori d a p:=by unfold ori;grind
 rw[e1]at q1;rw[e2,Int.mul_neg]at q2;have r1:0≤dot2 a b b*ori b d p:=Int.mul_nonneg (Int.le_of_lt hm) h1;have r2:0≤dot2 a b b*ori d a p:=Int.mul_nonneg (Int.le_of_lt hm) h2
 have s1:0≤dot2 a b b-dot2 a b p:=by
  rcases Int.lt_or_le (dot2 a b b-dot2 a b p) 0 with hn|hn
  ·have:=Int.mul_neg_of_neg_of_pos hn hs;omega
  ·exact hn
 have s2:0≤dot2 a b p:=by
  rcases Int.lt_or_le (dot2 a b p) 0 with hn|hn
  ·have:=Int.mul_neg_of_neg_of_pos hn hs;omega
  ·exact hn
 obtain⟨v1,v2⟩:=Kh.line_vec a b p h0
 have hs0:dot2 a b p≠0:=fun e=>by
  rw[e,Int.zero_mul]at v1 v2;have:=Kh.same_of hm v1;have:=Kh.same_of hm v2;exact ha (by cases p;cases a;simp at *;omega)
 have hsm:dot2 a b p≠dot2 a b b:=fun e=>by
  rw[e]at v1 v2;have w1:=Int.eq_of_mul_eq_mul_left (by omega) v1;have w2:=Int.eq_of_mul_eq_mul_left (by omega) v2;exact hb (by cases p;cases b;simp at *;omega)
 omega
theorem pos_of{m x:Int}(hm:0<m)(h:0<m*x):0<x:=by
 rcases Int.lt_or_le 0 x with h'|h'
 ·exact h'
 ·have:=Int.mul_nonpos_of_nonneg_of_nonpos (Int.le_of_lt hm) h';omega
theorem inc_over(a b d p:Pt)(h0:ori a b p=0)(hs:0<ori b a d)(ha:a≠p)(hb:b≠p)(hab:a≠b)(h1:0<dot2 a b p)(h2:dot2 a b p<dot2 a b b):0<inc b a d p:=by
 have hm:=Kh.dot_pos hab;obtain⟨q1,q2⟩:=Kf.line_ori a b p d h0;have e0:ori a b d=- ori b a d:=by unfold ori;grind
 have e1:ori p b d=- ori d b p:=by unfold ori;grind
 have e2:ori p a d=ori a d p:=by unfold ori;grind
 have e3:ori b a p=- ori a b p:=by unfold ori;grind
 rw[e0,e1]at q1;rw[e0,e2]at q2
 have r1:0<dot2 a b b*ori d b p:=by
  have:=Int.mul_pos (show 0<dot2 a b b-dot2 a b p by omega) hs;rw[Int.mul_neg,Int.mul_neg]at q1;omega
 have r2:0<dot2 a b b*ori a d p:=by
  have:=Int.mul_pos h1 hs;rw[Int.mul_neg]at q2;omega
 have s1:=pos_of hm r1;have s2:=pos_of hm r2;rw[inc_eq,e3,h0];have k0:=ge_mul (Int.le_of_lt s2) (Kh.sq_pos hb);have k1:=ge_mul (Int.le_of_lt s1) (Kh.sq_pos ha);simp only[Int.neg_zero,Int.zero_mul,Int.add_zero];omega
theorem dot_back(a b p:Pt):dot2 b a p=dot2 a b b-dot2 a b p∧dot2 b a a=dot2 a b b:=by unfold dot2;constructor<;>grind
section
variable {c:Cfg} {S:Int→Prop} {M:Mesh}
theorem beyond_iff(h:Del c S M){t v:Nat}{f:Nat→Nat}(hr:Real c S M t f){i:Nat} : beyond M (tat M.tris t) i (pat c.pts v)=decide (ori (pat c.pts (f ((i+1)%3))) (pat c.pts (f ((i+2)%3))) (pat c.pts v)<0):=by
 have e1:(tat M.tris t).v ((i+1)%3)=f ((i+1)%3):=hr.at_ _ (by omega);have e2:(tat M.tris t).v ((i+2)%3)=f ((i+2)%3):=hr.at_ _ (by omega);unfold beyond oriE;rw[e1,e2,h.pts];rfl
structure Holds(c:Cfg)(S:Int→Prop)(M:Mesh)(v t:Nat)(f:Nat→Nat):Prop where
 real:Real c S M t f
 on:∀j,j<3→0≤ori (pat c.pts (f ((j+1)%3))) (pat c.pts (f ((j+2)%3))) (pat c.pts v)
theorem real_inj(h:Del c S M){t:Nat}{f:Nat→Nat}(hr:Real c S M t f){j:Nat}(hj:j<3):f ((j+1)%3)≠f ((j+2)%3)∧f j≠f ((j+1)%3)∧f j≠f ((j+2)%3):=by
 obtain⟨n1,n2,n3⟩:=h.poly.ne t hr.live;rw[hr.at_ 0 (by omega),hr.at_ 1 (by omega)]at n1;rw[hr.at_ 1 (by omega),hr.at_ 2 (by omega)]at n2;rw[hr.at_ 2 (by omega),hr.at_ 0 (by omega)]at n3;rcases(show j=0∨j=1∨j=2 by omega)with rfl|rfl|rfl
 ·exact⟨fun e=>n2 (congrArg _ e),fun e=>n1 (congrArg _ e),fun e=>n3 (congrArg _ e.symm)⟩
 ·exact⟨fun e=>n3 (congrArg _ e),fun e=>n2 (congrArg _ e),fun e=>n1 (congrArg _ e.symm)⟩
 ·exact⟨fun e=>n1 (congrArg _ e),fun e=>n3 (congrArg _ e),fun e=>n2 (congrArg _ e.symm)⟩
theorem holds_vis(hc:c.Ok)(h:Del c S M){v:Nat}(hv:New c S v){t:Nat}{f:Nat→Nat}(hh:Holds c S M v t f):M.vis c.D v t:=by
 unfold Mesh.vis;rw[hh.real.at_ 0 (by omega),hh.real.at_ 1 (by omega),hh.real.at_ 2 (by omega)];refine(Kg.real_sign hc _ _ _ _).1 (inc_in _ _ _ _ (hh.on 0 (by omega)) (hh.on 1 (by omega)) (hh.on 2 (by omega)) (hh.real.ori h (i:=0) (by omega)) (hv.dist _ (hh.real.s 0 (by omega))) (hv.dist _ (hh.real.s 1 (by omega))) (hv.dist _ (hh.real.s 2 (by omega))))
theorem over_vis(hc:c.Ok)(h:Del c S M){v:Nat}(hv:New c S v){t:Nat}{f:Nat→Nat}(hh:Holds c S M v t f){j:Nat}(hj:j<3)(h0:ori (pat c.pts (f ((j+1)%3))) (pat c.pts (f ((j+2)%3))) (pat c.pts v)=0) :
  ∃u:Nat,(tat M.tris t).n j=u∧M.live u∧M.vis c.D v u:=by
 obtain⟨u,k,e1,e2,e3,e4,e5,e6⟩:=cross h hh.real hj;refine⟨u,e1,e2,?_⟩;obtain⟨n1,n2,n3⟩:=real_inj h hh.real hj;have sa:=hh.real.s ((j+1)%3) (by omega);have sb:=hh.real.s ((j+2)%3) (by omega);have pab:=h.dist _ _ sa sb n1;have pa:=hv.dist _ sa;have pb:=hv.dist _ sb;have h1:=hh.on ((j+1)%3) (by omega);have h2:=hh.on ((j+2)%3) (by omega);rw[show((j+1)%3+1)%3=(j+2)%3 by omega,show((j+1)%3+2)%3=j by omega]at h1;rw[show((j+2)%3+1)%3=j by omega,show((j+2)%3+2)%3=(j+1)%3 by omega]at h2;have hs:=hh.real.ori h (i:=(j+1)%3) (by omega);rw[show((j+1)%3+1)%3=(j+2)%3 by omega,show((j+1)%3+2)%3=j by omega]at hs;obtain⟨d1,d2⟩:=edge_in _ _ _ _ h0 h1 h2 hs pa pb pab;rcases e6 with⟨g,_⟩|⟨d,hd,sd,hru⟩
 ·refine(ghost_vis hc h hv e2 e3 g e4 e5).1.1 ?_
  unfold ghostIn;rw[h.pts];simp only[Int.toNat_natCast,Bool.or_eq_true,decide_eq_true_eq]
  right
  obtain⟨k1,k2⟩:=dot_back (pat c.pts (f ((j+1)%3))) (pat c.pts (f ((j+2)%3))) (pat c.pts v);refine(Kh.bet_iff _ _ _ ?_ pab.symm pb.symm pa.symm).1.2 ?_
  ·have:ori (pat c.pts (f ((j+2)%3))) (pat c.pts (f ((j+1)%3))) (pat c.pts v)=- ori (pat c.pts (f ((j+1)%3))) (pat c.pts (f ((j+2)%3))) (pat c.pts v):=by unfold ori;grind
   omega
  ·omega
 ·obtain⟨f',hr'⟩:=real_of h hru
  have a1:f' k=d:=by have:=hr'.at_ k e3;omega
  have a2:f' ((k+1)%3)=f ((j+2)%3):=by have:=hr'.at_ ((k+1)%3) (by omega);omega
  have a3:f' ((k+2)%3)=f ((j+1)%3):=by have:=hr'.at_ ((k+2)%3) (by omega);omega
  have ho:=hr'.ori h (i:=(k+1)%3) (by omega);rw[show((k+1)%3+1)%3=(k+2)%3 by omega,show((k+1)%3+2)%3=k by omega,a1,a2,a3]at ho;have hi:=inc_over _ _ _ _ h0 ho pa pb pab d1 d2;unfold Mesh.vis;rw[←det_rot (M:=M) (Kg.alt c) u v (show(k+1)%3<3 by omega),show((k+1)%3+1)%3=(k+2)%3 by omega,show((k+1)%3+2)%3=k by omega,e4,e5,hd];exact(Kg.real_sign hc _ _ _ _).1 hi
def Found(c:Cfg)(S:Int→Prop)(M:Mesh)(v:Nat)(q:Place):Prop:=(∃t f,Holds c S M v t f∧q=within M t (pat c.pts v))∨∃u:Nat,q=⟨3,u,0,0⟩∧M.live u∧M.vis c.D v u
theorem find_some(hc:c.Ok)(h:Del c S M){v:Nat} : ∀(f t s:Nat) (vs:List Nat),Mr.realB M t=true→vs.Nodup→(∀u∈vs,Mr.realB M u=true∧Lower c M v u t)→M.tris.length<f+vs.length→
  ∃q k,findGo M (pat c.pts v) f t s=some (q,k)∧Found c S M v q
 | 0,t,s,vs,hr,hn,hl,hf=>by
  have:=Dq.nodup_len _ vs hn fun u hu=>by
   obtain⟨f,hr'⟩:=real_of h (hl u hu).1;exact hr'.live.1
  omega
 | f+1,t,s,vs,hr,hn,hl,hf=>by
  obtain⟨g,hg⟩:=real_of h hr;unfold findGo;cases hb:firstBeyond M (tat M.tris t) (pat c.pts v)with
  | none=>
   refine⟨_,_,rfl,.inl ⟨t,g,⟨hg,fun j hj=>?_⟩,rfl⟩⟩
   have hbj:∀i,i<3→beyond M (tat M.tris t) i (pat c.pts v)=false:=by
    unfold firstBeyond at hb;intro i hi
    split at hb
    ·cases hb
    ·split at hb
     ·cases hb
     ·split at hb
      ·cases hb
      ·rcases(show i=0∨i=1∨i=2 by omega)with rfl|rfl|rfl<;>simp_all
   have:=hbj j hj;rw[beyond_iff h hg]at this;simp only[decide_eq_false_iff_not]at this;omega
  | some i=>
   have hi:i<3∧beyond M (tat M.tris t) i (pat c.pts v)=true:=by
    unfold firstBeyond at hb
    split at hb
    ·cases hb;exact⟨by omega,by assumption⟩
    ·split at hb
     ·cases hb;exact⟨by omega,by assumption⟩
     ·split at hb
      ·cases hb;exact⟨by omega,by assumption⟩
      ·cases hb
   obtain⟨hi3,hbe⟩:=hi;rw[beyond_iff h hg,decide_eq_true_eq]at hbe;obtain⟨u,k,e1,e2,e3,e4,e5,e6⟩:=cross h hg hi3;simp only[e1,Int.toNat_natCast];rcases e6 with⟨gh,hru⟩|⟨d,hd,sd,hru⟩
   ·rw[if_neg (by rw[hru];simp)]
    refine⟨_,_,rfl,.inr ⟨u,rfl,e2,?_⟩⟩;unfold Mesh.vis;rw[←det_rot (M:=M) (Kg.alt c) u v (show(k+1)%3<3 by omega),show((k+1)%3+1)%3=(k+2)%3 by omega,show((k+1)%3+2)%3=k by omega,e4,e5,gh];refine(Kg.far_sign hc _ _ _).1 ?_;have:ori (pat c.pts (g ((i+2)%3))) (pat c.pts (g ((i+1)%3))) (pat c.pts v)=- ori (pat c.pts (g ((i+1)%3))) (pat c.pts (g ((i+2)%3))) (pat c.pts v):=by unfold ori;grind
    omega
   ·rw[if_pos hru]
    have hup:=go_up h hg hi3 e3 e2 e4 e5 hd sd hbe;obtain⟨g',hg'⟩:=real_of h hru;refine find_some hc h f u (s+1) (t::vs) hru (List.nodup_cons.2 ⟨fun hm=>lower_irrefl v t (hl t hm).2,hn⟩) (fun x hx=>?_) (by simp;omega);rcases List.mem_cons.1 hx with rfl|hx
    ·exact⟨hr,hup⟩
    ·obtain⟨g2,hg2⟩:=real_of h (hl x hx).1
     exact⟨(hl x hx).1,lower_trans v (ar_pos h hg2) (ar_pos h hg) (ar_pos h hg') (hl x hx).2 hup⟩
end
end Kx
end Go.Proofs.YtdihefgleefhmaaGreat
