/- A text of this claim. -/
import Derived.Test.YtplmblgihfogjaaGreatDoorEv25
set_option maxHeartbeats 40000000
set_option maxRecDepth 400000
set_option linter.all false
namespace Go.Ab.On
def mk(c:Nat):Nat->Nat
 | 0=>0
 | n+1=>256*mk c n+c
theorem mk_succ(c n:Nat):mk c (n+1)=256*mk c n+c:=rfl
theorem and_split{q m r c:Nat}(hr:r < 256)(hc:c < 256):(256*q+r) &&& (256*m+c)=256*(q &&& m)+(r &&& c):=by
 have h1:=Nat.and_div_two_pow (a:=256*q+r) (b:=256*m+c) (n:=8);have h2:=Nat.and_mod_two_pow (a:=256*q+r) (b:=256*m+c) (n:=8);have e1:(256*q+r) / 2^8=q:=by omega
 have e2:(256*m+c) / 2^8=m:=by omega
 have e3:(256*q+r) % 2^8=r:=by omega
 have e4:(256*m+c) % 2^8=c:=by omega
 rw[e1,e2]at h1;rw[e3,e4]at h2;omega
def a1(n x:Nat):Nat:=(x / 2 &&& mk 85 n)+(x &&& mk 85 n)
def a2(n x:Nat):Nat:=(x / 4 &&& mk 51 n)+(x &&& mk 51 n)
def a3(n x:Nat):Nat:=(x / 16+x) &&& mk 15 n
def b1(r:Nat):Nat:=(r / 2 &&& 85)+(r &&& 85)
def b2(r:Nat):Nat:=(r / 4 &&& 51)+(r &&& 51)
def b3(r:Nat):Nat:=(r / 16+r) &&& 15
theorem d1:∀ r,r < 256->∀ e,e < 2->(128*e+r / 2) &&& 85=r / 2 &&& 85:=by decide +kernel
theorem d2:∀ r,r < 256->∀ e,e < 4->(64*e+r / 4) &&& 51=r / 4 &&& 51:=by decide +kernel
theorem d3:∀ r,r < 256->r % 16<=4->r / 16<=4->∀ e,e < 5->(16*e+r / 16+r) &&& 15=(r / 16+r) &&& 15:=by decide +kernel
theorem d4:∀ r,r < 256->b1 r < 256/\b2 (b1 r) < 256/\b2 (b1 r) % 16<=4/\b2 (b1 r) / 16<=4/\b3 (b2 (b1 r))<=8/\(b3 (b2 (b1 r))=0->r=0):=by decide +kernel
theorem s1{n q r:Nat}(hr:r < 256):a1 (n+1) (256*q+r)=256*a1 n q+b1 r:=by
 have e:(256*q+r) / 2=256*(q / 2)+(128*(q % 2)+r / 2):=by omega
 unfold a1 b1;rw[mk_succ,e,and_split (by omega) (by decide),and_split hr (by decide),d1 r hr _ (by omega)];omega
theorem s2{n q r:Nat}(hr:r < 256):a2 (n+1) (256*q+r)=256*a2 n q+b2 r:=by
 have e:(256*q+r) / 4=256*(q / 4)+(64*(q % 4)+r / 4):=by omega
 unfold a2 b2;rw[mk_succ,e,and_split (by omega) (by decide),and_split hr (by decide),d2 r hr _ (by omega)];omega
theorem s3{n q r:Nat}(hr:r < 256)(h1:r % 16<=4)(h2:r / 16<=4)(h3:q % 16<=4):a3 (n+1) (256*q+r)=256*a3 n q+b3 r:=by
 have e:(256*q+r) / 16+(256*q+r)=256*(q / 16+q)+(16*(q % 16)+r / 16+r):=by omega
 unfold a3 b3;rw[mk_succ,e,and_split (by omega) (by decide),d3 r hr h1 h2 _ (by omega)]
theorem and0(x:Nat):x &&& mk 51 0=0:=Nat.and_zero x
theorem low(n x:Nat):a2 n (a1 n x) % 16<=4:=by
 cases n with
 | zero=>unfold a2; rw[and0,and0]; decide
 | succ n =>
  have e:x=256*(x / 256)+x % 256:=by omega
  have hr:x % 256 < 256:=by omega
  have h:=d4 _ hr;rw[e,s1 hr,s2 h.1];omega
def y3(n x:Nat):Nat:=a3 n (a2 n (a1 n x))
def g(r:Nat):Nat:=b3 (b2 (b1 r))
theorem step(n x:Nat):y3 (n+1) x=256*y3 n (x / 256)+g (x % 256):=by
 have e:x=256*(x / 256)+x % 256:=by omega
 have hr:x % 256 < 256:=by omega
 have h:=d4 _ hr;have hl:=low n (x / 256);unfold y3 g;rw[e,s1 hr,s2 h.1,s3 h.2.1 h.2.2.1 h.2.2.2.1 hl];have e2:(256*(x / 256)+x % 256) / 256=x / 256:=by omega
 have e3:(256*(x / 256)+x % 256) % 256=x % 256:=by omega
 rw[e2,e3]
theorem y30(x:Nat):y3 0 x=0:=by unfold y3 a3; exact Nat.and_zero _
theorem g_le(x:Nat):g (x % 256)<=8:=(d4 (x % 256) (by omega)).2.2.2.2.1
theorem g_0(x:Nat)(h:g (x % 256)=0):x % 256=0:=(d4 (x % 256) (by omega)).2.2.2.2.2 h
def sum(y:Nat):Nat :=
 let y4:=y+y / 256
 let y5:=y4+y4 / 65536
 (y5+y5 / 4294967296) % 128
theorem sum_is{g0 g1 g2 g3 g4 g5 g6 g7:Nat}(h0:g0<=8)(h1:g1<=8)(h2:g2<=8)(h3:g3<=8)(h4:g4<=8)(h5:g5<=8)(h6:g6<=8)(h7:g7<=8){y:Nat}
  (hy:y=256*(256*(256*(256*(256*(256*(256*g7+g6)+g5)+g4)+g3)+g2)+g1)+g0):sum y=g0+g1+g2+g3+g4+g5+g6+g7/\y+y / 256 < 2^64/\(y+y / 256)+(y+y / 256) / 65536 < 2^64 /\
   ((y+y / 256)+(y+y / 256) / 65536)+((y+y / 256)+(y+y / 256) / 65536) / 4294967296 < 2^64:=by
 obtain⟨Y6,e6⟩:∃ Y,Y=256*g7+g6:=⟨_,rfl⟩;obtain⟨Y5,e5⟩:∃ Y,Y=256*Y6+g5:=⟨_,rfl⟩;obtain⟨Y4,e4⟩:∃ Y,Y=256*Y5+g4:=⟨_,rfl⟩;obtain⟨Y3,e3⟩:∃ Y,Y=256*Y4+g3:=⟨_,rfl⟩;obtain⟨Y2,e2⟩:∃ Y,Y=256*Y3+g2:=⟨_,rfl⟩;obtain⟨Y1,e1⟩:∃ Y,Y=256*Y2+g1:=⟨_,rfl⟩;rw[<- e6,<- e5,<- e4,<- e3,<- e2,<- e1]at hy;have q1:y / 256=Y1:=by clear e1 e2 e3 e4 e5 e6; omega
 have hy2:y=65536*Y2+(256*g1+g0):=by clear e2 e3 e4 e5 e6; omega
 have hY1:Y1=65536*Y3+(256*g2+g1):=by clear e3 e4 e5 e6 hy hy2; omega
 have q2:(y+Y1) / 65536=Y2+Y3:=by clear e1 e2 e3 e4 e5 e6 hy q1; omega
 have hY2:Y2=65536*Y4+(256*g3+g2):=by clear e1 e4 e5 e6 hy hy2 hY1 q1 q2; omega
 have hY3:Y3=65536*Y5+(256*g4+g3):=by clear e1 e2 e5 e6 hy hy2 hY1 q1 q2 hY2; omega
 have hY4:Y4=65536*Y6+(256*g5+g4):=by clear e1 e2 e3 e6 hy hy2 hY1 q1 q2 hY2 hY3; omega
 have hY5:Y5=65536*g7+(256*g6+g5):=by clear e1 e2 e3 e4 hy hy2 hY1 q1 q2 hY2 hY3 hY4; omega
 have l:y+Y1+(Y2+Y3)=4294967296*(Y4+Y5)+(65536*(256*(g3+g4)+(g2+g3))+(256*(g1+g2)+(g0+g1))+(65536*(Y4+Y5)+(256*(g3+g4)+(g2+g3)))):=by
  clear e1 e2 e3 e4 e5 e6 hy q1 q2 hY4 hY5; omega
 have l2:65536*(Y4+Y5)=4294967296*(Y6+g7)+65536*(256*(g5+g6)+(g4+g5)):=by
  clear e1 e2 e3 e4 e5 e6 hy q1 q2 l hY1 hY2 hY3 hy2; omega
 have q3:(y+Y1+(Y2+Y3)) / 4294967296=Y4+Y5+(Y6+g7):=by
  rw[l,l2];clear l l2 e1 e2 e3 e4 e5 e6 hy q1 q2 hY1 hY2 hY3 hY4 hY5 hy2;omega
 have b6:Y6<=2056:=by clear l l2 e1 e2 e3 e4 e5 hy q1 q2 q3 hY1 hY2 hY3 hY4 hY5 hy2; omega
 have b5:Y5<=526344:=by clear l l2 e1 e2 e3 e4 e6 hy q1 q2 q3 hY1 hY2 hY3 hY4 hY5 hy2; omega
 have b4:Y4<=134744072:=by clear l l2 e1 e2 e3 e5 e6 hy q1 q2 q3 hY1 hY2 hY3 hY4 hY5 hy2; omega
 have b3:Y3<=34494482440:=by clear l l2 e1 e2 e4 e5 e6 hy q1 q2 q3 hY1 hY2 hY3 hY4 hY5 hy2; omega
 have b2:Y2<=8830587504648:=by clear l l2 e1 e3 e4 e5 e6 hy q1 q2 q3 hY1 hY2 hY3 hY4 hY5 hy2; omega
 have b1:Y1<=2260630401189896:=by clear l l2 e2 e3 e4 e5 e6 hy q1 q2 q3 hY1 hY2 hY3 hY4 hY5 hy2; omega
 have b0:y<=578721382704613384:=by clear l l2 e1 e2 e3 e4 e5 e6 q1 q2 q3 hY1 hY2 hY3 hY4 hY5 hy2; omega
 have m:∀ a b c d e f:Nat,a % 128=c % 128->(a+b) % 128=(c+b) % 128:=fun a b c d e f h=>by omega
 unfold sum;simp only;rw[q1,q2,q3];refine⟨?_,by omega,by omega,by omega⟩;have r0:y % 128=g0 % 128:=by clear l l2 e1 e2 e3 e4 e5 e6 q1 q2 q3 hY1 hY2 hY3 hY4 hY5 hy2; omega
 have r1:Y1 % 128=g1 % 128:=by clear l l2 e2 e3 e4 e5 e6 q1 q2 q3 hY1 hY2 hY3 hY4 hY5 hy2 hy; omega
 have r2:Y2 % 128=g2 % 128:=by clear l l2 e1 e3 e4 e5 e6 q1 q2 q3 hY1 hY2 hY3 hY4 hY5 hy2 hy; omega
 have r3:Y3 % 128=g3 % 128:=by clear l l2 e1 e2 e4 e5 e6 q1 q2 q3 hY1 hY2 hY3 hY4 hY5 hy2 hy; omega
 have r4:Y4 % 128=g4 % 128:=by clear l l2 e1 e2 e3 e5 e6 q1 q2 q3 hY1 hY2 hY3 hY4 hY5 hy2 hy; omega
 have r5:Y5 % 128=g5 % 128:=by clear l l2 e1 e2 e3 e4 e6 q1 q2 q3 hY1 hY2 hY3 hY4 hY5 hy2 hy; omega
 have r6:Y6 % 128=g6 % 128:=by clear l l2 e1 e2 e3 e4 e5 q1 q2 q3 hY1 hY2 hY3 hY4 hY5 hy2 hy; omega
 clear l l2 e1 e2 e3 e4 e5 e6 q1 q2 q3 hY1 hY2 hY3 hY4 hY5 hy2 hy b0 b1 b2 b3 b4 b5 b6;omega
def ones(x:Nat):Nat:=sum (y3 8 x)
theorem ones_sum{x:Nat}(hx:x < 2^64):∃ y,y3 8 x=y/\ones x<=64/\(ones x=0->x=0)/\y+y / 256 < 2^64/\(y+y / 256)+(y+y / 256) / 65536 < 2^64 /\
   ((y+y / 256)+(y+y / 256) / 65536)+((y+y / 256)+(y+y / 256) / 65536) / 4294967296 < 2^64:=by
 refine⟨_,rfl,?_⟩;unfold ones;have hy:=step 7 x;rw[step 6,step 5,step 4,step 3,step 2,step 1,step 0,y30]at hy;obtain⟨h1,h2,h3,h4⟩:=sum_is (g_le x) (g_le _) (g_le _) (g_le _) (g_le _) (g_le _) (g_le _) (g_le _) (by simpa using hy);refine⟨?_,fun h=>?_,h2,h3,h4⟩
 ·rw[h1];have:=g_le x; have:=g_le (x / 256); have:=g_le (x / 256 / 256); have:=g_le (x / 256 / 256 / 256); have:=g_le (x / 256 / 256 / 256 / 256);have:=g_le (x / 256 / 256 / 256 / 256 / 256); have:=g_le (x / 256 / 256 / 256 / 256 / 256 / 256); have:=g_le (x / 256 / 256 / 256 / 256 / 256 / 256 / 256);omega
 ·rw[h1]at h;clear hy h1 h2 h3 h4;have z:∀ x:Nat,g (x % 256)=0->x / 256=0->x=0:=fun x h1 h2=>by have:=g_0 x h1; omega
  refine z x (by omega) (z _ (by omega) (z _ (by omega) (z _ (by omega) (z _ (by omega) (z _ (by omega) (z _ (by omega) (z _ (by omega) ?_)))))));rw[Nat.div_div_eq_div_mul,Nat.div_div_eq_div_mul,Nat.div_div_eq_div_mul,Nat.div_div_eq_div_mul,Nat.div_div_eq_div_mul,Nat.div_div_eq_div_mul,Nat.div_div_eq_div_mul];exact Nat.div_eq_of_lt hx
theorem ones_0:ones 0=0:=by decide +kernel
end Go.Ab.On
namespace Go.Ab.Pd
open Go.Proofs
theorem inU_0:inU 0:=⟨by decide,by decide⟩
theorem toNat_U{w:Int}(h:inU w):(BitVec.ofInt IntKind.u64.bits w).toNat=w.toNat:=by
 rw[BitVec.toNat_ofInt];have e:((2^IntKind.u64.bits:Nat):Int)=2^64:=by decide
 rw[e,Int.emod_eq_of_lt h.1 h.2]
theorem wrapU{n:Int}(h:inU n):IntKind.u64.wrap n=n:=by
 rw[IntKind.wrap_u64];exact Int.emod_eq_of_lt h.1 h.2
theorem lt_U{w:Int}(h:inU w):w.toNat < 2^64:=by unfold inU at h; omega
theorem andW_nat{x y:Int}(hx:inU x)(hy:inU y):andW x y=((x.toNat &&& y.toNat:Nat):Int):=by
 unfold andW;rw[BitVec.toNat_and,toNat_U hx,toNat_U hy];have h:=Nat.and_le_left (n:=x.toNat) (m:=y.toNat);have h2:=lt_U hx;exact wrapU ⟨by omega,by omega⟩
def S1'(w:Int):Int:=IntKind.u64.wrap (IntKind.u64.wrap ((BitVec.ofInt IntKind.u64.bits (w.fdiv (2^min 1 IntKind.u64.bits)) &&& BitVec.ofInt IntKind.u64.bits 6148914691236517205).toNat:Int)+IntKind.u64.wrap ((BitVec.ofInt IntKind.u64.bits w &&& BitVec.ofInt IntKind.u64.bits 6148914691236517205).toNat:Int))
def S2'(w:Int):Int:=IntKind.u64.wrap (IntKind.u64.wrap ((BitVec.ofInt IntKind.u64.bits (w.fdiv (2^min 2 IntKind.u64.bits)) &&& BitVec.ofInt IntKind.u64.bits 3689348814741910323).toNat:Int)+IntKind.u64.wrap ((BitVec.ofInt IntKind.u64.bits w &&& BitVec.ofInt IntKind.u64.bits 3689348814741910323).toNat:Int))
def S3'(w:Int):Int:=IntKind.u64.wrap ((BitVec.ofInt IntKind.u64.bits (IntKind.u64.wrap (w.fdiv (2^min 4 IntKind.u64.bits)+w)) &&& BitVec.ofInt IntKind.u64.bits 1085102592571150095).toNat:Int)
def S8'(w:Int):Int:=IntKind.u64.wrap (w+w.fdiv (2^min 8 IntKind.u64.bits))
def S16'(w:Int):Int:=IntKind.u64.wrap (w+w.fdiv (2^min 16 IntKind.u64.bits))
def S32'(w:Int):Int:=IntKind.u64.wrap (w+w.fdiv (2^min 32 IntKind.u64.bits))
theorem fS1(w:Int):IntKind.u64.wrap (IntKind.u64.wrap ((BitVec.ofInt IntKind.u64.bits (w.fdiv (2^min 1 IntKind.u64.bits)) &&& BitVec.ofInt IntKind.u64.bits 6148914691236517205).toNat:Int)+IntKind.u64.wrap ((BitVec.ofInt IntKind.u64.bits w &&& BitVec.ofInt IntKind.u64.bits 6148914691236517205).toNat:Int))=S1' w:=(rfl)
theorem fS2(w:Int):IntKind.u64.wrap (IntKind.u64.wrap ((BitVec.ofInt IntKind.u64.bits (w.fdiv (2^min 2 IntKind.u64.bits)) &&& BitVec.ofInt IntKind.u64.bits 3689348814741910323).toNat:Int)+IntKind.u64.wrap ((BitVec.ofInt IntKind.u64.bits w &&& BitVec.ofInt IntKind.u64.bits 3689348814741910323).toNat:Int))=S2' w:=(rfl)
theorem fS3(w:Int):IntKind.u64.wrap ((BitVec.ofInt IntKind.u64.bits (IntKind.u64.wrap (w.fdiv (2^min 4 IntKind.u64.bits)+w)) &&& BitVec.ofInt IntKind.u64.bits 1085102592571150095).toNat:Int)=S3' w:=(rfl)
theorem fS8(w:Int):IntKind.u64.wrap (w+w.fdiv (2^min 8 IntKind.u64.bits))=S8' w:=(rfl)
theorem fS16(w:Int):IntKind.u64.wrap (w+w.fdiv (2^min 16 IntKind.u64.bits))=S16' w:=(rfl)
theorem fS32(w:Int):IntKind.u64.wrap (w+w.fdiv (2^min 32 IntKind.u64.bits))=S32' w:=(rfl)
theorem fdiv_nat(x k:Nat):((x:Nat):Int).fdiv ((k:Nat):Int)=((x / k:Nat):Int):=by
 rw[Int.fdiv_eq_ediv_of_nonneg _ (by omega)]; rfl
theorem nU{x:Nat}(h:x < 2^64):inU (x:Int):=⟨by omega,by omega⟩
theorem S1_nat{x:Nat}(h:x < 2^64):S1' (x:Int)=((On.a1 8 x:Nat):Int)/\On.a1 8 x < 2^64:=by
 have e:(2:Int)^min 1 IntKind.u64.bits=((2:Nat):Int):=by decide
 have m:On.mk 85 8=6148914691236517205:=by decide
 have a1:=andW_nat (x:=((x / 2:Nat):Int)) (y:=6148914691236517205) (nU (by omega)) ⟨by decide,by decide⟩;have a2:=andW_nat (x:=(x:Int)) (y:=6148914691236517205) (nU h) ⟨by decide,by decide⟩;unfold andW at a1 a2;rw[Int.toNat_natCast,show(6148914691236517205:Int).toNat=6148914691236517205 from rfl]at a1 a2;have l1:=Nat.and_le_right (n:=x / 2) (m:=6148914691236517205);have l2:=Nat.and_le_right (n:=x) (m:=6148914691236517205);unfold S1' On.a1;rw[e,fdiv_nat,a1,a2,m]
 generalize x / 2 &&& 6148914691236517205=p at l1
 generalize x &&& 6148914691236517205=q at l2
 exact⟨(wrapU ⟨by omega,by omega⟩).trans (by omega),by omega⟩
theorem S2_nat{x:Nat}(h:x < 2^64):S2' (x:Int)=((On.a2 8 x:Nat):Int)/\On.a2 8 x<=7378697629483820646:=by
 have e:(2:Int)^min 2 IntKind.u64.bits=((4:Nat):Int):=by decide
 have m:On.mk 51 8=3689348814741910323:=by decide
 have a1:=andW_nat (x:=((x / 4:Nat):Int)) (y:=3689348814741910323) (nU (by omega)) ⟨by decide,by decide⟩;have a2:=andW_nat (x:=(x:Int)) (y:=3689348814741910323) (nU h) ⟨by decide,by decide⟩;unfold andW at a1 a2;rw[Int.toNat_natCast,show(3689348814741910323:Int).toNat=3689348814741910323 from rfl]at a1 a2;have l1:=Nat.and_le_right (n:=x / 4) (m:=3689348814741910323);have l2:=Nat.and_le_right (n:=x) (m:=3689348814741910323);unfold S2' On.a2;rw[e,fdiv_nat,a1,a2,m]
 generalize x / 4 &&& 3689348814741910323=p at l1
 generalize x &&& 3689348814741910323=q at l2
 exact⟨(wrapU ⟨by omega,by omega⟩).trans (by omega),by omega⟩
theorem S3_nat{x:Nat}(h:x<=7378697629483820646):S3' (x:Int)=((On.a3 8 x:Nat):Int)/\On.a3 8 x<=1085102592571150095:=by
 have e:(2:Int)^min 4 IntKind.u64.bits=((16:Nat):Int):=by decide
 have m:On.mk 15 8=1085102592571150095:=by decide
 have a1:=andW_nat (x:=((x / 16+x:Nat):Int)) (y:=1085102592571150095) (nU (by omega)) ⟨by decide,by decide⟩;unfold andW at a1;rw[Int.toNat_natCast,show(1085102592571150095:Int).toNat=1085102592571150095 from rfl]at a1;have l1:=Nat.and_le_right (n:=x / 16+x) (m:=1085102592571150095);unfold S3' On.a3;rw[e,fdiv_nat,show((x / 16:Nat):Int)+(x:Int)=((x / 16+x:Nat):Int) by omega,wrapU (n:=((x / 16+x:Nat):Int)) (nU (by omega)),a1,m];exact⟨rfl,l1⟩
theorem S8_nat{x:Nat}(h:x+x / 256 < 2^64):S8' (x:Int)=((x+x / 256:Nat):Int):=by
 have e:(2:Int)^min 8 IntKind.u64.bits=((256:Nat):Int):=by decide
 unfold S8';rw[e,fdiv_nat,show(x:Int)+((x / 256:Nat):Int)=((x+x / 256:Nat):Int) by omega,wrapU (nU h)]
theorem S16_nat{x:Nat}(h:x+x / 65536 < 2^64):S16' (x:Int)=((x+x / 65536:Nat):Int):=by
 have e:(2:Int)^min 16 IntKind.u64.bits=((65536:Nat):Int):=by decide
 unfold S16';rw[e,fdiv_nat,show(x:Int)+((x / 65536:Nat):Int)=((x+x / 65536:Nat):Int) by omega,wrapU (nU h)]
theorem S32_nat{x:Nat}(h:x+x / 4294967296 < 2^64):S32' (x:Int)=((x+x / 4294967296:Nat):Int):=by
 have e:(2:Int)^min 32 IntKind.u64.bits=((4294967296:Nat):Int):=by decide
 unfold S32';rw[e,fdiv_nat,show(x:Int)+((x / 4294967296:Nat):Int)=((x+x / 4294967296:Nat):Int) by omega,wrapU (nU h)]
theorem last_nat{z:Nat}(h:z < 2^63):IntKind.i64.wrap ((BitVec.ofInt IntKind.i64.bits (IntKind.i64.wrap (z:Int)) &&& BitVec.ofInt IntKind.i64.bits 127).toNat:Int)=((z % 128:Nat):Int):=by
 rw[zAl (n:=(z:Int)) (by omega) (by omega),BitVec.toNat_and,BitVec.toNat_ofInt,BitVec.toNat_ofInt];have e:((2^IntKind.i64.bits:Nat):Int)=2^64:=by decide
 have e2:((127:Int) % 2^64).toNat=2^7 - 1:=by decide
 rw[e,Int.emod_eq_of_lt (a:=(z:Int)) (by omega) (by omega),Int.toNat_natCast,e2,Nat.and_two_pow_sub_one_eq_mod];exact zAl (by omega) (by omega)
theorem e240:Ent Tryz.prog 240 Tryz.f240 [] 1:=.mk Tryz.func240 rfl
theorem ones_ex(w:Int):∃ n,Pur Tryz.prog GG 240 [U w] (I n)/\(inU w->n=(On.ones w.toNat:Int)):=by
 apply Exists.intro;refine⟨?_,?_⟩
 ·refine goQ e240 zCi 0 ?_ rfl;simp only[push_cast,seval,↓kw2,fS1,fS2,fS3,fS8,fS16,fS32];exact⟨_,rfl,zAa rfl rfl⟩
 ·intro hw
  obtain⟨x,rfl⟩:∃ x:Nat,w=(x:Int):=⟨w.toNat,by unfold inU at hw; omega⟩;have hx:x < 2^64:=by unfold inU at hw; omega
  obtain⟨e1,l1⟩:=S1_nat hx;obtain⟨e2,l2⟩:=S2_nat l1;obtain⟨e3,l3⟩:=S3_nat l2;have hy:On.a3 8 (On.a2 8 (On.a1 8 x))=On.y3 8 x:=rfl;rw[hy]at e3 l3;rw[e1,e2,e3,S8_nat (by omega),S16_nat (by omega),S32_nat (by omega),last_nat (by omega),Int.toNat_natCast];rfl
noncomputable def onesV (w:Int):Int:=Classical.choose (ones_ex w)
theorem onesV_pur(w:Int):Pur Tryz.prog GG 240 [U w] (I (onesV w)):=(Classical.choose_spec (ones_ex w)).1
noncomputable def addV (acc w:Int):Int:=IntKind.i64.wrap (acc+onesV w)
theorem e183:Ent Tryz.prog 183 Tryz.f183 [] 2:=.mk Tryz.func183 rfl
theorem e151:Ent Tryz.prog 151 Tryz.f151 [] 3:=.mk Tryz.func151 rfl
end Go.Ab.Pd
