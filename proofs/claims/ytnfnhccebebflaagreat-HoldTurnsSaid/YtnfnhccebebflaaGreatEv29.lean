/- One of the texts that this claim stands on. -/
set_option maxHeartbeats 40000000
set_option maxRecDepth 400000
set_option linter.all false
namespace Go.Ab.On
def mk(c:Nat):Nat->Nat
 | 0=>0
 | n+1=>256*mk c n+c
theorem mk_succ(c n:Nat):mk c (n+1)=256*mk c n+c:=rfl
theorem and_split{q m r c:Nat}(hr:r < 256)(hc:c < 256):(256*q+r) &&& (256*m+c)=256*(q &&& m)+(r &&& c):=by
 have h1:=Nat.and_div_two_pow (a:=256*q+r) (b:=256*m+c) (n:=8);have h2:=Nat.and_mod_two_pow (a:=256*q+r) (b:=256*m+c) (n:=8);have e1:(256*q+r) / 2^8=q:=by omega
 have e2:(256*m+c) / 2^8=m:=by omega
 have e3:(256*q+r) % 2^8=r:=by omega
 have e4:(256*m+c) % 2^8=c:=by omega
 rw[e1,e2]at h1;rw[e3,e4]at h2;omega
def a1(n x:Nat):Nat:=(x / 2 &&& mk 85 n)+(x &&& mk 85 n)
def a2(n x:Nat):Nat:=(x / 4 &&& mk 51 n)+(x &&& mk 51 n)
def a3(n x:Nat):Nat:=(x / 16+x) &&& mk 15 n
def b1(r:Nat):Nat:=(r / 2 &&& 85)+(r &&& 85)
def b2(r:Nat):Nat:=(r / 4 &&& 51)+(r &&& 51)
def b3(r:Nat):Nat:=(r / 16+r) &&& 15
theorem d1:∀ r,r < 256->∀ e,e < 2->(128*e+r / 2) &&& 85=r / 2 &&& 85:=by decide +kernel
theorem d2:∀ r,r < 256->∀ e,e < 4->(64*e+r / 4) &&& 51=r / 4 &&& 51:=by decide +kernel
theorem d3:∀ r,r < 256->r % 16<=4->r / 16<=4->∀ e,e < 5->(16*e+r / 16+r) &&& 15=(r / 16+r) &&& 15:=by decide +kernel
theorem d4:∀ r,r < 256->b1 r < 256/\b2 (b1 r) < 256/\b2 (b1 r) % 16<=4/\b2 (b1 r) / 16<=4/\b3 (b2 (b1 r))<=8/\(b3 (b2 (b1 r))=0->r=0):=by decide +kernel
theorem s1{n q r:Nat}(hr:r < 256):a1 (n+1) (256*q+r)=256*a1 n q+b1 r:=by
 have e:(256*q+r) / 2=256*(q / 2)+(128*(q % 2)+r / 2):=by omega
 unfold a1 b1;rw[mk_succ,e,and_split (by omega) (by decide),and_split hr (by decide),d1 r hr _ (by omega)];omega
theorem s2{n q r:Nat}(hr:r < 256):a2 (n+1) (256*q+r)=256*a2 n q+b2 r:=by
 have e:(256*q+r) / 4=256*(q / 4)+(64*(q % 4)+r / 4):=by omega
 unfold a2 b2;rw[mk_succ,e,and_split (by omega) (by decide),and_split hr (by decide),d2 r hr _ (by omega)];omega
theorem s3{n q r:Nat}(hr:r < 256)(h1:r % 16<=4)(h2:r / 16<=4)(h3:q % 16<=4):a3 (n+1) (256*q+r)=256*a3 n q+b3 r:=by
 have e:(256*q+r) / 16+(256*q+r)=256*(q / 16+q)+(16*(q % 16)+r / 16+r):=by omega
 unfold a3 b3;rw[mk_succ,e,and_split (by omega) (by decide),d3 r hr h1 h2 _ (by omega)]
theorem and0(x:Nat):x &&& mk 51 0=0:=Nat.and_zero x
theorem low(n x:Nat):a2 n (a1 n x) % 16<=4:=by
 cases n with
 | zero=>unfold a2; rw[and0,and0]; decide
 | succ n =>
  have e:x=256*(x / 256)+x % 256:=by omega
  have hr:x % 256 < 256:=by omega
  have h:=d4 _ hr;rw[e,s1 hr,s2 h.1];omega
def y3(n x:Nat):Nat:=a3 n (a2 n (a1 n x))
def g(r:Nat):Nat:=b3 (b2 (b1 r))
theorem step(n x:Nat):y3 (n+1) x=256*y3 n (x / 256)+g (x % 256):=by
 have e:x=256*(x / 256)+x % 256:=by omega
 have hr:x % 256 < 256:=by omega
 have h:=d4 _ hr;have hl:=low n (x / 256);unfold y3 g;rw[e,s1 hr,s2 h.1,s3 h.2.1 h.2.2.1 h.2.2.2.1 hl];have e2:(256*(x / 256)+x % 256) / 256=x / 256:=by omega
 have e3:(256*(x / 256)+x % 256) % 256=x % 256:=by omega
 rw[e2,e3]
end Go.Ab.On
