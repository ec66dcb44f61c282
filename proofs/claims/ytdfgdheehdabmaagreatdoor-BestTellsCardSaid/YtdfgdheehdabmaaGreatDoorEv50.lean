/- One of the texts that this claim stands on. -/
import Derived.Test.YtdfgdheehdabmaaGreatDoorEv37
import Derived.Test.YtdfgdheehdabmaaGreatDoorEv41
set_option maxHeartbeats 40000000
set_option maxRecDepth 400000
set_option linter.all false
namespace Go.Ab.Pd
open Go.Proofs
def axN(n x v:Int)(k:Nat):Bool:=(List.range k).any fun j=>decide ((x+(j:Int)).tmod n=v)
theorem axN_succ(n x v:Int)(k:Nat):axN n x v (k+1)=(axN n x v k||decide ((x+(k:Int)).tmod n=v)):=by
 unfold axN;rw[List.range_succ,List.any_append];simp
theorem axN_iff{n x v:Int}{k:Nat}:axN n x v k=true ↔ ∃ i:Int,(0≤i∧i < k)∧(x+i).tmod n=v:=by
 unfold axN;rw[List.any_eq_true]
 constructor
 ·rintro⟨j,hj,h⟩
  exact⟨j,⟨by omega,by have:=List.mem_range.1 hj; omega⟩,of_decide_eq_true h⟩
 ·rintro⟨i,⟨h0,h1⟩,h⟩
  refine⟨i.toNat,List.mem_range.2 (by omega),decide_eq_true ?_⟩;rw[show((i.toNat:Nat):Int)=i by omega];exact h
def inB(a b c x y z p q r m:Int):Bool:=axN a x (ofX a b c m) p.toNat&&(axN b y (ofY a b c m) q.toNat&&axN c z (ofZ a b c m) r.toNat)
theorem mem_nodes{a b c x y z p q r m:Int}:m∈zAv a b c x y z p q r ↔ ∃ i j k:Int,(0≤i∧i < p)∧(0≤j∧j < q)∧(0≤k∧k < r)∧m=nodeV a b c x y z i j k:=by
 unfold zAv nodesY nodesX
 constructor
 ·intro h
  obtain⟨k,k1,k2,h⟩:=zDi h;obtain⟨j,j1,j2,h⟩:=zDi h;obtain⟨i,i1,i2,h⟩:=zDi h;exact⟨i,j,k,by omega,by omega,by omega,by simpa using h⟩
 ·rintro⟨i,j,k,hi,hj,hk,rfl⟩
  exact zFd (i:=k) (by omega) (by omega) (zFd (i:=j) (by omega) (by omega) (zFd (i:=i) (by omega) (by omega) (by simp)))
theorem at_of{a b c m:Int}(h:inM a b c m):atV a b c (ofX a b c m) (ofY a b c m) (ofZ a b c m)=m∧okP a b c (ofX a b c m) (ofY a b c m) (ofZ a b c m):=by
 obtain⟨h1,h2,h3,h4,h5,h6⟩:=zEg h;have hp:okP a b c (ofX a b c m) (ofY a b c m) (ofZ a b c m):=⟨h1,h2,h3⟩;refine⟨?_,hp⟩;rw[atV,if_pos ⟨h.1,hp⟩,ofX,if_pos h,ofY,if_pos h,ofZ,if_pos h];have e1:=Int.emod_add_mul_ediv m a;have e2:=Int.emod_add_mul_ediv (m / a) b;have e3:m / (a*b)=m / a / b:=(Int.ediv_ediv_of_nonneg (by omega)).symm;have e4:m / a / b < c:=by
  have hm:=h.2.2;have hmul:a*b*c=a*(b*c):=Int.mul_assoc _ _ _;have s1:m / a < b*c:=Int.ediv_lt_of_lt_mul (by omega) (by rw[Int.mul_comm,← hmul]; exact hm);exact Int.ediv_lt_of_lt_mul (by omega) (by rw[Int.mul_comm]; exact s1)
 have e5:0≤m / a / b:=Int.ediv_nonneg (Int.ediv_nonneg h.2.1 (by omega)) (by omega);rw[e3,Int.emod_eq_of_lt e5 e4,Int.mul_assoc];rw[Int.add_assoc,← Int.mul_add,e2];exact e1
theorem at_eq{a b c m x y z:Int}(h:inM a b c m)(hp:okP a b c x y z):m=atV a b c x y z ↔ x=ofX a b c m∧y=ofY a b c m∧z=ofZ a b c m:=by
 obtain⟨e,hq⟩:=at_of h
 constructor
 ·intro hm
  exact at_inj h.1 hp hq (by rw[e]; exact hm.symm)
 ·rintro⟨rfl,rfl,rfl⟩
  exact e.symm
theorem inB_iff{a b c x y z p q r m:Int}(h:inM a b c m)(hb:okB a b c x y z p q r):inB a b c x y z p q r m=true ↔ m∈zAv a b c x y z p q r:=by
 unfold inB;rw[Bool.and_eq_true,Bool.and_eq_true,axN_iff,axN_iff,axN_iff,mem_nodes];unfold okB ok1 at hb
 constructor
 ·rintro⟨⟨i,hi,ei⟩,⟨j,hj,ej⟩,⟨k,hk,ek⟩⟩
  refine⟨i,j,k,by omega,by omega,by omega,?_⟩;unfold nodeV;exact(at_eq h (okP_tmod h.1 (by omega) (by omega) (by omega))).2 ⟨ei,ej,ek⟩
 ·rintro⟨i,j,k,hi,hj,hk,e⟩
  unfold nodeV at e;obtain⟨e1,e2,e3⟩:=(at_eq h (okP_tmod h.1 (by omega) (by omega) (by omega))).1 e;exact⟨⟨i,by omega,e1⟩,⟨j,by omega,e2⟩,⟨k,by omega,e3⟩⟩
def boxL(a b c x y z p q r:Int):List Int:=((List.range (a*b*c).toNat).map Int.ofNat).filter fun m=>inB a b c x y z p q r m
theorem zEn{a b c x y z p q r m:Int}(hd:okD a b c)(hb:okB a b c x y z p q r):m∈boxL a b c x y z p q r ↔ m∈zAv a b c x y z p q r:=by
 unfold boxL;rw[List.mem_filter,List.mem_map]
 constructor
 ·rintro⟨⟨k,hk,rfl⟩,h⟩
  have hk:=List.mem_range.1 hk;exact(inB_iff ⟨hd,by simp,by simp; omega⟩ hb).1 h
 ·intro h
  have hm:=zCn hd hb h;refine⟨⟨m.toNat,List.mem_range.2 (by have:=hm.2; omega),by have:=hm.2; simp; omega⟩,(inB_iff hm hb).2 h⟩
def cooV(a b c m k:Int):Int:=if k=0 then ofX a b c m else if k=1 then ofY a b c m else ofZ a b c m
def zFh(a b c k m o:Int)(n:Nat):Bool:=(List.range n).any fun i=>decide (stV a b c m k (i:Int)=o)
theorem among_succ(a b c k m o:Int)(n:Nat):zFh a b c k m o (n+1)=(zFh a b c k m o n||decide (stV a b c m k (n:Int)=o)):=by
 unfold zFh;rw[List.range_succ,List.any_append];simp
def takenL(a b c k m:Int)(n:Nat):List Int:=if 1 < dimV a b c k then (((List.range (a*b*c).toNat).map Int.ofNat).filter fun o=>zFh a b c k m o n).map fun o=>k*(a*b*c)+o else []
def tookL(a b c k m s:Int)(t:Bool):List Int:=if s=1 then [] else takenL a b c k m (runN (dimV a b c k) s t).toNat
theorem dimV_in{a b c k:Int}(hd:okD a b c):1≤dimV a b c k∧dimV a b c k≤16:=by
 unfold okD at hd;unfold dimV
 split
 ·exact hd.1
 ·split
  ·exact hd.2.1
  ·exact hd.2.2
theorem took_mem{a b c k m s:Int}{t:Bool}(hk:0≤k∧k≤2)(hm:inM a b c m)(hs:1≤s∧s≤dimV a b c k)(x:Int):x∈tookL a b c k m s t ↔ x∈runLs a b c k m s t:=by
 unfold tookL runLs
 by_cases h1:s=1
 ·rw[if_pos h1,if_pos h1]
 ·have hdim:=dimV_in (k:=k) hm.1;rw[if_neg h1,if_neg h1,srt_mem,takenL,if_pos (by omega),runL];have hn:¬dimV a b c k=1:=by omega
  have hmv:zAg a b c=a*b*c:=by rw[zAg,if_pos hm.1]
  have hrv:∀ i,runV a b c k m i=k*(a*b*c)+stV a b c m k i:=fun i=>by
   obtain⟨h2,h3,h4⟩:=step_ok (s:=i) hk hm;unfold runV zFj;rw[if_pos ⟨ask_ok hk ⟨hm.1,h3,h4⟩,hn⟩,hmv]
  generalize (runN (dimV a b c k) s t)=n
  constructor
  ·intro h
   obtain⟨o,ho,rfl⟩:=List.mem_map.1 h;obtain⟨_,ho⟩:=List.mem_filter.1 ho;unfold zFh at ho;obtain⟨i,hi,e⟩:=List.any_eq_true.1 ho;have hi:=List.mem_range.1 hi;refine zFd (i:=(i:Int)) (by omega) (by omega) ?_;rw[hrv,of_decide_eq_true e];simp
  ·intro h
   obtain⟨i,h1,h2,h⟩:=zDi h;rw[List.mem_singleton]at h;obtain⟨_,h3,h4⟩:=step_ok (s:=i) hk hm;rw[h,hrv];refine List.mem_map.2 ⟨stV a b c m k i,List.mem_filter.2 ⟨List.mem_map.2 ⟨(stV a b c m k i).toNat,List.mem_range.2 (by omega),by simp; omega⟩,?_⟩,rfl⟩;unfold zFh;refine List.any_eq_true.2 ⟨i.toNat,List.mem_range.2 (by omega),decide_eq_true ?_⟩;rw[show((i.toNat:Nat):Int)=i by omega]
def cabAx(a b c x y z p q r k base s:Int)(t:Bool):List Int:=((boxL a b c x y z p q r).filter fun m=>decide (cooV a b c m k=base)).flatMap fun m=>tookL a b c k m s t
def cabL(a b c x y z p q r:Int)(s t u:Bool):List Int:=cabAx a b c x y z p q r 0 x p s++(cabAx a b c x y z p q r 1 y q t++cabAx a b c x y z p q r 2 z r u)
theorem tmod_0{a x:Int}(h:0≤x∧x < a):(x+0).tmod a=x:=by
 rw[Int.add_zero,Int.tmod_eq_emod_of_nonneg h.1,Int.emod_eq_of_lt h.1 h.2]
theorem tmod_base{a x i:Int}(h:0≤x∧x < a)(hi:0≤i∧i < a)(e:(x+i).tmod a=x):i=0:=by
 rw[Int.tmod_eq_emod_of_nonneg (by omega)]at e
 by_cases h1:x+i < a
 ·rw[Int.emod_eq_of_lt (by omega) h1]at e;omega
 ·rw[← Int.sub_emod_right,Int.emod_eq_of_lt (by omega) (by omega)]at e;omega
theorem coo_node{a b c x y z i j k:Int}(hd:okD a b c)(h1:0≤x+i)(h2:0≤y+j)(h3:0≤z+k) :
  ofX a b c (nodeV a b c x y z i j k)=(x+i).tmod a∧ofY a b c (nodeV a b c x y z i j k)=(y+j).tmod b∧ofZ a b c (nodeV a b c x y z i j k)=(z+k).tmod c :=
 of_at hd (okP_tmod hd h1 h2 h3)
theorem cabAx_mem{a b c x y z p q r:Int}{s t u:Bool}(hd:okD a b c)(hb:okB a b c x y z p q r){k p' q' r' n:Int}{e:Bool}{base:Int}(hx:zEe p q r s t u k p' q' r' n e)(hbase:base=if k=0 then x else if k=1 then y else z)(l:Int) :
  l∈cabAx a b c x y z p q r k base n e ↔ l∈alongL a b c x y z k p' q' r' n e:=by
 unfold cabAx alongL;rw[List.mem_flatMap,List.mem_flatMap];have hk:0≤k∧k≤2:=by unfold zEe at hx; omega
 have hn:1≤n∧n≤dimV a b c k:=by
  unfold okB ok1 at hb;unfold dimV;unfold zEe at hx
  rcases hx with ⟨rfl,_,_,_,rfl,_⟩ | ⟨rfl,_,_,_,rfl,_⟩ | ⟨rfl,_,_,_,rfl,_⟩ <;> simp <;> omega
 have key:∀ m,m∈(boxL a b c x y z p q r).filter (fun m=>decide (cooV a b c m k=base)) ↔ m∈zAv a b c x y z p' q' r':=by
  intro m
  rw[List.mem_filter,zEn hd hb,mem_nodes,mem_nodes,decide_eq_true_eq];unfold okB ok1 at hb;unfold cooV
  rcases hx with ⟨rfl,rfl,rfl,rfl,rfl,rfl⟩ | ⟨rfl,rfl,rfl,rfl,rfl,rfl⟩ | ⟨rfl,rfl,rfl,rfl,rfl,rfl⟩
  ·simp only[if_true]at hbase ⊢;subst hbase
   constructor
   ·rintro⟨⟨i,j,k,hi,hj,hk,rfl⟩,h⟩
    rw[(coo_node hd (by omega) (by omega) (by omega)).1]at h;have:=tmod_base (by omega) (by omega) h;exact⟨i,j,k,by omega,hj,hk,rfl⟩
   ·rintro⟨i,j,k,hi,hj,hk,rfl⟩
    refine⟨⟨i,j,k,by omega,hj,hk,rfl⟩,?_⟩;rw[(coo_node hd (by omega) (by omega) (by omega)).1,show i=0 by omega];exact tmod_0 (by omega)
  ·simp only[if_neg (by decide:¬(1:Int)=0),if_true]at hbase ⊢;subst hbase
   constructor
   ·rintro⟨⟨i,j,k,hi,hj,hk,rfl⟩,h⟩
    rw[(coo_node hd (by omega) (by omega) (by omega)).2.1]at h;have:=tmod_base (by omega) (by omega) h;exact⟨i,j,k,hi,by omega,hk,rfl⟩
   ·rintro⟨i,j,k,hi,hj,hk,rfl⟩
    refine⟨⟨i,j,k,hi,by omega,hk,rfl⟩,?_⟩;rw[(coo_node hd (by omega) (by omega) (by omega)).2.1,show j=0 by omega];exact tmod_0 (by omega)
  ·simp only[if_neg (by decide:¬(2:Int)=0),if_neg (by decide:¬(2:Int)=1)]at hbase ⊢;subst hbase
   constructor
   ·rintro⟨⟨i,j,k,hi,hj,hk,rfl⟩,h⟩
    rw[(coo_node hd (by omega) (by omega) (by omega)).2.2]at h;have:=tmod_base (by omega) (by omega) h;exact⟨i,j,k,hi,hj,by omega,rfl⟩
   ·rintro⟨i,j,k,hi,hj,hk,rfl⟩
    refine⟨⟨i,j,k,hi,hj,by omega,rfl⟩,?_⟩;rw[(coo_node hd (by omega) (by omega) (by omega)).2.2,show k=0 by omega];exact tmod_0 (by omega)
 have hin:∀ m,m∈zAv a b c x y z p' q' r'→inM a b c m:=fun m hm=>by
  have:=(key m).2 hm;exact zCn hd hb ((zEn hd hb).1 (List.mem_filter.1 this).1)
 constructor
 ·rintro⟨m,hm,hl⟩
  have hm':=(key m).1 hm;exact⟨m,srt_mem.2 hm',(took_mem hk (hin m hm') hn l).1 hl⟩
 ·rintro⟨m,hm,hl⟩
  have hm':=srt_mem.1 hm;exact⟨m,(key m).2 hm',(took_mem hk (hin m hm') hn l).2 hl⟩
theorem cabL_mem{a b c x y z p q r:Int}{s t u:Bool}(hd:okD a b c)(hb:okB a b c x y z p q r)(l:Int):l∈cabL a b c x y z p q r s t u ↔ l∈zCc a b c x y z p q r s t u:=by
 unfold cabL zCc;rw[List.mem_append,List.mem_append,List.mem_append,List.mem_append,
  cabAx_mem (s:=s) (t:=t) (u:=u) (base:=x) hd hb (.inl ⟨rfl,rfl,rfl,rfl,rfl,rfl⟩) rfl l,cabAx_mem (s:=s) (t:=t) (u:=u) (base:=y) hd hb (.inr (.inl ⟨rfl,rfl,rfl,rfl,rfl,rfl⟩)) rfl l,cabAx_mem (s:=s) (t:=t) (u:=u) (base:=z) hd hb (.inr (.inr ⟨rfl,rfl,rfl,rfl,rfl,rfl⟩)) rfl l,or_assoc]
def outL{α:Type}(less:α→α→Bool)(p:α):List α→Bool→List α
 | [],d=>if d=true then [] else [p]
 | y::l,d=>if (!d&&less p y)=true then p::y::outL less p l true else y::outL less p l d
theorem outL_true{α:Type}(less:α→α→Bool)(p:α):∀ l:List α,outL less p l true=l
 | []=>rfl
 | y::l=>by
  unfold outL;rw[if_neg (by simp),outL_true less p l]
theorem outL_perm{α:Type}(less:α→α→Bool)(p:α):∀ l:List α,(outL less p l false).Perm (p::l)
 | []=>by unfold outL; rw[if_neg (by decide)]
 | y::l=>by
  unfold outL
  split
  ·rw[outL_true]
  ·exact((outL_perm less p l).cons y).trans (List.Perm.swap p y l)
theorem outL_sorted{α:Type}{less:α→α→Bool}{p:α}:∀ {l:List α},l.Pairwise (fun x y=>less x y=true)→(∀ y∈l,less p y=true∨less y p=true)→(∀ x∈p::l,∀ y∈p::l,∀ z∈p::l,less x y=true→less y z=true→less x z=true)→(outL less p l false).Pairwise fun x y=>less x y=true
 | [],_,_,_=>by unfold outL; rw[if_neg (by decide)]; simp
 | y::l,hs,ht,htr=>by
  rw[List.pairwise_cons]at hs;unfold outL
  split
  ·rename_i h;have h:less p y=true:=by simpa using h
   rw[outL_true,List.pairwise_cons,List.pairwise_cons];refine⟨fun z hz=>?_,hs.1,hs.2⟩
   rcases List.mem_cons.1 hz with rfl | hz
   ·exact h
   ·exact htr p (by simp) y (by simp) z (by simp[hz]) h (hs.1 z hz)
  ·rename_i h;have h:¬less p y=true:=by simpa using h
   have hy:less y p=true:=(ht y (by simp)).resolve_left h;rw[List.pairwise_cons];refine⟨fun z hz=>?_,outL_sorted hs.2 (fun z hz=>ht z (by simp[hz])) fun x hx y' hy' z hz=>htr x ?_ y' ?_ z ?_⟩
   ·rcases List.mem_cons.1 ((outL_perm less p l).mem_iff.1 hz)with rfl | hz
    ·exact hy
    ·exact hs.1 z hz
   ·rcases List.mem_cons.1 hx with rfl | hx <;> simp[*]
   ·rcases List.mem_cons.1 hy' with rfl | hx <;> simp[*]
   ·rcases List.mem_cons.1 hz with rfl | hx <;> simp[*]
def putL{α:Type}[DecidableEq α](less:α→α→Bool)(l:List α)(p:α):List α:=if p∈l then l else outL less p l false
theorem putL_mem{α:Type}[DecidableEq α]{less:α→α→Bool}{l:List α}{p x:α}:x∈putL less l p ↔ x=p∨x∈l:=by
 unfold putL
 split
 ·constructor
  ·exact .inr
  ·rintro(rfl | h) <;> assumption
 ·rw[(outL_perm less p l).mem_iff,List.mem_cons]
theorem putL_len{α:Type}[DecidableEq α]{less:α→α→Bool}{l:List α}{p:α}:(putL less l p).length=if p∈l then l.length else l.length+1:=by
 unfold putL
 split
 ·rfl
 ·rw[(outL_perm less p l).length_eq,List.length_cons]
theorem putL_sorted{α:Type}[DecidableEq α]{less:α→α→Bool}{p:α}{l:List α}(hs:l.Pairwise fun x y=>less x y=true)(ht:∀ y∈l,¬p=y→less p y=true∨less y p=true)(htr:∀ x∈p::l,∀ y∈p::l,∀ z∈p::l,less x y=true→less y z=true→less x z=true):(putL less l p).Pairwise fun x y=>less x y=true:=by
 unfold putL
 split
 ·exact hs
 ·rename_i hn;exact outL_sorted hs (fun y hy=>ht y hy fun e=>hn (e ▸ hy)) htr
def zEo(x y:Plc):Bool :=
 if x.p=y.p then if x.q=y.q then if x.r=y.r then if x.s=y.s then if x.t=y.t then if x.u=y.u then false else y.u else y.t else y.s else decide (x.r < y.r) else decide (x.q < y.q) else decide (x.p < y.p)
theorem cmpV_lt{m n:Int}(h:¬m=n):cmpV m n < 0 ↔ m < n:=by unfold cmpV; split <;> (try split) <;> omega
theorem cmpV_bit{s t:Bool}(h:¬s=t):cmpV (bitV s) (bitV t) < 0 ↔ t=true:=by
 revert h
 cases s <;> cases t <;> decide
theorem cmpV_ne{m n:Int}(h:¬m=n):¬cmpV m n=0:=fun e=>h (cmpV_zero.1 e)
theorem bit_ne{s t:Bool}(h:¬s=t):¬bitV s=bitV t:=by
 revert h
 cases s <;> cases t <;> decide
theorem less_cmp{a b c:Int}{x y:Plc}(h1:x.x=y.x)(h2:x.y=y.y)(h3:x.z=y.z):zEo x y=decide (Plc.cmp a b c x y < 0):=by
 rw[Plc.cmp_eq,h1,h2,h3,orV_0 (zDu _)];unfold zEo
 by_cases e1:x.p=y.p
 ·rw[if_pos e1,e1,orV_0 (zDu _)]
  by_cases e2:x.q=y.q
  ·rw[if_pos e2,e2,orV_0 (zDu _)]
   by_cases e3:x.r=y.r
   ·rw[if_pos e3,e3,orV_0 (zDu _)]
    by_cases e4:x.s=y.s
    ·rw[if_pos e4,e4,orV_0 (zDu _)]
     by_cases e5:x.t=y.t
     ·rw[if_pos e5,e5,orV_0 (zDu _)]
      by_cases e6:x.u=y.u
      ·rw[if_pos e6,e6,orV_0 (zDu _)]; rfl
      ·rw[if_neg e6,orV_1 (cmpV_ne (bit_ne e6)),Bool.eq_iff_iff,decide_eq_true_iff,cmpV_bit e6]
     ·rw[if_neg e5,orV_1 (cmpV_ne (bit_ne e5)),Bool.eq_iff_iff,decide_eq_true_iff,cmpV_bit e5]
    ·rw[if_neg e4,orV_1 (cmpV_ne (bit_ne e4)),Bool.eq_iff_iff,decide_eq_true_iff,cmpV_bit e4]
   ·rw[if_neg e3,orV_1 (cmpV_ne e3),Bool.eq_iff_iff,decide_eq_true_iff,decide_eq_true_iff,cmpV_lt e3]
  ·rw[if_neg e2,orV_1 (cmpV_ne e2),Bool.eq_iff_iff,decide_eq_true_iff,decide_eq_true_iff,cmpV_lt e2]
 ·rw[if_neg e1,orV_1 (cmpV_ne e1),Bool.eq_iff_iff,decide_eq_true_iff,decide_eq_true_iff,cmpV_lt e1]
def hereL(a b c m:Int)(L:List Wnt):List Plc:=L.foldl (fun l t=>if (plOf a b c t m).ok a b c then putL zEo l (plOf a b c t m) else l) []
def everyL(a b c:Int)(L:List Wnt)(n:Nat):List Plc:=(List.range n).flatMap fun i:Nat=>hereL a b c (i:Int) L
theorem here_go{a b c m:Int}:∀(L:List Wnt) (l:List Plc),(∀ x∈l,x.x=ofX a b c m∧x.y=ofY a b c m∧x.z=ofZ a b c m∧x.ok a b c)→Rises a b c l →
  Rises a b c (L.foldl (fun l t=>if (plOf a b c t m).ok a b c then putL zEo l (plOf a b c t m) else l) l) ∧
  ∀ x,x∈L.foldl (fun l t=>if (plOf a b c t m).ok a b c then putL zEo l (plOf a b c t m) else l) l ↔ x∈l∨∃ t∈L,(plOf a b c t m).ok a b c∧x=plOf a b c t m
 | [],l,h,hs=>⟨hs,fun x=>by simp⟩
 | t::L,l,h,hs=>by
  rw[List.foldl_cons]
  by_cases hk:(plOf a b c t m).ok a b c
  ·rw[if_pos hk]
   generalize hp:plOf a b c t m=p at *
   have hpx:p.x=ofX a b c m∧p.y=ofY a b c m∧p.z=ofZ a b c m:=by rw[← hp]; exact⟨rfl,rfl,rfl⟩
   have hall:∀ x∈putL zEo l p,x.x=ofX a b c m∧x.y=ofY a b c m∧x.z=ofZ a b c m∧x.ok a b c:=fun x hx=>by
    rcases putL_mem.1 hx with rfl | hx
    ·exact⟨hpx.1,hpx.2.1,hpx.2.2,hk⟩
    ·exact h x hx
   have hc:∀ x∈p::l,∀ y∈p::l,zEo x y=decide (Plc.cmp a b c x y < 0):=fun x hx y hy=>by
    have h1:=hall x (putL_mem.2 (List.mem_cons.1 hx));have h2:=hall y (putL_mem.2 (List.mem_cons.1 hy));exact less_cmp (by rw[h1.1,h2.1]) (by rw[h1.2.1,h2.2.1]) (by rw[h1.2.2.1,h2.2.2.1])
   have hs2:Rises a b c (putL zEo l p):=by
    have:=putL_sorted (less:=zEo) (p:=p) (l:=l) (hs.imp_of_mem fun {x y} hx hy hxy=>by rw[hc x (by simp[hx]) y (by simp[hy])]; exact decide_eq_true hxy) (fun y hy hne=>by
     rw[hc p (by simp) y (by simp[hy]),hc y (by simp[hy]) p (by simp),decide_eq_true_iff,decide_eq_true_iff];have hn:=Plc.neg a b c p y;unfold Neg at hn;have:¬Plc.cmp a b c p y=0:=fun e=>hne (Plc.zero hk (h y hy).2.2.2 e)
     omega) (fun x hx y hy z hz h1 h2=>by
     rw[hc x hx y hy,decide_eq_true_iff]at h1;rw[hc y hy z hz,decide_eq_true_iff]at h2;rw[hc x hx z hz,decide_eq_true_iff];have:=Plc.tri a b c x y z;unfold Tri3 at this;omega)
    exact this.imp_of_mem fun {x y} hx hy hxy=>by
     rw[hc x (List.mem_cons.2 (putL_mem.1 hx)) y (List.mem_cons.2 (putL_mem.1 hy))]at hxy;exact of_decide_eq_true hxy
   obtain⟨r1,r2⟩:=here_go L (putL zEo l p) hall hs2;refine⟨r1,fun x=>?_⟩;rw[r2 x,putL_mem]
   constructor
   ·rintro((rfl | hx) | ⟨t',ht',h1,h2⟩)
    ·exact .inr ⟨t,by simp,by rw[hp]; exact hk,hp.symm⟩
    ·exact .inl hx
    ·exact .inr ⟨t',by simp[ht'],h1,h2⟩
   ·rintro(hx | ⟨t',ht',h1,h2⟩)
    ·exact .inl (.inr hx)
    ·rcases List.mem_cons.1 ht' with rfl | ht'
     ·exact .inl (.inl (by rw[h2,hp]))
     ·exact .inr ⟨t',ht',h1,h2⟩
  ·rw[if_neg hk];obtain⟨r1,r2⟩:=here_go L l h hs;refine⟨r1,fun x=>?_⟩;rw[r2 x]
   constructor
   ·rintro(hx | ⟨t',ht',h1,h2⟩)
    ·exact .inl hx
    ·exact .inr ⟨t',by simp[ht'],h1,h2⟩
   ·rintro(hx | ⟨t',ht',h1,h2⟩)
    ·exact .inl hx
    ·rcases List.mem_cons.1 ht' with rfl | ht'
     ·exact absurd h1 hk
     ·exact .inr ⟨t',ht',h1,h2⟩
theorem here_mem{a b c m:Int}{L:List Wnt}{x:Plc}:x∈hereL a b c m L ↔ ∃ t∈L,(plOf a b c t m).ok a b c∧x=plOf a b c t m:=by
 rw[hereL,(here_go L [] (by simp) .nil).2 x];simp
theorem here_rises(a b c m:Int)(L:List Wnt):Rises a b c (hereL a b c m L):=(here_go L [] (by simp) .nil).1
theorem here_len(a b c m:Int):∀(L:List Wnt) (l:List Plc),(L.foldl (fun l t=>if (plOf a b c t m).ok a b c then putL zEo l (plOf a b c t m) else l) l).length≤l.length+L.length
 | [],l=>by simp
 | t::L,l=>by
  rw[List.foldl_cons,List.length_cons];refine Nat.le_trans (here_len a b c m L _) ?_
  split
  ·rw[putL_len]; split <;> omega
  ·omega
theorem every_mem{a b c:Int}{L:List Wnt}{n:Nat}{x:Plc}:x∈everyL a b c L n ↔ ∃ i:Nat,i < n∧∃ t∈L,(plOf a b c t i).ok a b c∧x=plOf a b c t i:=by
 unfold everyL;rw[List.mem_flatMap]
 constructor
 ·rintro⟨i,hi,h⟩
  exact⟨i,List.mem_range.1 hi,here_mem.1 h⟩
 ·rintro⟨i,hi,h⟩
  exact⟨i,List.mem_range.2 hi,here_mem.2 h⟩
theorem every_rises{a b c:Int}(hd:okD a b c)(L:List Wnt):∀ n:Nat,(n:Int)≤a*b*c→Rises a b c (everyL a b c L n)
 | 0,_=>by unfold everyL Rises; simp
 | n+1,hn=>by
  unfold everyL;rw[List.range_succ,List.flatMap_append];unfold Rises;rw[List.pairwise_append];refine⟨every_rises hd L n (by omega),by have:=here_rises a b c n L; unfold Rises at this; simpa using this,fun x hx y hy=>?_⟩;obtain⟨i,hi,t,_,_,rfl⟩:=every_mem.1 hx;obtain⟨t',_,_,rfl⟩:=here_mem.1 (by simpa using hy:y∈hereL a b c (n:Int) L);have e1:=(at_of (m:=(i:Int)) ⟨hd,by omega,by omega⟩).1;have e2:=(at_of (m:=(n:Int)) ⟨hd,by omega,by omega⟩).1;have hc:cmpV (atV a b c (plOf a b c t i).x (plOf a b c t i).y (plOf a b c t i).z) (atV a b c (plOf a b c t' n).x (plOf a b c t' n).y (plOf a b c t' n).z) < 0:=by
   show cmpV (atV a b c (ofX a b c i) (ofY a b c i) (ofZ a b c i)) (atV a b c (ofX a b c n) (ofY a b c n) (ofZ a b c n)) < 0;rw[e1,e2,cmpV_lt (by omega)];omega
  rw[Plc.cmp_eq,orV_1 (by omega)];exact hc
theorem every_whole{a b c:Int}(hd:okD a b c){w:Wnt}{L:List Wnt}(hL:∀ x,x∈L ↔ x∈w.turns):everyL a b c L (a*b*c).toNat=wholeL a b c w:=by
 have hmu:=zAy hd;refine(every_rises hd L _ (by omega)).ext (whole_rises a b c w) fun x=>?_
 rw[every_mem,whole_mem,rawL,List.mem_flatMap]
 constructor
 ·rintro⟨i,hi,t,ht,h1,rfl⟩
  refine⟨t,(hL t).1 ht,?_⟩;refine zFd (i:=(i:Int)) (by omega) (by omega) ?_;unfold plAt;rw[if_pos h1];simp
 ·rintro⟨t,ht,hx⟩
  obtain⟨i,h1,h2,h⟩:=zDi hx;unfold plAt at h
  split at h
  ·rename_i hk;rw[List.mem_singleton]at h;refine⟨i.toNat,by omega,t,(hL t).2 ht,?_⟩;rw[show((i.toNat:Nat):Int)=i by omega];exact⟨hk,h⟩
  ·simp at h
theorem bit_val{w:Int}(h:inU w){j:Nat}(hj:j < 64):decide (IntKind.u64.wrap ((BitVec.ofInt IntKind.u64.bits (w.fdiv (2^min j IntKind.u64.bits)) &&& BitVec.ofInt IntKind.u64.bits 1).toNat:Int)=1)=w.toNat.testBit j:=by
 obtain⟨x,rfl⟩:∃ x:Nat,w=(x:Int):=⟨w.toNat,by unfold inU at h; omega⟩;have hx:x < 2^64:=by unfold inU at h; omega
 have hle:x / 2^j≤x:=Nat.div_le_self _ _;have a1:=zEv (x:=((x / 2^j:Nat):Int)) (y:=1) (nU (by omega)) ⟨by decide,by decide⟩;unfold andW at a1;rw[show min j IntKind.u64.bits=j from Nat.min_eq_left (by rw[show IntKind.u64.bits=64 from rfl]; omega),show(2:Int)^j=((2^j:Nat):Int) by rw[Int.natCast_pow]; rfl,zFa,a1,Int.toNat_natCast,Int.toNat_natCast,Nat.testBit_eq_decide_div_mod_eq,show(1:Int).toNat=1 from rfl,Nat.and_one_is_mod];exact decide_eq_decide.2 (by omega)
def addW(w k:Int):Int:=IntKind.u64.wrap (w+IntKind.u64.wrap (1*2^(min (k.tmod 64).toNat IntKind.u64.bits)))
theorem nat_add_or{x j:Nat}(hx:x < 2^64)(hj:j < 64)(h:x.testBit j=false):x+2^j=x ||| 2^j:=by
 have hp:2^j < 2^64:=Nat.pow_lt_pow_right (by decide) hj;have h0:BitVec.ofNat 65 x &&& BitVec.ofNat 65 (2^j)=0#65:=by
  apply BitVec.eq_of_toNat_eq;rw[BitVec.toNat_and,BitVec.toNat_ofNat,BitVec.toNat_ofNat,Nat.mod_eq_of_lt (by omega),Nat.mod_eq_of_lt (by omega)];refine Nat.eq_of_testBit_eq fun i=>?_
  rw[Nat.testBit_and,Nat.testBit_two_pow]
  by_cases hi:j=i
  ·subst hi; simp[h]
  ·simp[hi]
 have h1:=congrArg BitVec.toNat (BitVec.add_eq_or_of_and_eq_zero _ _ h0);rw[BitVec.toNat_add,BitVec.toNat_or,BitVec.toNat_ofNat,BitVec.toNat_ofNat,Nat.mod_eq_of_lt (by omega:x < 2^65),Nat.mod_eq_of_lt (by omega:2^j < 2^65),Nat.mod_eq_of_lt (by omega)]at h1;exact h1
theorem addW_or{w k:Int}(hw:inU w)(hk:0≤k)(h:w.toNat.testBit (k % 64).toNat=false):addW w k=orW w k:=by
 have hj:(k % 64).toNat < 64:=by omega
 have hp:2^(k % 64).toNat < 2^64:=Nat.pow_lt_pow_right (by decide) hj;have hpi:inU (((2^(k % 64).toNat:Nat)):Int):=nU hp;rw[orW_nat hw hk,← nat_add_or (lt_U hw) hj h];have hb:w.toNat+2^(k % 64).toNat < 2^64:=by
  rw[nat_add_or (lt_U hw) hj h];exact Nat.or_lt_two_pow (lt_U hw) hp
 have hm:k.tmod 64=k % 64:=Int.tmod_eq_emod_of_nonneg hk;unfold addW;rw[hm,show min (k % 64).toNat IntKind.u64.bits=(k % 64).toNat from Nat.min_eq_left (by rw[show IntKind.u64.bits=64 from rfl]; omega),Int.one_mul,show((2:Int)^(k % 64).toNat)=((2^(k % 64).toNat:Nat):Int) by rw[Int.natCast_pow]; rfl,wrapU hpi];have e:w+((2^(k % 64).toNat:Nat):Int)=((w.toNat+2^(k % 64).toNat:Nat):Int):=by unfold inU at hw; omega
 rw[e];exact wrapU (nU hb)
theorem orW_same{w k:Int}(hw:inU w)(hk:0≤k)(h:w.toNat.testBit (k % 64).toNat=true):orW w k=w:=by
 rw[orW_nat hw hk];have:w.toNat ||| 2^(k % 64).toNat=w.toNat:=Nat.eq_of_testBit_eq fun i=>by
  rw[Nat.testBit_or,Nat.testBit_two_pow]
  by_cases hi:(k % 64).toNat=i
  ·subst hi; simp[h]
  ·simp[hi]
 rw[this];unfold inU at hw;omega
theorem from_same{ws:List Int}(hw:∀ w∈ws,inU w){k:Int}(hk:0≤k)(hl:k.toNat / 64 < ws.length)(h:zBa ws k.toNat=true):setW ws k=ws:=by
 have hi:(k.tdiv 64).toNat=k.toNat / 64:=by rw[Int.tdiv_eq_ediv_of_nonneg hk]; omega
 unfold zBa at h;unfold setW;rw[hi,orW_same (zDg hw _) hk (by rw[show(k % 64).toNat=k.toNat % 64 by omega]; exact h)];refine List.ext_getElem (by simp) fun i h1 h2=>?_
 rw[List.getElem_set]
 split
 ·rename_i e;subst e;simp[List.getD,hl]
 ·rfl
theorem from_add{ws:List Int}(hw:∀ w∈ws,inU w){k:Int}(hk:0≤k)(h:zBa ws k.toNat=false):setW ws k=ws.set (k.tdiv 64).toNat (addW (ws.getD (k.tdiv 64).toNat 0) k):=by
 have hi:(k.tdiv 64).toNat=k.toNat / 64:=by rw[Int.tdiv_eq_ediv_of_nonneg hk]; omega
 unfold zBa at h;unfold setW;rw[addW_or (zDg hw _) hk (by rw[hi,show(k % 64).toNat=k.toNat % 64 by omega]; exact h)]
def allB(ws:List Int)(n:Nat):List Int:=((List.range n).map Int.ofNat).filter fun k=>zBa ws k.toNat
theorem allB_mem{ws:List Int}{n:Nat}{k:Int}:k∈allB ws n ↔ (0≤k∧k < n)∧zBa ws k.toNat=true:=by
 unfold allB;rw[List.mem_filter,List.mem_map]
 constructor
 ·rintro⟨⟨i,hi,rfl⟩,h⟩
  have:=List.mem_range.1 hi;exact⟨⟨by simp,by simp; omega⟩,h⟩
 ·rintro⟨h1,h2⟩
  exact⟨⟨k.toNat,List.mem_range.2 (by omega),by simp; omega⟩,h2⟩
def meetB(xs ys:List Int):Bool:=(allB xs (64*xs.length)).any fun k=>zBa ys k.toNat
theorem meetB_ofL{n:Int}(hn:1≤n∧n≤12288){l:List Int}(hl:∀ k∈l,0≤k∧k < n)(ys:List Int):meetB (ofL n l) ys=l.any fun k=>zBa ys k.toNat:=by
 unfold meetB;rw[Bool.eq_iff_iff,List.any_eq_true,List.any_eq_true];have hlen:=zBf n l;have hwv:zAs n=(n+63) / 64:=by rw[zAs,if_pos hn]
 constructor
 ·rintro⟨k,hk,h⟩
  obtain⟨h1,h2⟩:=allB_mem.1 hk;rw[zEb hn hl,decide_eq_true_eq,show((k.toNat:Nat):Int)=k by omega]at h2;exact⟨k,h2,h⟩
 ·rintro⟨k,hk,h⟩
  have:=hl k hk;refine⟨k,allB_mem.2 ⟨⟨this.1,by omega⟩,?_⟩,h⟩;rw[zEb hn hl,decide_eq_true_eq,show((k.toNat:Nat):Int)=k by omega];exact hk
theorem hold_ref{a b c:Int}(xs ys:List Int){x:Plc}(hk:x.ok a b c) :
  (!meetB (ofL (zAg a b c) (boxL a b c x.x x.y x.z x.p x.q x.r)) xs&&!meetB (ofL (3*zAg a b c) (cabL a b c x.x x.y x.z x.p x.q x.r x.s x.t x.u)) ys)=zEa a b c xs ys x:=by
 have hd:=hk.1;have hb:=hk.2.1;have hmu:=zAy hd;have hmv:zAg a b c=a*b*c:=by rw[zAg,if_pos hd]
 have h1:1≤a*b*c:=by
  unfold okD at hd;have:=Int.mul_pos (Int.mul_pos (show 0 < a by omega) (show 0 < b by omega)) (show 0 < c by omega);omega
 rw[meetB_ofL (by omega) (fun k hk=>by rw[hmv]; exact(zCn hd hb ((zEn hd hb).1 hk)).2),meetB_ofL (by omega) (fun k hk=>by rw[hmv]; exact links_mem hd hb k ((cabL_mem hd hb k).1 hk))];unfold zEa;rw[Bool.eq_iff_iff];simp only[Bool.and_eq_true,Bool.not_eq_true',List.all_eq_true,List.any_eq_false,Bool.not_eq_true]
 constructor
 ·rintro⟨h1,h2⟩
  exact⟨fun k hk=>h1 k ((zEn hd hb).2 hk),fun k hk=>h2 k ((cabL_mem hd hb k).2 hk)⟩
 ·rintro⟨h1,h2⟩
  exact⟨fun k hk=>h1 k ((zEn hd hb).1 hk),fun k hk=>h2 k ((cabL_mem hd hb k).1 hk)⟩
theorem toVP{f:FuncId}{args:List AV}{v:AV}(h:Pur Tryz.prog GG f args v):PurV Tryz.prog GG (.fn f [] []) args v:=Pur.toV (by simpa using h)
theorem e26:Ent Tryz.prog 26 Tryz.f26 [] 1:=.mk Tryz.func26 rfl
attribute [push_cast] Tryz.f26
theorem may01(a b c:Int):Pur Tryz.prog GG 26 [.agg [I a,I b,I c]] (B (decide (okD a b c))):=by
 refine goQ e26 TOk.nil 5 ?_;simp(maxSteps:=2000000)only[push_cast,seval,↓kw2]
 repeat' (first | apply And.intro | intro _)
 all_goals
  refine⟨_,rfl,zAa rfl ?_⟩;simp only[AV.c.injEq,Value.bool.injEq]
  first | exact(decide_eq_true (by unfold okD; omega)).symm | exact(decide_eq_false (by unfold okD; omega)).symm
@[push_cast] def g26:List AV→Option (Prop × AV)
 | [.agg [(.c (.int .i64 a)),(.c (.int .i64 b)),(.c (.int .i64 c))]]=>some (True,B (decide (okD a b c)))
 | _=>none
theorem g26_ok:∀ args p,g26 args=some p→p.1→Pur Tryz.prog GG 26 args p.2:=by
 intro args p hp hc
 unfold g26 at hp
 split at hp
 ·cases hp;exact may01 _ _ _
 ·cases hp
@[push_cast] def Q1:Tab:=Tab.ext Tab.nil 26 g26
theorem Q1_ok:TOk Tryz.prog GG Q1:=TOk.ext TOk.nil g26_ok
theorem e28:Ent Tryz.prog 28 Tryz.f28 [] 1:=.mk Tryz.func28 rfl
attribute [push_cast] Tryz.f28
theorem n01(a b c:Int)(hp:okD a b c):Pur Tryz.prog GG 28 [.agg [I a,I b,I c]] (I (a*b*c)):=by
 refine goQ e28 Q1_ok 0 ?_;simp(maxSteps:=2000000)only[push_cast,seval,↓kw2];have hm:=zAy hp;exact⟨_,rfl,zAa rfl (by rw[zAf (n:=a*b) (by omega) (by omega),zAf (by omega) (by omega)])⟩
@[push_cast] def g28:List AV→Option (Prop × AV)
 | [.agg [(.c (.int .i64 a)),(.c (.int .i64 b)),(.c (.int .i64 c))]]=>some (okD a b c,I (a*b*c))
 | _=>none
theorem g28_ok:∀ args p,g28 args=some p→p.1→Pur Tryz.prog GG 28 args p.2:=by
 intro args p hp hc
 unfold g28 at hp
 split at hp
 ·cases hp;exact n01 _ _ _ hc
 ·cases hp
@[push_cast] def Q2:Tab:=Tab.ext Q1 28 g28
theorem Q2_ok:TOk Tryz.prog GG Q2:=TOk.ext Q1_ok g28_ok
theorem ofZ_is{a b c m:Int}(h:inM a b c m):ofZ a b c m=m / a / b:=by
 rw[ofZ,if_pos h];have hd:=h.1;unfold okD at hd;have e3:m / (a*b)=m / a / b:=(Int.ediv_ediv_of_nonneg (by omega)).symm;have e4:m / a / b < c:=by
  have hm:=h.2.2;have hmul:a*b*c=a*(b*c):=Int.mul_assoc _ _ _;have s1:m / a < b*c:=Int.ediv_lt_of_lt_mul (by omega) (by rw[Int.mul_comm,← hmul]; exact hm);exact Int.ediv_lt_of_lt_mul (by omega) (by rw[Int.mul_comm]; exact s1)
 have e5:0≤m / a / b:=Int.ediv_nonneg (Int.ediv_nonneg h.2.1 (by omega)) (by omega);rw[e3,Int.emod_eq_of_lt e5 e4]
theorem e87:Ent Tryz.prog 87 Tryz.f87 [] 2:=.mk Tryz.func87 rfl
attribute [push_cast] Tryz.f87
theorem where01(a b c m:Int)(hp:inM a b c m):Pur Tryz.prog GG 87 [.agg [I a,I b,I c],I m] (.agg [I (ofX a b c m),I (ofY a b c m),I (ofZ a b c m)]):=by
 refine goQ e87 Q2_ok 0 ?_;simp(maxSteps:=2000000)only[push_cast,seval,↓kw2];have hd:=hp.1;have hmu:=zAy hp.1;have h0:=hp.2;unfold okD at hd;have q0:m.tdiv a=m / a:=Int.tdiv_eq_ediv_of_nonneg (by omega);have q1:0≤m / a:=Int.ediv_nonneg (by omega) (by omega);have q2:m / a≤m:=Int.ediv_le_self _ (by omega);have q3:(m / a).tdiv b=m / a / b:=Int.tdiv_eq_ediv_of_nonneg q1;have q4:0≤m / a / b:=Int.ediv_nonneg q1 (by omega);have q5:m / a / b≤m / a:=Int.ediv_le_self _ q1
 repeat' (first | apply And.intro | (intro _))
 all_goals first
  | omega
  | skip
 refine⟨_,rfl,zAa rfl ?_⟩;rw[q0,zAf (n:=m / a) (by omega) (by omega),q3,zAf (n:=m / a / b) (by omega) (by omega),ofZ_is hp,ofX,if_pos hp,ofY,if_pos hp,Int.tmod_eq_emod_of_nonneg (by omega),Int.tmod_eq_emod_of_nonneg q1]
@[push_cast] def g87:List AV→Option (Prop × AV)
 | [.agg [(.c (.int .i64 a)),(.c (.int .i64 b)),(.c (.int .i64 c))],(.c (.int .i64 m))]=>some (inM a b c m,.agg [I (ofX a b c m),I (ofY a b c m),I (ofZ a b c m)])
 | _=>none
theorem g87_ok:∀ args p,g87 args=some p→p.1→Pur Tryz.prog GG 87 args p.2:=by
 intro args p hp hc
 unfold g87 at hp
 split at hp
 ·cases hp;exact where01 _ _ _ _ hc
 ·cases hp
@[push_cast] def Q3:Tab:=Tab.ext Q2 87 g87
theorem Q3_ok:TOk Tryz.prog GG Q3:=TOk.ext Q2_ok g87_ok
theorem e50:Ent Tryz.prog 50 Tryz.f50 [] 2:=.mk Tryz.func50 rfl
attribute [push_cast] Tryz.f50
theorem num01(a b c x y z:Int)(hp:okD a b c∧okP a b c x y z):Pur Tryz.prog GG 50 [.agg [I a,I b,I c],.agg [I x,I y,I z]] (I (atV a b c x y z)):=by
 refine goQ e50 Q3_ok 0 ?_;simp(maxSteps:=2000000)only[push_cast,seval,↓kw2];have hmu:=zAy hp.1;obtain⟨_,r1,r2⟩:=zFl hp.1 hp.2;rw[atV,if_pos hp]at r1 r2 ⊢;have hd:=hp.1;have hq:=hp.2;unfold okD at hd;unfold okP at hq;have e0:b*z≤16*16:=Int.mul_le_mul (by omega) (by omega) (by omega) (by omega);have e1:0≤b*z:=Int.mul_nonneg (by omega) (by omega);have e2:x+a*(y+b*z)=x+a*y+a*b*z:=by rw[Int.mul_add,← Int.mul_assoc]; omega
 have e3:a*(y+b*z)=(x+a*y+a*b*z) - x:=by omega
 refine⟨_,rfl,zAa rfl ?_⟩;rw[zAf (n:=b*z) (by omega) (by omega),zAf (n:=y+b*z) (by omega) (by omega),zAf (n:=a*(y+b*z)) (by omega) (by omega),zAf (by omega) (by omega),e2]
@[push_cast] def g50:List AV→Option (Prop × AV)
 | [.agg [(.c (.int .i64 a)),(.c (.int .i64 b)),(.c (.int .i64 c))],.agg [(.c (.int .i64 x)),(.c (.int .i64 y)),(.c (.int .i64 z))]]=>some (okD a b c∧okP a b c x y z,I (atV a b c x y z))
 | _=>none
theorem g50_ok:∀ args p,g50 args=some p→p.1→Pur Tryz.prog GG 50 args p.2:=by
 intro args p hp hc
 unfold g50 at hp
 split at hp
 ·cases hp;exact num01 _ _ _ _ _ _ hc
 ·cases hp
@[push_cast] def Q4:Tab:=Tab.ext Q3 50 g50
theorem Q4_ok:TOk Tryz.prog GG Q4:=TOk.ext Q3_ok g50_ok
theorem tmod_cases(n m:Int)(hm:0 < m):n.tmod m=n % m∨n.tmod m+m=n % m:=by
 have h1:=Int.tmod_lt_of_pos n hm;have h2:=Int.lt_tmod_of_pos n hm;have h3:=Int.emod_nonneg n (show m≠0 by omega);have h4:=Int.emod_lt_of_pos n hm
 by_cases h:0≤n
 ·exact .inl (Int.tmod_eq_emod_of_nonneg h)
 ·have e1:=Int.emod_add_mul_ediv n m;have e2:=Int.tmod_add_mul_tdiv n m;have e3:(n.tmod m - n % m)=m*(n / m - n.tdiv m):=by rw[Int.mul_sub]; omega
  have e4:n / m - n.tdiv m=0∨n / m - n.tdiv m=-1:=by
   generalize n / m - n.tdiv m=k at e3
   by_cases k0:1≤k
   ·have:=Int.mul_le_mul_of_nonneg_left k0 (show 0≤m by omega);omega
   ·by_cases k1:k≤-2
    ·have:=Int.mul_le_mul_of_nonneg_left k1 (show 0≤m by omega);omega
    ·omega
  rcases e4 with e4 | e4 <;> rw[e4]at e3 <;> omega
theorem e145:Ent Tryz.prog 145 Tryz.f145 [] 2:=.mk Tryz.func145 rfl
attribute [push_cast] Tryz.f145
theorem round01(n m:Int)(hp:1≤m∧m≤16):Pur Tryz.prog GG 145 [I n,I m] (I (n % m)):=by
 refine goQ e145 Q4_ok 0 ?_;simp(maxSteps:=2000000)only[push_cast,seval,↓kw2];have h1:=Int.tmod_lt_of_pos n (show 0 < m by omega);have h2:=Int.lt_tmod_of_pos n (show 0 < m by omega);have h3:=Int.emod_nonneg n (show m≠0 by omega);have h4:=Int.emod_lt_of_pos n (show 0 < m by omega);have h5:=tmod_cases n m (by omega)
 repeat' (first | apply And.intro | (intro _))
 all_goals first
  | omega
  | (refine⟨_,rfl,zAa rfl ?_⟩; first | (rw[zAf (by omega) (by omega)]; congr 2; omega) | (congr 2; omega))
@[push_cast] def g145:List AV→Option (Prop × AV)
 | [(.c (.int .i64 n)),(.c (.int .i64 m))]=>some (1≤m∧m≤16,I (n % m))
 | _=>none
theorem g145_ok:∀ args p,g145 args=some p→p.1→Pur Tryz.prog GG 145 args p.2:=by
 intro args p hp hc
 unfold g145 at hp
 split at hp
 ·cases hp;exact round01 _ _ hc
 ·cases hp
@[push_cast] def Q5:Tab:=Tab.ext Q4 145 g145
theorem Q5_ok:TOk Tryz.prog GG Q5:=TOk.ext Q4_ok g145_ok
theorem stp_is{x n s:Int}(h1:0≤x)(h2:x < n):(x+s % n) % n=stp x n s:=by
 unfold stp;have h3:=Int.tmod_lt_of_pos s (show 0 < n by omega);have h4:=Int.lt_tmod_of_pos s (show 0 < n by omega);rw[Int.tmod_eq_emod_of_nonneg (by omega)]
 rcases tmod_cases s n (by omega)with e | e
 ·rw[← e,Int.add_emod_right]
 ·rw[← e,Int.add_assoc]
theorem e128:Ent Tryz.prog 128 Tryz.f128 [] 4:=.mk Tryz.func128 rfl
attribute [push_cast] Tryz.f128
theorem on01_0(a b c m s:Int)(hp:inM a b c m):Pur Tryz.prog GG 128 [.agg [I a,I b,I c],I m,I 0,I s] (I (stV0 a b c m s)):=by
 refine goQ e128 Q5_ok 0 ?_;simp(maxSteps:=2000000)only[push_cast,seval,↓kw2];have hb:=zEg hp;have he:=inM_ofE hp;have e0:=Int.emod_nonneg s (show a≠0 by omega);have e1:=Int.emod_lt_of_pos s (show 0 < a by omega);have w1:=zAf (n:=ofX a b c m+s % a) (by omega) (by omega);rw[w1,stp_is (by omega) (by omega)];have hst:=stp_range (x:=ofX a b c m) (n:=a) (s:=s) (by omega) (by omega)
 repeat (first | refine⟨hp,?_⟩ | refine And.intro (by omega) ?_ | refine⟨⟨by omega,by omega⟩,?_⟩ | refine⟨⟨hp.1,by unfold okP; omega⟩,?_⟩)
 exact⟨_,rfl,zAa rfl (by rw[stV0,if_pos he])⟩
theorem on01_1(a b c m s:Int)(hp:inM a b c m):Pur Tryz.prog GG 128 [.agg [I a,I b,I c],I m,I 1,I s] (I (stV1 a b c m s)):=by
 refine goQ e128 Q5_ok 0 ?_;simp(maxSteps:=2000000)only[push_cast,seval,↓kw2];have hb:=zEg hp;have he:=inM_ofE hp;have e0:=Int.emod_nonneg s (show b≠0 by omega);have e1:=Int.emod_lt_of_pos s (show 0 < b by omega);have w1:=zAf (n:=ofY a b c m+s % b) (by omega) (by omega);rw[w1,stp_is (by omega) (by omega)];have hst:=stp_range (x:=ofY a b c m) (n:=b) (s:=s) (by omega) (by omega)
 repeat (first | refine⟨hp,?_⟩ | refine And.intro (by omega) ?_ | refine⟨⟨by omega,by omega⟩,?_⟩ | refine⟨⟨hp.1,by unfold okP; omega⟩,?_⟩)
 exact⟨_,rfl,zAa rfl (by rw[stV1,if_pos he])⟩
theorem on01_2(a b c m s:Int)(hp:inM a b c m):Pur Tryz.prog GG 128 [.agg [I a,I b,I c],I m,I 2,I s] (I (stV2 a b c m s)):=by
 refine goQ e128 Q5_ok 0 ?_;simp(maxSteps:=2000000)only[push_cast,seval,↓kw2];have hb:=zEg hp;have he:=inM_ofE hp;have e0:=Int.emod_nonneg s (show c≠0 by omega);have e1:=Int.emod_lt_of_pos s (show 0 < c by omega);have w1:=zAf (n:=ofZ a b c m+s % c) (by omega) (by omega);rw[w1,stp_is (by omega) (by omega)];have hst:=stp_range (x:=ofZ a b c m) (n:=c) (s:=s) (by omega) (by omega)
 repeat (first | refine⟨hp,?_⟩ | refine And.intro (by omega) ?_ | refine⟨⟨by omega,by omega⟩,?_⟩ | refine⟨⟨hp.1,by unfold okP; omega⟩,?_⟩)
 exact⟨_,rfl,zAa rfl (by rw[stV2,if_pos he])⟩
theorem on01{a b c m k:Int}(hk:0≤k∧k≤2)(hm:inM a b c m)(s:Int):Pur Tryz.prog GG 128 [.agg [I a,I b,I c],I m,I k,I s] (I (stV a b c m k s)):=by
 have hcs:k=0∨k=1∨k=2:=by omega
 rcases hcs with rfl | rfl | rfl
 ·exact on01_0 a b c m s hm
 ·exact on01_1 a b c m s hm
 ·exact on01_2 a b c m s hm
end Go.Ab.Pd
namespace Go.Ab
def apHsK(k:Nat)(H:List AO)(s:AV)(es l:List AV):List AO:=match l with
 | []=>H
 | _=>(match s with
  | .sl id _ _ _=>H.set id .dead
  | _=>H)++[.arr k (es++l)]
theorem apSs_ownK{k:Nat}{H:List AO}{s:AV}{es l:List AV}(h:OwnK k H s es):OwnK k (apHsK k H s es l) (apSs H s es.length l) (es++l):=by
 cases l with
 | nil=>simpa[apHsK,apSs]using h
 | cons x l =>
  have h1:(apHsK k H s es (x::l))[H.length]?=some (.arr k (es++x::l)):=by
   unfold apHsK;simp only
   split
   ·rw[List.getElem?_append_right (by simp)]; simp
   ·rw[List.getElem?_append_right (by simp)]; simp
  have:=OwnK.row h1 (by simp; omega);simpa[apSs,List.length_append]using this
theorem apHsK_get{k:Nat}{H:List AO}{s:AV}{es l:List AV}{j:Nat}(hj:j < H.length)(hs:zAl s≠some j):(apHsK k H s es l)[j]?=H[j]?:=by
 unfold apHsK
 split
 ·rfl
 ·split
  ·rename_i id _ _ _;have:id≠j:=fun e=>hs (by simp[zAl,e])
   rw[List.getElem?_append_left (by simp; omega),List.getElem?_set_ne this]
  ·rw[List.getElem?_append_left hj]
theorem aAppFK{P:Program}{t u e e':TypeId}(ht:P.underlying t=some (.slice e))(hu:P.underlying u=some (.slice e')){z:AV}{by' k:Nat}(hz:zCd P e=some z)(hz1:z.cells.length=k)(hb:zCz P e=some by')
  {H:List AO} {s:AV} {es:List AV} (h:OwnK k H s es) {l:List AV} (hl:∀ x∈l,x.cells.length=k) :
  ∃ C,zCi P t u s (frS l) H=some ⟨C,apSs H s es.length l,apHsK k H s es l⟩∧((es.length+l.length)*by'≤2^40→es.length+l.length≤2^40→C):=by
 have hc:0 < l.length→(l.getD 0 .un).cells.length=k:=fun h0=>by
  cases l with
  | nil=>simp at h0
  | cons x l=>simpa[List.getD]using hl x (by simp)
 cases l with
 | nil =>
  have:zCi P t u s (frS []) H=some ⟨True,s,H⟩:=by
   unfold zCi;simp only[ht,hu,hz,hb,frS,elsOf];cases h with
   | nil=>simp[zEj]
   | row hid h0=>rfl
  exact⟨True,this,fun _ _=>trivial⟩
 | cons x l =>
  unfold zCi;simp only[ht,hu,hz,hb,hz1,elsOf,frS];cases h with
  | nil =>
   simp only[zEj,apHsK,apSs,hz1,List.length_cons,List.length_nil,Nat.zero_add,List.nil_append];exact⟨_,rfl,fun h1 h2=>⟨hc,h1,h2⟩⟩
  | row h h0 =>
   simp only[h,Nat.zero_add,Nat.le_refl,h0,and_self,if_true,List.drop_zero,List.take_length,apHsK,apSs];exact⟨_,rfl,fun h1 h2=>⟨hc,h1,h2⟩⟩
theorem AC.freezeArgK{P:Program}{G:Gl}{k:Nat}{f:FuncId}{pre post:List AV}{H:List AO}{id cap:Nat}{es:List AV}{K:AV→List AO→Prop}(hid:H[id]?=some (.arr k es))(hne:0 < es.length)(hpure:AV.purL es=true)
  (h:AC P G f (pre++([.isl es]++post)) (H.set id .dead) K):AC P G f (pre++([.sl id 0 es.length cap]++post)) H K:=by
 refine⟨h.1,fun E w vargs hH hA cs=>?_⟩;obtain⟨l,hl,hszl,c,t,hcell,hs,hr⟩:=hH.obj id _ hid rfl
 let E':En:={ loc:=E.loc,fro:=fun b=>E.fro b∨b=l.b }
 have hlv:Live H E l.b:=⟨id,_,l,hid,rfl,hl,rfl⟩;have hm:Mono w E w E':=⟨fun b hb=>.inl hb,fun _ _=>rfl,fun _ _ h=>h,fun _ _ h=>h⟩;have hidl:=(List.getElem?_eq_some_iff.1 hid).1;have hget:∀(j:Nat) (oj:AO),(H.set id .dead)[j]?=some oj→oj.live=true→j≠id∧H[j]?=some oj:=by
  intro j oj hj hoj
  by_cases e:j=id
  ·subst e;rw[List.getElem?_set_self hidl]at hj;cases hj; simp[AO.live]at hoj
  ·rw[List.getElem?_set_ne (fun h=>e h.symm)]at hj;exact⟨e,hj⟩
 have hsub:∀ b,Live (H.set id .dead) E' b→Live H E b∧b≠l.b:=by
  rintro b ⟨j,oj,lj,hj,hoj,hlj,rfl⟩
  obtain⟨h1,h2⟩:=hget j oj hj hoj;exact⟨⟨j,oj,lj,h2,hoj,hlj,rfl⟩,fun e=>h1 (hH.inj j id oj _ lj l h2 hoj hid rfl hlj hl e)⟩
 have hR:RelH G w E' (H.set id .dead):=by
  refine⟨fun j oj hj hoj=>?_,fun j j' o1 o2 l1 l2 h1 ho1 h2 ho2 hl1 hl2 hb=>?_,fun b hb=>?_,fun b hb hl'=>?_,fun j lj hlj=>by rw[List.length_set]; exact hH.dom j lj hlj,fun g cs hg=>(hH.gl g cs hg).mono hm⟩
  ·obtain⟨h1,h2⟩:=hget j oj hj hoj;obtain⟨lj,hlj,hrj⟩:=hH.obj j oj h2 hoj;exact⟨lj,hlj,hrj.mono hm rfl⟩
  ·exact hH.inj j j' o1 o2 l1 l2 (hget _ _ h1 ho1).2 ho1 (hget _ _ h2 ho2).2 ho2 hl1 hl2 hb
  ·rcases hb with hb | rfl
   ·exact hH.frob b hb
   ·exact⟨c,t,_,hcell⟩
  ·obtain⟨h1,h2⟩:=hsub b hl'
   rcases hb with hb | hb
   ·exact hH.sep b hb h1
   ·exact h2 hb
 have hA':RepL w E' (pre++([.isl es]++post)) vargs:=by
  have hlen:(pre++([AV.sl id 0 es.length cap]++post)).length=(pre++([AV.isl es]++post)).length:=by simp
  refine⟨by rw[hA.1,hlen],fun i hi=>?_⟩;have h1:=hA.2 i (by rw[hlen]; exact hi)
  rcases Nat.lt_trichotomy i pre.length with hlt | heq | hgt
  ·have e1:(pre++([AV.isl es]++post)).getD i .un=pre.getD i .un:=by simp[List.getD,List.getElem?_append_left hlt]
   have e2:(pre++([AV.sl id 0 es.length cap]++post)).getD i .un=pre.getD i .un:=by simp[List.getD,List.getElem?_append_left hlt]
   rw[e2]at h1;rw[e1];exact h1.mono hm
  ·subst heq;have e1:(pre++([AV.isl es]++post)).getD pre.length .un=.isl es:=by simp[List.getD]
   have e2:(pre++([AV.sl id 0 es.length cap]++post)).getD pre.length .un=.sl id 0 es.length cap:=by simp[List.getD]
   rw[e2]at h1;rw[e1]
   generalize vargs.getD pre.length undef=x at h1
   cases h1 with
   | sl hloc g1 g2 g3 =>
    rename_i l' ad cc;rw[hl]at hloc; cases hloc;obtain⟨rfl,n,hrow,hle⟩:=g3 (by omega);refine RepV.isl (sz:=k) (f:=fun i j=>c.getD (l.base+0*l.sz+i*k+j) undef) (fun _=>⟨.inr rfl,rfl⟩) (by omega) (fun i hi=>⟨(hr i hi).1,(hr i hi).2.1⟩) (fun i j hi hj=>?_) (fun i j hi hj=>((hr i hi).2.2 j hj).1) (fun i j hi hj=>?_)
    ·have h4:=Nat.mul_le_mul_right k (show i+1≤es.length by omega);rw[Nat.add_mul,Nat.one_mul]at h4;show w.cell? ⟨l.b,l.base+0*l.sz+i*k+j,none⟩=_;exact cell?_row' hcell (by omega)
    ·have h3:=((hr i hi).2.2 j hj).2;rw[show l.base+0*l.sz+i*k+j=l.base+i*k+j by omega];exact h3.mono hm
  ·obtain⟨k2,rfl⟩:∃ k2,i=pre.length+(k2+1):=⟨i - pre.length - 1,by omega⟩;have e1:(pre++([AV.isl es]++post)).getD (pre.length+(k2+1)) .un=post.getD k2 .un:=by simp[List.getD,List.getElem?_append_right]
   have e2:(pre++([AV.sl id 0 es.length cap]++post)).getD (pre.length+(k2+1)) .un=post.getD k2 .un:=by simp[List.getD,List.getElem?_append_right]
   rw[e2]at h1;rw[e1];exact h1.mono hm
 obtain⟨v,H',E2,w',r,fr,hK,k1,k2,k3,k4,k5,k6⟩:=h.2 E' w vargs hR hA' cs;refine⟨v,H',E2,w',r,fr,hK,k1,⟨hm.trans k2.mono,k2.size,fun b hb hnl=>k2.same b hb (fun hl'=>hnl (hsub b hl').1),fun b hb=>?_,fun b hb=>?_,k2.os,k2.tape,k2.output⟩,k3,k4,k5,k6⟩
 ·rcases k2.newfro b hb with (h1 | h1) | h1 | h1
  ·exact .inl h1
  ·exact .inr (.inr (h1 ▸ hlv))
  ·exact .inr (.inl h1)
  ·exact .inr (.inr (hsub b h1).1)
 ·rcases k2.newlive b hb with h1 | h1
  ·exact .inl (hsub b h1).1
  ·exact .inr h1
theorem OwnK.freeze{P:Program}{G:Gl}{k:Nat}{f:FuncId}{pre post:List AV}{H:List AO}{s:AV}{es:List AV}{K:AV→List AO→Prop}(ho:OwnK k H s es)(hpure:AV.purL es=true)
  (h:∀ H',(∀ j,zAl s≠some j→H'[j]?=H[j]?)→AC P G f (pre++([frS es]++post)) H' K):AC P G f (pre++([s]++post)) H K:=by
 cases ho with
 | nil=>exact h H (fun _ _=>rfl)
 | row hid h0 =>
  rename_i id;refine AC.freezeArgK hid h0 hpure ?_;have:=h (H.set id .dead) (fun j hj=>List.getElem?_set_ne (fun e=>hj (by simp[zAl,e])))
  rwa [frS_ne h0]at this
end Go.Ab
namespace Go.Ab.Pd
open Go.Proofs
theorem e54:Ent Tryz.prog 54 Tryz.f54 [] 2:=.mk Tryz.func54 rfl
attribute [push_cast] Tryz.f54
theorem there_pur{s:AV}{ws:List Int}(hs:IsSl s (ws.map U))(hw:∀ w∈ws,inU w)(hl:ws.length≤2^20){k:Int}(h0:0≤k)(h1:k < 2^40):Pur Tryz.prog GG 54 [s,I k] (B (zBa ws k.toNat)):=by
 have hpu:=hs.pur (zAe U _ fun _=>rfl);have hlen:=hs.len (P:=Tryz.prog) un28;rw[List.length_map]at hlen;have d0:decide (0≤k)=true:=decide_eq_true h0;have hq0:k.tdiv 64=k / 64:=Int.tdiv_eq_ediv_of_nonneg h0;have hm0:k.tmod 64=k % 64:=Int.tmod_eq_emod_of_nonneg h0;have hkw:=zAf (n:=k.tdiv 64) (by omega) (by omega);have hkm:=Int.tmod_nonneg 64 h0;have hkd:=Int.tdiv_nonneg (b:=64) h0 (by decide)
 by_cases hlt:k.tdiv 64 < (ws.length:Int)
 ·have d1:decide (k.tdiv 64 < (ws.length:Int))=true:=decide_eq_true hlt;have hkq:(k.tdiv 64).toNat < ws.length:=by omega
  have hx:=fun H=>hs.idx (P:=Tryz.prog) un28 sz71 (i:=k.tdiv 64) (by rw[List.length_map]; exact hlt) hkd H
  rw[zAm U ws 0 hkq]at hx;have hgu:=zDg hw (k.tdiv 64).toNat;have hbb:(0≤k.tdiv 64∧k.tdiv 64 < ((ws.map U).length:Int)):=⟨hkd,by rw[List.length_map]; exact hlt⟩;refine goQ e54 TOk.nil 0 ?_ (by simp[AV.purL,AV.pur,hpu]);simp(maxSteps:=2000000)only[push_cast,seval,↓kw2,hlen,d0,d1,hkw,hx]
  repeat (first | refine⟨hbb,?_⟩ | refine And.intro (by omega) ?_)
  refine⟨_,rfl,zAa rfl ?_⟩;unfold zBa;rw[show k.toNat / 64=(k.tdiv 64).toNat by omega,show k.toNat % 64=(k.tmod 64).toNat by omega,← bit_val hgu (by omega:(k.tmod 64).toNat < 64)]
 ·have d1:decide (k.tdiv 64 < (ws.length:Int))=false:=decide_eq_false hlt;rw[zDk (by omega)];refine goQ e54 TOk.nil 0 ?_ (by simp[AV.purL,AV.pur,hpu]);simp(maxSteps:=2000000)only[push_cast,seval,↓kw2,hlen,d0,d1,hkw];exact⟨_,rfl,zAa rfl rfl⟩
theorem e27:Ent Tryz.prog 27 Tryz.f27 [] 2:=.mk Tryz.func27 rfl
attribute [push_cast] Tryz.f27
theorem may3_pur{s:AV}{ws:List Int}(hs:IsSl s (ws.map U))(hw:∀ w∈ws,inU w)(hl:ws.length≤2^20){n:Int}(hn:1≤n∧n≤12288):Pur Tryz.prog GG 27 [I n,s] (B (decide (schk n ws=0))):=by
 have hpu:=hs.pur (zAe U _ fun _=>rfl);have hlen:=hs.len (P:=Tryz.prog) un28;rw[List.length_map]at hlen;refine goQ e27 TOk.nil 0 ?_ (by simp[AV.purL,AV.pur,hpu]);simp(maxSteps:=2000000)only[push_cast,seval,↓kw2];refine FW.loopInv (fun m ts H=>∃ w:Int,w+(m:Int)=(n+63) / 64∧0≤w∧ts 0=I n∧ts 1=s∧ts 5=I w) ((n+63) / 64).toNat ⟨0,by omega,by omega,rfl,rfl,rfl⟩ ?_
 rintro m ih ts H ⟨w,hm,hw0,t0,t1,t5⟩
 refine FW.inLoop ?_;have w1:=zAf (n:=64*w) (by omega) (by omega);have w2:=zAf (n:=w+1) (by omega) (by omega)
 by_cases hlt:w < (n+63) / 64
 ·have d1:decide (64*w < n)=true:=decide_eq_true (by omega);refine goN ?_;simp(maxSteps:=2000000)only[push_cast,seval,↓kw2,t0,t1,t5,w1,w2,d1];exact ih (m - 1) (by omega) _ _ ⟨w+1,by omega,by omega,t0,t1,rfl⟩
 ·have hwe:w=(n+63) / 64:=by omega
  have d1:decide (64*w < n)=false:=decide_eq_false (by omega)
  by_cases hl2:(ws.length:Int)=w
  ·have d2:decide ((ws.length:Int)≠w)=false:=by simp[hl2]
   refine goN ?_;simp(maxSteps:=2000000)only[push_cast,seval,↓kw2,t0,t1,t5,w1,w2,d1,hlen,d2];clear ih;refine FW.loopInv (fun m ts H=>∃ k:Int,k+(m:Int)=64*w∧n≤k∧(∀ j:Nat,n≤(j:Int)→(j:Int) < k→zBa ws j=false)∧ts 0=I n∧ts 1=s∧ts 5=I w∧ts 6=I k) (64*w - n).toNat
    ⟨n,by omega,by omega,fun j h1 h2=>by omega,t0,t1,t5,rfl⟩ ?_
   clear t0 t1 t5 ts H
   rintro m ih ts H ⟨k,hk,hk0,hb,t0,t1,t5,t6⟩
   refine FW.inLoop ?_;have w3:=zAf (n:=k+1) (by omega) (by omega)
   by_cases hkl:k < 64*w
   ·have d3:decide (k < 64*w)=true:=decide_eq_true hkl;refine goN ?_;simp(maxSteps:=2000000)only[push_cast,seval,↓kw2,t0,t1,t5,t6,w1,w3,d3];refine AC.pur (there_pur hs hw hl (by omega) (by omega)) ?_;cases hbk:zBa ws k.toNat
    ·skip
     refine goN ?_;simp(maxSteps:=2000000)only[push_cast,seval,↓kw2,t0,t1,t5,t6,w1,w3,d3];refine ih (m - 1) (by omega) _ _ ⟨k+1,by omega,by omega,fun j h1 h2=>?_,t0,t1,t5,rfl⟩
     by_cases hjk:(j:Int)=k
     ·rw[← hbk]; congr 1; omega
     ·exact hb j h1 (by omega)
    ·skip
     refine goN ?_;simp(maxSteps:=2000000)only[push_cast,seval,↓kw2,t0,t1,t5,t6,w1,w3,d3];refine⟨_,rfl,zAa rfl ?_⟩;rw[decide_eq_false]
     intro hc
     obtain⟨_,_,h3⟩:=(zBl hw).1 hc;rw[h3 k.toNat (by omega)]at hbk;cases hbk
   ·have d3:decide (k < 64*w)=false:=decide_eq_false hkl;refine goN ?_;simp(maxSteps:=2000000)only[push_cast,seval,↓kw2,t0,t1,t5,t6,w1,w3,d3];refine⟨_,rfl,zAa rfl ?_⟩;rw[decide_eq_true ((zBl hw).2 ⟨hn,by omega,fun j hj=>?_⟩)]
    by_cases hjk:(j:Int) < k
    ·exact hb j hj hjk
    ·exact zDk (by omega)
  ·have d2:decide ((ws.length:Int)≠w)=true:=by simp[hl2]
   refine goN ?_;simp(maxSteps:=2000000)only[push_cast,seval,↓kw2,t0,t1,t5,w1,w2,d1,hlen,d2];refine⟨_,rfl,zAa rfl ?_⟩;rw[decide_eq_false]
   intro hc
   obtain⟨_,h2,_⟩:=(zBl hw).1 hc;omega
theorem e94:Ent Tryz.prog 94 Tryz.f94 [] 1:=.mk Tryz.func94 rfl
attribute [push_cast] Tryz.f94
theorem all3_pur{s:AV}{ws:List Int}(hs:IsSl s (ws.map U))(hw:∀ w∈ws,inU w)(hl:ws.length≤2^12):Pur Tryz.prog GG 94 [s] (frS ((allB ws (64*ws.length)).map IA)):=by
 have hpu:=hs.pur (zAe U _ fun _=>rfl);have hlen:=hs.len (P:=Tryz.prog) un28;rw[List.length_map]at hlen;refine goQ e94 TOk.nil 0 ?_ (by simp[AV.purL,AV.pur,hpu]);simp(maxSteps:=2000000)only[push_cast,seval,↓kw2];refine FW.loopInv (fun m ts H=>∃(k:Nat) (o:AV),k+m=64*ws.length∧Own H o ((allB ws k).map IA)∧ts 0=s∧ts 3=o∧ts 4=I (k:Int)) (64*ws.length) ⟨0,_,by omega,.nil,rfl,rfl,rfl⟩ ?_
 rintro m ih ts H ⟨k,o,hk,hown,t0,t3,t4⟩
 refine FW.inLoop ?_;have w1:=zAf (n:=64*(ws.length:Int)) (by omega) (by omega);have w2:=zAf (n:=(k:Int)+1) (by omega) (by omega);have hsucc:allB ws (k+1)=allB ws k++if zBa ws k=true then [(k:Int)] else []:=by
  unfold allB;rw[List.range_succ,List.map_append,List.filter_append]
  congr 1
  by_cases hb:zBa ws k=true <;> simp[hb]
 by_cases hlt:k < 64*ws.length
 ·have d1:decide ((k:Int) < 64*(ws.length:Int))=true:=decide_eq_true (by omega);refine goN ?_;simp(maxSteps:=2000000)only[push_cast,seval,↓kw2,t0,t3,t4,hlen,w1,d1];refine AC.pur (there_pur hs hw (by omega) (by omega) (by omega)) ?_;rw[show((k:Int)).toNat=k from Int.toNat_natCast k];cases hbk:zBa ws k
  ·rw[hbk]at hsucc;refine goN ?_;simp(maxSteps:=2000000)only[push_cast,seval,↓kw2,t0,t3,t4,w2];exact ih (m - 1) (by omega) _ _ ⟨k+1,o,by omega,by rw[hsucc]; simpa using hown,t0,t3,rfl⟩
  ·rw[hbk,if_pos rfl]at hsucc;have hap:=fun v=>aApp1 (P:=Tryz.prog) un60 un60 ze3 rfl by3 hown v
   have hle:(allB ws k).length≤2^18:=by
    unfold allB;refine Nat.le_trans (List.length_filter_le _ _) ?_;simp;omega
   refine goN ?_;simp(maxSteps:=2000000)only[push_cast,seval,↓kw2,t0,t3,t4,w2,hap];refine⟨zBq (by rw[List.length_map]; omega) (by decide),?_⟩;exact ih (m - 1) (by omega) _ _ ⟨k+1,_,by omega,by rw[hsucc]; exact apI,t0,rfl,rfl⟩
 ·have d1:decide ((k:Int) < 64*(ws.length:Int))=false:=decide_eq_false (by omega);have hke:k=64*ws.length:=by omega
  rw[hke]at hown;refine goN ?_;simp(maxSteps:=2000000)only[push_cast,seval,↓kw2,t0,t3,t4,hlen,w1,d1];exact⟨_,rfl,hown.done (zAe IA _ fun _=>rfl)⟩
theorem e90:Ent Tryz.prog 90 Tryz.f90 [] 2:=.mk Tryz.func90 rfl
attribute [push_cast] Tryz.f90
theorem meets_pur{s r:AV}{xs ys:List Int}(hs:IsSl s (xs.map U))(hr:IsSl r (ys.map U))(hx:∀ w∈xs,inU w)(hy:∀ w∈ys,inU w)(hl:xs.length≤2^12)(hl2:ys.length≤2^12):Pur Tryz.prog GG 90 [s,r] (B (meetB xs ys)):=by
 have hps:=hs.pur (zAe U _ fun _=>rfl);have hpr:=hr.pur (zAe U _ fun _=>rfl);have hA:=all3_pur hs hx hl;unfold meetB;have hmem:∀ k∈allB xs (64*xs.length),0≤k∧k < 2^20:=fun k hk=>by
  have:=(allB_mem.1 hk).1;omega
 have hle:(allB xs (64*xs.length)).length≤2^18:=by
  unfold allB;refine Nat.le_trans (List.length_filter_le _ _) ?_;simp;omega
 generalize allB xs (64*xs.length)=l at hA hmem hle
 have hL:IsSl (frS (l.map IA)) (l.map IA):=IsSl.frS _
 generalize frS (l.map IA)=o at hA hL
 have hlen:=hL.len (P:=Tryz.prog) un60;rw[List.length_map]at hlen;have hidx:=fun(i:Nat) (hi:i < l.length) (H:List AO)=>hL.idx (P:=Tryz.prog) un60 sz3 (i:=(i:Int)) (by rw[List.length_map]; omega) (by omega) H
 refine goQ e90 TOk.nil 0 ?_ (by simp[AV.purL,AV.pur,hps,hpr]);simp(maxSteps:=2000000)only[push_cast,seval,↓kw2];refine AC.pur hA ?_;refine goN ?_;simp(maxSteps:=2000000)only[push_cast,seval,↓kw2];refine FW.loopInv (fun m ts H=>∃ i:Nat,i+m=l.length∧((l.drop i).any fun k=>zBa ys k.toNat)=(l.any fun k=>zBa ys k.toNat)∧ts 1=r∧ts 5=o∧ts 6=I (i:Int)) l.length ⟨0,by omega,rfl,rfl,rfl,rfl⟩ ?_
 rintro m ih ts H ⟨i,hi,hf,t1,t5,t6⟩
 refine FW.inLoop ?_;have w2:=zAf (n:=(i:Int)+1) (by omega) (by omega)
 by_cases hlt:i < l.length
 ·have d1:decide ((i:Int) < (l.length:Int))=true:=decide_eq_true (by omega);have hxi:=hidx i hlt;simp only[Int.toNat_natCast]at hxi;rw[zAm IA l 0 hlt]at hxi;have hk:=hmem (l.getD i 0) (by simp[List.getD,hlt]);rw[zBi 0 hlt,List.any_cons]at hf
  generalize l.getD i 0=k at hxi hk hf
  have hbb:(0≤(i:Int)∧(i:Int) < ((l.map IA).length:Int)):=⟨by omega,by rw[List.length_map]; omega⟩;refine goN ?_;simp(maxSteps:=2000000)only[push_cast,seval,↓kw2,t1,t5,t6,hlen,d1,hxi]
  repeat (first | refine⟨hbb,?_⟩ | refine And.intro (by omega) ?_)
  refine AC.pur (there_pur hr hy (by omega) hk.1 (by omega)) ?_;cases hbk:zBa ys k.toNat
  ·rw[hbk,Bool.false_or]at hf;refine goN ?_;simp(maxSteps:=2000000)only[push_cast,seval,↓kw2,t1,t5,t6,w2];exact ih (m - 1) (by omega) _ _ ⟨i+1,by omega,hf,t1,t5,rfl⟩
  ·rw[hbk,Bool.true_or]at hf;refine goN ?_;simp(maxSteps:=2000000)only[push_cast,seval,↓kw2,t1,t5,t6,w2];exact⟨_,rfl,zAa rfl (by rw[← hf])⟩
 ·have d1:decide ((i:Int) < (l.length:Int))=false:=decide_eq_false (by omega);rw[List.drop_eq_nil_of_le (by omega)]at hf;refine goN ?_;simp(maxSteps:=2000000)only[push_cast,seval,↓kw2,t1,t5,t6,hlen,d1];exact⟨_,rfl,zAa rfl (by rw[← hf]; rfl)⟩
theorem e125:Ent Tryz.prog 125 Tryz.f125 [] 2:=.mk Tryz.func125 rfl
attribute [push_cast] Tryz.f125
theorem from_pur{s:AV}{l:List Int}(hs:IsSl s (l.map IA)){n:Int}(hn:1≤n∧n≤12288)(hl:∀ k∈l,0≤k∧k < n)(hle:l.length≤2^26):Pur Tryz.prog GG 125 [I n,s] (.isl ((ofL n l).map U)):=by
 have hpu:=hs.pur (zAe IA _ fun _=>rfl);have hlen:=hs.len (P:=Tryz.prog) un60;rw[List.length_map]at hlen;have hidx:=fun(i:Nat) (hi:i < l.length) (H:List AO)=>hs.idx (P:=Tryz.prog) un60 sz3 (i:=(i:Int)) (by rw[List.length_map]; omega) (by omega) H
 have hw:zAs n=(n+63) / 64:=by rw[zAs,if_pos hn]
 have e1:(n+63).tdiv 64=(n+63) / 64:=Int.tdiv_eq_ediv_of_nonneg (by omega);have w0:=zAf (n:=n+63) (by omega) (by omega);have w1:=zAf (n:=(n+63) / 64) (by omega) (by omega);obtain⟨q,hq⟩:∃ q,((n+63) / 64).toNat=q+1:=⟨((n+63) / 64).toNat - 1,by omega⟩;refine goQ e125 TOk.nil 0 ?_ (by simp[AV.purL,AV.pur,hpu]);simp(maxSteps:=2000000)only[push_cast,seval,↓kw2,w0,e1,w1,hq]
 repeat (first | refine⟨⟨by omega,by omega⟩,?_⟩ | refine⟨⟨by omega,by omega,by omega⟩,?_⟩ | refine And.intro (by omega) ?_)
 refine FW.loopInv (fun m ts H=>∃(i:Nat) (ws:List Int),i+m=l.length∧(l.drop i).foldl setW ws=ofL n l∧ws.length=q+1∧(∀ w∈ws,inU w)∧H=[.arr 1 (ws.map U)]∧ts 1=s∧ts 5=.sl 0 0 (q+1) (q+1)∧ts 6=I (i:Int)) l.length
  ⟨0,List.replicate (q+1) 0,by omega,by unfold ofL; rw[hw,hq]; rfl,by simp,fun w hw=>by rw[List.eq_of_mem_replicate hw]; exact inU_0,by simp,rfl,rfl,rfl⟩ ?_
 rintro m ih ts H ⟨i,ws,hi,hws,hwl,hwu,rfl,t1,t5,t6⟩
 refine FW.inLoop ?_;have w2:=zAf (n:=(i:Int)+1) (by omega) (by omega)
 by_cases hlt:i < l.length
 ·have d1:decide ((i:Int) < (l.length:Int))=true:=decide_eq_true (by omega);have hxi:=hidx i hlt;simp only[Int.toNat_natCast]at hxi;rw[zAm IA l 0 hlt]at hxi;have hk:=hl (l.getD i 0) (by simp[List.getD,hlt]);rw[zBi 0 hlt,List.foldl_cons]at hws
  generalize l.getD i 0=k at hxi hk hws
  have hbb:(0≤(i:Int)∧(i:Int) < ((l.map IA).length:Int)):=⟨by omega,by rw[List.length_map]; omega⟩;have hkd0:=Int.tdiv_eq_ediv_of_nonneg (b:=64) hk.1;have hkw:=zAf (n:=k.tdiv 64) (by omega) (by omega);have hkq:(k.tdiv 64).toNat < ws.length:=by omega
  have hkq':(k.tdiv 64).toNat < (ws.map U).length:=by rw[List.length_map]; exact hkq
  have hgd:=zAm U ws 0 hkq;have hkm:=Int.tmod_nonneg 64 hk.1;have hkd:=Int.tdiv_nonneg (b:=64) hk.1 (by decide);refine goN ?_;simp(maxSteps:=2000000)only[push_cast,seval,↓kw2,t1,t5,t6,hlen,d1,hxi]
  repeat (first | refine⟨hbb,?_⟩ | refine And.intro (by omega) ?_)
  refine AC.view ggp (n:=2) (args':=[.isl (ws.map U),I k]) ?_ (by simp[AV.purL,AV.pur]) rfl (there_pur (.inl rfl) hwu (by omega) hk.1 (by omega)) ?_
  ·have hown:Own [.arr 1 (ws.map U)] (.sl 0 0 (q+1) (q+1)) (ws.map U):=by
    have:=Own.row (H:=[.arr 1 (ws.map U)]) (id:=0) rfl (by rw[List.length_map,hwl]; omega)
    rwa [List.length_map,hwl]at this
   have hf:=hown.frz (zAe U _ fun _=>rfl) (n:=0);rw[frS_ne (by rw[List.length_map,hwl]; omega)]at hf;show mapO (frz 2 [.arr 1 (ws.map U)]) [.sl 0 0 (q+1) (q+1),I k]=_;rw[mapO,hf];rfl
  ·cases hbk:zBa ws k.toNat
   ·have hadd:=from_add hwu hk.1 hbk;have hset:(ws.map U).set (k.tdiv 64).toNat (.c (.int .u64 (addW (ws.getD (k.tdiv 64).toNat 0) k)))=(setW ws k).map U:=by rw[hadd,List.map_set]
    refine goN ?_;simp(maxSteps:=2000000)only[push_cast,seval,↓kw2,t1,t5,t6,w2,hxi,hkw,hkq',hgd]
    repeat (first | refine⟨hbb,?_⟩ | refine And.intro (by omega) ?_)
    exact ih (m - 1) (by omega) _ _ ⟨i+1,setW ws k,by omega,hws,by rw[setW_length,hwl],setW_inU hwu k,congrArg (fun q=>[AO.arr 1 q]) hset,t1,t5,rfl⟩
   ·have hsame:=from_same hwu hk.1 (by omega) hbk;rw[hsame]at hws;refine goN ?_;simp(maxSteps:=2000000)only[push_cast,seval,↓kw2,t1,t5,t6,w2];exact ih (m - 1) (by omega) _ _ ⟨i+1,ws,by omega,hws,hwl,hwu,rfl,t1,t5,rfl⟩
 ·have d1:decide ((i:Int) < (l.length:Int))=false:=decide_eq_false (by omega);rw[List.drop_eq_nil_of_le (by omega)]at hws;have hws':ws=ofL n l:=hws;subst hws';refine goN ?_;simp(maxSteps:=2000000)only[push_cast,seval,↓kw2,t1,t5,t6,hlen,d1];have hown:Own [.arr 1 ((ofL n l).map U)] (.sl 0 0 (q+1) (q+1)) ((ofL n l).map U):=by
   have:=Own.row (H:=[.arr 1 ((ofL n l).map U)]) (id:=0) rfl (by rw[List.length_map,hwl]; omega)
   rwa [List.length_map,hwl]at this
  obtain⟨m',hm'⟩:=hown.done (zAe U _ (fun _=>rfl));exact⟨_,rfl,m',by rw[hm',frS_ne (by rw[List.length_map,hwl]; omega)]⟩
theorem e96:Ent Tryz.prog 96 Tryz.f96 [] 2:=.mk Tryz.func96 rfl
attribute [push_cast] Tryz.f96
theorem may02(a b c x y z p q r:Int):Pur Tryz.prog GG 96 [.agg [I a,I b,I c],.agg [I x,I y,I z,I p,I q,I r]] (B (decide (okB a b c x y z p q r))):=by
 refine goQ e96 Q5_ok 5 ?_;simp(maxSteps:=2000000)only[push_cast,seval,↓kw2]
 repeat' (first | apply And.intro | intro _)
 all_goals
  refine⟨_,rfl,zAa rfl ?_⟩;simp only[AV.c.injEq,Value.bool.injEq]
  first | exact(decide_eq_true (by unfold okB ok1; omega)).symm | exact(decide_eq_false (by unfold okB ok1; omega)).symm
@[push_cast] def g96:List AV→Option (Prop × AV)
 | [.agg [(.c (.int .i64 a)),(.c (.int .i64 b)),(.c (.int .i64 c))],.agg [(.c (.int .i64 x)),(.c (.int .i64 y)),(.c (.int .i64 z)),(.c (.int .i64 p)),(.c (.int .i64 q)),(.c (.int .i64 r))]]=>some (True,B (decide (okB a b c x y z p q r)))
 | _=>none
theorem g96_ok:∀ args p,g96 args=some p→p.1→Pur Tryz.prog GG 96 args p.2:=by
 intro args p hp hc
 unfold g96 at hp
 split at hp
 ·cases hp;exact may02 _ _ _ _ _ _ _ _ _
 ·cases hp
@[push_cast] def Q6:Tab:=Tab.ext Q5 96 g96
theorem Q6_ok:TOk Tryz.prog GG Q6:=TOk.ext Q5_ok g96_ok
theorem can_0{n s x:Int}:can 0 n s x=if s=n then 0 else x:=by unfold can; rw[if_pos rfl]
theorem e97:Ent Tryz.prog 97 Tryz.f97 [] 2:=.mk Tryz.func97 rfl
attribute [push_cast] Tryz.f97
theorem told02(a b c x y z p q r:Int):Pur Tryz.prog GG 97 [.agg [I a,I b,I c],.agg [I x,I y,I z,I p,I q,I r]] (.agg [I (can 0 a p x),I (can 0 b q y),I (can 0 c r z),I p,I q,I r]):=by
 refine goQ e97 Q6_ok 5 ?_;simp(maxSteps:=2000000)only[push_cast,seval,↓kw2]
 repeat' (first | apply And.intro | intro _)
 all_goals
  refine⟨_,rfl,zAa rfl ?_⟩;simp[can_0, *]
@[push_cast] def g97:List AV→Option (Prop × AV)
 | [.agg [(.c (.int .i64 a)),(.c (.int .i64 b)),(.c (.int .i64 c))],.agg [(.c (.int .i64 x)),(.c (.int .i64 y)),(.c (.int .i64 z)),(.c (.int .i64 p)),(.c (.int .i64 q)),(.c (.int .i64 r))]]=>some (True,.agg [I (can 0 a p x),I (can 0 b q y),I (can 0 c r z),I p,I q,I r])
 | _=>none
theorem g97_ok:∀ args p,g97 args=some p→p.1→Pur Tryz.prog GG 97 args p.2:=by
 intro args p hp hc
 unfold g97 at hp
 split at hp
 ·cases hp;exact told02 _ _ _ _ _ _ _ _ _
 ·cases hp
@[push_cast] def Q7:Tab:=Tab.ext Q6 97 g97
theorem Q7_ok:TOk Tryz.prog GG Q7:=TOk.ext Q6_ok g97_ok
theorem e143:Ent Tryz.prog 143 Tryz.f143 [] 3:=.mk Tryz.func143 rfl
attribute [push_cast] Tryz.f143
theorem in02_pur{a b c x y z p q r m:Int}(hm:inM a b c m)(hb:okB a b c x y z p q r):Pur Tryz.prog GG 143 [.agg [I a,I b,I c],.agg [I x,I y,I z,I p,I q,I r],I m] (B (inB a b c x y z p q r m)):=by
 have hd:=hm.1;have hb':=hb;unfold okD at hd;unfold okB ok1 at hb';unfold inB;refine goQ e143 Q7_ok 0 ?_;simp(maxSteps:=2000000)only[push_cast,seval,↓kw2]
 repeat (first | refine⟨hm,?_⟩)
 generalize ofX a b c m=X
 generalize ofY a b c m=Y
 generalize ofZ a b c m=Z
 obtain⟨rest,h0,h1,h2,h3⟩:∃ rest:Int→Bool,rest 0=(axN a x X p.toNat&&(axN b y Y q.toNat&&axN c z Z r.toNat))∧rest 1=(axN b y Y q.toNat&&axN c z Z r.toNat)∧rest 2=axN c z Z r.toNat∧rest 3=true :=
  ⟨fun i=>if i=0 then (axN a x X p.toNat&&(axN b y Y q.toNat&&axN c z Z r.toNat)) else if i=1 then (axN b y Y q.toNat&&axN c z Z r.toNat) else if i=2 then axN c z Z r.toNat else true,rfl,rfl,rfl,rfl⟩
 rw[← h0];refine FW.loopInv (fun n ts H=>∃ i:Int,i+(n:Int)=3∧0≤i∧rest i=rest 0∧H=[.cells [I a,I b,I c],.cells [I x,I y,I z,I p,I q,I r],.cells [I X,I Y,I Z]]∧ts 3=.ptr 0 0∧ts 4=.ptr 1 0∧ts 7=.ptr 2 0∧ts 8=I i) 3
  ⟨0,by omega,by omega,rfl,rfl,rfl,rfl,rfl,rfl⟩ ?_
 rintro n ih ts H ⟨i,hi,hi0,hr,rfl,t3,t4,t7,t8⟩
 refine FW.inLoop ?_;have hcs:i=0∨i=1∨i=2∨i=3:=by omega
 rcases hcs with rfl | rfl | rfl | rfl
 ·skip
  refine goN ?_;simp(maxSteps:=2000000)only[push_cast,seval,↓kw2,t3,t4,t7,t8];refine FW.loopInv (fun l ts H=>∃ k:Nat,k+l=(p).toNat∧H=[.cells [I a,I b,I c],.cells [I x,I y,I z,I p,I q,I r],.cells [I X,I Y,I Z]]∧ts 3=.ptr 0 0∧ts 4=.ptr 1 0∧ts 7=.ptr 2 0∧ts 8=I 0∧ts 9=B (axN a x X k)∧ts 10=I (k:Int)) (p).toNat
   ⟨0,by omega,rfl,t3,t4,t7,t8,rfl,rfl⟩ ?_
  clear t3 t4 t7 t8 ts
  rintro l ihl ts H ⟨k,hk,rfl,t3,t4,t7,t8,t9,t10⟩
  refine FW.inLoop ?_;have w1:=zAf (n:=x+(k:Int)) (by omega) (by omega);have w2:=zAf (n:=(k:Int)+1) (by omega) (by omega);have hn0:¬a=0:=by omega
  have hsc:=axN_succ a x X k
  by_cases hlt:(k:Int) < p
  ·have d1:decide ((k:Int) < p)=true:=decide_eq_true hlt
   by_cases he:(x+(k:Int)).tmod a=X
   ·have d2:decide ((x+(k:Int)).tmod a=X)=true:=decide_eq_true he;rw[d2,Bool.or_true]at hsc;refine goN ?_;simp(maxSteps:=2000000)only[push_cast,seval,↓kw2,t3,t4,t7,t8,t9,t10,w1,w2,d1,d2]
    repeat (first | refine⟨hn0,?_⟩ | refine And.intro (by omega) ?_)
    exact ihl (l - 1) (by omega) _ _ ⟨k+1,by omega,rfl,t3,t4,t7,t8,by rw[hsc]; rfl,rfl⟩
   ·have d2:decide ((x+(k:Int)).tmod a=X)=false:=decide_eq_false he;rw[d2,Bool.or_false]at hsc;refine goN ?_;simp(maxSteps:=2000000)only[push_cast,seval,↓kw2,t3,t4,t7,t8,t9,t10,w1,w2,d1,d2]
    repeat (first | refine⟨hn0,?_⟩ | refine And.intro (by omega) ?_)
    exact ihl (l - 1) (by omega) _ _ ⟨k+1,by omega,rfl,t3,t4,t7,t8,by rw[hsc]; exact t9,rfl⟩
  ·have d1:decide ((k:Int) < p)=false:=decide_eq_false hlt;have hke:k=(p).toNat:=by omega
   subst hke;have hrs:rest 0=(axN a x X (p).toNat&&rest 1):=by simp[h0,h1,h2,h3]
   cases hx:axN a x X (p).toNat
   ·rw[hx]at t9;rw[hx,Bool.false_and]at hrs;refine goN ?_;simp(maxSteps:=2000000)only[push_cast,seval,↓kw2,t3,t4,t7,t8,t9,t10,d1];exact⟨_,rfl,zAa rfl (by rw[← hr,hrs])⟩
   ·rw[hx]at t9;rw[hx,Bool.true_and]at hrs;refine goN ?_;simp(maxSteps:=2000000)only[push_cast,seval,↓kw2,t3,t4,t7,t8,t9,t10,d1];exact ih (n - 1) (by omega) _ _ ⟨1,by omega,by omega,hrs.symm.trans hr,rfl,t3,t4,t7,rfl⟩
 ·skip
  refine goN ?_;simp(maxSteps:=2000000)only[push_cast,seval,↓kw2,t3,t4,t7,t8];refine FW.loopInv (fun l ts H=>∃ k:Nat,k+l=(q).toNat∧H=[.cells [I a,I b,I c],.cells [I x,I y,I z,I p,I q,I r],.cells [I X,I Y,I Z]]∧ts 3=.ptr 0 0∧ts 4=.ptr 1 0∧ts 7=.ptr 2 0∧ts 8=I 1∧ts 9=B (axN b y Y k)∧ts 10=I (k:Int)) (q).toNat
   ⟨0,by omega,rfl,t3,t4,t7,t8,rfl,rfl⟩ ?_
  clear t3 t4 t7 t8 ts
  rintro l ihl ts H ⟨k,hk,rfl,t3,t4,t7,t8,t9,t10⟩
  refine FW.inLoop ?_;have w1:=zAf (n:=y+(k:Int)) (by omega) (by omega);have w2:=zAf (n:=(k:Int)+1) (by omega) (by omega);have hn0:¬b=0:=by omega
  have hsc:=axN_succ b y Y k
  by_cases hlt:(k:Int) < q
  ·have d1:decide ((k:Int) < q)=true:=decide_eq_true hlt
   by_cases he:(y+(k:Int)).tmod b=Y
   ·have d2:decide ((y+(k:Int)).tmod b=Y)=true:=decide_eq_true he;rw[d2,Bool.or_true]at hsc;refine goN ?_;simp(maxSteps:=2000000)only[push_cast,seval,↓kw2,t3,t4,t7,t8,t9,t10,w1,w2,d1,d2]
    repeat (first | refine⟨hn0,?_⟩ | refine And.intro (by omega) ?_)
    exact ihl (l - 1) (by omega) _ _ ⟨k+1,by omega,rfl,t3,t4,t7,t8,by rw[hsc]; rfl,rfl⟩
   ·have d2:decide ((y+(k:Int)).tmod b=Y)=false:=decide_eq_false he;rw[d2,Bool.or_false]at hsc;refine goN ?_;simp(maxSteps:=2000000)only[push_cast,seval,↓kw2,t3,t4,t7,t8,t9,t10,w1,w2,d1,d2]
    repeat (first | refine⟨hn0,?_⟩ | refine And.intro (by omega) ?_)
    exact ihl (l - 1) (by omega) _ _ ⟨k+1,by omega,rfl,t3,t4,t7,t8,by rw[hsc]; exact t9,rfl⟩
  ·have d1:decide ((k:Int) < q)=false:=decide_eq_false hlt;have hke:k=(q).toNat:=by omega
   subst hke;have hrs:rest 1=(axN b y Y (q).toNat&&rest 2):=by simp[h0,h1,h2,h3]
   cases hx:axN b y Y (q).toNat
   ·rw[hx]at t9;rw[hx,Bool.false_and]at hrs;refine goN ?_;simp(maxSteps:=2000000)only[push_cast,seval,↓kw2,t3,t4,t7,t8,t9,t10,d1];exact⟨_,rfl,zAa rfl (by rw[← hr,hrs])⟩
   ·rw[hx]at t9;rw[hx,Bool.true_and]at hrs;refine goN ?_;simp(maxSteps:=2000000)only[push_cast,seval,↓kw2,t3,t4,t7,t8,t9,t10,d1];exact ih (n - 1) (by omega) _ _ ⟨2,by omega,by omega,hrs.symm.trans hr,rfl,t3,t4,t7,rfl⟩
 ·skip
  refine goN ?_;simp(maxSteps:=2000000)only[push_cast,seval,↓kw2,t3,t4,t7,t8];refine FW.loopInv (fun l ts H=>∃ k:Nat,k+l=(r).toNat∧H=[.cells [I a,I b,I c],.cells [I x,I y,I z,I p,I q,I r],.cells [I X,I Y,I Z]]∧ts 3=.ptr 0 0∧ts 4=.ptr 1 0∧ts 7=.ptr 2 0∧ts 8=I 2∧ts 9=B (axN c z Z k)∧ts 10=I (k:Int)) (r).toNat
   ⟨0,by omega,rfl,t3,t4,t7,t8,rfl,rfl⟩ ?_
  clear t3 t4 t7 t8 ts
  rintro l ihl ts H ⟨k,hk,rfl,t3,t4,t7,t8,t9,t10⟩
  refine FW.inLoop ?_;have w1:=zAf (n:=z+(k:Int)) (by omega) (by omega);have w2:=zAf (n:=(k:Int)+1) (by omega) (by omega);have hn0:¬c=0:=by omega
  have hsc:=axN_succ c z Z k
  by_cases hlt:(k:Int) < r
  ·have d1:decide ((k:Int) < r)=true:=decide_eq_true hlt
   by_cases he:(z+(k:Int)).tmod c=Z
   ·have d2:decide ((z+(k:Int)).tmod c=Z)=true:=decide_eq_true he;rw[d2,Bool.or_true]at hsc;refine goN ?_;simp(maxSteps:=2000000)only[push_cast,seval,↓kw2,t3,t4,t7,t8,t9,t10,w1,w2,d1,d2]
    repeat (first | refine⟨hn0,?_⟩ | refine And.intro (by omega) ?_)
    exact ihl (l - 1) (by omega) _ _ ⟨k+1,by omega,rfl,t3,t4,t7,t8,by rw[hsc]; rfl,rfl⟩
   ·have d2:decide ((z+(k:Int)).tmod c=Z)=false:=decide_eq_false he;rw[d2,Bool.or_false]at hsc;refine goN ?_;simp(maxSteps:=2000000)only[push_cast,seval,↓kw2,t3,t4,t7,t8,t9,t10,w1,w2,d1,d2]
    repeat (first | refine⟨hn0,?_⟩ | refine And.intro (by omega) ?_)
    exact ihl (l - 1) (by omega) _ _ ⟨k+1,by omega,rfl,t3,t4,t7,t8,by rw[hsc]; exact t9,rfl⟩
  ·have d1:decide ((k:Int) < r)=false:=decide_eq_false hlt;have hke:k=(r).toNat:=by omega
   subst hke;have hrs:rest 2=(axN c z Z (r).toNat&&rest 3):=by simp[h0,h1,h2,h3]
   cases hx:axN c z Z (r).toNat
   ·rw[hx]at t9;rw[hx,Bool.false_and]at hrs;refine goN ?_;simp(maxSteps:=2000000)only[push_cast,seval,↓kw2,t3,t4,t7,t8,t9,t10,d1];exact⟨_,rfl,zAa rfl (by rw[← hr,hrs])⟩
   ·rw[hx]at t9;rw[hx,Bool.true_and]at hrs;refine goN ?_;simp(maxSteps:=2000000)only[push_cast,seval,↓kw2,t3,t4,t7,t8,t9,t10,d1];exact ih (n - 1) (by omega) _ _ ⟨3,by omega,by omega,hrs.symm.trans hr,rfl,t3,t4,t7,rfl⟩
 ·skip
  refine goN ?_;simp(maxSteps:=2000000)only[push_cast,seval,↓kw2,t3,t4,t7,t8];exact⟨_,rfl,zAa rfl (by rw[← hr,h3])⟩
def boxN(a b c x y z p q r:Int)(k:Nat):List Int:=((List.range k).map Int.ofNat).filter fun m=>inB a b c x y z p q r m
theorem boxN_succ(a b c x y z p q r:Int)(k:Nat):boxN a b c x y z p q r (k+1)=boxN a b c x y z p q r k++if inB a b c x y z p q r (k:Int)=true then [(k:Int)] else []:=by
 unfold boxN;rw[List.range_succ,List.map_append,List.filter_append]
 congr 1
 by_cases hb:inB a b c x y z p q r (k:Int)=true <;> simp[hb]
theorem boxN_len(a b c x y z p q r:Int)(k:Nat):(boxN a b c x y z p q r k).length≤k:=by
 unfold boxN;refine Nat.le_trans (List.length_filter_le _ _) ?_;simp
theorem e126:Ent Tryz.prog 126 Tryz.f126 [] 2:=.mk Tryz.func126 rfl
attribute [push_cast] Tryz.f126
theorem all02_pur{a b c x y z p q r:Int}(hd:okD a b c)(hb:okB a b c x y z p q r):Pur Tryz.prog GG 126 [.agg [I a,I b,I c],.agg [I x,I y,I z,I p,I q,I r]] (frS ((boxL a b c x y z p q r).map IA)):=by
 have hmu:=zAy hd;have hN:=n01 a b c hd;refine goQ e126 TOk.nil 0 ?_;simp(maxSteps:=2000000)only[push_cast,seval,↓kw2];refine FW.loopInv (fun n ts H=>∃(k:Nat) (o:AV),k+n=(a*b*c).toNat∧Own H o ((boxN a b c x y z p q r k).map IA)∧zAl o≠some 0∧zAl o≠some 1∧H[0]?=some (.cells [I a,I b,I c])∧H[1]?=some (.cells [I x,I y,I z,I p,I q,I r])∧ts 2=.ptr 0 0∧ts 3=.ptr 1 0∧ts 5=o∧ts 6=I (k:Int)) (a*b*c).toNat
  ⟨0,_,by omega,.nil,by simp[zAl],by simp[zAl],rfl,rfl,rfl,rfl,rfl,rfl⟩ ?_
 rintro n ih ts H ⟨k,o,hk,hown,ho0,ho1,m0,m1,t2,t3,t5,t6⟩
 refine FW.inLoop ?_;have w2:=zAf (n:=(k:Int)+1) (by omega) (by omega);have hsc:=boxN_succ a b c x y z p q r k;have hle:=boxN_len a b c x y z p q r k
 by_cases hlt:(k:Int) < a*b*c
 ·have d1:decide ((k:Int) < a*b*c)=true:=decide_eq_true hlt;refine goN ?_;simp(maxSteps:=2000000)only[push_cast,seval,↓kw2,m0,m1,t2,t3,t5,t6];refine AC.pur hN ?_;refine goN ?_;simp(maxSteps:=2000000)only[push_cast,seval,↓kw2,m0,m1,t2,t3,t5,t6,d1];refine AC.pur (in02_pur ⟨hd,by omega,hlt⟩ hb) ?_;cases hin:inB a b c x y z p q r (k:Int)
  ·rw[hin]at hsc;refine goN ?_;simp(maxSteps:=2000000)only[push_cast,seval,↓kw2,m0,m1,t2,t3,t5,t6,w2];exact ih (n - 1) (by omega) _ _ ⟨k+1,o,by omega,by rw[hsc]; simpa using hown,ho0,ho1,m0,m1,t2,t3,t5,rfl⟩
  ·rw[hin,if_pos rfl]at hsc;have hap:=fun v=>aApp1 (P:=Tryz.prog) un60 un60 ze3 rfl by3 hown v
   have hl0:=zAb m0;have hl1:=zAb m1;refine goN ?_;simp(maxSteps:=2000000)only[push_cast,seval,↓kw2,m0,m1,t2,t3,t5,t6,w2,hap];refine⟨zBq (by rw[List.length_map]; omega) (by decide),?_⟩;exact ih (n - 1) (by omega) _ _ ⟨k+1,_,by omega,by rw[hsc]; exact apI,zEc (by omega),zEc (by omega),(apH_get hl0 ho0).trans m0,(apH_get hl1 ho1).trans m1,t2,t3,rfl,rfl⟩
 ·have d1:decide ((k:Int) < a*b*c)=false:=decide_eq_false hlt;have hke:k=(a*b*c).toNat:=by omega
  subst hke;refine goN ?_;simp(maxSteps:=2000000)only[push_cast,seval,↓kw2,m0,m1,t2,t3,t5,t6];refine AC.pur hN ?_;refine goN ?_;simp(maxSteps:=2000000)only[push_cast,seval,↓kw2,m0,m1,t2,t3,t5,t6,d1];exact⟨_,rfl,hown.done (zAe IA _ fun _=>rfl)⟩
theorem e166:Ent Tryz.prog 166 Tryz.f166 [] 5:=.mk Tryz.func166 rfl
attribute [push_cast] Tryz.f166
theorem among_pur{a b c k m:Int}(hk:0≤k∧k≤2)(hm:inM a b c m){N:Nat}(hN:N≤16)(o:Int):Pur Tryz.prog GG 166 [.agg [I a,I b,I c],I k,I m,I (N:Int),I o] (B (zFh a b c k m o N)):=by
 refine goQ e166 TOk.nil 0 ?_;simp(maxSteps:=2000000)only[push_cast,seval,↓kw2];refine FW.loopInv (fun n ts H=>∃ i:Nat,i+n=N∧zFh a b c k m o i=false∧H=[.cells [I a,I b,I c]]∧ts 1=I k∧ts 2=I m∧ts 3=I (N:Int)∧ts 4=I o∧ts 5=.ptr 0 0∧ts 11=I (i:Int)) N
  ⟨0,by omega,rfl,rfl,rfl,rfl,rfl,rfl,rfl,rfl⟩ ?_
 rintro n ih ts H ⟨i,hi,hf,rfl,t1,t2,t3,t4,t5,t11⟩
 refine FW.inLoop ?_;have w2:=zAf (n:=(i:Int)+1) (by omega) (by omega);have hs:=among_succ a b c k m o i;rw[hf,Bool.false_or]at hs
 by_cases hlt:i < N
 ·have d1:decide ((i:Int) < (N:Int))=true:=decide_eq_true (by omega);refine goN ?_;simp(maxSteps:=2000000)only[push_cast,seval,↓kw2,t1,t2,t3,t4,t5,t11,d1];refine AC.pur (on01 hk hm (i:Int)) ?_
  by_cases he:stV a b c m k (i:Int)=o
  ·have d2:decide (stV a b c m k (i:Int)=o)=true:=decide_eq_true he;rw[d2]at hs;refine goN ?_;simp(maxSteps:=2000000)only[push_cast,seval,↓kw2,t1,t2,t3,t4,t5,t11,d2];refine⟨_,rfl,zAa rfl ?_⟩;have:∀ j:Nat,zFh a b c k m o (i+1+j)=true:=fun j=>by
    induction j with
    | zero=>exact hs
    | succ j ihj=>rw[← Nat.add_assoc,among_succ,ihj,Bool.true_or]
   have:=this (N - (i+1));rw[show i+1+(N - (i+1))=N by omega]at this;rw[this]
  ·have d2:decide (stV a b c m k (i:Int)=o)=false:=decide_eq_false he;rw[d2]at hs;refine goN ?_;simp(maxSteps:=2000000)only[push_cast,seval,↓kw2,t1,t2,t3,t4,t5,t11,d2,w2];exact ih (n - 1) (by omega) _ _ ⟨i+1,by omega,hs,rfl,t1,t2,t3,t4,t5,rfl⟩
 ·have d1:decide ((i:Int) < (N:Int))=false:=decide_eq_false (by omega);have:i=N:=by omega
  subst this;refine goN ?_;simp(maxSteps:=2000000)only[push_cast,seval,↓kw2,t1,t2,t3,t4,t5,t11,d1];exact⟨_,rfl,zAa rfl (by rw[hf])⟩
def takN(a b c k m:Int)(N i:Nat):List Int:=(((List.range i).map Int.ofNat).filter fun o=>zFh a b c k m o N).map fun o=>k*(a*b*c)+o
theorem takN_succ(a b c k m:Int)(N i:Nat):takN a b c k m N (i+1)=takN a b c k m N i++if zFh a b c k m (i:Int) N=true then [k*(a*b*c)+(i:Int)] else []:=by
 unfold takN;rw[List.range_succ,List.map_append,List.filter_append,List.map_append]
 congr 1
 by_cases hb:zFh a b c k m (i:Int) N=true <;> simp[hb]
theorem takN_len(a b c k m:Int)(N i:Nat):(takN a b c k m N i).length≤i:=by
 unfold takN;rw[List.length_map];refine Nat.le_trans (List.length_filter_le _ _) ?_;simp
theorem taken_is(a b c k m:Int)(N:Nat):takenL a b c k m N=if 1 < dimV a b c k then takN a b c k m N (a*b*c).toNat else []:=rfl
theorem e153:Ent Tryz.prog 153 Tryz.f153 [] 4:=.mk Tryz.func153 rfl
attribute [push_cast] Tryz.f153
theorem taken05{a b c k m:Int}(hk:0≤k∧k≤2)(hm:inM a b c m){N:Nat}(hN:N≤16):Pur Tryz.prog GG 153 [.agg [I a,I b,I c],I k,I m,I (N:Int)] (frS ((takenL a b c k m N).map IA)):=by
 have hd:=hm.1;have hmu:=zAy hd;have hN1:=n01 a b c hd;have hkm0:0≤k*(a*b*c):=Int.mul_nonneg (by omega) (by omega);have hkm1:k*(a*b*c)≤2*(a*b*c):=Int.mul_le_mul_of_nonneg_right (by omega) (by omega);have w0:=zAf (n:=k*(a*b*c)) (by omega) (by omega);have hpos:0 < a*b*c:=by have:=hm.2; omega
 rw[taken_is];refine goQ e153 TOk.nil 0 ?_;simp(maxSteps:=2000000)only[push_cast,seval,↓kw2];refine AC.pur hN1 ?_;refine goN ?_;simp(maxSteps:=2000000)only[push_cast,seval,↓kw2]
 by_cases h1:1 < dimV a b c k
 ·rw[if_pos h1];refine FW.loopInv (fun n ts H=>∃(i:Nat) (o:AV),i+n=(a*b*c).toNat∧Own H o ((takN a b c k m N i).map IA)∧zAl o≠some 0∧H[0]?=some (.cells [I a,I b,I c])∧ts 1=I k∧ts 2=I m∧ts 3=I (N:Int)∧ts 4=.ptr 0 0∧ts 9=o∧ts 10=I (a*b*c)∧ts 11=I (i:Int)) (a*b*c).toNat
   ⟨0,_,by omega,.nil,by simp[zAl],rfl,rfl,rfl,rfl,rfl,rfl,rfl,rfl⟩ ?_
  rintro n ih ts H ⟨i,o,hi,hown,ho0,m0,t1,t2,t3,t4,t9,t10,t11⟩
  refine FW.inLoop ?_;have w2:=zAf (n:=(i:Int)+1) (by omega) (by omega);have w3:=zAf (n:=k*(a*b*c)+(i:Int)) (by omega) (by omega);have hsc:=takN_succ a b c k m N i;have hle:=takN_len a b c k m N i;have hAm:=among_pur hk hm hN (i:Int);have hap:=fun v=>aApp1 (P:=Tryz.prog) un60 un60 ze3 rfl by3 hown v
  have hl0:=zAb m0;have d0:=decide_eq_true h1
  by_cases hlt:(i:Int) < a*b*c
  ·have d1:decide ((i:Int) < a*b*c)=true:=decide_eq_true hlt;have hcs:k=0∨k=1∨k=2:=by omega
   rcases hcs with rfl | rfl | rfl
   all_goals
    simp only[dimV,if_true,if_neg (by decide:¬(1:Int)=0),if_neg (by decide:¬(2:Int)=0),if_neg (by decide:¬(2:Int)=1)]at d0;refine goN ?_;simp(maxSteps:=2000000)only[push_cast,seval,↓kw2,m0,t1,t2,t3,t4,t9,t10,t11,d1,d0];refine AC.pur hAm ?_;cases hin:zFh a b c _ m (i:Int) N
    ·rw[hin]at hsc;refine goN ?_;simp(maxSteps:=2000000)only[push_cast,seval,↓kw2,m0,t1,t2,t3,t4,t9,t10,t11,w2];exact ih (n - 1) (by omega) _ _ ⟨i+1,o,by omega,by rw[hsc]; simpa using hown,ho0,m0,t1,t2,t3,t4,t9,t10,rfl⟩
    ·rw[hin,if_pos rfl]at hsc;refine goN ?_;simp(maxSteps:=2000000)only[push_cast,seval,↓kw2,m0,t1,t2,t3,t4,t9,t10,t11,w0,w2,w3,hap];refine⟨zBq (by rw[List.length_map]; omega) (by decide),?_⟩;exact ih (n - 1) (by omega) _ _ ⟨i+1,_,by omega,by rw[hsc]; exact apI,zEc (by omega),(apH_get hl0 ho0).trans m0,t1,t2,t3,t4,rfl,t10,rfl⟩
  ·have d1:decide ((i:Int) < a*b*c)=false:=decide_eq_false hlt;have hke:i=(a*b*c).toNat:=by omega
   subst hke;refine goN ?_;simp(maxSteps:=2000000)only[push_cast,seval,↓kw2,m0,t1,t2,t3,t4,t9,t10,t11,d1];exact⟨_,rfl,hown.done (zAe IA _ fun _=>rfl)⟩
 ·rw[if_neg h1];have d0:=decide_eq_false h1;have d1:decide (0 < a*b*c)=true:=decide_eq_true hpos;have hcs:k=0∨k=1∨k=2:=by omega
  refine FW.inLoop ?_
  rcases hcs with rfl | rfl | rfl
  all_goals
   simp only[dimV,if_true,if_neg (by decide:¬(1:Int)=0),if_neg (by decide:¬(2:Int)=0),if_neg (by decide:¬(2:Int)=1)]at d0;refine goN ?_;simp(maxSteps:=2000000)only[push_cast,seval,↓kw2,d1,d0];exact⟨_,rfl,zAa rfl rfl⟩
theorem e144:Ent Tryz.prog 144 Tryz.f144 [] 5:=.mk Tryz.func144 rfl
attribute [push_cast] Tryz.f144
theorem took05{a b c k m s:Int}(t:Bool)(hk:0≤k∧k≤2)(hm:inM a b c m)(hs:1≤s∧s≤dimV a b c k):Pur Tryz.prog GG 144 [.agg [I a,I b,I c],I k,I m,I s,B t] (frS ((tookL a b c k m s t).map IA)):=by
 have hdim:=dimV_in (k:=k) hm.1;unfold tookL
 by_cases h1:s=1
 ·have d1:decide (s=1)=true:=decide_eq_true h1;rw[if_pos h1];refine goQ e144 TOk.nil 0 ?_;simp(maxSteps:=2000000)only[push_cast,seval,↓kw2,d1];exact⟨_,rfl,zAa rfl rfl⟩
 ·have d1:decide (s=1)=false:=decide_eq_false h1;rw[if_neg h1];have w1:=zAf (n:=s - 1) (by omega) (by omega);have hT:=taken05 hk hm (N:=(runN (dimV a b c k) s t).toNat) (by unfold runN; split <;> omega);have hpur:∀ l:List Int,(frS (l.map IA)).pur=true:=fun l=>frS_pur (zAe IA _ fun _=>rfl)
  cases t
  ·rw[show(((runN (dimV a b c k) s false).toNat:Nat):Int)=s - 1 by unfold runN; rw[if_neg (by decide)]; omega]at hT;refine goQ e144 TOk.nil 0 ?_;simp(maxSteps:=2000000)only[push_cast,seval,↓kw2,d1,w1];refine AC.pur hT ?_;refine goN ?_;simp(maxSteps:=2000000)only[push_cast,seval,↓kw2];exact⟨_,rfl,zAa (hpur _) rfl⟩
  ·rw[show(((runN (dimV a b c k) s true).toNat:Nat):Int)=dimV a b c k by unfold runN; rw[if_pos rfl]; omega]at hT;have key:∀ dd,dd=dimV a b c k→Pur Tryz.prog GG 153 [.agg [I a,I b,I c],I k,I m,I dd] (frS ((takenL a b c k m (runN (dimV a b c k) s true).toNat).map IA)):=fun dd e=>by rw[e]; exact hT
   have hcs:k=0∨k=1∨k=2:=by omega
   rcases hcs with rfl | rfl | rfl
   all_goals
    refine goQ e144 TOk.nil 0 ?_;simp(maxSteps:=2000000)only[push_cast,seval,↓kw2,d1,w1];refine⟨_,toVP (key _ rfl),?_⟩;exact⟨_,rfl,zAa (hpur _) rfl⟩
theorem e55:Ent Tryz.prog 55 Tryz.f55 [] 2:=.mk Tryz.func55 rfl
attribute [push_cast] Tryz.f55
theorem may06(a b c x y z p q r:Int)(s t u:Bool)(hd:okD a b c):Pur Tryz.prog GG 55 [.agg [I a,I b,I c],.agg [I x,I y,I z,I p,I q,I r,B s,B t,B u]] (B (decide (okPl a b c x y z p q r s t u))):=by
 refine goQ e55 Q7_ok 0 ?_;simp(maxSteps:=2000000)only[push_cast,seval,↓kw2];refine FW.loopInv (fun n ts H=>∃ i:Int,i+(n:Int)=3∧0≤i∧(0 < i→s=true→¬p=1)∧(1 < i→t=true→¬q=1)∧(2 < i→u=true→¬r=1)∧H=[.cells [I a,I b,I c],.cells [I x,I y,I z,I p,I q,I r,B s,B t,B u]]∧ts 2=.ptr 0 0∧ts 3=.ptr 1 0∧ts 5=I i) 3
  ⟨0,by omega,by omega,fun h=>by omega,fun h=>by omega,fun h=>by omega,rfl,rfl,rfl,rfl⟩ ?_
 rintro n ih ts H ⟨i,hi,hi0,k1,k2,k3,rfl,t2,t3,t5⟩
 refine FW.inLoop ?_;have hcs:i=0∨i=1∨i=2∨i=3:=by omega
 rcases hcs with rfl | rfl | rfl | rfl
 ·cases s
  ·skip
   refine goW Q7_ok [] 0 ?_;simp(maxSteps:=2000000)only[push_cast,seval,↓kw2,t2,t3,t5];refine ih (n - 1) (by omega) _ _ ⟨1,by omega,by omega,?_,?_,?_,rfl,t2,t3,rfl⟩
   all_goals
    intro h1 h2
    first | exact absurd h1 (by decide) | (cases h2; done) | exact k1 (by decide) h2 | exact k2 (by decide) h2
  ·by_cases he:p=1
   ·have d1:decide (p=1)=true:=decide_eq_true he;refine goW Q7_ok [] 0 ?_;simp(maxSteps:=2000000)only[push_cast,seval,↓kw2,t2,t3,t5,d1];refine⟨_,rfl,zAa rfl ?_⟩;rw[decide_eq_false]
    intro hq
    obtain⟨_,_,q1,q2,q3,_⟩:=hq
    first | exact q1 rfl he | exact q2 rfl he | exact q3 rfl he
   ·have d1:decide (p=1)=false:=decide_eq_false he;refine goW Q7_ok [] 0 ?_;simp(maxSteps:=2000000)only[push_cast,seval,↓kw2,t2,t3,t5,d1];refine ih (n - 1) (by omega) _ _ ⟨1,by omega,by omega,?_,?_,?_,rfl,t2,t3,rfl⟩
    all_goals
     intro h1 h2
     first | exact absurd h1 (by decide) | exact he | exact k1 (by decide) h2 | exact k2 (by decide) h2
 ·cases t
  ·skip
   refine goW Q7_ok [] 0 ?_;simp(maxSteps:=2000000)only[push_cast,seval,↓kw2,t2,t3,t5];refine ih (n - 1) (by omega) _ _ ⟨2,by omega,by omega,?_,?_,?_,rfl,t2,t3,rfl⟩
   all_goals
    intro h1 h2
    first | exact absurd h1 (by decide) | (cases h2; done) | exact k1 (by decide) h2 | exact k2 (by decide) h2
  ·by_cases he:q=1
   ·have d1:decide (q=1)=true:=decide_eq_true he;refine goW Q7_ok [] 0 ?_;simp(maxSteps:=2000000)only[push_cast,seval,↓kw2,t2,t3,t5,d1];refine⟨_,rfl,zAa rfl ?_⟩;rw[decide_eq_false]
    intro hq
    obtain⟨_,_,q1,q2,q3,_⟩:=hq
    first | exact q1 rfl he | exact q2 rfl he | exact q3 rfl he
   ·have d1:decide (q=1)=false:=decide_eq_false he;refine goW Q7_ok [] 0 ?_;simp(maxSteps:=2000000)only[push_cast,seval,↓kw2,t2,t3,t5,d1];refine ih (n - 1) (by omega) _ _ ⟨2,by omega,by omega,?_,?_,?_,rfl,t2,t3,rfl⟩
    all_goals
     intro h1 h2
     first | exact absurd h1 (by decide) | exact he | exact k1 (by decide) h2 | exact k2 (by decide) h2
 ·cases u
  ·skip
   refine goW Q7_ok [] 0 ?_;simp(maxSteps:=2000000)only[push_cast,seval,↓kw2,t2,t3,t5];refine ih (n - 1) (by omega) _ _ ⟨3,by omega,by omega,?_,?_,?_,rfl,t2,t3,rfl⟩
   all_goals
    intro h1 h2
    first | exact absurd h1 (by decide) | (cases h2; done) | exact k1 (by decide) h2 | exact k2 (by decide) h2
  ·by_cases he:r=1
   ·have d1:decide (r=1)=true:=decide_eq_true he;refine goW Q7_ok [] 0 ?_;simp(maxSteps:=2000000)only[push_cast,seval,↓kw2,t2,t3,t5,d1];refine⟨_,rfl,zAa rfl ?_⟩;rw[decide_eq_false]
    intro hq
    obtain⟨_,_,q1,q2,q3,_⟩:=hq
    first | exact q1 rfl he | exact q2 rfl he | exact q3 rfl he
   ·have d1:decide (r=1)=false:=decide_eq_false he;refine goW Q7_ok [] 0 ?_;simp(maxSteps:=2000000)only[push_cast,seval,↓kw2,t2,t3,t5,d1];refine ih (n - 1) (by omega) _ _ ⟨3,by omega,by omega,?_,?_,?_,rfl,t2,t3,rfl⟩
    all_goals
     intro h1 h2
     first | exact absurd h1 (by decide) | exact he | exact k1 (by decide) h2 | exact k2 (by decide) h2
 ·have k1:=k1 (by omega);have k2:=k2 (by omega);have k3:=k3 (by omega)
  by_cases hb:okB a b c x y z p q r
  ·have d1:=decide_eq_true hb;refine goW Q7_ok [] 0 ?_;simp(maxSteps:=2000000)only[push_cast,seval,↓kw2,t2,t3,t5,d1,eqBox',zCa];refine⟨_,rfl,zAa rfl ?_⟩;exact congrArg (fun q=>AV.c (Value.bool q)) (decide_eq_decide.2 (by
    rw[can_iff,can_iff,can_iff];exact⟨fun ht=>⟨hd,hb,k1,k2,k3,ht⟩,fun hq=>hq.2.2.2.2.2⟩))
  ·have d1:=decide_eq_false hb;refine goW Q7_ok [] 0 ?_;simp(maxSteps:=2000000)only[push_cast,seval,↓kw2,t2,t3,t5,d1,eqBox',zCa];refine⟨_,rfl,zAa rfl ?_⟩;rw[decide_eq_false fun h=>hb h.2.1]
def gmay06:List AV→Option (Prop × AV)
 | [.agg [.c (.int .i64 a),.c (.int .i64 b),.c (.int .i64 c)],.agg [.c (.int .i64 x),.c (.int .i64 y),.c (.int .i64 z),.c (.int .i64 p),.c (.int .i64 q),.c (.int .i64 r),.c (.bool s),.c (.bool t),.c (.bool u)]]=>some (okD a b c,B (decide (okPl a b c x y z p q r s t u)))
 | _=>none
theorem gmay06_ok:∀ args p,gmay06 args=some p→p.1→Pur Tryz.prog GG 55 args p.2:=by
 intro args p hp hc
 unfold gmay06 at hp
 split at hp
 ·cases hp;exact may06 _ _ _ _ _ _ _ _ _ _ _ _ hc
 ·cases hp
attribute [push_cast] gmay06
@[push_cast] def Q8:Tab:=Tab.ext Q7 55 gmay06
theorem Q8_ok:TOk Tryz.prog GG Q8:=TOk.ext Q7_ok gmay06_ok
theorem e29:Ent Tryz.prog 29 Tryz.f29 [] 2:=.mk Tryz.func29 rfl
attribute [push_cast] Tryz.f29
theorem check06(a b c x y z p q r:Int)(s t u:Bool):Pur Tryz.prog GG 29 [.agg [I a,I b,I c],.agg [I x,I y,I z,I p,I q,I r,B s,B t,B u]] (I (pchk a b c x y z p q r s t u)):=by
 refine goQ e29 Q8_ok 0 ?_;simp(maxSteps:=2000000)only[push_cast,seval,↓kw2,zDp];refine⟨fun h=>?_,fun h=>?_⟩
 ·have hd:¬okD a b c:=by simpa using h
  exact⟨_,rfl,zAa rfl (by rw[pchk,ckB,if_neg hd,if_neg (by decide)])⟩
 ·have hd:okD a b c:=by simpa using h
  refine⟨hd,fun h2=>?_,fun h2=>?_⟩
  ·have hp:¬okPl a b c x y z p q r s t u:=by simpa using h2
   refine⟨_,rfl,zAa rfl ?_⟩;rw[pchk,ckB,if_pos hd]
   by_cases hb':okB a b c x y z p q r
   ·rw[if_pos hb',if_pos rfl,if_neg hp]
   ·rw[if_neg hb',if_neg (by decide)]
  ·have hp:okPl a b c x y z p q r s t u:=by simpa using h2
   have hb:ckB a b c x y z p q r=0:=by rw[ckB,if_pos hd,if_pos hp.2.1]
   exact⟨_,rfl,zAa rfl (by rw[pchk,if_pos hb,if_pos hp])⟩
@[push_cast] def g29:List AV→Option (Prop × AV)
 | [.agg [(.c (.int .i64 a)),(.c (.int .i64 b)),(.c (.int .i64 c))],.agg [(.c (.int .i64 x)),(.c (.int .i64 y)),(.c (.int .i64 z)),(.c (.int .i64 p)),(.c (.int .i64 q)),(.c (.int .i64 r)),(.c (.bool s)),(.c (.bool t)),(.c (.bool u))]]=>some (True,I (pchk a b c x y z p q r s t u))
 | _=>none
theorem g29_ok:∀ args p,g29 args=some p→p.1→Pur Tryz.prog GG 29 args p.2:=by
 intro args p hp hc
 unfold g29 at hp
 split at hp
 ·cases hp;exact check06 _ _ _ _ _ _ _ _ _ _ _ _
 ·cases hp
@[push_cast] def Q9:Tab:=Tab.ext Q8 29 g29
theorem Q9_ok:TOk Tryz.prog GG Q9:=TOk.ext Q8_ok g29_ok
theorem flat_le2{α β:Type}{f:α→List β}{k:Nat}:∀ {l:List α},(∀ x∈l,(f x).length≤k)→(l.flatMap f).length≤l.length*k
 | [],_=>by simp
 | x::l,h=>by
  have h1:=h x (by simp);have h2:=flat_le2 fun y hy=>h y (List.mem_cons_of_mem x hy)
  rw[List.flatMap_cons,List.length_append,List.length_cons,Nat.add_mul];omega
theorem boxL_len{a b c:Int}(hd:okD a b c)(x y z p q r:Int):(boxL a b c x y z p q r).length≤4096:=by
 have:=boxN_len a b c x y z p q r (a*b*c).toNat;have hm:=zAy hd;exact Nat.le_trans this (by omega)
theorem tookL_len{a b c:Int}(hd:okD a b c)(k m s:Int)(t:Bool):(tookL a b c k m s t).length≤4096:=by
 have hm:=zAy hd;unfold tookL
 split
 ·simp
 ·rw[taken_is]
  split
  ·exact Nat.le_trans (takN_len ..) (by omega)
  ·simp
def cabF(a b c k base s:Int)(t:Bool)(l:List Int):List Int:=(l.filter fun m=>decide (cooV a b c m k=base)).flatMap fun m=>tookL a b c k m s t
theorem cabF_cons(a b c k base s:Int)(t:Bool)(m:Int)(l:List Int):cabF a b c k base s t (m::l)=(if cooV a b c m k=base then tookL a b c k m s t else [])++cabF a b c k base s t l:=by
 unfold cabF;rw[List.filter_cons]
 by_cases h:cooV a b c m k=base
 ·rw[if_pos h,if_pos (decide_eq_true h),List.flatMap_cons]
 ·rw[if_neg h,if_neg (by simp[h]),List.nil_append]
theorem cabF_len{a b c:Int}(hd:okD a b c)(k base s:Int)(t:Bool)(l:List Int):(cabF a b c k base s t l).length≤l.length*4096:=by
 unfold cabF;refine Nat.le_trans (flat_le2 fun x _=>tookL_len hd k x s t) ?_;exact Nat.mul_le_mul_right _ (List.length_filter_le _ _)
theorem cabL_len{a b c:Int}(hd:okD a b c)(x y z p q r:Int)(s t u:Bool):(cabL a b c x y z p q r s t u).length≤2^26:=by
 have h:=boxL_len hd x y z p q r;have h1:=cabF_len hd 0 x p s (boxL a b c x y z p q r);have h2:=cabF_len hd 1 y q t (boxL a b c x y z p q r);have h3:=cabF_len hd 2 z r u (boxL a b c x y z p q r);show((cabF a b c 0 x p s (boxL a b c x y z p q r))++((cabF a b c 1 y q t (boxL a b c x y z p q r))++(cabF a b c 2 z r u (boxL a b c x y z p q r)))).length≤_;rw[List.length_append,List.length_append];omega
theorem e127:Ent Tryz.prog 127 Tryz.f127 [] 2:=.mk Tryz.func127 rfl
attribute [push_cast] Tryz.f127
theorem cables06{a b c x y z p q r:Int}(s t u:Bool)(hd:okD a b c)(hb:okB a b c x y z p q r):Pur Tryz.prog GG 127 [.agg [I a,I b,I c],.agg [I x,I y,I z,I p,I q,I r,B s,B t,B u]] (frS ((cabL a b c x y z p q r s t u).map IA)):=by
 have hA:=all02_pur hd hb;have hb':=hb;unfold okB ok1 at hb';have hin:∀ m∈boxL a b c x y z p q r,inM a b c m:=fun m hm=>zCn hd hb ((zEn hd hb).1 hm)
 have hbl:=boxL_len hd x y z p q r;have hcl:=cabL_len hd x y z p q r s t u;have hC:cabL a b c x y z p q r s t u=cabF a b c 0 x p s (boxL a b c x y z p q r)++(cabF a b c 1 y q t (boxL a b c x y z p q r)++cabF a b c 2 z r u (boxL a b c x y z p q r)):=rfl
 generalize cabL a b c x y z p q r s t u=C at hC hcl
 generalize boxL a b c x y z p q r=l at hA hin hbl hC
 have hL:IsSl (frS (l.map IA)) (l.map IA):=IsSl.frS _
 generalize frS (l.map IA)=sl at hA hL
 have hlen:=hL.len (P:=Tryz.prog) un60;rw[List.length_map]at hlen;have hidx:=fun(i:Nat) (hi:i < l.length) (H:List AO)=>hL.idx (P:=Tryz.prog) un60 sz3 (i:=(i:Int)) (by rw[List.length_map]; omega) (by omega) H
 obtain⟨rest,h0,h1,h2,h3⟩:∃ rest:Int→List Int,rest 0=C∧rest 1=cabF a b c 1 y q t l++cabF a b c 2 z r u l∧rest 2=cabF a b c 2 z r u l∧rest 3=[] :=
  ⟨fun i=>if i=0 then C else if i=1 then cabF a b c 1 y q t l++cabF a b c 2 z r u l else if i=2 then cabF a b c 2 z r u l else [],rfl,rfl,rfl,rfl⟩
 refine goQ e127 TOk.nil 0 ?_;simp(maxSteps:=2000000)only[push_cast,seval,↓kw2];refine AC.pur hA ?_;refine goN ?_;simp(maxSteps:=2000000)only[push_cast,seval,↓kw2];refine FW.loopInv (fun n ts H=>∃(i:Int) (es:List Int) (o:AV),i+(n:Int)=3∧0≤i∧es++rest i=C∧Own H o (es.map IA)∧zAl o≠some 0∧zAl o≠some 1∧H[0]?=some (.cells [I a,I b,I c])∧H[1]?=some (.cells [I x,I y,I z,I p,I q,I r,B s,B t,B u])∧ts 2=.ptr 0 0∧ts 3=.ptr 1 0∧ts 5=o∧ts 6=sl∧ts 7=I i) 3
  ⟨0,[],_,by omega,by omega,by rw[h0]; rfl,.nil,by simp[zAl],by simp[zAl],rfl,rfl,rfl,rfl,rfl,rfl,rfl⟩ ?_
 rintro n ih ts H ⟨i,es,o,hi,hi0,hes,hown,ho0,ho1,m0,m1,t2,t3,t5,t6,t7⟩
 refine FW.inLoop ?_;have hcs:i=0∨i=1∨i=2∨i=3:=by omega
 rcases hcs with rfl | rfl | rfl | rfl
 ·have hrs:rest 0=cabF a b c 0 x p s l++rest 1:=by simp[h0,h1,h2,h3,hC]
  rw[hrs]at hes;refine goN ?_;simp(maxSteps:=2000000)only[push_cast,seval,↓kw2,m0,m1,t2,t3,t5,t6,t7];refine FW.loopInv (fun n ts H=>∃(k:Nat) (es:List Int) (o:AV),k+n=l.length∧es++(cabF a b c 0 x p s (l.drop k)++rest 1)=C∧Own H o (es.map IA)∧zAl o≠some 0∧zAl o≠some 1∧H[0]?=some (.cells [I a,I b,I c])∧H[1]?=some (.cells [I x,I y,I z,I p,I q,I r,B s,B t,B u])∧ts 2=.ptr 0 0∧ts 3=.ptr 1 0∧ts 5=o∧ts 6=sl∧ts 7=I 0∧ts 8=I (k:Int)) l.length
   ⟨0,es,o,by omega,hes,hown,ho0,ho1,m0,m1,t2,t3,t5,t6,t7,rfl⟩ ?_
  clear hes hown ho0 ho1 m0 m1 t2 t3 t5 t6 t7
  rintro l2 ihl ts H ⟨k,es,o,hk,hes,hown,ho0,ho1,m0,m1,t2,t3,t5,t6,t7,t8⟩
  refine FW.inLoop ?_;have w2:=zAf (n:=(k:Int)+1) (by omega) (by omega);have hl0:=zAb m0;have hl1:=zAb m1
  by_cases hlt:k < l.length
  ·have d1:decide ((k:Int) < (l.length:Int))=true:=decide_eq_true (by omega);have hx:=hidx k hlt;simp only[Int.toNat_natCast]at hx;rw[zAm IA l 0 hlt]at hx;have hmm:=hin (l.getD k 0) (by simp[List.getD,hlt]);rw[zBi 0 hlt,cabF_cons]at hes
   generalize l.getD k 0=m at hx hmm hes
   have hbb:(0≤(k:Int)∧(k:Int) < ((l.map IA).length:Int)):=⟨by omega,by rw[List.length_map]; omega⟩;have hW:=where01 a b c m hmm
   by_cases he:cooV a b c m 0=x
   ·rw[if_pos he,List.append_assoc,← List.append_assoc es]at hes;have d2:=decide_eq_true he;simp only[cooV,if_true,if_neg (by decide:¬(1:Int)=0),if_neg (by decide:¬(2:Int)=0),if_neg (by decide:¬(2:Int)=1)]at d2;have hT:=took05 (k:=0) (s:=p) s (by omega) hmm ⟨by omega,by simp only[dimV,if_true,if_neg (by decide:¬(1:Int)=0),if_neg (by decide:¬(2:Int)=0),if_neg (by decide:¬(2:Int)=1)]; omega⟩;have htl:=zAz hes;rw[List.length_append]at htl;obtain⟨CC,hap,hCC⟩:=aAppF (P:=Tryz.prog) un60 un60 ze3 rfl by3 hown (l:=(tookL a b c 0 m p s).map IA) (fun x hx=>by obtain⟨_,_,rfl⟩:=List.mem_map.1 hx; rfl);refine goN ?_;simp(maxSteps:=2000000)only[push_cast,seval,↓kw2,m0,m1,t2,t3,t5,t6,t7,t8,d1,d2,hlen,hx]
    repeat (first | refine⟨hbb,?_⟩)
    refine⟨_,toVP hW,?_⟩;simp(maxSteps:=2000000)only[push_cast,seval,↓kw2,m0,m1,t2,t3,t5,t6,t7,t8,d1,d2,hlen,hx]
    repeat (first | refine And.intro (by omega) ?_)
    refine⟨_,toVP hT,?_⟩;simp(maxSteps:=2000000)only[push_cast,seval,↓kw2,m0,m1,t2,t3,t5,t6,t7,t8,d1,d2,hlen,hx,hap,w2];refine⟨hCC (by rw[List.length_map,List.length_map]; omega) (by rw[List.length_map,List.length_map]; omega),?_⟩;exact ihl (l2 - 1) (by omega) _ _ ⟨k+1,es++tookL a b c 0 m p s,_,by omega,hes,by rw[List.map_append]; exact apSs_own hown,zCo hl0 ho0,zCo hl1 ho1,(zEl hl0 ho0).trans m0,(zEl hl1 ho1).trans m1,t2,t3,rfl,t6,t7,rfl⟩
   ·rw[if_neg he,List.nil_append]at hes;have d2:=decide_eq_false he;simp only[cooV,if_true,if_neg (by decide:¬(1:Int)=0),if_neg (by decide:¬(2:Int)=0),if_neg (by decide:¬(2:Int)=1)]at d2;refine goN ?_;simp(maxSteps:=2000000)only[push_cast,seval,↓kw2,m0,m1,t2,t3,t5,t6,t7,t8,d1,d2,hlen,hx]
    repeat (first | refine⟨hbb,?_⟩)
    refine⟨_,toVP hW,?_⟩;simp(maxSteps:=2000000)only[push_cast,seval,↓kw2,m0,m1,t2,t3,t5,t6,t7,t8,d1,d2,hlen,hx,w2]
    repeat (first | refine And.intro (by omega) ?_)
    exact ihl (l2 - 1) (by omega) _ _ ⟨k+1,es,o,by omega,hes,hown,ho0,ho1,m0,m1,t2,t3,t5,t6,t7,rfl⟩
  ·have d1:decide ((k:Int) < (l.length:Int))=false:=decide_eq_false (by omega);rw[List.drop_eq_nil_of_le (by omega)]at hes;refine goN ?_;simp(maxSteps:=2000000)only[push_cast,seval,↓kw2,m0,m1,t2,t3,t5,t6,t7,t8,d1,hlen];exact ih (n - 1) (by omega) _ _ ⟨1,es,o,by omega,by omega,hes,hown,ho0,ho1,m0,m1,t2,t3,t5,t6,rfl⟩
 ·have hrs:rest 1=cabF a b c 1 y q t l++rest 2:=by simp[h0,h1,h2,h3,hC]
  rw[hrs]at hes;refine goN ?_;simp(maxSteps:=2000000)only[push_cast,seval,↓kw2,m0,m1,t2,t3,t5,t6,t7];refine FW.loopInv (fun n ts H=>∃(k:Nat) (es:List Int) (o:AV),k+n=l.length∧es++(cabF a b c 1 y q t (l.drop k)++rest 2)=C∧Own H o (es.map IA)∧zAl o≠some 0∧zAl o≠some 1∧H[0]?=some (.cells [I a,I b,I c])∧H[1]?=some (.cells [I x,I y,I z,I p,I q,I r,B s,B t,B u])∧ts 2=.ptr 0 0∧ts 3=.ptr 1 0∧ts 5=o∧ts 6=sl∧ts 7=I 1∧ts 8=I (k:Int)) l.length
   ⟨0,es,o,by omega,hes,hown,ho0,ho1,m0,m1,t2,t3,t5,t6,t7,rfl⟩ ?_
  clear hes hown ho0 ho1 m0 m1 t2 t3 t5 t6 t7
  rintro l2 ihl ts H ⟨k,es,o,hk,hes,hown,ho0,ho1,m0,m1,t2,t3,t5,t6,t7,t8⟩
  refine FW.inLoop ?_;have w2:=zAf (n:=(k:Int)+1) (by omega) (by omega);have hl0:=zAb m0;have hl1:=zAb m1
  by_cases hlt:k < l.length
  ·have d1:decide ((k:Int) < (l.length:Int))=true:=decide_eq_true (by omega);have hx:=hidx k hlt;simp only[Int.toNat_natCast]at hx;rw[zAm IA l 0 hlt]at hx;have hmm:=hin (l.getD k 0) (by simp[List.getD,hlt]);rw[zBi 0 hlt,cabF_cons]at hes
   generalize l.getD k 0=m at hx hmm hes
   have hbb:(0≤(k:Int)∧(k:Int) < ((l.map IA).length:Int)):=⟨by omega,by rw[List.length_map]; omega⟩;have hW:=where01 a b c m hmm
   by_cases he:cooV a b c m 1=y
   ·rw[if_pos he,List.append_assoc,← List.append_assoc es]at hes;have d2:=decide_eq_true he;simp only[cooV,if_true,if_neg (by decide:¬(1:Int)=0),if_neg (by decide:¬(2:Int)=0),if_neg (by decide:¬(2:Int)=1)]at d2;have hT:=took05 (k:=1) (s:=q) t (by omega) hmm ⟨by omega,by simp only[dimV,if_true,if_neg (by decide:¬(1:Int)=0),if_neg (by decide:¬(2:Int)=0),if_neg (by decide:¬(2:Int)=1)]; omega⟩;have htl:=zAz hes;rw[List.length_append]at htl;obtain⟨CC,hap,hCC⟩:=aAppF (P:=Tryz.prog) un60 un60 ze3 rfl by3 hown (l:=(tookL a b c 1 m q t).map IA) (fun x hx=>by obtain⟨_,_,rfl⟩:=List.mem_map.1 hx; rfl);refine goN ?_;simp(maxSteps:=2000000)only[push_cast,seval,↓kw2,m0,m1,t2,t3,t5,t6,t7,t8,d1,d2,hlen,hx]
    repeat (first | refine⟨hbb,?_⟩)
    refine⟨_,toVP hW,?_⟩;simp(maxSteps:=2000000)only[push_cast,seval,↓kw2,m0,m1,t2,t3,t5,t6,t7,t8,d1,d2,hlen,hx]
    repeat (first | refine And.intro (by omega) ?_)
    refine⟨_,toVP hT,?_⟩;simp(maxSteps:=2000000)only[push_cast,seval,↓kw2,m0,m1,t2,t3,t5,t6,t7,t8,d1,d2,hlen,hx,hap,w2];refine⟨hCC (by rw[List.length_map,List.length_map]; omega) (by rw[List.length_map,List.length_map]; omega),?_⟩;exact ihl (l2 - 1) (by omega) _ _ ⟨k+1,es++tookL a b c 1 m q t,_,by omega,hes,by rw[List.map_append]; exact apSs_own hown,zCo hl0 ho0,zCo hl1 ho1,(zEl hl0 ho0).trans m0,(zEl hl1 ho1).trans m1,t2,t3,rfl,t6,t7,rfl⟩
   ·rw[if_neg he,List.nil_append]at hes;have d2:=decide_eq_false he;simp only[cooV,if_true,if_neg (by decide:¬(1:Int)=0),if_neg (by decide:¬(2:Int)=0),if_neg (by decide:¬(2:Int)=1)]at d2;refine goN ?_;simp(maxSteps:=2000000)only[push_cast,seval,↓kw2,m0,m1,t2,t3,t5,t6,t7,t8,d1,d2,hlen,hx]
    repeat (first | refine⟨hbb,?_⟩)
    refine⟨_,toVP hW,?_⟩;simp(maxSteps:=2000000)only[push_cast,seval,↓kw2,m0,m1,t2,t3,t5,t6,t7,t8,d1,d2,hlen,hx,w2]
    repeat (first | refine And.intro (by omega) ?_)
    exact ihl (l2 - 1) (by omega) _ _ ⟨k+1,es,o,by omega,hes,hown,ho0,ho1,m0,m1,t2,t3,t5,t6,t7,rfl⟩
  ·have d1:decide ((k:Int) < (l.length:Int))=false:=decide_eq_false (by omega);rw[List.drop_eq_nil_of_le (by omega)]at hes;refine goN ?_;simp(maxSteps:=2000000)only[push_cast,seval,↓kw2,m0,m1,t2,t3,t5,t6,t7,t8,d1,hlen];exact ih (n - 1) (by omega) _ _ ⟨2,es,o,by omega,by omega,hes,hown,ho0,ho1,m0,m1,t2,t3,t5,t6,rfl⟩
 ·have hrs:rest 2=cabF a b c 2 z r u l++rest 3:=by simp[h0,h1,h2,h3,hC]
  rw[hrs]at hes;refine goN ?_;simp(maxSteps:=2000000)only[push_cast,seval,↓kw2,m0,m1,t2,t3,t5,t6,t7];refine FW.loopInv (fun n ts H=>∃(k:Nat) (es:List Int) (o:AV),k+n=l.length∧es++(cabF a b c 2 z r u (l.drop k)++rest 3)=C∧Own H o (es.map IA)∧zAl o≠some 0∧zAl o≠some 1∧H[0]?=some (.cells [I a,I b,I c])∧H[1]?=some (.cells [I x,I y,I z,I p,I q,I r,B s,B t,B u])∧ts 2=.ptr 0 0∧ts 3=.ptr 1 0∧ts 5=o∧ts 6=sl∧ts 7=I 2∧ts 8=I (k:Int)) l.length
   ⟨0,es,o,by omega,hes,hown,ho0,ho1,m0,m1,t2,t3,t5,t6,t7,rfl⟩ ?_
  clear hes hown ho0 ho1 m0 m1 t2 t3 t5 t6 t7
  rintro l2 ihl ts H ⟨k,es,o,hk,hes,hown,ho0,ho1,m0,m1,t2,t3,t5,t6,t7,t8⟩
  refine FW.inLoop ?_;have w2:=zAf (n:=(k:Int)+1) (by omega) (by omega);have hl0:=zAb m0;have hl1:=zAb m1
  by_cases hlt:k < l.length
  ·have d1:decide ((k:Int) < (l.length:Int))=true:=decide_eq_true (by omega);have hx:=hidx k hlt;simp only[Int.toNat_natCast]at hx;rw[zAm IA l 0 hlt]at hx;have hmm:=hin (l.getD k 0) (by simp[List.getD,hlt]);rw[zBi 0 hlt,cabF_cons]at hes
   generalize l.getD k 0=m at hx hmm hes
   have hbb:(0≤(k:Int)∧(k:Int) < ((l.map IA).length:Int)):=⟨by omega,by rw[List.length_map]; omega⟩;have hW:=where01 a b c m hmm
   by_cases he:cooV a b c m 2=z
   ·rw[if_pos he,List.append_assoc,← List.append_assoc es]at hes;have d2:=decide_eq_true he;simp only[cooV,if_true,if_neg (by decide:¬(1:Int)=0),if_neg (by decide:¬(2:Int)=0),if_neg (by decide:¬(2:Int)=1)]at d2;have hT:=took05 (k:=2) (s:=r) u (by omega) hmm ⟨by omega,by simp only[dimV,if_true,if_neg (by decide:¬(1:Int)=0),if_neg (by decide:¬(2:Int)=0),if_neg (by decide:¬(2:Int)=1)]; omega⟩;have htl:=zAz hes;rw[List.length_append]at htl;obtain⟨CC,hap,hCC⟩:=aAppF (P:=Tryz.prog) un60 un60 ze3 rfl by3 hown (l:=(tookL a b c 2 m r u).map IA) (fun x hx=>by obtain⟨_,_,rfl⟩:=List.mem_map.1 hx; rfl);refine goN ?_;simp(maxSteps:=2000000)only[push_cast,seval,↓kw2,m0,m1,t2,t3,t5,t6,t7,t8,d1,d2,hlen,hx]
    repeat (first | refine⟨hbb,?_⟩)
    refine⟨_,toVP hW,?_⟩;simp(maxSteps:=2000000)only[push_cast,seval,↓kw2,m0,m1,t2,t3,t5,t6,t7,t8,d1,d2,hlen,hx]
    repeat (first | refine And.intro (by omega) ?_)
    refine⟨_,toVP hT,?_⟩;simp(maxSteps:=2000000)only[push_cast,seval,↓kw2,m0,m1,t2,t3,t5,t6,t7,t8,d1,d2,hlen,hx,hap,w2];refine⟨hCC (by rw[List.length_map,List.length_map]; omega) (by rw[List.length_map,List.length_map]; omega),?_⟩;exact ihl (l2 - 1) (by omega) _ _ ⟨k+1,es++tookL a b c 2 m r u,_,by omega,hes,by rw[List.map_append]; exact apSs_own hown,zCo hl0 ho0,zCo hl1 ho1,(zEl hl0 ho0).trans m0,(zEl hl1 ho1).trans m1,t2,t3,rfl,t6,t7,rfl⟩
   ·rw[if_neg he,List.nil_append]at hes;have d2:=decide_eq_false he;simp only[cooV,if_true,if_neg (by decide:¬(1:Int)=0),if_neg (by decide:¬(2:Int)=0),if_neg (by decide:¬(2:Int)=1)]at d2;refine goN ?_;simp(maxSteps:=2000000)only[push_cast,seval,↓kw2,m0,m1,t2,t3,t5,t6,t7,t8,d1,d2,hlen,hx]
    repeat (first | refine⟨hbb,?_⟩)
    refine⟨_,toVP hW,?_⟩;simp(maxSteps:=2000000)only[push_cast,seval,↓kw2,m0,m1,t2,t3,t5,t6,t7,t8,d1,d2,hlen,hx,w2]
    repeat (first | refine And.intro (by omega) ?_)
    exact ihl (l2 - 1) (by omega) _ _ ⟨k+1,es,o,by omega,hes,hown,ho0,ho1,m0,m1,t2,t3,t5,t6,t7,rfl⟩
  ·have d1:decide ((k:Int) < (l.length:Int))=false:=decide_eq_false (by omega);rw[List.drop_eq_nil_of_le (by omega)]at hes;refine goN ?_;simp(maxSteps:=2000000)only[push_cast,seval,↓kw2,m0,m1,t2,t3,t5,t6,t7,t8,d1,hlen];exact ih (n - 1) (by omega) _ _ ⟨3,es,o,by omega,by omega,hes,hown,ho0,ho1,m0,m1,t2,t3,t5,t6,rfl⟩
 ·rw[h3,List.append_nil]at hes;subst hes;refine goN ?_;simp(maxSteps:=2000000)only[push_cast,seval,↓kw2,m0,m1,t2,t3,t5,t6,t7];exact⟨_,rfl,hown.done (zAe IA _ fun _=>rfl)⟩
theorem e89:Ent Tryz.prog 89 Tryz.f89 [] 2:=.mk Tryz.func89 rfl
attribute [push_cast] Tryz.f89
theorem taken06{a b c x y z p q r:Int}(s t u:Bool)(hd:okD a b c)(hb:okB a b c x y z p q r):Pur Tryz.prog GG 89 [.agg [I a,I b,I c],.agg [I x,I y,I z,I p,I q,I r,B s,B t,B u]]
  (.tup [.isl ((ofL (a*b*c) (boxL a b c x y z p q r)).map U),.isl ((ofL (3*(a*b*c)) (cabL a b c x y z p q r s t u)).map U)]):=by
 have hA:=all02_pur hd hb;have hN:=n01 a b c hd;have hK:=cables06 s t u hd hb;have hmu:=zAy hd;have h1:1≤a*b*c:=by
  unfold okD at hd;have:=Int.mul_pos (Int.mul_pos (show 0 < a by omega) (show 0 < b by omega)) (show 0 < c by omega);omega
 have w3:=zAf (n:=3*(a*b*c)) (by omega) (by omega);have hF1:=from_pur (n:=a*b*c) (IsSl.frS ((boxL a b c x y z p q r).map IA)) (by omega) (fun k hk=>(zCn hd hb ((zEn hd hb).1 hk)).2) (by have:=boxL_len hd x y z p q r; omega);have hF2:=from_pur (n:=3*(a*b*c)) (IsSl.frS ((cabL a b c x y z p q r s t u).map IA)) (by omega) (fun k hk=>links_mem hd hb k ((cabL_mem hd hb k).1 hk)) (by have:=cabL_len hd x y z p q r s t u; omega);refine goQ e89 TOk.nil 0 ?_;simp(maxSteps:=2000000)only[push_cast,seval,↓kw2];refine AC.pur hN ?_;refine goN ?_;simp(maxSteps:=2000000)only[push_cast,seval,↓kw2,w3];refine⟨_,toVP hA,?_⟩
 try simp(maxSteps:=2000000)only[push_cast,seval,↓kw2,w3]
 refine⟨_,toVP hF1,?_⟩
 try simp(maxSteps:=2000000)only[push_cast,seval,↓kw2,w3]
 refine⟨_,toVP hK,?_⟩
 try simp(maxSteps:=2000000)only[push_cast,seval,↓kw2,w3]
 refine⟨_,toVP hF2,?_⟩
 try simp(maxSteps:=2000000)only[push_cast,seval,↓kw2,w3]
 exact⟨_,rfl,zAa (by simp[AV.pur,AV.purL]) rfl⟩
theorem e48:Ent Tryz.prog 48 Tryz.f48 [] 4:=.mk Tryz.func48 rfl
attribute [push_cast] Tryz.f48
theorem clear11{a b c:Int}{s r:AV}{xs ys:List Int}(hs:IsSl s (xs.map U))(hr:IsSl r (ys.map U))(hx:∀ w∈xs,inU w)(hy:∀ w∈ys,inU w)(hl:xs.length≤2^12)(hl2:ys.length≤2^12){X:Plc}(hk:X.ok a b c) :
  Pur Tryz.prog GG 48 [.agg [I a,I b,I c],X.av,s,r] (B (zEa a b c xs ys X)):=by
 obtain⟨x,y,z,p,q,r',s',t,u⟩:=X;have hd:=hk.1;have hb:=hk.2.1;have hps:=hs.pur (zAe U _ fun _=>rfl);have hpr:=hr.pur (zAe U _ fun _=>rfl);have hmv:zAg a b c=a*b*c:=by rw[zAg,if_pos hd]
 have hmu:=zAy hd;have hT:=taken06 s' t u hd hb;have e:=hold_ref xs ys hk;rw[hmv]at e;have i1:=zCu (a*b*c) (boxL a b c x y z p q r');have i2:=zCu (3*(a*b*c)) (cabL a b c x y z p q r' s' t u);have l1:=zBf (a*b*c) (boxL a b c x y z p q r');have l2:=zBf (3*(a*b*c)) (cabL a b c x y z p q r' s' t u);have hw:∀ n:Int,n≤12288→(zAs n).toNat≤192:=fun n hn=>by unfold zAs; split <;> omega
 have hw1:=hw (a*b*c) (by omega);have hw2:=hw (3*(a*b*c)) (by omega);have hM1:=meets_pur (.inl rfl) hs i1 hx (by omega) hl;have hM2:=meets_pur (.inl rfl) hr i2 hy (by omega) hl2;rw[← e];simp only at hM1 hM2 ⊢
 generalize (ofL (a*b*c) (boxL a b c x y z p q r'))=A1 at *
 generalize (ofL (3*(a*b*c)) (cabL a b c x y z p q r' s' t u))=A2 at *
 show Pur Tryz.prog GG 48 [.agg [I a,I b,I c],PL x y z p q r' s' t u,s,r] _;refine goQ e48 TOk.nil 0 ?_ (by simp[AV.purL,AV.pur,hps,hpr]);simp(maxSteps:=2000000)only[push_cast,seval,↓kw2];refine AC.pur hT ?_;refine goN ?_;simp(maxSteps:=2000000)only[push_cast,seval,↓kw2];refine AC.pur hM1 ?_;cases h1:meetB A1 xs
 ·skip
  refine goN ?_;simp(maxSteps:=2000000)only[push_cast,seval,↓kw2];refine AC.pur hM2 ?_;refine goN ?_;simp(maxSteps:=2000000)only[push_cast,seval,↓kw2];exact⟨_,rfl,zAa rfl (by simp)⟩
 ·skip
  refine goN ?_;simp(maxSteps:=2000000)only[push_cast,seval,↓kw2];exact⟨_,rfl,zAa rfl (by simp)⟩
theorem e44:Ent Tryz.prog 44 Tryz.f44 [] 1:=.mk Tryz.func44 rfl
attribute [push_cast] Tryz.f44
theorem may04(p q r:Int)(s t u v:Bool):Pur Tryz.prog GG 44 [WT p q r s t u v] (B (decide (okW p q r))):=by
 refine goQ e44 Q9_ok 5 ?_;simp(maxSteps:=2000000)only[push_cast,seval,↓kw2]
 repeat' (first | apply And.intro | intro _)
 all_goals
  refine⟨_,rfl,zAa rfl ?_⟩;simp only[AV.c.injEq,Value.bool.injEq]
  first | exact(decide_eq_true (by unfold okW; omega)).symm | exact(decide_eq_false (by unfold okW; omega)).symm
@[push_cast] def g44:List AV→Option (Prop × AV)
 | [.agg [(.c (.int .i64 p)),(.c (.int .i64 q)),(.c (.int .i64 r)),(.c (.bool s)),(.c (.bool t)),(.c (.bool u)),(.c (.bool v))]]=>some (True,B (decide (okW p q r)))
 | _=>none
theorem g44_ok:∀ args p,g44 args=some p→p.1→Pur Tryz.prog GG 44 args p.2:=by
 intro args p hp hc
 unfold g44 at hp
 split at hp
 ·cases hp;exact may04 _ _ _ _ _ _ _
 ·cases hp
@[push_cast] def Q10:Tab:=Tab.ext Q9 44 g44
theorem Q10_ok:TOk Tryz.prog GG Q10:=TOk.ext Q9_ok g44_ok
theorem e152:Ent Tryz.prog 152 Tryz.f152 [] 1:=.mk Tryz.func152 rfl
attribute [push_cast] Tryz.f152
theorem flag04(s:Bool):Pur Tryz.prog GG 152 [B s] (I (bitV s)):=by
 refine goQ e152 Q10_ok 0 ?_;simp(maxSteps:=2000000)only[push_cast,seval,↓kw2,zDp];exact⟨fun h=>⟨_,rfl,zAa rfl (by rw[bitV,if_pos h])⟩,fun h=>⟨_,rfl,zAa rfl (by rw[bitV,if_neg (by simp[h])])⟩⟩
@[push_cast] def g152:List AV→Option (Prop × AV)
 | [(.c (.bool s))]=>some (True,I (bitV s))
 | _=>none
theorem g152_ok:∀ args p,g152 args=some p→p.1→Pur Tryz.prog GG 152 args p.2:=by
 intro args p hp hc
 unfold g152 at hp
 split at hp
 ·cases hp;exact flag04 _
 ·cases hp
@[push_cast] def Q11:Tab:=Tab.ext Q10 152 g152
theorem zEq:TOk Tryz.prog GG Q11:=TOk.ext Q10_ok g152_ok
def zEt(x y:Wnt):Bool :=
 if x.p=y.p then if x.q=y.q then if x.r=y.r then if x.s=y.s then if x.t=y.t then if x.u=y.u then false else y.u else y.t else y.s else decide (x.r < y.r) else decide (x.q < y.q) else decide (x.p < y.p)
theorem bv0:bitV false=0:=rfl
theorem bv1:bitV true=1:=rfl
theorem e142:Ent Tryz.prog 142 Tryz.f142 [] 2:=.mk Tryz.func142 rfl
attribute [push_cast] Tryz.f142
theorem less04(X Y:Wnt):Pur Tryz.prog GG 142 [X.av,Y.av] (B (zEt X Y)):=by
 obtain⟨p,q,r,s,t,u,v⟩:=X;obtain⟨p',q',r',s',t',u',v'⟩:=Y;show Pur Tryz.prog GG 142 [WT p q r s t u v,WT p' q' r' s' t' u' v'] _;unfold zEt;simp only
 by_cases e0:p=p'
 ·subst e0;rw[if_pos rfl];have d0:decide (p≠p)=false:=by simp
  by_cases e1:q=q'
  ·subst e1;rw[if_pos rfl];have d1:decide (q≠q)=false:=by simp
   by_cases e2:r=r'
   ·subst e2;rw[if_pos rfl];have d2:decide (r≠r)=false:=by simp
    by_cases e3:s=s'
    ·subst e3;rw[if_pos rfl]
     by_cases e4:t=t'
     ·subst e4;rw[if_pos rfl]
      by_cases e5:u=u'
      ·subst e5;rw[if_pos rfl];refine goQ e142 zEq 8 ?_;simp(maxSteps:=2000000)only[push_cast,seval,↓kw2,zEz,zEw,zEy,zEx,bne_self_eq_false,bv0,bv1,d0,d1,d2];exact⟨_,rfl,zAa rfl rfl⟩
      ·rw[if_neg e5];cases u <;> cases u' <;> first | exact absurd rfl e5 | skip
       all_goals
        refine goQ e142 zEq 8 ?_;simp(maxSteps:=2000000)only[push_cast,seval,↓kw2,zEz,zEw,zEy,zEx,bne_self_eq_false,bv0,bv1,d0,d1,d2];exact⟨_,rfl,zAa rfl rfl⟩
     ·rw[if_neg e4];cases t <;> cases t' <;> first | exact absurd rfl e4 | skip
      all_goals
       refine goQ e142 zEq 8 ?_;simp(maxSteps:=2000000)only[push_cast,seval,↓kw2,zEz,zEw,zEy,zEx,bne_self_eq_false,bv0,bv1,d0,d1,d2];exact⟨_,rfl,zAa rfl rfl⟩
    ·rw[if_neg e3];cases s <;> cases s' <;> first | exact absurd rfl e3 | skip
     all_goals
      refine goQ e142 zEq 8 ?_;simp(maxSteps:=2000000)only[push_cast,seval,↓kw2,zEz,zEw,zEy,zEx,bne_self_eq_false,bv0,bv1,d0,d1,d2];exact⟨_,rfl,zAa rfl rfl⟩
   ·rw[if_neg e2];have d2:decide (r≠r')=true:=by simp[e2]
    refine goQ e142 zEq 8 ?_;simp(maxSteps:=2000000)only[push_cast,seval,↓kw2,zEz,zEw,zEy,zEx,bne_self_eq_false,bv0,bv1,d0,d1,d2];exact⟨_,rfl,zAa rfl rfl⟩
  ·rw[if_neg e1];have d1:decide (q≠q')=true:=by simp[e1]
   refine goQ e142 zEq 8 ?_;simp(maxSteps:=2000000)only[push_cast,seval,↓kw2,zEz,zEw,zEy,zEx,bne_self_eq_false,bv0,bv1,d0,d1];exact⟨_,rfl,zAa rfl rfl⟩
 ·rw[if_neg e0];have d0:decide (p≠p')=true:=by simp[e0]
  refine goQ e142 zEq 8 ?_;simp(maxSteps:=2000000)only[push_cast,seval,↓kw2,zEz,zEw,zEy,zEx,bne_self_eq_false,bv0,bv1,d0];exact⟨_,rfl,zAa rfl rfl⟩
theorem e124:Ent Tryz.prog 124 Tryz.f124 [] 2:=.mk Tryz.func124 rfl
attribute [push_cast] Tryz.f124
theorem less12(X Y:Plc):Pur Tryz.prog GG 124 [X.av,Y.av] (B (zEo X Y)):=by
 obtain⟨x,y,z,p,q,r,s,t,u⟩:=X;obtain⟨x',y',z',p',q',r',s',t',u'⟩:=Y;show Pur Tryz.prog GG 124 [PL x y z p q r s t u,PL x' y' z' p' q' r' s' t' u'] _;unfold zEo;simp only
 by_cases e0:p=p'
 ·subst e0;rw[if_pos rfl];have d0:decide (p≠p)=false:=by simp
  by_cases e1:q=q'
  ·subst e1;rw[if_pos rfl];have d1:decide (q≠q)=false:=by simp
   by_cases e2:r=r'
   ·subst e2;rw[if_pos rfl];have d2:decide (r≠r)=false:=by simp
    by_cases e3:s=s'
    ·subst e3;rw[if_pos rfl]
     by_cases e4:t=t'
     ·subst e4;rw[if_pos rfl]
      by_cases e5:u=u'
      ·subst e5;rw[if_pos rfl];refine goQ e124 zEq 8 ?_;simp(maxSteps:=2000000)only[push_cast,seval,↓kw2,zEz,zEw,zEy,zEx,bne_self_eq_false,d0,d1,d2];exact⟨_,rfl,zAa rfl rfl⟩
      ·rw[if_neg e5];cases u <;> cases u' <;> first | exact absurd rfl e5 | skip
       all_goals
        refine goQ e124 zEq 8 ?_;simp(maxSteps:=2000000)only[push_cast,seval,↓kw2,zEz,zEw,zEy,zEx,bne_self_eq_false,d0,d1,d2];exact⟨_,rfl,zAa rfl rfl⟩
     ·rw[if_neg e4];cases t <;> cases t' <;> first | exact absurd rfl e4 | skip
      all_goals
       refine goQ e124 zEq 8 ?_;simp(maxSteps:=2000000)only[push_cast,seval,↓kw2,zEz,zEw,zEy,zEx,bne_self_eq_false,d0,d1,d2];exact⟨_,rfl,zAa rfl rfl⟩
    ·rw[if_neg e3];cases s <;> cases s' <;> first | exact absurd rfl e3 | skip
     all_goals
      refine goQ e124 zEq 8 ?_;simp(maxSteps:=2000000)only[push_cast,seval,↓kw2,zEz,zEw,zEy,zEx,bne_self_eq_false,d0,d1,d2];exact⟨_,rfl,zAa rfl rfl⟩
   ·rw[if_neg e2];have d2:decide (r≠r')=true:=by simp[e2]
    refine goQ e124 zEq 8 ?_;simp(maxSteps:=2000000)only[push_cast,seval,↓kw2,zEz,zEw,zEy,zEx,bne_self_eq_false,d0,d1,d2];exact⟨_,rfl,zAa rfl rfl⟩
  ·rw[if_neg e1];have d1:decide (q≠q')=true:=by simp[e1]
   refine goQ e124 zEq 8 ?_;simp(maxSteps:=2000000)only[push_cast,seval,↓kw2,zEz,zEw,zEy,zEx,bne_self_eq_false,d0,d1];exact⟨_,rfl,zAa rfl rfl⟩
 ·rw[if_neg e0];have d0:decide (p≠p')=true:=by simp[e0]
  refine goQ e124 zEq 8 ?_;simp(maxSteps:=2000000)only[push_cast,seval,↓kw2,zEz,zEw,zEy,zEx,bne_self_eq_false,d0];exact⟨_,rfl,zAa rfl rfl⟩
theorem Wnt.eqT0(p q r p' q' r':Int)(s t u v s' t' u' v':Bool):aEqS Tryz.prog 26 (WT p q r s t u v) (WT p' q' r' s' t' u' v') =
  some (((p==p'&&(q==q'&&(r==r'&&true)))&&((s==s'&&(t==t'&&(u==u'&&true)))&&(v==v'&&true)))):=by kernel_rfl
theorem Wnt.eqT(a b:Wnt):aEqS Tryz.prog 26 a.av b.av=some (decide (a=b)):=by
 obtain⟨p,q,r,s,t,u,v⟩:=a;obtain⟨p',q',r',s',t',u',v'⟩:=b;unfold Wnt.av;rw[Wnt.eqT0,Option.some.injEq,Bool.eq_iff_iff,decide_eq_true_iff];simp[and_assoc]
theorem outL_len{α:Type}(less:α→α→Bool)(p:α):∀(l:List α) (d:Bool),(outL less p l d).length≤l.length+1
 | [],d=>by unfold outL; split <;> simp
 | y::l,d=>by
  have h1:=outL_len less p l true;have h2:=outL_len less p l d;unfold outL
  split
  ·rw[outL_true]at h1 ⊢;simp
  ·simp only[List.length_cons]; omega
theorem outL_f{α:Type}(less:α→α→Bool)(p y:α)(l:List α):outL less p (y::l) false=if less p y=true then p::y::outL less p l true else y::outL less p l false:=by
 rw[outL];simp
theorem outL_t{α:Type}(less:α→α→Bool)(p y:α)(l:List α):outL less p (y::l) true=y::outL less p l true:=by
 rw[outL];simp
theorem e123:Ent Tryz.prog 123 Tryz.f123 [] 2:=.mk Tryz.func123 rfl
attribute [push_cast] Tryz.f123
theorem put04{l:List Wnt}(x:Wnt)(hl:l.length≤2^19):Pur Tryz.prog GG 123 [frS (l.map Wnt.av),x.av] (frS ((putL zEt l x).map Wnt.av)):=by
 have hL:IsSl (frS (l.map Wnt.av)) (l.map Wnt.av):=IsSl.frS _;have hpu:=hL.pur (zAe Wnt.av _ Wnt.pur)
 generalize hsl:frS (l.map Wnt.av)=sl at hL hpu
 have hlen:=hL.len (P:=Tryz.prog) un103;rw[List.length_map]at hlen;have hidx:=fun(i:Nat) (hi:i < l.length) (H:List AO)=>hL.idx (P:=Tryz.prog) un103 sz26 (i:=(i:Int)) (by rw[List.length_map]; omega) (by omega) H
 have hol:=outL_len zEt x l false;show Pur Tryz.prog GG 123 [sl,.agg [I x.p,I x.q,I x.r,B x.s,B x.t,B x.u,B x.v]] _;refine goQ e123 TOk.nil 0 ?_ (by simp[AV.purL,AV.pur,hpu]);simp(maxSteps:=2000000)only[push_cast,seval,↓kw2];refine FW.loopInv (fun n ts H=>∃(i:Nat) (es:List Wnt) (o:AV) (d:Bool),i+n=l.length∧(∀ y∈l.take i,¬y=x)∧es++outL zEt x (l.drop i) d=outL zEt x l false∧OwnK 7 H o (es.map Wnt.av)∧zAl o≠some 0∧H[0]?=some (.cells [I x.p,I x.q,I x.r,B x.s,B x.t,B x.u,B x.v])∧ts 0=sl∧ts 3=.ptr 0 0∧ts 5=o∧ts 6=B d∧ts 7=I (i:Int)) l.length
  ⟨0,[],_,false,by omega,by simp,rfl,.nil,by simp[zAl],rfl,rfl,rfl,rfl,rfl,rfl⟩ ?_
 rintro n ih ts H ⟨i,es,o,d,hi,hne,hes,hown,ho0,m0,t0,t3,t5,t6,t7⟩
 refine FW.inLoop ?_;have w2:=zAf (n:=(i:Int)+1) (by omega) (by omega);have hl0:=zAb m0;have hap:=fun v=>zFg (P:=Tryz.prog) (k:=7) un103 un103 ze26 rfl by26 hown v
 have hle:=zAz hes;have hcx:=Wnt.cells x
 by_cases hlt:i < l.length
 ·have d1:decide ((i:Int) < (l.length:Int))=true:=decide_eq_true (by omega);have hxi:=hidx i hlt;simp only[Int.toNat_natCast]at hxi;rw[zAm Wnt.av l default hlt]at hxi;rw[zBi default hlt]at hes;have htk:=zBn default hlt;have hmem:l.getD i default∈l:=by simp[List.getD,hlt]
  generalize l.getD i default=y at hxi hes htk hmem
  have hcy:=Wnt.cells y;have heq:=Wnt.eqT y x;have hbb:(0≤(i:Int)∧(i:Int) < ((l.map Wnt.av).length:Int)):=⟨by omega,by rw[List.length_map]; omega⟩
  by_cases he:y=x
  ·rw[decide_eq_true he]at heq;simp only[Wnt.av]at heq;refine goN ?_;simp(maxSteps:=2000000)only[push_cast,seval,↓kw2,m0,t0,t3,t5,t6,t7,d1,hlen,hxi,hcy,heq,zCa]
   repeat (first | refine⟨hbb,?_⟩)
   exact⟨_,rfl,zAa hpu (by rw[putL,if_pos (by rw[← he]; exact hmem)]; exact hsl.symm)⟩
  ·rw[decide_eq_false he]at heq;simp only[Wnt.av]at heq;have hne':∀ z∈l.take (i+1),¬z=x:=fun z hz=>by
    rw[htk,List.mem_append,List.mem_singleton]at hz
    rcases hz with hz | rfl
    ·exact hne z hz
    ·exact he
   cases d
   ·rw[outL_f]at hes;refine goN ?_;simp(maxSteps:=2000000)only[push_cast,seval,↓kw2,m0,t0,t3,t5,t6,t7,d1,hlen,hxi,hcy,heq,zCa]
    repeat (first | refine⟨hbb,?_⟩)
    refine⟨_,toVP (less04 x y),?_⟩;cases hls:zEt x y
    ·rw[hls,if_neg (by decide)]at hes;simp(maxSteps:=2000000)only[push_cast,seval,↓kw2,m0,t0,t3,t5,t6,t7,d1,hlen,hxi,hcy,zCa,hap,w2]
     repeat (first | refine⟨hbb,?_⟩ | refine⟨zBq (by rw[List.length_map]; omega) (by decide),?_⟩)
     exact ih (n - 1) (by omega) _ _ ⟨i+1,es++[y],_,false,by omega,hne',by rw[List.append_assoc]; exact hes,by rw[List.map_append]; exact apHk_own,zEc (by omega),(zBe hl0 ho0).trans m0,t0,t3,rfl,t6,rfl⟩
    ·rw[hls,if_pos rfl]at hes;have m0':=(zBe (k:=7) (H:=H) (s:=o) (es:=es.map Wnt.av) (v:=.agg [I x.p,I x.q,I x.r,B x.s,B x.t,B x.u,B x.v]) hl0 ho0).trans m0;have hap2:=fun v=>zFg (P:=Tryz.prog) (k:=7) un103 un103 ze26 rfl by26 (apHk_own (k:=7) (H:=H) (s:=o) (es:=es.map Wnt.av) (v:=.agg [I x.p,I x.q,I x.r,B x.s,B x.t,B x.u,B x.v])) v
     have hl2:=apHk_length (k:=7) (H:=H) (s:=o) (es:=es.map Wnt.av) (v:=.agg [I x.p,I x.q,I x.r,B x.s,B x.t,B x.u,B x.v]);have hown3:=apHk_own (k:=7) (H:=apHk 7 H o (es.map Wnt.av) (.agg [I x.p,I x.q,I x.r,B x.s,B x.t,B x.u,B x.v])) (s:=.sl (H.length+1) 0 ((es.map Wnt.av).length+1) ((es.map Wnt.av).length+1)) (es:=es.map Wnt.av++[.agg [I x.p,I x.q,I x.r,B x.s,B x.t,B x.u,B x.v]]) (v:=y.av);rw[List.length_append,List.length_singleton]at hown3;simp(maxSteps:=2000000)only[push_cast,seval,↓kw2,m0,m0',t0,t3,t5,t6,t7,d1,hlen,hxi,hcy,zCa,hap,hap2,w2]
     repeat (first | refine⟨hbb,?_⟩ | refine⟨zBq (by first | (rw[List.length_map]; omega) | (rw[List.length_append,List.length_map,List.length_singleton]; omega)) (by decide),?_⟩)
     exact ih (n - 1) (by omega) _ _ ⟨i+1,es++[x,y],_,true,by omega,hne',by rw[List.append_assoc]; exact hes,by rw[List.map_append,show [x,y].map Wnt.av=[x.av]++[y.av] from rfl,← List.append_assoc]; exact hown3,zEc (by omega),(zBe (by omega) (zEc (by omega))).trans m0',t0,t3,rfl,rfl,rfl⟩
   ·rw[outL_t]at hes;refine goN ?_;simp(maxSteps:=2000000)only[push_cast,seval,↓kw2,m0,t0,t3,t5,t6,t7,d1,hlen,hxi,hcy,heq,zCa,hap,w2]
    repeat (first | refine⟨hbb,?_⟩ | refine⟨zBq (by rw[List.length_map]; omega) (by decide),?_⟩)
    exact ih (n - 1) (by omega) _ _ ⟨i+1,es++[y],_,true,by omega,hne',by rw[List.append_assoc]; exact hes,by rw[List.map_append]; exact apHk_own,zEc (by omega),(zBe hl0 ho0).trans m0,t0,t3,rfl,t6,rfl⟩
 ·have d1:decide ((i:Int) < (l.length:Int))=false:=decide_eq_false (by omega);rw[List.drop_eq_nil_of_le (by omega)]at hes;rw[List.take_of_length_le (by omega)]at hne;have hput:putL zEt l x=outL zEt x l false:=by rw[putL,if_neg (fun h=>hne x h rfl)]
  rw[hput,← hes];cases d
  ·skip
   refine goN ?_;simp(maxSteps:=2000000)only[push_cast,seval,↓kw2,m0,t0,t3,t5,t6,t7,d1,hlen,hap]
   repeat (first | refine⟨zBq (by rw[List.length_map]; omega) (by decide),?_⟩)
   refine⟨_,rfl,2,?_⟩;rw[show outL zEt x [] false=[x] from rfl,List.map_append];exact apHk_own.frz (by
    have:=zAe Wnt.av (es++[x]) Wnt.pur;rw[List.map_append]at this;exact this)
  ·skip
   refine goN ?_;simp(maxSteps:=2000000)only[push_cast,seval,↓kw2,m0,t0,t3,t5,t6,t7,d1,hlen];refine⟨_,rfl,2,?_⟩;rw[show outL zEt x [] true=[] from rfl,List.append_nil];exact hown.frz (zAe Wnt.av _ Wnt.pur)
theorem e88:Ent Tryz.prog 88 Tryz.f88 [] 2:=.mk Tryz.func88 rfl
attribute [push_cast] Tryz.f88
theorem put12{l:List Plc}(x:Plc)(hl:l.length≤2^19):Pur Tryz.prog GG 88 [frS (l.map Plc.av),x.av] (frS ((putL zEo l x).map Plc.av)):=by
 have hL:IsSl (frS (l.map Plc.av)) (l.map Plc.av):=IsSl.frS _;have hpu:=hL.pur (zAe Plc.av _ Plc.pur)
 generalize hsl:frS (l.map Plc.av)=sl at hL hpu
 have hlen:=hL.len (P:=Tryz.prog) un39;rw[List.length_map]at hlen;have hidx:=fun(i:Nat) (hi:i < l.length) (H:List AO)=>hL.idx (P:=Tryz.prog) un39 sz32 (i:=(i:Int)) (by rw[List.length_map]; omega) (by omega) H
 have hol:=outL_len zEo x l false;show Pur Tryz.prog GG 88 [sl,.agg [I x.x,I x.y,I x.z,I x.p,I x.q,I x.r,B x.s,B x.t,B x.u]] _;refine goQ e88 TOk.nil 0 ?_ (by simp[AV.purL,AV.pur,hpu]);simp(maxSteps:=2000000)only[push_cast,seval,↓kw2];refine FW.loopInv (fun n ts H=>∃(i:Nat) (es:List Plc) (o:AV) (d:Bool),i+n=l.length∧(∀ y∈l.take i,¬y=x)∧es++outL zEo x (l.drop i) d=outL zEo x l false∧OwnK 9 H o (es.map Plc.av)∧zAl o≠some 0∧H[0]?=some (.cells [I x.x,I x.y,I x.z,I x.p,I x.q,I x.r,B x.s,B x.t,B x.u])∧ts 0=sl∧ts 3=.ptr 0 0∧ts 5=o∧ts 6=B d∧ts 7=I (i:Int)) l.length
  ⟨0,[],_,false,by omega,by simp,rfl,.nil,by simp[zAl],rfl,rfl,rfl,rfl,rfl,rfl⟩ ?_
 rintro n ih ts H ⟨i,es,o,d,hi,hne,hes,hown,ho0,m0,t0,t3,t5,t6,t7⟩
 refine FW.inLoop ?_;have w2:=zAf (n:=(i:Int)+1) (by omega) (by omega);have hl0:=zAb m0;have hap:=fun v=>zFg (P:=Tryz.prog) (k:=9) un39 un39 ze32 rfl by32 hown v
 have hle:=zAz hes;have hcx:=Plc.cells x
 by_cases hlt:i < l.length
 ·have d1:decide ((i:Int) < (l.length:Int))=true:=decide_eq_true (by omega);have hxi:=hidx i hlt;simp only[Int.toNat_natCast]at hxi;rw[zAm Plc.av l default hlt]at hxi;rw[zBi default hlt]at hes;have htk:=zBn default hlt;have hmem:l.getD i default∈l:=by simp[List.getD,hlt]
  generalize l.getD i default=y at hxi hes htk hmem
  have hcy:=Plc.cells y;have heq:=Plc.eq y x;have hbb:(0≤(i:Int)∧(i:Int) < ((l.map Plc.av).length:Int)):=⟨by omega,by rw[List.length_map]; omega⟩
  by_cases he:y=x
  ·rw[decide_eq_true he]at heq;simp only[Plc.av]at heq;refine goN ?_;simp(maxSteps:=2000000)only[push_cast,seval,↓kw2,m0,t0,t3,t5,t6,t7,d1,hlen,hxi,hcy,heq,zCa]
   repeat (first | refine⟨hbb,?_⟩)
   exact⟨_,rfl,zAa hpu (by rw[putL,if_pos (by rw[← he]; exact hmem)]; exact hsl.symm)⟩
  ·rw[decide_eq_false he]at heq;simp only[Plc.av]at heq;have hne':∀ z∈l.take (i+1),¬z=x:=fun z hz=>by
    rw[htk,List.mem_append,List.mem_singleton]at hz
    rcases hz with hz | rfl
    ·exact hne z hz
    ·exact he
   cases d
   ·rw[outL_f]at hes;refine goN ?_;simp(maxSteps:=2000000)only[push_cast,seval,↓kw2,m0,t0,t3,t5,t6,t7,d1,hlen,hxi,hcy,heq,zCa]
    repeat (first | refine⟨hbb,?_⟩)
    refine⟨_,toVP (less12 x y),?_⟩;cases hls:zEo x y
    ·rw[hls,if_neg (by decide)]at hes;simp(maxSteps:=2000000)only[push_cast,seval,↓kw2,m0,t0,t3,t5,t6,t7,d1,hlen,hxi,hcy,zCa,hap,w2]
     repeat (first | refine⟨hbb,?_⟩ | refine⟨zBq (by rw[List.length_map]; omega) (by decide),?_⟩)
     exact ih (n - 1) (by omega) _ _ ⟨i+1,es++[y],_,false,by omega,hne',by rw[List.append_assoc]; exact hes,by rw[List.map_append]; exact apHk_own,zEc (by omega),(zBe hl0 ho0).trans m0,t0,t3,rfl,t6,rfl⟩
    ·rw[hls,if_pos rfl]at hes;have m0':=(zBe (k:=9) (H:=H) (s:=o) (es:=es.map Plc.av) (v:=.agg [I x.x,I x.y,I x.z,I x.p,I x.q,I x.r,B x.s,B x.t,B x.u]) hl0 ho0).trans m0;have hap2:=fun v=>zFg (P:=Tryz.prog) (k:=9) un39 un39 ze32 rfl by32 (apHk_own (k:=9) (H:=H) (s:=o) (es:=es.map Plc.av) (v:=.agg [I x.x,I x.y,I x.z,I x.p,I x.q,I x.r,B x.s,B x.t,B x.u])) v
     have hl2:=apHk_length (k:=9) (H:=H) (s:=o) (es:=es.map Plc.av) (v:=.agg [I x.x,I x.y,I x.z,I x.p,I x.q,I x.r,B x.s,B x.t,B x.u]);have hown3:=apHk_own (k:=9) (H:=apHk 9 H o (es.map Plc.av) (.agg [I x.x,I x.y,I x.z,I x.p,I x.q,I x.r,B x.s,B x.t,B x.u])) (s:=.sl (H.length+1) 0 ((es.map Plc.av).length+1) ((es.map Plc.av).length+1)) (es:=es.map Plc.av++[.agg [I x.x,I x.y,I x.z,I x.p,I x.q,I x.r,B x.s,B x.t,B x.u]]) (v:=y.av);rw[List.length_append,List.length_singleton]at hown3;simp(maxSteps:=2000000)only[push_cast,seval,↓kw2,m0,m0',t0,t3,t5,t6,t7,d1,hlen,hxi,hcy,zCa,hap,hap2,w2]
     repeat (first | refine⟨hbb,?_⟩ | refine⟨zBq (by first | (rw[List.length_map]; omega) | (rw[List.length_append,List.length_map,List.length_singleton]; omega)) (by decide),?_⟩)
     exact ih (n - 1) (by omega) _ _ ⟨i+1,es++[x,y],_,true,by omega,hne',by rw[List.append_assoc]; exact hes,by rw[List.map_append,show [x,y].map Plc.av=[x.av]++[y.av] from rfl,← List.append_assoc]; exact hown3,zEc (by omega),(zBe (by omega) (zEc (by omega))).trans m0',t0,t3,rfl,rfl,rfl⟩
   ·rw[outL_t]at hes;refine goN ?_;simp(maxSteps:=2000000)only[push_cast,seval,↓kw2,m0,t0,t3,t5,t6,t7,d1,hlen,hxi,hcy,heq,zCa,hap,w2]
    repeat (first | refine⟨hbb,?_⟩ | refine⟨zBq (by rw[List.length_map]; omega) (by decide),?_⟩)
    exact ih (n - 1) (by omega) _ _ ⟨i+1,es++[y],_,true,by omega,hne',by rw[List.append_assoc]; exact hes,by rw[List.map_append]; exact apHk_own,zEc (by omega),(zBe hl0 ho0).trans m0,t0,t3,rfl,t6,rfl⟩
 ·have d1:decide ((i:Int) < (l.length:Int))=false:=decide_eq_false (by omega);rw[List.drop_eq_nil_of_le (by omega)]at hes;rw[List.take_of_length_le (by omega)]at hne;have hput:putL zEo l x=outL zEo x l false:=by rw[putL,if_neg (fun h=>hne x h rfl)]
  rw[hput,← hes];cases d
  ·skip
   refine goN ?_;simp(maxSteps:=2000000)only[push_cast,seval,↓kw2,m0,t0,t3,t5,t6,t7,d1,hlen,hap]
   repeat (first | refine⟨zBq (by rw[List.length_map]; omega) (by decide),?_⟩)
   refine⟨_,rfl,2,?_⟩;rw[show outL zEo x [] false=[x] from rfl,List.map_append];exact apHk_own.frz (by
    have:=zAe Plc.av (es++[x]) Plc.pur;rw[List.map_append]at this;exact this)
  ·skip
   refine goN ?_;simp(maxSteps:=2000000)only[push_cast,seval,↓kw2,m0,t0,t3,t5,t6,t7,d1,hlen];refine⟨_,rfl,2,?_⟩;rw[show outL zEo x [] true=[] from rfl,List.append_nil];exact hown.frz (zAe Plc.av _ Plc.pur)
theorem turns_t{w:Wnt}(hv:w.v=true){t:Wnt}:t∈w.turns ↔ ∃ i,i < 6∧t=w.rot i:=by
 unfold Wnt.turns;rw[if_pos hv,Wnt.all_mem]
theorem e12:Ent Tryz.prog 12 Tryz.f12 [] 2:=.mk Tryz.func12 rfl
attribute [push_cast] Tryz.f12
theorem same12{s r:AV}{l:List Plc}(hs:IsSl s (l.map Plc.av))(hr:IsSl r (l.map Plc.av))(hl:l.length≤2^20):Pur Tryz.prog GG 12 [s,r] (B true):=by
 have hs0:s.pur=true:=hs.pur (zAe Plc.av _ fun _=>rfl);have hr0:r.pur=true:=hr.pur (zAe Plc.av _ fun _=>rfl);have hs1:=hs.len (P:=Tryz.prog) un39;have hr1:=hr.len (P:=Tryz.prog) un39;rw[List.length_map]at hs1 hr1;refine goQ e12 TOk.nil 0 ?_ (by simp[AV.purL,AV.pur,hs0,hr0]);simp(maxSteps:=2000000)only[push_cast,seval,↓kw2,hs1,hr1];have hidx:=fun {u:AV} (hu:IsSl u (l.map Plc.av)) (i:Nat) (hi:i < l.length) (H:List AO)=>hu.idx (P:=Tryz.prog) un39 sz32 (i:=(i:Int)) (by rw[List.length_map]; omega) (by omega) H
 refine FW.loopInv (fun m ts H=>∃ i:Nat,i+m=l.length∧ts 0=s∧ts 1=r∧ts 5=I (i:Int)) l.length ⟨0,by omega,rfl,rfl,rfl⟩ ?_
 rintro m ih ts H ⟨i,hi,t0,t1,t5⟩
 refine FW.inLoop ?_
 by_cases hlt:i < l.length
 ·have hd1:decide ((i:Int) < (l.length:Int))=true:=by simp[hlt]
  have hx:=hidx hs i hlt;have hy:=hidx hr i hlt;have hgy:=zAm Plc.av l default hlt;simp only[Int.toNat_natCast]at hx hy;rw[hgy]at hx hy
  generalize l.getD i default=y at hx hy hgy
  have hcy:=Plc.cells y;have heq:aEqS Tryz.prog 32 (.agg [I y.x,I y.y,I y.z,I y.p,I y.q,I y.r,B y.s,B y.t,B y.u]) (.agg [I y.x,I y.y,I y.z,I y.p,I y.q,I y.r,B y.s,B y.t,B y.u])=some (decide (y=y)):=Plc.eq y y;rw[decide_eq_true rfl]at heq;have hbb:(0≤(i:Int)∧(i:Int) < ((List.map Plc.av l).length:Int)):=⟨by omega,by rw[List.length_map]; omega⟩;refine goN ?_;simp(maxSteps:=2000000)only[push_cast,seval,↓kw2,t0,t1,t5,hs1,hr1,hd1,hx,hy,hcy,heq,zCa];refine⟨hbb,hbb,?_⟩;refine goN ?_;simp(maxSteps:=2000000)only[push_cast,seval,↓kw2,t0,t1,t5,hs1,hr1,hd1,hx,hy,hcy,heq,zCa];rw[zAf (n:=(i:Int)+1) (by omega) (by omega)];exact ih (m - 1) (by omega) _ _ ⟨i+1,by omega,t0,t1,rfl⟩
 ·have hd1:decide ((i:Int) < (l.length:Int))=false:=by simp; omega
  refine goN ?_;simp(maxSteps:=2000000)only[push_cast,seval,↓kw2,t0,t1,t5,hs1,hr1,hd1];exact⟨_,rfl,zAa rfl rfl⟩
theorem drawT{T:Tab}(hT:TOk Tryz.prog GG T)(ord:List Nat){ops:Array Oper}(hB:ordB ops (fun _=>false) ord=true){rd:Option Nat}{n id:Nat}{k:List Item}{ts:Nat→AV}{H:List AO}{Q:Lv→(Nat→AV)→List AO→Prop}
  (h:symR Tryz.prog GG T ops (fun _ ts H=>FW Tryz.prog GG rd n k ts H Q) true ord ts H):FW Tryz.prog GG rd n (.code (.region id ops true)::k) ts H Q :=
 FW.drawOrd hmix hB (zEi hT (fun _ _ h=>h) _ _ _ h)
theorem e122:Ent Tryz.prog 122 Tryz.f122 [1,2] 3:=.mk Tryz.func122 rfl
attribute [push_cast] Tryz.f122
theorem swapped01(p q r:Int)(s t u v:Bool):Pur Tryz.prog GG 122 [WT p q r s t u v,I 0,I 1] (WT q p r t s u v):=by
 refine goQ e122 TOk.nil 0 ?_;simp(maxSteps:=2000000)only[push_cast,seval,↓kw2];refine drawT TOk.nil [0,1,2,3,4,5,6,7,8,9,10,11,13,12,14,15] (by kernel_rfl) ?_;simp(maxSteps:=2000000)only[push_cast,seval,↓kw2];refine goW TOk.nil [1,2] 0 ?_;simp(maxSteps:=2000000)only[push_cast,seval,↓kw2];refine drawT TOk.nil [0,1,2,3,4,5,6,7,8,9,10,11,13,12,14,15] (by kernel_rfl) ?_;simp(maxSteps:=2000000)only[push_cast,seval,↓kw2];refine goW TOk.nil [1,2] 0 ?_;simp(maxSteps:=2000000)only[push_cast,seval,↓kw2];exact⟨_,rfl,zAa rfl rfl⟩
theorem swapped02(p q r:Int)(s t u v:Bool):Pur Tryz.prog GG 122 [WT p q r s t u v,I 0,I 2] (WT r q p u t s v):=by
 refine goQ e122 TOk.nil 0 ?_;simp(maxSteps:=2000000)only[push_cast,seval,↓kw2];refine drawT TOk.nil [0,1,2,3,4,5,6,7,8,9,10,11,13,12,14,15] (by kernel_rfl) ?_;simp(maxSteps:=2000000)only[push_cast,seval,↓kw2];refine goW TOk.nil [1,2] 0 ?_;simp(maxSteps:=2000000)only[push_cast,seval,↓kw2];refine drawT TOk.nil [0,1,2,3,4,5,6,7,8,9,10,11,13,12,14,15] (by kernel_rfl) ?_;simp(maxSteps:=2000000)only[push_cast,seval,↓kw2];refine goW TOk.nil [1,2] 0 ?_;simp(maxSteps:=2000000)only[push_cast,seval,↓kw2];exact⟨_,rfl,zAa rfl rfl⟩
theorem swapped12(p q r:Int)(s t u v:Bool):Pur Tryz.prog GG 122 [WT p q r s t u v,I 1,I 2] (WT p r q s u t v):=by
 refine goQ e122 TOk.nil 0 ?_;simp(maxSteps:=2000000)only[push_cast,seval,↓kw2];refine drawT TOk.nil [0,1,2,3,4,5,6,7,8,9,10,11,13,12,14,15] (by kernel_rfl) ?_;simp(maxSteps:=2000000)only[push_cast,seval,↓kw2];refine goW TOk.nil [1,2] 0 ?_;simp(maxSteps:=2000000)only[push_cast,seval,↓kw2];refine drawT TOk.nil [0,1,2,3,4,5,6,7,8,9,10,11,13,12,14,15] (by kernel_rfl) ?_;simp(maxSteps:=2000000)only[push_cast,seval,↓kw2];refine goW TOk.nil [1,2] 0 ?_;simp(maxSteps:=2000000)only[push_cast,seval,↓kw2];exact⟨_,rfl,zAa rfl rfl⟩
def gswap:List AV→Option (Prop × AV)
 | [.agg [.c (.int .i64 p),.c (.int .i64 q),.c (.int .i64 r),.c (.bool s),.c (.bool t),.c (.bool u),.c (.bool v)],.c (.int .i64 i),.c (.int .i64 k)]=>some ((i=0∧k=1)∨(i=0∧k=2)∨(i=1∧k=2),if i=0 then (if k=1 then WT q p r t s u v else WT r q p u t s v) else WT p r q s u t v)
 | _=>none
theorem gswap_ok:∀ args p,gswap args=some p→p.1→Pur Tryz.prog GG 122 args p.2:=by
 intro args p hp hc
 unfold gswap at hp
 split at hp
 ·cases hp
  rcases hc with ⟨rfl,rfl⟩ | ⟨rfl,rfl⟩ | ⟨rfl,rfl⟩
  ·exact swapped01 _ _ _ _ _ _ _
  ·exact swapped02 _ _ _ _ _ _ _
  ·exact swapped12 _ _ _ _ _ _ _
 ·cases hp
attribute [push_cast] gswap
@[push_cast] def Q12:Tab:=Tab.ext Q11 122 gswap
theorem zEu:TOk Tryz.prog GG Q12:=TOk.ext zEq gswap_ok
def swaps(w:Wnt):List Wnt:=[w.rot 2,w.rot 5,w.rot 1,w.rot 3,w.rot 4]
def turnsR(w:Wnt):List Wnt:=if w.v=true then (swaps w).foldl (putL zEt) [w] else [w]
theorem foldP_mem{x:Wnt}:∀(l s:List Wnt),x∈l.foldl (putL zEt) s ↔ x∈s∨x∈l
 | [],s=>by simp
 | y::l,s=>by
  rw[List.foldl_cons,foldP_mem l,putL_mem,List.mem_cons]
  constructor
  ·rintro((h | h) | h)
   ·exact .inr (.inl h)
   ·exact .inl h
   ·exact .inr (.inr h)
  ·rintro(h | h | h)
   ·exact .inl (.inr h)
   ·exact .inl (.inl h)
   ·exact .inr h
theorem foldP_len:∀(l s:List Wnt),(l.foldl (putL zEt) s).length≤s.length+l.length
 | [],s=>by simp
 | y::l,s=>by
  have:=foldP_len l (putL zEt s y);have h2:(putL zEt s y).length≤s.length+1:=by rw[putL_len]; split <;> omega
  rw[List.foldl_cons,List.length_cons];omega
theorem turnsR_mem(w x:Wnt):x∈turnsR w ↔ x∈w.turns:=by
 cases hv:w.v
 ·unfold turnsR Wnt.turns;rw[hv,if_neg (by decide),if_neg (by decide)]
 ·rw[turns_t hv,turnsR,if_pos hv,foldP_mem];simp only[swaps,List.mem_cons,List.not_mem_nil,or_false]
  constructor
  ·rintro(rfl | rfl | rfl | rfl | rfl | rfl)
   ·exact⟨0,by decide,rfl⟩
   ·exact⟨2,by decide,rfl⟩
   ·exact⟨5,by decide,rfl⟩
   ·exact⟨1,by decide,rfl⟩
   ·exact⟨3,by decide,rfl⟩
   ·exact⟨4,by decide,rfl⟩
  ·rintro⟨i,hi,rfl⟩
   have hs:i=0∨i=1∨i=2∨i=3∨i=4∨i=5:=by omega
   rcases hs with rfl | rfl | rfl | rfl | rfl | rfl
   ·exact .inl rfl
   ·exact .inr (.inr (.inr (.inl rfl)))
   ·exact .inr (.inl rfl)
   ·exact .inr (.inr (.inr (.inr (.inl rfl))))
   ·exact .inr (.inr (.inr (.inr (.inr rfl))))
   ·exact .inr (.inr (.inl rfl))
theorem turnsR_len(w:Wnt):(turnsR w).length≤6:=by
 unfold turnsR
 split
 ·exact foldP_len _ _
 ·simp
theorem e86:Ent Tryz.prog 86 Tryz.f86 [4] 1:=.mk Tryz.func86 rfl
attribute [push_cast] Tryz.f86
theorem turns04(w:Wnt):Pur Tryz.prog GG 86 [w.av] (frS ((turnsR w).map Wnt.av)):=by
 obtain⟨p,q,r,s,t,u,v⟩:=w;show Pur Tryz.prog GG 86 [WT p q r s t u v] _;cases v
 ·skip
  refine goQ e86 zEu 0 ?_;simp(maxSteps:=2000000)only[push_cast,seval,↓kw2];exact⟨_,rfl,3,rfl⟩
 ·skip
  refine goQ e86 zEu 0 ?_;simp(maxSteps:=2000000)only[push_cast,seval,↓kw2];refine drawT zEu [0,2,4,6,9,14,1,3,5,7,8,10,11,12,13] (by kernel_rfl) ?_;simp(maxSteps:=2000000)only[push_cast,seval,↓kw2];refine goW zEu [4] 1 ?_;simp(maxSteps:=2000000)only[push_cast,seval,↓kw2];have hp1:=put04 (l:=[⟨p,q,r,s,t,u,true⟩]) ((⟨p,q,r,s,t,u,true⟩:Wnt).rot 2) (by simp);refine OwnK.freeze (k:=7) (pre:=[]) (post:=[WT q p r t s u true]) (s:=.sl 1 0 1 1) (es:=[WT p q r s t u true]) (OwnK.row (k:=7) (id:=1) (es:=[WT p q r s t u true]) rfl (by simp)) rfl ?_
  intro H' hk
  refine AC.pur hp1 ?_;have hk2:=hk 2 (by simp[zAl]);refine goW zEu [4] 0 ?_;simp(maxSteps:=2000000)only[push_cast,seval,↓kw2]
  generalize hw:(⟨p,q,r,s,t,u,true⟩:Wnt)=w
  have hT:turnsR w=((swaps w).take 5).foldl (putL zEt) [w]:=by rw[← hw]; rfl
  have hwr:∀ i,(w.rot i).av=((⟨p,q,r,s,t,u,true⟩:Wnt).rot i).av:=fun i=>by rw[hw]
  refine FW.loopInv (fun n ts H=>∃ i:Int,i+(n:Int)=5∧1≤i∧H[2]?=some (.arr 7 [WT q p r t s u true,WT r q p u t s true,WT p r q s u t true,WT q r p t u s true,WT r p q u s t true])∧ts 3=frS ((((swaps w).take i.toNat).foldl (putL zEt) [w]).map Wnt.av)∧ts 24=.sl 2 0 5 5∧ts 25=I 5∧ts 26=I i) 4
   ⟨1,by omega,by omega,hk2.trans rfl,by rw[← hw]; rfl,rfl,rfl,rfl⟩ ?_
  clear hk hk2 hp1
  rintro n ih ts H ⟨i,hi,hi1,m2,t3,t24,t25,t26⟩
  refine FW.inLoop ?_;have hl2:=zAb m2;have hfl:=foldP_len ((swaps w).take i.toNat) [w];have hfl2:((swaps w).take i.toNat).length≤5:=by rw[List.length_take]; exact Nat.min_le_right _ _
  simp only[List.length_singleton]at hfl;have hcs:i=1∨i=2∨i=3∨i=4∨i=5:=by omega
  rcases hcs with rfl | rfl | rfl | rfl | rfl
  ·have hp:=put04 (w.rot 5) (show(((swaps w).take (1:Int).toNat).foldl (putL zEt) [w]).length≤2^19 by omega);rw[hwr]at hp;refine goW zEu [4] 0 ?_;simp(maxSteps:=2000000)only[push_cast,seval,↓kw2,t3,t24,t25,t26,m2,zAw,zCf];refine AC.pur hp ?_;refine goW zEu [4] 0 ?_;simp(maxSteps:=2000000)only[push_cast,seval,↓kw2,t3,t24,t25,t26];exact ih (n - 1) (by omega) _ _ ⟨2,by omega,by omega,(List.getElem?_append_left hl2).trans m2,rfl,t24,t25,rfl⟩
  ·have hp:=put04 (w.rot 1) (show(((swaps w).take (2:Int).toNat).foldl (putL zEt) [w]).length≤2^19 by omega);rw[hwr]at hp;refine goW zEu [4] 0 ?_;simp(maxSteps:=2000000)only[push_cast,seval,↓kw2,t3,t24,t25,t26,m2,zAw,zCf];refine AC.pur hp ?_;refine goW zEu [4] 0 ?_;simp(maxSteps:=2000000)only[push_cast,seval,↓kw2,t3,t24,t25,t26];exact ih (n - 1) (by omega) _ _ ⟨3,by omega,by omega,(List.getElem?_append_left hl2).trans m2,rfl,t24,t25,rfl⟩
  ·have hp:=put04 (w.rot 3) (show(((swaps w).take (3:Int).toNat).foldl (putL zEt) [w]).length≤2^19 by omega);rw[hwr]at hp;refine goW zEu [4] 0 ?_;simp(maxSteps:=2000000)only[push_cast,seval,↓kw2,t3,t24,t25,t26,m2,zAw,zCf];refine AC.pur hp ?_;refine goW zEu [4] 0 ?_;simp(maxSteps:=2000000)only[push_cast,seval,↓kw2,t3,t24,t25,t26];exact ih (n - 1) (by omega) _ _ ⟨4,by omega,by omega,(List.getElem?_append_left hl2).trans m2,rfl,t24,t25,rfl⟩
  ·have hp:=put04 (w.rot 4) (show(((swaps w).take (4:Int).toNat).foldl (putL zEt) [w]).length≤2^19 by omega);rw[hwr]at hp;refine goW zEu [4] 0 ?_;simp(maxSteps:=2000000)only[push_cast,seval,↓kw2,t3,t24,t25,t26,m2,zAw,zCf];refine AC.pur hp ?_;refine goW zEu [4] 0 ?_;simp(maxSteps:=2000000)only[push_cast,seval,↓kw2,t3,t24,t25,t26];exact ih (n - 1) (by omega) _ _ ⟨5,by omega,by omega,(List.getElem?_append_left hl2).trans m2,rfl,t24,t25,rfl⟩
  ·skip
   refine goW zEu [4] 0 ?_;simp(maxSteps:=2000000)only[push_cast,seval,↓kw2,t3,t24,t25,t26];exact⟨_,rfl,zAa (frS_pur (zAe Wnt.av _ Wnt.pur)) (by rw[hT])⟩
def stepH(a b c m:Int)(l:List Plc)(t:Wnt):List Plc:=if (plOf a b c t m).ok a b c then putL zEo l (plOf a b c t m) else l
theorem hereL_is(a b c m:Int)(L:List Wnt):hereL a b c m L=L.foldl (stepH a b c m) []:=rfl
theorem stepH_len(a b c m:Int)(l:List Plc)(t:Wnt):(stepH a b c m l t).length≤l.length+1:=by
 unfold stepH
 split
 ·rw[putL_len]; split <;> omega
 ·omega
theorem everyL_succ(a b c:Int)(L:List Wnt)(n:Nat):everyL a b c L (n+1)=everyL a b c L n++hereL a b c (n:Int) L:=by
 unfold everyL;rw[List.range_succ,List.flatMap_append];simp
theorem everyL_len(a b c:Int)(L:List Wnt)(hL:L.length≤6)(n:Nat):(everyL a b c L n).length≤n*6:=by
 unfold everyL;have:=flat_le2 (f:=fun i:Nat=>hereL a b c (i:Int) L) (k:=6) (l:=List.range n) fun i _=>by
  have:=here_len a b c (i:Int) L [];simp only[List.length_nil,Nat.zero_add]at this;exact Nat.le_trans this hL
 rwa [List.length_range]at this
theorem e47:Ent Tryz.prog 47 Tryz.f47 [] 2:=.mk Tryz.func47 rfl
attribute [push_cast] Tryz.f47
theorem every12{a b c:Int}(hd:okD a b c)(w:Wnt):Pur Tryz.prog GG 47 [.agg [I a,I b,I c],w.av] (frS ((everyL a b c (turnsR w) (a*b*c).toNat).map Plc.av)):=by
 have hT:=turns04 w;have hLl:=turnsR_len w;have hN:=n01 a b c hd;have hmu:=zAy hd
 generalize turnsR w=L at hT hLl ⊢
 have hL:IsSl (frS (L.map Wnt.av)) (L.map Wnt.av):=IsSl.frS _
 generalize frS (L.map Wnt.av)=sl at hT hL
 have hlen:=hL.len (P:=Tryz.prog) un103;rw[List.length_map]at hlen;have hidx:=fun(i:Nat) (hi:i < L.length) (H:List AO)=>hL.idx (P:=Tryz.prog) un103 sz26 (i:=(i:Int)) (by rw[List.length_map]; omega) (by omega) H
 obtain⟨wp,wq,wr,ws,wt,wu,wv⟩:=w;show Pur Tryz.prog GG 47 [.agg [I a,I b,I c],WT wp wq wr ws wt wu wv] _;refine goQ e47 TOk.nil 0 ?_;simp(maxSteps:=2000000)only[push_cast,seval,↓kw2];refine AC.pur hT ?_;refine goN ?_;simp(maxSteps:=2000000)only[push_cast,seval,↓kw2];refine FW.loopInv (fun n ts H=>∃(m:Nat) (o:AV),m+n=(a*b*c).toNat∧OwnK 9 H o ((everyL a b c L m).map Plc.av)∧zAl o≠some 0∧zAl o≠some 1∧H[0]?=some (.cells [I a,I b,I c])∧H[1]?=some (.cells [I wp,I wq,I wr,B ws,B wt,B wu,B wv])∧ts 2=.ptr 0 0∧ts 3=.ptr 1 0∧ts 5=o∧ts 6=sl∧ts 7=I (m:Int)) (a*b*c).toNat
  ⟨0,_,by omega,.nil,by simp[zAl],by simp[zAl],rfl,rfl,rfl,rfl,rfl,rfl,rfl⟩ ?_
 rintro n ih ts H ⟨m,o,hm,hown,ho0,ho1,m0,m1,t2,t3,t5,t6,t7⟩
 refine FW.inLoop ?_;have w2:=zAf (n:=(m:Int)+1) (by omega) (by omega)
 by_cases hlt:(m:Int) < a*b*c
 ·have d1:decide ((m:Int) < a*b*c)=true:=decide_eq_true hlt;refine goN ?_;simp(maxSteps:=2000000)only[push_cast,seval,↓kw2,m0,m1,t2,t3,t5,t6,t7];refine AC.pur hN ?_;refine goN ?_;simp(maxSteps:=2000000)only[push_cast,seval,↓kw2,m0,m1,t2,t3,t5,t6,t7,d1];have hsc:=everyL_succ a b c L m;rw[hereL_is]at hsc;refine FW.loopInv (fun l ts H=>∃ i:Nat,i+l=L.length∧OwnK 9 H o ((everyL a b c L m).map Plc.av)∧H[0]?=some (.cells [I a,I b,I c])∧H[1]?=some (.cells [I wp,I wq,I wr,B ws,B wt,B wu,B wv])∧ts 2=.ptr 0 0∧ts 3=.ptr 1 0∧ts 5=o∧ts 6=sl∧ts 7=I (m:Int) ∧
   (∃ h:List Plc,h.length≤i∧(L.drop i).foldl (stepH a b c m) h=L.foldl (stepH a b c m) []∧ts 8=frS (h.map Plc.av))∧ts 9=I (i:Int)) L.length
   ⟨0,by omega,hown,m0,m1,t2,t3,t5,t6,t7,⟨[],by simp,rfl,rfl⟩,rfl⟩ ?_
  clear hown m0 m1 t2 t3 t5 t6 t7 ts H
  rintro l ihl ts H ⟨i,hi,hown,m0,m1,t2,t3,t5,t6,t7,⟨h,hhl,hh,t8⟩,t9⟩
  refine FW.inLoop ?_;have w3:=zAf (n:=(i:Int)+1) (by omega) (by omega);have hl0:=zAb m0;have hl1:=zAb m1
  by_cases hil:i < L.length
  ·have d2:decide ((i:Int) < (L.length:Int))=true:=decide_eq_true (by omega);have hx:=hidx i hil;simp only[Int.toNat_natCast]at hx;rw[zAm Wnt.av L default hil]at hx;rw[zBi default hil,List.foldl_cons]at hh
   generalize L.getD i default=τ at hx hh
   have hhs:stepH a b c m h τ=if (plOf a b c τ m).ok a b c then putL zEo h (plOf a b c τ m) else h:=rfl
   have hsl:=stepH_len a b c m h τ;obtain⟨p,q,r,s,t,u,v⟩:=τ;have hcy:(Wnt.mk p q r s t u v).av.cells=[I p,I q,I r,B s,B t,B u,B v]:=rfl;rw[hcy]at hx;have hbb:(0≤(i:Int)∧(i:Int) < ((L.map Wnt.av).length:Int)):=⟨by omega,by rw[List.length_map]; omega⟩;have hW:=where01 a b c m ⟨hd,by omega,hlt⟩;refine goN ?_;simp(maxSteps:=2000000)only[push_cast,seval,↓kw2,m0,m1,t2,t3,t5,t6,t7,t8,t9,d2,hlen,hx];refine⟨_,toVP hW,?_⟩;simp(maxSteps:=2000000)only[push_cast,seval,↓kw2,m0,m1,t2,t3,t5,t6,t7,t8,t9,d2,hlen,hx,zAw,zCf]
   repeat (first | refine⟨hbb,?_⟩)
   refine FW.loopInv (fun l3 ts H2=>∃(k:Int) (g0 g1 g2:Bool),k+(l3:Int)=3∧0≤k∧(0 < k→g0=torV s p)∧(1 < k→g1=torV t q)∧(2 < k→g2=torV u r)∧H2=H++[.cells [I (ofX a b c m),I (ofY a b c m),I (ofZ a b c m),I p,I q,I r,B g0,B g1,B g2]]∧ts 2=.ptr 0 0∧ts 3=.ptr 1 0∧ts 5=o∧ts 6=sl∧ts 7=I (m:Int)∧ts 8=frS (h.map Plc.av)∧ts 9=I (i:Int)∧ts 10=.ptr H.length 0∧ts 11=I k) 3
    ⟨0,false,false,false,by omega,by omega,fun h=>by omega,fun h=>by omega,fun h=>by omega,rfl,t2,t3,t5,t6,t7,t8,t9,rfl,rfl⟩ ?_
   clear t2 t3 t5 t6 t7 t8 t9 ts
   rintro l3 ih3 ts H2 ⟨k,g0,g1,g2,hk,hk0,q0,q1,q2,rfl,t2,t3,t5,t6,t7,t8,t9,t10,t11⟩
   refine FW.inLoop ?_;have hcs:k=0∨k=1∨k=2∨k=3:=by omega
   rcases hcs with rfl | rfl | rfl | rfl
   ·cases hS:s
    ·skip
     refine goN ?_;simp(maxSteps:=2000000)only[push_cast,seval,↓kw2,t2,t3,t5,t6,t7,t8,t9,t10,t11,hx,hS,zAw,zCf]
     repeat (first | refine⟨hbb,?_⟩)
     refine ih3 (l3 - 1) (by omega) _ _ ⟨1,_,_,_,by omega,by omega,?_,?_,?_,rfl,t2,t3,t5,t6,t7,t8,t9,t10,rfl⟩
     all_goals first | exact fun h=>absurd h (by decide) | exact fun _=>q0 (by decide) | exact fun _=>q1 (by decide) | (intro _; simp[torV,hS]; done) | (intro _; simp[torV,hS,e2]; done) | (intro _; simp[torV,hS]; omega)
    ·by_cases e2:1 < p
     ·have d3:decide (1 < p)=true:=decide_eq_true e2;refine goN ?_;simp(maxSteps:=2000000)only[push_cast,seval,↓kw2,t2,t3,t5,t6,t7,t8,t9,t10,t11,hx,hS,d3,zAw,zCf]
      repeat (first | refine⟨hbb,?_⟩)
      refine ih3 (l3 - 1) (by omega) _ _ ⟨1,_,_,_,by omega,by omega,?_,?_,?_,rfl,t2,t3,t5,t6,t7,t8,t9,t10,rfl⟩
      all_goals first | exact fun h=>absurd h (by decide) | exact fun _=>q0 (by decide) | exact fun _=>q1 (by decide) | (intro _; simp[torV,hS]; done) | (intro _; simp[torV,hS,e2]; done) | (intro _; simp[torV,hS]; omega)
     ·have d3:decide (1 < p)=false:=decide_eq_false e2;refine goN ?_;simp(maxSteps:=2000000)only[push_cast,seval,↓kw2,t2,t3,t5,t6,t7,t8,t9,t10,t11,hx,hS,d3,zAw,zCf]
      repeat (first | refine⟨hbb,?_⟩)
      refine ih3 (l3 - 1) (by omega) _ _ ⟨1,_,_,_,by omega,by omega,?_,?_,?_,rfl,t2,t3,t5,t6,t7,t8,t9,t10,rfl⟩
      all_goals first | exact fun h=>absurd h (by decide) | exact fun _=>q0 (by decide) | exact fun _=>q1 (by decide) | (intro _; simp[torV,hS]; done) | (intro _; simp[torV,hS,e2]; done) | (intro _; simp[torV,hS]; omega)
   ·cases hS:t
    ·skip
     refine goN ?_;simp(maxSteps:=2000000)only[push_cast,seval,↓kw2,t2,t3,t5,t6,t7,t8,t9,t10,t11,hx,hS,zAw,zCf]
     repeat (first | refine⟨hbb,?_⟩)
     refine ih3 (l3 - 1) (by omega) _ _ ⟨2,_,_,_,by omega,by omega,?_,?_,?_,rfl,t2,t3,t5,t6,t7,t8,t9,t10,rfl⟩
     all_goals first | exact fun h=>absurd h (by decide) | exact fun _=>q0 (by decide) | exact fun _=>q1 (by decide) | (intro _; simp[torV,hS]; done) | (intro _; simp[torV,hS,e2]; done) | (intro _; simp[torV,hS]; omega)
    ·by_cases e2:1 < q
     ·have d3:decide (1 < q)=true:=decide_eq_true e2;refine goN ?_;simp(maxSteps:=2000000)only[push_cast,seval,↓kw2,t2,t3,t5,t6,t7,t8,t9,t10,t11,hx,hS,d3,zAw,zCf]
      repeat (first | refine⟨hbb,?_⟩)
      refine ih3 (l3 - 1) (by omega) _ _ ⟨2,_,_,_,by omega,by omega,?_,?_,?_,rfl,t2,t3,t5,t6,t7,t8,t9,t10,rfl⟩
      all_goals first | exact fun h=>absurd h (by decide) | exact fun _=>q0 (by decide) | exact fun _=>q1 (by decide) | (intro _; simp[torV,hS]; done) | (intro _; simp[torV,hS,e2]; done) | (intro _; simp[torV,hS]; omega)
     ·have d3:decide (1 < q)=false:=decide_eq_false e2;refine goN ?_;simp(maxSteps:=2000000)only[push_cast,seval,↓kw2,t2,t3,t5,t6,t7,t8,t9,t10,t11,hx,hS,d3,zAw,zCf]
      repeat (first | refine⟨hbb,?_⟩)
      refine ih3 (l3 - 1) (by omega) _ _ ⟨2,_,_,_,by omega,by omega,?_,?_,?_,rfl,t2,t3,t5,t6,t7,t8,t9,t10,rfl⟩
      all_goals first | exact fun h=>absurd h (by decide) | exact fun _=>q0 (by decide) | exact fun _=>q1 (by decide) | (intro _; simp[torV,hS]; done) | (intro _; simp[torV,hS,e2]; done) | (intro _; simp[torV,hS]; omega)
   ·cases hS:u
    ·skip
     refine goN ?_;simp(maxSteps:=2000000)only[push_cast,seval,↓kw2,t2,t3,t5,t6,t7,t8,t9,t10,t11,hx,hS,zAw,zCf]
     repeat (first | refine⟨hbb,?_⟩)
     refine ih3 (l3 - 1) (by omega) _ _ ⟨3,_,_,_,by omega,by omega,?_,?_,?_,rfl,t2,t3,t5,t6,t7,t8,t9,t10,rfl⟩
     all_goals first | exact fun h=>absurd h (by decide) | exact fun _=>q0 (by decide) | exact fun _=>q1 (by decide) | (intro _; simp[torV,hS]; done) | (intro _; simp[torV,hS,e2]; done) | (intro _; simp[torV,hS]; omega)
    ·by_cases e2:1 < r
     ·have d3:decide (1 < r)=true:=decide_eq_true e2;refine goN ?_;simp(maxSteps:=2000000)only[push_cast,seval,↓kw2,t2,t3,t5,t6,t7,t8,t9,t10,t11,hx,hS,d3,zAw,zCf]
      repeat (first | refine⟨hbb,?_⟩)
      refine ih3 (l3 - 1) (by omega) _ _ ⟨3,_,_,_,by omega,by omega,?_,?_,?_,rfl,t2,t3,t5,t6,t7,t8,t9,t10,rfl⟩
      all_goals first | exact fun h=>absurd h (by decide) | exact fun _=>q0 (by decide) | exact fun _=>q1 (by decide) | (intro _; simp[torV,hS]; done) | (intro _; simp[torV,hS,e2]; done) | (intro _; simp[torV,hS]; omega)
     ·have d3:decide (1 < r)=false:=decide_eq_false e2;refine goN ?_;simp(maxSteps:=2000000)only[push_cast,seval,↓kw2,t2,t3,t5,t6,t7,t8,t9,t10,t11,hx,hS,d3,zAw,zCf]
      repeat (first | refine⟨hbb,?_⟩)
      refine ih3 (l3 - 1) (by omega) _ _ ⟨3,_,_,_,by omega,by omega,?_,?_,?_,rfl,t2,t3,t5,t6,t7,t8,t9,t10,rfl⟩
      all_goals first | exact fun h=>absurd h (by decide) | exact fun _=>q0 (by decide) | exact fun _=>q1 (by decide) | (intro _; simp[torV,hS]; done) | (intro _; simp[torV,hS,e2]; done) | (intro _; simp[torV,hS]; omega)
   ·obtain rfl:g0=torV s p:=q0 (by omega);obtain rfl:g1=torV t q:=q1 (by omega);obtain rfl:g2=torV u r:=q2 (by omega);have hM:=may06 a b c (ofX a b c m) (ofY a b c m) (ofZ a b c m) p q r (torV s p) (torV t q) (torV u r) hd;refine goN ?_;simp(maxSteps:=2000000)only[push_cast,seval,↓kw2,t2,t3,t5,t6,t7,t8,t9,t10,t11,hx,zAw,zCf,List.getElem?_append_left hl0,m0];refine AC.pur hM ?_
    by_cases hk:(plOf a b c ⟨p,q,r,s,t,u,v⟩ m).ok a b c
    ·have d3:=decide_eq_true hk;rw[if_pos hk]at hhs;rw[hhs]at hh;have hP:=put12 (l:=h) (plOf a b c ⟨p,q,r,s,t,u,v⟩ m) (by omega);rw[show decide (okPl a b c (ofX a b c m) (ofY a b c m) (ofZ a b c m) p q r (torV s p) (torV t q) (torV u r))=true from d3];refine goN ?_;simp(maxSteps:=2000000)only[push_cast,seval,↓kw2,t2,t3,t5,t6,t7,t8,t9,t10,t11,zAw,zCf,w3];refine AC.pur hP ?_;refine goN ?_;simp(maxSteps:=2000000)only[push_cast,seval,↓kw2,t2,t3,t5,t6,t7,t8,t9,t10,t11,zAw,zCf,w3];exact ihl (l - 1) (by omega) _ _ ⟨i+1,by omega,hown.append _,(List.getElem?_append_left hl0).trans m0,(List.getElem?_append_left hl1).trans m1,t2,t3,t5,t6,t7,⟨_,by rw[← hhs]; omega,hh,rfl⟩,rfl⟩
    ·have d3:=decide_eq_false hk;rw[if_neg hk]at hhs;rw[hhs]at hh;rw[show decide (okPl a b c (ofX a b c m) (ofY a b c m) (ofZ a b c m) p q r (torV s p) (torV t q) (torV u r))=false from d3];refine goN ?_;simp(maxSteps:=2000000)only[push_cast,seval,↓kw2,t2,t3,t5,t6,t7,t8,t9,t10,t11,zAw,zCf,w3];exact ihl (l - 1) (by omega) _ _ ⟨i+1,by omega,hown.append _,(List.getElem?_append_left hl0).trans m0,(List.getElem?_append_left hl1).trans m1,t2,t3,t5,t6,t7,⟨h,by omega,hh,t8⟩,rfl⟩
  ·have d2:decide ((i:Int) < (L.length:Int))=false:=decide_eq_false (by omega);rw[List.drop_eq_nil_of_le (by omega)]at hh;have hh':h=L.foldl (stepH a b c m) []:=hh;rw[← hh']at hsc;have hev:=everyL_len a b c L hLl m;obtain⟨CC,hap,hCC⟩:=aAppFK (P:=Tryz.prog) (k:=9) un39 un39 ze32 rfl by32 hown (l:=h.map Plc.av) (fun x hx=>by obtain⟨y,_,rfl⟩:=List.mem_map.1 hx; rfl);refine goN ?_;simp(maxSteps:=2000000)only[push_cast,seval,↓kw2,t2,t3,t5,t6,t7,t8,t9,d2,hlen,hap,w2];refine⟨hCC (by rw[List.length_map,List.length_map]; omega) (by rw[List.length_map,List.length_map]; omega),?_⟩;exact ih (n - 1) (by omega) _ _ ⟨m+1,_,by omega,by rw[hsc,List.map_append]; exact apSs_ownK hown,zCo hl0 ho0,zCo hl1 ho1,(apHsK_get hl0 ho0).trans m0,(apHsK_get hl1 ho1).trans m1,t2,t3,rfl,t6,rfl⟩
 ·have d1:decide ((m:Int) < a*b*c)=false:=decide_eq_false hlt;have hme:m=(a*b*c).toNat:=by omega
  rw[hme]at hown;refine goN ?_;simp(maxSteps:=2000000)only[push_cast,seval,↓kw2,m0,m1,t2,t3,t5,t6,t7];refine AC.pur hN ?_;refine goN ?_;simp(maxSteps:=2000000)only[push_cast,seval,↓kw2,m0,m1,t2,t3,t5,t6,t7,d1];exact⟨_,rfl,2,hown.frz (zAe Plc.av _ Plc.pur)⟩
theorem e20:Ent Tryz.prog 20 Tryz.f20 [] 4:=.mk Tryz.func20 rfl
attribute [push_cast] Tryz.f20
theorem clear12{a b c:Int}(hd:okD a b c)(w:Wnt){s r:AV}{xs ys:List Int}(hs:IsSl s (xs.map U))(hr:IsSl r (ys.map U))(hx:∀ w∈xs,inU w)(hy:∀ w∈ys,inU w)(hl:xs.length≤2^12)(hl2:ys.length≤2^12) :
  Pur Tryz.prog GG 20 [.agg [I a,I b,I c],w.av,s,r] (frS (((wholeL a b c w).filter (zEa a b c xs ys)).map Plc.av)):=by
 have hps:=hs.pur (zAe U _ fun _=>rfl);have hpr:=hr.pur (zAe U _ fun _=>rfl);have hE:=every12 hd w;rw[every_whole hd (turnsR_mem w)]at hE;have hle:=whole_le hd w;have hok:∀ x∈wholeL a b c w,x.ok a b c:=fun x hx=>((wholeL_mem hd).1 hx).1
 have hmu:=zAy hd
 generalize wholeL a b c w=l at hE hle hok ⊢
 have hL:IsSl (frS (l.map Plc.av)) (l.map Plc.av):=IsSl.frS _
 generalize frS (l.map Plc.av)=sl at hE hL
 have hlen:=hL.len (P:=Tryz.prog) un39;rw[List.length_map]at hlen;have hidx:=fun(i:Nat) (hi:i < l.length) (H:List AO)=>hL.idx (P:=Tryz.prog) un39 sz32 (i:=(i:Int)) (by rw[List.length_map]; omega) (by omega) H
 obtain⟨wp,wq,wr,ws,wt,wu,wv⟩:=w;show Pur Tryz.prog GG 20 [.agg [I a,I b,I c],WT wp wq wr ws wt wu wv,s,r] _;refine goQ e20 TOk.nil 0 ?_ (by simp[AV.purL,AV.pur,hps,hpr]);simp(maxSteps:=2000000)only[push_cast,seval,↓kw2];refine AC.pur hE ?_;refine goN ?_;simp(maxSteps:=2000000)only[push_cast,seval,↓kw2];refine FW.loopInv (fun n ts H=>∃(i:Nat) (es:List Plc) (o:AV),i+n=l.length∧es++(l.drop i).filter (zEa a b c xs ys)=l.filter (zEa a b c xs ys)∧OwnK 9 H o (es.map Plc.av)∧zAl o≠some 0∧H[0]?=some (.cells [I a,I b,I c])∧ts 2=s∧ts 3=r∧ts 4=.ptr 0 0∧ts 9=o∧ts 10=sl∧ts 11=I (i:Int)) l.length
  ⟨0,[],_,by omega,rfl,.nil,by simp[zAl],rfl,rfl,rfl,rfl,rfl,rfl,rfl⟩ ?_
 rintro n ih ts H ⟨i,es,o,hi,hes,hown,ho0,m0,t2,t3,t4,t9,t10,t11⟩
 refine FW.inLoop ?_;have w2:=zAf (n:=(i:Int)+1) (by omega) (by omega);have hl0:=zAb m0
 by_cases hlt:i < l.length
 ·have d1:decide ((i:Int) < (l.length:Int))=true:=decide_eq_true (by omega);have hxi:=hidx i hlt;simp only[Int.toNat_natCast]at hxi;rw[zAm Plc.av l default hlt]at hxi;have hok1:=hok (l.getD i default) (by simp[List.getD,hlt]);rw[zBi default hlt,List.filter_cons]at hes
  generalize l.getD i default=y at hxi hok1 hes
  have hcy:=Plc.cells y;rw[hcy]at hxi;have hC:=clear11 hs hr hx hy hl hl2 hok1;have hbb:(0≤(i:Int)∧(i:Int) < ((l.map Plc.av).length:Int)):=⟨by omega,by rw[List.length_map]; omega⟩;refine goN ?_;simp(maxSteps:=2000000)only[push_cast,seval,↓kw2,m0,t2,t3,t4,t9,t10,t11,hlen,d1,hxi]
  repeat (first | refine⟨hbb,?_⟩)
  refine⟨_,toVP hC,?_⟩;cases hv:zEa a b c xs ys y
  ·rw[hv,if_neg (by decide)]at hes;simp(maxSteps:=2000000)only[push_cast,seval,↓kw2,m0,t2,t3,t4,t9,t10,t11,hlen,d1,hxi,w2];exact ih (n - 1) (by omega) _ _ ⟨i+1,es,o,by omega,hes,hown,ho0,m0,t2,t3,t4,t9,t10,rfl⟩
  ·rw[hv,if_pos rfl]at hes;have hle2:=zAz hes;have hfl:=List.length_filter_le (zEa a b c xs ys) l;have hap:=fun v=>zFg (P:=Tryz.prog) (k:=9) un39 un39 ze32 rfl by32 hown v
   simp(maxSteps:=2000000)only[push_cast,seval,↓kw2,m0,t2,t3,t4,t9,t10,t11,hlen,d1,hxi,w2,hap]
   repeat (first | refine⟨hbb,?_⟩ | refine⟨zBq (by rw[List.length_map]; omega) (by decide),?_⟩)
   exact ih (n - 1) (by omega) _ _ ⟨i+1,es++[y],_,by omega,by rw[List.append_assoc]; exact hes,by rw[List.map_append]; exact apHk_own,zEc (by omega),(zBe hl0 ho0).trans m0,t2,t3,t4,rfl,t10,rfl⟩
 ·have d1:decide ((i:Int) < (l.length:Int))=false:=decide_eq_false (by omega);rw[List.drop_eq_nil_of_le (by omega),List.filter_nil,List.append_nil]at hes;rw[← hes];refine goN ?_;simp(maxSteps:=2000000)only[push_cast,seval,↓kw2,m0,t2,t3,t4,t9,t10,t11,hlen,d1];exact⟨_,rfl,2,hown.frz (zAe Plc.av _ Plc.pur)⟩
end Go.Ab.Pd
