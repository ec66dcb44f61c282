/- One of the texts that this claim stands on. -/
import Derived.Test.YtdfgdheehdabmaaGreatDoorEv49
import Derived.Test.YtdfgdheehdabmaaGreatDoorEv50
set_option maxHeartbeats 40000000
set_option maxRecDepth 400000
set_option linter.all false
namespace Go.Ab.Pd
open Go.Proofs
abbrev BA(b:Bool):AV:=B b
def truL(n:Nat)(ws:List Int):List Bool:=(List.range n).map fun m=>zBa ws m
theorem truL_succ(n:Nat)(ws:List Int):truL (n+1) ws=truL n ws++[zBa ws n]:=by
 unfold truL;rw[List.range_succ,List.map_append];rfl
theorem truL_len(n:Nat)(ws:List Int):(truL n ws).length=n:=by simp[truL]
theorem e91:Ent Tryz.prog 91 Tryz.f91 [] 2:=.mk Tryz.func91 rfl
attribute [push_cast] Tryz.f91
theorem truths14{a b c:Int}(hd:okD a b c){s:AV}{ws:List Int}(hs:IsSl s (ws.map U))(hw:∀ w∈ws,inU w)(hl:ws.length≤2^12):Pur Tryz.prog GG 91 [.agg [I a,I b,I c],s] (frS ((truL (a*b*c).toNat ws).map BA)):=by
 have hpu:=hs.pur (zAe U _ fun _=>rfl);have hmu:=zAy hd;have hN:=n01 a b c hd;obtain⟨N,hNe⟩:∃ N:Nat,(N:Int)=a*b*c:=⟨(a*b*c).toNat,by omega⟩;rw[show(a*b*c).toNat=N by omega];rw[← hNe]at hN;refine goQ e91 TOk.nil 0 ?_ (by simp[AV.purL,AV.pur,hpu]);simp(maxSteps:=2000000)only[push_cast,seval,↓kw2];refine FW.loopInv (fun m ts H=>∃(k:Nat) (o:AV),k+m=N∧OwnK 1 H o ((truL k ws).map BA)∧zAl o≠some 0∧H[0]?=some (.cells [I a,I b,I c])∧ts 1=s∧ts 2=.ptr 0 0∧ts 5=o∧ts 6=I (k:Int)) N ⟨0,_,by omega,.nil,by simp[zAl],rfl,rfl,rfl,rfl,rfl⟩ ?_
 rintro m ih ts H ⟨k,o,hk,hown,ho0,m0,t1,t2,t5,t6⟩
 refine FW.inLoop ?_;have hl0:=zAb m0;have w2:=zAf (n:=(k:Int)+1) (by omega) (by omega);refine goN ?_;simp(maxSteps:=2000000)only[push_cast,seval,↓kw2,m0,t1,t2,t5,t6];refine AC.pur hN ?_
 by_cases hlt:k < N
 ·have d1:decide ((k:Int) < (N:Int))=true:=decide_eq_true (by omega);have hap:=fun v=>zFg (P:=Tryz.prog) (k:=1) un142 un142 ze4 rfl by4 hown v
  have hlk:=truL_len k ws;refine goN ?_;simp(maxSteps:=2000000)only[push_cast,seval,↓kw2,m0,t1,t2,t5,t6,d1];refine AC.pur (there_pur hs hw (by omega) (by omega) (by omega)) ?_;rw[show((k:Int)).toNat=k from Int.toNat_natCast k];refine goN ?_;simp(maxSteps:=2000000)only[push_cast,seval,↓kw2,m0,t1,t2,t5,t6,hap,w2];refine⟨zBq (by rw[List.length_map]; omega) (by decide),?_⟩;exact ih (m - 1) (by omega) _ _ ⟨k+1,_,by omega,by rw[truL_succ,List.map_append]; exact apHk_own,zEc (by omega),(zBe hl0 ho0).trans m0,t1,t2,rfl,rfl⟩
 ·have d1:decide ((k:Int) < (N:Int))=false:=decide_eq_false (by omega);have hke:k=N:=by omega
  rw[hke]at hown;refine goN ?_;simp(maxSteps:=2000000)only[push_cast,seval,↓kw2,m0,t1,t2,t5,t6,d1];exact⟨_,rfl,2,hown.frz (zAe BA _ fun _=>rfl)⟩
def notL:List Bool→List Bool→List Bool
 | x::l,y::m=>(!x&&!y)::notL l m
 | _,_=>[]
theorem notL_take{l m:List Bool}{i:Nat}(h1:i < l.length)(h2:l.length=m.length):(notL l m).take (i+1)=(notL l m).take i++[!(l.getD i false)&&!(m.getD i false)]:=by
 induction l generalizing m i with
 | nil=>simp at h1
 | cons x l ih =>
  cases m with
  | nil=>simp at h2
  | cons y m =>
   cases i with
   | zero=>simp[notL]
   | succ i =>
    have:=ih (m:=m) (i:=i) (by simpa using h1) (by simpa using h2);simp only[notL,List.take_succ_cons,List.cons_append,List.getD_cons_succ];rw[this]
theorem notL_len:∀ {l m:List Bool},l.length=m.length→(notL l m).length=l.length
 | [],[],_=>rfl
 | x::l,y::m,h=>by simp[notL,notL_len (l:=l) (m:=m) (by simpa using h)]
 | [],y::m,h=>by simp at h
 | x::l,[],h=>by simp at h
theorem e93:Ent Tryz.prog 93 Tryz.f93 [] 2:=.mk Tryz.func93 rfl
attribute [push_cast] Tryz.f93
theorem not14{s r:AV}{l m:List Bool}(hs:IsSl s (l.map BA))(hr:IsSl r (m.map BA))(hlm:l.length=m.length)(hl:l.length≤2^16):Pur Tryz.prog GG 93 [s,r] (frS ((notL l m).map BA)):=by
 have hpu:=hs.pur (zAe BA _ fun _=>rfl);have hpr:=hr.pur (zAe BA _ fun _=>rfl);have hlen:=hs.len (P:=Tryz.prog) un142;rw[List.length_map]at hlen;have hix:=fun(i:Nat) (hi:i < l.length) (H:List AO)=>hs.idx (P:=Tryz.prog) un142 sz4 (i:=(i:Int)) (by rw[List.length_map]; omega) (by omega) H
 have hiy:=fun(i:Nat) (hi:i < l.length) (H:List AO)=>hr.idx (P:=Tryz.prog) un142 sz4 (i:=(i:Int)) (by rw[List.length_map]; omega) (by omega) H
 have hnl:=notL_len hlm;refine goQ e93 TOk.nil 0 ?_ (by simp[AV.purL,AV.pur,hpu,hpr]);simp(maxSteps:=2000000)only[push_cast,seval,↓kw2];refine FW.loopInv (fun n ts H=>∃(i:Nat) (o:AV),i+n=l.length∧OwnK 1 H o (((notL l m).take i).map BA)∧ts 0=s∧ts 1=r∧ts 5=o∧ts 6=I (i:Int)) l.length ⟨0,_,by omega,.nil,rfl,rfl,rfl,rfl⟩ ?_
 rintro n ih ts H ⟨i,o,hi,hown,t0,t1,t5,t6⟩
 refine FW.inLoop ?_;have w2:=zAf (n:=(i:Int)+1) (by omega) (by omega)
 by_cases hlt:i < l.length
 ·have d1:decide ((i:Int) < (l.length:Int))=true:=decide_eq_true (by omega);have hxi:=hix i hlt;have hyi:=hiy i hlt;rw[Int.toNat_natCast,zAm BA l false hlt]at hxi;rw[Int.toNat_natCast,zAm BA m false (by omega)]at hyi;have htk:=notL_take hlt hlm
  generalize l.getD i false=x at hxi htk
  generalize m.getD i false=y at hyi htk
  have hap:=fun v=>zFg (P:=Tryz.prog) (k:=1) un142 un142 ze4 rfl by4 hown v
  have hb1:(0≤(i:Int)∧(i:Int) < ((l.map BA).length:Int)):=⟨by omega,by rw[List.length_map]; omega⟩;have hb2:(0≤(i:Int)∧(i:Int) < ((m.map BA).length:Int)):=⟨by omega,by rw[List.length_map]; omega⟩;have hlk:(((notL l m).take i).map BA).length≤2^16:=by rw[List.length_map,List.length_take]; omega
  cases x <;> cases y
  all_goals
   refine goN ?_;simp(maxSteps:=2000000)only[push_cast,seval,↓kw2,t0,t1,t5,t6,hlen,d1,hxi,hyi,hap,w2]
   repeat (first | refine⟨hb1,?_⟩ | refine⟨hb2,?_⟩ | refine⟨zBq (by omega) (by decide),?_⟩)
   refine ih (n - 1) (by omega) _ _ ?_;exact⟨i+1,_,by omega,by rw[htk,List.map_append]; exact apHk_own,t0,t1,rfl,rfl⟩
 ·have d1:decide ((i:Int) < (l.length:Int))=false:=decide_eq_false (by omega);rw[List.take_of_length_le (by omega)]at hown;refine goN ?_;simp(maxSteps:=2000000)only[push_cast,seval,↓kw2,t0,t1,t5,t6,hlen,d1];exact⟨_,rfl,2,hown.frz (zAe BA _ fun _=>rfl)⟩
def cntF(a b c:Int)(has:Int→Bool):List Bool→Nat→Int→Int
 | [],_,acc=>acc
 | x::l,i,acc=>cntF a b c has l (i+1) (if x=true then stepM a b c has acc (i:Int) else acc)
theorem cntF_drop{a b c:Int}{has:Int→Bool}{l:List Bool}{i:Nat}{acc:Int}(h:i < l.length):cntF a b c has (l.drop i) i acc=cntF a b c has (l.drop (i+1)) (i+1) (if l.getD i false=true then stepM a b c has acc (i:Int) else acc):=by
 rw[List.drop_eq_getElem_cons h,cntF,List.getD_eq_getElem?_getD,List.getElem?_eq_getElem h];rfl
theorem e92:Ent Tryz.prog 92 Tryz.f92 [] 3:=.mk Tryz.func92 rfl
attribute [push_cast] Tryz.f92
theorem counted14{a b c:Int}(hd:okD a b c){s r:AV}{l m:List Bool}(hs:IsSl s (l.map BA))(hr:IsSl r (m.map BA))(hl:(l.length:Int)=a*b*c)(hm:(m.length:Int)=a*b*c):Pur Tryz.prog GG 92 [.agg [I a,I b,I c],s,r] (I (cntF a b c (fun o=>m.getD o.toNat false) l 0 0)):=by
 have hpu:=hs.pur (zAe BA _ fun _=>rfl);have hpr:=hr.pur (zAe BA _ fun _=>rfl);have hmu:=zAy hd;have hlen:=hs.len (P:=Tryz.prog) un142;rw[List.length_map]at hlen;have hix:=fun(i:Nat) (hi:i < l.length) (H:List AO)=>hs.idx (P:=Tryz.prog) un142 sz4 (i:=(i:Int)) (by rw[List.length_map]; omega) (by omega) H
 have hiy:=fun(o:Int) (h0:0≤o) (h1:o < (m.length:Int)) (H:List AO)=>hr.idx (P:=Tryz.prog) un142 sz4 (i:=o) (by rw[List.length_map]; omega) (by omega) H
 generalize hT:cntF a b c (fun o=>m.getD o.toNat false) l 0 0=T
 refine goQ e92 TOk.nil 0 ?_ (by simp[AV.purL,AV.pur,hpu,hpr]);simp(maxSteps:=2000000)only[push_cast,seval,↓kw2];refine FW.loopInv (fun n ts H=>∃(i:Nat) (acc:Int),i+n=l.length∧cntF a b c (fun o=>m.getD o.toNat false) (l.drop i) i acc=T∧H[0]?=some (.cells [I a,I b,I c])∧ts 1=s∧ts 2=r∧ts 3=.ptr 0 0∧ts 7=I acc∧ts 8=I (i:Int)) l.length ⟨0,0,by omega,hT,rfl,rfl,rfl,rfl,rfl,rfl⟩ ?_
 rintro n ih ts H ⟨i,acc,hi,hT,m0,t1,t2,t3,t7,t8⟩
 refine FW.inLoop ?_;have w2:=zAf (n:=(i:Int)+1) (by omega) (by omega)
 by_cases hlt:i < l.length
 ·have d1:decide ((i:Int) < (l.length:Int))=true:=decide_eq_true (by omega);have hxi:=hix i hlt;rw[Int.toNat_natCast,zAm BA l false hlt]at hxi;rw[cntF_drop hlt]at hT
  generalize l.getD i false=x at hxi hT
  have hb1:(0≤(i:Int)∧(i:Int) < ((l.map BA).length:Int)):=⟨by omega,by rw[List.length_map]; omega⟩;have hin:inM a b c (i:Int):=⟨hd,by omega⟩;refine goN ?_;simp(maxSteps:=2000000)only[push_cast,seval,↓kw2,m0,t1,t2,t3,t7,t8,hlen,d1];obtain⟨Q,hQ⟩:∃ Q,Q=if x=true then stepM a b c (fun o=>m.getD o.toNat false) acc (i:Int) else acc:=⟨_,rfl⟩
  rw[← hQ]at hT;refine FW.loopInv (fun j ts H=>∃ k q:Int,k+(j:Int)=3∧0≤k∧(if x=true then (upto (sideL a b c (i:Int)) k j).foldl (stepC fun o=>m.getD o.toNat false) q else q)=Q∧H[0]?=some (.cells [I a,I b,I c])∧ts 1=s∧ts 2=r∧ts 3=.ptr 0 0∧ts 7=I q∧ts 8=I (i:Int)∧ts 9=I k) 3 ⟨0,acc,by omega,by omega,hQ.symm,m0,t1,t2,t3,t7,t8,rfl⟩ ?_;clear hQ m0 t1 t2 t3 t7 t8
  rintro j jh ts H ⟨k,q,hk,hk0,hQ,m0,t1,t2,t3,t7,t8,t9⟩
  refine FW.inLoop ?_;have e0:dimV a b c 0=a:=rfl;have e1:dimV a b c 1=b:=rfl;have e2:dimV a b c 2=c:=rfl;cases j with
  | zero =>
   obtain rfl:k=3:=by omega
   refine goN ?_;simp(maxSteps:=2000000)only[push_cast,seval,↓kw2,m0,t1,t2,t3,t7,t8,t9,w2];refine ih (n - 1) (by omega) _ _ ?_;cases x
   all_goals
    obtain rfl:q=Q:=hQ;exact⟨i+1,q,by omega,hT,m0,t1,t2,t3,t7,rfl⟩
  | succ j =>
   rw[zCq]at hQ;have hsp:=step_ok (a:=a) (b:=b) (c:=c) (m:=(i:Int)) (k:=k) (s:=1) ⟨by omega,by omega⟩ hin;have hsm:=step_ok (a:=a) (b:=b) (c:=c) (m:=(i:Int)) (k:=k) (s:=-1) ⟨by omega,by omega⟩ hin;have hop:=on01 (a:=a) (b:=b) (c:=c) (m:=(i:Int)) (k:=k) ⟨by omega,by omega⟩ hin 1;have hom:=on01 (a:=a) (b:=b) (c:=c) (m:=(i:Int)) (k:=k) ⟨by omega,by omega⟩ hin (-1);have hyp:=hiy (stV a b c (i:Int) k 1) (by omega) (by omega);have hym:=hiy (stV a b c (i:Int) k (-1)) (by omega) (by omega);rw[zAm BA m false (by omega)]at hyp hym;unfold sideL at hQ
   generalize stV a b c (i:Int) k 1=u1 at hQ hsp hop hyp
   generalize stV a b c (i:Int) k (-1)=u2 at hQ hsm hom hym
   have hb2:(0≤u1∧u1 < ((m.map BA).length:Int)):=⟨by omega,by rw[List.length_map]; omega⟩;have hb3:(0≤u2∧u2 < ((m.map BA).length:Int)):=⟨by omega,by rw[List.length_map]; omega⟩;obtain⟨q0,hq0⟩:∃ q,q=dimV a b c k:=⟨_,rfl⟩;have hkk:k=0∨k=1∨k=2:=by omega
   rw[← hq0]at hQ
   rcases hkk with rfl | rfl | rfl
   all_goals
    simp only[e0,e1,e2]at hq0;cases x
    ·
     refine goN ?_;simp(maxSteps:=2000000)only[push_cast,seval,↓kw2,m0,t1,t2,t3,t7,t8,t9,hxi];refine⟨hb1,?_⟩;exact jh j (by omega) _ _ ⟨_,q,by omega,by omega,hQ,m0,t1,t2,t3,t7,t8,rfl⟩
    rw[if_pos rfl]at hQ
    by_cases hd1:q0=1
    ·subst hq0;rw[if_pos hd1]at hQ;refine goN ?_;simp(maxSteps:=2000000)only[push_cast,seval,↓kw2,m0,t1,t2,t3,t7,t8,t9,hxi,hd1];refine⟨hb1,?_⟩;exact jh j (by omega) _ _ ⟨_,q,by omega,by omega,by rw[if_pos rfl]; exact hQ,m0,t1,t2,t3,t7,t8,rfl⟩
    ·have hd':decide (q0=1)=false:=decide_eq_false hd1;subst hq0;rw[if_neg hd1]at hQ;refine goN ?_;simp(maxSteps:=2000000)only[push_cast,seval,↓kw2,m0,t1,t2,t3,t7,t8,t9,hxi,hd'];refine⟨hb1,?_⟩;refine AC.pur hop ?_
     generalize hv1:m.getD u1.toNat false=v1 at hyp
     generalize hv2:m.getD u2.toNat false=v2 at hym
     rw[List.foldl_append,List.foldl_cons,List.foldl_cons,List.foldl_nil]at hQ;cases v1 <;> cases v2
     all_goals
      unfold stepC at hQ;simp only[hv1,hv2,if_true,if_false,Bool.false_eq_true]at hQ;refine goN ?_;simp(maxSteps:=2000000)only[push_cast,seval,↓kw2,m0,t1,t2,t3,t7,t8,t9,hyp];refine⟨hb2,?_⟩;refine AC.pur hom ?_;refine goN ?_;simp(maxSteps:=2000000)only[push_cast,seval,↓kw2,m0,t1,t2,t3,t7,t8,t9,hym];refine⟨hb3,?_⟩;exact jh j (by omega) _ _ ⟨_,_,by omega,by omega,by rw[if_pos rfl]; exact hQ,m0,t1,t2,t3,(by first | exact t7 | rfl),t8,rfl⟩
 ·have d1:decide ((i:Int) < (l.length:Int))=false:=decide_eq_false (by omega);rw[List.drop_eq_nil_of_le (by omega)]at hT;obtain rfl:acc=T:=hT;refine goN ?_;simp(maxSteps:=2000000)only[push_cast,seval,↓kw2,m0,t1,t2,t3,t7,t8,hlen,d1];exact⟨_,rfl,2,rfl⟩
theorem odd_part:∀ n:Nat,0 < n→∃ k q:Nat,n=2^k*(2*q+1):=by
 intro n
 induction n using Nat.strongRecOn with
 | ind n ih =>
  intro h0
  rcases Nat.mod_two_eq_zero_or_one n with h | h
  ·obtain⟨k,q,e⟩:=ih (n / 2) (by omega) (by omega);refine⟨k+1,q,?_⟩;rw[Nat.pow_succ,Nat.mul_comm (2^k) 2,Nat.mul_assoc,← e];omega
  ·exact⟨0,n / 2,by omega⟩
theorem zFm{k q:Nat}:∀ j,(2^k*(2*q+1)).testBit j=(decide (j=k)||(decide (k < j)&&q.testBit (j - (k+1)))):=by
 intro j
 have e:2^k*(2*q+1)=2^(k+1)*q+2^k:=by rw[Nat.mul_add,Nat.mul_one,Nat.pow_succ,Nat.mul_assoc]
 rw[e,Nat.testBit_two_pow_mul_add _ (by rw[Nat.pow_succ]; have:=Nat.two_pow_pos k; omega),Nat.testBit_two_pow]
 by_cases h:j < k+1
 ·rw[if_pos h];have:decide (k < j)=false:=decide_eq_false (by omega);rw[this,Bool.false_and,Bool.or_false];exact decide_eq_decide.2 eq_comm
 ·rw[if_neg h];have h1:decide (k < j)=true:=decide_eq_true (by omega);have h2:decide (j=k)=false:=decide_eq_false (by omega);rw[h1,h2];rfl
theorem and_neg{k q:Nat}(h:2^k*(2*q+1) < 2^64):(2^k*(2*q+1)) &&& (2^64 - 2^k*(2*q+1))=2^k:=by
 have hk:k < 64:=by
  rcases Nat.lt_or_ge k 64 with h1 | h1
  ·exact h1
  ·exfalso
   have:=Nat.pow_le_pow_right (show 0 < 2 by decide) h1;have h2:2^k≤2^k*(2*q+1):=Nat.le_mul_of_pos_right _ (by omega);omega
 have e64:(2:Nat)^64=2^k*(2*2^(63 - k)):=by
  rw[Nat.mul_comm 2,← Nat.pow_succ,← Nat.pow_add]
  congr 1
  omega
 have hq:q < 2^(63 - k):=by
  rw[e64]at h;have:=Nat.lt_of_mul_lt_mul_left h;omega
 have e:2^64 - 2^k*(2*q+1)=2^k*(2*(2^(63 - k) - (q+1))+1):=by
  rw[e64,← Nat.mul_sub]
  congr 1
  omega
 rw[e];apply Nat.eq_of_testBit_eq
 intro j
 rw[Nat.testBit_and,zFm,zFm,Nat.testBit_two_pow_sub_succ hq,Nat.testBit_two_pow]
 by_cases h1:j=k
 ·simp[h1]
 ·have:¬k=j:=fun h=>h1 h.symm
  simp only[h1,this,decide_false,Bool.false_or];cases decide (k < j) <;> cases q.testBit (j - (k+1)) <;> simp
theorem tzI_nat{n:Nat}(h0:0 < n)(h:n < 2^64):tzI (n:Int)=(IntKind.u64.wrap (((n &&& (2^64 - n):Nat):Int)*285870213051353865)).fdiv (2^(min 58 IntKind.u64.bits)):=by
 unfold tzI;have e1:IntKind.u64.wrap (0 - (n:Int))=((2^64 - n:Nat):Int):=by rw[IntKind.wrap_u64]; omega
 have b1:(BitVec.ofInt IntKind.u64.bits (n:Int)).toNat=n:=by
  rw[BitVec.ofInt_natCast,BitVec.toNat_ofNat];exact Nat.mod_eq_of_lt (by show n < 2^64; omega)
 have b2:(BitVec.ofInt IntKind.u64.bits ((2^64 - n:Nat):Int)).toNat=2^64 - n:=by
  rw[BitVec.ofInt_natCast,BitVec.toNat_ofNat];exact Nat.mod_eq_of_lt (by show 2^64 - n < 2^64; omega)
 have e2:IntKind.u64.wrap ((n &&& (2^64 - n):Nat):Int)=((n &&& (2^64 - n):Nat):Int):=by
  rw[IntKind.wrap_u64];have:n &&& (2^64 - n)≤n:=Nat.and_le_left;omega
 rw[e1,BitVec.toNat_and,b1,b2,e2]
theorem tz_pow:∀ k:Nat,k < 64→tzV ((2^k:Nat):Int)=(k:Int):=by decide +kernel
theorem tzV_is{k q:Nat}(h:2^k*(2*q+1) < 2^64):k < 64∧tzV ((2^k*(2*q+1):Nat):Int)=(k:Int):=by
 have h0:0 < 2^k*(2*q+1):=Nat.mul_pos (Nat.two_pow_pos k) (by omega);have h2:2^k≤2^k*(2*q+1):=Nat.le_mul_of_pos_right _ (by omega);have hk:k < 64:=(Nat.pow_lt_pow_iff_right (by decide:1 < 2)).1 (Nat.lt_of_le_of_lt h2 h);refine⟨hk,?_⟩;have a1:=tzI_nat h0 h;rw[and_neg h]at a1;have a2:=tzI_nat (n:=2^k) (Nat.two_pow_pos k) (by omega);have a3:=and_neg (k:=k) (q:=0) (by simpa using Nat.lt_of_le_of_lt h2 h);rw[show 2^k*(2*0+1)=2^k by omega]at a3;rw[a3]at a2;rw[← tz_pow k hk];unfold tzV;rw[if_neg (by omega),if_neg (by have:=Nat.two_pow_pos k; omega),a1,a2]
theorem drop_low{k q:Nat}:(2^k*(2*q+1)) &&& (2^k*(2*q+1) - 1)=2^(k+1)*q:=by
 have hk:0 < 2^k:=Nat.two_pow_pos k;have e:2^k*(2*q+1)=2^(k+1)*q+2^k:=by rw[Nat.mul_add,Nat.mul_one,Nat.pow_succ,Nat.mul_assoc]
 have e2:2^k*(2*q+1) - 1=2^(k+1)*q+(2^k - 1):=by rw[e]; omega
 rw[e2];apply Nat.eq_of_testBit_eq
 intro j
 have hp:2^k - 1 < 2^(k+1):=by rw[Nat.pow_succ]; omega
 rw[Nat.testBit_and,zFm,Nat.testBit_two_pow_mul_add _ hp,Nat.testBit_two_pow_sub_one,Nat.testBit_two_pow_mul]
 by_cases h1:j < k+1
 ·rw[if_pos h1];have h2:decide (k < j)=false:=decide_eq_false (by omega);have h3:decide (k+1≤j)=false:=decide_eq_false (by omega);rw[h2,h3]
  by_cases h4:j=k
  ·simp[h4]
  ·simp[h4]
 ·rw[if_neg h1];have h2:decide (k < j)=true:=decide_eq_true (by omega);have h3:decide (k+1≤j)=true:=decide_eq_true (by omega);have h4:decide (j=k)=false:=decide_eq_false (by omega);rw[h2,h3,h4];simp
theorem wordL_is{i:Nat}(hi:i < 2^40):∀(m:Nat) (w:Int) (s:Nat),Lft m w→s≤64→(∀ j,j < s→w.toNat.testBit j=false)→wordL (i:Int) m w=((List.range' s (64 - s)).filter w.toNat.testBit).map fun j=>((64*i+j:Nat):Int)
 | 0,w,s,h,hs,hb=>by
  rw[h.zero];have:(List.range' s (64 - s)).filter (fun j=>(0:Nat).testBit j)=[]:=List.filter_eq_nil_iff.2 fun j _=>by simp
  show []=_;rw[show(0:Int).toNat=0 from rfl,this];rfl
 | m+1,w,s,h,hs,hb=>by
  unfold wordL
  by_cases h0:w=0
  ·rw[if_pos h0,h0];have:(List.range' s (64 - s)).filter (fun j=>(0:Nat).testBit j)=[]:=List.filter_eq_nil_iff.2 fun j _=>by simp
   rw[show(0:Int).toNat=0 from rfl,this];rfl
  ·rw[if_neg h0];have hu:=h.1;have hu':=hu;unfold inU at hu';obtain⟨k,q,e⟩:=odd_part w.toNat (by omega);have ew:w=((2^k*(2*q+1):Nat):Int):=by omega
   obtain⟨hk,ht⟩:=tzV_is (k:=k) (q:=q) (by omega);have hdr:=dropV_nat hu h0;rw[e,drop_low]at hdr;have hd:=h.drop h0;have hsk:s≤k:=by
    rcases Nat.lt_or_ge k s with h1 | h1
    ·have:=hb k h1;rw[e,zFm]at this;simp at this
    ·exact h1
   have hn:(dropV w).toNat=2^(k+1)*q:=by rw[hdr]; omega
   have ih:=wordL_is hi m (dropV w) (k+1) hd (by omega) fun j hj=>by
    rw[hn,Nat.testBit_two_pow_mul,decide_eq_false (by omega)];rfl
   have ht':tzV w=(k:Int):=by rw[ew]; exact ht
   have w1:=zAf (n:=64*(i:Int)) (by omega) (by omega);have w2:=zAf (n:=64*(i:Int)+(k:Int)) (by omega) (by omega);rw[ih,hn,ht',e,w1,w2];have hr:List.range' s (64 - s)=List.range' s (k - s)++k::List.range' (k+1) (64 - (k+1)):=by
    have e1:64 - s=(k - s)+((64 - (k+1))+1):=by omega
    have e2:s+1*(k - s)=k:=by omega
    rw[e1,← List.range'_append,e2,List.range'_succ]
   have f1:(List.range' s (k - s)).filter (2^k*(2*q+1)).testBit=[]:=List.filter_eq_nil_iff.2 fun j hj=>by
    have:=List.mem_range'_1.1 hj;rw[zFm,decide_eq_false (by omega),decide_eq_false (by omega)];simp
   have f2:(2^k*(2*q+1)).testBit k=true:=by rw[zFm]; simp
   have f3:(List.range' (k+1) (64 - (k+1))).filter (2^k*(2*q+1)).testBit=(List.range' (k+1) (64 - (k+1))).filter (2^(k+1)*q).testBit:=List.filter_congr fun j hj=>by
    have:=List.mem_range'_1.1 hj;rw[zFm,Nat.testBit_two_pow_mul,decide_eq_false (by omega),decide_eq_true (show k < j by omega),decide_eq_true (show k+1≤j by omega)];rfl
   rw[hr,List.filter_append,f1,List.filter_cons,if_pos f2,f3,List.nil_append,List.map_cons]
   congr 1
theorem upto_allB{ws:List Int}(hw:∀ w∈ws,inU w):∀(n i:Nat),i+n < 2^30→upto (fun i=>wordL i 64 (ws.getD i.toNat 0)) (i:Int) n=((List.range' (64*i) (64*n)).filter (zBa ws)).map Int.ofNat
 | 0,i,_=>rfl
 | n+1,i,h=>by
  rw[zCq,show((i:Int)+1)=((i+1:Nat):Int) by omega,upto_allB hw n (i+1) (by omega),Int.toNat_natCast,
   wordL_is (by omega) 64 _ 0 (Lft.start (zDg hw i)) (by omega) (fun j hj=>by omega),
   show 64*(n+1)=64+64*n by omega,← List.range'_append,List.filter_append,List.map_append,show 64*i+1*64=64*(i+1) by omega]
  congr 1
  rw[show List.range' (64*i) 64=(List.range' 0 64).map (64*i+·) by rw[List.map_add_range',Nat.add_zero],List.filter_map,List.map_map];have:(List.range' 0 (64 - 0)).filter (ws.getD i 0).toNat.testBit=(List.range' 0 64).filter (zBa ws ∘ (64*i+·)):=List.filter_congr fun j hj=>by
   have:=List.mem_range'_1.1 hj;show _=zBa ws (64*i+j);unfold zBa;rw[show(64*i+j) / 64=i by omega,show(64*i+j) % 64=j by omega]
  rw[this];rfl
theorem allB_is(ws:List Int)(n:Nat):allB ws n=((List.range n).filter (zBa ws)).map Int.ofNat:=by
 unfold allB;rw[List.filter_map];rfl
theorem list_allB{ws:List Int}(hw:∀ w∈ws,inU w)(hl:ws.length≤2^20):listL ws=allB ws (64*ws.length):=by
 rw[allB_is,List.range_eq_range'];exact upto_allB hw ws.length 0 (by omega)
end Go.Ab.Pd
namespace Go.Ab.On
def cnt(n x:Nat):Nat:=((List.range n).filter x.testBit).length
theorem g_cnt:∀ r,r < 256→g r=cnt 8 r:=by decide +kernel
theorem cnt_add(n x:Nat):cnt (8+n) x=cnt 8 (x % 256)+cnt n (x / 256):=by
 unfold cnt;rw[List.range_add,List.filter_append,List.length_append,List.filter_map,List.length_map]
 congr 1
 ·have:(List.range 8).filter x.testBit=(List.range 8).filter (x % 256).testBit:=List.filter_congr fun j hj=>by
   have:=List.mem_range.1 hj;rw[show(256:Nat)=2^8 from rfl,Nat.testBit_mod_two_pow,decide_eq_true this,Bool.true_and]
  rw[this]
 ·have:(List.range n).filter (x.testBit ∘ fun j=>8+j)=(List.range n).filter (x / 256).testBit:=List.filter_congr fun j hj=>by
   show x.testBit (8+j)=_;rw[Nat.add_comm,Nat.testBit_add]
  rw[this]
theorem ones_cnt{x:Nat}:ones x=cnt 64 x:=by
 have hy:=step 7 x;rw[step 6,step 5,step 4,step 3,step 2,step 1,step 0,y30]at hy;obtain⟨h1,_,_,_⟩:=sum_is (g_le x) (g_le _) (g_le _) (g_le _) (g_le _) (g_le _) (g_le _) (g_le _) (by simpa using hy);have e:∀ z:Nat,g (z % 256)=cnt 8 (z % 256):=fun z=>g_cnt _ (Nat.mod_lt _ (by decide))
 have c0:∀ z:Nat,cnt 0 z=0:=fun z=>rfl
 unfold ones;rw[h1,e,e,e,e,e,e,e,e,show 64=8+(8+(8+(8+(8+(8+(8+(8+0))))))) from rfl,
  cnt_add,cnt_add,cnt_add,cnt_add,cnt_add,cnt_add,cnt_add,cnt_add,c0]
 omega
end Go.Ab.On
namespace Go.Ab.Pd
open Go.Proofs
theorem sum_len:∀(ws:List Int),sumC ws=((allB ws (64*ws.length)).length:Int)
 | []=>rfl
 | w::ws=>by
  have ih:=sum_len ws;unfold sumC at ih ⊢;rw[allB_is,List.length_map]at ih ⊢;rw[List.map_cons,List.sum_cons,List.length_cons,show 64*(ws.length+1)=64+64*ws.length by omega,List.range_add,List.filter_append,List.length_append,List.filter_map,List.length_map,On.ones_cnt];have e1:(List.range 64).filter (zBa (w::ws))=(List.range 64).filter w.toNat.testBit:=List.filter_congr fun j hj=>by
   have:=List.mem_range.1 hj;unfold zBa;rw[show j / 64=0 by omega,show j % 64=j by omega];rfl
  have e2:(List.range (64*ws.length)).filter (zBa (w::ws) ∘ fun j=>64+j)=(List.range (64*ws.length)).filter (zBa ws):=List.filter_congr fun j hj=>by
   show zBa (w::ws) (64+j)=_;unfold zBa;rw[show(64+j) / 64=j / 64+1 by omega,show(64+j) % 64=j % 64 by omega,List.getD_cons_succ]
  rw[e1,e2];unfold On.cnt;omega
theorem andn_bit{xs ys:List Int}(hx:∀ w∈xs,inU w)(hy:∀ w∈ys,inU w)(hl:xs.length=ys.length)(m:Nat):zBa (List.zipWith zFr xs ys) m=(zBa xs m&&!zBa ys m):=by
 by_cases h:m / 64 < xs.length
 ·have e:(List.zipWith zFr xs ys).getD (m / 64) 0=zFr (xs.getD (m / 64) 0) (ys.getD (m / 64) 0):=by
   simp[List.getD,List.getElem?_zipWith,h,(by omega:m / 64 < ys.length)]
  have u1:=zDg hx (m / 64);have u2:=zDg hy (m / 64);unfold zBa;rw[e,zFr];have hle:=BitVec.isLt (BitVec.ofInt IntKind.u64.bits (xs.getD (m / 64) 0) &&& ~~~BitVec.ofInt IntKind.u64.bits (ys.getD (m / 64) 0));rw[wrapU (nU hle),Int.toNat_natCast,BitVec.testBit_toNat,BitVec.getLsbD_and,BitVec.getLsbD_not,← BitVec.testBit_toNat,← BitVec.testBit_toNat,toNat_U u1,toNat_U u2];have:decide (m % 64 < IntKind.u64.bits)=true:=decide_eq_true (by show m % 64 < 64; omega);rw[this,Bool.true_and]
 ·rw[zDk (by rw[List.length_zipWith]; omega),zDk (ws:=xs) (by omega),Bool.false_and]
theorem foldl_mem{α β:Type}{f g:β→α→β}:∀ {l:List α} {x:β},(∀ a∈l,∀ b,f b a=g b a)→l.foldl f x=l.foldl g x
 | [],_,_=>rfl
 | a::l,x,h=>by
  rw[List.foldl_cons,List.foldl_cons,h a List.mem_cons_self];exact foldl_mem fun a' h'=>h a' (List.mem_cons_of_mem _ h')
theorem sideL_in{a b c m k o:Int}(hk:0≤k∧k≤2)(hm:inM a b c m)(h:o∈sideL a b c m k):0≤o∧o < a*b*c:=by
 unfold sideL at h
 split at h
 ·cases h
 ·simp only[List.mem_cons,List.not_mem_nil,or_false]at h
  rcases h with rfl | rfl
  ·exact(step_ok hk hm).2
  ·exact(step_ok hk hm).2
theorem stepM_congr{a b c m acc:Int}{f g:Int→Bool}(hm:inM a b c m)(h:∀ o,0≤o→o < a*b*c→f o=g o):stepM a b c f acc m=stepM a b c g acc m:=by
 unfold stepM;refine foldl_mem fun o ho z=>?_
 have:∃ k,(0≤k∧k≤2)∧o∈sideL a b c m k:=by
  have:o∈sideL a b c m 0++(sideL a b c m (0+1)++(sideL a b c m (0+1+1)++[])):=ho;simp only[List.mem_append,List.not_mem_nil,or_false]at this
  rcases this with h | h | h
  ·exact⟨0,by omega,h⟩
  ·exact⟨1,by omega,h⟩
  ·exact⟨2,by omega,h⟩
 obtain⟨k,hk,ho⟩:=this;obtain⟨h0,h1⟩:=sideL_in hk hm ho;unfold stepC;rw[h o h0 h1]
theorem cntF_is(a b c:Int)(has:Int→Bool)(ws:List Int):∀(n i:Nat) (acc:Int),cntF a b c has ((List.range' i n).map (zBa ws)) i acc=(((List.range' i n).filter (zBa ws)).map Int.ofNat).foldl (stepM a b c has) acc
 | 0,_,_=>rfl
 | n+1,i,acc=>by
  rw[List.range'_succ,List.map_cons,cntF,cntF_is a b c has ws n (i+1),List.filter_cons]
  split
  ·rw[List.map_cons,List.foldl_cons]; rfl
  ·rfl
theorem range_cut{f:Nat→Bool}{n m:Nat}(h:n≤m)(hf:∀ j,n≤j→f j=false):(List.range m).filter f=(List.range n).filter f:=by
 obtain⟨d,rfl⟩:∃ d,m=n+d:=⟨m - n,by omega⟩;rw[List.range_add,List.filter_append];have:((List.range d).map fun j=>n+j).filter f=[]:=List.filter_eq_nil_iff.2 fun j hj=>by
  obtain⟨k,_,rfl⟩:=List.mem_map.1 hj;rw[hf _ (by omega)];decide
 rw[this,List.append_nil]
theorem notL_getD:∀ {l m:List Bool} {i:Nat},i < l.length→l.length=m.length→(notL l m).getD i false=(!(l.getD i false)&&!(m.getD i false))
 | [],_,_,h,_=>by simp at h
 | _::_,[],_,_,h=>by simp at h
 | x::l,y::m,0,_,_=>rfl
 | x::l,y::m,i+1,h,e=>by
  rw[notL,List.getD_cons_succ,List.getD_cons_succ,List.getD_cons_succ];exact notL_getD (by simpa using h) (by simpa using e)
theorem truL_getD{n i:Nat}(ws:List Int)(h:i < n):(truL n ws).getD i false=zBa ws i:=by
 unfold truL;simp[List.getD,h]
theorem cnt_score{a b c:Int}(hd:okD a b c){ws os:List Int}(hw:∀ w∈ws,inU w)(ho:∀ w∈os,inU w)(lw:(ws.length:Int)=(a*b*c+63) / 64)(lo:(os.length:Int)=(a*b*c+63) / 64)(bo:∀ j:Nat,a*b*c≤(j:Int)→zBa os j=false) :
  (listL os).foldl (stepM a b c (inS (a*b*c) (List.zipWith zFr (othW (a*b*c) ws) os))) 0
   = cntF a b c (fun o=>(notL (truL (a*b*c).toNat ws) (truL (a*b*c).toNat os)).getD o.toNat false) (truL (a*b*c).toNat os) 0 0:=by
 have hmu:=zAy hd;have hN1:1≤a*b*c:=by
  have:=hd;unfold okD at this;have h1:1≤a*b:=Int.mul_pos (by omega) (by omega);exact Int.mul_pos (by omega) (by omega)
 rw[list_allB ho (by omega),allB_is,range_cut (n:=(a*b*c).toNat) (by omega) (fun j hj=>bo j (by omega))];have e:=cntF_is a b c (fun o=>(notL (truL (a*b*c).toNat ws) (truL (a*b*c).toNat os)).getD o.toNat false) os (a*b*c).toNat 0 0;rw[← List.range_eq_range']at e;refine Eq.trans ?_ e.symm;refine foldl_mem fun m hm acc=>?_
 obtain⟨j,hj,rfl⟩:=List.mem_map.1 hm;have hjm:=List.mem_range.1 (List.mem_filter.1 hj).1;refine stepM_congr ⟨hd,by show 0≤(j:Int)∧(j:Int) < _; omega⟩ fun o h0 h1=>?_
 have la:(ofL (a*b*c) (allL (a*b*c))).length=ws.length:=by
  rw[zBf,zAs,if_pos (by omega)];omega
 have lz:(othW (a*b*c) ws).length=ws.length:=by
  unfold othW;rw[List.length_zipWith];omega
 have t:decide (0≤o∧o < a*b*c)=true:=decide_eq_true ⟨h0,h1⟩;have hoth:∀ w∈othW (a*b*c) ws,inU w:=zip_inU andn_inU _ _;unfold inS;rw[t,Bool.true_and,andn_bit hoth ho (by omega),notL_getD (by rw[truL_len]; omega) (by rw[truL_len,truL_len]),truL_getD _ (by omega),truL_getD _ (by omega)];unfold othW;have hal:zBa (ofL (a*b*c) (allL (a*b*c))) o.toNat=true:=by
  rw[zEb ⟨by omega,by omega⟩ (fun k hk=>allL_mem hk)];refine decide_eq_true ?_;unfold allL;exact zFd (i:=o) h0 (by omega) (List.mem_singleton.2 (by omega))
 rw[andn_bit (zCu _ _) hw la,hal,Bool.true_and]
theorem box_own{a b c:Int}(hd:okD a b c){x y z p q r:Int}(hb:okB a b c x y z p q r):ofL (a*b*c) (boxL a b c x y z p q r)=ofL (a*b*c) (zAv a b c x y z p q r):=by
 have hmu:=zAy hd;have hn:∀ k∈zAv a b c x y z p q r,0≤k∧k < a*b*c:=fun k hk=>(zCn hd hb hk).2
 have hN1:1≤a*b*c:=by
  unfold okD at hd;have h1:1≤a*b:=Int.mul_pos (by omega) (by omega);exact Int.mul_pos (by omega) (by omega)
 refine words_ext (zCu _ _) (zCu _ _) (by rw[zBf,zBf]) fun m=>?_
 rw[zEb (by omega) (fun k hk=>hn k ((zEn hd hb).1 hk)),zEb (by omega) hn];exact decide_eq_decide.2 (zEn hd hb)
theorem cab_own{a b c:Int}(hd:okD a b c){x y z p q r:Int}{s t u:Bool}(hb:okB a b c x y z p q r):ofL (3*(a*b*c)) (cabL a b c x y z p q r s t u)=ofL (3*(a*b*c)) (zCc a b c x y z p q r s t u):=by
 have hmu:=zAy hd;have hn:∀ k∈zCc a b c x y z p q r s t u,0≤k∧k < 3*(a*b*c):=fun k hk=>links_mem hd hb k hk
 have hN1:1≤a*b*c:=by
  unfold okD at hd;have h1:1≤a*b:=Int.mul_pos (by omega) (by omega);exact Int.mul_pos (by omega) (by omega)
 refine words_ext (zCu _ _) (zCu _ _) (by rw[zBf,zBf]) fun m=>?_
 rw[zEb (by omega) (fun k hk=>hn k ((cabL_mem hd hb k).1 hk)),zEb (by omega) hn];exact decide_eq_decide.2 (cabL_mem hd hb _)
theorem e49:Ent Tryz.prog 49 Tryz.f49 [] 3:=.mk Tryz.func49 rfl
attribute [push_cast] Tryz.f49
theorem score14{a b c:Int}{X:Plc}(hX:X.ok a b c){sv:AV}{ws:List Int}(hs:IsSl sv (ws.map U))(hw:∀ w∈ws,inU w)(lw:(ws.length:Int)=(a*b*c+63) / 64):Pur Tryz.prog GG 49 [.agg [I a,I b,I c],X.av,sv] (I (scV a b c ws X)):=by
 have hpu:=hs.pur (zAe U _ fun _=>rfl);obtain⟨x,y,z,p,q,r,s,t,u⟩:=X;have hd:=hX.1;have hb:=hX.2.1;have hmu:=zAy hd;have hN1:1≤a*b*c:=by
  have:=hd;unfold okD at this;have h1:1≤a*b:=Int.mul_pos (by omega) (by omega);exact Int.mul_pos (by omega) (by omega)
 have hmv:zAg a b c=a*b*c:=by rw[zAg,if_pos hd]
 have hT:=taken06 s t u hd hb;rw[box_own hd hb,cab_own hd hb]at hT;have io:=zCu (a*b*c) (zAv a b c x y z p q r);have il:=zCu (3*(a*b*c)) (zCc a b c x y z p q r s t u);have lo:((ofL (a*b*c) (zAv a b c x y z p q r)).length:Int)=(a*b*c+63) / 64:=by
  rw[zBf,zAs,if_pos (by omega)]; omega
 have ll:((ofL (3*(a*b*c)) (zCc a b c x y z p q r s t u)).length:Int)=(3*(a*b*c)+63) / 64:=by
  rw[zBf,zAs,if_pos (by omega)]; omega
 have bo:∀ j:Nat,a*b*c≤(j:Int)→zBa (ofL (a*b*c) (zAv a b c x y z p q r)) j=false:=fun j hj=>by
  rw[zEb (by omega) (fun k hk=>(zCn hd hb hk).2)];refine decide_eq_false fun hm=>?_
  have:=(zCn hd hb hm).2;omega
 have e:=cnt_score hd hw io lw lo bo;have e2:=sum_len (ofL (3*(a*b*c)) (zCc a b c x y z p q r s t u));have hsc:scV a b c ws ⟨x,y,z,p,q,r,s,t,u⟩=IntKind.i64.wrap (IntKind.i64.wrap (2*cntF a b c (fun o=>(notL (truL (a*b*c).toNat ws) (truL (a*b*c).toNat (ofL (a*b*c) (zAv a b c x y z p q r)))).getD o.toNat false) (truL (a*b*c).toNat (ofL (a*b*c) (zAv a b c x y z p q r))) 0 0)+((allB (ofL (3*(a*b*c)) (zCc a b c x y z p q r s t u)) (64*(ofL (3*(a*b*c)) (zCc a b c x y z p q r s t u)).length)).length:Int)):=by
  unfold scV;rw[hmv,e,e2]
 rw[hsc];clear hsc e e2
 generalize ofL (a*b*c) (zAv a b c x y z p q r)=os at hT io lo bo ⊢
 generalize ofL (3*(a*b*c)) (zCc a b c x y z p q r s t u)=ls at hT il ll ⊢
 have p1:=truths14 hd (.inl rfl) io (by omega);have p2:=truths14 hd hs hw (by omega);have l1:=truL_len (a*b*c).toNat os;have l2:=truL_len (a*b*c).toNat ws;have p3:=not14 (IsSl.frS ((truL (a*b*c).toNat ws).map BA)) (IsSl.frS ((truL (a*b*c).toNat os).map BA)) (by omega) (by omega);have l3:=notL_len (l:=truL (a*b*c).toNat ws) (m:=truL (a*b*c).toNat os) (by omega);have p4:=counted14 hd (IsSl.frS ((truL (a*b*c).toNat os).map BA)) (IsSl.frS ((notL (truL (a*b*c).toNat ws) (truL (a*b*c).toNat os)).map BA)) (by omega) (by omega);have p5:=all3_pur (.inl rfl) il (by omega);have hlen:=(IsSl.frS ((allB ls (64*ls.length)).map IA)).len (P:=Tryz.prog) un60;rw[List.length_map]at hlen;show Pur Tryz.prog GG 49 [.agg [I a,I b,I c],PL x y z p q r s t u,sv] _
 generalize truL (a*b*c).toNat os=TO at p1 p3 p4 l1 l3 ⊢
 generalize truL (a*b*c).toNat ws=TW at p2 p3 p4 l2 l3 ⊢
 generalize allB ls (64*ls.length)=AL at p5 hlen ⊢
 generalize cntF a b c (fun o=>(notL TW TO).getD o.toNat false) TO 0 0=CN at p4 ⊢
 refine goQ e49 TOk.nil 0 ?_ (by simp[AV.purL,AV.pur,hpu]);simp(maxSteps:=2000000)only[push_cast,seval,↓kw2];refine AC.pur hT ?_;refine goN ?_;simp(maxSteps:=2000000)only[push_cast,seval,↓kw2];refine AC.pur p1 ?_;refine goN ?_;simp(maxSteps:=2000000)only[push_cast,seval,↓kw2];refine⟨_,toVB p2,_,toVB p3,_,toVB p4,?_⟩;simp(maxSteps:=2000000)only[push_cast,seval,↓kw2];refine⟨_,toVB p5,?_⟩;simp(maxSteps:=2000000)only[push_cast,seval,↓kw2,hlen];exact⟨_,rfl,2,rfl⟩
def lessL:List Int→List Int→Bool
 | x::l,y::m=>if x=y then lessL l m else decide (x < y)
 | _,_=>false
theorem lessL_drop{l m:List Int}{i:Nat}(h:i < l.length)(h2:l.length=m.length):lessL (l.drop i) (m.drop i)=if l.getD i 0=m.getD i 0 then lessL (l.drop (i+1)) (m.drop (i+1)) else decide (l.getD i 0 < m.getD i 0):=by
 have e1:l.getD i 0=l[i]:=by simp[List.getD,h]
 have e2:m.getD i 0=m[i]:=by simp[List.getD,(by omega:i < m.length)]
 rw[List.drop_eq_getElem_cons h,List.drop_eq_getElem_cons (by omega:i < m.length),lessL,e1,e2]
theorem e22:Ent Tryz.prog 22 Tryz.f22 [] 2:=.mk Tryz.func22 rfl
attribute [push_cast] Tryz.f22
theorem less15{s r:AV}{l m:List Int}(hs:IsSl s (l.map IA))(hr:IsSl r (m.map IA))(hlm:l.length=m.length)(hl:l.length≤2^16):Pur Tryz.prog GG 22 [s,r] (B (lessL l m)):=by
 have hpu:=hs.pur (zAe IA _ fun _=>rfl);have hpr:=hr.pur (zAe IA _ fun _=>rfl);have hlen:=hs.len (P:=Tryz.prog) un60;rw[List.length_map]at hlen;have hix:=fun(i:Nat) (hi:i < l.length) (H:List AO)=>hs.idx (P:=Tryz.prog) un60 sz3 (i:=(i:Int)) (by rw[List.length_map]; omega) (by omega) H
 have hiy:=fun(i:Nat) (hi:i < l.length) (H:List AO)=>hr.idx (P:=Tryz.prog) un60 sz3 (i:=(i:Int)) (by rw[List.length_map]; omega) (by omega) H
 generalize hT:lessL l m=T
 refine goQ e22 TOk.nil 0 ?_ (by simp[AV.purL,AV.pur,hpu,hpr]);simp(maxSteps:=2000000)only[push_cast,seval,↓kw2];refine FW.loopInv (fun n ts H=>∃ i:Nat,i+n=l.length∧lessL (l.drop i) (m.drop i)=T∧ts 0=s∧ts 1=r∧ts 5=I (i:Int)) l.length ⟨0,by omega,hT,rfl,rfl,rfl⟩ ?_
 rintro n ih ts H ⟨i,hi,hT,t0,t1,t5⟩
 refine FW.inLoop ?_;have w2:=zAf (n:=(i:Int)+1) (by omega) (by omega)
 by_cases hlt:i < l.length
 ·have d1:decide ((i:Int) < (l.length:Int))=true:=decide_eq_true (by omega);have hxi:=hix i hlt;have hyi:=hiy i hlt;rw[Int.toNat_natCast,zAm IA l 0 hlt]at hxi;rw[Int.toNat_natCast,zAm IA m 0 (by omega)]at hyi;rw[lessL_drop hlt hlm]at hT
  generalize l.getD i 0=x at hxi hT
  generalize m.getD i 0=y at hyi hT
  have hb1:(0≤(i:Int)∧(i:Int) < ((l.map IA).length:Int)):=⟨by omega,by rw[List.length_map]; omega⟩;have hb2:(0≤(i:Int)∧(i:Int) < ((m.map IA).length:Int)):=⟨by omega,by rw[List.length_map]; omega⟩
  by_cases hxy:x=y
  ·rw[if_pos hxy]at hT;have d2:decide (x≠y)=false:=decide_eq_false (by omega);refine goN ?_;simp(maxSteps:=2000000)only[push_cast,seval,↓kw2,t0,t1,t5,hlen,d1,hxi,hyi,d2,w2]
   repeat (first | refine⟨hb1,?_⟩ | refine⟨hb2,?_⟩)
   exact ih (n - 1) (by omega) _ _ ⟨i+1,by omega,hT,t0,t1,rfl⟩
  ·rw[if_neg hxy]at hT;have d2:decide (x≠y)=true:=decide_eq_true hxy;refine goN ?_;simp(maxSteps:=2000000)only[push_cast,seval,↓kw2,t0,t1,t5,hlen,d1,hxi,hyi,d2,w2]
   repeat (first | refine⟨hb1,?_⟩ | refine⟨hb2,?_⟩)
   exact⟨_,rfl,2,by rw[hT]; rfl⟩
 ·have d1:decide ((i:Int) < (l.length:Int))=false:=decide_eq_false (by omega);rw[List.drop_eq_nil_of_le (by omega)]at hT;obtain rfl:false=T:=hT;refine goN ?_;simp(maxSteps:=2000000)only[push_cast,seval,↓kw2,t0,t1,t5,hlen,d1];exact⟨_,rfl,2,rfl⟩
theorem orV_assoc(a b c:Int):orV (orV a b) c=orV a (orV b c):=by
 unfold orV
 by_cases h:a=0 <;> by_cases k:b=0 <;> simp[h,k]
theorem orV_lt(m n R:Int)(l k:List Int)(h:lessL l k=decide (R < 0)):lessL (m::l) (n::k)=decide (orV (cmpV m n) R < 0):=by
 rw[lessL];unfold orV cmpV
 by_cases h1:m < n
 ·rw[if_neg (by omega),if_pos h1,if_neg (by decide),decide_eq_true h1];decide
 ·by_cases h2:n < m
  ·rw[if_neg (by omega),if_neg h1,if_pos h2,if_neg (by decide),decide_eq_false h1];decide
  ·rw[if_pos (by omega),if_neg h1,if_neg h2,if_pos rfl,h]
def keyL(a b c:Int)(sc:Plc→Int)(X:Plc):List Int:=[sc X,atV a b c X.x X.y X.z,X.p,X.q,X.r,bitV X.s,bitV X.t,bitV X.u]
theorem key_less(a b c:Int)(sc:Plc→Int)(X Y:Plc):lessL (keyL a b c sc X) (keyL a b c sc Y)=decide (cmpS a b c sc X Y < 0):=by
 unfold cmpS cmp2 lexV keyL;rw[orV_assoc,orV_assoc];refine orV_lt _ _ _ _ _ (orV_lt _ _ _ _ _ (orV_lt _ _ _ _ _ (orV_lt _ _ _ _ _ (orV_lt _ _ _ _ _ (orV_lt _ _ _ _ _ (orV_lt _ _ _ _ _ ?_))))));rw[orV_lt _ _ 0 [] [] rfl]
 congr 1
 unfold orV
 split <;> simp_all
theorem e21:Ent Tryz.prog 21 Tryz.f21 [] 3:=.mk Tryz.func21 rfl
attribute [push_cast] Tryz.f21
theorem key15{a b c:Int}{X:Plc}(hX:X.ok a b c){sv:AV}{ws:List Int}(hs:IsSl sv (ws.map U))(hw:∀ w∈ws,inU w)(lw:(ws.length:Int)=(a*b*c+63) / 64):Pur Tryz.prog GG 21 [.agg [I a,I b,I c],X.av,sv] (.isl ((keyL a b c (scV a b c ws) X).map IA)):=by
 have hpu:=hs.pur (zAe U _ fun _=>rfl);have hS:=score14 hX hs hw lw;obtain⟨x,y,z,p,q,r,s,t,u⟩:=X;have hd:=hX.1;have hb:okB a b c x y z p q r:=hX.2.1;have hN:=num01 a b c x y z ⟨hd,by
  unfold okB ok1 at hb;unfold okP;omega⟩
 unfold keyL;show Pur Tryz.prog GG 21 [.agg [I a,I b,I c],PL x y z p q r s t u,sv] _
 generalize scV a b c ws ⟨x,y,z,p,q,r,s,t,u⟩=sc at hS ⊢
 simp only
 generalize atV a b c x y z=n at hN ⊢
 refine goQ e21 TOk.nil 0 ?_ (by simp[AV.purL,AV.pur,hpu]);simp(maxSteps:=2000000)only[push_cast,seval,↓kw2];refine⟨_,toVB hS,_,toVB hN,?_⟩;simp(maxSteps:=2000000)only[push_cast,seval,↓kw2];refine FW.loopInv (fun j ts H=>∃(k:Nat) (o:AV),k+j=3∧OwnK 1 H o ((([sc,n,p,q,r,bitV s,bitV t,bitV u]:List Int).take (5+k)).map IA)∧zAl o≠some 0∧zAl o≠some 1∧H[0]?=some (.cells [I a,I b,I c])∧H[1]?=some (.cells [I x,I y,I z,I p,I q,I r,B s,B t,B u])∧ts 3=.ptr 0 0∧ts 4=.ptr 1 0∧ts 7=o∧ts 8=I (k:Int)) 3 ⟨0,.sl 2 0 5 5,by omega,OwnK.row (es:=[I sc,I n,I p,I q,I r]) rfl (by simp),by simp[zAl],by simp[zAl],rfl,rfl,rfl,rfl,rfl,rfl⟩ ?_
 rintro j jh ts H ⟨k,o,hk,hown,ho0,ho1,m0,m1,t3,t4,t7,t8⟩
 refine FW.inLoop ?_;have hl0:=zAb m0;have hl1:=zAb m1;have hap:=fun v=>zFg (P:=Tryz.prog) (k:=1) un60 un60 ze3 rfl by3 hown v
 cases j with
 | zero =>
  obtain rfl:k=3:=by omega
  refine goN ?_;simp(maxSteps:=2000000)only[push_cast,seval,↓kw2,m0,m1,t3,t4,t7,t8];exact⟨_,rfl,2,hown.frz rfl⟩
 | succ j =>
  have hkk:k=0∨k=1∨k=2:=by omega
  rcases hkk with rfl | rfl | rfl
  ·cases s
   all_goals
    refine goN ?_;simp(maxSteps:=2000000)only[push_cast,seval,↓kw2,m0,m1,t3,t4,t7,t8,hap];refine⟨zBq (by decide) (by decide),?_⟩;exact jh j (by omega) _ _ ⟨1,_,by omega,apHk_own,zEc (by omega),zEc (by omega),(zBe hl0 ho0).trans m0,(zBe hl1 ho1).trans m1,t3,t4,rfl,rfl⟩
  ·cases t
   all_goals
    refine goN ?_;simp(maxSteps:=2000000)only[push_cast,seval,↓kw2,m0,m1,t3,t4,t7,t8,hap];refine⟨zBq (by decide) (by decide),?_⟩;exact jh j (by omega) _ _ ⟨2,_,by omega,apHk_own,zEc (by omega),zEc (by omega),(zBe hl0 ho0).trans m0,(zBe hl1 ho1).trans m1,t3,t4,rfl,rfl⟩
  ·cases u
   all_goals
    refine goN ?_;simp(maxSteps:=2000000)only[push_cast,seval,↓kw2,m0,m1,t3,t4,t7,t8,hap];refine⟨zBq (by decide) (by decide),?_⟩;exact jh j (by omega) _ _ ⟨3,_,by omega,apHk_own,zEc (by omega),zEc (by omega),(zBe hl0 ho0).trans m0,(zBe hl1 ho1).trans m1,t3,t4,rfl,rfl⟩
theorem e18:Ent Tryz.prog 18 Tryz.f18 [] 4:=.mk Tryz.func18 rfl
attribute [push_cast] Tryz.f18
theorem best15{a b c:Int}(hd:okD a b c)(w:Wnt){s r:AV}{xs ys:List Int}(hs:IsSl s (xs.map U))(hr:IsSl r (ys.map U))(hx:∀ w∈xs,inU w)(hy:∀ w∈ys,inU w)(lx:(xs.length:Int)=(a*b*c+63) / 64)(ly:ys.length≤2^12){F:List Plc}(hF:(wholeL a b c w).filter (zEa a b c xs ys)=F)(hok:∀ X∈F,X.ok a b c)(hl:F.length≤2^20) :
  Pur Tryz.prog GG 18 [.agg [I a,I b,I c],w.av,s,r] (.tup [(if F=[] then PL 0 0 0 0 0 0 false false false else (minF a b c (scV a b c xs) F).av),B (decide (F≠[]))]):=by
 have hps:=hs.pur (zAe U _ fun _=>rfl);have hpr:=hr.pur (zAe U _ fun _=>rfl);have hmu:=zAy hd;have hC:=clear12 hd w hs hr hx hy (by omega) ly;rw[hF]at hC;have hK:=fun(X:Plc) (hX:X∈F)=>key15 (hok X hX) hs hx lx
 have hlen:=(IsSl.frS (F.map Plc.av)).len (P:=Tryz.prog) un39;rw[List.length_map]at hlen;have hix:=fun(i:Nat) (hi:i < F.length) (H:List AO)=>(IsSl.frS (F.map Plc.av)).idx (P:=Tryz.prog) un39 sz32 (i:=(i:Int)) (by rw[List.length_map]; omega) (by omega) H
 have hpf:(frS (F.map Plc.av)).pur=true:=(IsSl.frS (F.map Plc.av)).pur (zAe Plc.av _ fun _=>rfl)
 generalize frS (F.map Plc.av)=fs at hC hlen hix hpf
 clear hF hd;obtain⟨p,q,u,v1,v2,v3,v4⟩:=w;show Pur Tryz.prog GG 18 [.agg [I a,I b,I c],WT p q u v1 v2 v3 v4,s,r] _
 generalize hsc:scV a b c xs=sc at hK ⊢
 by_cases h0:F=[]
 ·have d0:decide ((F.length:Int)=0)=true:=decide_eq_true (by rw[h0]; rfl);rw[if_pos h0,decide_eq_false (fun h:F≠[]=>h h0)];refine goQ e18 TOk.nil 0 ?_ (by simp[AV.purL,AV.pur,hps,hpr]);simp(maxSteps:=2000000)only[push_cast,seval,↓kw2];refine AC.pur hC ?_;refine goN ?_;simp(maxSteps:=2000000)only[push_cast,seval,↓kw2,hlen,d0];exact⟨_,rfl,2,rfl⟩
 ·have hpos:0 < F.length:=List.length_pos_iff.2 h0;have d0:decide ((F.length:Int)=0)=false:=decide_eq_false (by omega);have dn:decide (F≠[])=true:=decide_eq_true h0;have hx0:=hix 0 hpos;rw[show((0:Nat):Int)=0 from rfl]at hx0;rw[show(0:Int).toNat=0 from rfl,zAm Plc.av F default hpos]at hx0;rw[if_neg h0,dn];unfold minF;have hm0:F.getD 0 default∈F:=by simp[List.getD,hpos]
  generalize hM:minL (ltS a b c sc) (F.getD 0 default) (F.drop 1)=M
  generalize F.getD 0 default=x0 at hx0 hm0 hM
  have hc0:=Plc.cells x0;have hb0:(0≤(0:Int)∧(0:Int) < ((F.map Plc.av).length:Int)):=⟨by omega,by rw[List.length_map]; omega⟩;refine goQ e18 TOk.nil 0 ?_ (by simp[AV.purL,AV.pur,hps,hpr]);simp(maxSteps:=2000000)only[push_cast,seval,↓kw2];refine AC.pur hC ?_;refine goN ?_;simp(maxSteps:=2000000)only[push_cast,seval,↓kw2,hlen,d0,hx0,hc0];refine⟨hb0.2,?_⟩;refine AC.pur (hK x0 hm0) ?_;refine goN ?_;simp(maxSteps:=2000000)only[push_cast,seval,↓kw2];refine FW.loopInv (fun n ts H=>∃(i:Nat) (m:Plc),i+n=F.length∧1≤i∧minL (ltS a b c sc) m (F.drop i)=M∧m∈F∧H[0]?=some (.cells [I a,I b,I c])∧(∃ o,H[1]?=some o)∧H[2]?=some (.cells [I 0,I 0,I 0,I 0,I 0,I 0,B false,B false,B false])∧H[3]?=some (.cells [I m.x,I m.y,I m.z,I m.p,I m.q,I m.r,B m.s,B m.t,B m.u])∧ts 2=s∧ts 4=.ptr 0 0∧ts 8=.ptr 2 0∧ts 10=fs∧ts 11=.ptr 3 0∧ts 12=.isl ((keyL a b c sc m).map IA)∧ts 13=I (i:Int)) (F.length - 1) ⟨1,x0,by omega,by omega,hM,hm0,rfl,⟨_,rfl⟩,rfl,rfl,rfl,rfl,rfl,rfl,rfl,rfl,rfl⟩ ?_;clear hM hx0 hm0 hc0
  rintro n ih ts H ⟨i,m,hi,hi1,hM,hmm,m0,m1,m2,m3,t2,t4,t8,t10,t11,t12,t13⟩
  refine FW.inLoop ?_;have w2:=zAf (n:=(i:Int)+1) (by omega) (by omega);have l3:=zAb m3
  by_cases hlt:i < F.length
  ·have d1:decide ((i:Int) < (F.length:Int))=true:=decide_eq_true (by omega);have hxi:=hix i hlt;rw[Int.toNat_natCast,zAm Plc.av F default hlt]at hxi;have hmem:F.getD i default∈F:=by simp[List.getD,hlt]
   rw[zBi default hlt]at hM
   generalize F.getD i default=x at hxi hmem hM
   have hcx:=Plc.cells x;have hb1:(0≤(i:Int)∧(i:Int) < ((F.map Plc.av).length:Int)):=⟨by omega,by rw[List.length_map]; omega⟩;have hkl:=less15 (l:=keyL a b c sc x) (m:=keyL a b c sc m) (.inl rfl) (.inl rfl) rfl (by simp[keyL]);rw[key_less]at hkl;refine goN ?_;simp(maxSteps:=2000000)only[push_cast,seval,↓kw2,m0,m2,m3,t2,t4,t8,t10,t11,t12,t13,hlen,d1,hxi,hcx];refine⟨hb1,?_⟩;refine⟨_,toVB (hK x hmem),?_⟩;refine AC.pur hkl ?_
   by_cases hc:cmpS a b c sc x m < 0
   ·rw[decide_eq_true hc];have hM2:minL (ltS a b c sc) x (F.drop (i+1))=M:=by
     rw[← hM];show _=minL (ltS a b c sc) (if decide (cmpS a b c sc x m < 0)=true then x else m) (F.drop (i+1));rw[decide_eq_true hc,if_pos rfl]
    refine goN ?_;simp(maxSteps:=2000000)only[push_cast,seval,↓kw2,m0,m2,m3,t2,t4,t8,t10,t11,t12,t13,hlen,d1,hxi,hcx,w2];refine⟨hb1,?_⟩;obtain⟨o1,m1⟩:=m1;exact ih (n - 1) (by omega) _ _ ⟨i+1,x,by omega,by omega,hM2,hmem,(List.getElem?_set_ne (by decide)).trans m0,⟨o1,(List.getElem?_set_ne (by decide)).trans m1⟩,(List.getElem?_set_ne (by decide)).trans m2,List.getElem?_set_self l3,t2,t4,t8,t10,t11,rfl,rfl⟩
   ·rw[decide_eq_false hc];have hM2:minL (ltS a b c sc) m (F.drop (i+1))=M:=by
     rw[← hM];show _=minL (ltS a b c sc) (if decide (cmpS a b c sc x m < 0)=true then x else m) (F.drop (i+1));rw[decide_eq_false hc,if_neg Bool.false_ne_true]
    refine goN ?_;simp(maxSteps:=2000000)only[push_cast,seval,↓kw2,m0,m2,m3,t2,t4,t8,t10,t11,t12,t13,hlen,d1,hxi,hcx,w2];exact ih (n - 1) (by omega) _ _ ⟨i+1,m,by omega,by omega,hM2,hmm,m0,m1,m2,m3,t2,t4,t8,t10,t11,t12,rfl⟩
  ·have d1:decide ((i:Int) < (F.length:Int))=false:=decide_eq_false (by omega);rw[List.drop_eq_nil_of_le (by omega)]at hM;obtain rfl:m=M:=hM;refine goN ?_;simp(maxSteps:=2000000)only[push_cast,seval,↓kw2,m0,m2,m3,t2,t4,t8,t10,t11,t12,t13,hlen,d1];rw[List.getElem?_set_self (zAb m2)];exact⟨_,rfl,2,rfl⟩
theorem okD_pos{a b c:Int}(hd:okD a b c):1≤a*b*c∧a*b*c≤4096:=by
 have hmu:=zAy hd;unfold okD at hd;have h1:1≤a*b:=Int.mul_pos (by omega) (by omega);have:1≤a*b*c:=Int.mul_pos (by omega) (by omega);omega
abbrev mayR(a b c:Int)(w:Wnt)(xs ys:List Int):Prop:=(okD a b c∧okW w.p w.q w.r)∧schk (a*b*c) xs=0∧schk (3*(a*b*c)) ys=0
theorem e17:Ent Tryz.prog 17 Tryz.f17 [] 4:=.mk Tryz.func17 rfl
attribute [push_cast] Tryz.f17
theorem may15(a b c:Int)(w:Wnt){s r:AV}{xs ys:List Int}(hs:IsSl s (xs.map U))(hr:IsSl r (ys.map U))(hx:∀ w∈xs,inU w)(hy:∀ w∈ys,inU w)(hl:xs.length≤2^12)(hl2:ys.length≤2^12):Pur Tryz.prog GG 17 [.agg [I a,I b,I c],w.av,s,r] (B (decide (mayR a b c w xs ys))):=by
 have hps:=hs.pur (zAe U _ fun _=>rfl);have hpr:=hr.pur (zAe U _ fun _=>rfl);have hM:=may01 a b c;have hW:=may04 w.p w.q w.r w.s w.t w.u w.v;obtain⟨p,q,u,v1,v2,v3,v4⟩:=w;show Pur Tryz.prog GG 17 [.agg [I a,I b,I c],WT p q u v1 v2 v3 v4,s,r] _;unfold mayR;simp only at hW ⊢
 by_cases hd:okD a b c
 ·rw[decide_eq_true hd]at hM
  by_cases hw:okW p q u
  ·rw[decide_eq_true hw]at hW;have hp:=okD_pos hd;have hN:=n01 a b c hd;have w3:=zAf (n:=3*(a*b*c)) (by omega) (by omega);have h1:=may3_pur hs hx (by omega) (n:=a*b*c) (by omega);have h2:=may3_pur hr hy (by omega) (n:=3*(a*b*c)) (by omega)
   by_cases c1:schk (a*b*c) xs=0
   ·rw[decide_eq_true c1]at h1;refine goQ e17 TOk.nil 0 ?_ (by simp[AV.purL,AV.pur,hps,hpr]);simp(maxSteps:=2000000)only[push_cast,seval,↓kw2];refine AC.pur hM ?_;refine goN ?_;simp(maxSteps:=2000000)only[push_cast,seval,↓kw2];refine AC.pur hW ?_;refine goN ?_;simp(maxSteps:=2000000)only[push_cast,seval,↓kw2];refine AC.pur hN ?_;refine goN ?_;simp(maxSteps:=2000000)only[push_cast,seval,↓kw2];refine AC.pur h1 ?_;refine goN ?_;simp(maxSteps:=2000000)only[push_cast,seval,↓kw2,w3];refine AC.pur h2 ?_;refine goN ?_;simp(maxSteps:=2000000)only[push_cast,seval,↓kw2];exact⟨_,rfl,2,by rw[decide_eq_decide.2 (show(schk (3*(a*b*c)) ys=0) ↔ ((okD a b c∧okW p q u)∧schk (a*b*c) xs=0∧schk (3*(a*b*c)) ys=0) from ⟨fun h=>⟨⟨hd,hw⟩,c1,h⟩,fun h=>h.2.2⟩)]; rfl⟩
   ·rw[decide_eq_false c1]at h1;rw[decide_eq_false (fun h=>c1 h.2.1)];refine goQ e17 TOk.nil 0 ?_ (by simp[AV.purL,AV.pur,hps,hpr]);simp(maxSteps:=2000000)only[push_cast,seval,↓kw2];refine AC.pur hM ?_;refine goN ?_;simp(maxSteps:=2000000)only[push_cast,seval,↓kw2];refine AC.pur hW ?_;refine goN ?_;simp(maxSteps:=2000000)only[push_cast,seval,↓kw2];refine AC.pur hN ?_;refine goN ?_;simp(maxSteps:=2000000)only[push_cast,seval,↓kw2];refine AC.pur h1 ?_;refine goN ?_;simp(maxSteps:=2000000)only[push_cast,seval,↓kw2,w3];exact⟨_,rfl,2,rfl⟩
  ·rw[decide_eq_false hw]at hW;rw[decide_eq_false (fun h=>hw h.1.2)];refine goQ e17 TOk.nil 0 ?_ (by simp[AV.purL,AV.pur,hps,hpr]);simp(maxSteps:=2000000)only[push_cast,seval,↓kw2];refine AC.pur hM ?_;refine goN ?_;simp(maxSteps:=2000000)only[push_cast,seval,↓kw2];refine AC.pur hW ?_;refine goN ?_;simp(maxSteps:=2000000)only[push_cast,seval,↓kw2];exact⟨_,rfl,2,rfl⟩
 ·rw[decide_eq_false hd]at hM;rw[decide_eq_false (fun h=>hd h.1.1)];refine goQ e17 TOk.nil 0 ?_ (by simp[AV.purL,AV.pur,hps,hpr]);simp(maxSteps:=2000000)only[push_cast,seval,↓kw2];refine AC.pur hM ?_;refine goN ?_;simp(maxSteps:=2000000)only[push_cast,seval,↓kw2];exact⟨_,rfl,2,rfl⟩
def insL(lt:Plc→Plc→Bool)(X:Plc):List Plc→List Plc
 | []=>[X]
 | y::l=>if lt X y=true then X::y::l else y::insL lt X l
theorem insL_len(lt:Plc→Plc→Bool)(X:Plc):∀ l,(insL lt X l).length=l.length+1
 | []=>rfl
 | y::l=>by
  unfold insL
  split
  ·rfl
  ·rw[List.length_cons,insL_len lt X l,List.length_cons]
theorem insL_perm(lt:Plc→Plc→Bool)(X:Plc):∀ l,(insL lt X l).Perm (X::l)
 | []=>.refl _
 | y::l=>by
  unfold insL
  split
  ·exact .refl _
  ·exact((insL_perm lt X l).cons y).trans (.swap ..)
theorem insL_sorted{a b c:Int}{sc:Plc→Int}(X:Plc):∀ l,List.Pairwise (fun X Y=>decide (cmpS a b c sc X Y≤0)=true) l→List.Pairwise (fun X Y=>decide (cmpS a b c sc X Y≤0)=true) (insL (ltS a b c sc) X l)
 | [],_=>List.pairwise_singleton _ _
 | y::l,h=>by
  have h':=List.pairwise_cons.1 h;unfold insL ltS
  by_cases hc:cmpS a b c sc X y < 0
  ·rw[decide_eq_true hc,if_pos rfl];have h0:decide (cmpS a b c sc X y≤0)=true:=decide_eq_true (by omega);refine List.pairwise_cons.2 ⟨fun z hz=>?_,h⟩
   rcases List.mem_cons.1 hz with rfl | hz
   ·exact h0
   ·exact le_trans' _ _ _ h0 (h'.1 z hz)
  ·rw[decide_eq_false hc,if_neg Bool.false_ne_true];have hn:=cmpS_neg (a:=a) (b:=b) (c:=c) (sc:=sc) X y;have h0:decide (cmpS a b c sc y X≤0)=true:=decide_eq_true (by omega);refine List.pairwise_cons.2 ⟨fun z hz=>?_,insL_sorted X l h'.2⟩;have hz:=(insL_perm _ X l).mem_iff.1 hz
   rcases List.mem_cons.1 hz with rfl | hz
   ·exact h0
   ·exact h'.1 z hz
def insF(lt:Plc→Plc→Bool)(F:List Plc):List Plc:=F.foldl (fun O X=>insL lt X O) []
theorem insF_go{a b c:Int}{sc:Plc→Int}:∀(F O:List Plc),List.Pairwise (fun X Y=>decide (cmpS a b c sc X Y≤0)=true) O→(F.foldl (fun O X=>insL (ltS a b c sc) X O) O).Perm (F++O)∧List.Pairwise (fun X Y=>decide (cmpS a b c sc X Y≤0)=true) (F.foldl (fun O X=>insL (ltS a b c sc) X O) O)
 | [],O,h=>⟨.refl _,h⟩
 | X::F,O,h=>by
  obtain⟨h1,h2⟩:=insF_go F (insL (ltS a b c sc) X O) (insL_sorted X O h);refine⟨h1.trans ?_,h2⟩;exact((insL_perm _ X O).append_left F).trans List.perm_middle
theorem insF_rank{a b c:Int}{sc:Plc→Int}{F:List Plc}(hok:∀ X∈F,X.ok a b c):insF (ltS a b c sc) F=rankL a b c sc F:=by
 obtain⟨h1,h2⟩:=insF_go (a:=a) (b:=b) (c:=c) (sc:=sc) F [] List.Pairwise.nil;rw[List.append_nil]at h1;exact rank_uniq hok h1 h2
theorem _root_.Go.Ab.OwnK.other{k k':Nat}{H:List AO}{s y:AV}{es es':List AV}{v:AV}(h:OwnK k' H y es')(hd:∀ j,zAl y=some j→zAl s≠some j):OwnK k' (apHk k H s es v) y es':=h.keep fun j hj=>zBe (h.lt hj) (hd j hj)
theorem _root_.Go.Ab.OwnK.dj{k:Nat}{H:List AO}{y:AV}{es:List AV}(h:OwnK k H y es){n m:Nat}:∀ j,zAl y=some j→zAl (.sl (H.length+1) 0 n m)≠some j:=fun j hj e=>by
 have:=h.lt hj;cases e;omega
theorem _root_.Go.Ab.OwnK.idx{P:Program}{k:Nat}{H:List AO}{s:AV}{es:List AV}(h:OwnK k H s es){t e:TypeId}(ht:P.underlying t=some (.slice e))(hs:szT P e=some k){i:Nat}(hi:i < es.length):∃ id,zAq P t s (i:Int) H=some ((0≤(i:Int)∧(i:Int) < (es.length:Int)),.eptr id i 0)∧H[id]?=some (.arr k es):=by
 cases h with
 | nil=>simp at hi
 | row h h0 =>
  rename_i id;refine⟨id,?_,h⟩;unfold zAq;simp[ht,hs,h]
abbrev kAV(a b c:Int)(sc:Plc→Int)(X:Plc):AV:=.isl ((keyL a b c sc X).map IA)
structure R4(a b c:Int)(sc:Plc→Int)(H:List AO)(o10 o11 o15 o16:AV)(O M:List Plc)(T:List Plc):Prop where
 w10:OwnK 9 H o10 (O.map Plc.av)
 w11:OwnK 1 H o11 (O.map (kAV a b c sc))
 w15:OwnK 9 H o15 (M.map Plc.av)
 w16:OwnK 1 H o16 (T.map (kAV a b c sc))
 d1:∀ j,zAl o10=some j→zAl o15≠some j
 d2:∀ j,zAl o11=some j→zAl o15≠some j
 d3:∀ j,zAl o16=some j→zAl o15≠some j
 d4:∀ j,zAl o10=some j→zAl o16≠some j
 d5:∀ j,zAl o11=some j→zAl o16≠some j
 d6:∀ j,zAl o15=some j→zAl o16≠some j
 m0:H[0]?=some (.cells [I a,I b,I c])
 m1:∃ o,H[1]?=some o
 e0:zAl o15≠some 0∧zAl o15≠some 1∧zAl o16≠some 0∧zAl o16≠some 1
theorem R4.app15{a b c:Int}{sc:Plc→Int}{H:List AO}{o10 o11 o15 o16:AV}{O M T:List Plc}(h:R4 a b c sc H o10 o11 o15 o16 O M T)(X:Plc) :
  R4 a b c sc (apHk 9 H o15 (M.map Plc.av) X.av) o10 o11 (.sl (H.length+1) 0 ((M.map Plc.av).length+1) ((M.map Plc.av).length+1)) o16 O (M++[X]) T:=by
 have hl0:=zAb h.m0;obtain⟨o,m1⟩:=h.m1;have hl1:=zAb m1;refine⟨h.w10.other h.d1,h.w11.other h.d2,?_,h.w16.other h.d3,h.w10.dj,h.w11.dj,h.w16.dj,h.d4,h.d5,?_,(zBe hl0 h.e0.1).trans h.m0,⟨o,(zBe hl1 h.e0.2.1).trans m1⟩,zEc (by omega),zEc (by omega),h.e0.2.2.1,h.e0.2.2.2⟩
 ·rw[List.map_append];exact apHk_own
 ·intro j hj e
  exact h.w16.dj j e hj
theorem R4.app16{a b c:Int}{sc:Plc→Int}{H:List AO}{o10 o11 o15 o16:AV}{O M T:List Plc}(h:R4 a b c sc H o10 o11 o15 o16 O M T)(X:Plc) :
  R4 a b c sc (apHk 1 H o16 (T.map (kAV a b c sc)) (kAV a b c sc X)) o10 o11 o15 (.sl (H.length+1) 0 ((T.map (kAV a b c sc)).length+1) ((T.map (kAV a b c sc)).length+1)) O M (T++[X]):=by
 have hl0:=zAb h.m0;obtain⟨o,m1⟩:=h.m1;have hl1:=zAb m1;refine⟨h.w10.other h.d4,h.w11.other h.d5,h.w15.other h.d6,?_,h.d1,h.d2,?_,h.w10.dj,h.w11.dj,h.w15.dj,(zBe hl0 h.e0.2.2.1).trans h.m0,⟨o,(zBe hl1 h.e0.2.2.2).trans m1⟩,h.e0.1,h.e0.2.1,zEc (by omega),zEc (by omega)⟩
 ·rw[List.map_append];exact apHk_own
 ·intro j hj e
  exact h.w15.dj j e hj
theorem e9:Ent Tryz.prog 9 Tryz.f9 [] 4:=.mk Tryz.func9 rfl
attribute [push_cast] Tryz.f9
theorem rank15{a b c:Int}(hd:okD a b c)(w:Wnt){s r:AV}{xs ys:List Int}(hs:IsSl s (xs.map U))(hr:IsSl r (ys.map U))(hx:∀ w∈xs,inU w)(hy:∀ w∈ys,inU w)(lx:(xs.length:Int)=(a*b*c+63) / 64)(ly:ys.length≤2^12)(hm:mayR a b c w xs ys){F:List Plc}(hF:(wholeL a b c w).filter (zEa a b c xs ys)=F)(hok:∀ X∈F,X.ok a b c)(hl:F.length≤2^16) :
  Pur Tryz.prog GG 9 [.agg [I a,I b,I c],w.av,s,r] (.tup [frS ((rankL a b c (scV a b c xs) F).map Plc.av),I 0]):=by
 have hps:=hs.pur (zAe U _ fun _=>rfl);have hpr:=hr.pur (zAe U _ fun _=>rfl);have hmu:=zAy hd;have hC:=clear12 hd w hs hr hx hy (by omega) ly;rw[hF]at hC;have hMy:=may15 a b c w hs hr hx hy (by omega) ly;rw[decide_eq_true hm]at hMy;have hK:=fun(X:Plc) (hX:X∈F)=>key15 (hok X hX) hs hx lx
 have hlen:=(IsSl.frS (F.map Plc.av)).len (P:=Tryz.prog) un39;rw[List.length_map]at hlen;have hix:=fun(i:Nat) (hi:i < F.length) (H:List AO)=>(IsSl.frS (F.map Plc.av)).idx (P:=Tryz.prog) un39 sz32 (i:=(i:Int)) (by rw[List.length_map]; omega) (by omega) H
 have hpf:(frS (F.map Plc.av)).pur=true:=(IsSl.frS (F.map Plc.av)).pur (zAe Plc.av _ fun _=>rfl)
 generalize frS (F.map Plc.av)=fs at hC hlen hix hpf
 rw[← insF_rank hok];clear hF hd hm;obtain⟨p,q,u,v1,v2,v3,v4⟩:=w;show Pur Tryz.prog GG 9 [.agg [I a,I b,I c],WT p q u v1 v2 v3 v4,s,r] _
 generalize hsc:scV a b c xs=sc at hK ⊢
 unfold insF;refine goQ e9 TOk.nil 0 ?_ (by simp[AV.purL,AV.pur,hps,hpr]);simp(maxSteps:=2000000)only[push_cast,seval,↓kw2];refine AC.pur hMy ?_;refine goN ?_;simp(maxSteps:=2000000)only[push_cast,seval,↓kw2];refine AC.pur hC ?_;refine goN ?_;simp(maxSteps:=2000000)only[push_cast,seval,↓kw2];refine FW.loopInv (fun n ts H=>∃(i:Nat) (O:List Plc) (o10 o11:AV),i+n=F.length∧O.length=i∧(F.drop i).foldl (fun O X=>insL (ltS a b c sc) X O) O=F.foldl (fun O X=>insL (ltS a b c sc) X O) []∧OwnK 9 H o10 (O.map Plc.av)∧OwnK 1 H o11 (O.map (kAV a b c sc))∧H[0]?=some (.cells [I a,I b,I c])∧(∃ o,H[1]?=some o)∧ts 2=s∧ts 4=.ptr 0 0∧ts 10=o10∧ts 11=o11∧ts 12=fs∧ts 13=I (i:Int)) F.length ⟨0,[],_,_,by omega,rfl,rfl,.nil,.nil,rfl,⟨_,rfl⟩,rfl,rfl,rfl,rfl,rfl,rfl⟩ ?_
 rintro n ih ts H ⟨i,O,o10,o11,hi,hO,hT,w10,w11,m0,m1,t2,t4,t10,t11,t12,t13⟩
 refine FW.inLoop ?_;have wi:=zAf (n:=(i:Int)+1) (by omega) (by omega)
 by_cases hlt:i < F.length
 ·have d1:decide ((i:Int) < (F.length:Int))=true:=decide_eq_true (by omega);have hxi:=hix i hlt;rw[Int.toNat_natCast,zAm Plc.av F default hlt]at hxi;have hmem:F.getD i default∈F:=by simp[List.getD,hlt]
  rw[zBi default hlt,List.foldl_cons]at hT
  generalize F.getD i default=X at hxi hmem hT
  have hcx:=Plc.cells X;have hb1:(0≤(i:Int)∧(i:Int) < ((F.map Plc.av).length:Int)):=⟨by omega,by rw[List.length_map]; omega⟩;refine goN ?_;simp(maxSteps:=2000000)only[push_cast,seval,↓kw2,m0,t2,t4,t10,t11,t12,t13,hlen,d1,hxi,hcx];refine⟨hb1,?_⟩;refine⟨_,toVB (hK X hmem),?_⟩;have hn:∀(x:AV) (j:Nat),zAl x=some j→zAl (.c (.slice none 0 0))≠some j:=fun _ _ _ h=>by cases h
  have hR:R4 a b c sc H o10 o11 (.c (.slice none 0 0)) (.c (.slice none 0 0)) O [] []:=⟨w10,w11,.nil,.nil,hn _,hn _,hn _,hn _,hn _,hn _,m0,m1,nofun,nofun,nofun,nofun⟩;clear m0 m1 w10 w11;refine FW.loopInv (fun k ts H=>∃(j:Nat) (M:List Plc) (o15 o16:AV) (dn:Bool),j+k=O.length∧M.length≤j+dn.toNat∧M++(if dn=true then O.drop j else insL (ltS a b c sc) X (O.drop j))=insL (ltS a b c sc) X O∧R4 a b c sc H o10 o11 o15 o16 O M M∧ts 2=s∧ts 4=.ptr 0 0∧ts 10=o10∧ts 11=o11∧ts 12=fs∧ts 13=I (i:Int)∧ts 14=kAV a b c sc X∧ts 15=o15∧ts 16=o16∧ts 17=B dn∧ts 18=I (j:Int)) O.length ⟨0,[],_,_,false,by omega,by simp,rfl,hR,t2,t4,t10,t11,t12,t13,rfl,rfl,rfl,rfl,rfl⟩ ?_;clear hR t2 t4 t10 t11 t12 t13
  rintro k jh ts H ⟨j,M,o15,o16,dn,hj,hMl,hM,hR,t2,t4,t10,t11,t12,t13,t14,t15,t16,t17,t18⟩
  refine FW.inLoop ?_;have hMl1:M.length≤j+1:=by have:=Bool.toNat_le dn; omega
  have wj:=zAf (n:=(j:Int)+1) (by omega) (by omega);have hm0:=hR.m0;have hlO:aLen Tryz.prog 39 o10=some (O.length:Int):=by
   have:=hR.w10
   generalize hes:O.map Plc.av=es at this
   have hle:O.length=es.length:=by rw[← hes,List.length_map]
   rw[hle];cases this <;> rfl
  by_cases hjl:j < O.length
  ·have d2:decide ((j:Int) < (O.length:Int))=true:=decide_eq_true (by omega);rw[zBi default hjl]at hM;obtain⟨i10,hx10,hr10⟩:=hR.w10.idx (P:=Tryz.prog) un39 sz32 (i:=j) (by rw[List.length_map]; omega);obtain⟨i11,hx11,hr11⟩:=hR.w11.idx (P:=Tryz.prog) un58 sz60 (i:=j) (by rw[List.length_map]; omega);have hg10:=zAm Plc.av O default hjl;have hg11:=zAm (kAV a b c sc) O default hjl
   generalize O.getD j default=Y at hM hg10 hg11
   have hcy:List.take 9 Y.av.cells=[I Y.x,I Y.y,I Y.z,I Y.p,I Y.q,I Y.r,B Y.s,B Y.t,B Y.u]:=rfl;have hb2:(0≤(j:Int)∧(j:Int) < ((O.map Plc.av).length:Int)):=⟨by omega,by rw[List.length_map]; omega⟩;have hb3:(0≤(j:Int)∧(j:Int) < ((O.map (kAV a b c sc)).length:Int)):=⟨by omega,by rw[List.length_map]; omega⟩;have hlM:(M.map Plc.av).length≤2^20:=by rw[List.length_map]; omega
   have hlK:(M.map (kAV a b c sc)).length≤2^20:=by rw[List.length_map]; omega
   cases dn
   ·have hkl:=less15 (l:=keyL a b c sc X) (m:=keyL a b c sc Y) (.inl rfl) (.inl rfl) rfl (by simp[keyL]);rw[key_less]at hkl;have hj10:(j < (O.map Plc.av).length)=True:=eq_true (by rw[List.length_map]; omega);have hj11:(j < (O.map (kAV a b c sc)).length)=True:=eq_true (by rw[List.length_map]; omega);refine goN ?_;simp(maxSteps:=2000000)only[push_cast,seval,↓kw2,hm0,t2,t4,t10,t11,t12,t13,t14,t15,t16,t17,t18,hlO,d2,hx11,hr11,hg11,hj11];refine⟨hb3,?_⟩;refine AC.pur hkl ?_
    by_cases hc:cmpS a b c sc X Y < 0
    ·have hlt':ltS a b c sc X Y=true:=decide_eq_true hc;rw[decide_eq_true hc];rw[if_neg Bool.false_ne_true,insL,if_pos hlt']at hM;have h1:R4 a b c sc (apHk 9 H o15 ((M).map Plc.av) (.agg [I X.x,I X.y,I X.z,I X.p,I X.q,I X.r,B X.s,B X.t,B X.u])) o10 o11 (.sl (H.length+1) 0 (((M).map Plc.av).length+1) (((M).map Plc.av).length+1)) o16 O (M++[X]) M:=hR.app15 X;have a1:=fun v=>zFg (P:=Tryz.prog) (k:=9) un39 un39 ze32 rfl by32 hR.w15 v
     generalize hH1:apHk 9 H o15 ((M).map Plc.av) (.agg [I X.x,I X.y,I X.z,I X.p,I X.q,I X.r,B X.s,B X.t,B X.u])=H1 at h1
     have a2:=fun v=>zFg (P:=Tryz.prog) (k:=1) un58 un58 ze60 rfl by60 h1.w16 v
     have h2:R4 a b c sc (apHk 1 H1 o16 ((M).map (kAV a b c sc)) (kAV a b c sc X)) o10 o11 (.sl (H.length+1) 0 (((M).map Plc.av).length+1) (((M).map Plc.av).length+1)) (.sl (H1.length+1) 0 (((M).map (kAV a b c sc)).length+1) (((M).map (kAV a b c sc)).length+1)) O (M++[X]) (M++[X]):=h1.app16 X
     generalize hH2:apHk 1 H1 o16 ((M).map (kAV a b c sc)) (kAV a b c sc X)=H2 at h2
     obtain⟨i10b,hx10b,hr10b⟩:=h2.w10.idx (P:=Tryz.prog) un39 sz32 (i:=j) (by rw[List.length_map]; omega);have a3:=fun v=>zFg (P:=Tryz.prog) (k:=9) un39 un39 ze32 rfl by32 h2.w15 v
     have h3:R4 a b c sc (apHk 9 H2 (.sl (H.length+1) 0 (((M).map Plc.av).length+1) (((M).map Plc.av).length+1)) ((M++[X]).map Plc.av) (.agg [I Y.x,I Y.y,I Y.z,I Y.p,I Y.q,I Y.r,B Y.s,B Y.t,B Y.u])) o10 o11 (.sl (H2.length+1) 0 (((M++[X]).map Plc.av).length+1) (((M++[X]).map Plc.av).length+1)) (.sl (H1.length+1) 0 (((M).map (kAV a b c sc)).length+1) (((M).map (kAV a b c sc)).length+1)) O (M++[X]++[Y]) (M++[X]):=h2.app15 Y
     generalize hH3:apHk 9 H2 (.sl (H.length+1) 0 (((M).map Plc.av).length+1) (((M).map Plc.av).length+1)) ((M++[X]).map Plc.av) (.agg [I Y.x,I Y.y,I Y.z,I Y.p,I Y.q,I Y.r,B Y.s,B Y.t,B Y.u])=H3 at h3
     obtain⟨i11c,hx11c,hr11c⟩:=h3.w11.idx (P:=Tryz.prog) un58 sz60 (i:=j) (by rw[List.length_map]; omega);have a4:=fun v=>zFg (P:=Tryz.prog) (k:=1) un58 un58 ze60 rfl by60 h3.w16 v
     have h4:R4 a b c sc (apHk 1 H3 (.sl (H1.length+1) 0 (((M).map (kAV a b c sc)).length+1) (((M).map (kAV a b c sc)).length+1)) ((M++[X]).map (kAV a b c sc)) (kAV a b c sc Y)) o10 o11 (.sl (H2.length+1) 0 (((M++[X]).map Plc.av).length+1) (((M++[X]).map Plc.av).length+1)) (.sl (H3.length+1) 0 (((M++[X]).map (kAV a b c sc)).length+1) (((M++[X]).map (kAV a b c sc)).length+1)) O (M++[X]++[Y]) (M++[X]++[Y]):=h3.app16 Y;have q9:((M++[X]).map Plc.av).length≤2^20:=by rw[List.length_map,List.length_append,List.length_singleton]; omega
     have q1:((M++[X]).map (kAV a b c sc)).length≤2^20:=by rw[List.length_map,List.length_append,List.length_singleton]; omega
     refine goN ?_;simp(maxSteps:=2000000)only[push_cast,seval,↓kw2,hm0,t2,t4,t10,t11,t12,t13,t14,t15,t16,t17,t18,hlO,d2,hxi,hcx,hg10,hg11,hj10,hj11,wj,hcy,a1,hH1,a2,hH2,hx10b,hr10b,a3,hH3,hx11c,hr11c,a4]
     repeat (first | refine⟨hb1,?_⟩ | refine⟨hb2,?_⟩ | refine⟨hb3,?_⟩ | refine⟨zBq hlM (by decide),?_⟩ | refine⟨zBq hlK (by decide),?_⟩ | refine⟨zBq q9 (by decide),?_⟩ | refine⟨zBq q1 (by decide),?_⟩)
     refine jh (k - 1) (by omega) _ _ ?_;exact⟨j+1,M++[X]++[Y],_,_,true,by omega,by have:M.length≤j:=hMl; simp; omega,by rw[if_pos rfl,← hM]; simp,h4,t2,t4,t10,t11,t12,t13,t14,rfl,rfl,rfl,rfl⟩
    ·have hlt':ltS a b c sc X Y=false:=decide_eq_false hc;rw[decide_eq_false hc];rw[if_neg Bool.false_ne_true,insL,hlt',if_neg Bool.false_ne_true]at hM;have h1:R4 a b c sc (apHk 9 H o15 ((M).map Plc.av) (.agg [I Y.x,I Y.y,I Y.z,I Y.p,I Y.q,I Y.r,B Y.s,B Y.t,B Y.u])) o10 o11 (.sl (H.length+1) 0 (((M).map Plc.av).length+1) (((M).map Plc.av).length+1)) o16 O (M++[Y]) M:=hR.app15 Y;obtain⟨i10b,hx10b,hr10b⟩:=hR.w10.idx (P:=Tryz.prog) un39 sz32 (i:=j) (by rw[List.length_map]; omega);have a1:=fun v=>zFg (P:=Tryz.prog) (k:=9) un39 un39 ze32 rfl by32 hR.w15 v
     generalize hH1:apHk 9 H o15 ((M).map Plc.av) (.agg [I Y.x,I Y.y,I Y.z,I Y.p,I Y.q,I Y.r,B Y.s,B Y.t,B Y.u])=H1 at h1
     obtain⟨i11c,hx11c,hr11c⟩:=h1.w11.idx (P:=Tryz.prog) un58 sz60 (i:=j) (by rw[List.length_map]; omega);have a2:=fun v=>zFg (P:=Tryz.prog) (k:=1) un58 un58 ze60 rfl by60 h1.w16 v
     have h2:R4 a b c sc (apHk 1 H1 o16 ((M).map (kAV a b c sc)) (kAV a b c sc Y)) o10 o11 (.sl (H.length+1) 0 (((M).map Plc.av).length+1) (((M).map Plc.av).length+1)) (.sl (H1.length+1) 0 (((M).map (kAV a b c sc)).length+1) (((M).map (kAV a b c sc)).length+1)) O (M++[Y]) (M++[Y]):=h1.app16 Y;refine goN ?_;simp(maxSteps:=2000000)only[push_cast,seval,↓kw2,hm0,t2,t4,t10,t11,t12,t13,t14,t15,t16,t17,t18,hlO,d2,hxi,hcx,hg10,hg11,hj10,hj11,wj,hcy,hx10b,hr10b,a1,hH1,hx11c,hr11c,a2]
     repeat (first | refine⟨hb1,?_⟩ | refine⟨hb2,?_⟩ | refine⟨hb3,?_⟩ | refine⟨zBq hlM (by decide),?_⟩ | refine⟨zBq hlK (by decide),?_⟩)
     refine jh (k - 1) (by omega) _ _ ?_;exact⟨j+1,M++[Y],_,_,false,by omega,by have:M.length≤j:=hMl; simp; omega,by rw[if_neg Bool.false_ne_true,← hM]; simp,h2,t2,t4,t10,t11,t12,t13,t14,rfl,rfl,t17,rfl⟩
   ·rw[if_pos rfl]at hM;have hj10:(j < (O.map Plc.av).length)=True:=eq_true (by rw[List.length_map]; omega);have hj11:(j < (O.map (kAV a b c sc)).length)=True:=eq_true (by rw[List.length_map]; omega);have h1:R4 a b c sc (apHk 9 H o15 ((M).map Plc.av) (.agg [I Y.x,I Y.y,I Y.z,I Y.p,I Y.q,I Y.r,B Y.s,B Y.t,B Y.u])) o10 o11 (.sl (H.length+1) 0 (((M).map Plc.av).length+1) (((M).map Plc.av).length+1)) o16 O (M++[Y]) M:=hR.app15 Y;obtain⟨i10b,hx10b,hr10b⟩:=hR.w10.idx (P:=Tryz.prog) un39 sz32 (i:=j) (by rw[List.length_map]; omega);have a1:=fun v=>zFg (P:=Tryz.prog) (k:=9) un39 un39 ze32 rfl by32 hR.w15 v
    generalize hH1:apHk 9 H o15 ((M).map Plc.av) (.agg [I Y.x,I Y.y,I Y.z,I Y.p,I Y.q,I Y.r,B Y.s,B Y.t,B Y.u])=H1 at h1
    obtain⟨i11c,hx11c,hr11c⟩:=h1.w11.idx (P:=Tryz.prog) un58 sz60 (i:=j) (by rw[List.length_map]; omega);have a2:=fun v=>zFg (P:=Tryz.prog) (k:=1) un58 un58 ze60 rfl by60 h1.w16 v
    have h2:R4 a b c sc (apHk 1 H1 o16 ((M).map (kAV a b c sc)) (kAV a b c sc Y)) o10 o11 (.sl (H.length+1) 0 (((M).map Plc.av).length+1) (((M).map Plc.av).length+1)) (.sl (H1.length+1) 0 (((M).map (kAV a b c sc)).length+1) (((M).map (kAV a b c sc)).length+1)) O (M++[Y]) (M++[Y]):=h1.app16 Y;refine goN ?_;simp(maxSteps:=2000000)only[push_cast,seval,↓kw2,hm0,t2,t4,t10,t11,t12,t13,t14,t15,t16,t17,t18,hlO,d2,hxi,hcx,hg10,hg11,hj10,hj11,wj,hcy,hx10b,hr10b,a1,hH1,hx11c,hr11c,a2]
    repeat (first | refine⟨hb1,?_⟩ | refine⟨hb2,?_⟩ | refine⟨hb3,?_⟩ | refine⟨zBq hlM (by decide),?_⟩ | refine⟨zBq hlK (by decide),?_⟩)
    refine jh (k - 1) (by omega) _ _ ?_;exact⟨j+1,M++[Y],_,_,true,by omega,by have:M.length≤j+1:=hMl; simp; omega,by rw[if_pos rfl,← hM]; simp,h2,t2,t4,t10,t11,t12,t13,t14,rfl,rfl,t17,rfl⟩
  ·have d2:decide ((j:Int) < (O.length:Int))=false:=decide_eq_false (by omega);rw[List.drop_eq_nil_of_le (by omega)]at hM;have hlM:(M.map Plc.av).length≤2^20:=by rw[List.length_map]; omega
   have hlK:(M.map (kAV a b c sc)).length≤2^20:=by rw[List.length_map]; omega
   cases dn
   ·rw[if_neg Bool.false_ne_true]at hM;have h1:R4 a b c sc (apHk 9 H o15 ((M).map Plc.av) (.agg [I X.x,I X.y,I X.z,I X.p,I X.q,I X.r,B X.s,B X.t,B X.u])) o10 o11 (.sl (H.length+1) 0 (((M).map Plc.av).length+1) (((M).map Plc.av).length+1)) o16 O (M++[X]) M:=hR.app15 X;have a1:=fun v=>zFg (P:=Tryz.prog) (k:=9) un39 un39 ze32 rfl by32 hR.w15 v
    generalize hH1:apHk 9 H o15 ((M).map Plc.av) (.agg [I X.x,I X.y,I X.z,I X.p,I X.q,I X.r,B X.s,B X.t,B X.u])=H1 at h1
    have a2:=fun v=>zFg (P:=Tryz.prog) (k:=1) un58 un58 ze60 rfl by60 h1.w16 v
    have h2:R4 a b c sc (apHk 1 H1 o16 ((M).map (kAV a b c sc)) (kAV a b c sc X)) o10 o11 (.sl (H.length+1) 0 (((M).map Plc.av).length+1) (((M).map Plc.av).length+1)) (.sl (H1.length+1) 0 (((M).map (kAV a b c sc)).length+1) (((M).map (kAV a b c sc)).length+1)) O (M++[X]) (M++[X]):=h1.app16 X;refine goN ?_;simp(maxSteps:=2000000)only[push_cast,seval,↓kw2,hm0,t2,t4,t10,t11,t12,t13,t14,t15,t16,t17,t18,hlO,d2,hxi,hcx,a1,hH1,a2,wi]
    repeat (first | refine⟨hb1,?_⟩ | refine⟨zBq hlM (by decide),?_⟩ | refine⟨zBq hlK (by decide),?_⟩)
    have hM':M++[X]=insL (ltS a b c sc) X O:=hM;refine ih (n - 1) (by omega) _ _ ?_;exact⟨i+1,M++[X],_,_,by omega,by rw[hM',insL_len]; omega,by rw[hM']; exact hT,h2.w15,h2.w16,h2.m0,h2.m1,t2,t4,rfl,rfl,t12,rfl⟩
   ·rw[if_pos rfl,List.append_nil]at hM;refine goN ?_;simp(maxSteps:=2000000)only[push_cast,seval,↓kw2,hm0,t2,t4,t10,t11,t12,t13,t14,t15,t16,t17,t18,hlO,d2,wi];refine ih (n - 1) (by omega) _ _ ?_;exact⟨i+1,M,_,_,by omega,by rw[hM,insL_len]; omega,by rw[hM]; exact hT,hR.w15,hR.w16,hR.m0,hR.m1,t2,t4,rfl,rfl,t12,rfl⟩
 ·have d1:decide ((i:Int) < (F.length:Int))=false:=decide_eq_false (by omega);rw[List.drop_eq_nil_of_le (by omega)]at hT;refine goN ?_;simp(maxSteps:=2000000)only[push_cast,seval,↓kw2,m0,t2,t4,t10,t11,t12,t13,hlen,d1];rw[← hT];exact⟨_,rfl,w10.done2 (zAe Plc.av _ fun _=>rfl) rfl⟩
theorem isl_inj{xs zs:List Int}(h:IsSl (.isl (zs.map U)) (xs.map U)):zs=xs:=by
 rcases h with h | ⟨_,h⟩
 ·have h':zs.map U=xs.map U:=AV.isl.inj h;exact List.map_inj_right (fun x y e=>by cases e; rfl) |>.1 h'
 ·cases h
theorem sl_set{s:AV}{xs:List Int}(hs:IsSl s (xs.map U))(hx:∀ w∈xs,inU w):IsSet s:=by
 rcases hs with rfl | ⟨h0,rfl⟩
 ·exact .isl hx
 ·exact .nil
theorem sl_is{s:AV}{xs:List Int}(hs:IsSl s (xs.map U))(h:0 < xs.length):s=.isl (xs.map U):=by
 rcases hs with rfl | ⟨h0,rfl⟩
 ·rfl
 ·rw[List.map_eq_nil_iff]at h0;rw[h0]at h;cases h
theorem e7:Ent Tryz.prog 7 Tryz.f7 [] 4:=.mk Tryz.func7 rfl
attribute [push_cast] Tryz.f7
theorem e11:Ent Tryz.prog 11 Tryz.f11 [] 4:=.mk Tryz.func11 rfl
attribute [push_cast] Tryz.f11
theorem asked_no{a b c:Int}(w:Wnt){s r:AV}{xs ys:List Int}(hs:IsSl s (xs.map U))(hr:IsSl r (ys.map U))(hx:∀ w∈xs,inU w)(hy:∀ w∈ys,inU w)(hl:xs.length≤2^12)(hl2:ys.length≤2^12)(hm:¬mayR a b c w xs ys) :
  Pur Tryz.prog GG 7 [.agg [I a,I b,I c],w.av,s,r] (.tup [zPl.av,I 8]):=by
 have hps:=hs.pur (zAe U _ fun _=>rfl);have hpr:=hr.pur (zAe U _ fun _=>rfl);have hM:=may15 a b c w hs hr hx hy hl hl2;rw[decide_eq_false hm]at hM;obtain⟨p,q,u,v1,v2,v3,v4⟩:=w;show Pur Tryz.prog GG 7 [.agg [I a,I b,I c],WT p q u v1 v2 v3 v4,s,r] _;refine goQ e7 TOk.nil 0 ?_ (by simp[AV.purL,AV.pur,hps,hpr]);simp(maxSteps:=2000000)only[push_cast,seval,↓kw2];refine AC.pur hM ?_;refine goN ?_;simp(maxSteps:=2000000)only[push_cast,seval,↓kw2];exact⟨_,rfl,2,rfl⟩
theorem asked_is{a b c:Int}(w:Wnt){s r:AV}{xs ys:List Int}(hs:IsSl s (xs.map U))(hr:IsSl r (ys.map U))(hx:∀ w∈xs,inU w)(hy:∀ w∈ys,inU w)(hl:xs.length≤2^12)(hl2:ys.length≤2^12)(hm:mayR a b c w xs ys){X:Plc}{is:Bool}(hB:Pur Tryz.prog GG 18 [.agg [I a,I b,I c],w.av,s,r] (.tup [X.av,B is]))(hX:is=false→X=zPl) :
  Pur Tryz.prog GG 7 [.agg [I a,I b,I c],w.av,s,r] (.tup [X.av,I (if is=true then 0 else 6)]):=by
 have hps:=hs.pur (zAe U _ fun _=>rfl);have hpr:=hr.pur (zAe U _ fun _=>rfl);have hM:=may15 a b c w hs hr hx hy hl hl2;rw[decide_eq_true hm]at hM;obtain⟨p,q,u,v1,v2,v3,v4⟩:=w;show Pur Tryz.prog GG 7 [.agg [I a,I b,I c],WT p q u v1 v2 v3 v4,s,r] _;cases is
 ·obtain rfl:=hX rfl
  replace hB:Pur Tryz.prog GG 18 [.agg [I a,I b,I c],WT p q u v1 v2 v3 v4,s,r] (.tup [PL 0 0 0 0 0 0 false false false,B false]):=hB
  refine goQ e7 TOk.nil 0 ?_ (by simp[AV.purL,AV.pur,hps,hpr]);simp(maxSteps:=2000000)only[push_cast,seval,↓kw2];refine AC.pur hM ?_;refine goN ?_;simp(maxSteps:=2000000)only[push_cast,seval,↓kw2];refine AC.pur hB ?_;refine goN ?_;simp(maxSteps:=2000000)only[push_cast,seval,↓kw2];exact⟨_,rfl,2,rfl⟩
 ·obtain⟨x1,x2,x3,x4,x5,x6,x7,x8,x9⟩:=X
  replace hB:Pur Tryz.prog GG 18 [.agg [I a,I b,I c],WT p q u v1 v2 v3 v4,s,r] (.tup [PL x1 x2 x3 x4 x5 x6 x7 x8 x9,B true]):=hB
  refine goQ e7 TOk.nil 0 ?_ (by simp[AV.purL,AV.pur,hps,hpr]);simp(maxSteps:=2000000)only[push_cast,seval,↓kw2];refine AC.pur hM ?_;refine goN ?_;simp(maxSteps:=2000000)only[push_cast,seval,↓kw2];refine AC.pur hB ?_;refine goN ?_;simp(maxSteps:=2000000)only[push_cast,seval,↓kw2];exact⟨_,rfl,2,rfl⟩
theorem rank_no{a b c:Int}(w:Wnt){s r:AV}{xs ys:List Int}(hs:IsSl s (xs.map U))(hr:IsSl r (ys.map U))(hx:∀ w∈xs,inU w)(hy:∀ w∈ys,inU w)(hl:xs.length≤2^12)(hl2:ys.length≤2^12)(hm:¬mayR a b c w xs ys) :
  Pur Tryz.prog GG 9 [.agg [I a,I b,I c],w.av,s,r] (.tup [.c (.slice none 0 0),I 8]):=by
 have hps:=hs.pur (zAe U _ fun _=>rfl);have hpr:=hr.pur (zAe U _ fun _=>rfl);have hM:=may15 a b c w hs hr hx hy hl hl2;rw[decide_eq_false hm]at hM;obtain⟨p,q,u,v1,v2,v3,v4⟩:=w;show Pur Tryz.prog GG 9 [.agg [I a,I b,I c],WT p q u v1 v2 v3 v4,s,r] _;refine goQ e9 TOk.nil 0 ?_ (by simp[AV.purL,AV.pur,hps,hpr]);simp(maxSteps:=2000000)only[push_cast,seval,↓kw2];refine AC.pur hM ?_;refine goN ?_;simp(maxSteps:=2000000)only[push_cast,seval,↓kw2];exact⟨_,rfl,2,rfl⟩
def btE(a b c:Int)(xs:List Int)(X Y:Plc):Int:=if okD a b c∧schk (a*b*c) xs=0 then (if pchk a b c X.x X.y X.z X.p X.q X.r X.s X.t X.u=0 then pchk a b c Y.x Y.y Y.z Y.p Y.q Y.r Y.s Y.t Y.u else pchk a b c X.x X.y X.z X.p X.q X.r X.s X.t X.u) else 8
theorem better15{a b c:Int}{s:AV}{xs:List Int}(hs:IsSl s (xs.map U))(hx:∀ w∈xs,inU w)(hl:xs.length≤2^12)(X Y:Plc) :
  Pur Tryz.prog GG 11 [.agg [I a,I b,I c],X.av,Y.av,s] (.tup [B (decide (btE a b c xs X Y=0)&&decide (cmpS a b c (scV a b c xs) X Y < 0)),I (btE a b c xs X Y)]):=by
 have hps:=hs.pur (zAe U _ fun _=>rfl);have hM:=may01 a b c;have hC1:=check06 a b c X.x X.y X.z X.p X.q X.r X.s X.t X.u;have hC2:=check06 a b c Y.x Y.y Y.z Y.p Y.q Y.r Y.s Y.t Y.u;show Pur Tryz.prog GG 11 [.agg [I a,I b,I c],PL X.x X.y X.z X.p X.q X.r X.s X.t X.u,PL Y.x Y.y Y.z Y.p Y.q Y.r Y.s Y.t Y.u,s] _
 by_cases hd:okD a b c
 ·rw[decide_eq_true hd]at hM;have hp:=okD_pos hd;have hN:=n01 a b c hd;have h1:=may3_pur hs hx (by omega) (n:=a*b*c) (by omega)
  by_cases c1:schk (a*b*c) xs=0
  ·rw[decide_eq_true c1]at h1;unfold btE;rw[if_pos ⟨hd,c1⟩]
   by_cases e1:pchk a b c X.x X.y X.z X.p X.q X.r X.s X.t X.u=0
   ·rw[if_pos e1];rw[e1]at hC1
    by_cases e2:pchk a b c Y.x Y.y Y.z Y.p Y.q Y.r Y.s Y.t Y.u=0
    ·rw[e2]at hC2 ⊢;have hX:X.ok a b c:=pchk_okPl e1;have hY:Y.ok a b c:=pchk_okPl e2;have lx:=((zBl hx).1 c1).2.1;have k1:=key15 hX hs hx lx;have k2:=key15 hY hs hx lx;have hL:=less15 (l:=keyL a b c (scV a b c xs) X) (m:=keyL a b c (scV a b c xs) Y) (.inl rfl) (.inl rfl) rfl (by simp[keyL]);rw[key_less]at hL;rw[decide_eq_true (rfl:(0:Int)=0),Bool.true_and]
     generalize decide (cmpS a b c (scV a b c xs) X Y < 0)=bo at hL ⊢
     refine goQ e11 TOk.nil 0 ?_ (by simp[AV.purL,AV.pur,hps]);simp(maxSteps:=2000000)only[push_cast,seval,↓kw2];refine AC.pur hM ?_;refine goN ?_;simp(maxSteps:=2000000)only[push_cast,seval,↓kw2];refine AC.pur hN ?_;refine goN ?_;simp(maxSteps:=2000000)only[push_cast,seval,↓kw2];refine AC.pur h1 ?_;refine goN ?_;simp(maxSteps:=2000000)only[push_cast,seval,↓kw2];refine AC.pur hC1 ?_;refine goN ?_;simp(maxSteps:=2000000)only[push_cast,seval,↓kw2];refine AC.pur hC2 ?_;refine goN ?_;simp(maxSteps:=2000000)only[push_cast,seval,↓kw2];refine⟨_,toVB k1,_,toVB k2,_,toVB hL,?_⟩;exact⟨_,rfl,2,rfl⟩
    ·rw[decide_eq_false e2,Bool.false_and]
     generalize pchk a b c Y.x Y.y Y.z Y.p Y.q Y.r Y.s Y.t Y.u=E at hC2 e2 ⊢
     have d2:decide (E≠0)=true:=decide_eq_true e2;refine goQ e11 TOk.nil 0 ?_ (by simp[AV.purL,AV.pur,hps]);simp(maxSteps:=2000000)only[push_cast,seval,↓kw2];refine AC.pur hM ?_;refine goN ?_;simp(maxSteps:=2000000)only[push_cast,seval,↓kw2];refine AC.pur hN ?_;refine goN ?_;simp(maxSteps:=2000000)only[push_cast,seval,↓kw2];refine AC.pur h1 ?_;refine goN ?_;simp(maxSteps:=2000000)only[push_cast,seval,↓kw2];refine AC.pur hC1 ?_;refine goN ?_;simp(maxSteps:=2000000)only[push_cast,seval,↓kw2];refine AC.pur hC2 ?_;refine goN ?_;simp(maxSteps:=2000000)only[push_cast,seval,↓kw2,d2];exact⟨_,rfl,2,rfl⟩
   ·rw[if_neg e1,decide_eq_false e1,Bool.false_and]
    generalize pchk a b c X.x X.y X.z X.p X.q X.r X.s X.t X.u=E at hC1 e1 ⊢
    have d2:decide (E≠0)=true:=decide_eq_true e1;refine goQ e11 TOk.nil 0 ?_ (by simp[AV.purL,AV.pur,hps]);simp(maxSteps:=2000000)only[push_cast,seval,↓kw2];refine AC.pur hM ?_;refine goN ?_;simp(maxSteps:=2000000)only[push_cast,seval,↓kw2];refine AC.pur hN ?_;refine goN ?_;simp(maxSteps:=2000000)only[push_cast,seval,↓kw2];refine AC.pur h1 ?_;refine goN ?_;simp(maxSteps:=2000000)only[push_cast,seval,↓kw2];refine AC.pur hC1 ?_;refine goN ?_;simp(maxSteps:=2000000)only[push_cast,seval,↓kw2,d2];exact⟨_,rfl,2,rfl⟩
  ·rw[decide_eq_false c1]at h1;unfold btE;rw[if_neg (fun h=>c1 h.2),decide_eq_false (by decide),Bool.false_and];refine goQ e11 TOk.nil 0 ?_ (by simp[AV.purL,AV.pur,hps]);simp(maxSteps:=2000000)only[push_cast,seval,↓kw2];refine AC.pur hM ?_;refine goN ?_;simp(maxSteps:=2000000)only[push_cast,seval,↓kw2];refine AC.pur hN ?_;refine goN ?_;simp(maxSteps:=2000000)only[push_cast,seval,↓kw2];refine AC.pur h1 ?_;refine goN ?_;simp(maxSteps:=2000000)only[push_cast,seval,↓kw2];exact⟨_,rfl,2,rfl⟩
 ·rw[decide_eq_false hd]at hM;unfold btE;rw[if_neg (fun h=>hd h.1),decide_eq_false (by decide),Bool.false_and];refine goQ e11 TOk.nil 0 ?_ (by simp[AV.purL,AV.pur,hps]);simp(maxSteps:=2000000)only[push_cast,seval,↓kw2];refine AC.pur hM ?_;refine goN ?_;simp(maxSteps:=2000000)only[push_cast,seval,↓kw2];exact⟨_,rfl,2,rfl⟩
theorem whole_fil{a b c:Int}(hd:okD a b c)(w:Wnt)(f:Plc→Bool):(∀ X∈(wholeL a b c w).filter f,X.ok a b c)∧((wholeL a b c w).filter f).length≤24576 :=
 ⟨fun X hX=>((wholeL_mem hd).1 (List.mem_filter.1 hX).1).1,Nat.le_trans (List.length_filter_le _ _) (whole_le hd w)⟩
theorem tells_both{s r:AV}{xs ys:List Int}(hs:IsSl s (xs.map U))(hr:IsSl r (ys.map U))(hx:∀ w∈xs,inU w)(hy:∀ w∈ys,inU w)(hl:xs.length≤2^12)(hl2:ys.length≤2^12)(a b c:Int)(w:Wnt) :
  ∃(Z:Plc) (e f:Int) (u v:AV) (l:List Plc),Pur Tryz.prog GG 6 [.agg [I a,I b,I c],w.av,s,r] (.tup [Z.av,I e])∧Pur Tryz.prog GG 7 [.agg [I a,I b,I c],w.av,s,r] (.tup [Z.av,I e]) ∧
   Pur Tryz.prog GG 8 [.agg [I a,I b,I c],w.av,s,r] (.tup [u,I f])∧Pur Tryz.prog GG 9 [.agg [I a,I b,I c],w.av,s,r] (.tup [v,I f])∧IsSl u (l.map Plc.av)∧IsSl v (l.map Plc.av)∧l.length≤2^20:=by
 have q1:=sl_set hs hx;have q2:=sl_set hr hy
 by_cases hm:mayR a b c w xs ys
 ·have hd:=hm.1.1;have hp:=okD_pos hd;have hmv:zAg a b c=a*b*c:=by rw[zAg,if_pos hd]
  have lx:=((zBl hx).1 hm.2.1).2.1;have ly:=((zBl hy).1 hm.2.2).2.1;have es:=sl_is hs (by omega);have er:=sl_is hr (by omega);have hdw:=dwchk_ok.2 hm.1;have c1:schk (zAg a b c) xs=0:=by rw[hmv]; exact hm.2.1
  have c2:schk (3*zAg a b c) ys=0:=by rw[hmv]; exact hm.2.2
  have hA:=best_is w hx hy c1 c2 hdw;have hR:=rank_is w hx hy c1 c2 hdw;obtain⟨hok,hFl⟩:=whole_fil hd w (zEa a b c xs ys);have hB:=best15 hd w hs hr hx hy lx hl2 rfl hok (by omega);have hS:=rank15 hd w hs hr hx hy lx hl2 hm rfl hok (by omega);rw[← es,← er]at hA hR;have hsl:=rkl_is (a:=a) (b:=b) (c:=c) (w:=w) (sc:=scV a b c xs) (zEa a b c xs ys);have hrl:=rankL_perm (a:=a) (b:=b) (c:=c) (sc:=scV a b c xs) ((wholeL a b c w).filter (zEa a b c xs ys))
  generalize (wholeL a b c w).filter (zEa a b c xs ys)=F at hA hR hB hS hok hFl hsl hrl
  refine⟨_,_,_,_,_,rankL a b c (scV a b c xs) F,hA,?_,hR,hS,hsl,IsSl.frS _,by rw[hrl.length_eq]; omega⟩
  by_cases h0:F=[]
  ·rw[if_pos h0,decide_eq_false (fun h:F≠[]=>h h0)]at hB;rw[if_pos h0,if_pos h0];exact asked_is w hs hr hx hy hl hl2 hm (X:=zPl) (is:=false) hB fun _=>rfl
  ·rw[if_neg h0,decide_eq_true (h0:F≠[])]at hB;rw[if_neg h0,if_neg h0];exact asked_is w hs hr hx hy hl hl2 hm (is:=true) hB fun h=>by cases h
 ·have hno:∀ xs' ys':List Int,s=.isl (xs'.map U)→r=.isl (ys'.map U)→schk (zAg a b c) xs'=0→schk (3*zAg a b c) ys'=0→zEs a b c w.p w.q w.r=0→False:=fun xs' ys' e1 e2 k1 k2 k3=>by
   rw[e1]at hs;rw[e2]at hr;obtain rfl:=isl_inj hs;obtain rfl:=isl_inj hr;have hdw:=dwchk_ok.1 k3;rw[zAg,if_pos hdw.1]at k1 k2;exact hm ⟨hdw,k1,k2⟩
  have hA:Pur Tryz.prog GG 6 [.agg [I a,I b,I c],w.av,s,r] (.tup [zPl.av,I 8]):=by
   rcases best_all a b c w q1 q2 with h | ⟨xs',ys',_,_,e1,e2,k1,k2,k3⟩
   ·exact h
   ·exact(hno xs' ys' e1 e2 k1 k2 k3).elim
  have hR:Pur Tryz.prog GG 8 [.agg [I a,I b,I c],w.av,s,r] (.tup [.c (.slice none 0 0),I 8]):=by
   rcases all_told a b c w q1 q2 with h | ⟨xs',ys',_,_,e1,e2,k1,k2,k3⟩
   ·exact rank_err q1 q2 (by decide) h
   ·exact(hno xs' ys' e1 e2 k1 k2 k3).elim
  exact⟨_,_,_,_,_,[],hA,asked_no w hs hr hx hy hl hl2 hm,hR,rank_no w hs hr hx hy hl hl2 hm,.inr ⟨rfl,rfl⟩,.inr ⟨rfl,rfl⟩,by simp⟩
theorem check_iff{s:AV}{ws:List Int}(hs:IsSl s (ws.map U))(hw:∀ w∈ws,inU w)(n:Int):∃ e,Pur Tryz.prog GG 24 [I n,s] (I e)∧(1≤n→(e=0 ↔ schk n ws=0)):=by
 rcases hs with rfl | ⟨h0,rfl⟩
 ·exact⟨_,zBh n ws,fun _=>Iff.rfl⟩
 ·have hws:ws=[]:=List.map_eq_nil_iff.1 h0;subst hws;obtain⟨e,h1,h2⟩:=check_ex IsSet.nil n;refine⟨e,h1,fun hn=>⟨fun h=>?_,fun h=>?_⟩⟩
  ·obtain⟨_,_,_,h3,_⟩:=h2 h;cases h3
  ·have:=((zBl hw).1 h).2.1;simp only[List.length_nil]at this;omega
theorem better_both{s:AV}{xs:List Int}(hs:IsSl s (xs.map U))(hx:∀ w∈xs,inU w)(hl:xs.length≤2^12)(a b c:Int)(X Y:Plc) :
  ∃(g:Bool) (h:Int),Pur Tryz.prog GG 10 [.agg [I a,I b,I c],X.av,Y.av,s] (.tup [B g,I h])∧Pur Tryz.prog GG 11 [.agg [I a,I b,I c],X.av,Y.av,s] (.tup [B g,I h]):=by
 have q1:=sl_set hs hx;have hB:=better15 (a:=a) (b:=b) (c:=c) hs hx hl X Y
 by_cases hg:okD a b c∧schk (a*b*c) xs=0
 ·obtain⟨hd,c0⟩:=hg;have hp:=okD_pos hd;have hmv:zAg a b c=a*b*c:=by rw[zAg,if_pos hd]
  have lx:=((zBl hx).1 c0).2.1;have es:=sl_is hs (by omega);have c1:schk (zAg a b c) xs=0:=by rw[hmv]; exact c0
  have hck:=check_of c1;rw[← es]at hck;unfold btE at hB;rw[if_pos ⟨hd,c0⟩]at hB
  by_cases h2:pchk a b c X.x X.y X.z X.p X.q X.r X.s X.t X.u=0∧pchk a b c Y.x Y.y Y.z Y.p Y.q Y.r Y.s Y.t Y.u=0
  ·have hX:X.ok a b c:=pchk_okPl h2.1;have hY:Y.ok a b c:=pchk_okPl h2.2;have hA:=betterS hx hd c1 hX hY;rw[← es]at hA;rw[if_pos h2.1,h2.2,decide_eq_true (rfl:(0:Int)=0),Bool.true_and]at hB;exact⟨_,_,hA,hB⟩
  ·have hA:Pur Tryz.prog GG 10 [.agg [I a,I b,I c],X.av,Y.av,s] _:=better_arg q1 hd hck h2;refine⟨_,_,hA,?_⟩;have hne:¬(if pchk a b c X.x X.y X.z X.p X.q X.r X.s X.t X.u=0 then pchk a b c Y.x Y.y Y.z Y.p Y.q Y.r Y.s Y.t Y.u else pchk a b c X.x X.y X.z X.p X.q X.r X.s X.t X.u)=0:=by
    split
    ·exact fun h=>h2 ⟨by assumption,h⟩
    ·assumption
   rw[decide_eq_false hne,Bool.false_and]at hB;exact hB
 ·obtain⟨e,he,hez⟩:=check_iff hs hx (zAg a b c);have hb:¬(chk a b c=0∧e=0):=fun⟨h1,h2⟩=>by
   have hd:=chk_ok.1 h1;have hmv:zAg a b c=a*b*c:=by rw[zAg,if_pos hd]
   have hp:=okD_pos hd;refine hg ⟨hd,?_⟩;rw[← hmv];exact(hez (by omega)).1 h2
  have hA:Pur Tryz.prog GG 10 [.agg [I a,I b,I c],X.av,Y.av,s] _:=better_bad q1 he hb;unfold btE at hB;rw[if_neg hg,decide_eq_false (by decide),Bool.false_and]at hB;exact⟨_,_,hA,hB⟩
theorem e3:Ent Tryz.prog 3 Tryz.f3 [] 6:=.mk Tryz.func3 rfl
attribute [push_cast] Tryz.f3
theorem bestTells_law{s r:AV}{xs ys:List Int}(hs:IsSl s (xs.map U))(hr:IsSl r (ys.map U))(hx:∀ w∈xs,inU w)(hy:∀ w∈ys,inU w)(a b c:Int)(w:Wnt)(X Y:Plc) :
  Pur Tryz.prog GG 3 [.agg [I a,I b,I c],w.av,s,r,X.av,Y.av] (B true):=by
 have hps:=hs.pur (zAe U _ fun _=>rfl);have hpr:=hr.pur (zAe U _ fun _=>rfl);have L1:=hs.len (P:=Tryz.prog) un28;have L2:=hr.len (P:=Tryz.prog) un28;rw[List.length_map]at L1 L2;have hsm:=small_pur a b c;show Pur Tryz.prog GG 3 [.agg [I a,I b,I c],WT w.p w.q w.r w.s w.t w.u w.v,s,r,PL X.x X.y X.z X.p X.q X.r X.s X.t X.u,PL Y.x Y.y Y.z Y.p Y.q Y.r Y.s Y.t Y.u] _
 by_cases g1:100 < (xs.length:Int)
 ·have d1:=decide_eq_true g1;refine goQ e3 TOk.nil 0 ?_ (by simp[AV.purL,AV.pur,hps,hpr]);simp(maxSteps:=2000000)only[push_cast,seval,↓kw2,L1,L2,d1];exact⟨_,rfl,zAa rfl rfl⟩
 ·have d1:=decide_eq_false g1
  by_cases g2:100 < (ys.length:Int)
  ·have d2:=decide_eq_true g2;refine goQ e3 TOk.nil 0 ?_ (by simp[AV.purL,AV.pur,hps,hpr]);simp(maxSteps:=2000000)only[push_cast,seval,↓kw2,L1,L2,d1,d2];exact⟨_,rfl,zAa rfl rfl⟩
  ·have d2:=decide_eq_false g2;cases g3:smallV a b c
   ·rw[g3]at hsm;refine goQ e3 TOk.nil 0 ?_ (by simp[AV.purL,AV.pur,hps,hpr]);simp(maxSteps:=2000000)only[push_cast,seval,↓kw2,L1,L2,d1,d2];refine AC.pur hsm ?_;refine goN ?_;simp(maxSteps:=2000000)only[push_cast,seval,↓kw2];exact⟨_,rfl,zAa rfl rfl⟩
   ·rw[g3]at hsm;obtain⟨Z,e,f,u,v,l,hA,hB,hR,hT,i1,i2,hll⟩:=tells_both hs hr hx hy (by omega) (by omega) a b c w;obtain⟨g,h,hC,hD⟩:=better_both hs hx (by omega) a b c X Y;have hS:=same12 i1 i2 hll;obtain⟨z1,z2,z3,z4,z5,z6,z7,z8,z9⟩:=Z;have heq:=eqPlS z1 z2 z3 z4 z5 z6 z1 z2 z3 z4 z5 z6 z7 z8 z9 z7 z8 z9;rw[decide_eq_true (show zDy z1 z2 z3 z4 z5 z6 z1 z2 z3 z4 z5 z6 z7 z8 z9 z7 z8 z9 from ⟨rfl,rfl,rfl,rfl,rfl,rfl,rfl,rfl,rfl⟩)]at heq
    replace hA:Pur Tryz.prog GG 6 [.agg [I a,I b,I c],w.av,s,r] (.tup [PL z1 z2 z3 z4 z5 z6 z7 z8 z9,I e]):=hA
    replace hB:Pur Tryz.prog GG 7 [.agg [I a,I b,I c],w.av,s,r] (.tup [PL z1 z2 z3 z4 z5 z6 z7 z8 z9,I e]):=hB
    refine goQ e3 TOk.nil 0 ?_ (by simp[AV.purL,AV.pur,hps,hpr]);simp(maxSteps:=2000000)only[push_cast,seval,↓kw2,L1,L2,d1,d2];refine AC.pur hsm ?_;refine goN ?_;simp(maxSteps:=2000000)only[push_cast,seval,↓kw2];refine AC.pur hA ?_;refine goN ?_;simp(maxSteps:=2000000)only[push_cast,seval,↓kw2];refine AC.pur hB ?_;refine goN ?_;simp(maxSteps:=2000000)only[push_cast,seval,↓kw2];refine AC.pur hR ?_;refine goN ?_;simp(maxSteps:=2000000)only[push_cast,seval,↓kw2];refine AC.pur hT ?_;refine goN ?_;simp(maxSteps:=2000000)only[push_cast,seval,↓kw2];refine AC.pur hC ?_;refine goN ?_;simp(maxSteps:=2000000)only[push_cast,seval,↓kw2];refine AC.pur hD ?_;refine goN ?_;simp(maxSteps:=2000000)only[push_cast,seval,↓kw2,heq,zCa];refine AC.pur hS ?_;refine goN ?_;simp(maxSteps:=2000000)only[push_cast,seval,↓kw2];exact⟨_,rfl,zAa rfl rfl⟩
end Go.Ab.Pd
