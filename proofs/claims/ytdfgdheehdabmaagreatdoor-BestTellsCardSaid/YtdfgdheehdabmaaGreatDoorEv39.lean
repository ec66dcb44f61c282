/- One of the texts that this claim stands on. -/
import Derived.Test.YtdfgdheehdabmaaGreatDoorEv27
import Derived.Test.YtdfgdheehdabmaaGreatDoorEv28
import Derived.Test.YtdfgdheehdabmaaGreatDoorEv36
import Derived.Test.YtdfgdheehdabmaaGreatDoorEv30
import Derived.Test.YtdfgdheehdabmaaGreatDoorEv34
import Derived.Test.YtdfgdheehdabmaaGreatDoorEv12
set_option maxHeartbeats 40000000
set_option maxRecDepth 400000
set_option linter.all false
namespace Go.Ab.Pd
open Go.Proofs
def tzI(w:Int):Int:=(IntKind.u64.wrap (IntKind.u64.wrap ((BitVec.ofInt IntKind.u64.bits w &&& BitVec.ofInt IntKind.u64.bits (IntKind.u64.wrap (0 - w))).toNat:Int)*285870213051353865)).fdiv (2^(min 58 IntKind.u64.bits))
theorem tzI_lt(w:Int):0≤tzI w∧(tzI w).toNat < 64:=by
 unfold tzI;have h:=wrap_inU (IntKind.u64.wrap ((BitVec.ofInt IntKind.u64.bits w &&& BitVec.ofInt IntKind.u64.bits (IntKind.u64.wrap (0 - w))).toNat:Int)*285870213051353865)
 generalize IntKind.u64.wrap (IntKind.u64.wrap ((BitVec.ofInt IntKind.u64.bits w &&& BitVec.ofInt IntKind.u64.bits (IntKind.u64.wrap (0 - w))).toNat:Int)*285870213051353865)=x at h
 unfold inU at h;rw[show(2:Int)^(min 58 IntKind.u64.bits)=288230376151711744 by decide,Int.fdiv_eq_ediv_of_nonneg _ (by decide)];omega
theorem tab0_len:tab0.length=64:=by rfl
theorem tab0_u8:∀ i,i < 64→∃ n:Int,tab0.getD i .un=.c (.int .u8 n):=by
 intro i hi
 refine⟨(match tab0.getD i .un with | .c (.int _ n)=>n | _=>0),?_⟩;have:∀ j:Fin 64,∃ n,tab0.getD j.1 .un=.c (.int .u8 n):=by
  intro j
  have hm:tab0.getD j.1 .un∈tab0:=by
   rw[show tab0.getD j.1 .un=tab0[j.1]'(by rw[tab0_len]; exact j.2) by simp[List.getD,tab0_len]];exact List.getElem_mem _
  unfold tab0 at hm;obtain⟨n,_,hn⟩:=List.mem_map.1 hm;exact⟨n,hn.symm⟩
 obtain⟨n,hn⟩:=this ⟨i,hi⟩;simp only at hn;rw[hn]
theorem tab_drop{i:Nat}{v:AV}(hi:i < 64)(h:tab0.getD i .un=v):(tab0.drop i).take 1=[v]:=by
 have hl:i < tab0.length:=by rw[tab0_len]; exact hi
 rw[List.drop_eq_getElem_cons hl,List.take_succ_cons,List.take_zero];simp only[List.getD,List.getElem?_eq_getElem hl,Option.getD_some]at h;rw[h]
theorem tab_le{i:Nat}(hi:i < 64):(i+1≤tab0.length)=True:=by
 rw[tab0_len];exact eq_true hi
theorem GGat0:GG 0=some tab0:=(rfl)
theorem e138:Ent Tryz.prog 138 Tryz.f138 [] 1:=.mk Tryz.func138 rfl
attribute [push_cast] Tryz.f138
theorem tz_zero(w:Int)(hp:w=0):Pur Tryz.prog GG 138 [U w] (I 64):=by
 have hd:decide (w=0)=true:=decide_eq_true hp;refine goQ e138 zCh 0 ?_;simp(maxSteps:=2000000)only[push_cast,seval,↓kw2,hd];exact⟨_,rfl,zAa rfl rfl⟩
theorem tz_pos(w m q:Int)(hp:¬w=0∧tab0.getD q.toNat .un=.c (.int .u8 m)∧(0≤q∧q.toNat < 64)∧(IntKind.u64.wrap (IntKind.u64.wrap ((BitVec.ofInt IntKind.u64.bits w &&& BitVec.ofInt IntKind.u64.bits (IntKind.u64.wrap (0 - w))).toNat:Int)*285870213051353865)).fdiv (2^(min 58 IntKind.u64.bits))=q):Pur Tryz.prog GG 138 [U w] (I (IntKind.i64.wrap m)):=by
 obtain⟨hw,hm,hq,hi⟩:=hp;have hd:decide (w=0)=false:=decide_eq_false hw;have hrd:=tab_drop hq.2 hm;have hle:=tab_le hq.2;refine goQ e138 zCh 0 ?_;simp(maxSteps:=2000000)only[push_cast,seval,↓kw2,hd,hrd,hle,GGat0,hi,Nat.mul_one];exact⟨by omega,_,rfl,zAa rfl rfl⟩
def tzV(w:Int):Int:=if w=0 then 64 else match tab0.getD (tzI w).toNat .un with
 | .c (.int _ m)=>IntKind.i64.wrap m
 | _=>0
theorem tzV_pur(w:Int):Pur Tryz.prog GG 138 [U w] (I (tzV w)):=by
 unfold tzV
 by_cases hw:w=0
 ·rw[if_pos hw];exact tz_zero w hw
 ·rw[if_neg hw];obtain⟨m,hm⟩:=tab0_u8 (tzI w).toNat (tzI_lt w).2;rw[hm];exact tz_pos w m _ ⟨hw,hm,tzI_lt w,rfl⟩
def andV(x y:Int):Int:=IntKind.u64.wrap ((BitVec.ofInt IntKind.u64.bits x &&& BitVec.ofInt IntKind.u64.bits y).toNat:Int)
def dropV(w:Int):Int:=andV w (IntKind.u64.wrap (w - 1))
theorem nat_drop{n k:Nat}(h0:0 < n)(h:2^k ∣ n):2^(k+1) ∣ (n &&& (n - 1)):=by
 obtain⟨q,rfl⟩:=h;apply Nat.dvd_of_mod_eq_zero;rw[Nat.and_mod_two_pow];have hk:0 < 2^k:=Nat.two_pow_pos k
 rcases Nat.mod_two_eq_zero_or_one q with hq | hq
 ·obtain⟨j,rfl⟩:∃ j,q=2*j:=⟨q / 2,by omega⟩;rw[show 2^k*(2*j)=2^(k+1)*j by rw[Nat.pow_succ,Nat.mul_assoc],Nat.mul_mod_right,Nat.zero_and]
 ·obtain⟨j,rfl⟩:∃ j,q=2*j+1:=⟨q / 2,by omega⟩;have e1:2^k*(2*j+1)=2^k+2^(k+1)*j:=by rw[Nat.mul_add,Nat.mul_one,Nat.pow_succ,Nat.mul_assoc,Nat.add_comm]
  have e2:2^k*(2*j+1) - 1=(2^k - 1)+2^(k+1)*j:=by rw[e1]; omega
  rw[e2,e1,Nat.add_mul_mod_self_left,Nat.add_mul_mod_self_left,Nat.mod_eq_of_lt (by rw[Nat.pow_succ]; omega),Nat.mod_eq_of_lt (by rw[Nat.pow_succ]; omega),Nat.and_two_pow_sub_one_eq_mod,Nat.mod_self]
theorem dropV_nat{w:Int}(h:inU w)(h0:¬w=0):dropV w=((w.toNat &&& (w.toNat - 1):Nat):Int):=by
 unfold inU at h;obtain⟨n,rfl⟩:∃ n:Nat,w=n:=⟨w.toNat,by omega⟩;unfold dropV andV;have e1:IntKind.u64.wrap ((n:Int) - 1)=((n - 1:Nat):Int):=by rw[IntKind.wrap_u64]; omega
 rw[e1,IntKind.wrap_u64,BitVec.toNat_and];have b1:(BitVec.ofInt IntKind.u64.bits (n:Int)).toNat=n:=by
  rw[BitVec.ofInt_natCast,BitVec.toNat_ofNat];exact Nat.mod_eq_of_lt (by show n < 2^64; omega)
 have b2:(BitVec.ofInt IntKind.u64.bits ((n - 1:Nat):Int)).toNat=n - 1:=by
  rw[BitVec.ofInt_natCast,BitVec.toNat_ofNat];exact Nat.mod_eq_of_lt (by show n - 1 < 2^64; omega)
 rw[b1,b2,Int.toNat_natCast];have:n &&& (n - 1)≤n:=Nat.and_le_left;omega
def Lft(m:Nat)(w:Int):Prop:=inU w∧m≤64∧2^(64 - m) ∣ w.toNat
theorem Lft.zero{w:Int}(h:Lft 0 w):w=0:=by
 obtain⟨h1,_,h2⟩:=h;unfold inU at h1;have:w.toNat < 2^64:=by omega
 have:=Nat.eq_zero_of_dvd_of_lt h2 this;omega
theorem Lft.drop{m:Nat}{w:Int}(h:Lft (m+1) w)(h0:¬w=0):Lft m (dropV w):=by
 obtain⟨h1,h2,h3⟩:=h;refine⟨wrap_inU _,by omega,?_⟩;rw[dropV_nat h1 h0,Int.toNat_natCast,show 64 - m=(64 - (m+1))+1 by omega];unfold inU at h1;exact nat_drop (by omega) h3
theorem Lft.start{w:Int}(h:inU w):Lft 64 w:=⟨h,by omega,by simp⟩
def wordL(i:Int):Nat→Int→List Int
 | 0,_=>[]
 | m+1,w=>if w=0 then [] else IntKind.i64.wrap (IntKind.i64.wrap (64*i)+tzV w)::wordL i m (dropV w)
theorem wordL_length(i:Int):∀(m:Nat) (w:Int),(wordL i m w).length≤m
 | 0,w=>by simp[wordL]
 | m+1,w=>by
  unfold wordL
  split
  ·simp
  ·have:=wordL_length i m (dropV w);simp; omega
def listL(ws:List Int):List Int:=upto (fun i=>wordL i 64 (ws.getD i.toNat 0)) 0 ws.length
theorem listL_length(ws:List Int):(listL ws).length≤ws.length*64:=upto_le _ 64 _ _ fun i _ _=>wordL_length _ _ _
theorem e113:Ent Tryz.prog 113 Tryz.f113 [] 2:=.mk Tryz.func113 rfl
attribute [push_cast] Tryz.f113
theorem list_is(n:Int){ws:List Int}(hw:∀ w∈ws,inU w)(lw:ws.length≤192)(p:Pur Tryz.prog GG 24 [I n,.isl (ws.map U)] (I 0)):Pur Tryz.prog GG 113 [I n,.isl (ws.map U)] (.tup [frS ((listL ws).map IA),I 0]):=by
 have hll:=listL_length ws;refine goQ e113 zCh 0 ?_ (by simp[AV.purL,AV.pur,zAe U _ (fun _=>rfl)]);simp(maxSteps:=2000000)only[push_cast,seval,↓kw2];refine AC.pur p ?_;refine goW zCh [] 0 ?_;simp(maxSteps:=2000000)only[push_cast,seval,↓kw2];refine FW.loopInv (fun l ts H=>∃(i:Nat) (es:List Int) (sl:AV),i+l=ws.length∧es++upto (fun i=>wordL i 64 (ws.getD i.toNat 0)) (i:Int) l=listL ws∧Own H sl (es.map IA) ∧
  ts 4=sl∧ts 5=I 0∧ts 13=.isl (ws.map U)∧ts 14=I (ws.map U).length∧ts 15=I (i:Int)) ws.length
  ⟨0,[],_,by omega,rfl,.nil,rfl,rfl,rfl,rfl,rfl⟩ ?_
 rintro l ih ts H ⟨i,es,sl,hi,hes,hown,t4,t5,t13,t14,t15⟩
 rw[List.length_map]at t14;refine FW.inLoop ?_
 by_cases hlt:i < ws.length
 ·have hd1:decide ((i:Int) < (ws.length:Int))=true:=by simp[hlt]
  have hgd:=zAm U ws 0 hlt;have hiu:inU (ws.getD i 0):=hw _ (by rw[show ws.getD i 0=ws[i] by simp[List.getD,hlt]]; exact List.getElem_mem hlt);obtain⟨l,rfl⟩:∃ l',l=l'+1:=⟨l - 1,by omega⟩;rw[zCq,Int.toNat_natCast]at hes
  generalize ws.getD i 0=w at hgd hiu hes
  have hi1:=zAf (n:=(i:Int)+1) (by omega) (by omega)
  by_cases hw0:w=0
  ·subst hw0;refine goW zCh [] 0 ?_;simp(maxSteps:=2000000)only[push_cast,seval,↓kw2,t4,t5,t13,t14,t15,hd1,hgd,List.length_map,Int.toNat_natCast,hi1];refine⟨by omega,?_⟩;exact ih l (by omega) _ _ ⟨i+1,es,sl,by omega,by simpa[wordL]using hes,hown,t4,t5,t13,by rw[List.length_map]; exact t14,rfl⟩
  ·refine goW zCh [] 0 ?_;simp(maxSteps:=2000000)only[push_cast,seval,↓kw2,t4,t5,t13,t14,t15,hd1,hgd,hw0,List.length_map,Int.toNat_natCast];refine⟨by omega,?_⟩;refine AC.pur (tzV_pur w) ?_;have hap:=fun v=>aApp1 (P:=Tryz.prog) un60 un60 ze3 rfl by3 hown v
   have hel:=zAz hes;refine goW zCh [] 0 ?_;simp(maxSteps:=2000000)only[push_cast,seval,↓kw2,hap];refine⟨zBq (by rw[List.length_map]; omega) (by decide),?_⟩;refine FW.loopInv (fun m ts H=>∃(w:Int) (es:List Int) (sl:AV),Lft m w∧es++(wordL (i:Int) m w++upto (fun i=>wordL i 64 (ws.getD i.toNat 0)) ((i:Int)+1) l)=listL ws∧Own H sl (es.map IA) ∧
    ts 4=sl∧ts 5=I 0∧ts 6=I (i:Int)∧ts 7=U w∧ts 13=.isl (ws.map U)∧ts 14=I ws.length∧ts 15=I (i:Int)) 63
    ⟨dropV w,es++[IntKind.i64.wrap (IntKind.i64.wrap (64*(i:Int))+tzV w)],.sl (H.length+1) 0 ((es.map IA).length+1) ((es.map IA).length+1),(Lft.start hiu).drop hw0,
     by rw[← hes]; simp[wordL,hw0],apI,rfl,t5,rfl,rfl,t13,t14,t15⟩ ?_
   clear hgd hiu hes hw0 hown t4 t5 t13 t14 t15 hap hel
   rintro m ihm ts H ⟨w,es,sl,hlf,hes,hown,t4,t5,t6,t7,t13,t14,t15⟩
   refine FW.goto rfl ?_
   by_cases hw0:w=0
   ·subst hw0;refine goW zCh [] 0 ?_;simp(maxSteps:=2000000)only[push_cast,seval,↓kw2,t4,t5,t6,t7,t13,t14,t15,hi1];have hz:wordL (i:Int) m 0=[]:=by cases m <;> simp[wordL]
    rw[hz]at hes;exact ih l (by omega) _ _ ⟨i+1,es,sl,by omega,by simpa using hes,hown,t4,t5,t13,by rw[List.length_map]; exact t14,rfl⟩
   ·obtain⟨m,rfl⟩:∃ m',m=m'+1:=⟨m - 1,by
     have:m≠0:=fun e=>hw0 (by subst e; exact hlf.zero)
     omega⟩
    refine goW zCh [] 0 ?_;simp(maxSteps:=2000000)only[push_cast,seval,↓kw2,t4,t5,t6,t7,t13,t14,t15,hw0];refine AC.pur (tzV_pur w) ?_;have hap:=fun v=>aApp1 (P:=Tryz.prog) un60 un60 ze3 rfl by3 hown v
    have hel:=zAz hes;refine goW zCh [] 0 ?_;simp(maxSteps:=2000000)only[push_cast,seval,↓kw2,hap,t6,t7];refine⟨zBq (by rw[List.length_map]; omega) (by decide),?_⟩;exact ihm m (by omega) _ _ ⟨dropV w,es++[IntKind.i64.wrap (IntKind.i64.wrap (64*(i:Int))+tzV w)],.sl (H.length+1) 0 ((es.map IA).length+1) ((es.map IA).length+1),hlf.drop hw0,
     by rw[← hes]; simp[wordL,hw0],apI,rfl,t5,t6,rfl,t13,t14,t15⟩
 ·have hd1:decide ((i:Int) < (ws.length:Int))=false:=by simp; omega
  have hl:l=0:=by omega
  subst hl;refine goW zCh [] 0 ?_;simp(maxSteps:=2000000)only[push_cast,seval,↓kw2,t4,t5,t14,t15,hd1];simp only[upto,List.append_nil]at hes;subst hes;obtain⟨m',hm'⟩:=hown.done2 (v:=I 0) (zAe IA _ (fun _=>rfl)) rfl;exact⟨_,rfl,m',hm'⟩
theorem e114:Ent Tryz.prog 114 Tryz.f114 [] 2:=.mk Tryz.func114 rfl
attribute [push_cast] Tryz.f114
theorem sides_pur(a b c m:Int):Pur Tryz.prog GG 114 [.agg [I a,I b,I c],I m] (.fn 139 [] [.iptr [I a,I b,I c] 0,.iptr [I m] 0]):=by
 refine goQ e114 zCh 0 ?_;simp(maxSteps:=2000000)only[push_cast,seval,↓kw2];exact⟨_,rfl,3,rfl⟩
@[push_cast] def g114:List AV→Option (Prop × AV)
 | [.agg [(.c (.int .i64 a)),(.c (.int .i64 b)),(.c (.int .i64 c))],(.c (.int .i64 m))]=>some (True,.fn 139 [] [.iptr [I a,I b,I c] 0,.iptr [I m] 0])
 | _=>none
theorem g114_ok:∀ args p,g114 args=some p→p.1→Pur Tryz.prog GG 114 args p.2:=by
 intro args p hp hc
 unfold g114 at hp
 split at hp
 ·cases hp;exact sides_pur _ _ _ _
 ·cases hp
@[push_cast] def T24:Tab:=Tab.ext T23 114 g114
theorem zCe:TOk Tryz.prog GG T24:=TOk.ext zCh g114_ok
def sideL(a b c m k:Int):List Int:=if dimV a b c k=1 then [] else [stV a b c m k 1,stV a b c m k (-1)]
def sidesL(a b c m:Int):List Int:=upto (sideL a b c m) 0 3
theorem e139:Ent Tryz.prog 139 Tryz.f139 [] 3:=.mk Tryz.func139 rfl
attribute [push_cast] Tryz.f139
theorem sides1{a b c m:Int}{id:Nat}{H:List AO}{K:AV→List AO→Prop}(h:afterL Tryz.prog GG id K (sidesL a b c m) H) :
  AC Tryz.prog GG 139 [.yld id,.iptr [I a,I b,I c] 0,.iptr [I m] 0] H K:=by
 refine goE e139 zCe 0 ?_;simp(maxSteps:=2000000)only[push_cast,seval,↓kw2];refine FW.loopInv (fun l ts H=>∃ k:Int,k+(l:Int)=3∧0≤k∧afterL Tryz.prog GG id K (upto (sideL a b c m) k l) H∧ts 0=.yld id∧ts 1=.iptr [I a,I b,I c] 0∧ts 2=.iptr [I m] 0∧ts 10=.agg [I a,I b,I c]∧ts 11=I k) 3
  ⟨0,by omega,by omega,h,rfl,rfl,rfl,rfl,rfl⟩ ?_
 clear h
 rintro l ih ts H ⟨k,hk,hk0,h,t0,t1,t2,t10,t11⟩
 refine FW.inLoop ?_;have hkk:(l=3∧k=0)∨(l=2∧k=1)∨(l=1∧k=2)∨(l=0∧k=3):=by omega
 have e0:dimV a b c 0=a:=rfl;have e1:dimV a b c 1=b:=rfl;have e2:dimV a b c 2=c:=rfl;obtain⟨q0,hq0⟩:∃ q,q=dimV a b c k:=⟨_,rfl⟩
 rcases hkk with ⟨rfl,rfl⟩ | ⟨rfl,rfl⟩ | ⟨rfl,rfl⟩ | ⟨rfl,rfl⟩
 rotate_left 3
 ·refine goW zCe [] 3 ?_;simp(maxSteps:=2000000)only[push_cast,seval,↓kw2,t0,t1,t2,t10,t11];exact⟨_,rfl,h⟩
 all_goals
  rw[zCq]at h;unfold sideL at h;simp only[e0,e1,e2]at h hq0
  by_cases hd:q0=1
  ·subst hq0;rw[if_pos hd]at h;refine goW zCe [] 3 ?_;simp(maxSteps:=2000000)only[push_cast,seval,↓kw2,t0,t1,t2,t10,t11,hd];exact ih _ (by decide) _ _ ⟨_,by decide,by decide,h,t0,t1,t2,t10,rfl⟩
  ·have hd':decide (q0=1)=false:=decide_eq_false hd;subst hq0;rw[if_neg hd]at h;refine goW zCe [] 1 ?_;simp(maxSteps:=2000000)only[push_cast,seval,↓kw2,t0,t1,t2,t10,t11,hd'];refine ACV.mono (callee:=.yld id) h ?_
   rintro v H1 ⟨hf,ht,q,rfl⟩
   cases q
   ·have hK:=hf rfl;refine goW zCe [] 0 ?_;simp(maxSteps:=2000000)only[push_cast,seval,↓kw2];exact⟨_,rfl,hK⟩
   ·have hn:=ht rfl;refine goW zCe [] 1 ?_;simp(maxSteps:=2000000)only[push_cast,seval,↓kw2,t0,t1,t2,t10,t11,hd'];refine ACV.mono (callee:=.yld id) hn ?_
    rintro v H2 ⟨hf,ht,q,rfl⟩
    cases q
    ·have hK:=hf rfl;refine goW zCe [] 0 ?_;simp(maxSteps:=2000000)only[push_cast,seval,↓kw2];exact⟨_,rfl,hK⟩
    ·have hn:=ht rfl;refine goW zCe [] 1 ?_;simp(maxSteps:=2000000)only[push_cast,seval,↓kw2,t0,t1,t2,t10,t11];exact ih _ (by decide) _ _ ⟨_,by decide,by decide,hn,t0,t1,t2,t10,rfl⟩
theorem e70:Ent Tryz.prog 70 Tryz.f70 [] 2:=.mk Tryz.func70 rfl
attribute [push_cast] Tryz.f70
theorem sckd_ac{a b c:Int}{s:AV}(hd:okD a b c)(p:Pur Tryz.prog GG 24 [I (zAg a b c),s] (I 0))(q:IsSet s){H:List AO}{id:Nat}(hid:H[id]?=some (.arr 1 [s]))
  {K:AV→List AO→Prop} (hK:∀ l,K (.tup [I (zAg a b c),I 0]) (H++l)):AC Tryz.prog GG 70 [.agg [I a,I b,I c],.sl id 0 1 1] H K:=by
 obtain⟨a1,a2,a3⟩:=q.cell;have hck:=chk_ok.2 hd;have hid2:∀ l,(H++l)[id]?=some (.arr 1 [s]):=fun l=>by rw[List.getElem?_append_left (zAb hid)]; exact hid
 refine goE e70 zCe 1 ?_;simp(maxSteps:=2000000)only[push_cast,seval,↓kw2,zDh,hid,hid2,a1,a2,a3,hck];refine AC.pur p ?_;refine goW zCe [] 1 ?_;simp(maxSteps:=2000000)only[push_cast,seval,↓kw2,zDh,hid,hid2,a1,a2,a3,hck];exact⟨_,rfl,hK _⟩
def zFr(x y:Int):Int:=IntKind.u64.wrap ((BitVec.ofInt IntKind.u64.bits x &&& ~~~(BitVec.ofInt IntKind.u64.bits y)).toNat:Int)
theorem e112:Ent Tryz.prog 112 Tryz.f112 [] 2:=.mk Tryz.func112 rfl
attribute [push_cast] Tryz.f112
theorem andn_pur(x y:Int):Pur Tryz.prog GG 112 [U x,U y] (U (zFr x y)):=by
 refine goQ e112 zCh 0 ?_;simp(maxSteps:=2000000)only[push_cast,seval,↓kw2];exact⟨_,rfl,zAa rfl rfl⟩
@[push_cast] def g112:List AV→Option (Prop × AV)
 | [(.c (.int .u64 x)),(.c (.int .u64 y))]=>some (True,U (zFr x y))
 | _=>none
theorem g112_ok:∀ args p,g112 args=some p→p.1→Pur Tryz.prog GG 112 args p.2:=by
 intro args p hp hc
 unfold g112 at hp
 split at hp
 ·cases hp;exact andn_pur _ _
 ·cases hp
@[push_cast] def T28:Tab:=Tab.ext T23 112 g112
theorem T28_ok:TOk Tryz.prog GG T28:=TOk.ext zCh g112_ok
theorem andn_inU(x y:Int):inU (zFr x y):=wrap_inU _
theorem e71:Ent Tryz.prog 71 Tryz.f71 [] 3:=.mk Tryz.func71 rfl
attribute [push_cast] Tryz.f71
theorem less_of{n e:Int}{s1 s2 s:AV}(hp:Pur Tryz.prog GG 109 [I n,s1,s2,.fn 112 [] []] (.tup [s,I e]))(h1:s1.pur=true)(h2:s2.pur=true)(h3:s.pur=true):Pur Tryz.prog GG 71 [I n,s1,s2] (.tup [s,I e]):=by
 refine goQ e71 T28_ok 0 ?_ (by simp[AV.purL,AV.pur,h1,h2]);simp(maxSteps:=2000000)only[push_cast,seval,↓kw2];refine AC.pur hp ?_;refine goW T28_ok [] 0 ?_;simp(maxSteps:=2000000)only[push_cast,seval,↓kw2];exact⟨_,rfl,zAa (by simp[AV.pur,AV.purL,h3]) rfl⟩
theorem less_is(n:Int){xs ys:List Int}(hx:∀ w∈xs,inU w)(hy:∀ w∈ys,inU w)(hlen:xs.length=ys.length)(h0:0 < xs.length)(hl:xs.length≤2^16)(p1:Pur Tryz.prog GG 24 [I n,.isl (xs.map U)] (I 0))(p2:Pur Tryz.prog GG 24 [I n,.isl (ys.map U)] (I 0)) :
  Pur Tryz.prog GG 71 [I n,.isl (xs.map U),.isl (ys.map U)] (.tup [.isl ((List.zipWith zFr xs ys).map U),I 0]) :=
 less_of (joined_ok n andn_pur hx hy hlen h0 hl p1 p2) (IsSet.isl hx).pur (IsSet.isl hy).pur (IsSet.isl (zip_inU andn_inU xs ys)).pur
def allL(n:Int):List Int:=upto (fun i=>[i]) 0 n.toNat
theorem allL_length(n:Int):(allL n).length=n.toNat:=by unfold allL; rw[zDq _ 1 _ _ (fun _ _ _=>rfl),Nat.mul_one]
theorem allL_mem{n k:Int}(h:k∈allL n):0≤k∧k < n:=by
 obtain⟨i,h1,h2,h3⟩:=zDi h;rw[List.mem_singleton]at h3;subst h3;omega
theorem e72:Ent Tryz.prog 72 Tryz.f72 [] 2:=.mk Tryz.func72 rfl
attribute [push_cast] Tryz.f72
theorem others_of{n e:Int}(hn:1≤n∧n≤4096){s s':AV}(q:IsSet s)(hs':IsSet s')(hless:Pur Tryz.prog GG 71 [I n,.isl ((ofL n (allL n)).map U),s] (.tup [s',I e])):Pur Tryz.prog GG 72 [I n,s] s':=by
 have hof:=of_set_pur n (allL n) ⟨by omega,fun k hk=>allL_mem hk,by rw[allL_length]; omega⟩;have hpu:=q.pur;refine goQ e72 zCe 0 ?_ (by simp[AV.purL,AV.pur,hpu]);simp(maxSteps:=2000000)only[push_cast,seval,↓kw2];refine FW.loopInv (fun l ts H=>∃(i:Int) (es:List Int) (sl:AV),i+(l:Int)=n∧0≤i∧es++upto (fun i=>[i]) i l=allL n∧Own H sl (es.map IA)∧ts 0=I n∧ts 1=s∧ts 5=sl∧ts 11=I n∧ts 12=I i) n.toNat
  ⟨0,[],_,by omega,by omega,rfl,.nil,rfl,rfl,rfl,rfl,rfl⟩ ?_
 rintro l ih ts H ⟨i,es,sl,hi,hi0,hes,hown,t0,t1,t5,t11,t12⟩
 refine FW.inLoop ?_
 by_cases hlt:i < n
 ·have hd1:decide (i < n)=true:=decide_eq_true hlt;obtain⟨l,rfl⟩:∃ l',l=l'+1:=⟨l - 1,by omega⟩;rw[zCq]at hes;have hap:=fun v=>aApp1 (P:=Tryz.prog) un60 un60 ze3 rfl by3 hown v
  have hel:=zAz hes;rw[allL_length]at hel;refine goW zCe [] 0 ?_;simp(maxSteps:=2000000)only[push_cast,seval,↓kw2,t0,t1,t5,t11,t12,hd1,hap];refine⟨zBq (by rw[List.length_map]; omega) (by decide),?_⟩;rw[zAf (n:=i+1) (by omega) (by omega)];exact ih l (by omega) _ _ ⟨i+1,es++[i],.sl (H.length+1) 0 ((es.map IA).length+1) ((es.map IA).length+1),by omega,by omega,by rw[← hes]; simp,apI,t0,t1,rfl,t11,rfl⟩
 ·have hd1:decide (i < n)=false:=decide_eq_false hlt;have hl:l=0:=by omega
  subst hl;simp only[upto,List.append_nil]at hes;subst hes;refine goW zCe [] 0 ?_;simp(maxSteps:=2000000)only[push_cast,seval,↓kw2,t0,t1,t5,t11,t12,hd1];refine Own.freeze (pre:=[I n]) (post:=[]) hown (zAe IA _ (fun _=>rfl)) ?_
  intro H' _
  refine AC.pur hof ?_;refine goW zCe [] 0 ?_;simp(maxSteps:=2000000)only[push_cast,seval,↓kw2,t0,t1];refine AC.pur hless ?_;refine goW zCe [] 0 ?_;simp(maxSteps:=2000000)only[push_cast,seval,↓kw2];exact⟨_,rfl,zAa hs'.pur rfl⟩
def stepC(has:Int→Bool)(acc o:Int):Int:=if has o=true then IntKind.i64.wrap (acc+1) else acc
def stepM(a b c:Int)(has:Int→Bool)(acc m:Int):Int:=(sidesL a b c m).foldl (stepC has) acc
theorem e73:Ent Tryz.prog 73 Tryz.f73 [] 4:=.mk Tryz.func73 rfl
attribute [push_cast] Tryz.f73
theorem open_of(a b c n:Int){s1 s2:AV}(q1:IsSet s1)(q2:IsSet s2){ls:List Int}{e:Int}(hlen:ls.length≤2^18)(hlist:Pur Tryz.prog GG 113 [I n,s1] (.tup [frS (ls.map IA),I e])){has:Int→Bool}(hhas:∀ k,∃ e,Pur Tryz.prog GG 115 [I n,s2,I k] (.tup [B (has k),I e])) :
  Pur Tryz.prog GG 73 [.agg [I a,I b,I c],I n,s1,s2] (I (ls.foldl (stepM a b c has) 0)):=by
 have h1:=q1.pur;have h2:=q2.pur;obtain⟨b1,b2,b3⟩:=q2.cell;refine goQ e73 zCe 0 ?_ (by simp[AV.purL,AV.pur,h1,h2]);simp(maxSteps:=2000000)only[push_cast,seval,↓kw2,b1,b2,b3];refine AC.pur hlist ?_;refine goW zCe [] 0 ?_;simp(maxSteps:=2000000)only[push_cast,seval,↓kw2,aLenI];refine FW.loopInv (fun l ts H=>∃(i:Nat) (acc:Int),i+l=ls.length∧(ls.drop i).foldl (stepM a b c has) acc=ls.foldl (stepM a b c has) 0∧H[0]?=some (.cells [I a,I b,I c])∧H[1]?=some (.cells [I n])∧H[2]?=some (.cells [s2])∧H[3]?=some (.cells [I acc]) ∧
  ts 4=.ptr 0 0∧ts 5=.ptr 1 0∧ts 7=.ptr 2 0∧ts 8=.ptr 3 0∧ts 22=frS (ls.map IA)∧ts 23=I ls.length∧ts 24=I (i:Int)) ls.length
  ⟨0,0,by omega,rfl,rfl,rfl,rfl,rfl,rfl,rfl,rfl,rfl,rfl,rfl,rfl⟩ ?_
 rintro l ih ts H ⟨i,acc,hi,hes,g0,g1,g2,g3,t4,t5,t7,t8,t22,t23,t24⟩
 refine FW.inLoop ?_
 by_cases hlt:i < ls.length
 ·have hd1:decide ((i:Int) < (ls.length:Int))=true:=by simp[hlt]
  have hx:=aIdxI (l:=ls) i H (by omega);rw[Int.toNat_natCast,zAm IA ls 0 hlt]at hx;obtain⟨l,rfl⟩:∃ l',l=l'+1:=⟨l - 1,by omega⟩;rw[zBi 0 hlt,List.foldl_cons]at hes
  generalize ls.getD i 0=m at hx hes
  refine goW zCe [] 0 ?_;simp(maxSteps:=2000000)only[push_cast,seval,↓kw2,t4,t5,t7,t8,t22,t23,t24,hd1,hx,g0];refine⟨by omega,?_⟩;have hi1:=zAf (n:=(i:Int)+1) (by omega) (by omega);have hL3:=zAb g3;refine FW.rangeFunc ?_;simp(maxSteps:=2000000)only[push_cast,seval,↓kw2,ACV];refine sides1 ?_
  generalize hal:AO.loop _=lo
  refine afterL_rounds (fun l' H'=>∃ acc':Int,l'.foldl (stepC has) acc'=(sidesL a b c m).foldl (stepC has) acc∧H'[H.length]?=some lo∧H'[0]?=some (.cells [I a,I b,I c])∧H'[1]?=some (.cells [I n])∧H'[2]?=some (.cells [s2])∧H'[3]?=some (.cells [I acc'])) ?_ ?_ _ _
   ⟨acc,rfl,zDh,(List.getElem?_append_left (by omega)).trans g0,(List.getElem?_append_left (by omega)).trans g1,(List.getElem?_append_left (by omega)).trans g2,(List.getElem?_append_left (by omega)).trans g3⟩
  ·rintro H' ⟨acc',hacc,hb,k0,k1,k2,k3⟩
   rw[← hal]at hb;refine⟨_,hb,by simp,?_⟩;have hne:∀ j,j < 4→(H'.set H.length .dead)[j]?=H'[j]?:=fun j hj=>List.getElem?_set_ne (by omega)
   refine goW zCe [] 0 ?_;simp(maxSteps:=2000000)only[push_cast,seval,↓kw2,t24,hi1];exact ih l (by omega) _ _ ⟨i+1,acc',by omega,by rw[← hes]; congr 1,(hne 0 (by decide)).trans k0,(hne 1 (by decide)).trans k1,(hne 2 (by decide)).trans k2,(hne 3 (by decide)).trans k3,t4,t5,t7,t8,t22,t23,rfl⟩
  ·rintro x l' H' ⟨acc',hacc,hb,k0,k1,k2,k3⟩
   rw[← hal]at hb;refine AY.of_loop hb rfl ?_;have hl1:=zAb hb;refine goW zCe [] 0 ?_;simp(maxSteps:=2000000)only[push_cast,seval,↓kw2,parTs];refine FW.beginRound hb rfl ?_
   generalize hH2:H'.set H.length _=H2
   obtain⟨al2,hb2,hal2⟩:∃ al2,H2[H.length]?=some (.loop al2)∧AO.loop { al2 with st:=.ready,pending:=none }=lo:=⟨_,by rw[← hH2,List.getElem?_set_self hl1],hal⟩;have hk:∀ j,j < 4→H2[j]?=H'[j]?:=fun j hj=>by rw[← hH2,List.getElem?_set_ne (by omega)]
   have j0:=(hk 0 (by decide)).trans k0;have j1:=(hk 1 (by decide)).trans k1;have j2:=(hk 2 (by decide)).trans k2;have j3:=(hk 3 (by decide)).trans k3;have hL2:=zAb hb2;clear hb hH2 k0 k1 k2 k3 hk;refine goW zCe [] 0 ?_;simp(maxSteps:=2000000)only[push_cast,seval,↓kw2,t4,t5,t7,t8,j0,j1,j2,j3];obtain⟨ex,hx⟩:=hhas x;refine AC.pur hx ?_;rw[List.foldl_cons,stepC]at hacc;refine goW zCe [] 0 ?_;cases hq:has x
   ·rw[hq,if_neg (by simp)]at hacc;simp(maxSteps:=2000000)only[push_cast,seval,↓kw2,t4,t5,t7,t8,j0,j1,j2,j3];have hg:∀(B:AO) (j:Nat),j < 4→(H2.set H.length B)[j]?=H2[j]?:=fun B j hj=>List.getElem?_set_ne (by omega)
    exact⟨rfl,al2,hb2,rfl,acc',hacc,by rw[List.getElem?_set_self hL2]; exact congrArg some hal2,(hg _ 0 (by decide)).trans j0,(hg _ 1 (by decide)).trans j1,(hg _ 2 (by decide)).trans j2,(hg _ 3 (by decide)).trans j3⟩
   ·rw[hq,if_pos rfl]at hacc;simp(maxSteps:=2000000)only[push_cast,seval,↓kw2,t4,t5,t7,t8,j0,j1,j2,j3];have hg:∀(A B:AO) (j:Nat),j < 3→((H2.set 3 A).set H.length B)[j]?=H2[j]?:=fun A B j hj=>by rw[List.getElem?_set_ne (by omega),List.getElem?_set_ne (by omega)]
    exact⟨rfl,al2,by rw[List.getElem?_set_ne (by omega)]; exact hb2,rfl,IntKind.i64.wrap (acc'+1),hacc,by rw[List.getElem?_set_self (by rw[List.length_set]; exact hL2)]; exact congrArg some hal2,(hg _ _ 0 (by decide)).trans j0,(hg _ _ 1 (by decide)).trans j1,(hg _ _ 2 (by decide)).trans j2,by rw[List.getElem?_set_ne (by omega),List.getElem?_set_self (by omega)]⟩
 ·have hd1:decide ((i:Int) < (ls.length:Int))=false:=by simp; omega
  refine goW zCe [] 0 ?_;simp(maxSteps:=2000000)only[push_cast,seval,↓kw2,t8,t23,t24,hd1,g3];rw[List.drop_eq_nil_of_le (by omega)]at hes;have hes':acc=ls.foldl (stepM a b c has) 0:=hes;exact⟨_,rfl,zAa rfl (by rw[hes'])⟩
theorem e37:Ent Tryz.prog 37 Tryz.f37 [] 3:=.mk Tryz.func37 rfl
attribute [push_cast] Tryz.f37
theorem score_of{a b c x y z p q r:Int}{s t u:Bool}(hp:okPl a b c x y z p q r s t u){m o f:AV}(qm:IsSet m)(hm:Pur Tryz.prog GG 24 [I (zAg a b c),m] (I 0)){e1 e2 cn k:Int}(qo:IsSet o)(qf:IsSet f)
  (ho:Pur Tryz.prog GG 72 [I (zAg a b c),m] o) (hf:Pur Tryz.prog GG 71 [I (zAg a b c),o,.isl ((ownW a b c x y z p q r).map U)] (.tup [f,I e1]))
  (hc:Pur Tryz.prog GG 69 [I (3*zAg a b c),.isl ((linksW a b c x y z p q r s t u).map U)] (.tup [I cn,I e2])) (hk:Pur Tryz.prog GG 73 [.agg [I a,I b,I c],I (zAg a b c),.isl ((ownW a b c x y z p q r).map U),f] (I k)) :
  Pur Tryz.prog GG 37 [.agg [I a,I b,I c],.agg [I x,I y,I z,I p,I q,I r,B s,B t,B u],m] (.tup [I (IntKind.i64.wrap (IntKind.i64.wrap (2*k)+cn)),I 0]):=by
 have hd:=hp.1;have hmu:=zAy hd;have hmv:zAg a b c=a*b*c:=by rw[zAg,if_pos hd]
 have hd':=hd;unfold okD at hd';have h1:0 < a*b*c:=Int.mul_pos (Int.mul_pos (by omega) (by omega)) (by omega);have hn:1≤zAg a b c∧zAg a b c≤4096:=by omega
 have hw3:=zAf (n:=3*zAg a b c) (by omega) (by omega);obtain⟨b1,b2,b3⟩:=qm.cell;have hpu:=qm.pur;refine goQ e37 zCe 0 ?_ (by simp[AV.purL,AV.pur,hpu]);simp(maxSteps:=2000000)only[push_cast,seval,↓kw2,b1,b2,b3];refine sckd_ac hd hm qm rfl ?_
 intro l
 refine goW zCe [] 0 ?_;simp(maxSteps:=2000000)only[push_cast,seval,↓kw2,hw3];refine⟨hp,?_⟩;refine AC.pur ho ?_;refine goW zCe [] 0 ?_;simp(maxSteps:=2000000)only[push_cast,seval,↓kw2,hw3];refine AC.pur hf ?_;refine goW zCe [] 0 ?_;simp(maxSteps:=2000000)only[push_cast,seval,↓kw2,hw3];refine AC.pur hc ?_;refine goW zCe [] 0 ?_;simp(maxSteps:=2000000)only[push_cast,seval,↓kw2,hw3];refine AC.pur hk ?_;refine goW zCe [] 0 ?_;simp(maxSteps:=2000000)only[push_cast,seval,↓kw2,hw3];exact⟨_,rfl,zAa rfl rfl⟩
theorem e40:Ent Tryz.prog 40 Tryz.f40 [] 1:=.mk Tryz.func40 rfl
attribute [push_cast] Tryz.f40
theorem bits_pur(s t u:Bool):Pur Tryz.prog GG 40 [.agg [B s,B t,B u]] (.agg [I (bitV s),I (bitV t),I (bitV u)]):=by
 refine goQ e40 zCe 5 ?_;simp(maxSteps:=2000000)only[push_cast,seval,↓kw2,zDp]
 repeat' (first | apply And.intro | intro _)
 all_goals
  refine⟨_,rfl,zAa rfl ?_⟩;simp[bitV, *]
@[push_cast] def g40:List AV→Option (Prop × AV)
 | [.agg [(.c (.bool s)),(.c (.bool t)),(.c (.bool u))]]=>some (True,.agg [I (bitV s),I (bitV t),I (bitV u)])
 | _=>none
theorem g40_ok:∀ args p,g40 args=some p→p.1→Pur Tryz.prog GG 40 args p.2:=by
 intro args p hp hc
 unfold g40 at hp
 split at hp
 ·cases hp;exact bits_pur _ _ _
 ·cases hp
@[push_cast] def T25:Tab:=Tab.ext T24 40 g40
theorem zDr:TOk Tryz.prog GG T25:=TOk.ext zCe g40_ok
theorem or_ac{c1 c2 c3 c4:Int}{H:List AO}{id:Nat}(hid:H[id]?=some (.arr 1 [I c1,I c2,I c3,I c4])){K:AV→List AO→Prop}(hK:K (I (orV c1 (orV c2 (orV c3 c4)))) H):AC Tryz.prog GG 41 [.sl id 0 4 4] H K:=by
 refine goE e41 TOk.nil 5 ?_;simp(maxSteps:=2000000)only[push_cast,seval,↓kw2,hid];refine⟨fun h1=>?_,fun h1=>⟨_,rfl,by rw[orV_1 h1]at hK; exact hK⟩⟩;rw[orV_0 h1]at hK;refine⟨fun h2=>?_,fun h2=>⟨_,rfl,by rw[orV_1 h2]at hK; exact hK⟩⟩;rw[orV_0 h2]at hK;refine⟨fun h3=>?_,fun h3=>⟨_,rfl,by rw[orV_1 h3]at hK; exact hK⟩⟩;rw[orV_0 h3]at hK;exact⟨fun h4=>⟨_,rfl,by rw[h4]at hK; exact hK⟩,fun h4=>⟨_,rfl,hK⟩⟩
theorem iab(id off len cap:Nat)(i:Int)(H:List AO):zAq Tryz.prog 60 (.bs id off len cap 1) i H=some (0≤i∧i < (len:Int),.ptr id (off+i.toNat*1)):=by
 unfold zAq; simp only[un60,sz3]; rfl
theorem lbb(id off len cap sz:Nat):aLen Tryz.prog 60 (.bs id off len cap sz)=some (len:Int):=by unfold aLen; simp only[un60]
def lexV(p q r p' q' r':Int):Int:=orV (cmpV p p') (orV (cmpV q q') (cmpV r r'))
theorem e43:Ent Tryz.prog 43 Tryz.f43 [] 2:=.mk Tryz.func43 rfl
attribute [push_cast] Tryz.f43
theorem scmp0{p q r p' q' r':Int}{H:List AO}{i1 i2:Nat}(h1:H[i1]?=some (.cells [I p,I q,I r]))(h2:H[i2]?=some (.cells [I p',I q',I r'])){K:AV→List AO→Prop}(hK:K (I (lexV p q r p' q' r')) H):AC Tryz.prog GG 43 [.bs i1 0 3 3 1,.bs i2 0 3 3 1] H K:=by
 unfold lexV at hK;refine goE e43 zDr 4 ?_;simp(maxSteps:=2000000)only[push_cast,seval,↓kw2,h1,h2,iab,lbb];refine⟨fun h1=>?_,fun h1=>⟨_,rfl,by rw[orV_1 h1]at hK; exact hK⟩⟩;rw[orV_0 h1]at hK;refine⟨fun h2=>?_,fun h2=>⟨_,rfl,by rw[orV_1 h2]at hK; exact hK⟩⟩;rw[orV_0 h2]at hK;exact⟨fun h3=>⟨_,rfl,by rw[h3]at hK; exact hK⟩,fun h3=>⟨_,rfl,hK⟩⟩
theorem scmp3{p q r p' q' r' a1 a2 a3 b1 b2 b3:Int}{c1 c2 c3 d1 d2 d3:AV}{H:List AO}{i1 i2:Nat}(h1:H[i1]?=some (.cells [I a1,I a2,I a3,I p,I q,I r,c1,c2,c3]))(h2:H[i2]?=some (.cells [I b1,I b2,I b3,I p',I q',I r',d1,d2,d3])){K:AV→List AO→Prop}(hK:K (I (lexV p q r p' q' r')) H):AC Tryz.prog GG 43 [.bs i1 3 3 3 1,.bs i2 3 3 3 1] H K:=by
 unfold lexV at hK;refine goE e43 zDr 4 ?_;simp(maxSteps:=2000000)only[push_cast,seval,↓kw2,h1,h2,iab,lbb];refine⟨fun h1=>?_,fun h1=>⟨_,rfl,by rw[orV_1 h1]at hK; exact hK⟩⟩;rw[orV_0 h1]at hK;refine⟨fun h2=>?_,fun h2=>⟨_,rfl,by rw[orV_1 h2]at hK; exact hK⟩⟩;rw[orV_0 h2]at hK;exact⟨fun h3=>⟨_,rfl,by rw[h3]at hK; exact hK⟩,fun h3=>⟨_,rfl,hK⟩⟩
theorem find1t{x y z p q r x' y' z' p' q' r':Int}{s t u s' t' u':Bool}{b:Nat}{v:AV}(h:zDy x y z p q r x' y' z' p' q' r' s t u s' t' u'):zDo Tryz.prog 32 (PL x y z p q r s t u) [(b,PL x' y' z' p' q' r' s' t' u',v)]=some (some 0):=by
 unfold zDo;rw[eqPl,decide_eq_true h]
theorem find1f{x y z p q r x' y' z' p' q' r':Int}{s t u s' t' u':Bool}{b:Nat}{v:AV}(h:¬zDy x y z p q r x' y' z' p' q' r' s t u s' t' u'):zDo Tryz.prog 32 (PL x y z p q r s t u) [(b,PL x' y' z' p' q' r' s' t' u',v)]=some none:=by
 unfold zDo;rw[eqPl,decide_eq_false h];rfl
theorem e36:Ent Tryz.prog 36 Tryz.f36 [] 4:=.mk Tryz.func36 rfl
attribute [push_cast] Tryz.f36
theorem of_new{a b c x y z p q r n:Int}{s t u:Bool}{sv:AV}{H:List AO}{M D S m clock:Nat}{es:List (Nat × AV × AV)}(hsv:sv.isCell=true∧sv.isEl=true∧sv.cells=[sv])
  (hM:H[M]?=some (.cells [.mp m])) (hD:H[D]?=some (.cells [I a,I b,I c])) (hS:H[S]?=some (.cells [sv])) (hm:H[m]?=some (.map es clock)) (hf:zDo Tryz.prog 32 (PL x y z p q r s t u) es=some none)
  (hsc:Pur Tryz.prog GG 37 [.agg [I a,I b,I c],PL x y z p q r s t u,sv] (.tup [I n,I 0])) {K:AV→List AO→Prop}
  (hK:K (I n) ((H++[AO.cells [I x,I y,I z,I p,I q,I r,B s,B t,B u]]).set m (AO.map (es++[(clock,PL x y z p q r s t u,I n)]) (clock+1)))) :
  AC Tryz.prog GG 36 [PL x y z p q r s t u,.ptr M 0,.ptr D 0,.ptr S 0] H K:=by
 obtain⟨a1,a2,a3⟩:=hsv;have qM:∀ l,(H++l)[M]?=some (.cells [.mp m]):=fun l=>by rw[List.getElem?_append_left (zAb hM)]; exact hM
 have qD:∀ l,(H++l)[D]?=some (.cells [I a,I b,I c]):=fun l=>by rw[List.getElem?_append_left (zAb hD)]; exact hD
 have qS:∀ l,(H++l)[S]?=some (.cells [sv]):=fun l=>by rw[List.getElem?_append_left (zAb hS)]; exact hS
 have qm:∀ l,(H++l)[m]?=some (.map es clock):=fun l=>by rw[List.getElem?_append_left (zAb hm)]; exact hm
 have hck:=ckPl x y z p q r s t u;have hfl:=flPl x y z p q r s t u;refine goE e36 zDr 0 ?_;simp(maxSteps:=2000000)only[push_cast,seval,↓kw2,zDh,qM,qD,qS,qm,a1,a2,a3,hck,hfl,hf,aLookup,lkZero,lkRes];refine AC.pur hsc ?_;refine goW zDr [] 0 ?_;simp(maxSteps:=2000000)only[push_cast,seval,↓kw2,zDh,qM,qD,qS,qm,a1,a2,a3,hck,hfl,hf,zDs];exact⟨_,rfl,hK⟩
theorem of_known{x y z p q r x' y' z' p' q' r' n:Int}{s t u s' t' u':Bool}{H:List AO}{M D S m clock b:Nat}
  (hM:H[M]?=some (.cells [.mp m])) (hm:H[m]?=some (.map [(b,PL x' y' z' p' q' r' s' t' u',I n)] clock)) (hsame:zDy x y z p q r x' y' z' p' q' r' s t u s' t' u') {K:AV→List AO→Prop}
  (hK:K (I n) (H++[AO.cells [I x,I y,I z,I p,I q,I r,B s,B t,B u]])) :
  AC Tryz.prog GG 36 [PL x y z p q r s t u,.ptr M 0,.ptr D 0,.ptr S 0] H K:=by
 have qM:∀ l,(H++l)[M]?=some (.cells [.mp m]):=fun l=>by rw[List.getElem?_append_left (zAb hM)]; exact hM
 have qm:∀ l,(H++l)[m]?=some (.map [(b,PL x' y' z' p' q' r' s' t' u',I n)] clock):=fun l=>by rw[List.getElem?_append_left (zAb hm)]; exact hm
 have hck:=ckPl x y z p q r s t u;have hf:=find1t (b:=b) (v:=I n) hsame;refine goE e36 zDr 0 ?_;simp(maxSteps:=2000000)only[push_cast,seval,↓kw2,zDh,qM,qm,hck,hf,aLookup,lkRes];exact⟨_,rfl,hK⟩
theorem e16:Ent Tryz.prog 16 Tryz.f16 [] 2:=.mk Tryz.func16 rfl
attribute [push_cast] Tryz.f16
theorem compare_ac{a b c:Int}{sv:AV}{H:List AO}(hsv:sv.isCell=true∧sv.isEl=true∧sv.cells=[sv]){K:AV→List AO→Prop}
  (hK:K (.fn 38 [] [.ptr H.length 0,.ptr (H.length+4) 0]) (H++[.cells [I a,I b,I c],.cells [sv],.map [] 0,.cells [.mp (H.length+2)],.cells [.fn 36 [] [.ptr (H.length+3) 0,.ptr H.length 0,.ptr (H.length+1) 0]]])) :
  AC Tryz.prog GG 16 [.agg [I a,I b,I c],sv] H K:=by
 obtain⟨a1,a2,a3⟩:=hsv;refine goE e16 zDr 0 ?_;simp(maxSteps:=2000000)only[push_cast,seval,↓kw2,getA,zAw,setA,a1,a2,a3];exact⟨_,rfl,hK⟩
theorem FW.walkD{P:Program}{G:Gl}(hm:P.follows .mixedOrders=true){ops:Array Oper}{imp:Nat→Bool}{A:Nat→Bool}{ex:Nat→List Nat}(hA:∀ a,A a=true→a < ops.size)(hD:delayB ops A ex=true){l:List (Nat × Bool)}(hB:ordGB (dl A ex ops) imp l=true)(hq:qtB (dl A ex ops) l=true)
  {rd:Option Nat} {n id:Nat} {k:List Item} {Q:Lv→(Nat→AV)→List AO→Prop} {ts:Nat→AV} {H:List AO}
  (h:symG P G Tab.nil (dl A ex ops) (wt (dl A ex ops)) imp (fun _ ts H=>FW P G rd n k ts H Q) true l Go.Ab.WT ts H):FW P G rd n (.code (.region id ops true)::k) ts H Q :=
 FW.drawD hm hA hD hB (symG_runG (fun _ _ h=>h) l _ _ _ hq h)
def A3:Nat→Bool:=fun i=>i==6||i==7
def ex3:Nat→List Nat:=fun i=>if i=6 then [2,5] else if i=7 then [2,5,6] else []
def imp3:Nat→Bool:=fun i=>i==2||i==5
def ord3:List (Nat × Bool):=[(0,true),(1,true),(3,true),(4,true),(2,false),(5,false),(6,false),(7,false),(8,false),(9,false)]
def imp4:Nat→Bool:=fun i=>i==2||i==5||i==6||i==9||i==16||i==19||i==21
def ord4:List (Nat × Bool):=[(0,true),(1,true),(3,true),(4,true),(7,true),(8,true),(10,true),(11,true),(12,true),(13,true),(14,true),(15,true),(17,true),(18,true),(2,false),(5,false),(6,false),(9,false),(16,false),(19,false),(20,false),(21,false),(22,true)]
theorem e38:Ent Tryz.prog 38 Tryz.f38 [3,4] 4:=.mk Tryz.func38 rfl
attribute [push_cast] Tryz.f38
theorem of_second{a b c x y z p q r x' y' z' p' q' r' n m:Int}{s t u s' t' u':Bool}{sv:AV}{H:List AO}{M D S mi clock b0:Nat}(hsv:sv.isCell=true∧sv.isEl=true∧sv.cells=[sv])
  (hM:H[M]?=some (.cells [.mp mi])) (hD:H[D]?=some (.cells [I a,I b,I c])) (hS:H[S]?=some (.cells [sv])) (hm:H[mi]?=some (.map [(b0,PL x y z p q r s t u,I m)] clock))
  (hsc:Pur Tryz.prog GG 37 [.agg [I a,I b,I c],PL x' y' z' p' q' r' s' t' u',sv] (.tup [I n,I 0])) (hmn:zDy x' y' z' p' q' r' x y z p q r s' t' u' s t u→m=n) {K:AV→List AO→Prop}
  (hK:∀ H',(∀ j o,j≠mi→H[j]?=some o→H'[j]?=some o)→K (I n) H') :
  AC Tryz.prog GG 36 [PL x' y' z' p' q' r' s' t' u',.ptr M 0,.ptr D 0,.ptr S 0] H K:=by
 by_cases hsame:zDy x' y' z' p' q' r' x y z p q r s' t' u' s t u
 ·have e:=hmn hsame;subst e;exact of_known hM hm hsame (hK _ fun j o _ h=>by rw[List.getElem?_append_left (zAb h)]; exact h)
 ·refine of_new hsv hM hD hS hm (find1f hsame) hsc (hK _ fun j o hj h=>?_);rw[List.getElem?_set_ne (fun e=>hj e.symm),List.getElem?_append_left (zAb h)]; exact h
def cmp2(a b c x y z p q r x' y' z' p' q' r' m n:Int)(s t u s' t' u':Bool):Int :=
 orV (cmpV m n) (orV (cmpV (atV a b c x y z) (atV a b c x' y' z')) (orV (lexV p q r p' q' r') (lexV (bitV s) (bitV t) (bitV u) (bitV s') (bitV t') (bitV u'))))
theorem compare2_ac{a b c x y z p q r x' y' z' p' q' r' m n:Int}{s t u s' t' u':Bool}{sv:AV}(hsv:sv.isCell=true∧sv.isEl=true∧sv.cells=[sv]){H:List AO}{D F M S mi:Nat}
  (hD:H[D]?=some (.cells [I a,I b,I c])) (hF:H[F]?=some (.cells [.fn 36 [] [.ptr M 0,.ptr D 0,.ptr S 0]])) (hM:H[M]?=some (.cells [.mp mi])) (hS:H[S]?=some (.cells [sv])) (hmi:H[mi]?=some (.map [] 0))
  (hs1:Pur Tryz.prog GG 37 [.agg [I a,I b,I c],PL x y z p q r s t u,sv] (.tup [I m,I 0])) (hs2:Pur Tryz.prog GG 37 [.agg [I a,I b,I c],PL x' y' z' p' q' r' s' t' u',sv] (.tup [I n,I 0]))
  (hmn:zDy x' y' z' p' q' r' x y z p q r s' t' u' s t u→m=n) {K:AV→List AO→Prop} (hK:∀ H',K (I (cmp2 a b c x y z p q r x' y' z' p' q' r' m n s t u s' t' u')) H') :
  AC Tryz.prog GG 38 [PL x y z p q r s t u,PL x' y' z' p' q' r' s' t' u',.ptr D 0,.ptr F 0] H K:=by
 have qD:∀ l,(H++l)[D]?=some (.cells [I a,I b,I c]):=fun l=>by rw[List.getElem?_append_left (zAb hD)]; exact hD
 have qF:∀ l,(H++l)[F]?=some (.cells [.fn 36 [] [.ptr M 0,.ptr D 0,.ptr S 0]]):=fun l=>by rw[List.getElem?_append_left (zAb hF)]; exact hF
 have qM:∀ l,(H++l)[M]?=some (.cells [.mp mi]):=fun l=>by rw[List.getElem?_append_left (zAb hM)]; exact hM
 have qS:∀ l,(H++l)[S]?=some (.cells [sv]):=fun l=>by rw[List.getElem?_append_left (zAb hS)]; exact hS
 have qmi:∀ l,(H++l)[mi]?=some (.map [] 0):=fun l=>by rw[List.getElem?_append_left (zAb hmi)]; exact hmi
 have hmiL:=zAb hmi;have nD:D≠mi:=fun e=>by rw[e,hmi]at hD; cases hD
 have nF:F≠mi:=fun e=>by rw[e,hmi]at hF; cases hF
 have nM:M≠mi:=fun e=>by rw[e,hmi]at hM; cases hM
 have nS:S≠mi:=fun e=>by rw[e,hmi]at hS; cases hS
 refine goE e38 zDr 0 ?_;simp(maxSteps:=2000000)only[push_cast,seval,↓kw2,getA,zAw,setA,qD,qF,List.contains_cons,Bool.true_or,Bool.false_or,Bool.or_true];refine FW.walkD hmix (A:=A3) (ex:=ex3) (imp:=imp3) (l:=ord3) (fun a ha=>by unfold A3 at ha; simp at ha; rcases ha with rfl | rfl <;> decide) (by kernel_rfl) (by kernel_rfl) (by kernel_rfl) ?_;simp only[ord3];simp(maxSteps:=2000000)only[push_cast,seval,↓kw2,zBw,zBv,zAu,↓zAc,dl_get,dlO,A3,ex3,imp3,Bool.or_false,Bool.or_true,Bool.true_or,Bool.false_or,Bool.or_self,Nat.add_assoc,zAd,zAr,wat,clOf,getA,zAw,setA,qD,qF];refine AC.pur (bits_pur s t u) ?_;simp(maxSteps:=2000000)only[push_cast,seval,↓kw2,zBw,zBv,zAu,↓zAc,dl_get,dlO,A3,ex3,imp3,Bool.or_false,Bool.or_true,Bool.true_or,Bool.false_or,Bool.or_self,Nat.add_assoc,zAd,zAr,wat,clOf,getA,zAw,setA,qD,qF];refine AC.pur (bits_pur s' t' u') ?_;simp(maxSteps:=2000000)only[push_cast,seval,↓kw2,zBw,zBv,zAu,↓zAc,dl_get,dlO,A3,ex3,imp3,Bool.or_false,Bool.or_true,Bool.true_or,Bool.false_or,Bool.or_self,Nat.add_assoc,zAd,zAr,wat,clOf,getA,zAw,setA,qD,qF];refine goW zDr [3,4] 0 ?_;simp(maxSteps:=2000000)only[push_cast,seval,↓kw2,List.contains_cons,Bool.true_or,Bool.false_or,Bool.or_true];refine FW.walkG hmix (imp:=imp4) (l:=ord4) (by kernel_rfl) (by kernel_rfl) ?_;simp only[ord4];simp(maxSteps:=2000000)only[push_cast,seval,↓kw2,zBw,zBv,zAu,↓zAc,imp4,Bool.or_false,Bool.or_true,Bool.true_or,Bool.false_or,Bool.or_self,Nat.add_assoc,zAd,zAr,wat,clOf,getA,zAw,setA,qD,qF,zCy,zBk,zCk];refine of_new hsv (M:=M) (D:=D) (S:=S) (m:=mi) (qM _) (qD _) (qS _) (qmi _) (find0 _) hs1 ?_
 generalize hH1:List.set _ mi _=H1
 have f1:∀(j:Nat) (o:AO),j≠mi→(H++[AO.cells [I x,I y,I z,I p,I q,I r,B s,B t,B u],AO.cells [I x',I y',I z',I p',I q',I r',B s',B t',B u'],AO.cells [I (bitV s),I (bitV t),I (bitV u)],AO.cells [I (bitV s'),I (bitV t'),I (bitV u')]])[j]?=some o→H1[j]?=some o:=fun j o hj h=>by
  rw[← hH1,List.getElem?_set_ne (fun e=>hj e.symm),List.getElem?_append_left (zAb h)]; exact h
 have F1:=f1 F _ nF (qF _);have D1:=f1 D _ nD (qD _);have M1:=f1 M _ nM (qM _);have S1:=f1 S _ nS (qS _);have A1:=f1 H.length _ (by omega) (by rw[zAw]; rfl);have B1:=f1 (H.length+1) _ (by omega) (by rw[getA]; rfl);have C1:=f1 (H.length+2) _ (by omega) (by rw[getA]; rfl);have E1:=f1 (H.length+3) _ (by omega) (by rw[getA]; rfl);have m1:H1[mi]?=some (.map ([]++[(0,PL x y z p q r s t u,I m)]) (0+1)):=by rw[← hH1,List.getElem?_set_self (by simp; omega)]
 clear f1 hH1;simp(maxSteps:=2000000)only[push_cast,seval,↓kw2,zBw,zBv,zAu,↓zAc,imp4,Bool.or_false,Bool.or_true,Bool.true_or,Bool.false_or,Bool.or_self,Nat.add_assoc,zAd,zAr,wat,clOf,getA,zAw,setA,zCy,zBk,zCk,F1,D1,M1,S1,A1,B1];refine of_second hsv M1 D1 S1 m1 hs2 hmn ?_
 intro H2 f2
 have F2:=f2 F _ nF F1;have A2:=f2 H.length _ (by omega) A1;have B2:=f2 (H.length+1) _ (by omega) B1;have C2:=f2 (H.length+2) _ (by omega) C1;have E2:=f2 (H.length+3) _ (by omega) E1;clear f2;simp(maxSteps:=2000000)only[push_cast,seval,↓kw2,zBw,zBv,zAu,↓zAc,imp4,Bool.or_false,Bool.or_true,Bool.true_or,Bool.false_or,Bool.or_self,Nat.add_assoc,zAd,zAr,wat,clOf,getA,zAw,setA,zCy,zBk,zCk,F2,A2,B2];refine AC.pur (cmp_pur m n) ?_;simp(maxSteps:=2000000)only[push_cast,seval,↓kw2,zBw,zBv,zAu,↓zAc,imp4,Bool.or_false,Bool.or_true,Bool.true_or,Bool.false_or,Bool.or_self,Nat.add_assoc,zAd,zAr,wat,clOf,getA,zAw,setA,zCy,zBk,zCk,F2,A2,B2];refine AC.pur (cmp_pur _ _) ?_;simp(maxSteps:=2000000)only[push_cast,seval,↓kw2,zBw,zBv,zAu,↓zAc,imp4,Bool.or_false,Bool.or_true,Bool.true_or,Bool.false_or,Bool.or_self,Nat.add_assoc,zAd,zAr,wat,clOf,getA,zAw,setA,zCy,zBk,zCk,F2,A2,B2];refine scmp3 A2 B2 ?_;simp(maxSteps:=2000000)only[push_cast,seval,↓kw2,zBw,zBv,zAu,↓zAc,imp4,Bool.or_false,Bool.or_true,Bool.true_or,Bool.false_or,Bool.or_self,Nat.add_assoc,zAd,zAr,wat,clOf,getA,zAw,setA,zCy,zBk,zCk,F2,A2,B2];refine scmp0 C2 E2 ?_;simp(maxSteps:=2000000)only[push_cast,seval,↓kw2,zBw,zBv,zAu,↓zAc,imp4,Bool.or_false,Bool.or_true,Bool.true_or,Bool.false_or,Bool.or_self,Nat.add_assoc,zAd,zAr,wat,clOf,getA,zAw,setA,zCy,zBk,zCk,F2,A2,B2];have F3:∀ l,(H2++l)[F]?=_:=fun l=>(List.getElem?_append_left (zAb F2)).trans F2
 have A3:∀ l,(H2++l)[H.length]?=_:=fun l=>(List.getElem?_append_left (zAb A2)).trans A2
 have B3:∀ l,(H2++l)[H.length+1]?=_:=fun l=>(List.getElem?_append_left (zAb B2)).trans B2
 refine or_ac (by rw[zAw]; rfl) ?_;simp(maxSteps:=2000000)only[push_cast,seval,↓kw2,zBw,zBv,zAu,↓zAc,imp4,Bool.or_false,Bool.or_true,Bool.true_or,Bool.false_or,Bool.or_self,Nat.add_assoc,zAd,zAr,wat,clOf,getA,zAw,setA,zCy,zBk,zCk,F3,A3,B3];refine goW zDr [] 0 ?_;simp(maxSteps:=2000000)only[push_cast,seval,↓kw2];exact⟨_,rfl,hK _⟩
def Memo(sc:Plc→Int)(es:List (Nat × AV × AV)):Prop:=∀ e∈es,∃ y:Plc,e.2.1=y.av∧e.2.2=I (sc y)
theorem find_memo{sc:Plc→Int}{x:Plc}:∀ {es:List (Nat × AV × AV)},Memo sc es→zDo Tryz.prog 32 x.av es=some none∨∃ i,zDo Tryz.prog 32 x.av es=some (some i)∧(es.getD i default).2.2=I (sc x)
 | [],_=>.inl rfl
 | e::es,h=>by
  obtain⟨y,h1,h2⟩:=h e (by simp);have hq:=eqPl x.x x.y x.z x.p x.q x.r y.x y.y y.z y.p y.q y.r x.s x.t x.u y.s y.t y.u
  by_cases hxy:zDy x.x x.y x.z x.p x.q x.r y.x y.y y.z y.p y.q y.r x.s x.t x.u y.s y.t y.u
  ·rw[decide_eq_true hxy]at hq;refine .inr ⟨0,?_,?_⟩
   ·unfold zDo;rw[h1];simp only[Plc.av];rw[hq]
   ·rw[Plc.same.1 hxy];exact h2
  ·rw[decide_eq_false hxy]at hq;have hf:zDo Tryz.prog 32 x.av (e::es)=(zDo Tryz.prog 32 x.av es).map fun(o:Option Nat)=>o.map (·+1):=by
    show(match aEq Tryz.prog 10000 32 x.av e.2.1 with
     | some true=>some (some 0)
     | some false=>(zDo Tryz.prog 32 x.av es).map fun(o:Option Nat)=>o.map (·+1)
     | none=>none)=_
    rw[h1];simp only[Plc.av];rw[hq]
   rw[hf]
   rcases find_memo (es:=es) (x:=x) (fun z hz=>h z (by simp[hz]))with k | ⟨i,k1,k2⟩
   ·exact .inl (by rw[k]; rfl)
   ·exact .inr ⟨i+1,by rw[k1]; rfl,by simpa using k2⟩
def MemoStep(sc:Plc→Int)(mi:Nat)(H H':List AO):Prop:=H.length≤H'.length∧(∀ j o,j≠mi→H[j]?=some o→H'[j]?=some o)∧∃ es clock,H'[mi]?=some (.map es clock)∧Memo sc es
theorem MemoStep.refl{sc:Plc→Int}{mi clock:Nat}{H l:List AO}{es:List (Nat × AV × AV)}(h:H[mi]?=some (.map es clock))(hm:Memo sc es):MemoStep sc mi H (H++l) :=
 ⟨by simp,fun j o _ h=>by rw[List.getElem?_append_left (zAb h)]; exact h,es,clock,by rw[List.getElem?_append_left (zAb h)]; exact h,hm⟩
theorem of_there{x:Plc}{n:Int}{H:List AO}{M D S m clock i:Nat}{es:List (Nat × AV × AV)}
  (hM:H[M]?=some (.cells [.mp m])) (hm:H[m]?=some (.map es clock)) (hf:zDo Tryz.prog 32 x.av es=some (some i)) (hi:(es.getD i default).2.2=I n) {K:AV→List AO→Prop}
  (hK:K (I n) (H++[AO.cells [I x.x,I x.y,I x.z,I x.p,I x.q,I x.r,B x.s,B x.t,B x.u]])) :
  AC Tryz.prog GG 36 [x.av,.ptr M 0,.ptr D 0,.ptr S 0] H K:=by
 have qM:∀ l,(H++l)[M]?=some (.cells [.mp m]):=fun l=>by rw[List.getElem?_append_left (zAb hM)]; exact hM
 have qm:∀ l,(H++l)[m]?=some (.map es clock):=fun l=>by rw[List.getElem?_append_left (zAb hm)]; exact hm
 have hck:=ckPl x.x x.y x.z x.p x.q x.r x.s x.t x.u;simp only[Plc.av]at hf;show AC Tryz.prog GG 36 [PL x.x x.y x.z x.p x.q x.r x.s x.t x.u,.ptr M 0,.ptr D 0,.ptr S 0] H K;refine goE e36 zDr 0 ?_;simp(maxSteps:=2000000)only[push_cast,seval,↓kw2,zDh,qM,qm,hck,hf,hi,aLookup,lkRes];exact⟨_,rfl,hK⟩
theorem of_any{sc:Plc→Int}{a b c:Int}{x:Plc}{sv:AV}{H:List AO}{M D S m:Nat}(hsv:sv.isCell=true∧sv.isEl=true∧sv.cells=[sv])
  (hM:H[M]?=some (.cells [.mp m])) (hD:H[D]?=some (.cells [I a,I b,I c])) (hS:H[S]?=some (.cells [sv])) (hm:∃ es clock,H[m]?=some (.map es clock)∧Memo sc es)
  (hsc:Pur Tryz.prog GG 37 [.agg [I a,I b,I c],x.av,sv] (.tup [I (sc x),I 0])) {K:AV→List AO→Prop} (hK:∀ H',MemoStep sc m H H'→K (I (sc x)) H') :
  AC Tryz.prog GG 36 [x.av,.ptr M 0,.ptr D 0,.ptr S 0] H K:=by
 obtain⟨es,clock,hes,hmo⟩:=hm
 rcases find_memo (x:=x) hmo with k | ⟨i,k1,k2⟩
 ·refine of_new hsv hM hD hS hes k hsc (hK _ ⟨by simp,fun j o hj h=>?_,_,_,List.getElem?_set_self (by have:=zAb hes; simp; omega),fun e he=>?_⟩)
  ·rw[List.getElem?_set_ne (fun e=>hj e.symm),List.getElem?_append_left (zAb h)]; exact h
  ·rcases List.mem_append.1 he with he | he
   ·exact hmo e he
   ·rw[List.mem_singleton]at he;subst he;exact⟨x,rfl,rfl⟩
 ·exact of_there hM hes k1 k2 (hK _ (MemoStep.refl hes hmo))
def cmpS(a b c:Int)(sc:Plc→Int)(X Y:Plc):Int:=cmp2 a b c X.x X.y X.z X.p X.q X.r Y.x Y.y Y.z Y.p Y.q Y.r (sc X) (sc Y) X.s X.t X.u Y.s Y.t Y.u
theorem compare2_any{sc:Plc→Int}{a b c:Int}{X Y:Plc}{sv:AV}(hsv:sv.isCell=true∧sv.isEl=true∧sv.cells=[sv]){H:List AO}{D F M S mi:Nat}
  (hD:H[D]?=some (.cells [I a,I b,I c])) (hF:H[F]?=some (.cells [.fn 36 [] [.ptr M 0,.ptr D 0,.ptr S 0]])) (hM:H[M]?=some (.cells [.mp mi])) (hS:H[S]?=some (.cells [sv])) (hmi:∃ es clock,H[mi]?=some (.map es clock)∧Memo sc es)
  (hs1:Pur Tryz.prog GG 37 [.agg [I a,I b,I c],X.av,sv] (.tup [I (sc X),I 0])) (hs2:Pur Tryz.prog GG 37 [.agg [I a,I b,I c],Y.av,sv] (.tup [I (sc Y),I 0]))
  {K:AV→List AO→Prop} (hK:∀ H',MemoStep sc mi H H'→K (I (cmpS a b c sc X Y)) H') :
  AC Tryz.prog GG 38 [X.av,Y.av,.ptr D 0,.ptr F 0] H K:=by
 obtain⟨x,y,z,p,q,r,s,t,u⟩:=X;obtain⟨x',y',z',p',q',r',s',t',u'⟩:=Y;have hmi0:=hmi;obtain⟨es,clock,hmi,hmo⟩:=hmi
 generalize hm':sc ⟨x,y,z,p,q,r,s,t,u⟩=m at hs1
 generalize hn':sc ⟨x',y',z',p',q',r',s',t',u'⟩=n at hs2
 have hcm:cmpS a b c sc ⟨x,y,z,p,q,r,s,t,u⟩ ⟨x',y',z',p',q',r',s',t',u'⟩=cmp2 a b c x y z p q r x' y' z' p' q' r' m n s t u s' t' u':=by
  unfold cmpS;simp only;rw[hm',hn']
 rw[hcm]at hK;show AC Tryz.prog GG 38 [PL x y z p q r s t u,PL x' y' z' p' q' r' s' t' u',.ptr D 0,.ptr F 0] H K;have qD:∀ l,(H++l)[D]?=some (.cells [I a,I b,I c]):=fun l=>by rw[List.getElem?_append_left (zAb hD)]; exact hD
 have qF:∀ l,(H++l)[F]?=some (.cells [.fn 36 [] [.ptr M 0,.ptr D 0,.ptr S 0]]):=fun l=>by rw[List.getElem?_append_left (zAb hF)]; exact hF
 have qM:∀ l,(H++l)[M]?=some (.cells [.mp mi]):=fun l=>by rw[List.getElem?_append_left (zAb hM)]; exact hM
 have qS:∀ l,(H++l)[S]?=some (.cells [sv]):=fun l=>by rw[List.getElem?_append_left (zAb hS)]; exact hS
 have qmi:∀ l,(H++l)[mi]?=some (.map es clock):=fun l=>by rw[List.getElem?_append_left (zAb hmi)]; exact hmi
 have hmiL:=zAb hmi;have nD:D≠mi:=fun e=>by rw[e,hmi]at hD; cases hD
 have nF:F≠mi:=fun e=>by rw[e,hmi]at hF; cases hF
 have nM:M≠mi:=fun e=>by rw[e,hmi]at hM; cases hM
 have nS:S≠mi:=fun e=>by rw[e,hmi]at hS; cases hS
 refine goE e38 zDr 0 ?_;simp(maxSteps:=2000000)only[push_cast,seval,↓kw2,getA,zAw,setA,qD,qF,List.contains_cons,Bool.true_or,Bool.false_or,Bool.or_true];refine FW.walkD hmix (A:=A3) (ex:=ex3) (imp:=imp3) (l:=ord3) (fun a ha=>by unfold A3 at ha; simp at ha; rcases ha with rfl | rfl <;> decide) (by kernel_rfl) (by kernel_rfl) (by kernel_rfl) ?_;simp only[ord3];simp(maxSteps:=2000000)only[push_cast,seval,↓kw2,zBw,zBv,zAu,↓zAc,dl_get,dlO,A3,ex3,imp3,Bool.or_false,Bool.or_true,Bool.true_or,Bool.false_or,Bool.or_self,Nat.add_assoc,zAd,zAr,wat,clOf,getA,zAw,setA,qD,qF];refine AC.pur (bits_pur s t u) ?_;simp(maxSteps:=2000000)only[push_cast,seval,↓kw2,zBw,zBv,zAu,↓zAc,dl_get,dlO,A3,ex3,imp3,Bool.or_false,Bool.or_true,Bool.true_or,Bool.false_or,Bool.or_self,Nat.add_assoc,zAd,zAr,wat,clOf,getA,zAw,setA,qD,qF];refine AC.pur (bits_pur s' t' u') ?_;simp(maxSteps:=2000000)only[push_cast,seval,↓kw2,zBw,zBv,zAu,↓zAc,dl_get,dlO,A3,ex3,imp3,Bool.or_false,Bool.or_true,Bool.true_or,Bool.false_or,Bool.or_self,Nat.add_assoc,zAd,zAr,wat,clOf,getA,zAw,setA,qD,qF];refine goW zDr [3,4] 0 ?_;simp(maxSteps:=2000000)only[push_cast,seval,↓kw2,List.contains_cons,Bool.true_or,Bool.false_or,Bool.or_true];refine FW.walkG hmix (imp:=imp4) (l:=ord4) (by kernel_rfl) (by kernel_rfl) ?_;simp only[ord4];simp(maxSteps:=2000000)only[push_cast,seval,↓kw2,zBw,zBv,zAu,↓zAc,imp4,Bool.or_false,Bool.or_true,Bool.true_or,Bool.false_or,Bool.or_self,Nat.add_assoc,zAd,zAr,wat,clOf,getA,zAw,setA,qD,qF,zCy,zBk,zCk];refine of_any (sc:=sc) (x:=⟨x,y,z,p,q,r,s,t,u⟩) hsv (M:=M) (D:=D) (S:=S) (m:=mi) (qM _) (qD _) (qS _) ⟨es,clock,qmi _,hmo⟩ (by rw[hm']; exact hs1) ?_;rw[hm']
 intro H1 ms1
 obtain⟨len1,f1,es1,clock1,m1,hmo1⟩:=ms1;have F1:=f1 F _ nF (qF _);have D1:=f1 D _ nD (qD _);have M1:=f1 M _ nM (qM _);have S1:=f1 S _ nS (qS _);have A1:=f1 H.length _ (by omega) (by rw[zAw]; rfl);have B1:=f1 (H.length+1) _ (by omega) (by rw[getA]; rfl);have C1:=f1 (H.length+2) _ (by omega) (by rw[getA]; rfl);have E1:=f1 (H.length+3) _ (by omega) (by rw[getA]; rfl);have f01:∀ j o,j≠mi→H[j]?=some o→H1[j]?=some o:=fun j o hj h=>f1 j o hj (by rw[List.getElem?_append_left (zAb h)]; exact h)
 have len01:H.length≤H1.length:=Nat.le_trans (by simp) len1;clear f1 len1;simp(maxSteps:=2000000)only[push_cast,seval,↓kw2,zBw,zBv,zAu,↓zAc,imp4,Bool.or_false,Bool.or_true,Bool.true_or,Bool.false_or,Bool.or_self,Nat.add_assoc,zAd,zAr,wat,clOf,getA,zAw,setA,zCy,zBk,zCk,F1,D1,M1,S1,A1,B1];refine of_any (sc:=sc) (x:=⟨x',y',z',p',q',r',s',t',u'⟩) hsv M1 D1 S1 ⟨es1,clock1,m1,hmo1⟩ (by rw[hn']; exact hs2) ?_;rw[hn']
 intro H2 ms2
 obtain⟨len2,f2,es2,clock2,m2,hmo2⟩:=ms2;have step2:∀ l,MemoStep sc mi H (H2++l):=fun l=>⟨by simp; omega,fun j o hj h=>by
  have:=f2 j o hj (f01 j o hj h);rw[List.getElem?_append_left (zAb this)]; exact this,es2,clock2,by rw[List.getElem?_append_left (zAb m2)]; exact m2,hmo2⟩
 have F2:=f2 F _ nF F1;have A2:=f2 H.length _ (by omega) A1;have B2:=f2 (H.length+1) _ (by omega) B1;have C2:=f2 (H.length+2) _ (by omega) C1;have E2:=f2 (H.length+3) _ (by omega) E1;clear f2 f01;simp(maxSteps:=2000000)only[push_cast,seval,↓kw2,zBw,zBv,zAu,↓zAc,imp4,Bool.or_false,Bool.or_true,Bool.true_or,Bool.false_or,Bool.or_self,Nat.add_assoc,zAd,zAr,wat,clOf,getA,zAw,setA,zCy,zBk,zCk,F2,A2,B2];refine AC.pur (cmp_pur m n) ?_;simp(maxSteps:=2000000)only[push_cast,seval,↓kw2,zBw,zBv,zAu,↓zAc,imp4,Bool.or_false,Bool.or_true,Bool.true_or,Bool.false_or,Bool.or_self,Nat.add_assoc,zAd,zAr,wat,clOf,getA,zAw,setA,zCy,zBk,zCk,F2,A2,B2];refine AC.pur (cmp_pur _ _) ?_;simp(maxSteps:=2000000)only[push_cast,seval,↓kw2,zBw,zBv,zAu,↓zAc,imp4,Bool.or_false,Bool.or_true,Bool.true_or,Bool.false_or,Bool.or_self,Nat.add_assoc,zAd,zAr,wat,clOf,getA,zAw,setA,zCy,zBk,zCk,F2,A2,B2];refine scmp3 A2 B2 ?_;simp(maxSteps:=2000000)only[push_cast,seval,↓kw2,zBw,zBv,zAu,↓zAc,imp4,Bool.or_false,Bool.or_true,Bool.true_or,Bool.false_or,Bool.or_self,Nat.add_assoc,zAd,zAr,wat,clOf,getA,zAw,setA,zCy,zBk,zCk,F2,A2,B2];refine scmp0 C2 E2 ?_;simp(maxSteps:=2000000)only[push_cast,seval,↓kw2,zBw,zBv,zAu,↓zAc,imp4,Bool.or_false,Bool.or_true,Bool.true_or,Bool.false_or,Bool.or_self,Nat.add_assoc,zAd,zAr,wat,clOf,getA,zAw,setA,zCy,zBk,zCk,F2,A2,B2];have F3:∀ l,(H2++l)[F]?=_:=fun l=>(List.getElem?_append_left (zAb F2)).trans F2
 have A3:∀ l,(H2++l)[H.length]?=_:=fun l=>(List.getElem?_append_left (zAb A2)).trans A2
 have B3:∀ l,(H2++l)[H.length+1]?=_:=fun l=>(List.getElem?_append_left (zAb B2)).trans B2
 refine or_ac (by rw[zAw]; rfl) ?_;simp(maxSteps:=2000000)only[push_cast,seval,↓kw2,zBw,zBv,zAu,↓zAc,imp4,Bool.or_false,Bool.or_true,Bool.true_or,Bool.false_or,Bool.or_self,Nat.add_assoc,zAd,zAr,wat,clOf,getA,zAw,setA,zCy,zBk,zCk,F3,A3,B3];refine goW zDr [] 0 ?_;simp(maxSteps:=2000000)only[push_cast,seval,↓kw2];exact⟨_,rfl,hK _ (step2 _)⟩
def imp5:Nat→Bool:=fun i=>i==2||i==5
def ord5:List (Nat × Bool):=[(0,true),(1,true),(3,true),(4,true),(2,false),(5,false),(6,true),(7,true),(8,true)]
theorem e10:Ent Tryz.prog 10 Tryz.f10 [11] 4:=.mk Tryz.func10 rfl
attribute [push_cast] Tryz.f10
theorem pchk_okPl{a b c x y z p q r:Int}{s t u:Bool}(h:pchk a b c x y z p q r s t u=0):okPl a b c x y z p q r s t u:=by
 unfold pchk at h
 split at h
 ·split at h
  ·assumption
  ·omega
 ·exact absurd h (by assumption)
abbrev AR5(a b c x y z p q r x' y' z' p' q' r':Int)(s t u s' t' u':Bool)(sv:AV):List AV:=[.agg [I a,I b,I c],PL x y z p q r s t u,PL x' y' z' p' q' r' s' t' u',sv]
theorem better_bad{a b c x y z p q r x' y' z' p' q' r' e:Int}{s t u s' t' u':Bool}{sv:AV}(qs:IsSet sv)(he:Pur Tryz.prog GG 24 [I (zAg a b c),sv] (I e))(hb:¬(chk a b c=0∧e=0)) :
  Pur Tryz.prog GG 10 (AR5 a b c x y z p q r x' y' z' p' q' r' s t u s' t' u' sv) (.tup [B false,I 8]):=by
 have hpu:=qs.pur;refine goQ e10 zDr 3 ?_ (by simp[AV.purL,AV.pur,hpu])
 by_cases hc:chk a b c=0
 ·have h0:¬e=0:=fun h=>hb ⟨hc,h⟩
  simp(maxSteps:=2000000)only[push_cast,seval,↓kw2,hc];refine AC.pur he ?_;refine goW zDr [11] 3 ?_;simp(maxSteps:=2000000)only[push_cast,seval,↓kw2,h0];exact⟨_,rfl,zAa rfl rfl⟩
 ·simp(maxSteps:=2000000)only[push_cast,seval,↓kw2,hc];exact⟨_,rfl,zAa rfl rfl⟩
theorem better_of{a b c x y z p q r x' y' z' p' q' r' m n:Int}{s t u s' t' u':Bool}{sv:AV}(qs:IsSet sv)(hd:okD a b c)(he:Pur Tryz.prog GG 24 [I (zAg a b c),sv] (I 0))(h1:pchk a b c x y z p q r s t u=0)(h2:pchk a b c x' y' z' p' q' r' s' t' u'=0)
  (hs1:Pur Tryz.prog GG 37 [.agg [I a,I b,I c],PL x y z p q r s t u,sv] (.tup [I m,I 0])) (hs2:Pur Tryz.prog GG 37 [.agg [I a,I b,I c],PL x' y' z' p' q' r' s' t' u',sv] (.tup [I n,I 0])) (hmn:zDy x' y' z' p' q' r' x y z p q r s' t' u' s t u→m=n) :
  Pur Tryz.prog GG 10 (AR5 a b c x y z p q r x' y' z' p' q' r' s t u s' t' u' sv) (.tup [B (decide (cmp2 a b c x y z p q r x' y' z' p' q' r' m n s t u s' t' u' < 0)),I 0]):=by
 have hpu:=qs.pur;have hc:=chk_ok.2 hd;obtain⟨b1,b2,b3⟩:=qs.cell;refine goQ e10 zDr 3 ?_ (by simp[AV.purL,AV.pur,hpu]);simp(maxSteps:=2000000)only[push_cast,seval,↓kw2,hc];refine AC.pur he ?_;refine goW zDr [11] 3 ?_;simp(maxSteps:=2000000)only[push_cast,seval,↓kw2,h1,h2,List.contains_cons,Bool.true_or,Bool.false_or,Bool.or_true];refine FW.walkG hmix (imp:=imp5) (l:=ord5) (by kernel_rfl) (by kernel_rfl) ?_;simp only[ord5];simp(maxSteps:=2000000)only[push_cast,seval,↓kw2,zBw,zBv,zAu,↓zAc,imp5,Bool.or_false,Bool.or_true,Bool.true_or,Bool.false_or,Bool.or_self,zAd,zAr,wat,clOf];refine compare_ac ⟨b1,b2,b3⟩ ?_;simp(maxSteps:=2000000)only[push_cast,seval,↓kw2,zBw,zBv,zAu,↓zAc,imp5,Bool.or_false,Bool.or_true,Bool.true_or,Bool.false_or,Bool.or_self,zAd,zAr,wat,clOf];refine compare2_ac ⟨b1,b2,b3⟩ (M:=9) (S:=7) (mi:=8) rfl rfl rfl rfl rfl hs1 hs2 hmn ?_
 intro H'
 refine⟨⟨⟨fun h=>absurd (h.symm.trans (by kernel_rfl)) Bool.false_ne_true,fun h=>absurd (h.symm.trans (by kernel_rfl)) Bool.false_ne_true⟩,fun h=>absurd (h.symm.trans (by kernel_rfl)) Bool.false_ne_true⟩,?_⟩;simp(maxSteps:=2000000)only[push_cast,seval,↓kw2,zBw,zBv,zAu,↓zAc,imp5,Bool.or_false,Bool.or_true,Bool.true_or,Bool.false_or,Bool.or_self,zAd,zAr,wat,clOf];refine goW zDr [11] 3 ?_;simp(maxSteps:=2000000)only[push_cast,seval,↓kw2];exact⟨_,rfl,zAa rfl rfl⟩
theorem better_arg{a b c x y z p q r x' y' z' p' q' r':Int}{s t u s' t' u':Bool}{sv:AV}(qs:IsSet sv)(hd:okD a b c)(he:Pur Tryz.prog GG 24 [I (zAg a b c),sv] (I 0))(h:¬(pchk a b c x y z p q r s t u=0∧pchk a b c x' y' z' p' q' r' s' t' u'=0)) :
  Pur Tryz.prog GG 10 (AR5 a b c x y z p q r x' y' z' p' q' r' s t u s' t' u' sv) (.tup [B false,I (if pchk a b c x y z p q r s t u=0 then pchk a b c x' y' z' p' q' r' s' t' u' else pchk a b c x y z p q r s t u)]):=by
 have hpu:=qs.pur;have hc:=chk_ok.2 hd;refine goQ e10 zDr 3 ?_ (by simp[AV.purL,AV.pur,hpu]);simp(maxSteps:=2000000)only[push_cast,seval,↓kw2,hc];refine AC.pur he ?_;refine goW zDr [11] 3 ?_
 by_cases h1:pchk a b c x y z p q r s t u=0
 ·have h2:¬pchk a b c x' y' z' p' q' r' s' t' u'=0:=fun h2=>h ⟨h1,h2⟩
  rw[if_pos h1];simp(maxSteps:=2000000)only[push_cast,seval,↓kw2,h1,h2,List.contains_cons,Bool.true_or,Bool.false_or,Bool.or_true];exact⟨_,rfl,zAa rfl rfl⟩
 ·rw[if_neg h1];simp(maxSteps:=2000000)only[push_cast,seval,↓kw2,h1,List.contains_cons,Bool.true_or,Bool.false_or,Bool.or_true];exact⟨_,rfl,zAa rfl rfl⟩
end Go.Ab.Pd
