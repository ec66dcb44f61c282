/- A text of this claim. -/
import Derived.Test.YtplmblgihfogjaaGreatDoorEv40
set_option maxHeartbeats 40000000
set_option maxRecDepth 400000
set_option linter.all false
namespace Go.Ab.Pd
open Go.Proofs
open Go.Proofs.Tryz renaming prog->zP
def tzI(w:Int):Int:=(IntKind.u64.wrap (IntKind.u64.wrap ((BitVec.ofInt IntKind.u64.bits w &&& BitVec.ofInt IntKind.u64.bits (IntKind.u64.wrap (0 - w))).toNat:Int)*285870213051353865)).fdiv (2^(min 58 IntKind.u64.bits))
theorem tzI_lt(w:Int):0<=tzI w/\(tzI w).toNat < 64:=by
 unfold tzI;have h:=wrap_inU (IntKind.u64.wrap ((BitVec.ofInt IntKind.u64.bits w &&& BitVec.ofInt IntKind.u64.bits (IntKind.u64.wrap (0 - w))).toNat:Int)*285870213051353865)
 generalize IntKind.u64.wrap (IntKind.u64.wrap ((BitVec.ofInt IntKind.u64.bits w &&& BitVec.ofInt IntKind.u64.bits (IntKind.u64.wrap (0 - w))).toNat:Int)*285870213051353865)=x at h
 unfold inU at h;rw[show(2:Int)^(min 58 IntKind.u64.bits)=288230376151711744 by decide,Int.fdiv_eq_ediv_of_nonneg _ (by decide)];omega
theorem tab0_len:tab0.length=64:=by rfl
theorem tab0_u8:∀ i,i < 64->∃ n:Int,tab0.getD i .un=.c (.int .u8 n):=by
 intro i hi
 refine⟨(match tab0.getD i .un with | .c (.int _ n)=>n | _=>0),?_⟩;have:∀ j:Fin 64,∃ n,tab0.getD j.1 .un=.c (.int .u8 n):=by
  intro j
  have hm:tab0.getD j.1 .un∈tab0:=by
   rw[show tab0.getD j.1 .un=tab0[j.1]'(by rw[tab0_len]; exact j.2) by simp[List.getD,tab0_len]];exact List.getElem_mem _
  unfold tab0 at hm;obtain⟨n,_,hn⟩:=List.mem_map.1 hm;exact⟨n,hn.symm⟩
 obtain⟨n,hn⟩:=this ⟨i,hi⟩;simp only at hn;rw[hn]
theorem tab_drop{i:Nat}{v:AV}(hi:i < 64)(h:tab0.getD i .un=v):(tab0.drop i).take 1=[v]:=by
 have hl:i < tab0.length:=by rw[tab0_len]; exact hi
 rw[List.drop_eq_getElem_cons hl,List.take_succ_cons,List.take_zero];simp only[List.getD,List.getElem?_eq_getElem hl,Option.getD_some]at h;rw[h]
theorem tab_le{i:Nat}(hi:i < 64):(i+1<=tab0.length)=True:=by
 rw[tab0_len];exact eq_true hi
theorem GGat0:GG 0=some tab0:=(rfl)
theorem e282:Ent zP 282 Tryz.f282 [] 1:=.mk Tryz.func282 rfl
theorem tz_zero(w:Int)(hp:w=0):Pur zP GG 282 [U w] (I 64):=by
 have hd:decide (w=0)=true:=zT hp;refine goQ e282 zCi 0 ?_;simp only[push_cast,seval,↓kw2,hd];exact⟨_,rfl,zAa rfl rfl⟩
theorem tz_pos(w m q:Int)(hp:¬w=0/\tab0.getD q.toNat .un=.c (.int .u8 m)/\(0<=q/\q.toNat < 64)/\(IntKind.u64.wrap (IntKind.u64.wrap ((BitVec.ofInt IntKind.u64.bits w &&& BitVec.ofInt IntKind.u64.bits (IntKind.u64.wrap (0 - w))).toNat:Int)*285870213051353865)).fdiv (2^(min 58 IntKind.u64.bits))=q):Pur zP GG 282 [U w] (I (IntKind.i64.wrap m)):=by
 obtain⟨hw,hm,hq,hi⟩:=hp;have hd:decide (w=0)=false:=zF hw;have hrd:=tab_drop hq.2 hm;have hle:=tab_le hq.2;refine goQ e282 zCi 0 ?_;simp only[push_cast,seval,↓kw2,hd,hrd,hle,GGat0,hi,Nat.mul_one];exact⟨by omega,_,rfl,zAa rfl rfl⟩
def tzV(w:Int):Int:=if w=0 then 64 else match tab0.getD (tzI w).toNat .un with
 | .c (.int _ m)=>IntKind.i64.wrap m
 | _=>0
theorem tzV_pur(w:Int):Pur zP GG 282 [U w] (I (tzV w)):=by
 unfold tzV
 by_cases hw:w=0
 ·rw[if_pos hw];exact tz_zero w hw
 ·rw[if_neg hw];obtain⟨m,hm⟩:=tab0_u8 (tzI w).toNat (tzI_lt w).2;rw[hm];exact tz_pos w m _ ⟨hw,hm,tzI_lt w,rfl⟩
def andV(x y:Int):Int:=IntKind.u64.wrap ((BitVec.ofInt IntKind.u64.bits x &&& BitVec.ofInt IntKind.u64.bits y).toNat:Int)
def dropV(w:Int):Int:=andV w (IntKind.u64.wrap (w - 1))
theorem nat_drop{n k:Nat}(h0:0 < n)(h:2^k ∣ n):2^(k+1) ∣ (n &&& (n - 1)):=by
 obtain⟨q,rfl⟩:=h;apply Nat.dvd_of_mod_eq_zero;rw[Nat.and_mod_two_pow];have hk:0 < 2^k:=Nat.two_pow_pos k
 rcases Nat.mod_two_eq_zero_or_one q with hq | hq
 ·obtain⟨j,rfl⟩:∃ j,q=2*j:=⟨q / 2,by omega⟩;rw[show 2^k*(2*j)=2^(k+1)*j by rw[Nat.pow_succ,Nat.mul_assoc],Nat.mul_mod_right,Nat.zero_and]
 ·obtain⟨j,rfl⟩:∃ j,q=2*j+1:=⟨q / 2,by omega⟩;have e1:2^k*(2*j+1)=2^k+2^(k+1)*j:=by rw[Nat.mul_add,Nat.mul_one,Nat.pow_succ,Nat.mul_assoc,Nat.add_comm]
  have e2:2^k*(2*j+1) - 1=(2^k - 1)+2^(k+1)*j:=by rw[e1]; omega
  rw[e2,e1,Nat.add_mul_mod_self_left,Nat.add_mul_mod_self_left,Nat.mod_eq_of_lt (by rw[Nat.pow_succ]; omega),Nat.mod_eq_of_lt (by rw[Nat.pow_succ]; omega),Nat.and_two_pow_sub_one_eq_mod,Nat.mod_self]
theorem dropV_nat{w:Int}(h:inU w)(h0:¬w=0):dropV w=((w.toNat &&& (w.toNat - 1):Nat):Int):=by
 unfold inU at h;obtain⟨n,rfl⟩:∃ n:Nat,w=n:=⟨w.toNat,by omega⟩;unfold dropV andV;have e1:IntKind.u64.wrap ((n:Int) - 1)=((n - 1:Nat):Int):=by rw[IntKind.wrap_u64]; omega
 rw[e1,IntKind.wrap_u64,BitVec.toNat_and];have b1:(BitVec.ofInt IntKind.u64.bits (n:Int)).toNat=n:=by
  rw[BitVec.ofInt_natCast,BitVec.toNat_ofNat];exact Nat.mod_eq_of_lt (by show n < 2^64; omega)
 have b2:(BitVec.ofInt IntKind.u64.bits ((n - 1:Nat):Int)).toNat=n - 1:=by
  rw[BitVec.ofInt_natCast,BitVec.toNat_ofNat];exact Nat.mod_eq_of_lt (by show n - 1 < 2^64; omega)
 rw[b1,b2,Int.toNat_natCast];have:n &&& (n - 1)<=n:=Nat.and_le_left;omega
def Lft(m:Nat)(w:Int):Prop:=inU w/\m<=64/\2^(64 - m) ∣ w.toNat
theorem Lft.zero{w:Int}(h:Lft 0 w):w=0:=by
 obtain⟨h1,_,h2⟩:=h;unfold inU at h1;have:w.toNat < 2^64:=by omega
 have:=Nat.eq_zero_of_dvd_of_lt h2 this;omega
theorem Lft.drop{m:Nat}{w:Int}(h:Lft (m+1) w)(h0:¬w=0):Lft m (dropV w):=by
 obtain⟨h1,h2,h3⟩:=h;refine⟨wrap_inU _,by omega,?_⟩;rw[dropV_nat h1 h0,Int.toNat_natCast,show 64 - m=(64 - (m+1))+1 by omega];unfold inU at h1;exact nat_drop (by omega) h3
theorem Lft.start{w:Int}(h:inU w):Lft 64 w:=⟨h,by omega,by simp⟩
def wordL(i:Int):Nat->Int->List Int
 | 0,_=>[]
 | m+1,w=>if w=0 then [] else IntKind.i64.wrap (IntKind.i64.wrap (64*i)+tzV w)::wordL i m (dropV w)
theorem wordL_length(i:Int):∀(m:Nat) (w:Int),(wordL i m w).length<=m
 | 0,w=>by simp[wordL]
 | m+1,w=>by
  unfold wordL
  split
  ·simp
  ·have:=wordL_length i m (dropV w);simp; omega
def listL(ws:List Int):List Int:=upto (fun i=>wordL i 64 (ws.getD i.toNat 0)) 0 ws.length
theorem listL_length(ws:List Int):(listL ws).length<=ws.length*64:=upto_le _ 64 _ _ fun i _ _=>wordL_length _ _ _
theorem e242:Ent zP 242 Tryz.f242 [] 2:=.mk Tryz.func242 rfl
theorem list_is(n:Int){ws:List Int}(hw:∀ w∈ws,inU w)(lw:ws.length<=192)(p:Pur zP GG 107 [I n,.isl (ws.map U)] (I 0)):Pur zP GG 242 [I n,.isl (ws.map U)] (.tup [frS ((listL ws).map IA),I 0]):=by
 have hll:=listL_length ws;refine goQ e242 zCi 0 ?_ (by simp[AV.purL,AV.pur,zAi U _ (fun _=>rfl)]);simp only[push_cast,seval,↓kw2];refine AC.pur p ?_;refine goW zCi [] 0 ?_;simp only[push_cast,seval,↓kw2];refine FW.loopInv (fun l ts H=>∃(i:Nat) (es:List Int) (sl:AV),i+l=ws.length/\es++upto (fun i=>wordL i 64 (ws.getD i.toNat 0)) (i:Int) l=listL ws/\Own H sl (es.map IA) /\
  ts 4=sl/\ts 5=I 0/\ts 13=.isl (ws.map U)/\ts 14=I (ws.map U).length/\ts 15=I (i:Int)) ws.length
  ⟨0,[],_,by omega,rfl,.nil,rfl,rfl,rfl,rfl,rfl⟩ ?_
 rintro l ih ts H ⟨i,es,sl,hi,hes,hown,t4,t5,t13,t14,t15⟩
 rw[zM]at t14;refine FW.inLoop ?_
 by_cases hlt:i < ws.length
 ·have hd1:decide ((i:Int) < (ws.length:Int))=true:=by simp[hlt]
  have hgd:=zAj U ws 0 hlt;have hiu:inU (ws.getD i 0):=hw _ (by rw[show ws.getD i 0=ws[i] by simp[List.getD,hlt]]; exact List.getElem_mem hlt);obtain⟨l,rfl⟩:∃ l',l=l'+1:=⟨l - 1,by omega⟩;rw[zDk,Int.toNat_natCast]at hes
  generalize ws.getD i 0=w at hgd hiu hes
  have hi1:=zAl (n:=(i:Int)+1) (by omega) (by omega)
  by_cases hw0:w=0
  ·subst hw0;refine goW zCi [] 0 ?_;simp only[push_cast,seval,↓kw2,t4,t5,t13,t14,t15,hd1,hgd,zM,Int.toNat_natCast,hi1];refine⟨by omega,?_⟩;exact ih l (by omega) _ _ ⟨i+1,es,sl,by omega,by simpa[wordL]using hes,hown,t4,t5,t13,by rw[zM]; exact t14,rfl⟩
  ·refine goW zCi [] 0 ?_;simp only[push_cast,seval,↓kw2,t4,t5,t13,t14,t15,hd1,hgd,hw0,zM,Int.toNat_natCast];refine⟨by omega,?_⟩;refine AC.pur (tzV_pur w) ?_;have hap:=fun v=>aApp1 (P:=zP) un30 un30 ze3 rfl by3 hown v
   have hel:=zCx hes;refine goW zCi [] 0 ?_;simp only[push_cast,seval,↓kw2,hap];refine⟨apC_of (by rw[zM]; omega) (by decide),?_⟩;refine FW.loopInv (fun m ts H=>∃(w:Int) (es:List Int) (sl:AV),Lft m w/\es++(wordL (i:Int) m w++upto (fun i=>wordL i 64 (ws.getD i.toNat 0)) ((i:Int)+1) l)=listL ws/\Own H sl (es.map IA) /\
    ts 4=sl/\ts 5=I 0/\ts 6=I (i:Int)/\ts 7=U w/\ts 13=.isl (ws.map U)/\ts 14=I ws.length/\ts 15=I (i:Int)) 63
    ⟨dropV w,es++[IntKind.i64.wrap (IntKind.i64.wrap (64*(i:Int))+tzV w)],.sl (H.length+1) 0 ((es.map IA).length+1) ((es.map IA).length+1),(Lft.start hiu).drop hw0,
     by rw[<- hes]; simp[wordL,hw0],apI,rfl,t5,rfl,rfl,t13,t14,t15⟩ ?_
   clear hgd hiu hes hw0 hown t4 t5 t13 t14 t15 hap hel
   rintro m ihm ts H ⟨w,es,sl,hlf,hes,hown,t4,t5,t6,t7,t13,t14,t15⟩
   refine FW.goto rfl ?_
   by_cases hw0:w=0
   ·subst hw0;refine goW zCi [] 0 ?_;simp only[push_cast,seval,↓kw2,t4,t5,t6,t7,t13,t14,t15,hi1];have hz:wordL (i:Int) m 0=[]:=by cases m <;> simp[wordL]
    rw[hz]at hes;exact ih l (by omega) _ _ ⟨i+1,es,sl,by omega,by simpa using hes,hown,t4,t5,t13,by rw[zM]; exact t14,rfl⟩
   ·obtain⟨m,rfl⟩:∃ m',m=m'+1:=⟨m - 1,by
     have:m≠0:=fun e=>hw0 (by subst e; exact hlf.zero)
     omega⟩
    refine goW zCi [] 0 ?_;simp only[push_cast,seval,↓kw2,t4,t5,t6,t7,t13,t14,t15,hw0];refine AC.pur (tzV_pur w) ?_;have hap:=fun v=>aApp1 (P:=zP) un30 un30 ze3 rfl by3 hown v
    have hel:=zCx hes;refine goW zCi [] 0 ?_;simp only[push_cast,seval,↓kw2,hap,t6,t7];refine⟨apC_of (by rw[zM]; omega) (by decide),?_⟩;exact ihm m (by omega) _ _ ⟨dropV w,es++[IntKind.i64.wrap (IntKind.i64.wrap (64*(i:Int))+tzV w)],.sl (H.length+1) 0 ((es.map IA).length+1) ((es.map IA).length+1),hlf.drop hw0,
     by rw[<- hes]; simp[wordL,hw0],apI,rfl,t5,t6,rfl,t13,t14,t15⟩
 ·have hd1:decide ((i:Int) < (ws.length:Int))=false:=by simp; omega
  have hl:l=0:=by omega
  subst hl;refine goW zCi [] 0 ?_;simp only[push_cast,seval,↓kw2,t4,t5,t14,t15,hd1];simp only[upto,List.append_nil]at hes;subst hes;obtain⟨m',hm'⟩:=hown.done2 (v:=I 0) (zAi IA _ (fun _=>rfl)) rfl;exact⟨_,rfl,m',hm'⟩
theorem e243:Ent zP 243 Tryz.f243 [] 2:=.mk Tryz.func243 rfl
theorem sides_pur(a b c m:Int):Pur zP GG 243 [.agg [I a,I b,I c],I m] (.fn 283 [] [.iptr [I a,I b,I c] 0,.iptr [I m] 0]):=by
 refine goQ e243 zCi 0 ?_;simp only[push_cast,seval,↓kw2];exact⟨_,rfl,3,rfl⟩
@[push_cast] def g243:List AV->Option (Prop × AV)
 | [.agg [(.c (.int .i64 a)),(.c (.int .i64 b)),(.c (.int .i64 c))],(.c (.int .i64 m))]=>some (True,.fn 283 [] [.iptr [I a,I b,I c] 0,.iptr [I m] 0])
 | _=>none
theorem g243_ok:∀ args p,g243 args=some p->p.1->Pur zP GG 243 args p.2:=by
 intro args p hp hc
 unfold g243 at hp
 split at hp
 ·cases hp;exact sides_pur _ _ _ _
 ·cases hp
@[push_cast] def T24:Tab:=Tab.ext T23 243 g243
theorem zCg:TOk zP GG T24:=TOk.ext zCi g243_ok
def sideL(a b c m k:Int):List Int:=if dimV a b c k=1 then [] else [stV a b c m k 1,stV a b c m k (-1)]
def sidesL(a b c m:Int):List Int:=upto (sideL a b c m) 0 3
theorem e283:Ent zP 283 Tryz.f283 [] 3:=.mk Tryz.func283 rfl
theorem sides1{a b c m:Int}{id:Nat}{H:List AO}{K:AV->List AO->Prop}(h:afterL zP GG id K (sidesL a b c m) H) :
  AC zP GG 283 [.yld id,.iptr [I a,I b,I c] 0,.iptr [I m] 0] H K:=by
 refine goE e283 zCg 0 ?_;simp only[push_cast,seval,↓kw2];refine FW.loopInv (fun l ts H=>∃ k:Int,k+(l:Int)=3/\0<=k/\afterL zP GG id K (upto (sideL a b c m) k l) H/\ts 0=.yld id/\ts 1=.iptr [I a,I b,I c] 0/\ts 2=.iptr [I m] 0/\ts 10=.agg [I a,I b,I c]/\ts 11=I k) 3
  ⟨0,by omega,by omega,h,rfl,rfl,rfl,rfl,rfl⟩ ?_
 clear h
 rintro l ih ts H ⟨k,hk,hk0,h,t0,t1,t2,t10,t11⟩
 refine FW.inLoop ?_;have hkk:(l=3/\k=0)\/(l=2/\k=1)\/(l=1/\k=2)\/(l=0/\k=3):=by omega
 have e0:dimV a b c 0=a:=rfl;have e1:dimV a b c 1=b:=rfl;have e2:dimV a b c 2=c:=rfl;obtain⟨q0,hq0⟩:∃ q,q=dimV a b c k:=⟨_,rfl⟩
 rcases hkk with ⟨rfl,rfl⟩ | ⟨rfl,rfl⟩ | ⟨rfl,rfl⟩ | ⟨rfl,rfl⟩
 rotate_left 3
 ·refine goW zCg [] 3 ?_;simp only[push_cast,seval,↓kw2,t0,t1,t2,t10,t11];exact⟨_,rfl,h⟩
 all_goals
  rw[zDk]at h;unfold sideL at h;simp only[e0,e1,e2]at h hq0
  by_cases hd:q0=1
  ·subst hq0;rw[if_pos hd]at h;refine goW zCg [] 3 ?_;simp only[push_cast,seval,↓kw2,t0,t1,t2,t10,t11,hd];exact ih _ (by decide) _ _ ⟨_,by decide,by decide,h,t0,t1,t2,t10,rfl⟩
  ·have hd':decide (q0=1)=false:=zF hd;subst hq0;rw[if_neg hd]at h;refine goW zCg [] 1 ?_;simp only[push_cast,seval,↓kw2,t0,t1,t2,t10,t11,hd'];refine ACV.mono (callee:=.yld id) h ?_
   rintro v H1 ⟨hf,ht,q,rfl⟩
   cases q
   ·have hK:=hf rfl;refine goW zCg [] 0 ?_;simp only[push_cast,seval,↓kw2];exact⟨_,rfl,hK⟩
   ·have hn:=ht rfl;refine goW zCg [] 1 ?_;simp only[push_cast,seval,↓kw2,t0,t1,t2,t10,t11,hd'];refine ACV.mono (callee:=.yld id) hn ?_
    rintro v H2 ⟨hf,ht,q,rfl⟩
    cases q
    ·have hK:=hf rfl;refine goW zCg [] 0 ?_;simp only[push_cast,seval,↓kw2];exact⟨_,rfl,hK⟩
    ·have hn:=ht rfl;refine goW zCg [] 1 ?_;simp only[push_cast,seval,↓kw2,t0,t1,t2,t10,t11];exact ih _ (by decide) _ _ ⟨_,by decide,by decide,hn,t0,t1,t2,t10,rfl⟩
theorem e184:Ent zP 184 Tryz.f184 [] 2:=.mk Tryz.func184 rfl
theorem sckd_ac{a b c:Int}{s:AV}(hd:okD a b c)(p:Pur zP GG 107 [I (zAf a b c),s] (I 0))(q:IsSet s){H:List AO}{id:Nat}(hid:H[id]?=some (.arr 1 [s]))
  {K:AV->List AO->Prop} (hK:∀ l,K (.tup [I (zAf a b c),I 0]) (H++l)):AC zP GG 184 [.agg [I a,I b,I c],.sl id 0 1 1] H K:=by
 obtain⟨a1,a2,a3⟩:=q.cell;have hck:=chk_ok.2 hd;have hid2:∀ l,(H++l)[id]?=some (.arr 1 [s]):=fun l=>by rw[zL (zAc hid)]; exact hid
 refine goE e184 zCg 1 ?_;simp only[push_cast,seval,↓kw2,zAb,hid,hid2,a1,a2,a3,hck];refine AC.pur p ?_;refine goW zCg [] 1 ?_;simp only[push_cast,seval,↓kw2,zAb,hid,hid2,a1,a2,a3,hck];exact⟨_,rfl,hK _⟩
def andnV(x y:Int):Int:=IntKind.u64.wrap ((BitVec.ofInt IntKind.u64.bits x &&& ~~~(BitVec.ofInt IntKind.u64.bits y)).toNat:Int)
theorem e241:Ent zP 241 Tryz.f241 [] 2:=.mk Tryz.func241 rfl
theorem andn_pur(x y:Int):Pur zP GG 241 [U x,U y] (U (andnV x y)):=by
 refine goQ e241 zCi 0 ?_;simp only[push_cast,seval,↓kw2];exact⟨_,rfl,zAa rfl rfl⟩
@[push_cast] def g241:List AV->Option (Prop × AV)
 | [(.c (.int .u64 x)),(.c (.int .u64 y))]=>some (True,U (andnV x y))
 | _=>none
theorem g241_ok:∀ args p,g241 args=some p->p.1->Pur zP GG 241 args p.2:=by
 intro args p hp hc
 unfold g241 at hp
 split at hp
 ·cases hp;exact andn_pur _ _
 ·cases hp
@[push_cast] def T28:Tab:=Tab.ext T23 241 g241
theorem T28_ok:TOk zP GG T28:=TOk.ext zCi g241_ok
theorem andn_inU(x y:Int):inU (andnV x y):=wrap_inU _
theorem e185:Ent zP 185 Tryz.f185 [] 3:=.mk Tryz.func185 rfl
theorem less_of{n e:Int}{s1 s2 s:AV}(hp:Pur zP GG 105 [I n,s1,s2,.fn 241 [] []] (.tup [s,I e]))(h1:s1.pur=true)(h2:s2.pur=true)(h3:s.pur=true):Pur zP GG 185 [I n,s1,s2] (.tup [s,I e]):=by
 refine goQ e185 T28_ok 0 ?_ (by simp[AV.purL,AV.pur,h1,h2]);simp only[push_cast,seval,↓kw2];refine AC.pur hp ?_;refine goW T28_ok [] 0 ?_;simp only[push_cast,seval,↓kw2];exact⟨_,rfl,zAa (by simp[AV.pur,AV.purL,h3]) rfl⟩
theorem less_is(n:Int){xs ys:List Int}(hx:∀ w∈xs,inU w)(hy:∀ w∈ys,inU w)(hlen:xs.length=ys.length)(h0:0 < xs.length)(hl:xs.length<=2^16)(p1:Pur zP GG 107 [I n,.isl (xs.map U)] (I 0))(p2:Pur zP GG 107 [I n,.isl (ys.map U)] (I 0)) :
  Pur zP GG 185 [I n,.isl (xs.map U),.isl (ys.map U)] (.tup [.isl ((List.zipWith andnV xs ys).map U),I 0]) :=
 less_of (joined_ok n andn_pur hx hy hlen h0 hl p1 p2) (IsSet.isl hx).pur (IsSet.isl hy).pur (IsSet.isl (zCo andn_inU xs ys)).pur
def allL(n:Int):List Int:=upto (fun i=>[i]) 0 n.toNat
theorem allL_length(n:Int):(allL n).length=n.toNat:=by unfold allL; rw[zEa _ 1 _ _ (fun _ _ _=>rfl),Nat.mul_one]
theorem allL_mem{n k:Int}(h:k∈allL n):0<=k/\k < n:=by
 obtain⟨i,h1,h2,h3⟩:=mem_upto h;rw[List.mem_singleton]at h3;subst h3;omega
theorem e186:Ent zP 186 Tryz.f186 [] 2:=.mk Tryz.func186 rfl
theorem others_of{n e:Int}(hn:1<=n/\n<=4096){s s':AV}(q:IsSet s)(hs':IsSet s')(hless:Pur zP GG 185 [I n,.isl ((ofL n (allL n)).map U),s] (.tup [s',I e])):Pur zP GG 186 [I n,s] s':=by
 have hof:=zEq n (allL n) ⟨by omega,fun k hk=>allL_mem hk,by rw[allL_length]; omega⟩;have hpu:=q.pur;refine goQ e186 zCg 0 ?_ (by simp[AV.purL,AV.pur,hpu]);simp only[push_cast,seval,↓kw2];refine FW.loopInv (fun l ts H=>∃(i:Int) (es:List Int) (sl:AV),i+(l:Int)=n/\0<=i/\es++upto (fun i=>[i]) i l=allL n/\Own H sl (es.map IA)/\ts 0=I n/\ts 1=s/\ts 5=sl/\ts 11=I n/\ts 12=I i) n.toNat
  ⟨0,[],_,by omega,by omega,rfl,.nil,rfl,rfl,rfl,rfl,rfl⟩ ?_
 rintro l ih ts H ⟨i,es,sl,hi,hi0,hes,hown,t0,t1,t5,t11,t12⟩
 refine FW.inLoop ?_
 by_cases hlt:i < n
 ·have hd1:decide (i < n)=true:=zT hlt;obtain⟨l,rfl⟩:∃ l',l=l'+1:=⟨l - 1,by omega⟩;rw[zDk]at hes;have hap:=fun v=>aApp1 (P:=zP) un30 un30 ze3 rfl by3 hown v
  have hel:=zCx hes;rw[allL_length]at hel;refine goW zCg [] 0 ?_;simp only[push_cast,seval,↓kw2,t0,t1,t5,t11,t12,hd1,hap];refine⟨apC_of (by rw[zM]; omega) (by decide),?_⟩;rw[zAl (n:=i+1) (by omega) (by omega)];exact ih l (by omega) _ _ ⟨i+1,es++[i],.sl (H.length+1) 0 ((es.map IA).length+1) ((es.map IA).length+1),by omega,by omega,by rw[<- hes]; simp,apI,t0,t1,rfl,t11,rfl⟩
 ·have hd1:decide (i < n)=false:=zF hlt;have hl:l=0:=by omega
  subst hl;simp only[upto,List.append_nil]at hes;subst hes;refine goW zCg [] 0 ?_;simp only[push_cast,seval,↓kw2,t0,t1,t5,t11,t12,hd1];refine Own.freeze (pre:=[I n]) (post:=[]) hown (zAi IA _ (fun _=>rfl)) ?_
  intro H' _
  refine AC.pur hof ?_;refine goW zCg [] 0 ?_;simp only[push_cast,seval,↓kw2,t0,t1];refine AC.pur hless ?_;refine goW zCg [] 0 ?_;simp only[push_cast,seval,↓kw2];exact⟨_,rfl,zAa hs'.pur rfl⟩
def stepC(has:Int->Bool)(acc o:Int):Int:=if has o=true then IntKind.i64.wrap (acc+1) else acc
def stepM(a b c:Int)(has:Int->Bool)(acc m:Int):Int:=(sidesL a b c m).foldl (stepC has) acc
theorem e187:Ent zP 187 Tryz.f187 [] 4:=.mk Tryz.func187 rfl
theorem open_of(a b c n:Int){s1 s2:AV}(q1:IsSet s1)(q2:IsSet s2){ls:List Int}{e:Int}(hlen:ls.length<=2^18)(hlist:Pur zP GG 242 [I n,s1] (.tup [frS (ls.map IA),I e])){has:Int->Bool}(hhas:∀ k,∃ e,Pur zP GG 151 [I n,s2,I k] (.tup [B (has k),I e])) :
  Pur zP GG 187 [.agg [I a,I b,I c],I n,s1,s2] (I (ls.foldl (stepM a b c has) 0)):=by
 have h1:=q1.pur;have h2:=q2.pur;obtain⟨b1,b2,b3⟩:=q2.cell;refine goQ e187 zCg 0 ?_ (by simp[AV.purL,AV.pur,h1,h2]);simp only[push_cast,seval,↓kw2,b1,b2,b3];refine AC.pur hlist ?_;refine goW zCg [] 0 ?_;simp only[push_cast,seval,↓kw2,aLenI];refine FW.loopInv (fun l ts H=>∃(i:Nat) (acc:Int),i+l=ls.length/\(ls.drop i).foldl (stepM a b c has) acc=ls.foldl (stepM a b c has) 0/\H[0]?=some (.cells [I a,I b,I c])/\H[1]?=some (.cells [I n])/\H[2]?=some (.cells [s2])/\H[3]?=some (.cells [I acc]) /\
  ts 4=.ptr 0 0/\ts 5=.ptr 1 0/\ts 7=.ptr 2 0/\ts 8=.ptr 3 0/\ts 22=frS (ls.map IA)/\ts 23=I ls.length/\ts 24=I (i:Int)) ls.length
  ⟨0,0,by omega,rfl,rfl,rfl,rfl,rfl,rfl,rfl,rfl,rfl,rfl,rfl,rfl⟩ ?_
 rintro l ih ts H ⟨i,acc,hi,hes,g0,g1,g2,g3,t4,t5,t7,t8,t22,t23,t24⟩
 refine FW.inLoop ?_
 by_cases hlt:i < ls.length
 ·have hd1:decide ((i:Int) < (ls.length:Int))=true:=by simp[hlt]
  have hx:=aIdxI (l:=ls) i H (by omega);rw[Int.toNat_natCast,zAj IA ls 0 hlt]at hx;obtain⟨l,rfl⟩:∃ l',l=l'+1:=⟨l - 1,by omega⟩;rw[zBa 0 hlt,List.foldl_cons]at hes
  generalize ls.getD i 0=m at hx hes
  refine goW zCg [] 0 ?_;simp only[push_cast,seval,↓kw2,t4,t5,t7,t8,t22,t23,t24,hd1,hx,g0];refine⟨by omega,?_⟩;have hi1:=zAl (n:=(i:Int)+1) (by omega) (by omega);have hL3:=zAc g3;refine FW.rangeFunc ?_;simp only[push_cast,seval,↓kw2,ACV];refine sides1 ?_
  generalize hal:AO.loop _=lo
  refine afterL_rounds (fun l' H'=>∃ acc':Int,l'.foldl (stepC has) acc'=(sidesL a b c m).foldl (stepC has) acc/\H'[H.length]?=some lo/\H'[0]?=some (.cells [I a,I b,I c])/\H'[1]?=some (.cells [I n])/\H'[2]?=some (.cells [s2])/\H'[3]?=some (.cells [I acc'])) ?_ ?_ _ _
   ⟨acc,rfl,zAb,(zL (by omega)).trans g0,(zL (by omega)).trans g1,(zL (by omega)).trans g2,(zL (by omega)).trans g3⟩
  ·rintro H' ⟨acc',hacc,hb,k0,k1,k2,k3⟩
   rw[<- hal]at hb;refine⟨_,hb,by simp,?_⟩;have hne:∀ j,j < 4->(H'.set H.length .dead)[j]?=H'[j]?:=fun j hj=>zQ (by omega)
   refine goW zCg [] 0 ?_;simp only[push_cast,seval,↓kw2,t24,hi1];exact ih l (by omega) _ _ ⟨i+1,acc',by omega,by rw[<- hes]; congr 1,(hne 0 (by decide)).trans k0,(hne 1 (by decide)).trans k1,(hne 2 (by decide)).trans k2,(hne 3 (by decide)).trans k3,t4,t5,t7,t8,t22,t23,rfl⟩
  ·rintro x l' H' ⟨acc',hacc,hb,k0,k1,k2,k3⟩
   rw[<- hal]at hb;refine AY.of_loop hb rfl ?_;have hl1:=zAc hb;refine goW zCg [] 0 ?_;simp only[push_cast,seval,↓kw2,parTs];refine FW.beginRound hb rfl ?_
   generalize hH2:H'.set H.length _=H2
   obtain⟨al2,hb2,hal2⟩:∃ al2,H2[H.length]?=some (.loop al2)/\AO.loop { al2 with st:=.ready,pending:=none }=lo:=⟨_,by rw[<- hH2,zS hl1],hal⟩;have hk:∀ j,j < 4->H2[j]?=H'[j]?:=fun j hj=>by rw[<- hH2,zQ (by omega)]
   have j0:=(hk 0 (by decide)).trans k0;have j1:=(hk 1 (by decide)).trans k1;have j2:=(hk 2 (by decide)).trans k2;have j3:=(hk 3 (by decide)).trans k3;have hL2:=zAc hb2;clear hb hH2 k0 k1 k2 k3 hk;refine goW zCg [] 0 ?_;simp only[push_cast,seval,↓kw2,t4,t5,t7,t8,j0,j1,j2,j3];obtain⟨ex,hx⟩:=hhas x;refine AC.pur hx ?_;rw[List.foldl_cons,stepC]at hacc;refine goW zCg [] 0 ?_;cases hq:has x
   ·rw[hq,if_neg (by simp)]at hacc;simp only[push_cast,seval,↓kw2,t4,t5,t7,t8,j0,j1,j2,j3];have hg:∀(B:AO) (j:Nat),j < 4->(H2.set H.length B)[j]?=H2[j]?:=fun B j hj=>zQ (by omega)
    exact⟨rfl,al2,hb2,rfl,acc',hacc,by rw[zS hL2]; exact congrArg some hal2,(hg _ 0 (by decide)).trans j0,(hg _ 1 (by decide)).trans j1,(hg _ 2 (by decide)).trans j2,(hg _ 3 (by decide)).trans j3⟩
   ·rw[hq,if_pos rfl]at hacc;simp only[push_cast,seval,↓kw2,t4,t5,t7,t8,j0,j1,j2,j3];have hg:∀(A B:AO) (j:Nat),j < 3->((H2.set 3 A).set H.length B)[j]?=H2[j]?:=fun A B j hj=>by rw[zQ (by omega),zQ (by omega)]
    exact⟨rfl,al2,by rw[zQ (by omega)]; exact hb2,rfl,IntKind.i64.wrap (acc'+1),hacc,by rw[zS (by rw[List.length_set]; exact hL2)]; exact congrArg some hal2,(hg _ _ 0 (by decide)).trans j0,(hg _ _ 1 (by decide)).trans j1,(hg _ _ 2 (by decide)).trans j2,by rw[zQ (by omega),zS (by omega)]⟩
 ·have hd1:decide ((i:Int) < (ls.length:Int))=false:=by simp; omega
  refine goW zCg [] 0 ?_;simp only[push_cast,seval,↓kw2,t8,t23,t24,hd1,g3];rw[List.drop_eq_nil_of_le (by omega)]at hes;have hes':acc=ls.foldl (stepM a b c has) 0:=hes;exact⟨_,rfl,zAa rfl (by rw[hes'])⟩
theorem e113:Ent zP 113 Tryz.f113 [] 3:=.mk Tryz.func113 rfl
theorem score_of{a b c x y z p q r:Int}{s t u:Bool}(hp:okPl a b c x y z p q r s t u){m o f:AV}(qm:IsSet m)(hm:Pur zP GG 107 [I (zAf a b c),m] (I 0)){e1 e2 cn k:Int}(qo:IsSet o)(qf:IsSet f)
  (ho:Pur zP GG 186 [I (zAf a b c),m] o) (hf:Pur zP GG 185 [I (zAf a b c),o,.isl ((ownW a b c x y z p q r).map U)] (.tup [f,I e1]))
  (hc:Pur zP GG 183 [I (3*zAf a b c),.isl ((zEx a b c x y z p q r s t u).map U)] (.tup [I cn,I e2])) (hk:Pur zP GG 187 [.agg [I a,I b,I c],I (zAf a b c),.isl ((ownW a b c x y z p q r).map U),f] (I k)) :
  Pur zP GG 113 [.agg [I a,I b,I c],.agg [I x,I y,I z,I p,I q,I r,B s,B t,B u],m] (.tup [I (IntKind.i64.wrap (IntKind.i64.wrap (2*k)+cn)),I 0]):=by
 have hd:=hp.1;have hmu:=zBx hd;have hmv:zAf a b c=a*b*c:=by rw[zAf,if_pos hd]
 have hd':=hd;unfold okD at hd';have h1:0 < a*b*c:=Int.mul_pos (Int.mul_pos (by omega) (by omega)) (by omega);have hn:1<=zAf a b c/\zAf a b c<=4096:=by omega
 have hw3:=zAl (n:=3*zAf a b c) (by omega) (by omega);obtain⟨b1,b2,b3⟩:=qm.cell;have hpu:=qm.pur;refine goQ e113 zCg 0 ?_ (by simp[AV.purL,AV.pur,hpu]);simp only[push_cast,seval,↓kw2,b1,b2,b3];refine sckd_ac hd hm qm rfl ?_
 intro l
 refine goW zCg [] 0 ?_;simp only[push_cast,seval,↓kw2,hw3];refine⟨hp,?_⟩;refine AC.pur ho ?_;refine goW zCg [] 0 ?_;simp only[push_cast,seval,↓kw2,hw3];refine AC.pur hf ?_;refine goW zCg [] 0 ?_;simp only[push_cast,seval,↓kw2,hw3];refine AC.pur hc ?_;refine goW zCg [] 0 ?_;simp only[push_cast,seval,↓kw2,hw3];refine AC.pur hk ?_;refine goW zCg [] 0 ?_;simp only[push_cast,seval,↓kw2,hw3];exact⟨_,rfl,zAa rfl rfl⟩
theorem e116:Ent zP 116 Tryz.f116 [] 1:=.mk Tryz.func116 rfl
theorem bits_pur(s t u:Bool):Pur zP GG 116 [.agg [B s,B t,B u]] (.agg [I (bitV s),I (bitV t),I (bitV u)]):=by
 refine goQ e116 zCg 5 ?_;simp only[push_cast,seval,↓kw2,zDz]
 repeat' (first | apply And.intro | intro _)
 all_goals
  refine⟨_,rfl,zAa rfl ?_⟩;simp[bitV, *]
@[push_cast] def g116:List AV->Option (Prop × AV)
 | [.agg [(.c (.bool s)),(.c (.bool t)),(.c (.bool u))]]=>some (True,.agg [I (bitV s),I (bitV t),I (bitV u)])
 | _=>none
theorem g116_ok:∀ args p,g116 args=some p->p.1->Pur zP GG 116 args p.2:=by
 intro args p hp hc
 unfold g116 at hp
 split at hp
 ·cases hp;exact bits_pur _ _ _
 ·cases hp
@[push_cast] def T25:Tab:=Tab.ext T24 116 g116
theorem T25_ok:TOk zP GG T25:=TOk.ext zCg g116_ok
theorem or_ac{c1 c2 c3 c4:Int}{H:List AO}{id:Nat}(hid:H[id]?=some (.arr 1 [I c1,I c2,I c3,I c4])){K:AV->List AO->Prop}(hK:K (I (orV c1 (orV c2 (orV c3 c4)))) H):AC zP GG 117 [.sl id 0 4 4] H K:=by
 refine goE e117 TOk.nil 5 ?_;simp only[push_cast,seval,↓kw2,hid];refine⟨fun h1=>?_,fun h1=>⟨_,rfl,by rw[orV_1 h1]at hK; exact hK⟩⟩;rw[orV_0 h1]at hK;refine⟨fun h2=>?_,fun h2=>⟨_,rfl,by rw[orV_1 h2]at hK; exact hK⟩⟩;rw[orV_0 h2]at hK;refine⟨fun h3=>?_,fun h3=>⟨_,rfl,by rw[orV_1 h3]at hK; exact hK⟩⟩;rw[orV_0 h3]at hK;exact⟨fun h4=>⟨_,rfl,by rw[h4]at hK; exact hK⟩,fun h4=>⟨_,rfl,hK⟩⟩
theorem iab(id off len cap:Nat)(i:Int)(H:List AO):zAk zP 30 (.bs id off len cap 1) i H=some (0<=i/\i < (len:Int),.ptr id (off+i.toNat*1)):=by
 unfold zAk; simp only[un30,sz3]; rfl
theorem lbb(id off len cap sz:Nat):aLen zP 30 (.bs id off len cap sz)=some (len:Int):=by unfold aLen; simp only[un30]
def lexV(p q r p' q' r':Int):Int:=orV (cmpV p p') (orV (cmpV q q') (cmpV r r'))
theorem e119:Ent zP 119 Tryz.f119 [] 2:=.mk Tryz.func119 rfl
theorem scmp0{p q r p' q' r':Int}{H:List AO}{i1 i2:Nat}(h1:H[i1]?=some (.cells [I p,I q,I r]))(h2:H[i2]?=some (.cells [I p',I q',I r'])){K:AV->List AO->Prop}(hK:K (I (lexV p q r p' q' r')) H):AC zP GG 119 [.bs i1 0 3 3 1,.bs i2 0 3 3 1] H K:=by
 unfold lexV at hK;refine goE e119 T25_ok 4 ?_;simp only[push_cast,seval,↓kw2,h1,h2,iab,lbb];refine⟨fun h1=>?_,fun h1=>⟨_,rfl,by rw[orV_1 h1]at hK; exact hK⟩⟩;rw[orV_0 h1]at hK;refine⟨fun h2=>?_,fun h2=>⟨_,rfl,by rw[orV_1 h2]at hK; exact hK⟩⟩;rw[orV_0 h2]at hK;exact⟨fun h3=>⟨_,rfl,by rw[h3]at hK; exact hK⟩,fun h3=>⟨_,rfl,hK⟩⟩
theorem scmp3{p q r p' q' r' a1 a2 a3 b1 b2 b3:Int}{c1 c2 c3 d1 d2 d3:AV}{H:List AO}{i1 i2:Nat}(h1:H[i1]?=some (.cells [I a1,I a2,I a3,I p,I q,I r,c1,c2,c3]))(h2:H[i2]?=some (.cells [I b1,I b2,I b3,I p',I q',I r',d1,d2,d3])){K:AV->List AO->Prop}(hK:K (I (lexV p q r p' q' r')) H):AC zP GG 119 [.bs i1 3 3 3 1,.bs i2 3 3 3 1] H K:=by
 unfold lexV at hK;refine goE e119 T25_ok 4 ?_;simp only[push_cast,seval,↓kw2,h1,h2,iab,lbb];refine⟨fun h1=>?_,fun h1=>⟨_,rfl,by rw[orV_1 h1]at hK; exact hK⟩⟩;rw[orV_0 h1]at hK;refine⟨fun h2=>?_,fun h2=>⟨_,rfl,by rw[orV_1 h2]at hK; exact hK⟩⟩;rw[orV_0 h2]at hK;exact⟨fun h3=>⟨_,rfl,by rw[h3]at hK; exact hK⟩,fun h3=>⟨_,rfl,hK⟩⟩
theorem e112:Ent zP 112 Tryz.f112 [] 4:=.mk Tryz.func112 rfl
theorem of_new{a b c x y z p q r n:Int}{s t u:Bool}{sv:AV}{H:List AO}{M D S m clock:Nat}{es:List (Nat × AV × AV)}(hsv:sv.isCell=true/\sv.isEl=true/\sv.cells=[sv])
  (hM:H[M]?=some (.cells [.mp m])) (hD:H[D]?=some (.cells [I a,I b,I c])) (hS:H[S]?=some (.cells [sv])) (hm:H[m]?=some (.map es clock)) (hf:zEk zP 37 (PL x y z p q r s t u) es=some none)
  (hsc:Pur zP GG 113 [.agg [I a,I b,I c],PL x y z p q r s t u,sv] (.tup [I n,I 0])) {K:AV->List AO->Prop}
  (hK:K (I n) ((H++[AO.cells [I x,I y,I z,I p,I q,I r,B s,B t,B u]]).set m (AO.map (es++[(clock,PL x y z p q r s t u,I n)]) (clock+1)))) :
  AC zP GG 112 [PL x y z p q r s t u,.ptr M 0,.ptr D 0,.ptr S 0] H K:=by
 obtain⟨a1,a2,a3⟩:=hsv;have qM:∀ l,(H++l)[M]?=some (.cells [.mp m]):=fun l=>by rw[zL (zAc hM)]; exact hM
 have qD:∀ l,(H++l)[D]?=some (.cells [I a,I b,I c]):=fun l=>by rw[zL (zAc hD)]; exact hD
 have qS:∀ l,(H++l)[S]?=some (.cells [sv]):=fun l=>by rw[zL (zAc hS)]; exact hS
 have qm:∀ l,(H++l)[m]?=some (.map es clock):=fun l=>by rw[zL (zAc hm)]; exact hm
 have hck:=ckPl x y z p q r s t u;have hfl:=flPl x y z p q r s t u;refine goE e112 T25_ok 0 ?_;simp only[push_cast,seval,↓kw2,zAb,qM,qD,qS,qm,a1,a2,a3,hck,hfl,hf,aLookup,lkZero,lkRes];refine AC.pur hsc ?_;refine goW T25_ok [] 0 ?_;simp only[push_cast,seval,↓kw2,zAb,qM,qD,qS,qm,a1,a2,a3,hck,hfl,hf,zDa];exact⟨_,rfl,hK⟩
theorem e61:Ent zP 61 Tryz.f61 [] 2:=.mk Tryz.func61 rfl
theorem compare_ac{a b c:Int}{sv:AV}{H:List AO}(hsv:sv.isCell=true/\sv.isEl=true/\sv.cells=[sv]){K:AV->List AO->Prop}
  (hK:K (.fn 114 [] [.ptr H.length 0,.ptr (H.length+4) 0]) (H++[.cells [I a,I b,I c],.cells [sv],.map [] 0,.cells [.mp (H.length+2)],.cells [.fn 112 [] [.ptr (H.length+3) 0,.ptr H.length 0,.ptr (H.length+1) 0]]])) :
  AC zP GG 61 [.agg [I a,I b,I c],sv] H K:=by
 obtain⟨a1,a2,a3⟩:=hsv;refine goE e61 T25_ok 0 ?_;simp only[push_cast,seval,↓kw2,getA,zAd,setA,a1,a2,a3];exact⟨_,rfl,hK⟩
def A3:Nat->Bool:=fun i=>i==6||i==7
def ex3:Nat->List Nat:=fun i=>if i=6 then [2,5] else if i=7 then [2,5,6] else []
def imp3:Nat->Bool:=fun i=>i==2||i==5
def ord3:List (Nat × Bool):=[(0,true),(1,true),(3,true),(4,true),(2,false),(5,false),(6,false),(7,false),(8,false),(9,false)]
def imp4:Nat->Bool:=fun i=>i==2||i==5||i==6||i==9||i==16||i==19||i==21
def ord4:List (Nat × Bool):=[(0,true),(1,true),(3,true),(4,true),(7,true),(8,true),(10,true),(11,true),(12,true),(13,true),(14,true),(15,true),(17,true),(18,true),(2,false),(5,false),(6,false),(9,false),(16,false),(19,false),(20,false),(21,false),(22,true)]
theorem e114:Ent zP 114 Tryz.f114 [3,4] 4:=.mk Tryz.func114 rfl
def cmp2(a b c x y z p q r x' y' z' p' q' r' m n:Int)(s t u s' t' u':Bool):Int :=
 orV (cmpV m n) (orV (cmpV (atV a b c x y z) (atV a b c x' y' z')) (orV (lexV p q r p' q' r') (lexV (bitV s) (bitV t) (bitV u) (bitV s') (bitV t') (bitV u'))))
theorem e210:Ent zP 210 Tryz.f210 [] 1:=.mk Tryz.func210 rfl
theorem cloneS_ac{l:List Slt}{s:AV}(hs:IsSl s (l.map Slt.av))(hl:l.length<=2^16){H:List AO}{K:AV->List AO->Prop}(hK:∀ r X,LiveS 3 (H++X) s r (l.map Slt.av)->(∀ i,zAw r=some i->H.length<=i)->K r (H++X)):AC zP GG 210 [s] H K:=by
 rcases hs with rfl | ⟨h0,rfl⟩
 ·cases l with
  | nil =>
   refine goE e210 TOk.nil 0 ?_;simp only[push_cast,seval,↓kw2,zAn,aEqS,zDd,zBk,elsOf,zDf,List.map_nil];exact⟨_,rfl,hK _ _ .zs (fun i h=>by cases h)⟩
  | cons x l =>
   obtain⟨C,happ,hC⟩:=aAppZK (P:=zP) un218 un218 ze217 rfl by217 (H:=H++[AO.arr 3 []]) (l:=(x::l).map Slt.av) (fun y hy=>by
    obtain⟨j,_,rfl⟩:=List.mem_map.1 hy;rfl) (by simp)
   generalize hL:x::l=L at hl hK happ hC
   have hLp:0 < L.length:=by rw[<- hL]; simp
   refine goE e210 TOk.nil 0 ?_;simp only[push_cast,seval,↓kw2,zAn,aEqS,zDd,happ];refine⟨hC (by rw[zM]; omega) (by rw[zM]; omega),_,rfl,?_⟩;have:=hK (.sl (H++[AO.arr 3 []]).length 0 L.length L.length) ([AO.arr 3 []]++[AO.arr 3 (L.map Slt.av)]) (LiveS.row' (by
    rw[<- List.append_assoc,zAd]; rfl) hLp) (fun i h=>by cases h; simp)
   simpa[zM]using this
 ·have hl0:l=[]:=List.map_eq_nil_iff.1 h0;subst hl0;refine goE e210 TOk.nil 0 ?_;simp only[push_cast,seval,↓kw2,zAn,aEqS,zDd];exact⟨_,rfl,by simpa using hK _ [] .nil (fun i h=>by cases h)⟩
theorem cloneS_pur{l:List Slt}{s:AV}(hs:IsSl s (l.map Slt.av))(hl:l.length<=2^16)(hp:AV.purL (l.map Slt.av)=true):Pur zP GG 210 [s] s :=
 frz_live hs hp (IsSl.purL1 hs hp) (cloneS_ac hs hl fun r X h _=>h)
theorem appS{H:List AO}{id vid n:Nat}{es:List AV}{x:Slt}(h0:H[id]?=some (.arr 3 es))(hn:es.length=n)(hp:0 < n)(h1:H[vid]?=some (.arr 3 [x.av])) :
  zBk zP 218 218 (.sl id 0 n n) (.sl vid 0 1 1) H=some ⟨True/\(n+1)*24<=2^40/\n+1<=2^40,.sl H.length 0 (n+1) (n+1),H.set id .dead++[.arr 3 (es++[x.av])]⟩:=by
 have hel:elsOf H 3 (.sl vid 0 1 1)=some (True,[x.av]):=by
  unfold elsOf;simp only[h1];rfl
 unfold zBk;simp only[un218,ze217,by217,show(AV.agg [I 0,I 0,I 0]).cells.length=3 from rfl,hel,h0];subst hn;simp[hp]
theorem appN{H:List AO}{vid:Nat}{x:Slt}(h1:H[vid]?=some (.arr 3 [x.av])) :
  zBk zP 218 218 (.c (.slice none 0 0)) (.sl vid 0 1 1) H=some ⟨True/\(0+1)*24<=2^40/\0+1<=2^40,.sl H.length 0 (0+1) (0+1),H++[.arr 3 [x.av]]⟩:=by
 have hel:elsOf H 3 (.sl vid 0 1 1)=some (True,[x.av]):=by
  unfold elsOf;simp only[h1];rfl
 unfold zBk;simp only[un218,ze217,by217,show(AV.agg [I 0,I 0,I 0]).cells.length=3 from rfl,hel];rfl
theorem e209:Ent zP 209 Tryz.f209 [11,15] 3:=.mk Tryz.func209 rfl
theorem insert_ac{l:List Slt}(x:Slt){i:Nat}(hi:i<=l.length)(hl:l.length<=4096){c s:AV}{H:List AO}(hs:LiveS 3 H c s (l.map Slt.av))(hc:l=[]->s=.c (.slice none 0 0)){vid:Nat}(hv:H[vid]?=some (.arr 3 [x.av]))(hne:zAw s≠some vid){K:AV->List AO->Prop}
  (hK:∀ id' H',H'[id']?=some (.arr 3 ((insAt l i x).map Slt.av))->K (.sl id' 0 (l.length+1) (l.length+1)) H'):AC zP GG 209 [s,I i,.sl vid 0 1 1] H K:=by
 generalize hL:l.map Slt.av=L at hs
 have hlen:L.length=l.length:=by rw[<- hL,zM]
 have key:(l=[]/\s=.c (.slice none 0 0))\/∃ id,s=.sl id 0 l.length l.length/\0 < l.length/\H[id]?=some (.arr 3 (l.map Slt.av)):=by
  cases hs with
  | nil=>exact .inl ⟨List.length_eq_zero_iff.1 (by simpa using hlen.symm),rfl⟩
  | zs =>
   have h0:=List.length_eq_zero_iff.1 (show l.length=0 by simpa using hlen.symm);have:=hc h0;cases this
  | row h h0 =>
   rename_i id;exact .inr ⟨id,by rw[<- hlen],by omega,by rw[hL]; exact h⟩
 clear hs hc hL hlen
 rcases key with ⟨rfl,rfl⟩ | ⟨id,rfl,h0,hid⟩
 ·have hi0:i=0:=by simpa using hi
  subst hi0;have hap:=appN hv;refine goE e209 TOk.nil 0 ?_;simp only[push_cast,seval,↓kw2,zCm,zBi,hap,natc0]
  first
   | exact⟨by decide,_,rfl,hK _ _ zAb⟩
   | exact⟨_,rfl,hK _ _ zAb⟩
 ·have hvi:vid≠id:=fun e=>hne (by rw[e]; rfl)
  by_cases hin:i=l.length
  ·subst hin;have hap:=appS hid zM h0 hv;have hd:decide ((l.length:Int)=(l.length:Int))=true:=zT rfl;refine goE e209 TOk.nil 0 ?_;simp only[push_cast,seval,↓kw2,zCm,zBi,hap,hd,hid,Int.toNat_natCast];refine⟨by omega,⟨by omega,by omega⟩,_,rfl,hK _ _ ?_⟩;rw[List.getElem?_append_right (by simp),List.length_set,Nat.sub_self];simp[insAt]
  ·exact insert_mid x (by omega) rfl hl hvi hid hv hK
end Go.Ab.Pd
