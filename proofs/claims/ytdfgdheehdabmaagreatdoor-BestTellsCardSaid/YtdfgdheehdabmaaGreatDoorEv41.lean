/- One of the texts that this claim stands on. -/
import Derived.Test.YtdfgdheehdabmaaGreatDoorEv36
import Derived.Test.YtdfgdheehdabmaaGreatDoorEv37
import Derived.Test.YtdfgdheehdabmaaGreatDoorEv40
set_option maxHeartbeats 40000000
set_option maxRecDepth 400000
set_option linter.all false
namespace Go.Ab.Pd
open Go.Proofs
theorem orW_nat{w k:Int}(hw:inU w)(hk:0≤k):orW w k=((w.toNat ||| 2^(k % 64).toNat:Nat):Int):=by
 have hm:k.tmod 64=k % 64:=Int.tmod_eq_emod_of_nonneg hk;have hj:(k % 64).toNat < 64:=by omega
 have hp:2^(k % 64).toNat < 2^64:=Nat.pow_lt_pow_right (by decide) hj;have hpi:inU (((2^(k % 64).toNat:Nat)):Int):=nU hp;unfold orW;rw[hm,show min (k % 64).toNat IntKind.u64.bits=(k % 64).toNat from Nat.min_eq_left (by rw[show IntKind.u64.bits=64 from rfl]; omega),Int.one_mul];rw[show((2:Int)^(k % 64).toNat)=((2^(k % 64).toNat:Nat):Int) by rw[Int.natCast_pow]; rfl,wrapU hpi];rw[BitVec.toNat_or,toNat_U hw,toNat_U hpi,Int.toNat_natCast];refine wrapU ⟨by omega,?_⟩;have h:=Nat.or_lt_two_pow (x:=w.toNat) (y:=2^(k % 64).toNat) (n:=64) (lt_U hw) hp
 exact_mod_cast h
def zBa(ws:List Int)(m:Nat):Bool:=(ws.getD (m / 64) 0).toNat.testBit (m % 64)
theorem zDg{ws:List Int}(h:∀ w∈ws,inU w)(i:Nat):inU (ws.getD i 0):=by
 by_cases hi:i < ws.length
 ·have:ws.getD i 0=ws[i]:=by simp[List.getD,hi]
  rw[this]; exact h _ (List.getElem_mem hi)
 ·have:ws.getD i 0=0:=by simp[List.getD,List.getElem?_eq_none (by omega:ws.length≤i)]
  rw[this]; exact inU_0
theorem zDk{ws:List Int}{m:Nat}(h:ws.length≤m / 64):zBa ws m=false:=by
 unfold zBa;rw[show ws.getD (m / 64) 0=0 by simp[List.getD,List.getElem?_eq_none h]];simp
theorem bitAt_0(n m:Nat):zBa (List.replicate n 0) m=false:=by
 unfold zBa;have:(List.replicate n (0:Int)).getD (m / 64) 0=0:=by
  simp only[List.getD,List.getElem?_replicate]
  split <;> rfl
 rw[this]; simp
theorem setW_bit{ws:List Int}(h:∀ w∈ws,inU w){k:Int}(h0:0≤k)(h1:k.toNat / 64 < ws.length)(m:Nat):zBa (setW ws k) m=(zBa ws m||decide (k=(m:Int))):=by
 have hi:(k.tdiv 64).toNat=k.toNat / 64:=by rw[Int.tdiv_eq_ediv_of_nonneg h0]; omega
 unfold zBa setW;rw[hi]
 by_cases hm:m / 64=k.toNat / 64
 ·rw[hm];have e:(ws.set (k.toNat / 64) (orW (ws.getD (k.toNat / 64) 0) k)).getD (k.toNat / 64) 0=orW (ws.getD (k.toNat / 64) 0) k:=by simp[List.getD,h1]
  rw[e,orW_nat (zDg h _) h0,Int.toNat_natCast,Nat.testBit_or,Nat.testBit_two_pow]
  congr 1
  exact decide_eq_decide.2 (by omega)
 ·have e:(ws.set (k.toNat / 64) (orW (ws.getD (k.toNat / 64) 0) k)).getD (m / 64) 0=ws.getD (m / 64) 0:=by
   rw[List.getD_eq_getElem?_getD,List.getElem?_set_ne (Ne.symm hm),← List.getD_eq_getElem?_getD]
  rw[e,decide_eq_false (by omega),Bool.or_false]
theorem fold_bit:∀(l:List Int) {ws:List Int},(∀ w∈ws,inU w)→(∀ k∈l,0≤k∧k.toNat / 64 < ws.length)→∀ m:Nat,zBa (l.foldl setW ws) m=(zBa ws m||decide ((m:Int)∈l))
 | [],ws,_,_,m=>by simp
 | k::l,ws,hw,hl,m=>by
  obtain⟨h0,h1⟩:=hl k (by simp);rw[List.foldl_cons,fold_bit l (setW_inU hw k) (fun x hx=>by rw[setW_length]; exact hl x (by simp[hx])),setW_bit hw h0 h1,Bool.or_assoc]
  congr 1
  rw[Bool.eq_iff_iff];simp only[Bool.or_eq_true,decide_eq_true_eq,List.mem_cons]
  constructor
  ·rintro(h | h)
   ·exact .inl h.symm
   ·exact .inr h
  ·rintro(h | h)
   ·exact .inl h.symm
   ·exact .inr h
theorem zEb{n:Int}(hn:1≤n∧n≤12288){l:List Int}(hl:∀ k∈l,0≤k∧k < n)(m:Nat):zBa (ofL n l) m=decide ((m:Int)∈l):=by
 have hw:zAs n=(n+63) / 64:=by rw[zAs,if_pos hn]
 unfold ofL;rw[fold_bit l (fun w hw=>by rw[List.eq_of_mem_replicate hw]; exact inU_0) (fun k hk=>by
  obtain⟨h1,h2⟩:=hl k hk;rw[List.length_replicate]; omega),bitAt_0,Bool.false_or]
theorem and_bit{xs ys:List Int}(hx:∀ w∈xs,inU w)(hy:∀ w∈ys,inU w)(hl:xs.length=ys.length)(m:Nat):zBa (List.zipWith andW xs ys) m=(zBa xs m&&zBa ys m):=by
 by_cases h:m / 64 < xs.length
 ·have e:(List.zipWith andW xs ys).getD (m / 64) 0=andW (xs.getD (m / 64) 0) (ys.getD (m / 64) 0):=by
   simp[List.getD,List.getElem?_zipWith,h,(by omega:m / 64 < ys.length)]
  unfold zBa;rw[e,zEv (zDg hx _) (zDg hy _),Int.toNat_natCast,Nat.testBit_and]
 ·rw[zDk (by rw[List.length_zipWith]; omega),zDk (ws:=xs) (by omega),Bool.false_and]
theorem zBl{n:Int}{ws:List Int}(hw:∀ w∈ws,inU w):schk n ws=0 ↔ (1≤n∧n≤12288)∧(ws.length:Int)=(n+63) / 64∧∀ m:Nat,n≤(m:Int)→zBa ws m=false:=by
 constructor
 ·intro h
  have hn:1≤n∧n≤12288:=by
   by_cases hn:1≤n∧n≤12288
   ·exact hn
   ·rw[schk,zAs,if_neg hn,if_pos (by decide)]at h;omega
  have hwv:zAs n=(n+63) / 64:=by rw[zAs,if_pos hn]
  rw[schk,if_neg (by omega),hwv]at h
  by_cases h2:(ws.length:Int)=(n+63) / 64∧(0 < n % 64→(ws.getD ((n+63) / 64 - 1).toNat 0).fdiv (2^(n % 64).toNat)=0)
  ·refine⟨hn,h2.1,fun m hm=>?_⟩
   by_cases hi:m / 64 < ws.length
   ·have e1:0 < n % 64:=by omega
    have e2:m / 64=((n+63) / 64 - 1).toNat:=by omega
    have hu:=zDg hw (m / 64);have h3:=h2.2 e1;rw[← e2]at h3;unfold zBa
    generalize ws.getD (m / 64) 0=w at hu h3
    refine Nat.testBit_lt_two_pow ?_;have hlt:w.toNat < 2^(n % 64).toNat:=by
     rw[Int.fdiv_eq_ediv_of_nonneg _ (by exact_mod_cast Nat.zero_le _)]at h3;have h4:=Int.emod_add_mul_ediv w (2^(n % 64).toNat);have h5:=Int.emod_lt_of_pos w (b:=2^(n % 64).toNat) (by exact_mod_cast Nat.two_pow_pos _);rw[h3,Int.mul_zero,Int.add_zero]at h4;rw[h4]at h5;have:w=(w.toNat:Int):=by unfold inU at hu; omega
     rw[this]at h5
     exact_mod_cast h5
    exact Nat.lt_of_lt_of_le hlt (Nat.pow_le_pow_right (by decide) (by omega))
   ·exact zDk (by omega)
  ·rw[if_neg h2]at h;omega
 ·rintro⟨hn,hl,hb⟩
  have hwv:zAs n=(n+63) / 64:=by rw[zAs,if_pos hn]
  rw[schk,if_neg (by omega),hwv,if_pos];refine⟨hl,fun h=>?_⟩;have hu:=zDg hw ((n+63) / 64 - 1).toNat;have hlt:(ws.getD ((n+63) / 64 - 1).toNat 0).toNat < 2^(n % 64).toNat:=Nat.lt_pow_two_of_testBit _ fun j hj=>by
   by_cases h64:j < 64
   ·have:=hb (64*((n+63) / 64 - 1).toNat+j) (by omega);unfold zBa at this;rw[show(64*((n+63) / 64 - 1).toNat+j) / 64=((n+63) / 64 - 1).toNat by omega,show(64*((n+63) / 64 - 1).toNat+j) % 64=j by omega]at this;exact this
   ·exact Nat.testBit_lt_two_pow (Nat.lt_of_lt_of_le (lt_U hu) (Nat.pow_le_pow_right (by decide) (by omega)))
  generalize ws.getD ((n+63) / 64 - 1).toNat 0=w at hu hlt
  rw[Int.fdiv_eq_ediv_of_nonneg _ (by exact_mod_cast Nat.zero_le _)];refine Int.ediv_eq_zero_of_lt hu.1 ?_;have:w=(w.toNat:Int):=by unfold inU at hu; omega
  rw[this]
  exact_mod_cast hlt
theorem schk_ofL{n:Int}(hn:1≤n∧n≤12288){l:List Int}(hl:∀ k∈l,0≤k∧k < n):schk n (ofL n l)=0:=by
 refine(zBl (zCu n l)).2 ⟨hn,?_,fun m hm=>?_⟩
 ·rw[zBf,zAs,if_pos hn]; omega
 ·rw[zEb hn hl];exact decide_eq_false fun h=>by have:=hl _ h; omega
theorem schk_and{n:Int}{xs ys:List Int}(hx:∀ w∈xs,inU w)(hy:∀ w∈ys,inU w)(h1:schk n xs=0)(h2:schk n ys=0):schk n (List.zipWith andW xs ys)=0:=by
 obtain⟨hn,l1,b1⟩:=(zBl hx).1 h1;obtain⟨_,l2,b2⟩:=(zBl hy).1 h2;refine(zBl (zip_inU andW_inU xs ys)).2 ⟨hn,by rw[List.length_zipWith]; omega,fun m hm=>?_⟩;rw[and_bit hx hy (by omega),b1 m hm,Bool.false_and]
theorem onesV_is{w:Int}(h:inU w):onesV w=(On.ones w.toNat:Int):=(Classical.choose_spec (ones_ex w)).2 h
theorem many_fold:∀ {ws:List Int} {acc:Int},(∀ w∈ws,inU w)→0≤acc→acc+64*ws.length≤2^40→ws.foldl addV acc=acc+((ws.map fun w=>On.ones w.toNat).sum:Nat)∧((ws.map fun w=>On.ones w.toNat).sum:Nat)≤64*ws.length
 | [],acc,_,_,_=>by simp
 | w::ws,acc,h,h0,h1=>by
  have hw:=h w (by simp);obtain⟨_,_,o1,_⟩:=On.ones_sum (lt_U hw);rw[List.length_cons]at h1;have e:addV acc w=acc+(On.ones w.toNat:Int):=by
   unfold addV;rw[onesV_is hw];exact zAf (by omega) (by omega)
  obtain⟨k1,k2⟩:=many_fold (ws:=ws) (acc:=addV acc w) (fun x hx=>h x (by simp[hx])) (by rw[e]; omega) (by rw[e]; omega);rw[List.foldl_cons,k1,e,List.map_cons,List.sum_cons,List.length_cons];omega
theorem sum_0:∀ {l:List Nat},l.sum=0 ↔ ∀ x∈l,x=0
 | []=>by simp
 | x::l=>by rw[List.sum_cons]; have:=sum_0 (l:=l); simp only[List.mem_cons,forall_eq_or_imp,← this]; omega
theorem zero_bits{ws:List Int}(h:∀ w∈ws,inU w):(∀ w∈ws,w=0) ↔ ∀ m,zBa ws m=false:=by
 constructor
 ·intro h0 m
  unfold zBa
  by_cases hi:m / 64 < ws.length
  ·have:ws.getD (m / 64) 0=ws[m / 64]:=by simp[List.getD,hi]
   rw[this,h0 _ (List.getElem_mem hi)]; simp
  ·exact zDk (by omega)
 ·intro hb w hw
  obtain⟨i,hi,rfl⟩:=List.getElem_of_mem hw;have hu:=h _ hw;have h1:∀ j,(ws[i]).toNat.testBit j=false:=fun j=>by
   by_cases hj:j < 64
   ·have:=hb (64*i+j);unfold zBa at this;rw[show(64*i+j) / 64=i by omega,show(64*i+j) % 64=j by omega,show ws.getD i 0=ws[i] by simp[List.getD,hi]]at this;exact this
   ·exact Nat.testBit_lt_two_pow (Nat.lt_of_lt_of_le (lt_U hu) (Nat.pow_le_pow_right (by decide) (by omega)))
  have h2:(ws[i]).toNat=0:=Nat.eq_of_testBit_eq fun j=>by rw[h1]; simp
  unfold inU at hu;omega
theorem manyW_bits{ws:List Int}(h:∀ w∈ws,inU w)(hl:ws.length≤2^16):(0≤manyW ws∧manyW ws≤2^22)∧(manyW ws=0 ↔ ∀ m,zBa ws m=false):=by
 obtain⟨e,le⟩:=many_fold (acc:=0) h (by omega) (by omega);rw[Int.zero_add]at e;refine⟨by unfold manyW; omega,?_⟩;have hz:manyW ws=0 ↔ ∀ w∈ws,w=0:=by
  unfold manyW;rw[e]
  constructor
  ·intro h0 w hw
   have h1:(ws.map fun w=>On.ones w.toNat).sum=0:=by omega
   have h2:=sum_0.1 h1 _ (List.mem_map.2 ⟨w,hw,rfl⟩);have hu:=h w hw;obtain⟨_,_,_,o2,_⟩:=On.ones_sum (lt_U hu);have:=o2 h2;unfold inU at hu;omega
  ·intro h0
   have h1:(ws.map fun w=>On.ones w.toNat).sum=0:=sum_0.2 fun x hx=>by
    obtain⟨w,hw,rfl⟩:=List.mem_map.1 hx;rw[h0 w hw]; exact On.ones_0
   omega
 rw[hz,zero_bits h]
theorem apart_bits{n:Int}(hn:1≤n∧n≤12288){l:List Int}(hl:∀ k∈l,0≤k∧k < n){xs:List Int}(hx:∀ w∈xs,inU w)(hc:schk n xs=0) :
  (0≤manyW (List.zipWith andW (ofL n l) xs)∧manyW (List.zipWith andW (ofL n l) xs)≤2^22)∧(manyW (List.zipWith andW (ofL n l) xs)=0 ↔ ∀ k∈l,zBa xs k.toNat=false):=by
 obtain⟨_,lx,_⟩:=(zBl hx).1 hc;have lo:=zBf n l;have hw:zAs n=(n+63) / 64:=by rw[zAs,if_pos hn]
 obtain⟨h1,h2⟩:=manyW_bits (zip_inU andW_inU (ofL n l) xs) (by rw[List.length_zipWith]; omega);refine⟨h1,h2.trans ⟨fun h k hk=>?_,fun h m=>?_⟩⟩
 ·obtain⟨k0,k1⟩:=hl k hk;have:=h k.toNat;rw[and_bit (zCu n l) hx (by omega),zEb hn hl,show((k.toNat:Nat):Int)=k by omega,decide_eq_true hk,Bool.true_and]at this;exact this
 ·rw[and_bit (zCu n l) hx (by omega),zEb hn hl]
  by_cases hm:(m:Int)∈l
  ·rw[decide_eq_true hm,Bool.true_and];have:=h _ hm
   rwa [Int.toNat_natCast]at this
  ·rw[decide_eq_false hm,Bool.false_and]
def zEa(a b c:Int)(xs ys:List Int)(x:Plc):Bool:=(zAv a b c x.x x.y x.z x.p x.q x.r).all (fun k=>!zBa xs k.toNat)&&(zCc a b c x.x x.y x.z x.p x.q x.r x.s x.t x.u).all (fun k=>!zBa ys k.toNat)
theorem holds_is{a b c:Int}{xs ys:List Int}(hx:∀ w∈xs,inU w)(hy:∀ w∈ys,inU w)(c1:schk (zAg a b c) xs=0)(c2:schk (3*zAg a b c) ys=0)(P0:Plc)(hk:P0.ok a b c) :
  Pur Tryz.prog GG 35 [.agg [I a,I b,I c],P0.av,.isl (xs.map U),.isl (ys.map U)] (.tup [B (zEa a b c xs ys P0),I 0]):=by
 obtain⟨x,y,z,p,q,r,s,t,u⟩:=P0;have hd:=hk.1;have hb:=hk.2.1;have hmu:=zAy hd;have hmv:zAg a b c=a*b*c:=by rw[zAg,if_pos hd]
 have hn:0≤zAg a b c∧zAg a b c≤4096:=by omega
 obtain⟨hN1,lx,_⟩:=(zBl hx).1 c1;obtain⟨hN2,ly,_⟩:=(zBl hy).1 c2;have wv1:zAs (zAg a b c)=(zAg a b c+63) / 64:=by rw[zAs,if_pos (by omega)]
 have wv2:zAs (3*zAg a b c)=(3*zAg a b c+63) / 64:=by rw[zAs,if_pos (by omega)]
 have q1:IsSet (.isl (xs.map U)):=.isl hx;have q2:IsSet (.isl (ys.map U)):=.isl hy;have p1:=zBh (zAg a b c) xs;have p2:=zBh (3*zAg a b c) ys;rw[c1]at p1;rw[c2]at p2;have hfs:=fsets_pur q1 q2 hn p1 p2;have hlo:∀ k∈srt (zAv a b c x y z p q r),0≤k∧k < zAg a b c:=fun k hk=>by rw[hmv]; exact(zCn hd hb (srt_mem.1 hk)).2
 have hll:∀ k∈zCc a b c x y z p q r s t u,0≤k∧k < 3*zAg a b c:=fun k hk=>by rw[hmv]; exact links_mem hd hb k hk
 have io:=zCu (zAg a b c) (srt (zAv a b c x y z p q r));have il:=zCu (3*zAg a b c) (zCc a b c x y z p q r s t u);have lo:=zBf (zAg a b c) (srt (zAv a b c x y z p q r));have ll:=zBf (3*zAg a b c) (zCc a b c x y z p q r s t u);have so:=schk_ofL hN1 hlo;have sl:=schk_ofL hN2 hll;have co1:=zBh (zAg a b c) (ofL (zAg a b c) (srt (zAv a b c x y z p q r)));have co2:=zBh (3*zAg a b c) (ofL (3*zAg a b c) (zCc a b c x y z p q r s t u));rw[so]at co1;rw[sl]at co2;have pa1:=and_ok (zAg a b c) io hx (by omega) (by omega) (by omega) co1 p1;have pa2:=and_ok (3*zAg a b c) il hy (by omega) (by omega) (by omega) co2 p2;have cz1:=zBh (zAg a b c) (List.zipWith andW (ofL (zAg a b c) (srt (zAv a b c x y z p q r))) xs);have cz2:=zBh (3*zAg a b c) (List.zipWith andW (ofL (3*zAg a b c) (zCc a b c x y z p q r s t u)) ys);rw[schk_and io hx so c1]at cz1;rw[schk_and il hy sl c2]at cz2;have pm1:=smany_ok (zAg a b c) (by rw[List.length_zipWith]; omega) cz1;have pm2:=smany_ok (3*zAg a b c) (by rw[List.length_zipWith]; omega) cz2;obtain⟨n1,m1⟩:=apart_bits hN1 hlo hx c1;obtain⟨n2,m2⟩:=apart_bits hN2 hll hy c2;have w3:=zAf (n:=3*zAg a b c) (by omega) (by omega);have h1:=q1.pur;have h2:=q2.pur;obtain⟨c11,c12,c13⟩:=q1.cell;obtain⟨c21,c22,c23⟩:=q2.cell;rw[if_pos ⟨rfl,rfl⟩]at hfs;have hV:zEa a b c xs ys ⟨x,y,z,p,q,r,s,t,u⟩=decide (IntKind.i64.wrap (manyW (List.zipWith andW (ofL (zAg a b c) (srt (zAv a b c x y z p q r))) xs)+manyW (List.zipWith andW (ofL (3*zAg a b c) (zCc a b c x y z p q r s t u)) ys))=0):=by
  rw[zAf (by omega) (by omega),Bool.eq_iff_iff,decide_eq_true_eq,zEa];simp only[Bool.and_eq_true,List.all_eq_true,Bool.not_eq_true']
  constructor
  ·rintro⟨k1,k2⟩
   rw[m1.2 fun k hk=>k1 k (srt_mem.1 hk),m2.2 k2]; rfl
  ·intro h0
   exact⟨fun k hk=>m1.1 (by omega) k (srt_mem.2 hk),m2.1 (by omega)⟩
 rw[hV];have hk':okPl a b c x y z p q r s t u:=hk;show Pur Tryz.prog GG 35 [.agg [I a,I b,I c],PL x y z p q r s t u,.isl (xs.map U),.isl (ys.map U)] _
 generalize manyW (List.zipWith andW (ofL (zAg a b c) (srt (zAv a b c x y z p q r))) xs)=M1 at pm1
 generalize manyW (List.zipWith andW (ofL (3*zAg a b c) (zCc a b c x y z p q r s t u)) ys)=M2 at pm2
 refine goQ e35 T22_ok 0 ?_ (by simp[AV.purL,AV.pur,h1,h2]);simp(maxSteps:=2000000)only[push_cast,seval,↓kw2,hk'];refine AC.pur hfs ?_;refine goW T22_ok [] 0 ?_;simp(maxSteps:=2000000)only[push_cast,seval,↓kw2];refine both_ac hn pa1 pa2 ?_;refine goW T22_ok [] 0 ?_;simp(maxSteps:=2000000)only[push_cast,seval,↓kw2];refine AC.pur pm1 ?_;refine goW T22_ok [] 0 ?_;simp(maxSteps:=2000000)only[push_cast,seval,↓kw2,w3];refine AC.pur pm2 ?_;refine goW T22_ok [] 0 ?_;simp(maxSteps:=2000000)only[push_cast,seval,↓kw2];exact⟨_,rfl,zAa rfl rfl⟩
theorem allS{a b c:Int}(w:Wnt){xs ys:List Int}(hx:∀ w∈xs,inU w)(hy:∀ w∈ys,inU w)(c1:schk (zAg a b c) xs=0)(c2:schk (3*zAg a b c) ys=0)(h:zEs a b c w.p w.q w.r=0) :
  Pur Tryz.prog GG 14 [.agg [I a,I b,I c],w.av,.isl (xs.map U),.isl (ys.map U)] (.tup [rsl a b c w ((wholeL a b c w).filter (zEa a b c xs ys)),I 0]):=by
 have p1:=zBh (zAg a b c) xs;have p2:=zBh (3*zAg a b c) ys;rw[c1]at p1;rw[c2]at p2;exact spotsA_ok w (.isl hx) (.isl hy) h p1 p2 fun x hk=>holds_is hx hy c1 c2 x hk
abbrev PLz:AV:=PL 0 0 0 0 0 0 false false false
theorem e6:Ent Tryz.prog 6 Tryz.f6 [] 4:=.mk Tryz.func6 rfl
attribute [push_cast] Tryz.f6
theorem best_err{a b c e:Int}{w:Wnt}{s1 s2:AV}(q1:IsSet s1)(q2:IsSet s2)(he:¬e=0)(hA:Pur Tryz.prog GG 14 [.agg [I a,I b,I c],w.av,s1,s2] (.tup [.c (.slice none 0 0),I e])) :
  Pur Tryz.prog GG 6 [.agg [I a,I b,I c],w.av,s1,s2] (.tup [PLz,I e]):=by
 have h1:=q1.pur;have h2:=q2.pur;obtain⟨k11,k12,k13⟩:=q1.cell;obtain⟨k21,k22,k23⟩:=q2.cell;show Pur Tryz.prog GG 6 [.agg [I a,I b,I c],WT w.p w.q w.r w.s w.t w.u w.v,s1,s2] _;refine goQ e6 TOk.nil 0 ?_ (by simp[AV.purL,AV.pur,h1,h2]);simp(maxSteps:=2000000)only[push_cast,seval,↓kw2];refine AC.pur hA ?_;refine goN ?_;simp(maxSteps:=2000000)only[push_cast,seval,↓kw2,he];exact⟨_,rfl,zAa rfl rfl⟩
theorem best_none{a b c:Int}{w:Wnt}{s1 s2 r:AV}(q1:IsSet s1)(q2:IsSet s2)(hA:Pur Tryz.prog GG 14 [.agg [I a,I b,I c],w.av,s1,s2] (.tup [r,I 0]))(hr:IsSl r ([]:List AV)) :
  Pur Tryz.prog GG 6 [.agg [I a,I b,I c],w.av,s1,s2] (.tup [PLz,I 6]):=by
 have h1:=q1.pur;have h2:=q2.pur;have hlen:=hr.len un39;rw[List.length_nil]at hlen;show Pur Tryz.prog GG 6 [.agg [I a,I b,I c],WT w.p w.q w.r w.s w.t w.u w.v,s1,s2] _;refine goQ e6 TOk.nil 0 ?_ (by simp[AV.purL,AV.pur,h1,h2]);simp(maxSteps:=2000000)only[push_cast,seval,↓kw2];refine AC.pur hA ?_;refine goN ?_;simp(maxSteps:=2000000)only[push_cast,seval,↓kw2,hlen];exact⟨_,rfl,zAa rfl rfl⟩
theorem best_min{sc:Plc→Int}{a b c:Int}{w:Wnt}{s1 s2:AV}{F:List Plc}(q1:IsSet s1)(q2:IsSet s2)(h0:0 < F.length)(hl:F.length≤2^20)(hA:Pur Tryz.prog GG 14 [.agg [I a,I b,I c],w.av,s1,s2] (.tup [.isl (F.map Plc.av),I 0]))
  (hsc:∀ x∈F,Pur Tryz.prog GG 37 [.agg [I a,I b,I c],x.av,s1] (.tup [I (sc x),I 0])) :
  Pur Tryz.prog GG 6 [.agg [I a,I b,I c],w.av,s1,s2] (.tup [(minL (ltS a b c sc) (F.getD 0 default) (F.drop 1)).av,I 0]):=by
 have h1:=q1.pur;have h2:=q2.pur;have hlen:=(li39 (F.map Plc.av));have hn0:¬ (F.length:Int)=0:=by omega
 show Pur Tryz.prog GG 6 [.agg [I a,I b,I c],WT w.p w.q w.r w.s w.t w.u w.v,s1,s2] _;refine goQ e6 TOk.nil 0 ?_ (by simp[AV.purL,AV.pur,h1,h2]);simp(maxSteps:=2000000)only[push_cast,seval,↓kw2];refine AC.pur hA ?_;refine goN ?_;simp(maxSteps:=2000000)only[push_cast,seval,↓kw2,hlen,hn0,List.length_map];refine compare_ac q1.cell ?_;refine goN ?_;simp(maxSteps:=2000000)only[push_cast,seval,↓kw2,List.length_cons,List.length_nil];refine min_ac q1.cell h0 hl (D:=3) (F:=7) (M:=6) (S:=4) (mi:=5) rfl rfl rfl rfl ⟨[],0,rfl,fun e he=>by simp at he⟩ hsc ?_
 intro H' hh
 have m2:=hh 2 _ (by decide) rfl;have hcy:=Plc.cells (minL (ltS a b c sc) (F.getD 0 default) (F.drop 1))
 generalize minL (ltS a b c sc) (F.getD 0 default) (F.drop 1)=y at hcy
 show FW _ _ _ _ _ (upd _ 34 (PL y.x y.y y.z y.p y.q y.r y.s y.t y.u)) _ _;have gs:∀ X,(H'.set 2 X)[2]?=some X:=fun X=>List.getElem?_set_self (zAb m2)
 refine goN ?_;simp(maxSteps:=2000000)only[push_cast,seval,↓kw2,m2,gs];exact⟨_,rfl,zAa rfl rfl⟩
end Go.Ab.Pd
