/- A text of this claim. -/
import Derived.Test.YtplmblgihfogjaaGreatDoorEv34
set_option maxHeartbeats 40000000
set_option maxRecDepth 400000
set_option linter.all false
namespace Go.Ab.Pd
open Go.Proofs
open Go.Proofs.Tryz renaming prog->zP
theorem orW_nat{w k:Int}(hw:inU w)(hk:0<=k):orW w k=((w.toNat ||| 2^(k % 64).toNat:Nat):Int):=by
 have hm:k.tmod 64=k % 64:=Int.tmod_eq_emod_of_nonneg hk;have hj:(k % 64).toNat < 64:=by omega
 have hp:2^(k % 64).toNat < 2^64:=Nat.pow_lt_pow_right (by decide) hj;have hpi:inU (((2^(k % 64).toNat:Nat)):Int):=nU hp;unfold orW;rw[hm,show min (k % 64).toNat IntKind.u64.bits=(k % 64).toNat from Nat.min_eq_left (by rw[show IntKind.u64.bits=64 from rfl]; omega),Int.one_mul];rw[show((2:Int)^(k % 64).toNat)=((2^(k % 64).toNat:Nat):Int) by rw[Int.natCast_pow]; rfl,wrapU hpi];rw[BitVec.toNat_or,toNat_U hw,toNat_U hpi,Int.toNat_natCast];refine wrapU ⟨by omega,?_⟩;have h:=Nat.or_lt_two_pow (x:=w.toNat) (y:=2^(k % 64).toNat) (n:=64) (lt_U hw) hp
 exact_mod_cast h
def zAy(ws:List Int)(m:Nat):Bool:=(ws.getD (m / 64) 0).toNat.testBit (m % 64)
theorem zFj{ws:List Int}(h:∀ w∈ws,inU w)(i:Nat):inU (ws.getD i 0):=by
 by_cases hi:i < ws.length
 ·have:ws.getD i 0=ws[i]:=by simp[List.getD,hi]
  rw[this]; exact h _ (List.getElem_mem hi)
 ·have:ws.getD i 0=0:=by simp[List.getD,List.getElem?_eq_none (by omega:ws.length<=i)]
  rw[this]; exact inU_0
theorem zEc{ws:List Int}{m:Nat}(h:ws.length<=m / 64):zAy ws m=false:=by
 unfold zAy;rw[show ws.getD (m / 64) 0=0 by simp[List.getD,List.getElem?_eq_none h]];simp
theorem bitAt_0(n m:Nat):zAy (List.replicate n 0) m=false:=by
 unfold zAy;have:(List.replicate n (0:Int)).getD (m / 64) 0=0:=by
  simp only[List.getD,List.getElem?_replicate]
  split <;> rfl
 rw[this]; simp
theorem setW_bit{ws:List Int}(h:∀ w∈ws,inU w){k:Int}(h0:0<=k)(h1:k.toNat / 64 < ws.length)(m:Nat):zAy (setW ws k) m=(zAy ws m||decide (k=(m:Int))):=by
 have hi:(k.tdiv 64).toNat=k.toNat / 64:=by rw[Int.tdiv_eq_ediv_of_nonneg h0]; omega
 unfold zAy setW;rw[hi]
 by_cases hm:m / 64=k.toNat / 64
 ·rw[hm];have e:(ws.set (k.toNat / 64) (orW (ws.getD (k.toNat / 64) 0) k)).getD (k.toNat / 64) 0=orW (ws.getD (k.toNat / 64) 0) k:=by simp[List.getD,h1]
  rw[e,orW_nat (zFj h _) h0,Int.toNat_natCast,Nat.testBit_or,Nat.testBit_two_pow]
  congr 1
  exact decide_eq_decide.2 (by omega)
 ·have e:(ws.set (k.toNat / 64) (orW (ws.getD (k.toNat / 64) 0) k)).getD (m / 64) 0=ws.getD (m / 64) 0:=by
   rw[List.getD_eq_getElem?_getD,zQ (Ne.symm hm),<- List.getD_eq_getElem?_getD]
  rw[e,zF (by omega),Bool.or_false]
theorem fold_bit:∀(l:List Int) {ws:List Int},(∀ w∈ws,inU w)->(∀ k∈l,0<=k/\k.toNat / 64 < ws.length)->∀ m:Nat,zAy (l.foldl setW ws) m=(zAy ws m||decide ((m:Int)∈l))
 | [],ws,_,_,m=>by simp
 | k::l,ws,hw,hl,m=>by
  obtain⟨h0,h1⟩:=hl k (by simp);rw[List.foldl_cons,fold_bit l (setW_inU hw k) (fun x hx=>by rw[setW_length]; exact hl x (by simp[hx])),setW_bit hw h0 h1,Bool.or_assoc]
  congr 1
  rw[Bool.eq_iff_iff];simp only[Bool.or_eq_true,decide_eq_true_eq,List.mem_cons]
  constructor
  ·rintro(h | h)
   ·exact .inl h.symm
   ·exact .inr h
  ·rintro(h | h)
   ·exact .inl h.symm
   ·exact .inr h
theorem zEb{n:Int}(hn:1<=n/\n<=12288){l:List Int}(hl:∀ k∈l,0<=k/\k < n)(m:Nat):zAy (ofL n l) m=decide ((m:Int)∈l):=by
 have hw:zBe n=(n+63) / 64:=by rw[zBe,if_pos hn]
 unfold ofL;rw[fold_bit l (fun w hw=>by rw[List.eq_of_mem_replicate hw]; exact inU_0) (fun k hk=>by
  obtain⟨h1,h2⟩:=hl k hk;rw[List.length_replicate]; omega),bitAt_0,Bool.false_or]
theorem and_bit{xs ys:List Int}(hx:∀ w∈xs,inU w)(hy:∀ w∈ys,inU w)(hl:xs.length=ys.length)(m:Nat):zAy (List.zipWith andW xs ys) m=(zAy xs m&&zAy ys m):=by
 by_cases h:m / 64 < xs.length
 ·have e:(List.zipWith andW xs ys).getD (m / 64) 0=andW (xs.getD (m / 64) 0) (ys.getD (m / 64) 0):=by
   simp[List.getD,List.getElem?_zipWith,h,(by omega:m / 64 < ys.length)]
  unfold zAy;rw[e,andW_nat (zFj hx _) (zFj hy _),Int.toNat_natCast,Nat.testBit_and]
 ·rw[zEc (by rw[List.length_zipWith]; omega),zEc (ws:=xs) (by omega),Bool.false_and]
theorem zBt{n:Int}{ws:List Int}(hw:∀ w∈ws,inU w):schk n ws=0 ↔ (1<=n/\n<=12288)/\(ws.length:Int)=(n+63) / 64/\∀ m:Nat,n<=(m:Int)->zAy ws m=false:=by
 constructor
 ·intro h
  have hn:1<=n/\n<=12288:=by
   by_cases hn:1<=n/\n<=12288
   ·exact hn
   ·rw[schk,zBe,if_neg hn,if_pos (by decide)]at h;omega
  have hwv:zBe n=(n+63) / 64:=by rw[zBe,if_pos hn]
  rw[schk,if_neg (by omega),hwv]at h
  by_cases h2:(ws.length:Int)=(n+63) / 64/\(0 < n % 64->(ws.getD ((n+63) / 64 - 1).toNat 0).fdiv (2^(n % 64).toNat)=0)
  ·refine⟨hn,h2.1,fun m hm=>?_⟩
   by_cases hi:m / 64 < ws.length
   ·have e1:0 < n % 64:=by omega
    have e2:m / 64=((n+63) / 64 - 1).toNat:=by omega
    have hu:=zFj hw (m / 64);have h3:=h2.2 e1;rw[<- e2]at h3;unfold zAy
    generalize ws.getD (m / 64) 0=w at hu h3
    refine Nat.testBit_lt_two_pow ?_;have hlt:w.toNat < 2^(n % 64).toNat:=by
     rw[Int.fdiv_eq_ediv_of_nonneg _ (by exact_mod_cast Nat.zero_le _)]at h3;have h4:=Int.emod_add_mul_ediv w (2^(n % 64).toNat);have h5:=Int.emod_lt_of_pos w (b:=2^(n % 64).toNat) (by exact_mod_cast Nat.two_pow_pos _);rw[h3,Int.mul_zero,Int.add_zero]at h4;rw[h4]at h5;have:w=(w.toNat:Int):=by unfold inU at hu; omega
     rw[this]at h5
     exact_mod_cast h5
    exact Nat.lt_of_lt_of_le hlt (Nat.pow_le_pow_right (by decide) (by omega))
   ·exact zEc (by omega)
  ·rw[if_neg h2]at h;omega
 ·rintro⟨hn,hl,hb⟩
  have hwv:zBe n=(n+63) / 64:=by rw[zBe,if_pos hn]
  rw[schk,if_neg (by omega),hwv,if_pos];refine⟨hl,fun h=>?_⟩;have hu:=zFj hw ((n+63) / 64 - 1).toNat;have hlt:(ws.getD ((n+63) / 64 - 1).toNat 0).toNat < 2^(n % 64).toNat:=Nat.lt_pow_two_of_testBit _ fun j hj=>by
   by_cases h64:j < 64
   ·have:=hb (64*((n+63) / 64 - 1).toNat+j) (by omega);unfold zAy at this;rw[show(64*((n+63) / 64 - 1).toNat+j) / 64=((n+63) / 64 - 1).toNat by omega,show(64*((n+63) / 64 - 1).toNat+j) % 64=j by omega]at this;exact this
   ·exact Nat.testBit_lt_two_pow (Nat.lt_of_lt_of_le (lt_U hu) (Nat.pow_le_pow_right (by decide) (by omega)))
  generalize ws.getD ((n+63) / 64 - 1).toNat 0=w at hu hlt
  rw[Int.fdiv_eq_ediv_of_nonneg _ (by exact_mod_cast Nat.zero_le _)];refine Int.ediv_eq_zero_of_lt hu.1 ?_;have:w=(w.toNat:Int):=by unfold inU at hu; omega
  rw[this]
  exact_mod_cast hlt
theorem zCa{n:Int}(hn:1<=n/\n<=12288){l:List Int}(hl:∀ k∈l,0<=k/\k < n):schk n (ofL n l)=0:=by
 refine(zBt (zAt n l)).2 ⟨hn,?_,fun m hm=>?_⟩
 ·rw[zCj,zBe,if_pos hn]; omega
 ·rw[zEb hn hl];exact zF fun h=>by have:=hl _ h; omega
theorem schk_and{n:Int}{xs ys:List Int}(hx:∀ w∈xs,inU w)(hy:∀ w∈ys,inU w)(h1:schk n xs=0)(h2:schk n ys=0):schk n (List.zipWith andW xs ys)=0:=by
 obtain⟨hn,l1,b1⟩:=(zBt hx).1 h1;obtain⟨_,l2,b2⟩:=(zBt hy).1 h2;refine(zBt (zCo andW_inU xs ys)).2 ⟨hn,by rw[List.length_zipWith]; omega,fun m hm=>?_⟩;rw[and_bit hx hy (by omega),b1 m hm,Bool.false_and]
theorem onesV_is{w:Int}(h:inU w):onesV w=(On.ones w.toNat:Int):=(Classical.choose_spec (ones_ex w)).2 h
theorem many_fold:∀ {ws:List Int} {acc:Int},(∀ w∈ws,inU w)->0<=acc->acc+64*ws.length<=2^40->ws.foldl addV acc=acc+((ws.map fun w=>On.ones w.toNat).sum:Nat)/\((ws.map fun w=>On.ones w.toNat).sum:Nat)<=64*ws.length
 | [],acc,_,_,_=>by simp
 | w::ws,acc,h,h0,h1=>by
  have hw:=h w (by simp);obtain⟨_,_,o1,_⟩:=On.ones_sum (lt_U hw);rw[List.length_cons]at h1;have e:addV acc w=acc+(On.ones w.toNat:Int):=by
   unfold addV;rw[onesV_is hw];exact zAl (by omega) (by omega)
  obtain⟨k1,k2⟩:=many_fold (ws:=ws) (acc:=addV acc w) (fun x hx=>h x (by simp[hx])) (by rw[e]; omega) (by rw[e]; omega);rw[List.foldl_cons,k1,e,List.map_cons,List.sum_cons,List.length_cons];omega
theorem sum_0:∀ {l:List Nat},l.sum=0 ↔ ∀ x∈l,x=0
 | []=>by simp
 | x::l=>by rw[List.sum_cons]; have:=sum_0 (l:=l); simp only[List.mem_cons,forall_eq_or_imp,<- this]; omega
theorem zero_bits{ws:List Int}(h:∀ w∈ws,inU w):(∀ w∈ws,w=0) ↔ ∀ m,zAy ws m=false:=by
 constructor
 ·intro h0 m
  unfold zAy
  by_cases hi:m / 64 < ws.length
  ·have:ws.getD (m / 64) 0=ws[m / 64]:=by simp[List.getD,hi]
   rw[this,h0 _ (List.getElem_mem hi)]; simp
  ·exact zEc (by omega)
 ·intro hb w hw
  obtain⟨i,hi,rfl⟩:=List.getElem_of_mem hw;have hu:=h _ hw;have h1:∀ j,(ws[i]).toNat.testBit j=false:=fun j=>by
   by_cases hj:j < 64
   ·have:=hb (64*i+j);unfold zAy at this;rw[show(64*i+j) / 64=i by omega,show(64*i+j) % 64=j by omega,show ws.getD i 0=ws[i] by simp[List.getD,hi]]at this;exact this
   ·exact Nat.testBit_lt_two_pow (Nat.lt_of_lt_of_le (lt_U hu) (Nat.pow_le_pow_right (by decide) (by omega)))
  have h2:(ws[i]).toNat=0:=Nat.eq_of_testBit_eq fun j=>by rw[h1]; simp
  unfold inU at hu;omega
theorem manyW_bits{ws:List Int}(h:∀ w∈ws,inU w)(hl:ws.length<=2^16):(0<=manyW ws/\manyW ws<=2^22)/\(manyW ws=0 ↔ ∀ m,zAy ws m=false):=by
 obtain⟨e,le⟩:=many_fold (acc:=0) h (by omega) (by omega);rw[Int.zero_add]at e;refine⟨by unfold manyW; omega,?_⟩;have hz:manyW ws=0 ↔ ∀ w∈ws,w=0:=by
  unfold manyW;rw[e]
  constructor
  ·intro h0 w hw
   have h1:(ws.map fun w=>On.ones w.toNat).sum=0:=by omega
   have h2:=sum_0.1 h1 _ (List.mem_map.2 ⟨w,hw,rfl⟩);have hu:=h w hw;obtain⟨_,_,_,o2,_⟩:=On.ones_sum (lt_U hu);have:=o2 h2;unfold inU at hu;omega
  ·intro h0
   have h1:(ws.map fun w=>On.ones w.toNat).sum=0:=sum_0.2 fun x hx=>by
    obtain⟨w,hw,rfl⟩:=List.mem_map.1 hx;rw[h0 w hw]; exact On.ones_0
   omega
 rw[hz,zero_bits h]
theorem apart_bits{n:Int}(hn:1<=n/\n<=12288){l:List Int}(hl:∀ k∈l,0<=k/\k < n){xs:List Int}(hx:∀ w∈xs,inU w)(hc:schk n xs=0) :
  (0<=manyW (List.zipWith andW (ofL n l) xs)/\manyW (List.zipWith andW (ofL n l) xs)<=2^22)/\(manyW (List.zipWith andW (ofL n l) xs)=0 ↔ ∀ k∈l,zAy xs k.toNat=false):=by
 obtain⟨_,lx,_⟩:=(zBt hx).1 hc;have lo:=zCj n l;have hw:zBe n=(n+63) / 64:=by rw[zBe,if_pos hn]
 obtain⟨h1,h2⟩:=manyW_bits (zCo andW_inU (ofL n l) xs) (by rw[List.length_zipWith]; omega);refine⟨h1,h2.trans ⟨fun h k hk=>?_,fun h m=>?_⟩⟩
 ·obtain⟨k0,k1⟩:=hl k hk;have:=h k.toNat;rw[and_bit (zAt n l) hx (by omega),zEb hn hl,show((k.toNat:Nat):Int)=k by omega,zT hk,Bool.true_and]at this;exact this
 ·rw[and_bit (zAt n l) hx (by omega),zEb hn hl]
  by_cases hm:(m:Int)∈l
  ·rw[zT hm,Bool.true_and];have:=h _ hm
   rwa [Int.toNat_natCast]at this
  ·rw[zF hm,Bool.false_and]
def holdV(a b c:Int)(xs ys:List Int)(x:Plc):Bool:=(zAo a b c x.x x.y x.z x.p x.q x.r).all (fun k=>!zAy xs k.toNat)&&(zBh a b c x.x x.y x.z x.p x.q x.r x.s x.t x.u).all (fun k=>!zAy ys k.toNat)
theorem holds_is{a b c:Int}{xs ys:List Int}(hx:∀ w∈xs,inU w)(hy:∀ w∈ys,inU w)(c1:schk (zAf a b c) xs=0)(c2:schk (3*zAf a b c) ys=0)(P0:Plc)(hk:P0.ok a b c) :
  Pur zP GG 111 [.agg [I a,I b,I c],P0.av,.isl (xs.map U),.isl (ys.map U)] (.tup [B (holdV a b c xs ys P0),I 0]):=by
 obtain⟨x,y,z,p,q,r,s,t,u⟩:=P0;have hd:=hk.1;have hb:=hk.2.1;have hmu:=zBx hd;have hmv:zAf a b c=a*b*c:=by rw[zAf,if_pos hd]
 have hn:0<=zAf a b c/\zAf a b c<=4096:=by omega
 obtain⟨hN1,lx,_⟩:=(zBt hx).1 c1;obtain⟨hN2,ly,_⟩:=(zBt hy).1 c2;have wv1:zBe (zAf a b c)=(zAf a b c+63) / 64:=by rw[zBe,if_pos (by omega)]
 have wv2:zBe (3*zAf a b c)=(3*zAf a b c+63) / 64:=by rw[zBe,if_pos (by omega)]
 have q1:IsSet (.isl (xs.map U)):=.isl hx;have q2:IsSet (.isl (ys.map U)):=.isl hy;have p1:=zBl (zAf a b c) xs;have p2:=zBl (3*zAf a b c) ys;rw[c1]at p1;rw[c2]at p2;have hfs:=fsets_pur q1 q2 hn p1 p2;have hlo:∀ k∈srt (zAo a b c x y z p q r),0<=k/\k < zAf a b c:=fun k hk=>by rw[hmv]; exact(zDc hd hb (srt_mem.1 hk)).2
 have hll:∀ k∈zBh a b c x y z p q r s t u,0<=k/\k < 3*zAf a b c:=fun k hk=>by rw[hmv]; exact zDx hd hb k hk
 have io:=zAt (zAf a b c) (srt (zAo a b c x y z p q r));have il:=zAt (3*zAf a b c) (zBh a b c x y z p q r s t u);have lo:=zCj (zAf a b c) (srt (zAo a b c x y z p q r));have ll:=zCj (3*zAf a b c) (zBh a b c x y z p q r s t u);have so:=zCa hN1 hlo;have sl:=zCa hN2 hll;have co1:=zBl (zAf a b c) (ofL (zAf a b c) (srt (zAo a b c x y z p q r)));have co2:=zBl (3*zAf a b c) (ofL (3*zAf a b c) (zBh a b c x y z p q r s t u));rw[so]at co1;rw[sl]at co2;have pa1:=and_ok (zAf a b c) io hx (by omega) (by omega) (by omega) co1 p1;have pa2:=and_ok (3*zAf a b c) il hy (by omega) (by omega) (by omega) co2 p2;have cz1:=zBl (zAf a b c) (List.zipWith andW (ofL (zAf a b c) (srt (zAo a b c x y z p q r))) xs);have cz2:=zBl (3*zAf a b c) (List.zipWith andW (ofL (3*zAf a b c) (zBh a b c x y z p q r s t u)) ys);rw[schk_and io hx so c1]at cz1;rw[schk_and il hy sl c2]at cz2;have pm1:=smany_ok (zAf a b c) (by rw[List.length_zipWith]; omega) cz1;have pm2:=smany_ok (3*zAf a b c) (by rw[List.length_zipWith]; omega) cz2;obtain⟨n1,m1⟩:=apart_bits hN1 hlo hx c1;obtain⟨n2,m2⟩:=apart_bits hN2 hll hy c2;have w3:=zAl (n:=3*zAf a b c) (by omega) (by omega);have h1:=q1.pur;have h2:=q2.pur;obtain⟨c11,c12,c13⟩:=q1.cell;obtain⟨c21,c22,c23⟩:=q2.cell;rw[if_pos ⟨rfl,rfl⟩]at hfs;have hV:holdV a b c xs ys ⟨x,y,z,p,q,r,s,t,u⟩=decide (IntKind.i64.wrap (manyW (List.zipWith andW (ofL (zAf a b c) (srt (zAo a b c x y z p q r))) xs)+manyW (List.zipWith andW (ofL (3*zAf a b c) (zBh a b c x y z p q r s t u)) ys))=0):=by
  rw[zAl (by omega) (by omega),Bool.eq_iff_iff,decide_eq_true_eq,holdV];simp only[zA,List.all_eq_true,Bool.not_eq_true']
  constructor
  ·rintro⟨k1,k2⟩
   rw[m1.2 fun k hk=>k1 k (srt_mem.1 hk),m2.2 k2]; rfl
  ·intro h0
   exact⟨fun k hk=>m1.1 (by omega) k (srt_mem.2 hk),m2.1 (by omega)⟩
 rw[hV];have hk':okPl a b c x y z p q r s t u:=hk;show Pur zP GG 111 [.agg [I a,I b,I c],PL x y z p q r s t u,.isl (xs.map U),.isl (ys.map U)] _
 generalize manyW (List.zipWith andW (ofL (zAf a b c) (srt (zAo a b c x y z p q r))) xs)=M1 at pm1
 generalize manyW (List.zipWith andW (ofL (3*zAf a b c) (zBh a b c x y z p q r s t u)) ys)=M2 at pm2
 refine goQ e111 zCk 0 ?_ (by simp[AV.purL,AV.pur,h1,h2]);simp only[push_cast,seval,↓kw2,hk'];refine AC.pur hfs ?_;refine goW zCk [] 0 ?_;simp only[push_cast,seval,↓kw2];refine both_ac hn pa1 pa2 ?_;refine goW zCk [] 0 ?_;simp only[push_cast,seval,↓kw2];refine AC.pur pm1 ?_;refine goW zCk [] 0 ?_;simp only[push_cast,seval,↓kw2,w3];refine AC.pur pm2 ?_;refine goW zCk [] 0 ?_;simp only[push_cast,seval,↓kw2];exact⟨_,rfl,zAa rfl rfl⟩
theorem e64:Ent zP 64 Tryz.f64 [] 1:=.mk Tryz.func64 rfl
theorem meet1_pur(w:Int):Pur zP GG 64 [U w] (B (!decide (w=0))):=by
 refine goQ e64 TOk.nil 0 ?_;simp only[push_cast,seval,↓kw2];exact⟨_,rfl,zAa rfl rfl⟩
theorem getD_lt{l:List Int}{i:Nat}(h:i < l.length):l.getD i 0=l[i]:=by simp[List.getD,h]
def meetV(xs ys:List Int):Bool:=anyN (fun i=>!decide ((List.zipWith andW xs ys).getD i 0=0)) (List.zipWith andW xs ys).length 0
theorem meetV_bits{xs ys:List Int}(hx:∀ w∈xs,inU w)(hy:∀ w∈ys,inU w)(hl:xs.length=ys.length)(h16:xs.length<=2^16):meetV xs ys=false ↔ ∀ m,¬(zAy xs m=true/\zAy ys m=true):=by
 have iz:=zCo andW_inU xs ys;have hz:meetV xs ys=false ↔ ∀ w∈List.zipWith andW xs ys,w=0:=by
  unfold meetV;rw[Bool.eq_false_iff,Ne,anyN_iff]
  constructor
  ·intro h w hw
   obtain⟨i,hi,rfl⟩:=List.getElem_of_mem hw
   by_cases h0:(List.zipWith andW xs ys)[i]=0
   ·exact h0
   ·exact absurd ⟨i,by omega,by omega,by rw[getD_lt hi,zF h0]; rfl⟩ h
  ·rintro h ⟨j,_,hj,hp⟩
   have hjl:j < (List.zipWith andW xs ys).length:=by omega
   rw[getD_lt hjl,h _ (List.getElem_mem hjl)]at hp;simp at hp
 rw[hz,zero_bits iz]
 constructor
 ·rintro h m ⟨h1,h2⟩
  have:=h m;rw[and_bit hx hy hl,h1,h2]at this;cases this
 ·intro h m
  rw[and_bit hx hy hl];cases h1:zAy xs m
  ·rfl
  ·cases h2:zAy ys m
   ·rfl
   ·exact absurd ⟨h1,h2⟩ (h m)
theorem e33:Ent zP 33 Tryz.f33 [] 3:=.mk Tryz.func33 rfl
theorem meet_pur{n:Int}{xs ys:List Int}(hx:∀ w∈xs,inU w)(hy:∀ w∈ys,inU w)(c1:schk n xs=0)(c2:schk n ys=0):Pur zP GG 33 [I n,.isl (xs.map U),.isl (ys.map U)] (.tup [B (meetV xs ys),I 0]):=by
 obtain⟨hn,lx,_⟩:=(zBt hx).1 c1;obtain⟨_,ly,_⟩:=(zBt hy).1 c2;have p1:=zBl n xs;have p2:=zBl n ys;rw[c1]at p1;rw[c2]at p2;have hA:=and_ok n hx hy (by omega) (by omega) (by omega) p1 p2;have h1:=(IsSet.isl hx).pur;have h2:=(IsSet.isl hy).pur;refine goQ e33 TOk.nil 0 ?_ (by simp[AV.purL,AV.pur,h1,h2]);simp only[push_cast,seval,↓kw2];refine AC.pur hA ?_;refine goN ?_;simp only[push_cast,seval,↓kw2];refine hasU (l:=List.zipWith andW xs ys) (.inl rfl) (by rw[List.length_zipWith]; omega) (fun _ H=>H=[]) (pr:=fun i=>!decide ((List.zipWith andW xs ys).getD i 0=0)) ?_ rfl ?_
 ·rintro i H K hi rfl hK
  exact AC.pur (meet1_pur _) (hK _ rfl)
 rintro H' ⟨_,_,rfl⟩
 refine goN ?_;simp only[push_cast,seval,↓kw2];exact⟨_,rfl,zAa rfl rfl⟩
def zEu(a b c:Int)(X Y:Plc):Bool:=(zAo a b c X.x X.y X.z X.p X.q X.r).all (fun k=>!decide (k∈zAo a b c Y.x Y.y Y.z Y.p Y.q Y.r))&&(zBh a b c X.x X.y X.z X.p X.q X.r X.s X.t X.u).all (fun k=>!decide (k∈zBh a b c Y.x Y.y Y.z Y.p Y.q Y.r Y.s Y.t Y.u))
theorem meet_ofL{n:Int}(hn:1<=n/\n<=12288){k l:List Int}(hk:∀ i∈k,0<=i/\i < n)(hl:∀ i∈l,0<=i/\i < n):meetV (ofL n k) (ofL n l)=!(k.all fun i=>!decide (i∈l)):=by
 have hw:zBe n=(n+63) / 64:=by rw[zBe,if_pos hn]
 have hb:=meetV_bits (zAt n k) (zAt n l) (by rw[zCj,zCj]) (by rw[zCj]; omega);have he:(∀ m,¬(zAy (ofL n k) m=true/\zAy (ofL n l) m=true)) ↔ (k.all fun i=>!decide (i∈l))=true:=by
  rw[List.all_eq_true]
  constructor
  ·intro h i hi
   have h0:=(hk i hi).1;have:=h i.toNat;rw[zEb hn hk,zEb hn hl,show((i.toNat:Nat):Int)=i by omega]at this;simp only[decide_eq_true_eq,not_and]at this;simp[this hi]
  ·rintro h m ⟨h1,h2⟩
   rw[zEb hn hk,decide_eq_true_eq]at h1;rw[zEb hn hl,decide_eq_true_eq]at h2;have:=h _ h1;simp[h2]at this
 cases hm:meetV (ofL n k) (ofL n l)
 ·rw[he.1 (hb.1 hm)]; rfl
 ·cases ha:(k.all fun i=>!decide (i∈l))
  ·rfl
  ·rw[hb.2 (he.2 ha)]at hm; cases hm
theorem e135:Ent zP 135 Tryz.f135 [] 3:=.mk Tryz.func135 rfl
def apE(a b c:Int)(X Y:Plc):Int:=if X.ok a b c then pchk a b c Y.x Y.y Y.z Y.p Y.q Y.r Y.s Y.t Y.u else pchk a b c X.x X.y X.z X.p X.q X.r X.s X.t X.u
theorem apart_pur(a b c:Int)(X Y:Plc):Pur zP GG 135 [.agg [I a,I b,I c],X.av,Y.av] (.tup [B (if X.ok a b c/\Y.ok a b c then zEu a b c X Y else false),I (apE a b c X Y)]):=by
 obtain⟨x,y,z,p,q,r,s,t,u⟩:=X;obtain⟨x',y',z',p',q',r',s',t',u'⟩:=Y;show Pur zP GG 135 [.agg [I a,I b,I c],PL x y z p q r s t u,PL x' y' z' p' q' r' s' t' u'] _;unfold apE
 by_cases h1:okPl a b c x y z p q r s t u
 ·rw[if_pos (show Plc.ok a b c ⟨x,y,z,p,q,r,s,t,u⟩ from h1)]
  by_cases h2:okPl a b c x' y' z' p' q' r' s' t' u'
  ·rw[if_pos ⟨h1,h2⟩];simp only;rw[okPl_pchk h2];have hd:=h1.1;have hmu:=zBx hd;have hmv:zAf a b c=a*b*c:=by rw[zAf,if_pos hd]
   have hN:1<=zAf a b c/\zAf a b c<=4096:=by
    have hd':=hd;unfold okD at hd';have:0 < a*b*c:=Int.mul_pos (Int.mul_pos (by omega) (by omega)) (by omega);omega
   have hn1:∀ k∈srt (zAo a b c x y z p q r),0<=k/\k < zAf a b c:=fun k hk=>by rw[hmv]; exact(zDc hd h1.2.1 (srt_mem.1 hk)).2
   have hn2:∀ k∈srt (zAo a b c x' y' z' p' q' r'),0<=k/\k < zAf a b c:=fun k hk=>by rw[hmv]; exact(zDc hd h2.2.1 (srt_mem.1 hk)).2
   have hl1:∀ k∈zBh a b c x y z p q r s t u,0<=k/\k < 3*zAf a b c:=fun k hk=>by rw[hmv]; exact zDx hd h1.2.1 k hk
   have hl2:∀ k∈zBh a b c x' y' z' p' q' r' s' t' u',0<=k/\k < 3*zAf a b c:=fun k hk=>by rw[hmv]; exact zDx hd h2.2.1 k hk
   have w3:=zAl (n:=3*zAf a b c) (by omega) (by omega);have m1:=meet_pur (zAt _ _) (zAt _ _) (zCa (n:=zAf a b c) (by omega) hn1) (zCa (n:=zAf a b c) (by omega) hn2);have m2:=meet_pur (zAt _ _) (zAt _ _) (zCa (n:=3*zAf a b c) (by omega) hl1) (zCa (n:=3*zAf a b c) (by omega) hl2);rw[meet_ofL (by omega) hn1 hn2]at m1;rw[meet_ofL (by omega) hl1 hl2]at m2;have e1:((srt (zAo a b c x y z p q r)).all fun i=>!decide (i∈srt (zAo a b c x' y' z' p' q' r')))=((zAo a b c x y z p q r).all fun i=>!decide (i∈zAo a b c x' y' z' p' q' r')):=by
    rw[Bool.eq_iff_iff,List.all_eq_true,List.all_eq_true]
    constructor
    ·intro h k hk
     have:=h k (srt_mem.2 hk);simpa[srt_mem]using this
    ·intro h k hk
     have:=h k (srt_mem.1 hk);simpa[srt_mem]using this
   rw[e1]at m1;have hV:zEu a b c ⟨x,y,z,p,q,r,s,t,u⟩ ⟨x',y',z',p',q',r',s',t',u'⟩=(((zAo a b c x y z p q r).all fun i=>!decide (i∈zAo a b c x' y' z' p' q' r'))&&((zBh a b c x y z p q r s t u).all fun i=>!decide (i∈zBh a b c x' y' z' p' q' r' s' t' u'))):=rfl;rw[hV]
   generalize ((zAo a b c x y z p q r).all fun i=>!decide (i∈zAo a b c x' y' z' p' q' r'))=g1 at m1
   generalize ((zBh a b c x y z p q r s t u).all fun i=>!decide (i∈zBh a b c x' y' z' p' q' r' s' t' u'))=g2 at m2
   cases g1 <;> cases g2
   all_goals
    refine goQ e135 zCk 0 ?_;simp only[push_cast,seval,↓kw2,h1,h2];refine AC.pur m1 ?_;refine goW zCk [] 0 ?_;simp only[push_cast,seval,↓kw2,w3];refine AC.pur m2 ?_;refine goW zCk [] 0 ?_;simp only[push_cast,seval,↓kw2];exact⟨_,rfl,zAa rfl rfl⟩
  ·have hp2:=nok_pchk (x:=⟨x',y',z',p',q',r',s',t',u'⟩) h2;rw[if_neg (fun h=>h2 h.2)];refine goQ e135 T21_ok 0 ?_;simp only[push_cast,seval,↓kw2];refine AC.pur (sets_pur _ _ _ _ _ _ _ _ _ _ _ _ h1) ?_;refine goW T21_ok [] 0 ?_;simp only[push_cast,seval,↓kw2];refine AC.pur (setsN_pur _ _ _ _ _ _ _ _ _ _ _ _ hp2) ?_;simp only at hp2;refine goW T21_ok [] 0 ?_;simp only[push_cast,seval,↓kw2,hp2];exact⟨_,rfl,zAa rfl rfl⟩
 ·have hp1:=nok_pchk (x:=⟨x,y,z,p,q,r,s,t,u⟩) h1;rw[if_neg (show ¬Plc.ok a b c ⟨x,y,z,p,q,r,s,t,u⟩ from h1),if_neg (fun h=>h1 h.1)];refine goQ e135 T21_ok 0 ?_;simp only[push_cast,seval,↓kw2];refine AC.pur (setsN_pur _ _ _ _ _ _ _ _ _ _ _ _ hp1) ?_;simp only at hp1;refine goW T21_ok [] 0 ?_;simp only[push_cast,seval,↓kw2,hp1];exact⟨_,rfl,zAa rfl rfl⟩
def inS(n:Int)(ws:List Int)(k:Int):Bool:=decide (0<=k/\k < n)&&zAy ws k.toNat
theorem has_is{n:Int}{ws:List Int}(hw:∀ w∈ws,inU w)(hc:schk n ws=0)(k:Int):Pur zP GG 151 [I n,.isl (ws.map U),I k] (.tup [B (inS n ws k),I 0]):=by
 obtain⟨hn,lw,_⟩:=(zBt hw).1 hc;have p:=zBl n ws;rw[hc]at p;unfold inS
 by_cases h0:0<=k
 ·by_cases h1:k < n
  ·have hq0:k.tdiv 64=k / 64:=Int.tdiv_eq_ediv_of_nonneg h0;have hm0:k.tmod 64=k % 64:=Int.tmod_eq_emod_of_nonneg h0;have hkq:(k.tdiv 64).toNat < ws.length:=by omega
   have hkw:=zAl (n:=k.tdiv 64) (by omega) (by omega);have hkm:=Int.tmod_nonneg 64 h0;have hkd:=Int.tdiv_nonneg (b:=64) h0 (by decide);have hgd:=zAj U ws 0 hkq;have hgu:=zFj hw (k.tdiv 64).toNat;have d0:decide (0<=k)=true:=zT h0;have d1:decide (k < n)=true:=zT h1;rw[zT ⟨h0,h1⟩,Bool.true_and];refine goQ e151 zCi 0 ?_;simp only[push_cast,seval,↓kw2];refine AC.pur p ?_;refine goW zCi [] 0 ?_;simp only[push_cast,seval,↓kw2,d0,d1,hkw,hgd,zM];refine⟨by omega,hkm,_,rfl,zAa rfl ?_⟩;unfold zAy;rw[show k.toNat / 64=(k.tdiv 64).toNat by omega,show k.toNat % 64=(k.tmod 64).toNat by omega]
   generalize ws.getD (k.tdiv 64).toNat 0=w at hgu
   have hj:(k.tmod 64).toNat < 64:=by omega
   generalize (k.tmod 64).toNat=j at hj
   obtain⟨x,rfl⟩:∃ x:Nat,w=(x:Int):=⟨w.toNat,by unfold inU at hgu; omega⟩;have hx:x < 2^64:=by unfold inU at hgu; omega
   have hle:x / 2^j<=x:=Nat.div_le_self _ _;have a1:=andW_nat (x:=((x / 2^j:Nat):Int)) (y:=1) (nU (by omega)) ⟨by decide,by decide⟩;unfold andW at a1;rw[show min j IntKind.u64.bits=j from Nat.min_eq_left (by rw[show IntKind.u64.bits=64 from rfl]; omega),show(2:Int)^j=((2^j:Nat):Int) by rw[Int.natCast_pow]; rfl,fdiv_nat,a1,Int.toNat_natCast,Int.toNat_natCast,Nat.testBit_eq_decide_div_mod_eq,show(1:Int).toNat=1 from rfl,Nat.and_one_is_mod];have:decide (((x / 2^j % 2:Nat):Int)=1)=decide (x / 2^j % 2=1):=decide_eq_decide.2 (by omega);rw[this]
  ·have d0:decide (0<=k)=true:=zT h0;have d1:decide (k < n)=false:=zF h1;rw[zF (fun h=>h1 h.2),Bool.false_and];refine goQ e151 zCi 0 ?_;simp only[push_cast,seval,↓kw2];refine AC.pur p ?_;refine goW zCi [] 0 ?_;simp only[push_cast,seval,↓kw2,d0,d1];exact⟨_,rfl,zAa rfl rfl⟩
 ·have d0:decide (0<=k)=false:=zF h0;rw[zF (fun h=>h0 h.1),Bool.false_and];refine goQ e151 zCi 0 ?_;simp only[push_cast,seval,↓kw2];refine AC.pur p ?_;refine goW zCi [] 0 ?_;simp only[push_cast,seval,↓kw2,d0];exact⟨_,rfl,zAa rfl rfl⟩
end Go.Ab.Pd
