/- One of the texts that this claim stands on. -/
import Derived.Test.YtnfnhccebebflaaGreatEv39
set_option maxHeartbeats 40000000
set_option maxRecDepth 400000
set_option linter.all false
namespace Go.Ab.Pd
open Go.Proofs
theorem orW_nat{w k:Int}(hw:inU w)(hk:0<=k):orW w k=((w.toNat ||| 2^(k % 64).toNat:Nat):Int):=by
 have hm:k.tmod 64=k % 64:=Int.tmod_eq_emod_of_nonneg hk;have hj:(k % 64).toNat < 64:=by omega
 have hp:2^(k % 64).toNat < 2^64:=Nat.pow_lt_pow_right (by decide) hj;have hpi:inU (((2^(k % 64).toNat:Nat)):Int):=nU hp;unfold orW;rw[hm,show min (k % 64).toNat IntKind.u64.bits=(k % 64).toNat from Nat.min_eq_left (by rw[show IntKind.u64.bits=64 from rfl]; omega),Int.one_mul];rw[show((2:Int)^(k % 64).toNat)=((2^(k % 64).toNat:Nat):Int) by rw[Int.natCast_pow]; rfl,wrapU hpi];rw[BitVec.toNat_or,toNat_U hw,toNat_U hpi,Int.toNat_natCast];refine wrapU ⟨by omega,?_⟩;have h:=Nat.or_lt_two_pow (x:=w.toNat) (y:=2^(k % 64).toNat) (n:=64) (lt_U hw) hp
 exact_mod_cast h
def zBv(ws:List Int)(m:Nat):Bool:=(ws.getD (m / 64) 0).toNat.testBit (m % 64)
theorem zEi{ws:List Int}(h:∀ w∈ws,inU w)(i:Nat):inU (ws.getD i 0):=by
 by_cases hi:i < ws.length
 ·have:ws.getD i 0=ws[i]:=by simp[List.getD,hi]
  rw[this]; exact h _ (List.getElem_mem hi)
 ·have:ws.getD i 0=0:=by simp[List.getD,List.getElem?_eq_none (by omega:ws.length<=i)]
  rw[this]; exact inU_0
theorem bitAt_out{ws:List Int}{m:Nat}(h:ws.length<=m / 64):zBv ws m=false:=by
 unfold zBv;rw[show ws.getD (m / 64) 0=0 by simp[List.getD,List.getElem?_eq_none h]];simp
theorem bitAt_0(n m:Nat):zBv (List.replicate n 0) m=false:=by
 unfold zBv;have:(List.replicate n (0:Int)).getD (m / 64) 0=0:=by
  simp only[List.getD,List.getElem?_replicate]
  split <;> rfl
 rw[this]; simp
theorem setW_bit{ws:List Int}(h:∀ w∈ws,inU w){k:Int}(h0:0<=k)(h1:k.toNat / 64 < ws.length)(m:Nat):zBv (setW ws k) m=(zBv ws m||decide (k=(m:Int))):=by
 have hi:(k.tdiv 64).toNat=k.toNat / 64:=by rw[Int.tdiv_eq_ediv_of_nonneg h0]; omega
 unfold zBv setW;rw[hi]
 by_cases hm:m / 64=k.toNat / 64
 ·rw[hm];have e:(ws.set (k.toNat / 64) (orW (ws.getD (k.toNat / 64) 0) k)).getD (k.toNat / 64) 0=orW (ws.getD (k.toNat / 64) 0) k:=by simp[List.getD,h1]
  rw[e,orW_nat (zEi h _) h0,Int.toNat_natCast,Nat.testBit_or,Nat.testBit_two_pow]
  congr 1
  exact decide_eq_decide.2 (by omega)
 ·have e:(ws.set (k.toNat / 64) (orW (ws.getD (k.toNat / 64) 0) k)).getD (m / 64) 0=ws.getD (m / 64) 0:=by
   rw[List.getD_eq_getElem?_getD,zQ (Ne.symm hm),<- List.getD_eq_getElem?_getD]
  rw[e,zF (by omega),Bool.or_false]
theorem fold_bit:∀(l:List Int) {ws:List Int},(∀ w∈ws,inU w)->(∀ k∈l,0<=k/\k.toNat / 64 < ws.length)->∀ m:Nat,zBv (l.foldl setW ws) m=(zBv ws m||decide ((m:Int)∈l))
 | [],ws,_,_,m=>by simp
 | k::l,ws,hw,hl,m=>by
  obtain⟨h0,h1⟩:=hl k (by simp);rw[List.foldl_cons,fold_bit l (setW_inU hw k) (fun x hx=>by rw[setW_length]; exact hl x (by simp[hx])),setW_bit hw h0 h1,Bool.or_assoc]
  congr 1
  rw[Bool.eq_iff_iff];simp only[Bool.or_eq_true,decide_eq_true_eq,List.mem_cons]
  constructor
  ·rintro(h | h)
   ·exact .inl h.symm
   ·exact .inr h
  ·rintro(h | h)
   ·exact .inl h.symm
   ·exact .inr h
theorem zEw{n:Int}(hn:1<=n/\n<=12288){l:List Int}(hl:∀ k∈l,0<=k/\k < n)(m:Nat):zBv (ofL n l) m=decide ((m:Int)∈l):=by
 have hw:zBe n=(n+63) / 64:=by rw[zBe,if_pos hn]
 unfold ofL;rw[fold_bit l (fun w hw=>by rw[List.eq_of_mem_replicate hw]; exact inU_0) (fun k hk=>by
  obtain⟨h1,h2⟩:=hl k hk;rw[List.length_replicate]; omega),bitAt_0,Bool.false_or]
theorem and_bit{xs ys:List Int}(hx:∀ w∈xs,inU w)(hy:∀ w∈ys,inU w)(hl:xs.length=ys.length)(m:Nat):zBv (List.zipWith andW xs ys) m=(zBv xs m&&zBv ys m):=by
 by_cases h:m / 64 < xs.length
 ·have e:(List.zipWith andW xs ys).getD (m / 64) 0=andW (xs.getD (m / 64) 0) (ys.getD (m / 64) 0):=by
   simp[List.getD,List.getElem?_zipWith,h,(by omega:m / 64 < ys.length)]
  unfold zBv;rw[e,andW_nat (zEi hx _) (zEi hy _),Int.toNat_natCast,Nat.testBit_and]
 ·rw[bitAt_out (by rw[List.length_zipWith]; omega),bitAt_out (ws:=xs) (by omega),Bool.false_and]
theorem schk_bits{n:Int}{ws:List Int}(hw:∀ w∈ws,inU w):schk n ws=0 ↔ (1<=n/\n<=12288)/\(ws.length:Int)=(n+63) / 64/\∀ m:Nat,n<=(m:Int)->zBv ws m=false:=by
 constructor
 ·intro h
  have hn:1<=n/\n<=12288:=by
   by_cases hn:1<=n/\n<=12288
   ·exact hn
   ·rw[schk,zBe,if_neg hn,if_pos (by decide)]at h;omega
  have hwv:zBe n=(n+63) / 64:=by rw[zBe,if_pos hn]
  rw[schk,if_neg (by omega),hwv]at h
  by_cases h2:(ws.length:Int)=(n+63) / 64/\(0 < n % 64->(ws.getD ((n+63) / 64 - 1).toNat 0).fdiv (2^(n % 64).toNat)=0)
  ·refine⟨hn,h2.1,fun m hm=>?_⟩
   by_cases hi:m / 64 < ws.length
   ·have e1:0 < n % 64:=by omega
    have e2:m / 64=((n+63) / 64 - 1).toNat:=by omega
    have hu:=zEi hw (m / 64);have h3:=h2.2 e1;rw[<- e2]at h3;unfold zBv
    generalize ws.getD (m / 64) 0=w at hu h3
    refine Nat.testBit_lt_two_pow ?_;have hlt:w.toNat < 2^(n % 64).toNat:=by
     rw[Int.fdiv_eq_ediv_of_nonneg _ (by exact_mod_cast Nat.zero_le _)]at h3;have h4:=Int.emod_add_mul_ediv w (2^(n % 64).toNat);have h5:=Int.emod_lt_of_pos w (b:=2^(n % 64).toNat) (by exact_mod_cast Nat.two_pow_pos _);rw[h3,Int.mul_zero,Int.add_zero]at h4;rw[h4]at h5;have:w=(w.toNat:Int):=by unfold inU at hu; omega
     rw[this]at h5
     exact_mod_cast h5
    exact Nat.lt_of_lt_of_le hlt (Nat.pow_le_pow_right (by decide) (by omega))
   ·exact bitAt_out (by omega)
  ·rw[if_neg h2]at h;omega
 ·rintro⟨hn,hl,hb⟩
  have hwv:zBe n=(n+63) / 64:=by rw[zBe,if_pos hn]
  rw[schk,if_neg (by omega),hwv,if_pos];refine⟨hl,fun h=>?_⟩;have hu:=zEi hw ((n+63) / 64 - 1).toNat;have hlt:(ws.getD ((n+63) / 64 - 1).toNat 0).toNat < 2^(n % 64).toNat:=Nat.lt_pow_two_of_testBit _ fun j hj=>by
   by_cases h64:j < 64
   ·have:=hb (64*((n+63) / 64 - 1).toNat+j) (by omega);unfold zBv at this;rw[show(64*((n+63) / 64 - 1).toNat+j) / 64=((n+63) / 64 - 1).toNat by omega,show(64*((n+63) / 64 - 1).toNat+j) % 64=j by omega]at this;exact this
   ·exact Nat.testBit_lt_two_pow (Nat.lt_of_lt_of_le (lt_U hu) (Nat.pow_le_pow_right (by decide) (by omega)))
  generalize ws.getD ((n+63) / 64 - 1).toNat 0=w at hu hlt
  rw[Int.fdiv_eq_ediv_of_nonneg _ (by exact_mod_cast Nat.zero_le _)];refine Int.ediv_eq_zero_of_lt hu.1 ?_;have:w=(w.toNat:Int):=by unfold inU at hu; omega
  rw[this]
  exact_mod_cast hlt
theorem schk_ofL{n:Int}(hn:1<=n/\n<=12288){l:List Int}(hl:∀ k∈l,0<=k/\k < n):schk n (ofL n l)=0:=by
 refine(schk_bits (zCu n l)).2 ⟨hn,?_,fun m hm=>?_⟩
 ·rw[ofL_length,zBe,if_pos hn]; omega
 ·rw[zEw hn hl];exact zF fun h=>by have:=hl _ h; omega
theorem zero_bits{ws:List Int}(h:∀ w∈ws,inU w):(∀ w∈ws,w=0) ↔ ∀ m,zBv ws m=false:=by
 constructor
 ·intro h0 m
  unfold zBv
  by_cases hi:m / 64 < ws.length
  ·have:ws.getD (m / 64) 0=ws[m / 64]:=by simp[List.getD,hi]
   rw[this,h0 _ (List.getElem_mem hi)]; simp
  ·exact bitAt_out (by omega)
 ·intro hb w hw
  obtain⟨i,hi,rfl⟩:=List.getElem_of_mem hw;have hu:=h _ hw;have h1:∀ j,(ws[i]).toNat.testBit j=false:=fun j=>by
   by_cases hj:j < 64
   ·have:=hb (64*i+j);unfold zBv at this;rw[show(64*i+j) / 64=i by omega,show(64*i+j) % 64=j by omega,show ws.getD i 0=ws[i] by simp[List.getD,hi]]at this;exact this
   ·exact Nat.testBit_lt_two_pow (Nat.lt_of_lt_of_le (lt_U hu) (Nat.pow_le_pow_right (by decide) (by omega)))
  have h2:(ws[i]).toNat=0:=Nat.eq_of_testBit_eq fun j=>by rw[h1]; simp
  unfold inU at hu;omega
end Go.Ab.Pd
