/- One of the texts that this claim stands on. -/
import Derived.Test.YtbnnfihjhamopaaGreatDoorEv26
import Derived.Test.YtbnnfihjhamopaaGreatDoorEv36
set_option maxHeartbeats 40000000
set_option maxRecDepth 400000
set_option linter.all false
namespace Go.Ab.Pd
open Go.Proofs
def inS(n:Int)(ws:List Int)(k:Int):Bool:=decide (0<=k/\k < n)&&zAv ws k.toNat
theorem has_is{n:Int}{ws:List Int}(hw:∀ w∈ws,inU w)(hc:schk n ws=0)(k:Int):Pur Tryz.prog GG 102 [I n,.isl (ws.map U),I k] (.tup [B (inS n ws k),I 0]):=by
 obtain⟨hn,lw,_⟩:=(zBi hw).1 hc;have p:=zBm n ws;rw[hc]at p;unfold inS
 by_cases h0:0<=k
 ·by_cases h1:k < n
  ·have hq0:k.tdiv 64=k / 64:=Int.tdiv_eq_ediv_of_nonneg h0;have hm0:k.tmod 64=k % 64:=Int.tmod_eq_emod_of_nonneg h0;have hkq:(k.tdiv 64).toNat < ws.length:=by omega
   have hkw:=zAk (n:=k.tdiv 64) (by omega) (by omega);have hkm:=Int.tmod_nonneg 64 h0;have hkd:=Int.tdiv_nonneg (b:=64) h0 (by decide);have hgd:=zAh U ws 0 hkq;have hgu:=zEo hw (k.tdiv 64).toNat;have d0:decide (0<=k)=true:=zT h0;have d1:decide (k < n)=true:=zT h1;rw[zT ⟨h0,h1⟩,Bool.true_and];refine goQ e102 zCh 0 ?_;simp(maxSteps:=2000000)only[push_cast,seval,↓kw2];refine AC.pur p ?_;refine goW zCh [] 0 ?_;simp(maxSteps:=2000000)only[push_cast,seval,↓kw2,d0,d1,hkw,hgd,zM];refine⟨by omega,hkm,_,rfl,zAa rfl ?_⟩;unfold zAv;rw[show k.toNat / 64=(k.tdiv 64).toNat by omega,show k.toNat % 64=(k.tmod 64).toNat by omega]
   generalize ws.getD (k.tdiv 64).toNat 0=w at hgu
   have hj:(k.tmod 64).toNat < 64:=by omega
   generalize (k.tmod 64).toNat=j at hj
   obtain⟨x,rfl⟩:∃ x:Nat,w=(x:Int):=⟨w.toNat,by unfold inU at hgu; omega⟩;have hx:x < 2^64:=by unfold inU at hgu; omega
   have hle:x / 2^j<=x:=Nat.div_le_self _ _;have a1:=zFj (x:=((x / 2^j:Nat):Int)) (y:=1) (nU (by omega)) ⟨by decide,by decide⟩;unfold andW at a1;rw[show min j IntKind.u64.bits=j from Nat.min_eq_left (by rw[show IntKind.u64.bits=64 from rfl]; omega),show(2:Int)^j=((2^j:Nat):Int) by rw[Int.natCast_pow]; rfl,zFa,a1,Int.toNat_natCast,Int.toNat_natCast,Nat.testBit_eq_decide_div_mod_eq,show(1:Int).toNat=1 from rfl,Nat.and_one_is_mod];have:decide (((x / 2^j % 2:Nat):Int)=1)=decide (x / 2^j % 2=1):=decide_eq_decide.2 (by omega);rw[this]
  ·have d0:decide (0<=k)=true:=zT h0;have d1:decide (k < n)=false:=zF h1;rw[zF (fun h=>h1 h.2),Bool.false_and];refine goQ e102 zCh 0 ?_;simp(maxSteps:=2000000)only[push_cast,seval,↓kw2];refine AC.pur p ?_;refine goW zCh [] 0 ?_;simp(maxSteps:=2000000)only[push_cast,seval,↓kw2,d0,d1];exact⟨_,rfl,zAa rfl rfl⟩
 ·have d0:decide (0<=k)=false:=zF h0;rw[zF (fun h=>h0 h.1),Bool.false_and];refine goQ e102 zCh 0 ?_;simp(maxSteps:=2000000)only[push_cast,seval,↓kw2];refine AC.pur p ?_;refine goW zCh [] 0 ?_;simp(maxSteps:=2000000)only[push_cast,seval,↓kw2,d0];exact⟨_,rfl,zAa rfl rfl⟩
end Go.Ab.Pd
