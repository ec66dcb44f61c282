/- One of the texts that this claim stands on. -/
import Derived.Test.YtdfgdheehdabmaaGreatDoorEv28
import Derived.Test.YtdfgdheehdabmaaGreatDoorEv41
import Derived.Test.YtdfgdheehdabmaaGreatDoorEv39
set_option maxHeartbeats 40000000
set_option maxRecDepth 400000
set_option linter.all false
namespace Go.Ab.Pd
open Go.Proofs
def inS(n:Int)(ws:List Int)(k:Int):Bool:=decide (0≤k∧k < n)&&zBa ws k.toNat
theorem has_is{n:Int}{ws:List Int}(hw:∀ w∈ws,inU w)(hc:schk n ws=0)(k:Int):Pur Tryz.prog GG 115 [I n,.isl (ws.map U),I k] (.tup [B (inS n ws k),I 0]):=by
 obtain⟨hn,lw,_⟩:=(zBl hw).1 hc;have p:=zBh n ws;rw[hc]at p;unfold inS
 by_cases h0:0≤k
 ·by_cases h1:k < n
  ·have hq0:k.tdiv 64=k / 64:=Int.tdiv_eq_ediv_of_nonneg h0;have hm0:k.tmod 64=k % 64:=Int.tmod_eq_emod_of_nonneg h0;have hkq:(k.tdiv 64).toNat < ws.length:=by omega
   have hkw:=zAf (n:=k.tdiv 64) (by omega) (by omega);have hkm:=Int.tmod_nonneg 64 h0;have hkd:=Int.tdiv_nonneg (b:=64) h0 (by decide);have hgd:=zAm U ws 0 hkq;have hgu:=zDg hw (k.tdiv 64).toNat;have d0:decide (0≤k)=true:=decide_eq_true h0;have d1:decide (k < n)=true:=decide_eq_true h1;rw[decide_eq_true ⟨h0,h1⟩,Bool.true_and];refine goQ e115 zCh 0 ?_;simp(maxSteps:=2000000)only[push_cast,seval,↓kw2];refine AC.pur p ?_;refine goW zCh [] 0 ?_;simp(maxSteps:=2000000)only[push_cast,seval,↓kw2,d0,d1,hkw,hgd,List.length_map];refine⟨by omega,hkm,_,rfl,zAa rfl ?_⟩;unfold zBa;rw[show k.toNat / 64=(k.tdiv 64).toNat by omega,show k.toNat % 64=(k.tmod 64).toNat by omega]
   generalize ws.getD (k.tdiv 64).toNat 0=w at hgu
   have hj:(k.tmod 64).toNat < 64:=by omega
   generalize (k.tmod 64).toNat=j at hj
   obtain⟨x,rfl⟩:∃ x:Nat,w=(x:Int):=⟨w.toNat,by unfold inU at hgu; omega⟩;have hx:x < 2^64:=by unfold inU at hgu; omega
   have hle:x / 2^j≤x:=Nat.div_le_self _ _;have a1:=zEv (x:=((x / 2^j:Nat):Int)) (y:=1) (nU (by omega)) ⟨by decide,by decide⟩;unfold andW at a1;rw[show min j IntKind.u64.bits=j from Nat.min_eq_left (by rw[show IntKind.u64.bits=64 from rfl]; omega),show(2:Int)^j=((2^j:Nat):Int) by rw[Int.natCast_pow]; rfl,zFa,a1,Int.toNat_natCast,Int.toNat_natCast,Nat.testBit_eq_decide_div_mod_eq,show(1:Int).toNat=1 from rfl,Nat.and_one_is_mod];have:decide (((x / 2^j % 2:Nat):Int)=1)=decide (x / 2^j % 2=1):=decide_eq_decide.2 (by omega);rw[this]
  ·have d0:decide (0≤k)=true:=decide_eq_true h0;have d1:decide (k < n)=false:=decide_eq_false h1;rw[decide_eq_false (fun h=>h1 h.2),Bool.false_and];refine goQ e115 zCh 0 ?_;simp(maxSteps:=2000000)only[push_cast,seval,↓kw2];refine AC.pur p ?_;refine goW zCh [] 0 ?_;simp(maxSteps:=2000000)only[push_cast,seval,↓kw2,d0,d1];exact⟨_,rfl,zAa rfl rfl⟩
 ·have d0:decide (0≤k)=false:=decide_eq_false h0;rw[decide_eq_false (fun h=>h0 h.1),Bool.false_and];refine goQ e115 zCh 0 ?_;simp(maxSteps:=2000000)only[push_cast,seval,↓kw2];refine AC.pur p ?_;refine goW zCh [] 0 ?_;simp(maxSteps:=2000000)only[push_cast,seval,↓kw2,d0];exact⟨_,rfl,zAa rfl rfl⟩
theorem words_ext{xs ys:List Int}(hx:∀ w∈xs,inU w)(hy:∀ w∈ys,inU w)(hl:xs.length=ys.length)(h:∀ m,zBa xs m=zBa ys m):xs=ys:=by
 refine List.ext_getElem hl fun i h1 h2=>?_
 have u1:=hx _ (List.getElem_mem h1);have u2:=hy _ (List.getElem_mem h2);have:(xs[i]).toNat=(ys[i]).toNat:=Nat.eq_of_testBit_eq fun j=>by
  by_cases hj:j < 64
  ·have:=h (64*i+j);unfold zBa at this;rw[show(64*i+j) / 64=i by omega,show(64*i+j) % 64=j by omega,show xs.getD i 0=xs[i] by simp[List.getD,h1],show ys.getD i 0=ys[i] by simp[List.getD,h2]]at this;exact this
  ·rw[Nat.testBit_lt_two_pow (Nat.lt_of_lt_of_le (lt_U u1) (Nat.pow_le_pow_right (by decide) (by omega))),Nat.testBit_lt_two_pow (Nat.lt_of_lt_of_le (lt_U u2) (Nat.pow_le_pow_right (by decide) (by omega)))]
 unfold inU at u1 u2;omega
theorem own_srt{n:Int}(hn:1≤n∧n≤12288){l:List Int}(hl:∀ k∈l,0≤k∧k < n):ofL n (srt l)=ofL n l :=
 words_ext (zCu _ _) (zCu _ _) (by rw[zBf,zBf]) fun m=>by
  rw[zEb hn (fun k hk=>hl k (srt_mem.1 hk)),zEb hn hl];exact decide_eq_decide.2 srt_mem
theorem andn_sub{xs ys:List Int}(hx:∀ w∈xs,inU w){m:Nat}(h:zBa (List.zipWith zFr xs ys) m=true):zBa xs m=true:=by
 by_cases h1:m / 64 < xs.length
 ·by_cases h2:m / 64 < ys.length
  ·have e:(List.zipWith zFr xs ys).getD (m / 64) 0=zFr (xs.getD (m / 64) 0) (ys.getD (m / 64) 0):=by
    simp[List.getD,List.getElem?_zipWith,h1,h2]
   unfold zBa at h ⊢;rw[e]at h;have hu:=zDg hx (m / 64)
   generalize xs.getD (m / 64) 0=x at h hu
   unfold zFr at h;rw[BitVec.toNat_and,toNat_U hu]at h;have hle:=Nat.and_le_left (n:=x.toNat) (m:=(~~~BitVec.ofInt IntKind.u64.bits (ys.getD (m / 64) 0)).toNat);have:=lt_U hu;rw[wrapU (nU (by omega)),Int.toNat_natCast,Nat.testBit_and,Bool.and_eq_true]at h;exact h.1
  ·rw[zDk (by rw[List.length_zipWith]; omega)]at h; cases h
 ·rw[zDk (by rw[List.length_zipWith]; omega)]at h; cases h
theorem schk_andn{n:Int}{xs ys:List Int}(hx:∀ w∈xs,inU w)(hl:ys.length=xs.length)(h1:schk n xs=0):schk n (List.zipWith zFr xs ys)=0:=by
 obtain⟨hn,l1,b1⟩:=(zBl hx).1 h1;refine(zBl (zip_inU andn_inU xs ys)).2 ⟨hn,by rw[List.length_zipWith]; omega,fun m hm=>?_⟩;cases h:zBa (List.zipWith zFr xs ys) m
 ·rfl
 ·have h2:=andn_sub hx h;rw[b1 m hm]at h2;cases h2
def sumC(ws:List Int):Int:=((ws.map fun w=>On.ones w.toNat).sum:Nat)
theorem manyW_sum{ws:List Int}(h:∀ w∈ws,inU w)(hl:ws.length≤2^16):manyW ws=sumC ws:=by
 obtain⟨e,_⟩:=many_fold (acc:=0) h (by omega) (by omega);rw[Int.zero_add]at e;exact e
def othW(n:Int)(ws:List Int):List Int:=List.zipWith zFr (ofL n (allL n)) ws
def scV(a b c:Int)(ws:List Int)(x:Plc):Int :=
 IntKind.i64.wrap (IntKind.i64.wrap (2*(listL (ofL (zAg a b c) (zAv a b c x.x x.y x.z x.p x.q x.r))).foldl (stepM a b c (inS (zAg a b c) (List.zipWith zFr (othW (zAg a b c) ws) (ofL (zAg a b c) (zAv a b c x.x x.y x.z x.p x.q x.r))))) 0)
  + sumC (ofL (3*zAg a b c) (zCc a b c x.x x.y x.z x.p x.q x.r x.s x.t x.u)))
theorem scV_pur{a b c:Int}{ws:List Int}(hw:∀ w∈ws,inU w)(hc:schk (zAg a b c) ws=0){X:Plc}(hp:X.ok a b c):Pur Tryz.prog GG 37 [.agg [I a,I b,I c],X.av,.isl (ws.map U)] (.tup [I (scV a b c ws X),I 0]):=by
 obtain⟨x,y,z,p,q,r,s,t,u⟩:=X;have hd:=hp.1;have hb:=hp.2.1;have hmu:=zAy hd;have hmv:zAg a b c=a*b*c:=by rw[zAg,if_pos hd]
 obtain⟨hN1,lw,_⟩:=(zBl hw).1 hc;have hN2:1≤3*zAg a b c∧3*zAg a b c≤12288:=by omega
 have hn:1≤zAg a b c∧zAg a b c≤4096:=by omega
 have wv1:zAs (zAg a b c)=(zAg a b c+63) / 64:=by rw[zAs,if_pos (by omega)]
 have wv2:zAs (3*zAg a b c)=(3*zAg a b c+63) / 64:=by rw[zAs,if_pos (by omega)]
 have hlo:∀ k∈zAv a b c x y z p q r,0≤k∧k < zAg a b c:=fun k hk=>by rw[hmv]; exact(zCn hd hb hk).2
 have hll:∀ k∈zCc a b c x y z p q r s t u,0≤k∧k < 3*zAg a b c:=fun k hk=>by rw[hmv]; exact links_mem hd hb k hk
 have hla:∀ k∈allL (zAg a b c),0≤k∧k < zAg a b c:=fun k hk=>allL_mem hk
 have eo:ownW a b c x y z p q r=ofL (zAg a b c) (zAv a b c x y z p q r):=own_srt hN1 hlo;have lo:=zBf (zAg a b c) (zAv a b c x y z p q r);have la:=zBf (zAg a b c) (allL (zAg a b c));have ll:=zBf (3*zAg a b c) (zCc a b c x y z p q r s t u);have io:=zCu (zAg a b c) (zAv a b c x y z p q r);have ia:=zCu (zAg a b c) (allL (zAg a b c));have il:=zCu (3*zAg a b c) (zCc a b c x y z p q r s t u);have so:=schk_ofL hN1 hlo;have sa:=schk_ofL hN1 hla;have sl:=schk_ofL hN2 hll;have pw:=zBh (zAg a b c) ws;rw[hc]at pw;have po:=zBh (zAg a b c) (ofL (zAg a b c) (zAv a b c x y z p q r));rw[so]at po;have pa:=zBh (zAg a b c) (ofL (zAg a b c) (allL (zAg a b c)));rw[sa]at pa;have pl:=zBh (3*zAg a b c) (ofL (3*zAg a b c) (zCc a b c x y z p q r s t u));rw[sl]at pl;have h1:=less_is (zAg a b c) ia hw (by omega) (by omega) (by omega) pa pw;have ioth:∀ w∈othW (zAg a b c) ws,inU w:=zip_inU andn_inU _ _;have loth:(othW (zAg a b c) ws).length=ws.length:=by unfold othW; rw[List.length_zipWith]; omega
 have soth:schk (zAg a b c) (othW (zAg a b c) ws)=0:=schk_andn ia (by omega) sa;have ho:=others_of hn (IsSet.isl hw) (IsSet.isl ioth) h1;have pt:=zBh (zAg a b c) (othW (zAg a b c) ws);rw[soth]at pt;have h2:=less_is (zAg a b c) ioth io (by omega) (by omega) (by omega) pt po;have hifr:∀ w∈List.zipWith zFr (othW (zAg a b c) ws) (ofL (zAg a b c) (zAv a b c x y z p q r)),inU w:=zip_inU andn_inU _ _;have sfr:=schk_andn (ys:=ofL (zAg a b c) (zAv a b c x y z p q r)) ioth (by omega) soth;have hm:=smany_ok (3*zAg a b c) (ws:=ofL (3*zAg a b c) (zCc a b c x y z p q r s t u)) (by omega) pl;rw[manyW_sum il (by omega)]at hm;have hli:=list_is (zAg a b c) io (by omega) po;have hle:=listL_length (ofL (zAg a b c) (zAv a b c x y z p q r));have hop:=open_of a b c (zAg a b c) (IsSet.isl io) (IsSet.isl hifr) (by omega) hli (has:=inS (zAg a b c) _) fun k=>⟨0,has_is hifr sfr k⟩
 rw[← eo]at h2 hop;have hfin:=score_of (x:=x) (y:=y) (z:=z) (p:=p) (q:=q) (r:=r) (s:=s) (t:=t) (u:=u) hp (IsSet.isl hw) pw (IsSet.isl ioth) (IsSet.isl (by rw[eo]; exact hifr)) ho h2 hm hop;unfold scV;simp only;rw[← eo];exact hfin
section
variable {a b c:Int} {sc:Plc→Int}
theorem cmpS_neg(X Y:Plc):cmpS a b c sc Y X=-cmpS a b c sc X Y:=cmp2_neg ..
theorem cmpS_tri(X Y Z:Plc):Tri (cmpS a b c sc X Y) (cmpS a b c sc Y Z) (cmpS a b c sc X Z):=Tri.cmp2 ..
theorem cmpS_self(X:Plc):cmpS a b c sc X X=0:=cmp2_self ..
theorem cmpS_zero{X Y:Plc}(hX:X.ok a b c)(hY:Y.ok a b c)(h:cmpS a b c sc X Y=0):X=Y:=Plc.same.1 (cmp2_zero hX hY h)
def minF(a b c:Int)(sc:Plc→Int)(F:List Plc):Plc:=minL (ltS a b c sc) (F.getD 0 default) (F.drop 1)
end
theorem best_is{a b c:Int}(w:Wnt){xs ys:List Int}(hx:∀ w∈xs,inU w)(hy:∀ w∈ys,inU w)(c1:schk (zAg a b c) xs=0)(c2:schk (3*zAg a b c) ys=0)(h:zEs a b c w.p w.q w.r=0) :
  Pur Tryz.prog GG 6 [.agg [I a,I b,I c],w.av,.isl (xs.map U),.isl (ys.map U)]
   (.tup [(if (wholeL a b c w).filter (zEa a b c xs ys)=[] then ⟨0,0,0,0,0,0,false,false,false⟩ else minF a b c (scV a b c xs) ((wholeL a b c w).filter (zEa a b c xs ys)):Plc).av,I (if (wholeL a b c w).filter (zEa a b c xs ys)=[] then 6 else 0)]):=by
 have hA:=allS w hx hy c1 c2 h;obtain⟨hd,hw⟩:=dwchk_ok.1 h;have hr:=rsl_is (a:=a) (b:=b) (c:=c) (w:=w) (zEa a b c xs ys);have hle:=Nat.le_trans (List.length_filter_le (zEa a b c xs ys) (wholeL a b c w)) (whole_le hd w)
 by_cases hF:(wholeL a b c w).filter (zEa a b c xs ys)=[]
 ·rw[if_pos hF,if_pos hF];rw[hF]at hA hr;exact best_none (IsSet.isl hx) (IsSet.isl hy) hA hr
 ·rw[if_neg hF,if_neg hF];have hne:¬ wholeL a b c w=[]:=fun e=>hF (by rw[e]; rfl)
  have hrs:rsl a b c w ((wholeL a b c w).filter (zEa a b c xs ys))=.isl (((wholeL a b c w).filter (zEa a b c xs ys)).map Plc.av):=by rw[rsl,if_neg hne]
  rw[hrs]at hA;refine best_min (IsSet.isl hx) (IsSet.isl hy) (List.length_pos_iff.2 hF) (by omega) hA fun x hxm=>?_
  exact scV_pur hx c1 ((wholeL_mem hd).1 (List.mem_filter.1 hxm).1).1
attribute [push_cast] Tryz.f56
attribute [push_cast] Tryz.f57
instance (w:Int):Decidable (inU w):=by unfold inU; infer_instance
attribute [push_cast] Tryz.f30
attribute [push_cast] Tryz.f13
end Go.Ab.Pd
