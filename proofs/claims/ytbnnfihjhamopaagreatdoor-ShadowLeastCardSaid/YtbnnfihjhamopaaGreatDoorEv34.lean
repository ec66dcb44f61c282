/- One of the texts that this claim stands on. -/
import Derived.Test.YtbnnfihjhamopaaGreatDoorEv28
set_option maxHeartbeats 40000000
set_option maxRecDepth 400000
set_option linter.all false
namespace Go.Ab.Pd
open Go.Proofs
open Go.Proofs.Tryz renaming prog->zP
def jnL(f:Int->Int->Int)(xs ys:List Int)(i:Nat):List Int:=List.zipWith f (xs.take i) (ys.take i)++xs.drop i
theorem jnL_length{f:Int->Int->Int}{xs ys:List Int}(h:xs.length=ys.length){i:Nat}:(jnL f xs ys i).length=xs.length:=by
 unfold jnL;rw[List.length_append,List.length_zipWith,List.length_take,List.length_take,List.length_drop]; omega
theorem jnL_step{f:Int->Int->Int}{xs ys:List Int}(h:xs.length=ys.length){i:Nat}(hi:i < xs.length):(jnL f xs ys i).getD i 0=xs.getD i 0/\(jnL f xs ys i).set i (f (xs.getD i 0) (ys.getD i 0))=jnL f xs ys (i+1):=by
 have hl:(List.zipWith f (xs.take i) (ys.take i)).length=i:=by rw[List.length_zipWith,List.length_take,List.length_take]; omega
 have hd:=zAy 0 hi
 constructor
 ·unfold jnL;rw[List.getD_eq_getElem?_getD,List.getElem?_append_right (by omega),hl,Nat.sub_self,hd];rfl
 ·unfold jnL;rw[List.set_append_right _ _ (by omega),hl,Nat.sub_self,hd,List.set_cons_zero,zCd 0 hi,zCd 0 (by omega:i < ys.length),List.zipWith_append (by rw[List.length_take,List.length_take]; omega)];simp
theorem jnL_all{f:Int->Int->Int}{xs ys:List Int}(h:xs.length=ys.length):jnL f xs ys ys.length=List.zipWith f xs ys:=by
 unfold jnL;rw[List.take_of_length_le (by omega),List.take_of_length_le (by omega),List.drop_eq_nil_of_le (by omega),List.append_nil]
theorem joined_ok(n:Int){g:Nat}{f:Int->Int->Int}(hg:∀ x y,Pur zP GG g [U x,U y] (U (f x y))){xs ys:List Int}(hx:∀ w∈xs,inU w)(hy:∀ w∈ys,inU w)(hlen:xs.length=ys.length)(h0:0 < xs.length)(hl:xs.length<=2^16)
  (p1:Pur zP GG 63 [I n,.isl (xs.map U)] (I 0)) (p2:Pur zP GG 63 [I n,.isl (ys.map U)] (I 0)) :
  Pur zP GG 95 [I n,.isl (xs.map U),.isl (ys.map U),.fn g [] []] (.tup [.isl ((List.zipWith f xs ys).map U),I 0]):=by
 refine goQ e95 TOk.nil 0 ?_ (by simp[AV.purL,AV.pur,zAi U _ (fun _=>rfl)]);simp(maxSteps:=2000000)only[push_cast,seval,↓kw2];refine checked_ac p1 p2 (IsSet.isl hx) (IsSet.isl hy) rfl ?_;rw[if_pos rfl];refine goN ?_;simp(maxSteps:=2000000)only[push_cast,seval,↓kw2];refine clone_fresh h0 hl _ _ ?_;refine goN ?_;simp(maxSteps:=2000000)only[push_cast,seval,↓kw2];refine FW.loopInv (fun l ts H=>∃(i:Nat),i+l=ys.length/\H=[.arr 1 [.isl (xs.map U),.isl (ys.map U)],.arr 1 ((jnL f xs ys i).map U)]/\ts 3=.fn g [] [] /\
  ts 11=.sl 1 0 (xs.map U).length (xs.map U).length/\ts 24=.isl (ys.map U)/\ts 25=I (ys.map U).length/\ts 26=I (i:Int)) ys.length
  ⟨0,by omega,rfl,rfl,rfl,rfl,rfl,rfl⟩ ?_
 rintro l ih ts H ⟨i,hi,rfl,t3,t11,t24,t25,t26⟩
 rw[zM]at t25 t11;refine FW.inLoop ?_
 by_cases hlt:i < ys.length
 ·have hd1:decide ((i:Int) < (ys.length:Int))=true:=by simp[hlt]
  have hjl:=jnL_length (f:=f) hlen (i:=i);obtain⟨hs1,hs2⟩:=jnL_step (f:=f) hlen (by omega:i < xs.length);have hiw:i < (jnL f xs ys i).length:=by omega
  have hgy:=zAh U ys 0 hlt;have hgw:=zAh U (jnL f xs ys i) 0 hiw;rw[hs1]at hgw;have hset:((jnL f xs ys i).map U).set i (U (f (xs.getD i 0) (ys.getD i 0)))=(jnL f xs ys (i+1)).map U:=by rw[<- hs2,List.map_set]
  obtain⟨l,rfl⟩:∃ l',l=l'+1:=⟨l - 1,by omega⟩
  generalize hA:jnL f xs ys i=A at hjl hiw hgw hset
  refine goN ?_;simp(maxSteps:=2000000)only[push_cast,seval,↓kw2,t3,t11,t24,t25,t26,hd1,hiw,hgy,hgw,zM,Int.toNat_natCast]
  repeat (refine⟨by omega,?_⟩)
  refine AC.pur (hg _ _) ?_;refine goN ?_;simp(maxSteps:=2000000)only[push_cast,seval,↓kw2,t11,t26,hiw,hgw,zM,Int.toNat_natCast,hset];rw[zAk (n:=(i:Int)+1) (by omega) (by omega)]
  repeat (refine⟨by omega,?_⟩)
  exact ih l (by omega) _ _ ⟨i+1,by omega,rfl,t3,by rw[zM]; exact t11,t24,by rw[zM]; exact t25,rfl⟩
 ·have hd1:decide ((i:Int) < (ys.length:Int))=false:=by simp; omega
  have hl:i=ys.length:=by omega
  subst hl;refine goN ?_;simp(maxSteps:=2000000)only[push_cast,seval,↓kw2,t11,t25,t26,hd1];rw[jnL_all hlen];have hzl:(List.zipWith f xs ys).length=xs.length:=by rw[List.length_zipWith]; omega
  have hown:Own [.arr 1 [.isl (xs.map U),.isl (ys.map U)],.arr 1 ((List.zipWith f xs ys).map U)] (.sl 1 0 xs.length xs.length) ((List.zipWith f xs ys).map U):=by
   have:=Own.row (H:=[.arr 1 [.isl (xs.map U),.isl (ys.map U)],.arr 1 ((List.zipWith f xs ys).map U)]) (id:=1) (es:=(List.zipWith f xs ys).map U) rfl (by rw[zM]; omega);rw[zM,hzl]at this;exact this
  obtain⟨m',hm'⟩:=hown.done2 (v:=I 0) (zAi U _ (fun _=>rfl)) rfl;exact⟨_,rfl,m',by rw[hm',frS_ne (by rw[zM]; omega)]⟩
theorem zDj{f:Int->Int->Int}(hf:∀ x y,inU (f x y))(xs ys:List Int):∀ w∈List.zipWith f xs ys,inU w:=by
 intro w hw
 rw[List.zipWith_eq_zipWith_take_min]at hw;obtain⟨i,hi,rfl⟩:=List.getElem_of_mem hw;rw[List.getElem_zipWith];exact hf _ _
theorem e82:Ent zP 82 Tryz.f82 [] 3:=.mk Tryz.func82 rfl
attribute [push_cast] Tryz.f82
theorem and_ok(n:Int){xs ys:List Int}(hx:∀ w∈xs,inU w)(hy:∀ w∈ys,inU w)(hlen:xs.length=ys.length)(h0:0 < xs.length)(hl:xs.length<=2^16)
  (p1:Pur zP GG 63 [I n,.isl (xs.map U)] (I 0)) (p2:Pur zP GG 63 [I n,.isl (ys.map U)] (I 0)) :
  Pur zP GG 82 [I n,.isl (xs.map U),.isl (ys.map U)] (.tup [.isl ((List.zipWith andW xs ys).map U),I 0]):=by
 refine goQ e82 TOk.nil 0 ?_ (by simp[AV.purL,AV.pur,zAi U _ (fun _=>rfl)]);simp(maxSteps:=2000000)only[push_cast,seval,↓kw2];refine AC.pur (joined_ok n andw_pur hx hy hlen h0 hl p1 p2) ?_;refine goN ?_;simp(maxSteps:=2000000)only[push_cast,seval,↓kw2];have hz:=zAi U (List.zipWith andW xs ys) (fun _=>rfl);exact⟨_,rfl,zAa (by simp only[AV.pur,AV.purL,hz,Bool.and_true]) rfl⟩
noncomputable def manyW (ws:List Int):Int:=ws.foldl addV 0
theorem smany_ok(n:Int){ws:List Int}(lw:ws.length<=2^16)(p:Pur zP GG 63 [I n,.isl (ws.map U)] (I 0)):Pur zP GG 23 [I n,.isl (ws.map U)] (.tup [I (manyW ws),I 0]):=by
 refine goQ e23 zCh 0 ?_ (by simp[AV.purL,AV.pur,zAi U _ (fun _=>rfl)]);simp(maxSteps:=2000000)only[push_cast,seval,↓kw2];refine AC.pur p ?_;refine goW zCh [] 0 ?_;simp(maxSteps:=2000000)only[push_cast,seval,↓kw2];refine FW.loopInv (fun l ts H=>∃(i:Nat) (acc:Int),i+l=ws.length/\(ws.drop i).foldl addV acc=manyW ws/\ts 4=I acc/\ts 5=I 0/\ts 13=.isl (ws.map U)/\ts 14=I (ws.map U).length/\ts 15=I (i:Int)) ws.length
  ⟨0,0,by omega,rfl,rfl,rfl,rfl,rfl,rfl⟩ ?_
 rintro l ih ts H ⟨i,acc,hi,hes,t4,t5,t13,t14,t15⟩
 rw[zM]at t14;refine FW.inLoop ?_
 by_cases hlt:i < ws.length
 ·have hd1:decide ((i:Int) < (ws.length:Int))=true:=by simp[hlt]
  have hgd:=zAh U ws 0 hlt;obtain⟨l,rfl⟩:∃ l',l=l'+1:=⟨l - 1,by omega⟩;rw[zAy 0 hlt]at hes
  generalize ws.getD i 0=w at hgd hes
  refine goW zCh [] 0 ?_;simp(maxSteps:=2000000)only[push_cast,seval,↓kw2,t4,t5,t13,t14,t15,hd1,hgd,zM,Int.toNat_natCast];refine⟨by omega,?_⟩;refine AC.pur (onesV_pur w) ?_;refine goW zCh [] 0 ?_;simp(maxSteps:=2000000)only[push_cast,seval,↓kw2,t15];rw[zAk (n:=(i:Int)+1) (by omega) (by omega)];exact ih l (by omega) _ _ ⟨i+1,addV acc w,by omega,by rw[<- hes]; rfl,rfl,t5,t13,by rw[zM]; exact t14,rfl⟩
 ·have hd1:decide ((i:Int) < (ws.length:Int))=false:=by simp; omega
  refine goW zCh [] 0 ?_;simp(maxSteps:=2000000)only[push_cast,seval,↓kw2,t4,t5,t14,t15,hd1];rw[List.drop_eq_nil_of_le (by omega)]at hes;have hes':acc=manyW ws:=hes;exact⟨_,rfl,zAa rfl (by rw[hes'])⟩
end Go.Ab.Pd
