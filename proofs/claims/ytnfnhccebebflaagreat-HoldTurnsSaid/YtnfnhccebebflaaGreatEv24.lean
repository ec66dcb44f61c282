/- One of the texts that this claim stands on. -/
import Derived.Test.YtnfnhccebebflaaGreatEv20
import Derived.Test.YtnfnhccebebflaaGreatEv22
import Derived.Test.YtnfnhccebebflaaGreatEv23
set_option maxHeartbeats 40000000
set_option maxRecDepth 400000
set_option linter.all false
namespace Go.Ab.Pd
open Go.Proofs
open Go.Proofs.Tryz renaming prog->zP
theorem ckB_ok{a b c x y z p q r:Int}(hd:okD a b c)(hb:okB a b c x y z p q r):ckB a b c x y z p q r=0:=by rw[ckB,if_pos hd,if_pos hb]
def nodeV(a b c x y z i j k:Int):Int:=atV a b c ((x+i).tmod a) ((y+j).tmod b) ((z+k).tmod c)
def nodesX(a b c x y z p j k:Int):List Int:=upto (fun i=>[nodeV a b c x y z i j k]) 0 p.toNat
def nodesY(a b c x y z p q k:Int):List Int:=upto (fun j=>nodesX a b c x y z p j k) 0 q.toNat
def zAw(a b c x y z p q r:Int):List Int:=upto (fun k=>nodesY a b c x y z p q k) 0 r.toNat
theorem nodesX_length(a b c x y z p j k:Int):(nodesX a b c x y z p j k).length=p.toNat:=by
 unfold nodesX; rw[upto_length _ 1 _ _ (fun _ _ _=>rfl),Nat.mul_one]
theorem nodesY_length(a b c x y z p q k:Int):(nodesY a b c x y z p q k).length=q.toNat*p.toNat:=by
 unfold nodesY; rw[upto_length _ p.toNat _ _ (fun _ _ _=>nodesX_length ..)]
theorem nodesL_length(a b c x y z p q r:Int):(zAw a b c x y z p q r).length=r.toNat*(q.toNat*p.toNat):=by
 unfold zAw; rw[upto_length _ (q.toNat*p.toNat) _ _ (fun _ _ _=>nodesY_length ..)]
theorem callable81:zDo zP 237:=⟨_,Tryz.func237,rfl,by decide⟩
theorem sorts81:SortsInts zP 237:=fun blk off cap zs w hH hb hs=>Tryz.slices_Sort_int blk off cap zs w hH hb hs
theorem e195:Ent zP 195 Tryz.f195 [] 2:=.mk Tryz.func195 rfl
attribute [push_cast] Tryz.f195
theorem nodes_pur(a b c x y z p q r:Int)(hp:okD a b c/\okB a b c x y z p q r):Pur zP GG 195 [.agg [I a,I b,I c],.agg [I x,I y,I z,I p,I q,I r]] (.tup [.isl ((srt (zAw a b c x y z p q r)).map IA),I 0]):=by
 have hck:=ckB_ok hp.1 hp.2;have hd:=hp.1;have hb:=hp.2;unfold okD at hd;unfold okB ok1 at hb;have ha0:¬a=0:=by omega
 have hb0:¬b=0:=by omega
 have hc0:¬c=0:=by omega
 have hLen:(zAw a b c x y z p q r).length<=16*(16*16):=by
  rw[nodesL_length];exact Nat.mul_le_mul (by omega) (Nat.mul_le_mul (by omega) (by omega))
 have hLen0:0 < (zAw a b c x y z p q r).length:=by
  rw[nodesL_length];exact Nat.mul_pos (by omega) (Nat.mul_pos (by omega) (by omega))
 refine goQ e195 T16_ok 0 ?_;simp only[push_cast,seval,↓kw2,hck];refine FW.loopInv (fun n ts H=>∃ k es s,k+(n:Int)=r/\0<=k/\es++upto (fun k=>nodesY a b c x y z p q k) k n=zAw a b c x y z p q r/\Own H s (es.map IA)/\zAl s≠some 0/\zAl s≠some 1 /\
  H[0]?=some (.cells [I a,I b,I c])/\H[1]?=some (.cells [I x,I y,I z,I p,I q,I r])/\ts 2=.ptr 0 0/\ts 3=.ptr 1 0/\ts 7=s/\ts 21=I r/\ts 22=I k) r.toNat
  ⟨0,[],_,by omega,by omega,rfl,.nil,by simp[zAl],by simp[zAl],rfl,rfl,rfl,rfl,rfl,rfl,rfl⟩ ?_
 rintro n ih ts H ⟨k,es,s,hk,hk0,hes,hown,hs0,hs1,h0,h1,t2,t3,t7,t21,t22⟩
 refine FW.inLoop ?_;refine goW T16_ok [] 0 ?_;simp only[push_cast,seval,↓kw2,hck,h0,h1,t2,t3,t7,t21,t22];refine⟨fun hlt=>?_,fun hge=>?_⟩
 ·obtain⟨n,rfl⟩:∃ n',n=n'+1:=⟨n - 1,by omega⟩;rw[upto_succ]at hes;refine FW.loopInv (fun m ts H=>∃ j es s,j+(m:Int)=q/\0<=j/\es++(upto (fun j=>nodesX a b c x y z p j k) j m++upto (fun k=>nodesY a b c x y z p q k) (k+1) n)=zAw a b c x y z p q r/\Own H s (es.map IA)/\zAl s≠some 0/\zAl s≠some 1 /\
   H[0]?=some (.cells [I a,I b,I c])/\H[1]?=some (.cells [I x,I y,I z,I p,I q,I r])/\ts 2=.ptr 0 0/\ts 3=.ptr 1 0/\ts 7=s/\ts 21=I r/\ts 22=I k/\ts 8=I k/\ts 27=I q/\ts 28=I j) q.toNat
   ⟨0,es,s,by omega,by omega,hes,hown,hs0,hs1,h0,h1,t2,t3,t7,t21,t22,rfl,rfl,rfl⟩ ?_
  clear hes hown hs0 hs1 h0 h1 t2 t3 t7 t21 t22
  rintro m ihy ts H ⟨j,es,s,hj,hj0,hes,hown,hs0,hs1,h0,h1,t2,t3,t7,t21,t22,t8,t27,t28⟩
  refine FW.inLoop ?_;refine goW T16_ok [] 0 ?_;simp only[push_cast,seval,↓kw2,hck,h0,h1,t2,t3,t7,t21,t22,t8,t27,t28];refine⟨fun hltj=>?_,fun hgej=>?_⟩
  ·obtain⟨m,rfl⟩:∃ m',m=m'+1:=⟨m - 1,by omega⟩;rw[upto_succ,List.append_assoc]at hes;refine FW.loopInv (fun l ts H=>∃ i es s,i+(l:Int)=p/\0<=i/\es++(upto (fun i=>[nodeV a b c x y z i j k]) i l++(upto (fun j=>nodesX a b c x y z p j k) (j+1) m++upto (fun k=>nodesY a b c x y z p q k) (k+1) n))=zAw a b c x y z p q r/\Own H s (es.map IA)/\zAl s≠some 0/\zAl s≠some 1 /\
    H[0]?=some (.cells [I a,I b,I c])/\H[1]?=some (.cells [I x,I y,I z,I p,I q,I r])/\ts 2=.ptr 0 0/\ts 3=.ptr 1 0/\ts 7=s/\ts 21=I r/\ts 22=I k/\ts 8=I k/\ts 27=I q/\ts 28=I j/\ts 9=I j/\ts 33=I p/\ts 34=I i) p.toNat
    ⟨0,es,s,by omega,by omega,hes,hown,hs0,hs1,h0,h1,t2,t3,t7,t21,t22,t8,t27,t28,rfl,rfl,rfl⟩ ?_
   clear hes hown hs0 hs1 h0 h1 t2 t3 t7 t21 t22 t8 t27 t28
   rintro l ihx ts H ⟨i,es,s,hi,hi0,hes,hown,hs0,hs1,h0,h1,t2,t3,t7,t21,t22,t8,t27,t28,t9,t33,t34⟩
   refine FW.inLoop ?_;have wx:=zAh (n:=x+i) (by omega) (by omega);have wy:=zAh (n:=y+j) (by omega) (by omega);have wz:=zAh (n:=z+k) (by omega) (by omega);have hap:=fun v=>aApp1 (P:=zP) un56 un56 ze3 rfl by3 hown v
   refine goW T16_ok [] 0 ?_;simp only[push_cast,seval,↓kw2,hck,h0,h1,t2,t3,t7,t21,t22,t8,t27,t28,t9,t33,t34,wx,wy,wz,ha0,hb0,hc0,hap];refine⟨fun hlti=>⟨zEq (by rw[zM]; have:=len_le_of_append hes; omega) (by decide),?_⟩,fun hgei=>?_⟩
   ·have hl0:=zAd h0;have hl1:=zAd h1;rw[zAh (n:=i+1) (by omega) (by omega)];obtain⟨l,rfl⟩:∃ l',l=l'+1:=⟨l - 1,by omega⟩;refine ihx l (by omega) _ _ ⟨i+1,es++[nodeV a b c x y z i j k],.sl (H.length+1) 0 ((es.map IA).length+1) ((es.map IA).length+1),by omega,by omega,by rw[<- hes]; simp[upto_succ],apI,ownNe (by omega),ownNe (by omega),
     (zFt hl0 hs0).trans h0,(zFt hl1 hs1).trans h1,t2,t3,rfl,t21,t22,t8,t27,t28,t9,t33,rfl⟩
   ·have hl:l=0:=by omega
    subst hl;rw[zAh (n:=j+1) (by omega) (by omega)];refine ihy m (by omega) _ _ ⟨j+1,es,s,by omega,by omega,by simpa[upto]using hes,hown,hs0,hs1,h0,h1,t2,t3,t7,t21,t22,t8,t27,rfl⟩
  ·have hm:m=0:=by omega
   subst hm;rw[zAh (n:=k+1) (by omega) (by omega)];refine ih n (by omega) _ _ ⟨k+1,es,s,by omega,by omega,by simpa[upto]using hes,hown,hs0,hs1,h0,h1,t2,t3,t7,t21,rfl⟩
 ·have hn:n=0:=by omega
  subst hn;simp only[upto,List.append_nil]at hes;subst hes;refine Own.sort callable81 sorts81 hown hLen0 (by omega) ?_
  intro H' hown' hk'
  refine goW T16_ok [] 0 ?_;simp only[push_cast,seval,↓kw2,hck,t7];have hfr:frS ((srt (zAw a b c x y z p q r)).map IA)=.isl ((srt (zAw a b c x y z p q r)).map IA):=by
   cases hq:srt (zAw a b c x y z p q r)with
   | nil=>have:=zCm (zAw a b c x y z p q r); rw[hq]at this; simp at this; omega
   | cons=>rfl
  obtain⟨m,hm⟩:=hown'.done2 (v:=I 0) (zAc IA _ (fun _=>rfl)) rfl;exact⟨_,rfl,m,by rw[hm,hfr]⟩
@[push_cast] def g195:List AV->Option (Prop × AV)
 | [.agg [(.c (.int .i64 a)),(.c (.int .i64 b)),(.c (.int .i64 c))],.agg [(.c (.int .i64 x)),(.c (.int .i64 y)),(.c (.int .i64 z)),(.c (.int .i64 p)),(.c (.int .i64 q)),(.c (.int .i64 r))]]=>some (okD a b c/\okB a b c x y z p q r,.tup [.isl ((srt (zAw a b c x y z p q r)).map IA),I 0])
 | _=>none
theorem g195_ok:∀ args p,g195 args=some p->p.1->Pur zP GG 195 args p.2:=by
 intro args p hp hc
 unfold g195 at hp
 split at hp
 ·cases hp;exact nodes_pur _ _ _ _ _ _ _ _ _ hc
 ·cases hp
@[push_cast] def T17:Tab:=Tab.ext T16 195 g195
theorem T17_ok:TOk zP GG T17:=TOk.ext T16_ok g195_ok
end Go.Ab.Pd
