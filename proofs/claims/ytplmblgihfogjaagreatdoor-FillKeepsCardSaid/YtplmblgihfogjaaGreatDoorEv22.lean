/- A text of this claim. -/
import Derived.Shelf.Sort.Plain
import Derived.Test.YtplmblgihfogjaaGreatDoorEv20
import Derived.Test.YtplmblgihfogjaaGreatDoorEv21
set_option maxHeartbeats 40000000
set_option maxRecDepth 400000
set_option linter.all false
namespace Go.Proofs
open Go.Shelf
def Tryz.lays189_ren:Go.Shelf.Ren:=⟨fun | 189=>87 | 125=>153 | 257=>152 | 128=>222 | 129=>223 | 294=>213 | 295=>214 | 296=>215 | 297=>216 | 298=>217 | 299=>218 | 216=>219 | 300=>220 | 301=>221 | 328=>257 | 329=>258 | 330=>259 | 331=>260 | 332=>261 | 215=>189 | 343=>285 | n=>n,fun | 28=>30 | 3=>3 | 46=>229 | 0=>0 | 51=>305 | 53=>129 | 4=>4 | 183=>299 | 182=>298 | 131=>172 | 5=>5 | 9=>9 | 218=>327 | 222=>331 | 228=>347 | 229=>348 | n=>n,fun | n=>n⟩
theorem Tryz.lays189:Go.Proofs.Lays.n189 Tryz.prog Tryz.lays189_ren:={
 mixed:=by kernel_rfl
 f125:=Tryz.func153.trans (congrArg some (by kernel_rfl))
 f128:=Tryz.func222.trans (congrArg some (by kernel_rfl))
 f129:=Tryz.func223.trans (congrArg some (by kernel_rfl))
 f189:=Tryz.func87.trans (congrArg some (by kernel_rfl))
 f215:=Tryz.func189.trans (congrArg some (by kernel_rfl))
 f216:=Tryz.func219.trans (congrArg some (by kernel_rfl))
 f257:=Tryz.func152.trans (congrArg some (by kernel_rfl))
 f294:=Tryz.func213.trans (congrArg some (by kernel_rfl))
 f295:=Tryz.func214.trans (congrArg some (by kernel_rfl))
 f296:=Tryz.func215.trans (congrArg some (by kernel_rfl))
 f297:=Tryz.func216.trans (congrArg some (by kernel_rfl))
 f298:=Tryz.func217.trans (congrArg some (by kernel_rfl))
 f299:=Tryz.func218.trans (congrArg some (by kernel_rfl))
 f300:=Tryz.func220.trans (congrArg some (by kernel_rfl))
 f301:=Tryz.func221.trans (congrArg some (by kernel_rfl))
 f328:=Tryz.func257.trans (congrArg some (by kernel_rfl))
 f329:=Tryz.func258.trans (congrArg some (by kernel_rfl))
 f330:=Tryz.func259.trans (congrArg some (by kernel_rfl))
 f331:=Tryz.func260.trans (congrArg some (by kernel_rfl))
 f332:=Tryz.func261.trans (congrArg some (by kernel_rfl))
 f343:=Tryz.func285.trans (congrArg some (by kernel_rfl))
 t0:=Tryz.underlying0
 a0:=Tryz.isAgg0
 z0:=Tryz.sizeOf0
 v0:=Tryz.zeroValue0
 t3:=Tryz.underlying3
 a3:=Tryz.isAgg3
 z3:=Tryz.sizeOf3
 v3:=Tryz.zeroValue3
 t4:=Tryz.underlying4
 a4:=Tryz.isAgg4
 z4:=Tryz.sizeOf4
 v4:=Tryz.zeroValue4
 t5:=Tryz.underlying5
 a5:=Tryz.isAgg5
 z5:=Tryz.sizeOf5
 v5:=Tryz.zeroValue5
 t9:=Tryz.underlying9
 a9:=Tryz.isAgg9
 z9:=Tryz.sizeOf9
 v9:=Tryz.zeroValue9
 t28:=Tryz.underlying30
 a28:=Tryz.isAgg30
 z28:=Tryz.sizeOf30
 v28:=Tryz.zeroValue30
 t46:=Tryz.underlying229
 a46:=Tryz.isAgg229
 z46:=Tryz.sizeOf229
 v46:=Tryz.zeroValue229
 t51:=Tryz.underlying305
 a51:=Tryz.isAgg305
 z51:=Tryz.sizeOf305
 v51:=Tryz.zeroValue305
 t53:=Tryz.underlying129
 a53:=Tryz.isAgg129
 z53:=Tryz.sizeOf129
 v53:=Tryz.zeroValue129
 t131:=Tryz.underlying172
 a131:=Tryz.isAgg172
 z131:=Tryz.sizeOf172
 v131:=Tryz.zeroValue172
 t182:=Tryz.underlying298
 a182:=Tryz.isAgg298
 z182:=Tryz.sizeOf298
 v182:=Tryz.zeroValue298
 t183:=Tryz.underlying299
 a183:=Tryz.isAgg299
 z183:=Tryz.sizeOf299
 v183:=Tryz.zeroValue299
 t218:=Tryz.underlying327
 a218:=Tryz.isAgg327
 z218:=Tryz.sizeOf327
 v218:=Tryz.zeroValue327
 t222:=Tryz.underlying331
 a222:=Tryz.isAgg331
 z222:=Tryz.sizeOf331
 v222:=Tryz.zeroValue331
 t228:=Tryz.underlying347
 a228:=Tryz.isAgg347
 z228:=Tryz.sizeOf347
 v228:=Tryz.zeroValue347
 t229:=Tryz.underlying348
 a229:=Tryz.isAgg348
 z229:=Tryz.sizeOf348
 v229:=Tryz.zeroValue348 }
open Go.Sort Go.RowKit in
theorem Tryz.slices_Sort_int(blk off cap:Nat)(zs:List Int)(w:World)(hH:Holds (Value.int .i64) w blk off zs.toArray)(hblk:blk < w.heap.size)(hsz:zs.length < 4611686018427387904) :
  Calls Tryz.prog 87 #[.slice (some ⟨blk,off,none⟩) zs.length cap] w fun e w' =>
   e=.returned (.tuple #[])/\∃ n os,w'=grow (putRow (Value.int .i64) (Sort.ahead w n) blk off (zs.mergeSort fun x y=>decide (x<=y)).toArray) os:=Any.slices_Sort_int Tryz.lays189 blk off cap zs w hH hblk hsz
end Go.Proofs
namespace Go.Ab.Pd
open Go.Proofs
theorem ckB_ok{a b c x y z p q r:Int}(hd:okD a b c)(hb:okB a b c x y z p q r):ckB a b c x y z p q r=0:=by rw[ckB,if_pos hd,if_pos hb]
def nodeV(a b c x y z i j k:Int):Int:=atV a b c ((x+i).tmod a) ((y+j).tmod b) ((z+k).tmod c)
def nodesX(a b c x y z p j k:Int):List Int:=upto (fun i=>[nodeV a b c x y z i j k]) 0 p.toNat
def nodesY(a b c x y z p q k:Int):List Int:=upto (fun j=>nodesX a b c x y z p j k) 0 q.toNat
def zAo(a b c x y z p q r:Int):List Int:=upto (fun k=>nodesY a b c x y z p q k) 0 r.toNat
theorem nodesX_length(a b c x y z p j k:Int):(nodesX a b c x y z p j k).length=p.toNat:=by
 unfold nodesX; rw[zEa _ 1 _ _ (fun _ _ _=>rfl),Nat.mul_one]
theorem nodesY_length(a b c x y z p q k:Int):(nodesY a b c x y z p q k).length=q.toNat*p.toNat:=by
 unfold nodesY; rw[zEa _ p.toNat _ _ (fun _ _ _=>nodesX_length ..)]
theorem zDo(a b c x y z p q r:Int):(zAo a b c x y z p q r).length=r.toNat*(q.toNat*p.toNat):=by
 unfold zAo; rw[zEa _ (q.toNat*p.toNat) _ _ (fun _ _ _=>nodesY_length ..)]
theorem callable81:zDv Tryz.prog 87:=⟨_,Tryz.func87,rfl,by decide⟩
theorem sorts81:SortsInts Tryz.prog 87:=fun blk off cap zs w hH hb hs=>Tryz.slices_Sort_int blk off cap zs w hH hb hs
theorem e101:Ent Tryz.prog 101 Tryz.f101 [] 2:=.mk Tryz.func101 rfl
theorem nodes_pur(a b c x y z p q r:Int)(hp:okD a b c/\okB a b c x y z p q r):Pur Tryz.prog GG 101 [.agg [I a,I b,I c],.agg [I x,I y,I z,I p,I q,I r]] (.tup [.isl ((srt (zAo a b c x y z p q r)).map IA),I 0]):=by
 have hck:=ckB_ok hp.1 hp.2;have hd:=hp.1;have hb:=hp.2;unfold okD at hd;unfold okB ok1 at hb;have ha0:¬a=0:=by omega
 have hb0:¬b=0:=by omega
 have hc0:¬c=0:=by omega
 have hLen:(zAo a b c x y z p q r).length<=16*(16*16):=by
  rw[zDo];exact Nat.mul_le_mul (by omega) (Nat.mul_le_mul (by omega) (by omega))
 have hLen0:0 < (zAo a b c x y z p q r).length:=by
  rw[zDo];exact Nat.mul_pos (by omega) (Nat.mul_pos (by omega) (by omega))
 refine goQ e101 T16_ok 0 ?_;simp only[push_cast,seval,↓kw2,hck];refine FW.loopInv (fun n ts H=>∃ k es s,k+(n:Int)=r/\0<=k/\es++upto (fun k=>nodesY a b c x y z p q k) k n=zAo a b c x y z p q r/\Own H s (es.map IA)/\zAw s≠some 0/\zAw s≠some 1 /\
  H[0]?=some (.cells [I a,I b,I c])/\H[1]?=some (.cells [I x,I y,I z,I p,I q,I r])/\ts 2=.ptr 0 0/\ts 3=.ptr 1 0/\ts 7=s/\ts 21=I r/\ts 22=I k) r.toNat
  ⟨0,[],_,by omega,by omega,rfl,.nil,by simp[zAw],by simp[zAw],rfl,rfl,rfl,rfl,rfl,rfl,rfl⟩ ?_
 rintro n ih ts H ⟨k,es,s,hk,hk0,hes,hown,hs0,hs1,h0,h1,t2,t3,t7,t21,t22⟩
 refine FW.inLoop ?_;refine goW T16_ok [] 0 ?_;simp only[push_cast,seval,↓kw2,hck,h0,h1,t2,t3,t7,t21,t22];refine⟨fun hlt=>?_,fun hge=>?_⟩
 ·obtain⟨n,rfl⟩:∃ n',n=n'+1:=⟨n - 1,by omega⟩;rw[zDk]at hes;refine FW.loopInv (fun m ts H=>∃ j es s,j+(m:Int)=q/\0<=j/\es++(upto (fun j=>nodesX a b c x y z p j k) j m++upto (fun k=>nodesY a b c x y z p q k) (k+1) n)=zAo a b c x y z p q r/\Own H s (es.map IA)/\zAw s≠some 0/\zAw s≠some 1 /\
   H[0]?=some (.cells [I a,I b,I c])/\H[1]?=some (.cells [I x,I y,I z,I p,I q,I r])/\ts 2=.ptr 0 0/\ts 3=.ptr 1 0/\ts 7=s/\ts 21=I r/\ts 22=I k/\ts 8=I k/\ts 27=I q/\ts 28=I j) q.toNat
   ⟨0,es,s,by omega,by omega,hes,hown,hs0,hs1,h0,h1,t2,t3,t7,t21,t22,rfl,rfl,rfl⟩ ?_
  clear hes hown hs0 hs1 h0 h1 t2 t3 t7 t21 t22
  rintro m ihy ts H ⟨j,es,s,hj,hj0,hes,hown,hs0,hs1,h0,h1,t2,t3,t7,t21,t22,t8,t27,t28⟩
  refine FW.inLoop ?_;refine goW T16_ok [] 0 ?_;simp only[push_cast,seval,↓kw2,hck,h0,h1,t2,t3,t7,t21,t22,t8,t27,t28];refine⟨fun hltj=>?_,fun hgej=>?_⟩
  ·obtain⟨m,rfl⟩:∃ m',m=m'+1:=⟨m - 1,by omega⟩;rw[zDk,List.append_assoc]at hes;refine FW.loopInv (fun l ts H=>∃ i es s,i+(l:Int)=p/\0<=i/\es++(upto (fun i=>[nodeV a b c x y z i j k]) i l++(upto (fun j=>nodesX a b c x y z p j k) (j+1) m++upto (fun k=>nodesY a b c x y z p q k) (k+1) n))=zAo a b c x y z p q r/\Own H s (es.map IA)/\zAw s≠some 0/\zAw s≠some 1 /\
    H[0]?=some (.cells [I a,I b,I c])/\H[1]?=some (.cells [I x,I y,I z,I p,I q,I r])/\ts 2=.ptr 0 0/\ts 3=.ptr 1 0/\ts 7=s/\ts 21=I r/\ts 22=I k/\ts 8=I k/\ts 27=I q/\ts 28=I j/\ts 9=I j/\ts 33=I p/\ts 34=I i) p.toNat
    ⟨0,es,s,by omega,by omega,hes,hown,hs0,hs1,h0,h1,t2,t3,t7,t21,t22,t8,t27,t28,rfl,rfl,rfl⟩ ?_
   clear hes hown hs0 hs1 h0 h1 t2 t3 t7 t21 t22 t8 t27 t28
   rintro l ihx ts H ⟨i,es,s,hi,hi0,hes,hown,hs0,hs1,h0,h1,t2,t3,t7,t21,t22,t8,t27,t28,t9,t33,t34⟩
   refine FW.inLoop ?_;have wx:=zAl (n:=x+i) (by omega) (by omega);have wy:=zAl (n:=y+j) (by omega) (by omega);have wz:=zAl (n:=z+k) (by omega) (by omega);have hap:=fun v=>aApp1 (P:=Tryz.prog) un30 un30 ze3 rfl by3 hown v
   refine goW T16_ok [] 0 ?_;simp only[push_cast,seval,↓kw2,hck,h0,h1,t2,t3,t7,t21,t22,t8,t27,t28,t9,t33,t34,wx,wy,wz,ha0,hb0,hc0,hap];refine⟨fun hlti=>⟨apC_of (by rw[List.length_map]; have:=zCx hes; omega) (by decide),?_⟩,fun hgei=>?_⟩
   ·have hl0:=zAc h0;have hl1:=zAc h1;rw[zAl (n:=i+1) (by omega) (by omega)];obtain⟨l,rfl⟩:∃ l',l=l'+1:=⟨l - 1,by omega⟩;refine ihx l (by omega) _ _ ⟨i+1,es++[nodeV a b c x y z i j k],.sl (H.length+1) 0 ((es.map IA).length+1) ((es.map IA).length+1),by omega,by omega,by rw[<- hes]; simp[zDk],apI,ownNe (by omega),ownNe (by omega),
     (apH_get hl0 hs0).trans h0,(apH_get hl1 hs1).trans h1,t2,t3,rfl,t21,t22,t8,t27,t28,t9,t33,rfl⟩
   ·have hl:l=0:=by omega
    subst hl;rw[zAl (n:=j+1) (by omega) (by omega)];refine ihy m (by omega) _ _ ⟨j+1,es,s,by omega,by omega,by simpa[upto]using hes,hown,hs0,hs1,h0,h1,t2,t3,t7,t21,t22,t8,t27,rfl⟩
  ·have hm:m=0:=by omega
   subst hm;rw[zAl (n:=k+1) (by omega) (by omega)];refine ih n (by omega) _ _ ⟨k+1,es,s,by omega,by omega,by simpa[upto]using hes,hown,hs0,hs1,h0,h1,t2,t3,t7,t21,rfl⟩
 ·have hn:n=0:=by omega
  subst hn;simp only[upto,List.append_nil]at hes;subst hes;refine Own.sort callable81 sorts81 hown hLen0 (by omega) ?_
  intro H' hown' hk'
  refine goW T16_ok [] 0 ?_;simp only[push_cast,seval,↓kw2,hck,t7];have hfr:frS ((srt (zAo a b c x y z p q r)).map IA)=.isl ((srt (zAo a b c x y z p q r)).map IA):=by
   cases hq:srt (zAo a b c x y z p q r)with
   | nil=>have:=zCw (zAo a b c x y z p q r); rw[hq]at this; simp at this; omega
   | cons=>rfl
  obtain⟨m,hm⟩:=hown'.done2 (v:=I 0) (zAi IA _ (fun _=>rfl)) rfl;exact⟨_,rfl,m,by rw[hm,hfr]⟩
@[push_cast] def g101:List AV->Option (Prop × AV)
 | [.agg [(.c (.int .i64 a)),(.c (.int .i64 b)),(.c (.int .i64 c))],.agg [(.c (.int .i64 x)),(.c (.int .i64 y)),(.c (.int .i64 z)),(.c (.int .i64 p)),(.c (.int .i64 q)),(.c (.int .i64 r))]]=>some (okD a b c/\okB a b c x y z p q r,.tup [.isl ((srt (zAo a b c x y z p q r)).map IA),I 0])
 | _=>none
theorem g101_ok:∀ args p,g101 args=some p->p.1->Pur Tryz.prog GG 101 args p.2:=by
 intro args p hp hc
 unfold g101 at hp
 split at hp
 ·cases hp;exact nodes_pur _ _ _ _ _ _ _ _ _ hc
 ·cases hp
@[push_cast] def T17:Tab:=Tab.ext T16 101 g101
theorem T17_ok:TOk Tryz.prog GG T17:=TOk.ext T16_ok g101_ok
end Go.Ab.Pd
