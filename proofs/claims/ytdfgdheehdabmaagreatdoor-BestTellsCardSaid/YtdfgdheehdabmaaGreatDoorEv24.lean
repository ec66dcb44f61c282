/- One of the texts that this claim stands on. -/
import Derived.Shelf.Sort.Plain
import Derived.Test.YtdfgdheehdabmaaGreatDoorProg
import Derived.Test.YtdfgdheehdabmaaGreatDoorEv22
import Derived.Test.YtdfgdheehdabmaaGreatDoorEv23
set_option maxHeartbeats 40000000
set_option maxRecDepth 400000
set_option linter.all false
namespace Go.Proofs
open Go.Shelf
def Tryz.lays189_ren:Go.Shelf.Ren:=⟨fun | 189=>148 | 125=>46 | 257=>162 | 128=>84 | 129=>85 | 294=>170 | 295=>171 | 296=>172 | 297=>173 | 298=>174 | 299=>175 | 216=>176 | 300=>177 | 301=>178 | 328=>181 | 329=>118 | 330=>119 | 331=>182 | 332=>183 | 215=>75 | 343=>184 | n=>n,fun | 28=>60 | 3=>3 | 46=>89 | 0=>0 | 51=>135 | 53=>71 | 4=>4 | 183=>129 | 182=>128 | 131=>78 | 5=>5 | 9=>9 | 218=>175 | 222=>179 | 228=>197 | 229=>198 | n=>n,fun | n=>n⟩
theorem Tryz.lays189:Go.Proofs.Lays.n189 Tryz.prog Tryz.lays189_ren:={
 mixed:=by kernel_rfl
 f125:=Tryz.func46.trans (congrArg some (by kernel_rfl))
 f128:=Tryz.func84.trans (congrArg some (by kernel_rfl))
 f129:=Tryz.func85.trans (congrArg some (by kernel_rfl))
 f189:=Tryz.func148.trans (congrArg some (by kernel_rfl))
 f215:=Tryz.func75.trans (congrArg some (by kernel_rfl))
 f216:=Tryz.func176.trans (congrArg some (by kernel_rfl))
 f257:=Tryz.func162.trans (congrArg some (by kernel_rfl))
 f294:=Tryz.func170.trans (congrArg some (by kernel_rfl))
 f295:=Tryz.func171.trans (congrArg some (by kernel_rfl))
 f296:=Tryz.func172.trans (congrArg some (by kernel_rfl))
 f297:=Tryz.func173.trans (congrArg some (by kernel_rfl))
 f298:=Tryz.func174.trans (congrArg some (by kernel_rfl))
 f299:=Tryz.func175.trans (congrArg some (by kernel_rfl))
 f300:=Tryz.func177.trans (congrArg some (by kernel_rfl))
 f301:=Tryz.func178.trans (congrArg some (by kernel_rfl))
 f328:=Tryz.func181.trans (congrArg some (by kernel_rfl))
 f329:=Tryz.func118.trans (congrArg some (by kernel_rfl))
 f330:=Tryz.func119.trans (congrArg some (by kernel_rfl))
 f331:=Tryz.func182.trans (congrArg some (by kernel_rfl))
 f332:=Tryz.func183.trans (congrArg some (by kernel_rfl))
 f343:=Tryz.func184.trans (congrArg some (by kernel_rfl))
 t0:=Tryz.underlying0
 a0:=Tryz.isAgg0
 z0:=Tryz.sizeOf0
 v0:=Tryz.zeroValue0
 t3:=Tryz.underlying3
 a3:=Tryz.isAgg3
 z3:=Tryz.sizeOf3
 v3:=Tryz.zeroValue3
 t4:=Tryz.underlying4
 a4:=Tryz.isAgg4
 z4:=Tryz.sizeOf4
 v4:=Tryz.zeroValue4
 t5:=Tryz.underlying5
 a5:=Tryz.isAgg5
 z5:=Tryz.sizeOf5
 v5:=Tryz.zeroValue5
 t9:=Tryz.underlying9
 a9:=Tryz.isAgg9
 z9:=Tryz.sizeOf9
 v9:=Tryz.zeroValue9
 t28:=Tryz.underlying60
 a28:=Tryz.isAgg60
 z28:=Tryz.sizeOf60
 v28:=Tryz.zeroValue60
 t46:=Tryz.underlying89
 a46:=Tryz.isAgg89
 z46:=Tryz.sizeOf89
 v46:=Tryz.zeroValue89
 t51:=Tryz.underlying135
 a51:=Tryz.isAgg135
 z51:=Tryz.sizeOf135
 v51:=Tryz.zeroValue135
 t53:=Tryz.underlying71
 a53:=Tryz.isAgg71
 z53:=Tryz.sizeOf71
 v53:=Tryz.zeroValue71
 t131:=Tryz.underlying78
 a131:=Tryz.isAgg78
 z131:=Tryz.sizeOf78
 v131:=Tryz.zeroValue78
 t182:=Tryz.underlying128
 a182:=Tryz.isAgg128
 z182:=Tryz.sizeOf128
 v182:=Tryz.zeroValue128
 t183:=Tryz.underlying129
 a183:=Tryz.isAgg129
 z183:=Tryz.sizeOf129
 v183:=Tryz.zeroValue129
 t218:=Tryz.underlying175
 a218:=Tryz.isAgg175
 z218:=Tryz.sizeOf175
 v218:=Tryz.zeroValue175
 t222:=Tryz.underlying179
 a222:=Tryz.isAgg179
 z222:=Tryz.sizeOf179
 v222:=Tryz.zeroValue179
 t228:=Tryz.underlying197
 a228:=Tryz.isAgg197
 z228:=Tryz.sizeOf197
 v228:=Tryz.zeroValue197
 t229:=Tryz.underlying198
 a229:=Tryz.isAgg198
 z229:=Tryz.sizeOf198
 v229:=Tryz.zeroValue198 }
open Go.Sort Go.RowKit in
theorem Tryz.slices_Sort_int(blk off cap:Nat)(zs:List Int)(w:World)(hH:Holds (Value.int .i64) w blk off zs.toArray)(hblk:blk < w.heap.size)(hsz:zs.length < 4611686018427387904) :
  Calls Tryz.prog 148 #[.slice (some ⟨blk,off,none⟩) zs.length cap] w fun e w' =>
   e=.returned (.tuple #[])∧∃ n os,w'=grow (putRow (Value.int .i64) (Sort.ahead w n) blk off (zs.mergeSort fun x y=>decide (x≤y)).toArray) os:=Any.slices_Sort_int Tryz.lays189 blk off cap zs w hH hblk hsz
end Go.Proofs
namespace Go.Ab.Pd
open Go.Proofs
theorem ckB_ok{a b c x y z p q r:Int}(hd:okD a b c)(hb:okB a b c x y z p q r):ckB a b c x y z p q r=0:=by rw[ckB,if_pos hd,if_pos hb]
def nodeV(a b c x y z i j k:Int):Int:=atV a b c ((x+i).tmod a) ((y+j).tmod b) ((z+k).tmod c)
def nodesX(a b c x y z p j k:Int):List Int:=upto (fun i=>[nodeV a b c x y z i j k]) 0 p.toNat
def nodesY(a b c x y z p q k:Int):List Int:=upto (fun j=>nodesX a b c x y z p j k) 0 q.toNat
def zAv(a b c x y z p q r:Int):List Int:=upto (fun k=>nodesY a b c x y z p q k) 0 r.toNat
theorem nodesX_length(a b c x y z p j k:Int):(nodesX a b c x y z p j k).length=p.toNat:=by
 unfold nodesX; rw[zDq _ 1 _ _ (fun _ _ _=>rfl),Nat.mul_one]
theorem nodesY_length(a b c x y z p q k:Int):(nodesY a b c x y z p q k).length=q.toNat*p.toNat:=by
 unfold nodesY; rw[zDq _ p.toNat _ _ (fun _ _ _=>nodesX_length ..)]
theorem nodesL_length(a b c x y z p q r:Int):(zAv a b c x y z p q r).length=r.toNat*(q.toNat*p.toNat):=by
 unfold zAv; rw[zDq _ (q.toNat*p.toNat) _ _ (fun _ _ _=>nodesY_length ..)]
theorem callable81:zCs Tryz.prog 148:=⟨_,Tryz.func148,rfl,by decide⟩
theorem sorts81:SortsInts Tryz.prog 148:=fun blk off cap zs w hH hb hs=>Tryz.slices_Sort_int blk off cap zs w hH hb hs
theorem e133:Ent Tryz.prog 133 Tryz.f133 [] 2:=.mk Tryz.func133 rfl
attribute [push_cast] Tryz.f133
theorem nodes_pur(a b c x y z p q r:Int)(hp:okD a b c∧okB a b c x y z p q r):Pur Tryz.prog GG 133 [.agg [I a,I b,I c],.agg [I x,I y,I z,I p,I q,I r]] (.tup [.isl ((srt (zAv a b c x y z p q r)).map IA),I 0]):=by
 have hck:=ckB_ok hp.1 hp.2;have hd:=hp.1;have hb:=hp.2;unfold okD at hd;unfold okB ok1 at hb;have ha0:¬a=0:=by omega
 have hb0:¬b=0:=by omega
 have hc0:¬c=0:=by omega
 have hLen:(zAv a b c x y z p q r).length≤16*(16*16):=by
  rw[nodesL_length];exact Nat.mul_le_mul (by omega) (Nat.mul_le_mul (by omega) (by omega))
 have hLen0:0 < (zAv a b c x y z p q r).length:=by
  rw[nodesL_length];exact Nat.mul_pos (by omega) (Nat.mul_pos (by omega) (by omega))
 refine goQ e133 T16_ok 0 ?_;simp(maxSteps:=2000000)only[push_cast,seval,↓kw2,hck];refine FW.loopInv (fun n ts H=>∃ k es s,k+(n:Int)=r∧0≤k∧es++upto (fun k=>nodesY a b c x y z p q k) k n=zAv a b c x y z p q r∧Own H s (es.map IA)∧zAl s≠some 0∧zAl s≠some 1 ∧
  H[0]?=some (.cells [I a,I b,I c])∧H[1]?=some (.cells [I x,I y,I z,I p,I q,I r])∧ts 2=.ptr 0 0∧ts 3=.ptr 1 0∧ts 7=s∧ts 21=I r∧ts 22=I k) r.toNat
  ⟨0,[],_,by omega,by omega,rfl,.nil,by simp[zAl],by simp[zAl],rfl,rfl,rfl,rfl,rfl,rfl,rfl⟩ ?_
 rintro n ih ts H ⟨k,es,s,hk,hk0,hes,hown,hs0,hs1,h0,h1,t2,t3,t7,t21,t22⟩
 refine FW.inLoop ?_;refine goW T16_ok [] 0 ?_;simp(maxSteps:=2000000)only[push_cast,seval,↓kw2,hck,h0,h1,t2,t3,t7,t21,t22];refine⟨fun hlt=>?_,fun hge=>?_⟩
 ·obtain⟨n,rfl⟩:∃ n',n=n'+1:=⟨n - 1,by omega⟩;rw[zCq]at hes;refine FW.loopInv (fun m ts H=>∃ j es s,j+(m:Int)=q∧0≤j∧es++(upto (fun j=>nodesX a b c x y z p j k) j m++upto (fun k=>nodesY a b c x y z p q k) (k+1) n)=zAv a b c x y z p q r∧Own H s (es.map IA)∧zAl s≠some 0∧zAl s≠some 1 ∧
   H[0]?=some (.cells [I a,I b,I c])∧H[1]?=some (.cells [I x,I y,I z,I p,I q,I r])∧ts 2=.ptr 0 0∧ts 3=.ptr 1 0∧ts 7=s∧ts 21=I r∧ts 22=I k∧ts 8=I k∧ts 27=I q∧ts 28=I j) q.toNat
   ⟨0,es,s,by omega,by omega,hes,hown,hs0,hs1,h0,h1,t2,t3,t7,t21,t22,rfl,rfl,rfl⟩ ?_
  clear hes hown hs0 hs1 h0 h1 t2 t3 t7 t21 t22
  rintro m ihy ts H ⟨j,es,s,hj,hj0,hes,hown,hs0,hs1,h0,h1,t2,t3,t7,t21,t22,t8,t27,t28⟩
  refine FW.inLoop ?_;refine goW T16_ok [] 0 ?_;simp(maxSteps:=2000000)only[push_cast,seval,↓kw2,hck,h0,h1,t2,t3,t7,t21,t22,t8,t27,t28];refine⟨fun hltj=>?_,fun hgej=>?_⟩
  ·obtain⟨m,rfl⟩:∃ m',m=m'+1:=⟨m - 1,by omega⟩;rw[zCq,List.append_assoc]at hes;refine FW.loopInv (fun l ts H=>∃ i es s,i+(l:Int)=p∧0≤i∧es++(upto (fun i=>[nodeV a b c x y z i j k]) i l++(upto (fun j=>nodesX a b c x y z p j k) (j+1) m++upto (fun k=>nodesY a b c x y z p q k) (k+1) n))=zAv a b c x y z p q r∧Own H s (es.map IA)∧zAl s≠some 0∧zAl s≠some 1 ∧
    H[0]?=some (.cells [I a,I b,I c])∧H[1]?=some (.cells [I x,I y,I z,I p,I q,I r])∧ts 2=.ptr 0 0∧ts 3=.ptr 1 0∧ts 7=s∧ts 21=I r∧ts 22=I k∧ts 8=I k∧ts 27=I q∧ts 28=I j∧ts 9=I j∧ts 33=I p∧ts 34=I i) p.toNat
    ⟨0,es,s,by omega,by omega,hes,hown,hs0,hs1,h0,h1,t2,t3,t7,t21,t22,t8,t27,t28,rfl,rfl,rfl⟩ ?_
   clear hes hown hs0 hs1 h0 h1 t2 t3 t7 t21 t22 t8 t27 t28
   rintro l ihx ts H ⟨i,es,s,hi,hi0,hes,hown,hs0,hs1,h0,h1,t2,t3,t7,t21,t22,t8,t27,t28,t9,t33,t34⟩
   refine FW.inLoop ?_;have wx:=zAf (n:=x+i) (by omega) (by omega);have wy:=zAf (n:=y+j) (by omega) (by omega);have wz:=zAf (n:=z+k) (by omega) (by omega);have hap:=fun v=>aApp1 (P:=Tryz.prog) un60 un60 ze3 rfl by3 hown v
   refine goW T16_ok [] 0 ?_;simp(maxSteps:=2000000)only[push_cast,seval,↓kw2,hck,h0,h1,t2,t3,t7,t21,t22,t8,t27,t28,t9,t33,t34,wx,wy,wz,ha0,hb0,hc0,hap];refine⟨fun hlti=>⟨zBq (by rw[List.length_map]; have:=zAz hes; omega) (by decide),?_⟩,fun hgei=>?_⟩
   ·have hl0:=zAb h0;have hl1:=zAb h1;rw[zAf (n:=i+1) (by omega) (by omega)];obtain⟨l,rfl⟩:∃ l',l=l'+1:=⟨l - 1,by omega⟩;refine ihx l (by omega) _ _ ⟨i+1,es++[nodeV a b c x y z i j k],.sl (H.length+1) 0 ((es.map IA).length+1) ((es.map IA).length+1),by omega,by omega,by rw[← hes]; simp[zCq],apI,zEc (by omega),zEc (by omega),
     (apH_get hl0 hs0).trans h0,(apH_get hl1 hs1).trans h1,t2,t3,rfl,t21,t22,t8,t27,t28,t9,t33,rfl⟩
   ·have hl:l=0:=by omega
    subst hl;rw[zAf (n:=j+1) (by omega) (by omega)];refine ihy m (by omega) _ _ ⟨j+1,es,s,by omega,by omega,by simpa[upto]using hes,hown,hs0,hs1,h0,h1,t2,t3,t7,t21,t22,t8,t27,rfl⟩
  ·have hm:m=0:=by omega
   subst hm;rw[zAf (n:=k+1) (by omega) (by omega)];refine ih n (by omega) _ _ ⟨k+1,es,s,by omega,by omega,by simpa[upto]using hes,hown,hs0,hs1,h0,h1,t2,t3,t7,t21,rfl⟩
 ·have hn:n=0:=by omega
  subst hn;simp only[upto,List.append_nil]at hes;subst hes;refine Own.sort callable81 sorts81 hown hLen0 (by omega) ?_
  intro H' hown' hk'
  refine goW T16_ok [] 0 ?_;simp(maxSteps:=2000000)only[push_cast,seval,↓kw2,hck,t7];have hfr:frS ((srt (zAv a b c x y z p q r)).map IA)=.isl ((srt (zAv a b c x y z p q r)).map IA):=by
   cases hq:srt (zAv a b c x y z p q r)with
   | nil=>have:=zCw (zAv a b c x y z p q r); rw[hq]at this; simp at this; omega
   | cons=>rfl
  obtain⟨m,hm⟩:=hown'.done2 (v:=I 0) (zAe IA _ (fun _=>rfl)) rfl;exact⟨_,rfl,m,by rw[hm,hfr]⟩
@[push_cast] def g133:List AV→Option (Prop × AV)
 | [.agg [(.c (.int .i64 a)),(.c (.int .i64 b)),(.c (.int .i64 c))],.agg [(.c (.int .i64 x)),(.c (.int .i64 y)),(.c (.int .i64 z)),(.c (.int .i64 p)),(.c (.int .i64 q)),(.c (.int .i64 r))]]=>some (okD a b c∧okB a b c x y z p q r,.tup [.isl ((srt (zAv a b c x y z p q r)).map IA),I 0])
 | _=>none
theorem g133_ok:∀ args p,g133 args=some p→p.1→Pur Tryz.prog GG 133 args p.2:=by
 intro args p hp hc
 unfold g133 at hp
 split at hp
 ·cases hp;exact nodes_pur _ _ _ _ _ _ _ _ _ hc
 ·cases hp
@[push_cast] def T17:Tab:=Tab.ext T16 133 g133
theorem T17_ok:TOk Tryz.prog GG T17:=TOk.ext T16_ok g133_ok
end Go.Ab.Pd
