/- One of the texts that this claim stands on. -/
import Derived.Shelf.Sort.Plain
import Derived.Test.YtbnnfihjhamopaaGreatDoorProg
import Derived.Test.YtbnnfihjhamopaaGreatDoorEv20
import Derived.Test.YtbnnfihjhamopaaGreatDoorEv21
set_option maxHeartbeats 40000000
set_option maxRecDepth 400000
set_option linter.all false
namespace Go.Proofs
open Go.Shelf
def Tryz.lays189_ren:Go.Shelf.Ren:=⟨fun | 189=>66 | 125=>115 | 257=>114 | 128=>180 | 129=>181 | 294=>171 | 295=>172 | 296=>173 | 297=>174 | 298=>175 | 299=>176 | 216=>177 | 300=>178 | 301=>179 | 328=>217 | 329=>218 | 330=>219 | 331=>220 | 332=>221 | 215=>198 | 343=>246 | n=>n,fun | 28=>30 | 3=>3 | 46=>191 | 0=>0 | 51=>256 | 53=>116 | 4=>4 | 183=>249 | 182=>248 | 131=>202 | 5=>5 | 9=>9 | 218=>293 | 222=>297 | 228=>314 | 229=>315 | n=>n,fun | n=>n⟩
theorem Tryz.lays189:Go.Proofs.Lays.n189 Tryz.prog Tryz.lays189_ren:={
 mixed:=by kernel_rfl
 f125:=Tryz.func115.trans (congrArg some (by kernel_rfl))
 f128:=Tryz.func180.trans (congrArg some (by kernel_rfl))
 f129:=Tryz.func181.trans (congrArg some (by kernel_rfl))
 f189:=Tryz.func66.trans (congrArg some (by kernel_rfl))
 f215:=Tryz.func198.trans (congrArg some (by kernel_rfl))
 f216:=Tryz.func177.trans (congrArg some (by kernel_rfl))
 f257:=Tryz.func114.trans (congrArg some (by kernel_rfl))
 f294:=Tryz.func171.trans (congrArg some (by kernel_rfl))
 f295:=Tryz.func172.trans (congrArg some (by kernel_rfl))
 f296:=Tryz.func173.trans (congrArg some (by kernel_rfl))
 f297:=Tryz.func174.trans (congrArg some (by kernel_rfl))
 f298:=Tryz.func175.trans (congrArg some (by kernel_rfl))
 f299:=Tryz.func176.trans (congrArg some (by kernel_rfl))
 f300:=Tryz.func178.trans (congrArg some (by kernel_rfl))
 f301:=Tryz.func179.trans (congrArg some (by kernel_rfl))
 f328:=Tryz.func217.trans (congrArg some (by kernel_rfl))
 f329:=Tryz.func218.trans (congrArg some (by kernel_rfl))
 f330:=Tryz.func219.trans (congrArg some (by kernel_rfl))
 f331:=Tryz.func220.trans (congrArg some (by kernel_rfl))
 f332:=Tryz.func221.trans (congrArg some (by kernel_rfl))
 f343:=Tryz.func246.trans (congrArg some (by kernel_rfl))
 t0:=Tryz.underlying0
 a0:=Tryz.isAgg0
 z0:=Tryz.sizeOf0
 v0:=Tryz.zeroValue0
 t3:=Tryz.underlying3
 a3:=Tryz.isAgg3
 z3:=Tryz.sizeOf3
 v3:=Tryz.zeroValue3
 t4:=Tryz.underlying4
 a4:=Tryz.isAgg4
 z4:=Tryz.sizeOf4
 v4:=Tryz.zeroValue4
 t5:=Tryz.underlying5
 a5:=Tryz.isAgg5
 z5:=Tryz.sizeOf5
 v5:=Tryz.zeroValue5
 t9:=Tryz.underlying9
 a9:=Tryz.isAgg9
 z9:=Tryz.sizeOf9
 v9:=Tryz.zeroValue9
 t28:=Tryz.underlying30
 a28:=Tryz.isAgg30
 z28:=Tryz.sizeOf30
 v28:=Tryz.zeroValue30
 t46:=Tryz.underlying191
 a46:=Tryz.isAgg191
 z46:=Tryz.sizeOf191
 v46:=Tryz.zeroValue191
 t51:=Tryz.underlying256
 a51:=Tryz.isAgg256
 z51:=Tryz.sizeOf256
 v51:=Tryz.zeroValue256
 t53:=Tryz.underlying116
 a53:=Tryz.isAgg116
 z53:=Tryz.sizeOf116
 v53:=Tryz.zeroValue116
 t131:=Tryz.underlying202
 a131:=Tryz.isAgg202
 z131:=Tryz.sizeOf202
 v131:=Tryz.zeroValue202
 t182:=Tryz.underlying248
 a182:=Tryz.isAgg248
 z182:=Tryz.sizeOf248
 v182:=Tryz.zeroValue248
 t183:=Tryz.underlying249
 a183:=Tryz.isAgg249
 z183:=Tryz.sizeOf249
 v183:=Tryz.zeroValue249
 t218:=Tryz.underlying293
 a218:=Tryz.isAgg293
 z218:=Tryz.sizeOf293
 v218:=Tryz.zeroValue293
 t222:=Tryz.underlying297
 a222:=Tryz.isAgg297
 z222:=Tryz.sizeOf297
 v222:=Tryz.zeroValue297
 t228:=Tryz.underlying314
 a228:=Tryz.isAgg314
 z228:=Tryz.sizeOf314
 v228:=Tryz.zeroValue314
 t229:=Tryz.underlying315
 a229:=Tryz.isAgg315
 z229:=Tryz.sizeOf315
 v229:=Tryz.zeroValue315 }
open Go.Sort Go.RowKit in
theorem Tryz.slices_Sort_int(blk off cap:Nat)(zs:List Int)(w:World)(hH:Holds (Value.int .i64) w blk off zs.toArray)(hblk:blk < w.heap.size)(hsz:zs.length < 4611686018427387904) :
  Calls Tryz.prog 66 #[.slice (some ⟨blk,off,none⟩) zs.length cap] w fun e w' =>
   e=.returned (.tuple #[])/\∃ n os,w'=grow (putRow (Value.int .i64) (Sort.ahead w n) blk off (zs.mergeSort fun x y=>decide (x<=y)).toArray) os:=Any.slices_Sort_int Tryz.lays189 blk off cap zs w hH hblk hsz
end Go.Proofs
namespace Go.Ab.Pd
open Go.Proofs
theorem ckB_ok{a b c x y z p q r:Int}(hd:okD a b c)(hb:okB a b c x y z p q r):ckB a b c x y z p q r=0:=by rw[ckB,if_pos hd,if_pos hb]
def nodeV(a b c x y z i j k:Int):Int:=atV a b c ((x+i).tmod a) ((y+j).tmod b) ((z+k).tmod c)
def nodesX(a b c x y z p j k:Int):List Int:=upto (fun i=>[nodeV a b c x y z i j k]) 0 p.toNat
def nodesY(a b c x y z p q k:Int):List Int:=upto (fun j=>nodesX a b c x y z p j k) 0 q.toNat
def zAn(a b c x y z p q r:Int):List Int:=upto (fun k=>nodesY a b c x y z p q k) 0 r.toNat
theorem nodesX_length(a b c x y z p j k:Int):(nodesX a b c x y z p j k).length=p.toNat:=by
 unfold nodesX; rw[zDu _ 1 _ _ (fun _ _ _=>rfl),Nat.mul_one]
theorem nodesY_length(a b c x y z p q k:Int):(nodesY a b c x y z p q k).length=q.toNat*p.toNat:=by
 unfold nodesY; rw[zDu _ p.toNat _ _ (fun _ _ _=>nodesX_length ..)]
theorem nodesL_length(a b c x y z p q r:Int):(zAn a b c x y z p q r).length=r.toNat*(q.toNat*p.toNat):=by
 unfold zAn; rw[zDu _ (q.toNat*p.toNat) _ _ (fun _ _ _=>nodesY_length ..)]
theorem callable81:zDb Tryz.prog 66:=⟨_,Tryz.func66,rfl,by decide⟩
theorem sorts81:SortsInts Tryz.prog 66:=fun blk off cap zs w hH hb hs=>Tryz.slices_Sort_int blk off cap zs w hH hb hs
theorem e105:Ent Tryz.prog 105 Tryz.f105 [] 2:=.mk Tryz.func105 rfl
attribute [push_cast] Tryz.f105
theorem nodes_pur(a b c x y z p q r:Int)(hp:okD a b c/\okB a b c x y z p q r):Pur Tryz.prog GG 105 [.agg [I a,I b,I c],.agg [I x,I y,I z,I p,I q,I r]] (.tup [.isl ((srt (zAn a b c x y z p q r)).map IA),I 0]):=by
 have hck:=ckB_ok hp.1 hp.2;have hd:=hp.1;have hb:=hp.2;unfold okD at hd;unfold okB ok1 at hb;have ha0:¬a=0:=by omega
 have hb0:¬b=0:=by omega
 have hc0:¬c=0:=by omega
 have hLen:(zAn a b c x y z p q r).length<=16*(16*16):=by
  rw[nodesL_length];exact Nat.mul_le_mul (by omega) (Nat.mul_le_mul (by omega) (by omega))
 have hLen0:0 < (zAn a b c x y z p q r).length:=by
  rw[nodesL_length];exact Nat.mul_pos (by omega) (Nat.mul_pos (by omega) (by omega))
 refine goQ e105 T16_ok 0 ?_;simp(maxSteps:=2000000)only[push_cast,seval,↓kw2,hck];refine FW.loopInv (fun n ts H=>∃ k es s,k+(n:Int)=r/\0<=k/\es++upto (fun k=>nodesY a b c x y z p q k) k n=zAn a b c x y z p q r/\Own H s (es.map IA)/\zAt s≠some 0/\zAt s≠some 1 /\
  H[0]?=some (.cells [I a,I b,I c])/\H[1]?=some (.cells [I x,I y,I z,I p,I q,I r])/\ts 2=.ptr 0 0/\ts 3=.ptr 1 0/\ts 7=s/\ts 21=I r/\ts 22=I k) r.toNat
  ⟨0,[],_,by omega,by omega,rfl,.nil,by simp[zAt],by simp[zAt],rfl,rfl,rfl,rfl,rfl,rfl,rfl⟩ ?_
 rintro n ih ts H ⟨k,es,s,hk,hk0,hes,hown,hs0,hs1,h0,h1,t2,t3,t7,t21,t22⟩
 refine FW.inLoop ?_;refine goW T16_ok [] 0 ?_;simp(maxSteps:=2000000)only[push_cast,seval,↓kw2,hck,h0,h1,t2,t3,t7,t21,t22];refine⟨fun hlt=>?_,fun hge=>?_⟩
 ·obtain⟨n,rfl⟩:∃ n',n=n'+1:=⟨n - 1,by omega⟩;rw[zDi]at hes;refine FW.loopInv (fun m ts H=>∃ j es s,j+(m:Int)=q/\0<=j/\es++(upto (fun j=>nodesX a b c x y z p j k) j m++upto (fun k=>nodesY a b c x y z p q k) (k+1) n)=zAn a b c x y z p q r/\Own H s (es.map IA)/\zAt s≠some 0/\zAt s≠some 1 /\
   H[0]?=some (.cells [I a,I b,I c])/\H[1]?=some (.cells [I x,I y,I z,I p,I q,I r])/\ts 2=.ptr 0 0/\ts 3=.ptr 1 0/\ts 7=s/\ts 21=I r/\ts 22=I k/\ts 8=I k/\ts 27=I q/\ts 28=I j) q.toNat
   ⟨0,es,s,by omega,by omega,hes,hown,hs0,hs1,h0,h1,t2,t3,t7,t21,t22,rfl,rfl,rfl⟩ ?_
  clear hes hown hs0 hs1 h0 h1 t2 t3 t7 t21 t22
  rintro m ihy ts H ⟨j,es,s,hj,hj0,hes,hown,hs0,hs1,h0,h1,t2,t3,t7,t21,t22,t8,t27,t28⟩
  refine FW.inLoop ?_;refine goW T16_ok [] 0 ?_;simp(maxSteps:=2000000)only[push_cast,seval,↓kw2,hck,h0,h1,t2,t3,t7,t21,t22,t8,t27,t28];refine⟨fun hltj=>?_,fun hgej=>?_⟩
  ·obtain⟨m,rfl⟩:∃ m',m=m'+1:=⟨m - 1,by omega⟩;rw[zDi,List.append_assoc]at hes;refine FW.loopInv (fun l ts H=>∃ i es s,i+(l:Int)=p/\0<=i/\es++(upto (fun i=>[nodeV a b c x y z i j k]) i l++(upto (fun j=>nodesX a b c x y z p j k) (j+1) m++upto (fun k=>nodesY a b c x y z p q k) (k+1) n))=zAn a b c x y z p q r/\Own H s (es.map IA)/\zAt s≠some 0/\zAt s≠some 1 /\
    H[0]?=some (.cells [I a,I b,I c])/\H[1]?=some (.cells [I x,I y,I z,I p,I q,I r])/\ts 2=.ptr 0 0/\ts 3=.ptr 1 0/\ts 7=s/\ts 21=I r/\ts 22=I k/\ts 8=I k/\ts 27=I q/\ts 28=I j/\ts 9=I j/\ts 33=I p/\ts 34=I i) p.toNat
    ⟨0,es,s,by omega,by omega,hes,hown,hs0,hs1,h0,h1,t2,t3,t7,t21,t22,t8,t27,t28,rfl,rfl,rfl⟩ ?_
   clear hes hown hs0 hs1 h0 h1 t2 t3 t7 t21 t22 t8 t27 t28
   rintro l ihx ts H ⟨i,es,s,hi,hi0,hes,hown,hs0,hs1,h0,h1,t2,t3,t7,t21,t22,t8,t27,t28,t9,t33,t34⟩
   refine FW.inLoop ?_;have wx:=zAk (n:=x+i) (by omega) (by omega);have wy:=zAk (n:=y+j) (by omega) (by omega);have wz:=zAk (n:=z+k) (by omega) (by omega);have hap:=fun v=>aApp1 (P:=Tryz.prog) un30 un30 ze3 rfl by3 hown v
   refine goW T16_ok [] 0 ?_;simp(maxSteps:=2000000)only[push_cast,seval,↓kw2,hck,h0,h1,t2,t3,t7,t21,t22,t8,t27,t28,t9,t33,t34,wx,wy,wz,ha0,hb0,hc0,hap];refine⟨fun hlti=>⟨apC_of (by rw[List.length_map]; have:=len_le_of_append hes; omega) (by decide),?_⟩,fun hgei=>?_⟩
   ·have hl0:=zAb h0;have hl1:=zAb h1;rw[zAk (n:=i+1) (by omega) (by omega)];obtain⟨l,rfl⟩:∃ l',l=l'+1:=⟨l - 1,by omega⟩;refine ihx l (by omega) _ _ ⟨i+1,es++[nodeV a b c x y z i j k],.sl (H.length+1) 0 ((es.map IA).length+1) ((es.map IA).length+1),by omega,by omega,by rw[<- hes]; simp[zDi],apI,ownNe (by omega),ownNe (by omega),
     (apH_get hl0 hs0).trans h0,(apH_get hl1 hs1).trans h1,t2,t3,rfl,t21,t22,t8,t27,t28,t9,t33,rfl⟩
   ·have hl:l=0:=by omega
    subst hl;rw[zAk (n:=j+1) (by omega) (by omega)];refine ihy m (by omega) _ _ ⟨j+1,es,s,by omega,by omega,by simpa[upto]using hes,hown,hs0,hs1,h0,h1,t2,t3,t7,t21,t22,t8,t27,rfl⟩
  ·have hm:m=0:=by omega
   subst hm;rw[zAk (n:=k+1) (by omega) (by omega)];refine ih n (by omega) _ _ ⟨k+1,es,s,by omega,by omega,by simpa[upto]using hes,hown,hs0,hs1,h0,h1,t2,t3,t7,t21,rfl⟩
 ·have hn:n=0:=by omega
  subst hn;simp only[upto,List.append_nil]at hes;subst hes;refine Own.sort callable81 sorts81 hown hLen0 (by omega) ?_
  intro H' hown' hk'
  refine goW T16_ok [] 0 ?_;simp(maxSteps:=2000000)only[push_cast,seval,↓kw2,hck,t7];have hfr:frS ((srt (zAn a b c x y z p q r)).map IA)=.isl ((srt (zAn a b c x y z p q r)).map IA):=by
   cases hq:srt (zAn a b c x y z p q r)with
   | nil=>have:=zCs (zAn a b c x y z p q r); rw[hq]at this; simp at this; omega
   | cons=>rfl
  obtain⟨m,hm⟩:=hown'.done2 (v:=I 0) (zAi IA _ (fun _=>rfl)) rfl;exact⟨_,rfl,m,by rw[hm,hfr]⟩
@[push_cast] def g105:List AV->Option (Prop × AV)
 | [.agg [(.c (.int .i64 a)),(.c (.int .i64 b)),(.c (.int .i64 c))],.agg [(.c (.int .i64 x)),(.c (.int .i64 y)),(.c (.int .i64 z)),(.c (.int .i64 p)),(.c (.int .i64 q)),(.c (.int .i64 r))]]=>some (okD a b c/\okB a b c x y z p q r,.tup [.isl ((srt (zAn a b c x y z p q r)).map IA),I 0])
 | _=>none
theorem g105_ok:∀ args p,g105 args=some p->p.1->Pur Tryz.prog GG 105 args p.2:=by
 intro args p hp hc
 unfold g105 at hp
 split at hp
 ·cases hp;exact nodes_pur _ _ _ _ _ _ _ _ _ hc
 ·cases hp
@[push_cast] def T17:Tab:=Tab.ext T16 105 g105
theorem T17_ok:TOk Tryz.prog GG T17:=TOk.ext T16_ok g105_ok
end Go.Ab.Pd
