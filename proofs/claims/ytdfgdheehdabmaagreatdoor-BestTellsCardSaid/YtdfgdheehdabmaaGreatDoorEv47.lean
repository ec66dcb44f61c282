/- One of the texts that this claim stands on. -/
import Derived.Test.YtdfgdheehdabmaaGreatDoorEv45
import Derived.Test.YtdfgdheehdabmaaGreatDoorEv46
set_option maxHeartbeats 40000000
set_option maxRecDepth 400000
set_option linter.all false
namespace Go.Ab.Pd
open Go.Proofs Go.Sort
def oCd:List (Nat × Bool):=[(0,true),(1,true),(2,true),(3,true),(4,true),(5,true),(6,true),(7,true),(8,true),(9,true),(10,true),(11,true),(12,true),(13,false),(14,true),(15,true)]
def iCd:Nat→Bool:=fun i=>i==13
def oCe:List (Nat × Bool):=[(0,true),(1,true),(2,true),(3,true),(4,true),(5,true),(6,true),(7,true),(8,true),(9,true),(10,true),(11,true),(12,true),(13,false),(14,true),(15,true),(16,true)]
def iCe:Nat→Bool:=fun i=>i==13
theorem scanUp_yes{p:Plc→Bool}{d:Array Plc}{j i:Nat}(h1:i≤j)(h2:p d[i]! =true):scanUp p d j i=scanUp p d j (i+1):=by
 rw[scanUp,if_pos (by simp[h1,h2])]
theorem scanUp_no{p:Plc→Bool}{d:Array Plc}{j i:Nat}(h:¬(i≤j∧p d[i]! =true)):scanUp p d j i=i:=by
 rw[scanUp,if_neg (by simpa using h)]
theorem scanDown_yes{p:Plc→Bool}{d:Array Plc}{i j k:Nat}(hk:j=k+1)(h1:i≤j)(h2:p d[j]! =true):scanDown p d i j=scanDown p d i k:=by
 subst hk;rw[scanDown,if_pos (by simp[h1,h2])]
theorem zBx{p:Plc→Bool}{d:Array Plc}{i j:Nat}(h:¬(i≤j∧p d[j]! =true)):scanDown p d i j=j:=by
 cases j with
 | zero=>rfl
 | succ j=>rw[scanDown,if_neg (by simpa using h)]
theorem part_gt{lt:Plc→Plc→Bool}{d0 d:Array Plc}{a b pv i2 j2 i j:Nat}(hd:swp d0 a pv=d)(hi:i=a+1)(hj:j=b - 1)(h1:scanUp (fun y=>lt y d[a]!) d j i=i2)(h2:scanDown (fun y=>!lt y d[a]!) d i2 j=j2)(h:j2 < i2):partition lt d0 a b pv=(j2,true,swp d j2 a):=by
 subst hd hi hj h1 h2;unfold partition;exact if_pos h
theorem part_le{lt:Plc→Plc→Bool}{d0 d:Array Plc}{a b pv i2 j2 i j i3 j3:Nat}(hd:swp d0 a pv=d)(hi:i=a+1)(hj:j=b - 1)(h1:scanUp (fun y=>lt y d[a]!) d j i=i2)(h2:scanDown (fun y=>!lt y d[a]!) d i2 j=j2)(h:¬j2 < i2)(h3:i3=i2+1)(h4:j3=j2 - 1) :
  partition lt d0 a b pv=((partLoop lt a i3 j3 (swp d i2 j2)).1,false,swp (partLoop lt a i3 j3 (swp d i2 j2)).2 (partLoop lt a i3 j3 (swp d i2 j2)).1 a):=by
 subst hd hi hj h1 h2 h3 h4;unfold partition;exact if_neg h
theorem pl_gt{lt:Plc→Plc→Bool}{d:Array Plc}{a i2 j2 i j:Nat}(h1:scanUp (fun y=>lt y d[a]!) d j i=i2)(h2:scanDown (fun y=>!lt y d[a]!) d i2 j=j2)(h:j2 < i2):partLoop lt a i j d=(j2,d):=by
 rw[partLoop];simp only[h1,h2];exact if_pos h
theorem pl_le{lt:Plc→Plc→Bool}{d:Array Plc}{a i2 j2 i j i3 j3:Nat}(h1:scanUp (fun y=>lt y d[a]!) d j i=i2)(h2:scanDown (fun y=>!lt y d[a]!) d i2 j=j2)(h:¬j2 < i2)(hi:i≤i2)(hj:j2≤j)(h0:1≤i)(h3:i3=i2+1)(h4:j3=j2 - 1):partLoop lt a i j d=partLoop lt a i3 j3 (swp d i2 j2):=by
 subst h3 h4;rw[partLoop];simp only[h1,h2];rw[if_neg h,dif_pos (by omega)]
theorem e83:Ent Tryz.prog 83 Tryz.f83 [3,5,13,15] 5:=.mk Tryz.func83 rfl
attribute [push_cast] Tryz.f83
theorem part_ac{x:Cx}(hx:x.ok){a b pv:Nat}(hap:a≤pv)(hpb:pv < b)(hb:b≤x.n)(h2b:a+2≤b){H0:List AO}{d0:Array Plc}(h:Inv x H0 d0){K:AV→List AO→Prop}(hK:∀ H',Inv x H' (partition x.lt d0 a b pv).2.2→Stp x H0 H'→K (.tup [I ((partition x.lt d0 a b pv).1:Int),B (partition x.lt d0 a b pv).2.1]) H') :
  AC Tryz.prog GG 83 [.sl x.R 0 x.n x.cap,I (a:Int),I (b:Int),I (pv:Int),.fn 38 [] [.ptr x.D 0,.ptr x.F 0]] H0 K:=by
 have hn:=hx.n;have hsz:=h.n;obtain⟨i,hi⟩:∃ r,r=a+1:=⟨_,rfl⟩;obtain⟨j,hj⟩:∃ r,r=b - 1:=⟨_,rfl⟩;have wi:IntKind.i64.wrap ((a:Int)+1)=(i:Int):=by rw[zAf (n:=(a:Int)+1) (by omega) (by omega)]; omega
 have wj:IntKind.i64.wrap ((b:Int) - 1)=(j:Int):=by rw[zAf (n:=(b:Int) - 1) (by omega) (by omega)]; omega
 have gR:=zAi (x:=x) (d:=d0) (i:=a) (by omega);have lR:=zAj (x:=x) (d:=d0) (i:=a) (by omega);have gC:=zAi (x:=x) (d:=d0) (i:=pv) (by omega);have lC:=zAj (x:=x) (d:=d0) (i:=pv) (by omega);have hr:=h.row;have hsw:=zCg (x:=x) (d:=d0) (i:=a) (j:=pv) (by omega) (by omega);have hpost:=h.swap (i:=a) (j:=pv) (by omega) (by omega);rw[← hsw]at hpost;have hrs:∀ v,(H0.set x.R v)[x.R]?=some v:=fun v=>List.getElem?_set_self h.lt.1
 generalize d0[a]! =U0 at gR hsw hpost
 generalize d0[pv]! =V0 at gC hsw hpost
 obtain⟨Z,hz⟩:=zBp x (d:=d0) (i:=pv) (j:=a) (by omega) V0;simp only[Plc.av]at hz;have cU:=Plc.cells U0;have cV:=Plc.cells V0
 generalize hd:swp d0 a pv=d at hpost
 have hsz:d.size=x.n:=by rw[← hd,zEp]; exact hsz
 refine goE e83 TOk.nil 0 ?_;simp(maxSteps:=2000000)only[push_cast,seval,↓kw2,wi,wj,hr,hrs,hz,gR,lR,gC,lC,cU,cV,Plc.av,List.set_set,List.length_set,Int.toNat_natCast,List.contains_cons,Bool.true_or,Bool.false_or,Bool.or_true,Bool.or_false,Bool.or_self]
 repeat (refine⟨⟨by omega,by omega⟩,?_⟩)
 clear hr hrs hz gR gC lR lC hsw cU cV wi wj;apply FW.cut (Inv:=fun ts' H'=>∃(i2 j2:Nat),scanUp (fun y=>x.lt y d[a]!) d j i=i2∧scanDown (fun y=>!x.lt y d[a]!) d i2 j=j2∧i≤i2∧j2≤j∧Inv x H' d∧Stp x H0 H'∧ts' 0=.sl x.R 0 x.n x.cap∧ts' 1=I (a:Int)∧ts' 4=.fn 38 [] [.ptr x.D 0,.ptr x.F 0]∧ts' 12=I (i2:Int)∧ts' 13=I (j2:Int))
 case h1 =>
  have h9:=hpost;have hst:Stp x H0 _:=Stp.row (v:=.arr 9 (((rowA x d0).set a V0.av).set pv U0.av));refine FW.loopInv (fun m ts H=>∃(i2:Nat),m=j+1 - i2∧i≤i2∧scanUp (fun y=>x.lt y d[a]!) d j i2=scanUp (fun y=>x.lt y d[a]!) d j i∧Inv x H d∧Stp x H0 H∧ts 0=.sl x.R 0 x.n x.cap∧ts 1=I (a:Int)∧ts 4=.fn 38 [] [.ptr x.D 0,.ptr x.F 0]∧ts 12=I (i2:Int)∧ts 13=I (j:Int)) (j+1 - i)
   ⟨i,rfl,Nat.le_refl _,rfl,h9,hst,rfl,rfl,rfl,rfl,rfl⟩ ?_
  try clear h9 hst
  rintro m ih1 ts H' ⟨i2,hi2,hii,hsu,h9,hst,t0,t1,t4,ti,tj⟩
  refine FW.inLoop ?_
  by_cases hle1:i2≤j
  ·have dl:decide ((i2:Int)≤(j:Int))=true:=decide_eq_true (by omega);have gX:=zAi (x:=x) (d:=d) (i:=i2) (by omega);have lX:=zAj (x:=x) (d:=d) (i:=i2) (by omega);have gY:=zAi (x:=x) (d:=d) (i:=a) (by omega);have lY:=zAj (x:=x) (d:=d) (i:=a) (by omega);have hr:=h9.row;have hcc:=zBr hx h9 (i:=i2) (j:=a) (by omega) (by omega)
   generalize hX:d[i2]! =X at gX hcc
   generalize hY:d[a]! =Y at gY hcc
   have cX:=Plc.cells X;have cY:=Plc.cells Y;refine goW TOk.nil [3,5,13,15] 0 ?_;simp(maxSteps:=2000000)only[push_cast,seval,↓kw2,t0,t1,t4,ti,tj,List.contains_cons,Bool.true_or,Bool.false_or,Bool.or_true,Bool.or_false,Bool.or_self];refine FW.walkH hmix (imp:=iCd) (l:=oCd) (by kernel_rfl) (by kernel_rfl) ?_;simp only[oCd];simp(maxSteps:=2000000)only[push_cast,seval,↓kw2,zAo,zAn,zAh,↓zAc,Bool.or_false,Bool.or_true,Bool.true_or,Bool.false_or,Bool.or_self,Nat.add_assoc,zAd,zAr,wat,clOf,Int.toNat_natCast,iCd,t0,t1,t4,ti,tj,dl,hr,gX,lX,gY,lY,cX,cY,Plc.av];refine⟨⟨by omega,by omega⟩,⟨by omega,by omega⟩,?_⟩;refine hcc _ fun H3 h3 st3=>⟨?_,?_⟩
   ·repeat' (first | apply And.intro | (intro h; exact absurd (h.symm.trans (by kernel_rfl)) Bool.false_ne_true))
   cases hlt:x.lt X Y
   ·have hcd:decide (cmpS x.a x.b x.c x.sc X Y < 0)=false:=hlt;have hp:(fun y=>x.lt y d[a]!) d[i2]! =false:=by
     simp only[hX,hY,hlt,Bool.not_true,Bool.not_false]
    simp(maxSteps:=2000000)only[push_cast,seval,↓kw2,zAo,zAn,zAh,↓zAc,Bool.or_false,Bool.or_true,Bool.true_or,Bool.false_or,Bool.or_self,Nat.add_assoc,zAd,zAr,wat,clOf,Int.toNat_natCast,iCd,hcd];subst hX;subst hY;have hendi2:=hsu.symm.trans (scanUp_no (fun e=>Bool.false_ne_true (hp.symm.trans e.2)));refine goW TOk.nil [3,5,13,15] 0 ?_;simp(maxSteps:=2000000)only[push_cast,seval,↓kw2,t0,t1,t4,ti,tj,List.contains_cons,Bool.true_or,Bool.false_or,Bool.or_true,Bool.or_false,Bool.or_self];have h8:=h3;have hst8:=(hst.trans st3);refine FW.loopInv (fun m ts H=>∃(j2:Nat),m=j2∧j2≤j∧scanDown (fun y=>!x.lt y d[a]!) d i2 j2=scanDown (fun y=>!x.lt y d[a]!) d i2 j∧Inv x H d∧Stp x H0 H∧ts 0=.sl x.R 0 x.n x.cap∧ts 1=I (a:Int)∧ts 4=.fn 38 [] [.ptr x.D 0,.ptr x.F 0]∧ts 12=I (i2:Int)∧ts 13=I (j2:Int)) j
     ⟨j,rfl,Nat.le_refl _,rfl,h8,hst8,t0,t1,t4,ti,tj⟩ ?_
    try clear h8 hst8 t0 t1 t4 ti tj
    rintro m ih2 ts H' ⟨j2,hj2,hjj,hsd,h8,hst8,t0,t1,t4,ti,tj⟩
    refine FW.inLoop ?_
    by_cases hle2:i2≤j2
    ·have dl:decide ((i2:Int)≤(j2:Int))=true:=decide_eq_true (by omega);have gX:=zAi (x:=x) (d:=d) (i:=j2) (by omega);have lX:=zAj (x:=x) (d:=d) (i:=j2) (by omega);have gY:=zAi (x:=x) (d:=d) (i:=a) (by omega);have lY:=zAj (x:=x) (d:=d) (i:=a) (by omega);have hr:=h8.row;have hcc:=zBr hx h8 (i:=j2) (j:=a) (by omega) (by omega)
     generalize hX:d[j2]! =X at gX hcc
     generalize hY:d[a]! =Y at gY hcc
     have cX:=Plc.cells X;have cY:=Plc.cells Y;refine goW TOk.nil [3,5,13,15] 0 ?_;simp(maxSteps:=2000000)only[push_cast,seval,↓kw2,t0,t1,t4,ti,tj,List.contains_cons,Bool.true_or,Bool.false_or,Bool.or_true,Bool.or_false,Bool.or_self];refine FW.walkH hmix (imp:=iCe) (l:=oCe) (by kernel_rfl) (by kernel_rfl) ?_;simp only[oCe];simp(maxSteps:=2000000)only[push_cast,seval,↓kw2,zAo,zAn,zAh,↓zAc,Bool.or_false,Bool.or_true,Bool.true_or,Bool.false_or,Bool.or_self,Nat.add_assoc,zAd,zAr,wat,clOf,Int.toNat_natCast,iCe,t0,t1,t4,ti,tj,dl,hr,gX,lX,gY,lY,cX,cY,Plc.av];refine⟨⟨by omega,by omega⟩,⟨by omega,by omega⟩,?_⟩;refine hcc _ fun H3 h3 st3=>⟨?_,?_⟩
     ·repeat' (first | apply And.intro | (intro h; exact absurd (h.symm.trans (by kernel_rfl)) Bool.false_ne_true))
     cases hlt:x.lt X Y
     ·have hcd:decide (cmpS x.a x.b x.c x.sc X Y < 0)=false:=hlt;have hp:(fun y=>!x.lt y d[a]!) d[j2]! =true:=by
       simp only[hX,hY,hlt,Bool.not_true,Bool.not_false]
      simp(maxSteps:=2000000)only[push_cast,seval,↓kw2,zAo,zAn,zAh,↓zAc,Bool.or_false,Bool.or_true,Bool.true_or,Bool.false_or,Bool.or_self,Nat.add_assoc,zAd,zAr,wat,clOf,Int.toNat_natCast,iCe,hcd];subst hX;subst hY;obtain⟨q,hq⟩:∃ q,j2=q+1:=⟨j2 - 1,by omega⟩;have w1:IntKind.i64.wrap ((j2:Int) - 1)=(q:Int):=by rw[zAf (n:=(j2:Int) - 1) (by omega) (by omega)]; omega
      refine goW TOk.nil [3,5,13,15] 0 ?_;simp(maxSteps:=2000000)only[push_cast,seval,↓kw2,t0,t1,t4,ti,tj,w1,List.contains_cons,Bool.true_or,Bool.false_or,Bool.or_true,Bool.or_false,Bool.or_self];refine ih2 q (by omega) _ _ ?_;exact⟨q,rfl,by omega,(scanDown_yes hq hle2 hp).symm.trans hsd,h3,hst8.trans st3,t0,t1,t4,ti,rfl⟩
     ·have hcd:decide (cmpS x.a x.b x.c x.sc X Y < 0)=true:=hlt;have hp:(fun y=>!x.lt y d[a]!) d[j2]! =false:=by
       simp only[hX,hY,hlt,Bool.not_true,Bool.not_false]
      simp(maxSteps:=2000000)only[push_cast,seval,↓kw2,zAo,zAn,zAh,↓zAc,Bool.or_false,Bool.or_true,Bool.true_or,Bool.false_or,Bool.or_self,Nat.add_assoc,zAd,zAr,wat,clOf,Int.toNat_natCast,iCe,hcd];subst hX;subst hY;have hendj2:=hsd.symm.trans (zBx (fun e=>Bool.false_ne_true (hp.symm.trans e.2)));refine walk hmix TOk.nil [3,5,13,15] 5 0 (by kernel_rfl) ?_;simp(maxSteps:=2000000)only[push_cast,seval,↓kw2,t0,t1,t4,ti,tj,List.contains_cons,Bool.true_or,Bool.false_or,Bool.or_true,Bool.or_false,Bool.or_self];refine FW.here ?_;exact⟨i2,j2,hendi2,hendj2,by omega,by omega,h3,(hst8.trans st3),t0,t1,t4,ti,tj⟩
    ·have dl:decide ((i2:Int)≤(j2:Int))=false:=decide_eq_false (by omega);have hendj2:=hsd.symm.trans (zBx (fun e=>hle2 e.1));refine goW TOk.nil [3,5,13,15] 0 ?_;simp(maxSteps:=2000000)only[push_cast,seval,↓kw2,t0,t1,t4,ti,tj,List.contains_cons,Bool.true_or,Bool.false_or,Bool.or_true,Bool.or_false,Bool.or_self];refine FW.walkH hmix (imp:=iCe) (l:=oCe) (by kernel_rfl) (by kernel_rfl) ?_;simp only[oCe];simp(maxSteps:=2000000)only[push_cast,seval,↓kw2,zAo,zAn,zAh,↓zAc,Bool.or_false,Bool.or_true,Bool.true_or,Bool.false_or,Bool.or_self,Nat.add_assoc,zAd,zAr,wat,clOf,Int.toNat_natCast,iCe,t0,t1,t4,ti,tj,dl];refine walk hmix TOk.nil [3,5,13,15] 5 0 (by kernel_rfl) ?_;simp(maxSteps:=2000000)only[push_cast,seval,↓kw2,t0,t1,t4,ti,tj,List.contains_cons,Bool.true_or,Bool.false_or,Bool.or_true,Bool.or_false,Bool.or_self];refine FW.here ?_;exact⟨i2,j2,hendi2,hendj2,by omega,by omega,h8,hst8,t0,t1,t4,ti,tj⟩
   ·have hcd:decide (cmpS x.a x.b x.c x.sc X Y < 0)=true:=hlt;have hp:(fun y=>x.lt y d[a]!) d[i2]! =true:=by
     simp only[hX,hY,hlt,Bool.not_true,Bool.not_false]
    simp(maxSteps:=2000000)only[push_cast,seval,↓kw2,zAo,zAn,zAh,↓zAc,Bool.or_false,Bool.or_true,Bool.true_or,Bool.false_or,Bool.or_self,Nat.add_assoc,zAd,zAr,wat,clOf,Int.toNat_natCast,iCd,hcd];subst hX;subst hY;have w1:=zAf (n:=(i2:Int)+1) (by omega) (by omega);refine goW TOk.nil [3,5,13,15] 0 ?_;simp(maxSteps:=2000000)only[push_cast,seval,↓kw2,t0,t1,t4,ti,tj,w1,List.contains_cons,Bool.true_or,Bool.false_or,Bool.or_true,Bool.or_false,Bool.or_self];refine ih1 (j+1 - (i2+1)) (by omega) _ _ ?_;exact⟨i2+1,rfl,by omega,(scanUp_yes hle1 hp).symm.trans hsu,h3,hst.trans st3,t0,t1,t4,rfl,tj⟩
  ·have dl:decide ((i2:Int)≤(j:Int))=false:=decide_eq_false (by omega);have hendi2:=hsu.symm.trans (scanUp_no (fun e=>hle1 e.1));refine goW TOk.nil [3,5,13,15] 0 ?_;simp(maxSteps:=2000000)only[push_cast,seval,↓kw2,t0,t1,t4,ti,tj,List.contains_cons,Bool.true_or,Bool.false_or,Bool.or_true,Bool.or_false,Bool.or_self];refine FW.walkH hmix (imp:=iCd) (l:=oCd) (by kernel_rfl) (by kernel_rfl) ?_;simp only[oCd];simp(maxSteps:=2000000)only[push_cast,seval,↓kw2,zAo,zAn,zAh,↓zAc,Bool.or_false,Bool.or_true,Bool.true_or,Bool.false_or,Bool.or_self,Nat.add_assoc,zAd,zAr,wat,clOf,Int.toNat_natCast,iCd,t0,t1,t4,ti,tj,dl];refine goW TOk.nil [3,5,13,15] 0 ?_;simp(maxSteps:=2000000)only[push_cast,seval,↓kw2,t0,t1,t4,ti,tj,List.contains_cons,Bool.true_or,Bool.false_or,Bool.or_true,Bool.or_false,Bool.or_self];have h8:=h9;have hst8:=hst;refine FW.loopInv (fun m ts H=>∃(j2:Nat),m=j2∧j2≤j∧scanDown (fun y=>!x.lt y d[a]!) d i2 j2=scanDown (fun y=>!x.lt y d[a]!) d i2 j∧Inv x H d∧Stp x H0 H∧ts 0=.sl x.R 0 x.n x.cap∧ts 1=I (a:Int)∧ts 4=.fn 38 [] [.ptr x.D 0,.ptr x.F 0]∧ts 12=I (i2:Int)∧ts 13=I (j2:Int)) j
    ⟨j,rfl,Nat.le_refl _,rfl,h8,hst8,t0,t1,t4,ti,tj⟩ ?_
   try clear h8 hst8 t0 t1 t4 ti tj
   rintro m ih2 ts H' ⟨j2,hj2,hjj,hsd,h8,hst8,t0,t1,t4,ti,tj⟩
   refine FW.inLoop ?_
   by_cases hle2:i2≤j2
   ·have dl:decide ((i2:Int)≤(j2:Int))=true:=decide_eq_true (by omega);have gX:=zAi (x:=x) (d:=d) (i:=j2) (by omega);have lX:=zAj (x:=x) (d:=d) (i:=j2) (by omega);have gY:=zAi (x:=x) (d:=d) (i:=a) (by omega);have lY:=zAj (x:=x) (d:=d) (i:=a) (by omega);have hr:=h8.row;have hcc:=zBr hx h8 (i:=j2) (j:=a) (by omega) (by omega)
    generalize hX:d[j2]! =X at gX hcc
    generalize hY:d[a]! =Y at gY hcc
    have cX:=Plc.cells X;have cY:=Plc.cells Y;refine goW TOk.nil [3,5,13,15] 0 ?_;simp(maxSteps:=2000000)only[push_cast,seval,↓kw2,t0,t1,t4,ti,tj,List.contains_cons,Bool.true_or,Bool.false_or,Bool.or_true,Bool.or_false,Bool.or_self];refine FW.walkH hmix (imp:=iCe) (l:=oCe) (by kernel_rfl) (by kernel_rfl) ?_;simp only[oCe];simp(maxSteps:=2000000)only[push_cast,seval,↓kw2,zAo,zAn,zAh,↓zAc,Bool.or_false,Bool.or_true,Bool.true_or,Bool.false_or,Bool.or_self,Nat.add_assoc,zAd,zAr,wat,clOf,Int.toNat_natCast,iCe,t0,t1,t4,ti,tj,dl,hr,gX,lX,gY,lY,cX,cY,Plc.av];refine⟨⟨by omega,by omega⟩,⟨by omega,by omega⟩,?_⟩;refine hcc _ fun H3 h3 st3=>⟨?_,?_⟩
    ·repeat' (first | apply And.intro | (intro h; exact absurd (h.symm.trans (by kernel_rfl)) Bool.false_ne_true))
    cases hlt:x.lt X Y
    ·have hcd:decide (cmpS x.a x.b x.c x.sc X Y < 0)=false:=hlt;have hp:(fun y=>!x.lt y d[a]!) d[j2]! =true:=by
      simp only[hX,hY,hlt,Bool.not_true,Bool.not_false]
     simp(maxSteps:=2000000)only[push_cast,seval,↓kw2,zAo,zAn,zAh,↓zAc,Bool.or_false,Bool.or_true,Bool.true_or,Bool.false_or,Bool.or_self,Nat.add_assoc,zAd,zAr,wat,clOf,Int.toNat_natCast,iCe,hcd];subst hX;subst hY;obtain⟨q,hq⟩:∃ q,j2=q+1:=⟨j2 - 1,by omega⟩;have w1:IntKind.i64.wrap ((j2:Int) - 1)=(q:Int):=by rw[zAf (n:=(j2:Int) - 1) (by omega) (by omega)]; omega
     refine goW TOk.nil [3,5,13,15] 0 ?_;simp(maxSteps:=2000000)only[push_cast,seval,↓kw2,t0,t1,t4,ti,tj,w1,List.contains_cons,Bool.true_or,Bool.false_or,Bool.or_true,Bool.or_false,Bool.or_self];refine ih2 q (by omega) _ _ ?_;exact⟨q,rfl,by omega,(scanDown_yes hq hle2 hp).symm.trans hsd,h3,hst8.trans st3,t0,t1,t4,ti,rfl⟩
    ·have hcd:decide (cmpS x.a x.b x.c x.sc X Y < 0)=true:=hlt;have hp:(fun y=>!x.lt y d[a]!) d[j2]! =false:=by
      simp only[hX,hY,hlt,Bool.not_true,Bool.not_false]
     simp(maxSteps:=2000000)only[push_cast,seval,↓kw2,zAo,zAn,zAh,↓zAc,Bool.or_false,Bool.or_true,Bool.true_or,Bool.false_or,Bool.or_self,Nat.add_assoc,zAd,zAr,wat,clOf,Int.toNat_natCast,iCe,hcd];subst hX;subst hY;have hendj2:=hsd.symm.trans (zBx (fun e=>Bool.false_ne_true (hp.symm.trans e.2)));refine walk hmix TOk.nil [3,5,13,15] 5 0 (by kernel_rfl) ?_;simp(maxSteps:=2000000)only[push_cast,seval,↓kw2,t0,t1,t4,ti,tj,List.contains_cons,Bool.true_or,Bool.false_or,Bool.or_true,Bool.or_false,Bool.or_self];refine FW.here ?_;exact⟨i2,j2,hendi2,hendj2,by omega,by omega,h3,(hst8.trans st3),t0,t1,t4,ti,tj⟩
   ·have dl:decide ((i2:Int)≤(j2:Int))=false:=decide_eq_false (by omega);have hendj2:=hsd.symm.trans (zBx (fun e=>hle2 e.1));refine goW TOk.nil [3,5,13,15] 0 ?_;simp(maxSteps:=2000000)only[push_cast,seval,↓kw2,t0,t1,t4,ti,tj,List.contains_cons,Bool.true_or,Bool.false_or,Bool.or_true,Bool.or_false,Bool.or_self];refine FW.walkH hmix (imp:=iCe) (l:=oCe) (by kernel_rfl) (by kernel_rfl) ?_;simp only[oCe];simp(maxSteps:=2000000)only[push_cast,seval,↓kw2,zAo,zAn,zAh,↓zAc,Bool.or_false,Bool.or_true,Bool.true_or,Bool.false_or,Bool.or_self,Nat.add_assoc,zAd,zAr,wat,clOf,Int.toNat_natCast,iCe,t0,t1,t4,ti,tj,dl];refine walk hmix TOk.nil [3,5,13,15] 5 0 (by kernel_rfl) ?_;simp(maxSteps:=2000000)only[push_cast,seval,↓kw2,t0,t1,t4,ti,tj,List.contains_cons,Bool.true_or,Bool.false_or,Bool.or_true,Bool.or_false,Bool.or_self];refine FW.here ?_;exact⟨i2,j2,hendi2,hendj2,by omega,by omega,h8,hst8,t0,t1,t4,ti,tj⟩
 case ht=>intro _; kernel_rfl
 case h2 =>
  rintro ts' H' ⟨i2,j2,e1,e2,b1,b2,h9,hst,t0,t1,t4,ti,tj⟩
  clear hpost h
  by_cases hg:j2 < i2
  ·have dg:decide ((j2:Int) < (i2:Int))=true:=decide_eq_true (by omega);rw[part_gt hd hi hj e1 e2 hg]at hK;have gR:=zAi (x:=x) (d:=d) (i:=j2) (by omega);have lR:=zAj (x:=x) (d:=d) (i:=j2) (by omega);have gC:=zAi (x:=x) (d:=d) (i:=a) (by omega);have lC:=zAj (x:=x) (d:=d) (i:=a) (by omega);have hr:=h9.row;have hsw:=zCg (x:=x) (d:=d) (i:=j2) (j:=a) (by omega) (by omega);have hpost:=h9.swap (i:=j2) (j:=a) (by omega) (by omega);rw[← hsw]at hpost;have hrs:∀ v,(H'.set x.R v)[x.R]?=some v:=fun v=>List.getElem?_set_self h9.lt.1
   generalize d[j2]! =U0 at gR hsw hpost
   generalize d[a]! =V0 at gC hsw hpost
   obtain⟨Z,hz⟩:=zBp x (d:=d) (i:=a) (j:=j2) (by omega) V0;simp only[Plc.av]at hz;have cU:=Plc.cells U0;have cV:=Plc.cells V0;refine goW TOk.nil [3,5,13,15] 0 ?_;simp(maxSteps:=2000000)only[push_cast,seval,↓kw2,t0,t1,t4,ti,tj,gt_iff_lt,dg,hr,hrs,hz,gR,lR,gC,lC,cU,cV,Plc.av,List.set_set,List.length_set,Int.toNat_natCast,List.contains_cons,Bool.true_or,Bool.false_or,Bool.or_true,Bool.or_false,Bool.or_self]
   repeat (refine⟨⟨by omega,by omega⟩,?_⟩)
   exact⟨_,rfl,hK _ hpost (hst.trans .row)⟩
  have dg:decide ((j2:Int) < (i2:Int))=false:=decide_eq_false (by omega);obtain⟨i3,hi3⟩:∃ r,r=i2+1:=⟨_,rfl⟩;obtain⟨j3,hj3⟩:∃ r,r=j2 - 1:=⟨_,rfl⟩;have wi:IntKind.i64.wrap ((i2:Int)+1)=(i3:Int):=by rw[zAf (n:=(i2:Int)+1) (by omega) (by omega)]; omega
  have wj:IntKind.i64.wrap ((j2:Int) - 1)=(j3:Int):=by rw[zAf (n:=(j2:Int) - 1) (by omega) (by omega)]; omega
  rw[part_le hd hi hj e1 e2 hg hi3 hj3]at hK;have gR:=zAi (x:=x) (d:=d) (i:=i2) (by omega);have lR:=zAj (x:=x) (d:=d) (i:=i2) (by omega);have gC:=zAi (x:=x) (d:=d) (i:=j2) (by omega);have lC:=zAj (x:=x) (d:=d) (i:=j2) (by omega);have hr:=h9.row;have hsw:=zCg (x:=x) (d:=d) (i:=i2) (j:=j2) (by omega) (by omega);have hpost:=h9.swap (i:=i2) (j:=j2) (by omega) (by omega);rw[← hsw]at hpost;have hrs:∀ v,(H'.set x.R v)[x.R]?=some v:=fun v=>List.getElem?_set_self h9.lt.1
  generalize d[i2]! =U0 at gR hsw hpost
  generalize d[j2]! =V0 at gC hsw hpost
  obtain⟨Z,hz⟩:=zBp x (d:=d) (i:=j2) (j:=i2) (by omega) V0;simp only[Plc.av]at hz;have cU:=Plc.cells U0;have cV:=Plc.cells V0;refine goW TOk.nil [3,5,13,15] 0 ?_;simp(maxSteps:=2000000)only[push_cast,seval,↓kw2,t0,t1,t4,ti,tj,gt_iff_lt,dg,wi,wj,hr,hrs,hz,gR,lR,gC,lC,cU,cV,Plc.av,List.set_set,List.length_set,Int.toNat_natCast,List.contains_cons,Bool.true_or,Bool.false_or,Bool.or_true,Bool.or_false,Bool.or_self]
  repeat (refine⟨⟨by omega,by omega⟩,?_⟩)
  have hsz2:(swp d i2 j2).size=x.n:=by rw[zEp]; exact hsz
  have hst2:Stp x H0 (H'.set x.R (.arr 9 (((rowA x d).set i2 V0.av).set j2 U0.av))):=hst.trans .row
  generalize swp d i2 j2=d9 at hK hpost hsz2
  clear hr hrs hz gR gC lR lC hsw cU cV;refine FW.loopInv (fun m ts H=>∃(i4 j4:Nat) (d4:Array Plc),m=j4+1 - i4∧a < i4∧j4 < b∧d4.size=x.n∧partLoop x.lt a i4 j4 d4=partLoop x.lt a i3 j3 d9∧Inv x H d4∧Stp x H0 H∧ts 0=.sl x.R 0 x.n x.cap∧ts 1=I (a:Int)∧ts 4=.fn 38 [] [.ptr x.D 0,.ptr x.F 0]∧ts 12=I (i4:Int)∧ts 13=I (j4:Int)) (j3+1 - i3)
   ⟨i3,j3,d9,rfl,by omega,by omega,hsz2,rfl,hpost,hst2,t0,t1,t4,rfl,rfl⟩ ?_
  clear hpost hst2 hst t0 t1 t4 ti tj e1 e2 hsz2 h9
  rintro m ih9 ts H ⟨i4,j4,d4,hm,hai,hjb,hsz4,hres,h,hst,t0,t1,t4,ti,tj⟩
  refine FW.inLoop ?_;refine goW TOk.nil [3,5,13,15] 0 ?_;simp(maxSteps:=2000000)only[push_cast,seval,↓kw2,List.contains_cons,Bool.true_or,Bool.false_or,Bool.or_true,Bool.or_false,Bool.or_self];apply FW.cut (Inv:=fun ts' H'=>∃(i2 j2:Nat),scanUp (fun y=>x.lt y d4[a]!) d4 j4 i4=i2∧scanDown (fun y=>!x.lt y d4[a]!) d4 i2 j4=j2∧i4≤i2∧j2≤j4∧Inv x H' d4∧Stp x H0 H'∧ts' 0=.sl x.R 0 x.n x.cap∧ts' 1=I (a:Int)∧ts' 4=.fn 38 [] [.ptr x.D 0,.ptr x.F 0]∧ts' 12=I (i2:Int)∧ts' 13=I (j2:Int))
  case h1 =>
   refine FW.loopInv (fun m ts H=>∃(i2:Nat),m=j4+1 - i2∧i4≤i2∧scanUp (fun y=>x.lt y d4[a]!) d4 j4 i2=scanUp (fun y=>x.lt y d4[a]!) d4 j4 i4∧Inv x H d4∧Stp x H0 H∧ts 0=.sl x.R 0 x.n x.cap∧ts 1=I (a:Int)∧ts 4=.fn 38 [] [.ptr x.D 0,.ptr x.F 0]∧ts 12=I (i2:Int)∧ts 13=I (j4:Int)) (j4+1 - i4)
    ⟨i4,rfl,Nat.le_refl _,rfl,h,hst,t0,t1,t4,ti,tj⟩ ?_
   try clear h hst t0 t1 t4 ti tj
   rintro m ih5 ts H' ⟨i2,hi2,hii,hsu,h,hst,t0,t1,t4,ti,tj⟩
   refine FW.inLoop ?_
   by_cases hle5:i2≤j4
   ·have dl:decide ((i2:Int)≤(j4:Int))=true:=decide_eq_true (by omega);have gX:=zAi (x:=x) (d:=d4) (i:=i2) (by omega);have lX:=zAj (x:=x) (d:=d4) (i:=i2) (by omega);have gY:=zAi (x:=x) (d:=d4) (i:=a) (by omega);have lY:=zAj (x:=x) (d:=d4) (i:=a) (by omega);have hr:=h.row;have hcc:=zBr hx h (i:=i2) (j:=a) (by omega) (by omega)
    generalize hX:d4[i2]! =X at gX hcc
    generalize hY:d4[a]! =Y at gY hcc
    have cX:=Plc.cells X;have cY:=Plc.cells Y;refine goW TOk.nil [3,5,13,15] 0 ?_;simp(maxSteps:=2000000)only[push_cast,seval,↓kw2,t0,t1,t4,ti,tj,List.contains_cons,Bool.true_or,Bool.false_or,Bool.or_true,Bool.or_false,Bool.or_self];refine FW.walkH hmix (imp:=iCd) (l:=oCd) (by kernel_rfl) (by kernel_rfl) ?_;simp only[oCd];simp(maxSteps:=2000000)only[push_cast,seval,↓kw2,zAo,zAn,zAh,↓zAc,Bool.or_false,Bool.or_true,Bool.true_or,Bool.false_or,Bool.or_self,Nat.add_assoc,zAd,zAr,wat,clOf,Int.toNat_natCast,iCd,t0,t1,t4,ti,tj,dl,hr,gX,lX,gY,lY,cX,cY,Plc.av];refine⟨⟨by omega,by omega⟩,⟨by omega,by omega⟩,?_⟩;refine hcc _ fun H3 h3 st3=>⟨?_,?_⟩
    ·repeat' (first | apply And.intro | (intro h; exact absurd (h.symm.trans (by kernel_rfl)) Bool.false_ne_true))
    cases hlt:x.lt X Y
    ·have hcd:decide (cmpS x.a x.b x.c x.sc X Y < 0)=false:=hlt;have hp:(fun y=>x.lt y d4[a]!) d4[i2]! =false:=by
      simp only[hX,hY,hlt,Bool.not_true,Bool.not_false]
     simp(maxSteps:=2000000)only[push_cast,seval,↓kw2,zAo,zAn,zAh,↓zAc,Bool.or_false,Bool.or_true,Bool.true_or,Bool.false_or,Bool.or_self,Nat.add_assoc,zAd,zAr,wat,clOf,Int.toNat_natCast,iCd,hcd];subst hX;subst hY;have hendi2:=hsu.symm.trans (scanUp_no (fun e=>Bool.false_ne_true (hp.symm.trans e.2)));refine goW TOk.nil [3,5,13,15] 0 ?_;simp(maxSteps:=2000000)only[push_cast,seval,↓kw2,t0,t1,t4,ti,tj,List.contains_cons,Bool.true_or,Bool.false_or,Bool.or_true,Bool.or_false,Bool.or_self];have h8:=h3;have hst8:=(hst.trans st3);refine FW.loopInv (fun m ts H=>∃(j2:Nat),m=j2∧j2≤j4∧scanDown (fun y=>!x.lt y d4[a]!) d4 i2 j2=scanDown (fun y=>!x.lt y d4[a]!) d4 i2 j4∧Inv x H d4∧Stp x H0 H∧ts 0=.sl x.R 0 x.n x.cap∧ts 1=I (a:Int)∧ts 4=.fn 38 [] [.ptr x.D 0,.ptr x.F 0]∧ts 12=I (i2:Int)∧ts 13=I (j2:Int)) j4
      ⟨j4,rfl,Nat.le_refl _,rfl,h8,hst8,t0,t1,t4,ti,tj⟩ ?_
     try clear h8 hst8 t0 t1 t4 ti tj
     rintro m ih6 ts H' ⟨j2,hj2,hjj,hsd,h8,hst8,t0,t1,t4,ti,tj⟩
     refine FW.inLoop ?_
     by_cases hle6:i2≤j2
     ·have dl:decide ((i2:Int)≤(j2:Int))=true:=decide_eq_true (by omega);have gX:=zAi (x:=x) (d:=d4) (i:=j2) (by omega);have lX:=zAj (x:=x) (d:=d4) (i:=j2) (by omega);have gY:=zAi (x:=x) (d:=d4) (i:=a) (by omega);have lY:=zAj (x:=x) (d:=d4) (i:=a) (by omega);have hr:=h8.row;have hcc:=zBr hx h8 (i:=j2) (j:=a) (by omega) (by omega)
      generalize hX:d4[j2]! =X at gX hcc
      generalize hY:d4[a]! =Y at gY hcc
      have cX:=Plc.cells X;have cY:=Plc.cells Y;refine goW TOk.nil [3,5,13,15] 0 ?_;simp(maxSteps:=2000000)only[push_cast,seval,↓kw2,t0,t1,t4,ti,tj,List.contains_cons,Bool.true_or,Bool.false_or,Bool.or_true,Bool.or_false,Bool.or_self];refine FW.walkH hmix (imp:=iCe) (l:=oCe) (by kernel_rfl) (by kernel_rfl) ?_;simp only[oCe];simp(maxSteps:=2000000)only[push_cast,seval,↓kw2,zAo,zAn,zAh,↓zAc,Bool.or_false,Bool.or_true,Bool.true_or,Bool.false_or,Bool.or_self,Nat.add_assoc,zAd,zAr,wat,clOf,Int.toNat_natCast,iCe,t0,t1,t4,ti,tj,dl,hr,gX,lX,gY,lY,cX,cY,Plc.av];refine⟨⟨by omega,by omega⟩,⟨by omega,by omega⟩,?_⟩;refine hcc _ fun H3 h3 st3=>⟨?_,?_⟩
      ·repeat' (first | apply And.intro | (intro h; exact absurd (h.symm.trans (by kernel_rfl)) Bool.false_ne_true))
      cases hlt:x.lt X Y
      ·have hcd:decide (cmpS x.a x.b x.c x.sc X Y < 0)=false:=hlt;have hp:(fun y=>!x.lt y d4[a]!) d4[j2]! =true:=by
        simp only[hX,hY,hlt,Bool.not_true,Bool.not_false]
       simp(maxSteps:=2000000)only[push_cast,seval,↓kw2,zAo,zAn,zAh,↓zAc,Bool.or_false,Bool.or_true,Bool.true_or,Bool.false_or,Bool.or_self,Nat.add_assoc,zAd,zAr,wat,clOf,Int.toNat_natCast,iCe,hcd];subst hX;subst hY;obtain⟨q,hq⟩:∃ q,j2=q+1:=⟨j2 - 1,by omega⟩;have w1:IntKind.i64.wrap ((j2:Int) - 1)=(q:Int):=by rw[zAf (n:=(j2:Int) - 1) (by omega) (by omega)]; omega
       refine goW TOk.nil [3,5,13,15] 0 ?_;simp(maxSteps:=2000000)only[push_cast,seval,↓kw2,t0,t1,t4,ti,tj,w1,List.contains_cons,Bool.true_or,Bool.false_or,Bool.or_true,Bool.or_false,Bool.or_self];refine ih6 q (by omega) _ _ ?_;exact⟨q,rfl,by omega,(scanDown_yes hq hle6 hp).symm.trans hsd,h3,hst8.trans st3,t0,t1,t4,ti,rfl⟩
      ·have hcd:decide (cmpS x.a x.b x.c x.sc X Y < 0)=true:=hlt;have hp:(fun y=>!x.lt y d4[a]!) d4[j2]! =false:=by
        simp only[hX,hY,hlt,Bool.not_true,Bool.not_false]
       simp(maxSteps:=2000000)only[push_cast,seval,↓kw2,zAo,zAn,zAh,↓zAc,Bool.or_false,Bool.or_true,Bool.true_or,Bool.false_or,Bool.or_self,Nat.add_assoc,zAd,zAr,wat,clOf,Int.toNat_natCast,iCe,hcd];subst hX;subst hY;have hendj2:=hsd.symm.trans (zBx (fun e=>Bool.false_ne_true (hp.symm.trans e.2)));refine walk hmix TOk.nil [3,5,13,15] 5 0 (by kernel_rfl) ?_;simp(maxSteps:=2000000)only[push_cast,seval,↓kw2,t0,t1,t4,ti,tj,List.contains_cons,Bool.true_or,Bool.false_or,Bool.or_true,Bool.or_false,Bool.or_self];refine FW.here ?_;exact⟨i2,j2,hendi2,hendj2,by omega,by omega,h3,(hst8.trans st3),t0,t1,t4,ti,tj⟩
     ·have dl:decide ((i2:Int)≤(j2:Int))=false:=decide_eq_false (by omega);have hendj2:=hsd.symm.trans (zBx (fun e=>hle6 e.1));refine goW TOk.nil [3,5,13,15] 0 ?_;simp(maxSteps:=2000000)only[push_cast,seval,↓kw2,t0,t1,t4,ti,tj,List.contains_cons,Bool.true_or,Bool.false_or,Bool.or_true,Bool.or_false,Bool.or_self];refine FW.walkH hmix (imp:=iCe) (l:=oCe) (by kernel_rfl) (by kernel_rfl) ?_;simp only[oCe];simp(maxSteps:=2000000)only[push_cast,seval,↓kw2,zAo,zAn,zAh,↓zAc,Bool.or_false,Bool.or_true,Bool.true_or,Bool.false_or,Bool.or_self,Nat.add_assoc,zAd,zAr,wat,clOf,Int.toNat_natCast,iCe,t0,t1,t4,ti,tj,dl];refine walk hmix TOk.nil [3,5,13,15] 5 0 (by kernel_rfl) ?_;simp(maxSteps:=2000000)only[push_cast,seval,↓kw2,t0,t1,t4,ti,tj,List.contains_cons,Bool.true_or,Bool.false_or,Bool.or_true,Bool.or_false,Bool.or_self];refine FW.here ?_;exact⟨i2,j2,hendi2,hendj2,by omega,by omega,h8,hst8,t0,t1,t4,ti,tj⟩
    ·have hcd:decide (cmpS x.a x.b x.c x.sc X Y < 0)=true:=hlt;have hp:(fun y=>x.lt y d4[a]!) d4[i2]! =true:=by
      simp only[hX,hY,hlt,Bool.not_true,Bool.not_false]
     simp(maxSteps:=2000000)only[push_cast,seval,↓kw2,zAo,zAn,zAh,↓zAc,Bool.or_false,Bool.or_true,Bool.true_or,Bool.false_or,Bool.or_self,Nat.add_assoc,zAd,zAr,wat,clOf,Int.toNat_natCast,iCd,hcd];subst hX;subst hY;have w1:=zAf (n:=(i2:Int)+1) (by omega) (by omega);refine goW TOk.nil [3,5,13,15] 0 ?_;simp(maxSteps:=2000000)only[push_cast,seval,↓kw2,t0,t1,t4,ti,tj,w1,List.contains_cons,Bool.true_or,Bool.false_or,Bool.or_true,Bool.or_false,Bool.or_self];refine ih5 (j4+1 - (i2+1)) (by omega) _ _ ?_;exact⟨i2+1,rfl,by omega,(scanUp_yes hle5 hp).symm.trans hsu,h3,hst.trans st3,t0,t1,t4,rfl,tj⟩
   ·have dl:decide ((i2:Int)≤(j4:Int))=false:=decide_eq_false (by omega);have hendi2:=hsu.symm.trans (scanUp_no (fun e=>hle5 e.1));refine goW TOk.nil [3,5,13,15] 0 ?_;simp(maxSteps:=2000000)only[push_cast,seval,↓kw2,t0,t1,t4,ti,tj,List.contains_cons,Bool.true_or,Bool.false_or,Bool.or_true,Bool.or_false,Bool.or_self];refine FW.walkH hmix (imp:=iCd) (l:=oCd) (by kernel_rfl) (by kernel_rfl) ?_;simp only[oCd];simp(maxSteps:=2000000)only[push_cast,seval,↓kw2,zAo,zAn,zAh,↓zAc,Bool.or_false,Bool.or_true,Bool.true_or,Bool.false_or,Bool.or_self,Nat.add_assoc,zAd,zAr,wat,clOf,Int.toNat_natCast,iCd,t0,t1,t4,ti,tj,dl];refine goW TOk.nil [3,5,13,15] 0 ?_;simp(maxSteps:=2000000)only[push_cast,seval,↓kw2,t0,t1,t4,ti,tj,List.contains_cons,Bool.true_or,Bool.false_or,Bool.or_true,Bool.or_false,Bool.or_self];have h8:=h;have hst8:=hst;refine FW.loopInv (fun m ts H=>∃(j2:Nat),m=j2∧j2≤j4∧scanDown (fun y=>!x.lt y d4[a]!) d4 i2 j2=scanDown (fun y=>!x.lt y d4[a]!) d4 i2 j4∧Inv x H d4∧Stp x H0 H∧ts 0=.sl x.R 0 x.n x.cap∧ts 1=I (a:Int)∧ts 4=.fn 38 [] [.ptr x.D 0,.ptr x.F 0]∧ts 12=I (i2:Int)∧ts 13=I (j2:Int)) j4
     ⟨j4,rfl,Nat.le_refl _,rfl,h8,hst8,t0,t1,t4,ti,tj⟩ ?_
    try clear h8 hst8 t0 t1 t4 ti tj
    rintro m ih6 ts H' ⟨j2,hj2,hjj,hsd,h8,hst8,t0,t1,t4,ti,tj⟩
    refine FW.inLoop ?_
    by_cases hle6:i2≤j2
    ·have dl:decide ((i2:Int)≤(j2:Int))=true:=decide_eq_true (by omega);have gX:=zAi (x:=x) (d:=d4) (i:=j2) (by omega);have lX:=zAj (x:=x) (d:=d4) (i:=j2) (by omega);have gY:=zAi (x:=x) (d:=d4) (i:=a) (by omega);have lY:=zAj (x:=x) (d:=d4) (i:=a) (by omega);have hr:=h8.row;have hcc:=zBr hx h8 (i:=j2) (j:=a) (by omega) (by omega)
     generalize hX:d4[j2]! =X at gX hcc
     generalize hY:d4[a]! =Y at gY hcc
     have cX:=Plc.cells X;have cY:=Plc.cells Y;refine goW TOk.nil [3,5,13,15] 0 ?_;simp(maxSteps:=2000000)only[push_cast,seval,↓kw2,t0,t1,t4,ti,tj,List.contains_cons,Bool.true_or,Bool.false_or,Bool.or_true,Bool.or_false,Bool.or_self];refine FW.walkH hmix (imp:=iCe) (l:=oCe) (by kernel_rfl) (by kernel_rfl) ?_;simp only[oCe];simp(maxSteps:=2000000)only[push_cast,seval,↓kw2,zAo,zAn,zAh,↓zAc,Bool.or_false,Bool.or_true,Bool.true_or,Bool.false_or,Bool.or_self,Nat.add_assoc,zAd,zAr,wat,clOf,Int.toNat_natCast,iCe,t0,t1,t4,ti,tj,dl,hr,gX,lX,gY,lY,cX,cY,Plc.av];refine⟨⟨by omega,by omega⟩,⟨by omega,by omega⟩,?_⟩;refine hcc _ fun H3 h3 st3=>⟨?_,?_⟩
     ·repeat' (first | apply And.intro | (intro h; exact absurd (h.symm.trans (by kernel_rfl)) Bool.false_ne_true))
     cases hlt:x.lt X Y
     ·have hcd:decide (cmpS x.a x.b x.c x.sc X Y < 0)=false:=hlt;have hp:(fun y=>!x.lt y d4[a]!) d4[j2]! =true:=by
       simp only[hX,hY,hlt,Bool.not_true,Bool.not_false]
      simp(maxSteps:=2000000)only[push_cast,seval,↓kw2,zAo,zAn,zAh,↓zAc,Bool.or_false,Bool.or_true,Bool.true_or,Bool.false_or,Bool.or_self,Nat.add_assoc,zAd,zAr,wat,clOf,Int.toNat_natCast,iCe,hcd];subst hX;subst hY;obtain⟨q,hq⟩:∃ q,j2=q+1:=⟨j2 - 1,by omega⟩;have w1:IntKind.i64.wrap ((j2:Int) - 1)=(q:Int):=by rw[zAf (n:=(j2:Int) - 1) (by omega) (by omega)]; omega
      refine goW TOk.nil [3,5,13,15] 0 ?_;simp(maxSteps:=2000000)only[push_cast,seval,↓kw2,t0,t1,t4,ti,tj,w1,List.contains_cons,Bool.true_or,Bool.false_or,Bool.or_true,Bool.or_false,Bool.or_self];refine ih6 q (by omega) _ _ ?_;exact⟨q,rfl,by omega,(scanDown_yes hq hle6 hp).symm.trans hsd,h3,hst8.trans st3,t0,t1,t4,ti,rfl⟩
     ·have hcd:decide (cmpS x.a x.b x.c x.sc X Y < 0)=true:=hlt;have hp:(fun y=>!x.lt y d4[a]!) d4[j2]! =false:=by
       simp only[hX,hY,hlt,Bool.not_true,Bool.not_false]
      simp(maxSteps:=2000000)only[push_cast,seval,↓kw2,zAo,zAn,zAh,↓zAc,Bool.or_false,Bool.or_true,Bool.true_or,Bool.false_or,Bool.or_self,Nat.add_assoc,zAd,zAr,wat,clOf,Int.toNat_natCast,iCe,hcd];subst hX;subst hY;have hendj2:=hsd.symm.trans (zBx (fun e=>Bool.false_ne_true (hp.symm.trans e.2)));refine walk hmix TOk.nil [3,5,13,15] 5 0 (by kernel_rfl) ?_;simp(maxSteps:=2000000)only[push_cast,seval,↓kw2,t0,t1,t4,ti,tj,List.contains_cons,Bool.true_or,Bool.false_or,Bool.or_true,Bool.or_false,Bool.or_self];refine FW.here ?_;exact⟨i2,j2,hendi2,hendj2,by omega,by omega,h3,(hst8.trans st3),t0,t1,t4,ti,tj⟩
    ·have dl:decide ((i2:Int)≤(j2:Int))=false:=decide_eq_false (by omega);have hendj2:=hsd.symm.trans (zBx (fun e=>hle6 e.1));refine goW TOk.nil [3,5,13,15] 0 ?_;simp(maxSteps:=2000000)only[push_cast,seval,↓kw2,t0,t1,t4,ti,tj,List.contains_cons,Bool.true_or,Bool.false_or,Bool.or_true,Bool.or_false,Bool.or_self];refine FW.walkH hmix (imp:=iCe) (l:=oCe) (by kernel_rfl) (by kernel_rfl) ?_;simp only[oCe];simp(maxSteps:=2000000)only[push_cast,seval,↓kw2,zAo,zAn,zAh,↓zAc,Bool.or_false,Bool.or_true,Bool.true_or,Bool.false_or,Bool.or_self,Nat.add_assoc,zAd,zAr,wat,clOf,Int.toNat_natCast,iCe,t0,t1,t4,ti,tj,dl];refine walk hmix TOk.nil [3,5,13,15] 5 0 (by kernel_rfl) ?_;simp(maxSteps:=2000000)only[push_cast,seval,↓kw2,t0,t1,t4,ti,tj,List.contains_cons,Bool.true_or,Bool.false_or,Bool.or_true,Bool.or_false,Bool.or_self];refine FW.here ?_;exact⟨i2,j2,hendi2,hendj2,by omega,by omega,h8,hst8,t0,t1,t4,ti,tj⟩
  case ht=>intro _; kernel_rfl
  case h2 =>
   rintro ts' H' ⟨i2,j2,e1,e2,b1,b2,h9,hst,t0,t1,t4,ti,tj⟩
   clear h
   by_cases hg:j2 < i2
   ·have dg:decide ((j2:Int) < (i2:Int))=true:=decide_eq_true (by omega);rw[pl_gt e1 e2 hg]at hres;rw[← hres]at hK;have gR:=zAi (x:=x) (d:=d4) (i:=j2) (by omega);have lR:=zAj (x:=x) (d:=d4) (i:=j2) (by omega);have gC:=zAi (x:=x) (d:=d4) (i:=a) (by omega);have lC:=zAj (x:=x) (d:=d4) (i:=a) (by omega);have hr:=h9.row;have hsw:=zCg (x:=x) (d:=d4) (i:=j2) (j:=a) (by omega) (by omega);have hpost:=h9.swap (i:=j2) (j:=a) (by omega) (by omega);rw[← hsw]at hpost;have hrs:∀ v,(H'.set x.R v)[x.R]?=some v:=fun v=>List.getElem?_set_self h9.lt.1
    generalize d4[j2]! =U0 at gR hsw hpost
    generalize d4[a]! =V0 at gC hsw hpost
    obtain⟨Z,hz⟩:=zBp x (d:=d4) (i:=a) (j:=j2) (by omega) V0;simp only[Plc.av]at hz;have cU:=Plc.cells U0;have cV:=Plc.cells V0;refine goW TOk.nil [3,5,13,15] 0 ?_;simp(maxSteps:=2000000)only[push_cast,seval,↓kw2,t0,t1,t4,ti,tj,gt_iff_lt,dg,hr,hrs,hz,gR,lR,gC,lC,cU,cV,Plc.av,List.set_set,List.length_set,Int.toNat_natCast,List.contains_cons,Bool.true_or,Bool.false_or,Bool.or_true,Bool.or_false,Bool.or_self]
    repeat (refine⟨⟨by omega,by omega⟩,?_⟩)
    exact⟨_,rfl,hK _ hpost (hst.trans .row)⟩
   ·have dg:decide ((j2:Int) < (i2:Int))=false:=decide_eq_false (by omega);obtain⟨i5,hi5⟩:∃ r,r=i2+1:=⟨_,rfl⟩;obtain⟨j5,hj5⟩:∃ r,r=j2 - 1:=⟨_,rfl⟩;have wi:IntKind.i64.wrap ((i2:Int)+1)=(i5:Int):=by rw[zAf (n:=(i2:Int)+1) (by omega) (by omega)]; omega
    have wj:IntKind.i64.wrap ((j2:Int) - 1)=(j5:Int):=by rw[zAf (n:=(j2:Int) - 1) (by omega) (by omega)]; omega
    rw[pl_le e1 e2 hg b1 b2 (by omega) hi5 hj5]at hres;have gR:=zAi (x:=x) (d:=d4) (i:=i2) (by omega);have lR:=zAj (x:=x) (d:=d4) (i:=i2) (by omega);have gC:=zAi (x:=x) (d:=d4) (i:=j2) (by omega);have lC:=zAj (x:=x) (d:=d4) (i:=j2) (by omega);have hr:=h9.row;have hsw:=zCg (x:=x) (d:=d4) (i:=i2) (j:=j2) (by omega) (by omega);have hpost:=h9.swap (i:=i2) (j:=j2) (by omega) (by omega);rw[← hsw]at hpost;have hrs:∀ v,(H'.set x.R v)[x.R]?=some v:=fun v=>List.getElem?_set_self h9.lt.1
    generalize d4[i2]! =U0 at gR hsw hpost
    generalize d4[j2]! =V0 at gC hsw hpost
    obtain⟨Z,hz⟩:=zBp x (d:=d4) (i:=j2) (j:=i2) (by omega) V0;simp only[Plc.av]at hz;have cU:=Plc.cells U0;have cV:=Plc.cells V0;refine goW TOk.nil [3,5,13,15] 0 ?_;simp(maxSteps:=2000000)only[push_cast,seval,↓kw2,t0,t1,t4,ti,tj,gt_iff_lt,dg,wi,wj,hr,hrs,hz,gR,lR,gC,lC,cU,cV,Plc.av,List.set_set,List.length_set,Int.toNat_natCast,List.contains_cons,Bool.true_or,Bool.false_or,Bool.or_true,Bool.or_false,Bool.or_self]
    repeat (refine⟨⟨by omega,by omega⟩,?_⟩)
    exact ih9 (j5+1 - i5) (by omega) _ _ ⟨i5,j5,_,rfl,by omega,by omega,(zEp _ _ _).trans hsz4,hres,hpost,hst.trans .row,t0,t1,t4,rfl,rfl⟩
theorem pe_gt{lt:Plc→Plc→Bool}{d:Array Plc}{a i2 j2 i j:Nat}(h1:scanUp (fun y=>!lt d[a]! y) d j i=i2)(h2:scanDown (fun y=>lt d[a]! y) d i2 j=j2)(h:j2 < i2):partEqLoop lt a i j d=(i2,d):=by
 rw[partEqLoop];simp only[h1,h2];exact if_pos h
theorem pe_le{lt:Plc→Plc→Bool}{d:Array Plc}{a i2 j2 i j i3 j3:Nat}(h1:scanUp (fun y=>!lt d[a]! y) d j i=i2)(h2:scanDown (fun y=>lt d[a]! y) d i2 j=j2)(h:¬j2 < i2)(hi:i≤i2)(hj:j2≤j)(h0:1≤i)(h3:i3=i2+1)(h4:j3=j2 - 1):partEqLoop lt a i j d=partEqLoop lt a i3 j3 (swp d i2 j2):=by
 subst h3 h4;rw[partEqLoop];simp only[h1,h2];rw[if_neg h,dif_pos (by omega)]
theorem e82:Ent Tryz.prog 82 Tryz.f82 [3,5] 5:=.mk Tryz.func82 rfl
attribute [push_cast] Tryz.f82
theorem partEq_ac{x:Cx}(hx:x.ok){a b pv:Nat}(hap:a≤pv)(hpb:pv < b)(hb:b≤x.n)(h2b:a+2≤b){H0:List AO}{d0:Array Plc}(h:Inv x H0 d0){K:AV→List AO→Prop}(hK:∀ H',Inv x H' (partitionEqual x.lt d0 a b pv).2→Stp x H0 H'→K (I ((partitionEqual x.lt d0 a b pv).1:Int)) H') :
  AC Tryz.prog GG 82 [.sl x.R 0 x.n x.cap,I (a:Int),I (b:Int),I (pv:Int),.fn 38 [] [.ptr x.D 0,.ptr x.F 0]] H0 K:=by
 have hn:=hx.n;have hsz:=h.n;obtain⟨i,hi⟩:∃ r,r=a+1:=⟨_,rfl⟩;obtain⟨j,hj⟩:∃ r,r=b - 1:=⟨_,rfl⟩;have wi:IntKind.i64.wrap ((a:Int)+1)=(i:Int):=by rw[zAf (n:=(a:Int)+1) (by omega) (by omega)]; omega
 have wj:IntKind.i64.wrap ((b:Int) - 1)=(j:Int):=by rw[zAf (n:=(b:Int) - 1) (by omega) (by omega)]; omega
 have gR:=zAi (x:=x) (d:=d0) (i:=a) (by omega);have lR:=zAj (x:=x) (d:=d0) (i:=a) (by omega);have gC:=zAi (x:=x) (d:=d0) (i:=pv) (by omega);have lC:=zAj (x:=x) (d:=d0) (i:=pv) (by omega);have hr:=h.row;have hsw:=zCg (x:=x) (d:=d0) (i:=a) (j:=pv) (by omega) (by omega);have hpost:=h.swap (i:=a) (j:=pv) (by omega) (by omega);rw[← hsw]at hpost;have hrs:∀ v,(H0.set x.R v)[x.R]?=some v:=fun v=>List.getElem?_set_self h.lt.1
 generalize d0[a]! =U0 at gR hsw hpost
 generalize d0[pv]! =V0 at gC hsw hpost
 obtain⟨Z,hz⟩:=zBp x (d:=d0) (i:=pv) (j:=a) (by omega) V0;simp only[Plc.av]at hz;have cU:=Plc.cells U0;have cV:=Plc.cells V0;unfold partitionEqual at hK;rw[← hi,← hj]at hK
 generalize hd:swp d0 a pv=d9 at hK hpost
 have hsz2:d9.size=x.n:=by rw[← hd,zEp]; exact hsz
 refine goE e82 TOk.nil 0 ?_;simp(maxSteps:=2000000)only[push_cast,seval,↓kw2,wi,wj,hr,hrs,hz,gR,lR,gC,lC,cU,cV,Plc.av,List.set_set,List.length_set,Int.toNat_natCast,List.contains_cons,Bool.true_or,Bool.false_or,Bool.or_true,Bool.or_false,Bool.or_self]
 repeat (refine⟨⟨by omega,by omega⟩,?_⟩)
 have hst2:Stp x H0 (H0.set x.R (.arr 9 (((rowA x d0).set a V0.av).set pv U0.av))):=.row;clear hr hrs hz gR gC lR lC hsw cU cV wi wj hd;refine FW.loopInv (fun m ts H=>∃(i4 j4:Nat) (d4:Array Plc),m=j4+1 - i4∧a < i4∧j4 < b∧d4.size=x.n∧partEqLoop x.lt a i4 j4 d4=partEqLoop x.lt a i j d9∧Inv x H d4∧Stp x H0 H∧ts 0=.sl x.R 0 x.n x.cap∧ts 1=I (a:Int)∧ts 4=.fn 38 [] [.ptr x.D 0,.ptr x.F 0]∧ts 11=I (i4:Int)∧ts 12=I (j4:Int)) (j+1 - i)
  ⟨i,j,d9,rfl,by omega,by omega,hsz2,rfl,hpost,hst2,rfl,rfl,rfl,rfl,rfl⟩ ?_
 clear hpost hst2 hsz2 h
 rintro m ih9 ts H ⟨i4,j4,d4,hm,hai,hjb,hsz4,hres,h,hst,t0,t1,t4,ti,tj⟩
 refine FW.inLoop ?_;refine goW TOk.nil [3,5] 0 ?_;simp(maxSteps:=2000000)only[push_cast,seval,↓kw2,List.contains_cons,Bool.true_or,Bool.false_or,Bool.or_true,Bool.or_false,Bool.or_self];apply FW.cut (Inv:=fun ts' H'=>∃(i2 j2:Nat),scanUp (fun y=>!x.lt d4[a]! y) d4 j4 i4=i2∧scanDown (fun y=>x.lt d4[a]! y) d4 i2 j4=j2∧i4≤i2∧j2≤j4∧Inv x H' d4∧Stp x H0 H'∧ts' 0=.sl x.R 0 x.n x.cap∧ts' 1=I (a:Int)∧ts' 4=.fn 38 [] [.ptr x.D 0,.ptr x.F 0]∧ts' 11=I (i2:Int)∧ts' 12=I (j2:Int))
 case h1 =>
  refine FW.loopInv (fun m ts H=>∃(i2:Nat),m=j4+1 - i2∧i4≤i2∧scanUp (fun y=>!x.lt d4[a]! y) d4 j4 i2=scanUp (fun y=>!x.lt d4[a]! y) d4 j4 i4∧Inv x H d4∧Stp x H0 H∧ts 0=.sl x.R 0 x.n x.cap∧ts 1=I (a:Int)∧ts 4=.fn 38 [] [.ptr x.D 0,.ptr x.F 0]∧ts 11=I (i2:Int)∧ts 12=I (j4:Int)) (j4+1 - i4)
   ⟨i4,rfl,Nat.le_refl _,rfl,h,hst,t0,t1,t4,ti,tj⟩ ?_
  try clear h hst t0 t1 t4 ti tj
  rintro m ih5 ts H' ⟨i2,hi2,hii,hsu,h,hst,t0,t1,t4,ti,tj⟩
  refine FW.inLoop ?_
  by_cases hle5:i2≤j4
  ·have dl:decide ((i2:Int)≤(j4:Int))=true:=decide_eq_true (by omega);have gX:=zAi (x:=x) (d:=d4) (i:=a) (by omega);have lX:=zAj (x:=x) (d:=d4) (i:=a) (by omega);have gY:=zAi (x:=x) (d:=d4) (i:=i2) (by omega);have lY:=zAj (x:=x) (d:=d4) (i:=i2) (by omega);have hr:=h.row;have hcc:=zBr hx h (i:=a) (j:=i2) (by omega) (by omega)
   generalize hX:d4[a]! =X at gX hcc
   generalize hY:d4[i2]! =Y at gY hcc
   have cX:=Plc.cells X;have cY:=Plc.cells Y;refine goW TOk.nil [3,5] 0 ?_;simp(maxSteps:=2000000)only[push_cast,seval,↓kw2,t0,t1,t4,ti,tj,List.contains_cons,Bool.true_or,Bool.false_or,Bool.or_true,Bool.or_false,Bool.or_self];refine FW.walkH hmix (imp:=iCe) (l:=oCe) (by kernel_rfl) (by kernel_rfl) ?_;simp only[oCe];simp(maxSteps:=2000000)only[push_cast,seval,↓kw2,zAo,zAn,zAh,↓zAc,Bool.or_false,Bool.or_true,Bool.true_or,Bool.false_or,Bool.or_self,Nat.add_assoc,zAd,zAr,wat,clOf,Int.toNat_natCast,iCe,t0,t1,t4,ti,tj,dl,hr,gX,lX,gY,lY,cX,cY,Plc.av];refine⟨⟨by omega,by omega⟩,⟨by omega,by omega⟩,?_⟩;refine hcc _ fun H3 h3 st3=>⟨?_,?_⟩
   ·repeat' (first | apply And.intro | (intro h; exact absurd (h.symm.trans (by kernel_rfl)) Bool.false_ne_true))
   cases hlt:x.lt X Y
   ·have hcd:decide (cmpS x.a x.b x.c x.sc X Y < 0)=false:=hlt;have hp:(fun y=>!x.lt d4[a]! y) d4[i2]! =true:=by
     simp only[hX,hY,hlt,Bool.not_true,Bool.not_false]
    simp(maxSteps:=2000000)only[push_cast,seval,↓kw2,zAo,zAn,zAh,↓zAc,Bool.or_false,Bool.or_true,Bool.true_or,Bool.false_or,Bool.or_self,Nat.add_assoc,zAd,zAr,wat,clOf,Int.toNat_natCast,iCe,hcd];subst hX;subst hY;have w1:=zAf (n:=(i2:Int)+1) (by omega) (by omega);refine goW TOk.nil [3,5] 0 ?_;simp(maxSteps:=2000000)only[push_cast,seval,↓kw2,t0,t1,t4,ti,tj,w1,List.contains_cons,Bool.true_or,Bool.false_or,Bool.or_true,Bool.or_false,Bool.or_self];refine ih5 (j4+1 - (i2+1)) (by omega) _ _ ?_;exact⟨i2+1,rfl,by omega,(scanUp_yes hle5 hp).symm.trans hsu,h3,hst.trans st3,t0,t1,t4,rfl,tj⟩
   ·have hcd:decide (cmpS x.a x.b x.c x.sc X Y < 0)=true:=hlt;have hp:(fun y=>!x.lt d4[a]! y) d4[i2]! =false:=by
     simp only[hX,hY,hlt,Bool.not_true,Bool.not_false]
    simp(maxSteps:=2000000)only[push_cast,seval,↓kw2,zAo,zAn,zAh,↓zAc,Bool.or_false,Bool.or_true,Bool.true_or,Bool.false_or,Bool.or_self,Nat.add_assoc,zAd,zAr,wat,clOf,Int.toNat_natCast,iCe,hcd];subst hX;subst hY;have hendi2:=hsu.symm.trans (scanUp_no (fun e=>Bool.false_ne_true (hp.symm.trans e.2)));refine goW TOk.nil [3,5] 0 ?_;simp(maxSteps:=2000000)only[push_cast,seval,↓kw2,t0,t1,t4,ti,tj,List.contains_cons,Bool.true_or,Bool.false_or,Bool.or_true,Bool.or_false,Bool.or_self];have h8:=h3;have hst8:=(hst.trans st3);refine FW.loopInv (fun m ts H=>∃(j2:Nat),m=j2∧j2≤j4∧scanDown (fun y=>x.lt d4[a]! y) d4 i2 j2=scanDown (fun y=>x.lt d4[a]! y) d4 i2 j4∧Inv x H d4∧Stp x H0 H∧ts 0=.sl x.R 0 x.n x.cap∧ts 1=I (a:Int)∧ts 4=.fn 38 [] [.ptr x.D 0,.ptr x.F 0]∧ts 11=I (i2:Int)∧ts 12=I (j2:Int)) j4
     ⟨j4,rfl,Nat.le_refl _,rfl,h8,hst8,t0,t1,t4,ti,tj⟩ ?_
    try clear h8 hst8 t0 t1 t4 ti tj
    rintro m ih6 ts H' ⟨j2,hj2,hjj,hsd,h8,hst8,t0,t1,t4,ti,tj⟩
    refine FW.inLoop ?_
    by_cases hle6:i2≤j2
    ·have dl:decide ((i2:Int)≤(j2:Int))=true:=decide_eq_true (by omega);have gX:=zAi (x:=x) (d:=d4) (i:=a) (by omega);have lX:=zAj (x:=x) (d:=d4) (i:=a) (by omega);have gY:=zAi (x:=x) (d:=d4) (i:=j2) (by omega);have lY:=zAj (x:=x) (d:=d4) (i:=j2) (by omega);have hr:=h8.row;have hcc:=zBr hx h8 (i:=a) (j:=j2) (by omega) (by omega)
     generalize hX:d4[a]! =X at gX hcc
     generalize hY:d4[j2]! =Y at gY hcc
     have cX:=Plc.cells X;have cY:=Plc.cells Y;refine goW TOk.nil [3,5] 0 ?_;simp(maxSteps:=2000000)only[push_cast,seval,↓kw2,t0,t1,t4,ti,tj,List.contains_cons,Bool.true_or,Bool.false_or,Bool.or_true,Bool.or_false,Bool.or_self];refine FW.walkH hmix (imp:=iCd) (l:=oCd) (by kernel_rfl) (by kernel_rfl) ?_;simp only[oCd];simp(maxSteps:=2000000)only[push_cast,seval,↓kw2,zAo,zAn,zAh,↓zAc,Bool.or_false,Bool.or_true,Bool.true_or,Bool.false_or,Bool.or_self,Nat.add_assoc,zAd,zAr,wat,clOf,Int.toNat_natCast,iCd,t0,t1,t4,ti,tj,dl,hr,gX,lX,gY,lY,cX,cY,Plc.av];refine⟨⟨by omega,by omega⟩,⟨by omega,by omega⟩,?_⟩;refine hcc _ fun H3 h3 st3=>⟨?_,?_⟩
     ·repeat' (first | apply And.intro | (intro h; exact absurd (h.symm.trans (by kernel_rfl)) Bool.false_ne_true))
     cases hlt:x.lt X Y
     ·have hcd:decide (cmpS x.a x.b x.c x.sc X Y < 0)=false:=hlt;have hp:(fun y=>x.lt d4[a]! y) d4[j2]! =false:=by
       simp only[hX,hY,hlt,Bool.not_true,Bool.not_false]
      simp(maxSteps:=2000000)only[push_cast,seval,↓kw2,zAo,zAn,zAh,↓zAc,Bool.or_false,Bool.or_true,Bool.true_or,Bool.false_or,Bool.or_self,Nat.add_assoc,zAd,zAr,wat,clOf,Int.toNat_natCast,iCd,hcd];subst hX;subst hY;have hendj2:=hsd.symm.trans (zBx (fun e=>Bool.false_ne_true (hp.symm.trans e.2)));refine walk hmix TOk.nil [3,5] 5 0 (by kernel_rfl) ?_;simp(maxSteps:=2000000)only[push_cast,seval,↓kw2,t0,t1,t4,ti,tj,List.contains_cons,Bool.true_or,Bool.false_or,Bool.or_true,Bool.or_false,Bool.or_self];refine FW.here ?_;exact⟨i2,j2,hendi2,hendj2,by omega,by omega,h3,(hst8.trans st3),t0,t1,t4,ti,tj⟩
     ·have hcd:decide (cmpS x.a x.b x.c x.sc X Y < 0)=true:=hlt;have hp:(fun y=>x.lt d4[a]! y) d4[j2]! =true:=by
       simp only[hX,hY,hlt,Bool.not_true,Bool.not_false]
      simp(maxSteps:=2000000)only[push_cast,seval,↓kw2,zAo,zAn,zAh,↓zAc,Bool.or_false,Bool.or_true,Bool.true_or,Bool.false_or,Bool.or_self,Nat.add_assoc,zAd,zAr,wat,clOf,Int.toNat_natCast,iCd,hcd];subst hX;subst hY;obtain⟨q,hq⟩:∃ q,j2=q+1:=⟨j2 - 1,by omega⟩;have w1:IntKind.i64.wrap ((j2:Int) - 1)=(q:Int):=by rw[zAf (n:=(j2:Int) - 1) (by omega) (by omega)]; omega
      refine goW TOk.nil [3,5] 0 ?_;simp(maxSteps:=2000000)only[push_cast,seval,↓kw2,t0,t1,t4,ti,tj,w1,List.contains_cons,Bool.true_or,Bool.false_or,Bool.or_true,Bool.or_false,Bool.or_self];refine ih6 q (by omega) _ _ ?_;exact⟨q,rfl,by omega,(scanDown_yes hq hle6 hp).symm.trans hsd,h3,hst8.trans st3,t0,t1,t4,ti,rfl⟩
    ·have dl:decide ((i2:Int)≤(j2:Int))=false:=decide_eq_false (by omega);have hendj2:=hsd.symm.trans (zBx (fun e=>hle6 e.1));refine goW TOk.nil [3,5] 0 ?_;simp(maxSteps:=2000000)only[push_cast,seval,↓kw2,t0,t1,t4,ti,tj,List.contains_cons,Bool.true_or,Bool.false_or,Bool.or_true,Bool.or_false,Bool.or_self];refine FW.walkH hmix (imp:=iCd) (l:=oCd) (by kernel_rfl) (by kernel_rfl) ?_;simp only[oCd];simp(maxSteps:=2000000)only[push_cast,seval,↓kw2,zAo,zAn,zAh,↓zAc,Bool.or_false,Bool.or_true,Bool.true_or,Bool.false_or,Bool.or_self,Nat.add_assoc,zAd,zAr,wat,clOf,Int.toNat_natCast,iCd,t0,t1,t4,ti,tj,dl];refine walk hmix TOk.nil [3,5] 5 0 (by kernel_rfl) ?_;simp(maxSteps:=2000000)only[push_cast,seval,↓kw2,t0,t1,t4,ti,tj,List.contains_cons,Bool.true_or,Bool.false_or,Bool.or_true,Bool.or_false,Bool.or_self];refine FW.here ?_;exact⟨i2,j2,hendi2,hendj2,by omega,by omega,h8,hst8,t0,t1,t4,ti,tj⟩
  ·have dl:decide ((i2:Int)≤(j4:Int))=false:=decide_eq_false (by omega);have hendi2:=hsu.symm.trans (scanUp_no (fun e=>hle5 e.1));refine goW TOk.nil [3,5] 0 ?_;simp(maxSteps:=2000000)only[push_cast,seval,↓kw2,t0,t1,t4,ti,tj,List.contains_cons,Bool.true_or,Bool.false_or,Bool.or_true,Bool.or_false,Bool.or_self];refine FW.walkH hmix (imp:=iCe) (l:=oCe) (by kernel_rfl) (by kernel_rfl) ?_;simp only[oCe];simp(maxSteps:=2000000)only[push_cast,seval,↓kw2,zAo,zAn,zAh,↓zAc,Bool.or_false,Bool.or_true,Bool.true_or,Bool.false_or,Bool.or_self,Nat.add_assoc,zAd,zAr,wat,clOf,Int.toNat_natCast,iCe,t0,t1,t4,ti,tj,dl];refine goW TOk.nil [3,5] 0 ?_;simp(maxSteps:=2000000)only[push_cast,seval,↓kw2,t0,t1,t4,ti,tj,List.contains_cons,Bool.true_or,Bool.false_or,Bool.or_true,Bool.or_false,Bool.or_self];have h8:=h;have hst8:=hst;refine FW.loopInv (fun m ts H=>∃(j2:Nat),m=j2∧j2≤j4∧scanDown (fun y=>x.lt d4[a]! y) d4 i2 j2=scanDown (fun y=>x.lt d4[a]! y) d4 i2 j4∧Inv x H d4∧Stp x H0 H∧ts 0=.sl x.R 0 x.n x.cap∧ts 1=I (a:Int)∧ts 4=.fn 38 [] [.ptr x.D 0,.ptr x.F 0]∧ts 11=I (i2:Int)∧ts 12=I (j2:Int)) j4
    ⟨j4,rfl,Nat.le_refl _,rfl,h8,hst8,t0,t1,t4,ti,tj⟩ ?_
   try clear h8 hst8 t0 t1 t4 ti tj
   rintro m ih6 ts H' ⟨j2,hj2,hjj,hsd,h8,hst8,t0,t1,t4,ti,tj⟩
   refine FW.inLoop ?_
   by_cases hle6:i2≤j2
   ·have dl:decide ((i2:Int)≤(j2:Int))=true:=decide_eq_true (by omega);have gX:=zAi (x:=x) (d:=d4) (i:=a) (by omega);have lX:=zAj (x:=x) (d:=d4) (i:=a) (by omega);have gY:=zAi (x:=x) (d:=d4) (i:=j2) (by omega);have lY:=zAj (x:=x) (d:=d4) (i:=j2) (by omega);have hr:=h8.row;have hcc:=zBr hx h8 (i:=a) (j:=j2) (by omega) (by omega)
    generalize hX:d4[a]! =X at gX hcc
    generalize hY:d4[j2]! =Y at gY hcc
    have cX:=Plc.cells X;have cY:=Plc.cells Y;refine goW TOk.nil [3,5] 0 ?_;simp(maxSteps:=2000000)only[push_cast,seval,↓kw2,t0,t1,t4,ti,tj,List.contains_cons,Bool.true_or,Bool.false_or,Bool.or_true,Bool.or_false,Bool.or_self];refine FW.walkH hmix (imp:=iCd) (l:=oCd) (by kernel_rfl) (by kernel_rfl) ?_;simp only[oCd];simp(maxSteps:=2000000)only[push_cast,seval,↓kw2,zAo,zAn,zAh,↓zAc,Bool.or_false,Bool.or_true,Bool.true_or,Bool.false_or,Bool.or_self,Nat.add_assoc,zAd,zAr,wat,clOf,Int.toNat_natCast,iCd,t0,t1,t4,ti,tj,dl,hr,gX,lX,gY,lY,cX,cY,Plc.av];refine⟨⟨by omega,by omega⟩,⟨by omega,by omega⟩,?_⟩;refine hcc _ fun H3 h3 st3=>⟨?_,?_⟩
    ·repeat' (first | apply And.intro | (intro h; exact absurd (h.symm.trans (by kernel_rfl)) Bool.false_ne_true))
    cases hlt:x.lt X Y
    ·have hcd:decide (cmpS x.a x.b x.c x.sc X Y < 0)=false:=hlt;have hp:(fun y=>x.lt d4[a]! y) d4[j2]! =false:=by
      simp only[hX,hY,hlt,Bool.not_true,Bool.not_false]
     simp(maxSteps:=2000000)only[push_cast,seval,↓kw2,zAo,zAn,zAh,↓zAc,Bool.or_false,Bool.or_true,Bool.true_or,Bool.false_or,Bool.or_self,Nat.add_assoc,zAd,zAr,wat,clOf,Int.toNat_natCast,iCd,hcd];subst hX;subst hY;have hendj2:=hsd.symm.trans (zBx (fun e=>Bool.false_ne_true (hp.symm.trans e.2)));refine walk hmix TOk.nil [3,5] 5 0 (by kernel_rfl) ?_;simp(maxSteps:=2000000)only[push_cast,seval,↓kw2,t0,t1,t4,ti,tj,List.contains_cons,Bool.true_or,Bool.false_or,Bool.or_true,Bool.or_false,Bool.or_self];refine FW.here ?_;exact⟨i2,j2,hendi2,hendj2,by omega,by omega,h3,(hst8.trans st3),t0,t1,t4,ti,tj⟩
    ·have hcd:decide (cmpS x.a x.b x.c x.sc X Y < 0)=true:=hlt;have hp:(fun y=>x.lt d4[a]! y) d4[j2]! =true:=by
      simp only[hX,hY,hlt,Bool.not_true,Bool.not_false]
     simp(maxSteps:=2000000)only[push_cast,seval,↓kw2,zAo,zAn,zAh,↓zAc,Bool.or_false,Bool.or_true,Bool.true_or,Bool.false_or,Bool.or_self,Nat.add_assoc,zAd,zAr,wat,clOf,Int.toNat_natCast,iCd,hcd];subst hX;subst hY;obtain⟨q,hq⟩:∃ q,j2=q+1:=⟨j2 - 1,by omega⟩;have w1:IntKind.i64.wrap ((j2:Int) - 1)=(q:Int):=by rw[zAf (n:=(j2:Int) - 1) (by omega) (by omega)]; omega
     refine goW TOk.nil [3,5] 0 ?_;simp(maxSteps:=2000000)only[push_cast,seval,↓kw2,t0,t1,t4,ti,tj,w1,List.contains_cons,Bool.true_or,Bool.false_or,Bool.or_true,Bool.or_false,Bool.or_self];refine ih6 q (by omega) _ _ ?_;exact⟨q,rfl,by omega,(scanDown_yes hq hle6 hp).symm.trans hsd,h3,hst8.trans st3,t0,t1,t4,ti,rfl⟩
   ·have dl:decide ((i2:Int)≤(j2:Int))=false:=decide_eq_false (by omega);have hendj2:=hsd.symm.trans (zBx (fun e=>hle6 e.1));refine goW TOk.nil [3,5] 0 ?_;simp(maxSteps:=2000000)only[push_cast,seval,↓kw2,t0,t1,t4,ti,tj,List.contains_cons,Bool.true_or,Bool.false_or,Bool.or_true,Bool.or_false,Bool.or_self];refine FW.walkH hmix (imp:=iCd) (l:=oCd) (by kernel_rfl) (by kernel_rfl) ?_;simp only[oCd];simp(maxSteps:=2000000)only[push_cast,seval,↓kw2,zAo,zAn,zAh,↓zAc,Bool.or_false,Bool.or_true,Bool.true_or,Bool.false_or,Bool.or_self,Nat.add_assoc,zAd,zAr,wat,clOf,Int.toNat_natCast,iCd,t0,t1,t4,ti,tj,dl];refine walk hmix TOk.nil [3,5] 5 0 (by kernel_rfl) ?_;simp(maxSteps:=2000000)only[push_cast,seval,↓kw2,t0,t1,t4,ti,tj,List.contains_cons,Bool.true_or,Bool.false_or,Bool.or_true,Bool.or_false,Bool.or_self];refine FW.here ?_;exact⟨i2,j2,hendi2,hendj2,by omega,by omega,h8,hst8,t0,t1,t4,ti,tj⟩
 case ht=>intro _; kernel_rfl
 case h2 =>
  rintro ts' H' ⟨i2,j2,e1,e2,b1,b2,h9,hst,t0,t1,t4,ti,tj⟩
  clear h
  by_cases hg:j2 < i2
  ·have dg:decide ((j2:Int) < (i2:Int))=true:=decide_eq_true (by omega);rw[pe_gt e1 e2 hg]at hres;rw[← hres]at hK;refine goW TOk.nil [3,5] 0 ?_;simp(maxSteps:=2000000)only[push_cast,seval,↓kw2,t0,t1,t4,ti,tj,gt_iff_lt,dg,List.contains_cons,Bool.true_or,Bool.false_or,Bool.or_true,Bool.or_false,Bool.or_self];exact⟨_,rfl,hK _ h9 hst⟩
  ·have dg:decide ((j2:Int) < (i2:Int))=false:=decide_eq_false (by omega);obtain⟨i5,hi5⟩:∃ r,r=i2+1:=⟨_,rfl⟩;obtain⟨j5,hj5⟩:∃ r,r=j2 - 1:=⟨_,rfl⟩;have wi:IntKind.i64.wrap ((i2:Int)+1)=(i5:Int):=by rw[zAf (n:=(i2:Int)+1) (by omega) (by omega)]; omega
   have wj:IntKind.i64.wrap ((j2:Int) - 1)=(j5:Int):=by rw[zAf (n:=(j2:Int) - 1) (by omega) (by omega)]; omega
   rw[pe_le e1 e2 hg b1 b2 (by omega) hi5 hj5]at hres;have gR:=zAi (x:=x) (d:=d4) (i:=i2) (by omega);have lR:=zAj (x:=x) (d:=d4) (i:=i2) (by omega);have gC:=zAi (x:=x) (d:=d4) (i:=j2) (by omega);have lC:=zAj (x:=x) (d:=d4) (i:=j2) (by omega);have hr:=h9.row;have hsw:=zCg (x:=x) (d:=d4) (i:=i2) (j:=j2) (by omega) (by omega);have hpost:=h9.swap (i:=i2) (j:=j2) (by omega) (by omega);rw[← hsw]at hpost;have hrs:∀ v,(H'.set x.R v)[x.R]?=some v:=fun v=>List.getElem?_set_self h9.lt.1
   generalize d4[i2]! =U0 at gR hsw hpost
   generalize d4[j2]! =V0 at gC hsw hpost
   obtain⟨Z,hz⟩:=zBp x (d:=d4) (i:=j2) (j:=i2) (by omega) V0;simp only[Plc.av]at hz;have cU:=Plc.cells U0;have cV:=Plc.cells V0;refine goW TOk.nil [3,5] 0 ?_;simp(maxSteps:=2000000)only[push_cast,seval,↓kw2,t0,t1,t4,ti,tj,gt_iff_lt,dg,wi,wj,hr,hrs,hz,gR,lR,gC,lC,cU,cV,Plc.av,List.set_set,List.length_set,Int.toNat_natCast,List.contains_cons,Bool.true_or,Bool.false_or,Bool.or_true,Bool.or_false,Bool.or_self]
   repeat (refine⟨⟨by omega,by omega⟩,?_⟩)
   exact ih9 (j5+1 - i5) (by omega) _ _ ⟨i5,j5,_,rfl,by omega,by omega,(zEp _ _ _).trans hsz4,hres,hpost,hst.trans .row,t0,t1,t4,rfl,rfl⟩
def oCf:List (Nat × Bool):=[(0,true),(1,true),(2,true),(3,true),(4,true),(5,true),(6,true),(7,true),(8,true),(9,true),(10,true),(11,true),(12,true),(13,true),(14,false),(15,true),(16,true),(17,true)]
def iCf:Nat→Bool:=fun i=>i==14
def oCg:List (Nat × Bool):=[(0,true),(1,true),(2,true),(3,true),(4,true),(5,true),(6,true),(7,true),(8,true),(9,true),(10,false),(11,true),(12,true)]
def iCg:Nat→Bool:=fun i=>i==10
theorem ss_yes{lt:Plc→Plc→Bool}{d:Array Plc}{b i q:Nat}(hq:q=i - 1)(h1:i < b)(h2:lt d[i]! d[q]! =false):scanSorted lt d b i=scanSorted lt d b (i+1):=by
 subst hq;rw[scanSorted,if_pos (by simp[h1,h2])]
theorem ss_no{lt:Plc→Plc→Bool}{d:Array Plc}{b i q:Nat}(hq:q=i - 1)(h:i < b→lt d[i]! d[q]! =true):scanSorted lt d b i=i:=by
 subst hq;rw[scanSorted,if_neg (by simpa using h)]
theorem sd_yes{lt:Plc→Plc→Bool}{d:Array Plc}{j q:Nat}(hj:j=q+1)(h:lt d[j]! d[q]! =true):shiftDown lt j d=shiftDown lt q (swp d j q):=by
 subst hj;rw[shiftDown,if_neg (by simp[h])]
theorem sd_no{lt:Plc→Plc→Bool}{d:Array Plc}{j q:Nat}(hj:j=q+1)(h:lt d[j]! d[q]! =false):shiftDown lt j d=d:=by
 subst hj;rw[shiftDown,if_pos (by simp[h])]
theorem su_yes{lt:Plc→Plc→Bool}{d:Array Plc}{b j q:Nat}(hq:q=j - 1)(hb:j < b)(h:lt d[j]! d[q]! =true):shiftUp lt b j d=shiftUp lt b (j+1) (swp d j q):=by
 subst hq;rw[shiftUp,if_pos hb,if_neg (by simp[h])]
theorem su_no{lt:Plc→Plc→Bool}{d:Array Plc}{b j q:Nat}(hq:q=j - 1)(h:j < b→lt d[j]! d[q]! =false):shiftUp lt b j d=d:=by
 subst hq;rw[shiftUp]
 split
 ·rename_i hb;rw[if_pos (by simp[h hb])]
 ·rfl
theorem e81:Ent Tryz.prog 81 Tryz.f81 [5,16,22] 4:=.mk Tryz.func81 rfl
attribute [push_cast] Tryz.f81
theorem partIns_ac{x:Cx}(hx:x.ok){a b:Nat}(hab:a+2≤b)(hb:b≤x.n){H0:List AO}{d0:Array Plc}(h:Inv x H0 d0){K:AV→List AO→Prop}(hK:∀ H',Inv x H' (partialInsertionSort x.lt d0 a b).1→Stp x H0 H'→K (B (partialInsertionSort x.lt d0 a b).2) H') :
  AC Tryz.prog GG 81 [.sl x.R 0 x.n x.cap,I (a:Int),I (b:Int),.fn 38 [] [.ptr x.D 0,.ptr x.F 0]] H0 K:=by
 have hn:=hx.n;have hsz:=h.n;unfold partialInsertionSort at hK;obtain⟨i,hi⟩:∃ r,r=a+1:=⟨_,rfl⟩;have wi:IntKind.i64.wrap ((a:Int)+1)=(i:Int):=by rw[zAf (n:=(a:Int)+1) (by omega) (by omega)]; omega
 rw[← hi]at hK;refine goE e81 TOk.nil 0 ?_;simp(maxSteps:=2000000)only[push_cast,seval,↓kw2,wi];refine FW.loopInv (fun m ts H=>∃(c i:Nat) (d:Array Plc),c+m=5∧a < i∧i≤b∧d.size=x.n∧partialIns x.lt a b m i d=partialIns x.lt a b 5 (a+1) d0∧Inv x H d∧Stp x H0 H∧ts 0=.sl x.R 0 x.n x.cap∧ts 1=I (a:Int)∧ts 2=I (b:Int)∧ts 3=.fn 38 [] [.ptr x.D 0,.ptr x.F 0]∧ts 9=I (i:Int)∧ts 10=I (c:Int)) 5
  ⟨0,i,d0,rfl,by omega,by omega,hsz,by rw[hi],h,.refl,rfl,rfl,rfl,rfl,rfl,rfl⟩ ?_
 rw[hi]at hK;clear h hsz hi wi i
 rintro m ih ts H ⟨c,i,d,hcm,hai,hib,hsz,hres,h,hst,t0,t1,t2,t3,t9,t10⟩
 refine FW.inLoop ?_
 by_cases hc:c < 5
 ·have dc:decide ((c:Int) < 5)=true:=decide_eq_true (by omega);obtain⟨k,rfl⟩:∃ k,m=k+1:=⟨m - 1,by omega⟩;rw[partialIns]at hres;refine goW TOk.nil [5,16,22] 0 ?_;simp(maxSteps:=2000000)only[push_cast,seval,↓kw2,t0,t1,t2,t3,t9,t10,dc,List.contains_cons,Bool.true_or,Bool.false_or,Bool.or_true,Bool.or_false,Bool.or_self];apply FW.cut (Inv:=fun ts' H'=>∃(i2:Nat),scanSorted x.lt d b i=i2∧i≤i2∧i2≤b∧Inv x H' d∧Stp x H0 H'∧ts' 0=.sl x.R 0 x.n x.cap∧ts' 1=I (a:Int)∧ts' 2=I (b:Int)∧ts' 3=.fn 38 [] [.ptr x.D 0,.ptr x.F 0]∧ts' 9=I (i2:Int)∧ts' 10=I (c:Int))
  case h1 =>
   refine FW.loopInv (fun m ts H=>∃(i2:Nat),m=b - i2∧i≤i2∧i2≤b∧scanSorted x.lt d b i2=scanSorted x.lt d b i∧Inv x H d∧Stp x H0 H∧ts 0=.sl x.R 0 x.n x.cap∧ts 1=I (a:Int)∧ts 2=I (b:Int)∧ts 3=.fn 38 [] [.ptr x.D 0,.ptr x.F 0]∧ts 9=I (i2:Int)∧ts 10=I (c:Int)) (b - i)
    ⟨i,rfl,Nat.le_refl _,hib,rfl,h,hst,t0,t1,t2,t3,t9,t10⟩ ?_
   rintro m ih2 ts H' ⟨i2,hm2,hii,hi2b,hss,h,hst,t0,t1,t2,t3,t9,t10⟩
   refine FW.inLoop ?_;obtain⟨q,hq⟩:∃ q,q=i2 - 1:=⟨_,rfl⟩;have wq:IntKind.i64.wrap ((i2:Int) - 1)=(q:Int):=by rw[zAf (n:=(i2:Int) - 1) (by omega) (by omega)]; omega
   by_cases hlb:i2 < b
   ·have dl:decide ((i2:Int) < (b:Int))=true:=decide_eq_true (by omega);refine goW TOk.nil [5,16,22] 0 ?_;simp(maxSteps:=2000000)only[push_cast,seval,↓kw2,t0,t1,t2,t3,t9,t10,List.contains_cons,Bool.true_or,Bool.false_or,Bool.or_true,Bool.or_false,Bool.or_self];have gX:=zAi (x:=x) (d:=d) (i:=i2) (by omega);have lX:=zAj (x:=x) (d:=d) (i:=i2) (by omega);have gY:=zAi (x:=x) (d:=d) (i:=q) (by omega);have lY:=zAj (x:=x) (d:=d) (i:=q) (by omega);have hr:=h.row;have hcc:=zBr hx h (i:=i2) (j:=q) (by omega) (by omega)
    generalize hX:d[i2]! =X at gX hcc
    generalize hY:d[q]! =Y at gY hcc
    have cX:=Plc.cells X;have cY:=Plc.cells Y;refine FW.walkH hmix (imp:=iCf) (l:=oCf) (by kernel_rfl) (by kernel_rfl) ?_;simp only[oCf];simp(maxSteps:=2000000)only[push_cast,seval,↓kw2,zAo,zAn,zAh,↓zAc,Bool.or_false,Bool.or_true,Bool.true_or,Bool.false_or,Bool.or_self,Nat.add_assoc,zAd,zAr,wat,clOf,Int.toNat_natCast,iCf,t0,t1,t2,t3,t9,t10,dl,wq,hr,gX,lX,gY,lY,cX,cY,Plc.av];refine⟨⟨by omega,by omega⟩,⟨by omega,by omega⟩,?_⟩;refine hcc _ fun H3 h3 st3=>⟨?_,?_⟩
    ·repeat' (first | apply And.intro | (intro h; exact absurd (h.symm.trans (by kernel_rfl)) Bool.false_ne_true))
    cases hlt:x.lt X Y
    ·have hcd:decide (cmpS x.a x.b x.c x.sc X Y < 0)=false:=hlt;simp(maxSteps:=2000000)only[push_cast,seval,↓kw2,zAo,zAn,zAh,↓zAc,Bool.or_false,Bool.or_true,Bool.true_or,Bool.false_or,Bool.or_self,Nat.add_assoc,zAd,zAr,wat,clOf,Int.toNat_natCast,iCf,hcd];subst hX;subst hY;have w1:=zAf (n:=(i2:Int)+1) (by omega) (by omega);refine goW TOk.nil [5,16,22] 0 ?_;simp(maxSteps:=2000000)only[push_cast,seval,↓kw2,t0,t1,t2,t3,t9,t10,w1,List.contains_cons,Bool.true_or,Bool.false_or,Bool.or_true,Bool.or_false,Bool.or_self];refine ih2 (b - (i2+1)) (by omega) _ _ ?_;exact⟨i2+1,rfl,by omega,by omega,(ss_yes hq hlb hlt).symm.trans hss,h3,hst.trans st3,t0,t1,t2,t3,rfl,t10⟩
    ·have hcd:decide (cmpS x.a x.b x.c x.sc X Y < 0)=true:=hlt;simp(maxSteps:=2000000)only[push_cast,seval,↓kw2,zAo,zAn,zAh,↓zAc,Bool.or_false,Bool.or_true,Bool.true_or,Bool.false_or,Bool.or_self,Nat.add_assoc,zAd,zAr,wat,clOf,Int.toNat_natCast,iCf,hcd];subst hX;subst hY;have hend:=hss.symm.trans (ss_no hq fun _=>hlt);refine walk hmix TOk.nil [5,16,22] 5 0 (by kernel_rfl) ?_;simp(maxSteps:=2000000)only[push_cast,seval,↓kw2,t0,t1,t2,t3,t9,t10,List.contains_cons,Bool.true_or,Bool.false_or,Bool.or_true,Bool.or_false,Bool.or_self];refine FW.here ?_;exact⟨i2,hend,hii,hi2b,h3,hst.trans st3,t0,t1,t2,t3,t9,t10⟩
   ·have dl:decide ((i2:Int) < (b:Int))=false:=decide_eq_false (by omega);have hend:=hss.symm.trans (ss_no hq fun e=>absurd e hlb);refine goW TOk.nil [5,16,22] 0 ?_;simp(maxSteps:=2000000)only[push_cast,seval,↓kw2,t0,t1,t2,t3,t9,t10,List.contains_cons,Bool.true_or,Bool.false_or,Bool.or_true,Bool.or_false,Bool.or_self];refine FW.walkH hmix (imp:=iCf) (l:=oCf) (by kernel_rfl) (by kernel_rfl) ?_;simp only[oCf];simp(maxSteps:=2000000)only[push_cast,seval,↓kw2,zAo,zAn,zAh,↓zAc,Bool.or_false,Bool.or_true,Bool.true_or,Bool.false_or,Bool.or_self,Nat.add_assoc,zAd,zAr,wat,clOf,Int.toNat_natCast,iCf,t0,t1,t2,t3,t9,t10,dl];refine walk hmix TOk.nil [5,16,22] 5 0 (by kernel_rfl) ?_;simp(maxSteps:=2000000)only[push_cast,seval,↓kw2,t0,t1,t2,t3,t9,t10,List.contains_cons,Bool.true_or,Bool.false_or,Bool.or_true,Bool.or_false,Bool.or_self];refine FW.here ?_;exact⟨i2,hend,hii,hi2b,h,hst,t0,t1,t2,t3,t9,t10⟩
  case ht=>intro _; kernel_rfl
  case h2 =>
   clear h hst t0 t1 t2 t3 t9 t10
   rintro ts H ⟨i2,hss,hii,hi2b,h,hst,t0,t1,t2,t3,t9,t10⟩
   rw[hss]at hres;simp only at hres
   by_cases hE:i2=b
   ·have de:decide ((i2:Int)=(b:Int))=true:=decide_eq_true (by omega);rw[if_pos hE]at hres;rw[← hres]at hK;refine goW TOk.nil [5,16,22] 0 ?_;simp(maxSteps:=2000000)only[push_cast,seval,↓kw2,t0,t1,t2,t3,t9,t10,de,List.contains_cons,Bool.true_or,Bool.false_or,Bool.or_true,Bool.or_false,Bool.or_self];exact⟨_,rfl,hK _ h hst⟩
   have de:decide ((i2:Int)=(b:Int))=false:=decide_eq_false (by omega);rw[if_neg hE]at hres;have wba:=zAf (n:=(b:Int) - (a:Int)) (by omega) (by omega)
   by_cases h50:b - a < 50
   ·have d5:decide ((b:Int) - (a:Int) < 50)=true:=decide_eq_true (by omega);rw[if_pos h50]at hres;rw[← hres]at hK;refine goW TOk.nil [5,16,22] 0 ?_;simp(maxSteps:=2000000)only[push_cast,seval,↓kw2,t0,t1,t2,t3,t9,t10,de,wba,d5,List.contains_cons,Bool.true_or,Bool.false_or,Bool.or_true,Bool.or_false,Bool.or_self];exact⟨_,rfl,hK _ h hst⟩
   have d5:decide ((b:Int) - (a:Int) < 50)=false:=decide_eq_false (by omega);rw[if_neg h50]at hres;obtain⟨q,hq⟩:∃ q,q=i2 - 1:=⟨_,rfl⟩;have wq:IntKind.i64.wrap ((i2:Int) - 1)=(q:Int):=by rw[zAf (n:=(i2:Int) - 1) (by omega) (by omega)]; omega
   rw[← hq]at hres;have wia:=zAf (n:=(i2:Int) - (a:Int)) (by omega) (by omega);have wbi:=zAf (n:=(b:Int) - (i2:Int)) (by omega) (by omega);have wi1:=zAf (n:=(i2:Int)+1) (by omega) (by omega);have wc:=zAf (n:=(c:Int)+1) (by omega) (by omega);apply FW.cut (Inv:=fun ts' H'=>∃(d2:Array Plc),(if i2 - a ≥ 2 then shiftDown x.lt q (swp d i2 q) else swp d i2 q)=d2∧d2.size=x.n∧Inv x H' d2∧Stp x H0 H'∧ts' 0=.sl x.R 0 x.n x.cap∧ts' 1=I (a:Int)∧ts' 2=I (b:Int)∧ts' 3=.fn 38 [] [.ptr x.D 0,.ptr x.F 0]∧ts' 9=I (i2:Int)∧ts' 10=I (c:Int))
   case h1 =>
    have gR:=zAi (x:=x) (d:=d) (i:=i2) (by omega);have lR:=zAj (x:=x) (d:=d) (i:=i2) (by omega);have gC:=zAi (x:=x) (d:=d) (i:=q) (by omega);have lC:=zAj (x:=x) (d:=d) (i:=q) (by omega);have hr:=h.row;have hsw:=zCg (x:=x) (d:=d) (i:=i2) (j:=q) (by omega) (by omega);have hpost:=h.swap (i:=i2) (j:=q) (by omega) (by omega);rw[← hsw]at hpost;have hrs:∀ v,(H.set x.R v)[x.R]?=some v:=fun v=>List.getElem?_set_self h.lt.1
    generalize d[i2]! =U0 at gR hsw hpost
    generalize d[q]! =V0 at gC hsw hpost
    obtain⟨Z,hz⟩:=zBp x (d:=d) (i:=q) (j:=i2) (by omega) V0;simp only[Plc.av]at hz;have cU:=Plc.cells U0;have cV:=Plc.cells V0;have hsz1:(swp d i2 q).size=x.n:=(zEp _ _ _).trans hsz;have hst1:Stp x H0 (H.set x.R (.arr 9 (((rowA x d).set i2 V0.av).set q U0.av))):=hst.trans .row
    generalize swp d i2 q=d1 at hpost hsz1 ⊢
    by_cases h2:i2 - a ≥ 2
    ·have d2':decide (2≤(i2:Int) - (a:Int))=true:=decide_eq_true (by omega);refine goW TOk.nil [5,16,22] 0 ?_;simp(maxSteps:=2000000)only[push_cast,seval,↓kw2,t0,t1,t2,t3,t9,t10,de,wba,d5,wq,wia,ge_iff_le,d2',hr,hrs,hz,gR,lR,gC,lC,cU,cV,Plc.av,List.set_set,List.length_set,Int.toNat_natCast,List.contains_cons,Bool.true_or,Bool.false_or,Bool.or_true,Bool.or_false,Bool.or_self]
     repeat (refine⟨⟨by omega,by omega⟩,?_⟩)
     refine FW.loopInv (fun m ts H=>∃(d2:Array Plc),m≤q∧d2.size=x.n∧shiftDown x.lt m d2=shiftDown x.lt q d1∧Inv x H d2∧Stp x H0 H∧ts 0=.sl x.R 0 x.n x.cap∧ts 1=I (a:Int)∧ts 2=I (b:Int)∧ts 3=.fn 38 [] [.ptr x.D 0,.ptr x.F 0]∧ts 9=I (i2:Int)∧ts 10=I (c:Int)∧ts 11=I (m:Int)) q
      ⟨d1,Nat.le_refl _,hsz1,rfl,hpost,hst1,t0,t1,t2,t3,t9,t10,rfl⟩ ?_
     rintro j ih3 ts' H' ⟨d2,hjq,hsz2,hsd,h9,hst9,t0,t1,t2,t3,t9,t10,t11⟩
     refine FW.inLoop ?_
     by_cases hj:1≤j
     ·have dj:decide (1≤(j:Int))=true:=decide_eq_true (by omega);obtain⟨r,hr1⟩:∃ r,j=r+1:=⟨j - 1,by omega⟩;have wr:IntKind.i64.wrap ((j:Int) - 1)=(r:Int):=by rw[zAf (n:=(j:Int) - 1) (by omega) (by omega)]; omega
      refine goW TOk.nil [5,16,22] 0 ?_;simp(maxSteps:=2000000)only[push_cast,seval,↓kw2,t0,t1,t2,t3,t9,t10,t11,ge_iff_le,dj,List.contains_cons,Bool.true_or,Bool.false_or,Bool.or_true,Bool.or_false,Bool.or_self];have gX:=zAi (x:=x) (d:=d2) (i:=j) (by omega);have lX:=zAj (x:=x) (d:=d2) (i:=j) (by omega);have gY:=zAi (x:=x) (d:=d2) (i:=r) (by omega);have lY:=zAj (x:=x) (d:=d2) (i:=r) (by omega);have hr:=h9.row;have hcc:=zBr hx h9 (i:=j) (j:=r) (by omega) (by omega)
      generalize hX:d2[j]! =X at gX hcc
      generalize hY:d2[r]! =Y at gY hcc
      have cX:=Plc.cells X;have cY:=Plc.cells Y;refine FW.walkH hmix (imp:=iCg) (l:=oCg) (by kernel_rfl) (by kernel_rfl) ?_;simp only[oCg];simp(maxSteps:=2000000)only[push_cast,seval,↓kw2,zAo,zAn,zAh,↓zAc,Bool.or_false,Bool.or_true,Bool.true_or,Bool.false_or,Bool.or_self,Nat.add_assoc,zAd,zAr,wat,clOf,Int.toNat_natCast,iCg,t0,t1,t2,t3,t9,t10,t11,wr,hr,gX,lX,gY,lY,cX,cY,Plc.av];refine⟨⟨by omega,by omega⟩,⟨by omega,by omega⟩,?_⟩;refine hcc _ fun H3 h3 st3=>⟨?_,?_⟩
      ·repeat' (first | apply And.intro | (intro h; exact absurd (h.symm.trans (by kernel_rfl)) Bool.false_ne_true))
      cases hlt:x.lt X Y
      ·have hcd:decide (cmpS x.a x.b x.c x.sc X Y < 0)=false:=hlt;simp(maxSteps:=2000000)only[push_cast,seval,↓kw2,zAo,zAn,zAh,↓zAc,Bool.or_false,Bool.or_true,Bool.true_or,Bool.false_or,Bool.or_self,Nat.add_assoc,zAd,zAr,wat,clOf,Int.toNat_natCast,iCg,hcd];subst hX;subst hY;have hend:=hsd.symm.trans (sd_no hr1 hlt);refine walk hmix TOk.nil [5,16,22] 4 0 (by kernel_rfl) ?_;simp(maxSteps:=2000000)only[push_cast,seval,↓kw2,t0,t1,t2,t3,t9,t10,List.contains_cons,Bool.true_or,Bool.false_or,Bool.or_true,Bool.or_false,Bool.or_self];refine FW.here ?_;exact⟨d2,by rw[if_pos h2]; exact hend,hsz2,h3,hst9.trans st3,t0,t1,t2,t3,t9,t10⟩
      ·have hcd:decide (cmpS x.a x.b x.c x.sc X Y < 0)=true:=hlt;simp(maxSteps:=2000000)only[push_cast,seval,↓kw2,zAo,zAn,zAh,↓zAc,Bool.or_false,Bool.or_true,Bool.true_or,Bool.false_or,Bool.or_self,Nat.add_assoc,zAd,zAr,wat,clOf,Int.toNat_natCast,iCg,hcd];subst hX;subst hY;have gR:=zAi (x:=x) (d:=d2) (i:=j) (by omega);have lR:=zAj (x:=x) (d:=d2) (i:=j) (by omega);have gC:=zAi (x:=x) (d:=d2) (i:=r) (by omega);have lC:=zAj (x:=x) (d:=d2) (i:=r) (by omega);have hr:=h3.row;have hsw:=zCg (x:=x) (d:=d2) (i:=j) (j:=r) (by omega) (by omega);have hpost:=h3.swap (i:=j) (j:=r) (by omega) (by omega);rw[← hsw]at hpost;have hrs:∀ v,(H3.set x.R v)[x.R]?=some v:=fun v=>List.getElem?_set_self h3.lt.1
       generalize d2[j]! =U0 at gR hsw hpost
       generalize d2[r]! =V0 at gC hsw hpost
       obtain⟨Z,hz⟩:=zBp x (d:=d2) (i:=r) (j:=j) (by omega) V0;simp only[Plc.av]at hz;have cU:=Plc.cells U0;have cV:=Plc.cells V0;refine goW TOk.nil [5,16,22] 0 ?_;simp(maxSteps:=2000000)only[push_cast,seval,↓kw2,t0,t1,t2,t3,t9,t10,t11,wr,hr,hrs,hz,gR,lR,gC,lC,cU,cV,Plc.av,List.set_set,List.length_set,Int.toNat_natCast,List.contains_cons,Bool.true_or,Bool.false_or,Bool.or_true,Bool.or_false,Bool.or_self]
       repeat (refine⟨⟨by omega,by omega⟩,?_⟩)
       refine ih3 r (by omega) _ _ ?_;exact⟨_,by omega,(zEp _ _ _).trans hsz2,(sd_yes hr1 hlt).symm.trans hsd,hpost,(hst9.trans st3).trans .row,t0,t1,t2,t3,t9,t10,rfl⟩
     ·have dj:decide (1≤(j:Int))=false:=decide_eq_false (by omega);have hj0:j=0:=by omega
      subst hj0;refine walk hmix TOk.nil [5,16,22] 10 0 (by kernel_rfl) ?_;simp(maxSteps:=2000000)only[push_cast,seval,↓kw2,t0,t1,t2,t3,t9,t10,t11,ge_iff_le,dj,List.contains_cons,Bool.true_or,Bool.false_or,Bool.or_true,Bool.or_false,Bool.or_self];refine FW.here ?_;exact⟨d2,by rw[if_pos h2]; exact hsd.symm,hsz2,h9,hst9,t0,t1,t2,t3,t9,t10⟩
    ·have d2':decide (2≤(i2:Int) - (a:Int))=false:=decide_eq_false (by omega);refine walk hmix TOk.nil [5,16,22] 30 0 (by kernel_rfl) ?_;simp(maxSteps:=2000000)only[push_cast,seval,↓kw2,t0,t1,t2,t3,t9,t10,de,wba,d5,wq,wia,ge_iff_le,d2',hr,hrs,hz,gR,lR,gC,lC,cU,cV,Plc.av,List.set_set,List.length_set,Int.toNat_natCast,List.contains_cons,Bool.true_or,Bool.false_or,Bool.or_true,Bool.or_false,Bool.or_self]
     repeat (refine⟨⟨by omega,by omega⟩,?_⟩)
     refine FW.here ?_;exact⟨d1,by rw[if_neg h2],hsz1,hpost,hst1,t0,t1,t2,t3,t9,t10⟩
   case ht=>intro _; kernel_rfl
   case h2 =>
    clear h hst t0 t1 t2 t3 t9 t10
    rintro ts H ⟨d2,hd2,hsz2,h,hst,t0,t1,t2,t3,t9,t10⟩
    rw[hd2]at hres
    by_cases h2:b - i2 ≥ 2
    ·have d2':decide (2≤(b:Int) - (i2:Int))=true:=decide_eq_true (by omega);rw[if_pos h2]at hres;refine goW TOk.nil [5,16,22] 0 ?_;simp(maxSteps:=2000000)only[push_cast,seval,↓kw2,t0,t1,t2,t3,t9,t10,wbi,wi1,ge_iff_le,d2',List.contains_cons,Bool.true_or,Bool.false_or,Bool.or_true,Bool.or_false,Bool.or_self];refine FW.loopInv (fun m ts H=>∃(j:Nat) (d3:Array Plc),m=b - j∧i2 < j∧j≤b∧d3.size=x.n∧shiftUp x.lt b j d3=shiftUp x.lt b (i2+1) d2∧Inv x H d3∧Stp x H0 H∧ts 0=.sl x.R 0 x.n x.cap∧ts 1=I (a:Int)∧ts 2=I (b:Int)∧ts 3=.fn 38 [] [.ptr x.D 0,.ptr x.F 0]∧ts 9=I (i2:Int)∧ts 10=I (c:Int)∧ts 12=I (j:Int)) (b - (i2+1))
      ⟨i2+1,d2,rfl,by omega,by omega,hsz2,rfl,h,hst,t0,t1,t2,t3,t9,t10,rfl⟩ ?_
     clear h hst t0 t1 t2 t3 t9 t10
     rintro m ih3 ts H' ⟨j,d3,hm3,hij,hjb,hsz3,hsu,h,hst,t0,t1,t2,t3,t9,t10,t12⟩
     refine FW.inLoop ?_;obtain⟨r,hr1⟩:∃ r,r=j - 1:=⟨_,rfl⟩;have wr:IntKind.i64.wrap ((j:Int) - 1)=(r:Int):=by rw[zAf (n:=(j:Int) - 1) (by omega) (by omega)]; omega
     have wj1:=zAf (n:=(j:Int)+1) (by omega) (by omega)
     by_cases hj:j < b
     ·have dj:decide ((j:Int) < (b:Int))=true:=decide_eq_true (by omega);refine goW TOk.nil [5,16,22] 0 ?_;simp(maxSteps:=2000000)only[push_cast,seval,↓kw2,t0,t1,t2,t3,t9,t10,t12,dj,List.contains_cons,Bool.true_or,Bool.false_or,Bool.or_true,Bool.or_false,Bool.or_self];have gX:=zAi (x:=x) (d:=d3) (i:=j) (by omega);have lX:=zAj (x:=x) (d:=d3) (i:=j) (by omega);have gY:=zAi (x:=x) (d:=d3) (i:=r) (by omega);have lY:=zAj (x:=x) (d:=d3) (i:=r) (by omega);have hr:=h.row;have hcc:=zBr hx h (i:=j) (j:=r) (by omega) (by omega)
      generalize hX:d3[j]! =X at gX hcc
      generalize hY:d3[r]! =Y at gY hcc
      have cX:=Plc.cells X;have cY:=Plc.cells Y;refine FW.walkH hmix (imp:=iCg) (l:=oCg) (by kernel_rfl) (by kernel_rfl) ?_;simp only[oCg];simp(maxSteps:=2000000)only[push_cast,seval,↓kw2,zAo,zAn,zAh,↓zAc,Bool.or_false,Bool.or_true,Bool.true_or,Bool.false_or,Bool.or_self,Nat.add_assoc,zAd,zAr,wat,clOf,Int.toNat_natCast,iCg,t0,t1,t2,t3,t9,t10,t12,wr,hr,gX,lX,gY,lY,cX,cY,Plc.av];refine⟨⟨by omega,by omega⟩,⟨by omega,by omega⟩,?_⟩;refine hcc _ fun H3 h3 st3=>⟨?_,?_⟩
      ·repeat' (first | apply And.intro | (intro h; exact absurd (h.symm.trans (by kernel_rfl)) Bool.false_ne_true))
      cases hlt:x.lt X Y
      ·have hcd:decide (cmpS x.a x.b x.c x.sc X Y < 0)=false:=hlt;simp(maxSteps:=2000000)only[push_cast,seval,↓kw2,zAo,zAn,zAh,↓zAc,Bool.or_false,Bool.or_true,Bool.true_or,Bool.false_or,Bool.or_self,Nat.add_assoc,zAd,zAr,wat,clOf,Int.toNat_natCast,iCg,hcd];subst hX;subst hY;rw[← hsu,su_no hr1 fun _=>hlt]at hres;refine goW TOk.nil [5,16,22] 0 ?_;simp(maxSteps:=2000000)only[push_cast,seval,↓kw2,t0,t1,t2,t3,t9,t10,t12,dj,wc,List.contains_cons,Bool.true_or,Bool.false_or,Bool.or_true,Bool.or_false,Bool.or_self];refine ih k (by omega) _ _ ?_;exact⟨c+1,i2,d3,by omega,by omega,by omega,hsz3,hres,h3,hst.trans st3,t0,t1,t2,t3,t9,rfl⟩
      ·have hcd:decide (cmpS x.a x.b x.c x.sc X Y < 0)=true:=hlt;simp(maxSteps:=2000000)only[push_cast,seval,↓kw2,zAo,zAn,zAh,↓zAc,Bool.or_false,Bool.or_true,Bool.true_or,Bool.false_or,Bool.or_self,Nat.add_assoc,zAd,zAr,wat,clOf,Int.toNat_natCast,iCg,hcd];subst hX;subst hY;have gR:=zAi (x:=x) (d:=d3) (i:=j) (by omega);have lR:=zAj (x:=x) (d:=d3) (i:=j) (by omega);have gC:=zAi (x:=x) (d:=d3) (i:=r) (by omega);have lC:=zAj (x:=x) (d:=d3) (i:=r) (by omega);have hr:=h3.row;have hsw:=zCg (x:=x) (d:=d3) (i:=j) (j:=r) (by omega) (by omega);have hpost:=h3.swap (i:=j) (j:=r) (by omega) (by omega);rw[← hsw]at hpost;have hrs:∀ v,(H3.set x.R v)[x.R]?=some v:=fun v=>List.getElem?_set_self h3.lt.1
       generalize d3[j]! =U0 at gR hsw hpost
       generalize d3[r]! =V0 at gC hsw hpost
       obtain⟨Z,hz⟩:=zBp x (d:=d3) (i:=r) (j:=j) (by omega) V0;simp only[Plc.av]at hz;have cU:=Plc.cells U0;have cV:=Plc.cells V0;refine goW TOk.nil [5,16,22] 0 ?_;simp(maxSteps:=2000000)only[push_cast,seval,↓kw2,t0,t1,t2,t3,t9,t10,t12,wr,wj1,hr,hrs,hz,gR,lR,gC,lC,cU,cV,Plc.av,List.set_set,List.length_set,Int.toNat_natCast,List.contains_cons,Bool.true_or,Bool.false_or,Bool.or_true,Bool.or_false,Bool.or_self]
       repeat (refine⟨⟨by omega,by omega⟩,?_⟩)
       refine ih3 (b - (j+1)) (by omega) _ _ ?_;exact⟨j+1,_,rfl,by omega,by omega,(zEp _ _ _).trans hsz3,(su_yes hr1 hj hlt).symm.trans hsu,hpost,(hst.trans st3).trans .row,t0,t1,t2,t3,t9,t10,rfl⟩
     ·have dj:decide ((j:Int) < (b:Int))=false:=decide_eq_false (by omega);rw[← hsu,su_no hr1 fun e=>absurd e hj]at hres;refine goW TOk.nil [5,16,22] 0 ?_;simp(maxSteps:=2000000)only[push_cast,seval,↓kw2,t0,t1,t2,t3,t9,t10,t12,dj,wc,List.contains_cons,Bool.true_or,Bool.false_or,Bool.or_true,Bool.or_false,Bool.or_self];refine ih k (by omega) _ _ ?_;exact⟨c+1,i2,d3,by omega,by omega,by omega,hsz3,hres,h,hst,t0,t1,t2,t3,t9,rfl⟩
    ·have d2':decide (2≤(b:Int) - (i2:Int))=false:=decide_eq_false (by omega);rw[if_neg h2]at hres;refine goW TOk.nil [5,16,22] 0 ?_;simp(maxSteps:=2000000)only[push_cast,seval,↓kw2,t0,t1,t2,t3,t9,t10,wbi,wi1,wc,ge_iff_le,d2',List.contains_cons,Bool.true_or,Bool.false_or,Bool.or_true,Bool.or_false,Bool.or_self];refine ih k (by omega) _ _ ?_;exact⟨c+1,i2,d2,by omega,by omega,by omega,hsz2,hres,h,hst,t0,t1,t2,t3,t9,rfl⟩
 ·have dc:decide ((c:Int) < 5)=false:=decide_eq_false (by omega);have hm0:m=0:=by omega
  subst hm0;rw[partialIns]at hres;rw[← hres]at hK;refine goW TOk.nil [5,16,22] 0 ?_;simp(maxSteps:=2000000)only[push_cast,seval,↓kw2,t0,t1,t2,t3,t9,t10,dc,List.contains_cons,Bool.true_or,Bool.false_or,Bool.or_true,Bool.or_false,Bool.or_self];exact⟨_,rfl,hK _ h hst⟩
def oCh:List (Nat × Bool):=[(0,true),(1,true),(2,true),(3,true),(4,true),(5,true),(6,true),(7,true),(8,true),(9,true),(10,true),(11,true),(12,true),(13,false),(14,true),(15,true),(16,true)]
def iCh:Nat→Bool:=fun i=>i==13
theorem e45:Ent Tryz.prog 45 Tryz.f45 [17] 5:=.mk Tryz.func45 rfl
attribute [push_cast] Tryz.f45
theorem pdq_ac{x:Cx}(hx:x.ok):∀(n:Nat) {a0 b0:Nat},b0 - a0≤n→a0≤b0→b0≤x.n→∀ {lim0:Int} {H0:List AO} {d0:Array Plc},Inv x H0 d0→Below x.lt a0 b0 d0→∀ {K:AV→List AO→Prop},(∀ H' d',Inv x H' d'→PermIn a0 b0 d0 d'→SortedIn x.lt a0 b0 d'→Stp x H0 H'→K (.tup []) H') →
  AC Tryz.prog GG 45 [.sl x.R 0 x.n x.cap,I (a0:Int),I (b0:Int),I lim0,.fn 38 [] [.ptr x.D 0,.ptr x.F 0]] H0 K:=by
 have hn:=hx.n
 intro n
 induction n using Nat.strongRecOn with
 | ind n ihn =>
 intro a0 b0 hn0 hab hb lim0 H0 d0 h hB K hK
 have hsz:=h.n;refine goE e45 TOk.nil 0 ?_;simp(maxSteps:=2000000)only[push_cast,seval,↓kw2];refine FW.loopInv (fun m ts H=>∃(a b:Nat) (d:Array Plc) (lim:Int) (wb wp:Bool),m=b - a∧b - a≤n∧a≤b∧b≤x.n∧d.size=x.n∧Below x.lt a b d∧(∀ R,PermIn a b d R→SortedIn x.lt a b R→PermIn a0 b0 d0 R∧SortedIn x.lt a0 b0 R)∧Inv x H d∧Stp x H0 H∧ts 0=.sl x.R 0 x.n x.cap∧ts 1=I (a:Int)∧ts 2=I (b:Int)∧ts 3=I lim∧ts 4=.fn 38 [] [.ptr x.D 0,.ptr x.F 0]∧ts 10=B wb∧ts 11=B wp) (b0 - a0)
  ⟨a0,b0,d0,lim0,true,true,rfl,hn0,hab,hb,hsz,hB,fun R h1 h2=>⟨h1,h2⟩,h,.refl,rfl,rfl,rfl,rfl,rfl,rfl,rfl⟩ ?_
 clear h hB hsz hab hb hn0
 rintro m ih ts H ⟨a,b,d,lim,wb,wp,hm,hbn,hab,hb,hsz,hB,hG,h,hst,t0,t1,t2,t3,t4,t10,t11⟩
 refine FW.inLoop ?_;obtain⟨l,hl⟩:∃ l,l=b - a:=⟨_,rfl⟩;have wl:IntKind.i64.wrap ((b:Int) - (a:Int))=(l:Int):=by rw[zAf (n:=(b:Int) - (a:Int)) (by omega) (by omega)]; omega
 by_cases h12:l≤12
 ·have d12:decide ((l:Int)≤12)=true:=decide_eq_true (by omega);refine goW TOk.nil [17] 0 ?_;simp(maxSteps:=2000000)only[push_cast,seval,↓kw2,t0,t1,t2,t3,t4,t10,t11,wl,d12,List.contains_cons,Bool.true_or,Bool.false_or,Bool.or_true,Bool.or_false,Bool.or_self];refine insertion_ac hx hab hb h ?_
  intro H' h' st'
  refine goW TOk.nil [17] 0 ?_;simp(maxSteps:=2000000)only[push_cast,seval,↓kw2,List.contains_cons,Bool.true_or,Bool.false_or,Bool.or_true,Bool.or_false,Bool.or_self];obtain⟨r1,r2⟩:=insertionSort_holds x.swo d a b hab (by omega);obtain⟨g1,g2⟩:=hG _ r1 r2;exact⟨_,rfl,hK _ _ h' g1 g2 (hst.trans st')⟩
 have d12:decide ((l:Int)≤12)=false:=decide_eq_false (by omega)
 by_cases hz:lim=0
 ·have dz:decide (lim=0)=true:=decide_eq_true hz;refine goW TOk.nil [17] 0 ?_;simp(maxSteps:=2000000)only[push_cast,seval,↓kw2,t0,t1,t2,t3,t4,t10,t11,wl,d12,dz,List.contains_cons,Bool.true_or,Bool.false_or,Bool.or_true,Bool.or_false,Bool.or_self];refine heap_ac hx hab hb h ?_
  intro H' h' st'
  refine goW TOk.nil [17] 0 ?_;simp(maxSteps:=2000000)only[push_cast,seval,↓kw2,List.contains_cons,Bool.true_or,Bool.false_or,Bool.or_true,Bool.or_false,Bool.or_self];obtain⟨r1,r2⟩:=heapSort_holds x.swo d a b hab (by omega);obtain⟨g1,g2⟩:=hG _ r1 r2;exact⟨_,rfl,hK _ _ h' g1 g2 (hst.trans st')⟩
 have dz:decide (lim=0)=false:=decide_eq_false hz;apply FW.cut (Inv:=fun ts' H'=>∃(d1:Array Plc) (lim1:Int),PermIn a b d d1∧Inv x H' d1∧Stp x H0 H'∧ts' 0=.sl x.R 0 x.n x.cap∧ts' 1=I (a:Int)∧ts' 2=I (b:Int)∧ts' 3=I lim1∧ts' 4=.fn 38 [] [.ptr x.D 0,.ptr x.F 0]∧ts' 10=B wb∧ts' 11=B wp∧ts' 12=I (l:Int))
 case h1 =>
  cases wb
  ·skip
   refine goW TOk.nil [17] 0 ?_;simp(maxSteps:=2000000)only[push_cast,seval,↓kw2,t0,t1,t2,t3,t4,t10,t11,wl,d12,dz,List.contains_cons,Bool.true_or,Bool.false_or,Bool.or_true,Bool.or_false,Bool.or_self];refine break_ac hx (by omega) hb h ?_
   intro H' d1 h1 p1 st1
   refine walk hmix TOk.nil [17] 8 0 (by kernel_rfl) ?_;simp(maxSteps:=2000000)only[push_cast,seval,↓kw2,t0,t1,t2,t3,t4,t10,t11,List.contains_cons,Bool.true_or,Bool.false_or,Bool.or_true,Bool.or_false,Bool.or_self];refine FW.here ?_;exact⟨d1,_,p1,h1,hst.trans st1,t0,t1,t2,rfl,t4,t10,t11,rfl⟩
  ·skip
   refine walk hmix TOk.nil [17] 34 0 (by kernel_rfl) ?_;simp(maxSteps:=2000000)only[push_cast,seval,↓kw2,t0,t1,t2,t3,t4,t10,t11,wl,d12,dz,List.contains_cons,Bool.true_or,Bool.false_or,Bool.or_true,Bool.or_false,Bool.or_self];refine FW.here ?_;exact⟨d,lim,permIn_refl _ _ _,h,hst,t0,t1,t2,t3,t4,t10,t11,rfl⟩
 case ht=>intro _; kernel_rfl
 case h2 =>
  clear h hst t0 t1 t2 t3 t4 t10 t11 dz hz lim
  rintro ts H ⟨d1,lim,p1,h,hst,t0,t1,t2,t3,t4,t10,t11,t12⟩
  apply FW.cut (Inv:=fun ts' H'=>∃(d2:Array Plc) (pv hh:Nat),PermIn a b d d2∧a≤pv∧pv < b∧Inv x H' d2∧Stp x H0 H'∧ts' 0=.sl x.R 0 x.n x.cap∧ts' 1=I (a:Int)∧ts' 2=I (b:Int)∧ts' 3=I lim∧ts' 4=.fn 38 [] [.ptr x.D 0,.ptr x.F 0]∧ts' 10=B wb∧ts' 11=B wp∧ts' 12=I (l:Int)∧ts' 13=I (pv:Int)∧ts' 14=I (hh:Int))
  case h1 =>
   refine goW TOk.nil [17] 0 ?_;simp(maxSteps:=2000000)only[push_cast,seval,↓kw2,t0,t1,t2,t3,t4,t10,t11,t12,List.contains_cons,Bool.true_or,Bool.false_or,Bool.or_true,Bool.or_false,Bool.or_self];refine pivot_ac hx (by omega) hb h ?_
   intro pv tt H2 e1 e2 h2 st2
   by_cases hd:tt=2
   ·have dd:decide ((tt:Int)=2)=true:=decide_eq_true (by omega);obtain⟨b1,hb1⟩:∃ r,r=b - 1:=⟨_,rfl⟩;obtain⟨pa,hpa⟩:∃ r,r=pv - a:=⟨_,rfl⟩;obtain⟨pv2,hpv2⟩:∃ r,r=b1 - pa:=⟨_,rfl⟩;have w1:IntKind.i64.wrap ((b:Int) - 1)=(b1:Int):=by rw[zAf (n:=(b:Int) - 1) (by omega) (by omega)]; omega
    have w2:IntKind.i64.wrap ((pv:Int) - (a:Int))=(pa:Int):=by rw[zAf (n:=(pv:Int) - (a:Int)) (by omega) (by omega)]; omega
    have w3:IntKind.i64.wrap ((b1:Int) - (pa:Int))=(pv2:Int):=by rw[zAf (n:=(b1:Int) - (pa:Int)) (by omega) (by omega)]; omega
    refine goW TOk.nil [17] 0 ?_;simp(maxSteps:=2000000)only[push_cast,seval,↓kw2,t0,t1,t2,t3,t4,t10,t11,t12,dd,List.contains_cons,Bool.true_or,Bool.false_or,Bool.or_true,Bool.or_false,Bool.or_self];refine reverse_ac hx (by omega) hb h2 ?_
    intro H3 h3 st3
    refine walk hmix TOk.nil [17] 17 0 (by kernel_rfl) ?_;simp(maxSteps:=2000000)only[push_cast,seval,↓kw2,t0,t1,t2,t3,t4,t10,t11,t12,w1,w2,w3,List.contains_cons,Bool.true_or,Bool.false_or,Bool.or_true,Bool.or_false,Bool.or_self];refine FW.here ?_;have hs1:b≤d1.size:=by rw[p1.1]; omega
    exact⟨_,pv2,1,permIn_trans _ _ _ _ _ p1 (reverseRange_holds d1 a b hab hs1),by omega,by omega,h3,(hst.trans st2).trans st3,t0,t1,t2,t3,t4,t10,t11,t12,rfl,rfl⟩
   ·have dd:decide ((tt:Int)=2)=false:=decide_eq_false (by omega);refine walk hmix TOk.nil [17] 17 0 (by kernel_rfl) ?_;simp(maxSteps:=2000000)only[push_cast,seval,↓kw2,t0,t1,t2,t3,t4,t10,t11,t12,dd,List.contains_cons,Bool.true_or,Bool.false_or,Bool.or_true,Bool.or_false,Bool.or_self];refine FW.here ?_;exact⟨d1,pv,tt,p1,e1,e2,h2,hst.trans st2,t0,t1,t2,t3,t4,t10,t11,t12,rfl,rfl⟩
  case ht=>intro _; kernel_rfl
  case h2 =>
   clear h hst t0 t1 t2 t3 t4 t10 t11 t12 p1 d1
   rintro ts H ⟨d2,pv,hh,p2,e1,e2,h,hst,t0,t1,t2,t3,t4,t10,t11,t12,t13,t14⟩
   have hB2:Below x.lt a b d2:=hB.perm (by omega) p2;have hs2:d2.size=x.n:=p2.1.trans hsz;apply FW.cut2 (Inv:=fun ts' H'=>∃(d3:Array Plc),PermIn a b d d3∧Inv x H' d3∧Stp x H0 H'∧ts' 0=.sl x.R 0 x.n x.cap∧ts' 1=I (a:Int)∧ts' 2=I (b:Int)∧ts' 3=I lim∧ts' 4=.fn 38 [] [.ptr x.D 0,.ptr x.F 0]∧ts' 10=B wb∧ts' 11=B wp∧ts' 12=I (l:Int)∧ts' 13=I (pv:Int)∧ts' 14=I (hh:Int))
   case h1 =>
    obtain⟨e,he⟩:∃ e,decide ((hh:Int)=1)=e:=⟨_,rfl⟩;have cc:(wb=true∧wp=true∧e=true)∨wb=false∨(wb=true∧wp=false)∨(wb=true∧wp=true∧e=false):=by cases wb <;> cases wp <;> cases e <;> simp
    obtain⟨q,hq⟩:∃ r,r=a - 1:=⟨_,rfl⟩;have wq:0 < a→IntKind.i64.wrap ((a:Int) - 1)=(q:Int):=fun h0=>by rw[zAf (n:=(a:Int) - 1) (by omega) (by omega)]; omega
    rcases cc with ⟨rfl,rfl,rfl⟩ | rfl | ⟨rfl,rfl⟩ | ⟨rfl,rfl,rfl⟩
    ·skip
     refine goW TOk.nil [17] 0 ?_;simp(maxSteps:=2000000)only[push_cast,seval,↓kw2,t0,t1,t2,t3,t4,t10,t11,t12,t13,t14,he,List.contains_cons,Bool.true_or,Bool.false_or,Bool.or_true,Bool.or_false,Bool.or_self];refine partIns_ac hx (by omega) hb h ?_
     intro H3 h3' st3'
     obtain⟨k1,k2⟩:=partialInsertionSort_holds x.swo d2 a b (by omega) (by omega) hB2;cases hpb:(partialInsertionSort x.lt d2 a b).2
     ·have p9:=permIn_trans _ _ _ _ _ p2 k1
      generalize (partialInsertionSort x.lt d2 a b).1=d9 at p9 h3'
      refine goW TOk.nil [17] 0 ?_;simp(maxSteps:=2000000)only[push_cast,seval,↓kw2,t0,t1,t2,t3,t4,t10,t11,t12,t13,t14,List.contains_cons,Bool.true_or,Bool.false_or,Bool.or_true,Bool.or_false,Bool.or_self];have hB3:Below x.lt a b d9:=hB.perm (by omega) p9;have hs3:d9.size=x.n:=p9.1.trans hsz
      by_cases h0:0 < a
      ·have d0':decide (0 < (a:Int))=true:=decide_eq_true (by omega);have wq:=wq h0;have gX:=zAi (x:=x) (d:=d9) (i:=q) (by omega);have lX:=zAj (x:=x) (d:=d9) (i:=q) (by omega);have gY:=zAi (x:=x) (d:=d9) (i:=pv) (by omega);have lY:=zAj (x:=x) (d:=d9) (i:=pv) (by omega);have hr:=h3'.row;have hcc:=zBr hx h3' (i:=q) (j:=pv) (by omega) (by omega)
       generalize hX:d9[q]! =X at gX hcc
       generalize hY:d9[pv]! =Y at gY hcc
       have cX:=Plc.cells X;have cY:=Plc.cells Y;refine FW.walkH hmix (imp:=iCh) (l:=oCh) (by kernel_rfl) (by kernel_rfl) ?_;simp only[oCh];simp(maxSteps:=2000000)only[push_cast,seval,↓kw2,zAo,zAn,zAh,↓zAc,Bool.or_false,Bool.or_true,Bool.true_or,Bool.false_or,Bool.or_self,Nat.add_assoc,zAd,zAr,wat,clOf,Int.toNat_natCast,iCh,t0,t1,t2,t3,t4,t10,t11,t12,t13,t14,gt_iff_lt,d0',wq,hr,gX,lX,gY,lY,cX,cY,Plc.av];refine⟨⟨by omega,by omega⟩,⟨by omega,by omega⟩,?_⟩;refine hcc _ fun H3 h3 st3=>⟨?_,?_⟩
       ·repeat' (first | apply And.intro | (intro h; exact absurd (h.symm.trans (by kernel_rfl)) Bool.false_ne_true))
       cases hlt:x.lt X Y
       ·have hcd:decide (cmpS x.a x.b x.c x.sc X Y < 0)=false:=hlt;simp(maxSteps:=2000000)only[push_cast,seval,↓kw2,zAo,zAn,zAh,↓zAc,Bool.or_false,Bool.or_true,Bool.true_or,Bool.false_or,Bool.or_self,Nat.add_assoc,zAd,zAr,wat,clOf,Int.toNat_natCast,iCh,hcd];subst hX;subst hY;refine goW TOk.nil [17] 0 ?_;simp(maxSteps:=2000000)only[push_cast,seval,↓kw2,t0,t1,t2,t3,t4,t10,t11,t12,t13,t14,List.contains_cons,Bool.true_or,Bool.false_or,Bool.or_true,Bool.or_false,Bool.or_self];refine partEq_ac hx e1 e2 hb (by omega) h3 ?_
        intro H4 h4 st4
        obtain⟨r1,r2,r3,r4,r5⟩:=round_eq x.swo (partitionEqual_holds x.lt) h0 e1 e2 (by omega) hB3 (by rw[← hq]; exact hlt) (mid:=(partitionEqual x.lt d9 a b pv).1) (d4:=(partitionEqual x.lt d9 a b pv).2) rfl
        generalize (partitionEqual x.lt d9 a b pv).1=mid at r1 r2 r4 r5 ⊢
        generalize (partitionEqual x.lt d9 a b pv).2=d4 at r3 r4 r5 h4
        refine goW TOk.nil [17] 0 ?_;simp(maxSteps:=2000000)only[push_cast,seval,↓kw2,t0,t1,t2,t3,t4,t10,t11,t12,t13,t14,List.contains_cons,Bool.true_or,Bool.false_or,Bool.or_true,Bool.or_false,Bool.or_self];refine FW.mono (ih (b - mid) (by omega) _ _ ?_) fun _ _ _ h=>.inr h
        exact⟨mid,b,d4,lim,_,_,rfl,by omega,by omega,hb,r3.trans hs3,r4,fun R k1 k2=>(fun g=>hG R (permIn_trans _ _ _ _ _ p9 g.1) g.2) (r5 R k1 k2),h4,((hst.trans st3').trans st3).trans st4,t0,rfl,t2,t3,t4,t10,t11⟩
       ·have hcd:decide (cmpS x.a x.b x.c x.sc X Y < 0)=true:=hlt;simp(maxSteps:=2000000)only[push_cast,seval,↓kw2,zAo,zAn,zAh,↓zAc,Bool.or_false,Bool.or_true,Bool.true_or,Bool.false_or,Bool.or_self,Nat.add_assoc,zAd,zAr,wat,clOf,Int.toNat_natCast,iCh,hcd];subst hX;subst hY;refine walk hmix TOk.nil [17] 4 0 (by kernel_rfl) ?_;simp(maxSteps:=2000000)only[push_cast,seval,↓kw2,t0,t1,t2,t3,t4,t10,t11,t12,t13,t14,List.contains_cons,Bool.true_or,Bool.false_or,Bool.or_true,Bool.or_false,Bool.or_self];refine FW.here2 ?_;exact⟨d9,p9,h3,(hst.trans st3').trans st3,t0,t1,t2,t3,t4,t10,t11,t12,t13,t14⟩
      ·have d0':decide (0 < (a:Int))=false:=decide_eq_false (by omega);refine FW.walkH hmix (imp:=iCh) (l:=oCh) (by kernel_rfl) (by kernel_rfl) ?_;simp only[oCh];simp(maxSteps:=2000000)only[push_cast,seval,↓kw2,zAo,zAn,zAh,↓zAc,Bool.or_false,Bool.or_true,Bool.true_or,Bool.false_or,Bool.or_self,Nat.add_assoc,zAd,zAr,wat,clOf,Int.toNat_natCast,iCh,t0,t1,t2,t3,t4,t10,t11,t12,t13,t14,gt_iff_lt,d0'];refine walk hmix TOk.nil [17] 4 0 (by kernel_rfl) ?_;simp(maxSteps:=2000000)only[push_cast,seval,↓kw2,t0,t1,t2,t3,t4,t10,t11,t12,t13,t14,List.contains_cons,Bool.true_or,Bool.false_or,Bool.or_true,Bool.or_false,Bool.or_self];refine FW.here2 ?_;exact⟨d9,p9,h3',hst.trans st3',t0,t1,t2,t3,t4,t10,t11,t12,t13,t14⟩
     ·obtain⟨g1,g2⟩:=hG _ (permIn_trans _ _ _ _ _ p2 k1) (k2 hpb);refine goW TOk.nil [17] 0 ?_;simp(maxSteps:=2000000)only[push_cast,seval,↓kw2,t0,t1,t2,t3,t4,t10,t11,t12,t13,t14,List.contains_cons,Bool.true_or,Bool.false_or,Bool.or_true,Bool.or_false,Bool.or_self];exact .inr ⟨_,rfl,hK _ _ h3' g1 g2 (hst.trans st3')⟩
    all_goals
     refine goW TOk.nil [17] 0 ?_;simp(maxSteps:=2000000)only[push_cast,seval,↓kw2,t0,t1,t2,t3,t4,t10,t11,t12,t13,t14,he,List.contains_cons,Bool.true_or,Bool.false_or,Bool.or_true,Bool.or_false,Bool.or_self];have hB3:Below x.lt a b d2:=hB.perm (by omega) p2;have hs3:d2.size=x.n:=p2.1.trans hsz
     by_cases h0:0 < a
     ·have d0':decide (0 < (a:Int))=true:=decide_eq_true (by omega);have wq:=wq h0;have gX:=zAi (x:=x) (d:=d2) (i:=q) (by omega);have lX:=zAj (x:=x) (d:=d2) (i:=q) (by omega);have gY:=zAi (x:=x) (d:=d2) (i:=pv) (by omega);have lY:=zAj (x:=x) (d:=d2) (i:=pv) (by omega);have hr:=h.row;have hcc:=zBr hx h (i:=q) (j:=pv) (by omega) (by omega)
      generalize hX:d2[q]! =X at gX hcc
      generalize hY:d2[pv]! =Y at gY hcc
      have cX:=Plc.cells X;have cY:=Plc.cells Y;refine FW.walkH hmix (imp:=iCh) (l:=oCh) (by kernel_rfl) (by kernel_rfl) ?_;simp only[oCh];simp(maxSteps:=2000000)only[push_cast,seval,↓kw2,zAo,zAn,zAh,↓zAc,Bool.or_false,Bool.or_true,Bool.true_or,Bool.false_or,Bool.or_self,Nat.add_assoc,zAd,zAr,wat,clOf,Int.toNat_natCast,iCh,t0,t1,t2,t3,t4,t10,t11,t12,t13,t14,gt_iff_lt,d0',wq,hr,gX,lX,gY,lY,cX,cY,Plc.av];refine⟨⟨by omega,by omega⟩,⟨by omega,by omega⟩,?_⟩;refine hcc _ fun H3 h3 st3=>⟨?_,?_⟩
      ·repeat' (first | apply And.intro | (intro h; exact absurd (h.symm.trans (by kernel_rfl)) Bool.false_ne_true))
      cases hlt:x.lt X Y
      ·have hcd:decide (cmpS x.a x.b x.c x.sc X Y < 0)=false:=hlt;simp(maxSteps:=2000000)only[push_cast,seval,↓kw2,zAo,zAn,zAh,↓zAc,Bool.or_false,Bool.or_true,Bool.true_or,Bool.false_or,Bool.or_self,Nat.add_assoc,zAd,zAr,wat,clOf,Int.toNat_natCast,iCh,hcd];subst hX;subst hY;refine goW TOk.nil [17] 0 ?_;simp(maxSteps:=2000000)only[push_cast,seval,↓kw2,t0,t1,t2,t3,t4,t10,t11,t12,t13,t14,List.contains_cons,Bool.true_or,Bool.false_or,Bool.or_true,Bool.or_false,Bool.or_self];refine partEq_ac hx e1 e2 hb (by omega) h3 ?_
       intro H4 h4 st4
       obtain⟨r1,r2,r3,r4,r5⟩:=round_eq x.swo (partitionEqual_holds x.lt) h0 e1 e2 (by omega) hB3 (by rw[← hq]; exact hlt) (mid:=(partitionEqual x.lt d2 a b pv).1) (d4:=(partitionEqual x.lt d2 a b pv).2) rfl
       generalize (partitionEqual x.lt d2 a b pv).1=mid at r1 r2 r4 r5 ⊢
       generalize (partitionEqual x.lt d2 a b pv).2=d4 at r3 r4 r5 h4
       refine goW TOk.nil [17] 0 ?_;simp(maxSteps:=2000000)only[push_cast,seval,↓kw2,t0,t1,t2,t3,t4,t10,t11,t12,t13,t14,List.contains_cons,Bool.true_or,Bool.false_or,Bool.or_true,Bool.or_false,Bool.or_self];refine FW.mono (ih (b - mid) (by omega) _ _ ?_) fun _ _ _ h=>.inr h
       exact⟨mid,b,d4,lim,_,_,rfl,by omega,by omega,hb,r3.trans hs3,r4,fun R k1 k2=>(fun g=>hG R (permIn_trans _ _ _ _ _ p2 g.1) g.2) (r5 R k1 k2),h4,((hst).trans st3).trans st4,t0,rfl,t2,t3,t4,t10,t11⟩
      ·have hcd:decide (cmpS x.a x.b x.c x.sc X Y < 0)=true:=hlt;simp(maxSteps:=2000000)only[push_cast,seval,↓kw2,zAo,zAn,zAh,↓zAc,Bool.or_false,Bool.or_true,Bool.true_or,Bool.false_or,Bool.or_self,Nat.add_assoc,zAd,zAr,wat,clOf,Int.toNat_natCast,iCh,hcd];subst hX;subst hY;refine walk hmix TOk.nil [17] 4 0 (by kernel_rfl) ?_;simp(maxSteps:=2000000)only[push_cast,seval,↓kw2,t0,t1,t2,t3,t4,t10,t11,t12,t13,t14,List.contains_cons,Bool.true_or,Bool.false_or,Bool.or_true,Bool.or_false,Bool.or_self];refine FW.here2 ?_;exact⟨d2,p2,h3,(hst).trans st3,t0,t1,t2,t3,t4,t10,t11,t12,t13,t14⟩
     ·have d0':decide (0 < (a:Int))=false:=decide_eq_false (by omega);refine FW.walkH hmix (imp:=iCh) (l:=oCh) (by kernel_rfl) (by kernel_rfl) ?_;simp only[oCh];simp(maxSteps:=2000000)only[push_cast,seval,↓kw2,zAo,zAn,zAh,↓zAc,Bool.or_false,Bool.or_true,Bool.true_or,Bool.false_or,Bool.or_self,Nat.add_assoc,zAd,zAr,wat,clOf,Int.toNat_natCast,iCh,t0,t1,t2,t3,t4,t10,t11,t12,t13,t14,gt_iff_lt,d0'];refine walk hmix TOk.nil [17] 4 0 (by kernel_rfl) ?_;simp(maxSteps:=2000000)only[push_cast,seval,↓kw2,t0,t1,t2,t3,t4,t10,t11,t12,t13,t14,List.contains_cons,Bool.true_or,Bool.false_or,Bool.or_true,Bool.or_false,Bool.or_self];refine FW.here2 ?_;exact⟨d2,p2,h,hst,t0,t1,t2,t3,t4,t10,t11,t12,t13,t14⟩
   case ht=>intro _; kernel_rfl
   case h2 =>
    clear h hst t0 t1 t2 t3 t4 t10 t11 t12 t13 t14 p2 hB2 hs2 d2
    rintro ts H ⟨d3,p3,h,hst,t0,t1,t2,t3,t4,t10,t11,t12,t13,t14⟩
    have hB3:Below x.lt a b d3:=hB.perm (by omega) p3;have hs3:d3.size=x.n:=p3.1.trans hsz;refine goW TOk.nil [17] 0 ?_;simp(maxSteps:=2000000)only[push_cast,seval,↓kw2,t0,t1,t2,t3,t4,t10,t11,t12,t13,t14,List.contains_cons,Bool.true_or,Bool.false_or,Bool.or_true,Bool.or_false,Bool.or_self];refine part_ac hx e1 e2 hb (by omega) h ?_
    intro H4 h4 st4
    obtain⟨r1,r2,r3,r4,r5,r6,r7⟩:=round_part x.swo (partition_holds x.lt) e1 e2 (by omega) hB3 (mid:=(partition x.lt d3 a b pv).1) (ap:=(partition x.lt d3 a b pv).2.1) (d4:=(partition x.lt d3 a b pv).2.2) rfl
    generalize (partition x.lt d3 a b pv).1=mid at r1 r2 r4 r5 r6 r7 ⊢
    generalize (partition x.lt d3 a b pv).2.2=d4 at r3 r4 r5 r6 r7 h4
    generalize (partition x.lt d3 a b pv).2.1=ap
    obtain⟨lf,hlf⟩:∃ r,r=mid - a:=⟨_,rfl⟩;obtain⟨rg,hrg⟩:∃ r,r=b - mid:=⟨_,rfl⟩;obtain⟨th,hth⟩:∃ r,r=l / 8:=⟨_,rfl⟩;obtain⟨m1,hm1⟩:∃ r,r=mid+1:=⟨_,rfl⟩;have w1:IntKind.i64.wrap ((mid:Int) - (a:Int))=(lf:Int):=by rw[zAf (n:=(mid:Int) - (a:Int)) (by omega) (by omega)]; omega
    have w2:IntKind.i64.wrap ((b:Int) - (mid:Int))=(rg:Int):=by rw[zAf (n:=(b:Int) - (mid:Int)) (by omega) (by omega)]; omega
    have w3:IntKind.i64.wrap ((mid:Int)+1)=(m1:Int):=by rw[zAf (n:=(mid:Int)+1) (by omega) (by omega)]; omega
    have w4:IntKind.i64.wrap ((l:Int).tdiv 8)=(th:Int):=by
     have:(l:Int).tdiv 8=(th:Int):=by show(l:Int).tdiv ((8:Nat):Int)=_; rw[← Int.ofNat_tdiv]; omega
     rw[this];exact zAf (by omega) (by omega)
    rw[← hm1]at r5 r6 r7
    by_cases hlr:lf < rg
    ·have dlr:decide ((lf:Int) < (rg:Int))=true:=decide_eq_true (by omega);refine goW TOk.nil [17] 0 ?_;simp(maxSteps:=2000000)only[push_cast,seval,↓kw2,t0,t1,t2,t3,t4,t10,t11,t12,t13,t14,w1,w2,w3,w4,dlr,ge_iff_le,List.contains_cons,Bool.true_or,Bool.false_or,Bool.or_true,Bool.or_false,Bool.or_self];refine ihn (mid - a) (by omega) (Nat.le_refl _) r1 (by omega) h4 r4 ?_
     intro H5 d5 h5 p5 s5 st5
     obtain⟨q1,q2⟩:=r6 d5 p5 s5;refine goW TOk.nil [17] 0 ?_;simp(maxSteps:=2000000)only[push_cast,seval,↓kw2,t0,t1,t2,t3,t4,t10,t11,t12,t13,t14,w1,w2,w3,w4,dlr,ge_iff_le,List.contains_cons,Bool.true_or,Bool.false_or,Bool.or_true,Bool.or_false,Bool.or_self];refine ih (b - m1) (by omega) _ _ ?_;exact⟨m1,b,d5,lim,_,ap,rfl,by omega,by omega,hb,(p5.1.trans r3).trans hs3,q1,fun R k1 k2=>(fun g=>hG R (permIn_trans _ _ _ _ _ p3 g.1) g.2) (q2 R k1 k2),h5,(hst.trans st4).trans st5,t0,rfl,t2,t3,t4,rfl,rfl⟩
    ·have dlr:decide ((lf:Int) < (rg:Int))=false:=decide_eq_false (by omega);refine goW TOk.nil [17] 0 ?_;simp(maxSteps:=2000000)only[push_cast,seval,↓kw2,t0,t1,t2,t3,t4,t10,t11,t12,t13,t14,w1,w2,w3,w4,dlr,ge_iff_le,List.contains_cons,Bool.true_or,Bool.false_or,Bool.or_true,Bool.or_false,Bool.or_self];refine ihn (b - m1) (by omega) (Nat.le_refl _) (by omega) hb h4 r5 ?_
     intro H5 d5 h5 p5 s5 st5
     obtain⟨q1,q2⟩:=r7 d5 p5 s5;refine goW TOk.nil [17] 0 ?_;simp(maxSteps:=2000000)only[push_cast,seval,↓kw2,t0,t1,t2,t3,t4,t10,t11,t12,t13,t14,w1,w2,w3,w4,dlr,ge_iff_le,List.contains_cons,Bool.true_or,Bool.false_or,Bool.or_true,Bool.or_false,Bool.or_self];refine ih (mid - a) (by omega) _ _ ?_;exact⟨a,mid,d5,lim,_,ap,rfl,by omega,by omega,by omega,(p5.1.trans r3).trans hs3,q1,fun R k1 k2=>(fun g=>hG R (permIn_trans _ _ _ _ _ p3 g.1) g.2) (q2 R k1 k2),h5,(hst.trans st4).trans st5,t0,t1,rfl,t3,t4,rfl,rfl⟩
theorem e19:Ent Tryz.prog 19 Tryz.f19 [] 2:=.mk Tryz.func19 rfl
attribute [push_cast] Tryz.f19
theorem sortM_ac{x:Cx}(hx:x.ok){H:List AO}{d:Array Plc}(h:Inv x H d){K:AV→List AO→Prop}(hK:∀ H' d',Inv x H' d'→PermIn 0 x.n d d'→SortedIn x.lt 0 x.n d'→Stp x H H'→K (.tup []) H') :
  AC Tryz.prog GG 19 [.sl x.R 0 x.n x.cap,.fn 38 [] [.ptr x.D 0,.ptr x.F 0]] H K:=by
 have hn:=hx.n;have wu:IntKind.u64.wrap (x.n:Int)=(x.n:Int):=by simp only[IntKind.wrap,IntKind.bits,IntKind.signed]; simp; omega
 refine goE e19 TOk.nil 0 ?_;simp(maxSteps:=2000000)only[push_cast,seval,↓kw2,wu];refine len_ac (by omega) (by omega) ?_;refine goN ?_;simp(maxSteps:=2000000)only[push_cast,seval,↓kw2];refine pdq_ac hx x.n (a0:=0) (b0:=x.n) (by omega) (by omega) (Nat.le_refl _) h (.inl rfl) ?_
 intro H' d' h' p' s' st'
 refine goN ?_;simp(maxSteps:=2000000)only[push_cast,seval,↓kw2];exact⟨_,rfl,hK _ _ h' p' s' st'⟩
end Go.Ab.Pd
