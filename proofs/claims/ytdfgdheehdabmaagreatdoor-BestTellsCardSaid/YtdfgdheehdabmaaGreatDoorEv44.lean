/- One of the texts that this claim stands on. -/
import Derived.Test.YtdfgdheehdabmaaGreatDoorEv42
import Derived.Test.YtdfgdheehdabmaaGreatDoorEv43
import Derived.Sort.AssemblyPlain
set_option maxHeartbeats 40000000
set_option maxRecDepth 400000
set_option linter.all false
namespace Go.Ab.Pd
open Go.Proofs
structure Cx where
 a:Int
 b:Int
 c:Int
 sc:Plc→Int
 sv:AV
 D:Nat
 F:Nat
 M:Nat
 S:Nat
 mi:Nat
 R:Nat
 n:Nat
 cap:Nat
 tl:List AV
def Cx.lt(x:Cx):Plc→Plc→Bool:=ltS x.a x.b x.c x.sc
def rowA(x:Cx)(d:Array Plc):List AV:=d.toList.map Plc.av++x.tl
structure Cx.ok(x:Cx):Prop where
 sv:x.sv.isCell=true∧x.sv.isEl=true∧x.sv.cells=[x.sv]
 n:x.n≤2^20
structure Inv(x:Cx)(H:List AO)(d:Array Plc):Prop where
 row:H[x.R]?=some (.arr 9 (rowA x d))
 n:d.size=x.n
 D:H[x.D]?=some (.cells [I x.a,I x.b,I x.c])
 F:H[x.F]?=some (.cells [.fn 36 [] [.ptr x.M 0,.ptr x.D 0,.ptr x.S 0]])
 M:H[x.M]?=some (.cells [.mp x.mi])
 S:H[x.S]?=some (.cells [x.sv])
 m:∃ es clock,H[x.mi]?=some (.map es clock)∧Memo x.sc es
 sc:∀ X∈d.toList,Pur Tryz.prog GG 37 [.agg [I x.a,I x.b,I x.c],X.av,x.sv] (.tup [I (x.sc X),I 0])
structure Stp(x:Cx)(H H':List AO):Prop where
 len:H.length≤H'.length
 keep:∀ j o,j≠x.R→j≠x.mi→H[j]?=some o→H'[j]?=some o
theorem Stp.refl{x:Cx}{H:List AO}:Stp x H H:=⟨Nat.le_refl _,fun _ _ _ _ h=>h⟩
theorem Stp.trans{x:Cx}{H H1 H2:List AO}(h:Stp x H H1)(k:Stp x H1 H2):Stp x H H2:=⟨Nat.le_trans h.len k.len,fun j o h1 h2 h3=>k.keep j o h1 h2 (h.keep j o h1 h2 h3)⟩
theorem Stp.app{x:Cx}{H L:List AO}:Stp x H (H++L):=⟨by simp,fun j o _ _ h=>(List.getElem?_append_left (zAb h)).trans h⟩
theorem Stp.row{x:Cx}{H:List AO}{v:AO}:Stp x H (H.set x.R v):=⟨by simp,fun j o h1 _ h=>by rw[List.getElem?_set_ne (fun e=>h1 e.symm)]; exact h⟩
theorem Inv.nmi{x:Cx}{H:List AO}{d:Array Plc}(h:Inv x H d):x.R≠x.mi∧x.D≠x.mi∧x.F≠x.mi∧x.M≠x.mi∧x.S≠x.mi:=by
 obtain⟨es,ck,hm,_⟩:=h.m;refine⟨fun e=>?_,fun e=>?_,fun e=>?_,fun e=>?_,fun e=>?_⟩
 ·have:=h.row; rw[e,hm]at this; cases this
 ·have:=h.D; rw[e,hm]at this; cases this
 ·have:=h.F; rw[e,hm]at this; cases this
 ·have:=h.M; rw[e,hm]at this; cases this
 ·have:=h.S; rw[e,hm]at this; cases this
theorem Inv.nR{x:Cx}{H:List AO}{d:Array Plc}(h:Inv x H d):x.D≠x.R∧x.F≠x.R∧x.M≠x.R∧x.S≠x.R∧x.mi≠x.R:=by
 refine⟨fun e=>?_,fun e=>?_,fun e=>?_,fun e=>?_,fun e=>h.nmi.1 e.symm⟩
 ·have:=h.D; rw[e,h.row]at this; cases this
 ·have:=h.F; rw[e,h.row]at this; cases this
 ·have:=h.M; rw[e,h.row]at this; cases this
 ·have:=h.S; rw[e,h.row]at this; cases this
theorem Inv.app{x:Cx}{H L:List AO}{d:Array Plc}(h:Inv x H d):Inv x (H++L) d:=by
 have ap:∀(j:Nat) o,H[j]?=some o→(H++L)[j]?=some o:=fun j o h=>(List.getElem?_append_left (zAb h)).trans h
 obtain⟨es,ck,hm,hmo⟩:=h.m;exact⟨ap _ _ h.row,h.n,ap _ _ h.D,ap _ _ h.F,ap _ _ h.M,ap _ _ h.S,⟨es,ck,ap _ _ hm,hmo⟩,h.sc⟩
theorem Inv.memo{x:Cx}{H H':List AO}{d:Array Plc}(h:Inv x H d)(hs:MemoStep x.sc x.mi H H'):Inv x H' d:=by
 obtain⟨h1,h2,h3⟩:=hs;obtain⟨n1,n2,n3,n4,n5⟩:=h.nmi;exact⟨h2 _ _ n1 h.row,h.n,h2 _ _ n2 h.D,h2 _ _ n3 h.F,h2 _ _ n4 h.M,h2 _ _ n5 h.S,h3,h.sc⟩
theorem Inv.set{x:Cx}{H:List AO}{d:Array Plc}(h:Inv x H d){k:Nat}{v:AO}(n1:x.R≠k)(n2:x.D≠k)(n3:x.F≠k)(n4:x.M≠k)(n5:x.S≠k)(n6:x.mi≠k):Inv x (H.set k v) d:=by
 have ap:∀(j:Nat) o,j≠k→H[j]?=some o→(H.set k v)[j]?=some o:=fun j o hj h=>(List.getElem?_set_ne (fun e=>hj e.symm)).trans h
 obtain⟨es,ck,hm,hmo⟩:=h.m;exact⟨ap _ _ n1 h.row,h.n,ap _ _ n2 h.D,ap _ _ n3 h.F,ap _ _ n4 h.M,ap _ _ n5 h.S,⟨es,ck,ap _ _ n6 hm,hmo⟩,h.sc⟩
theorem Inv.lt{x:Cx}{H:List AO}{d:Array Plc}(h:Inv x H d):x.R < H.length∧x.D < H.length∧x.F < H.length∧x.M < H.length∧x.S < H.length∧x.mi < H.length :=
 have⟨_,_,hm,_⟩:=h.m
 ⟨zAb h.row,zAb h.D,zAb h.F,zAb h.M,zAb h.S,zAb hm⟩
theorem getE{d:Array Plc}{i:Nat}(hi:i < d.size):d[i]! =d[i]:=by simp[hi]
theorem zAj{x:Cx}{d:Array Plc}{i:Nat}(hi:i < d.size):i < (rowA x d).length:=by
 unfold rowA;simp;omega
theorem zAi{x:Cx}{d:Array Plc}{i:Nat}(hi:i < d.size):(rowA x d).getD i .un=d[i]!.av:=by
 unfold rowA;have h2:i < (d.toList.map Plc.av).length:=by simpa using hi
 rw[List.getD_eq_getElem?_getD,List.getElem?_append_left h2];simp[hi]
theorem zBp(x:Cx){d:Array Plc}{i j:Nat}(hi:i < d.size)(Y:Plc):∃ Z:Plc,((rowA x d).set j Y.av).getD i .un=Z.av:=by
 rw[List.getD_eq_getElem?_getD,List.getElem?_set]
 split
 ·rename_i h;subst h;rw[if_pos (zAj hi)];exact⟨Y,rfl⟩
 ·rw[← List.getD_eq_getElem?_getD,zAi hi];exact⟨_,rfl⟩
theorem zEp(d:Array Plc)(i j:Nat):(Go.Sort.swp d i j).size=d.size:=by simp[Go.Sort.swp]
theorem zCg{x:Cx}{d:Array Plc}{i j:Nat}(hi:i < d.size)(hj:j < d.size):((rowA x d).set i d[j]!.av).set j d[i]!.av=rowA x (Go.Sort.swp d i j):=by
 unfold rowA Go.Sort.swp;rw[List.set_append_left _ _ (by simpa using hi),List.set_append_left _ _ (by simpa using hj),Array.toList_setIfInBounds,Array.toList_setIfInBounds,List.map_set,List.map_set]
theorem swp_mem{d:Array Plc}{i j:Nat}(hi:i < d.size)(hj:j < d.size){X:Plc}(h:X∈(Go.Sort.swp d i j).toList):X∈d.toList:=by
 unfold Go.Sort.swp at h;rw[Array.toList_setIfInBounds,Array.toList_setIfInBounds]at h;have mi:∀ k,k < d.size→d[k]!∈d.toList:=fun k hk=>by rw[getE hk]; exact Array.getElem_mem_toList hk
 rcases List.mem_or_eq_of_mem_set h with h | rfl
 ·rcases List.mem_or_eq_of_mem_set h with h | rfl
  ·exact h
  ·exact mi _ hj
 ·exact mi _ hi
theorem Inv.swap{x:Cx}{H:List AO}{d:Array Plc}(h:Inv x H d){i j:Nat}(hi:i < d.size)(hj:j < d.size):Inv x (H.set x.R (.arr 9 (rowA x (Go.Sort.swp d i j)))) (Go.Sort.swp d i j):=by
 obtain⟨n1,n2,n3,n4,n5⟩:=h.nR;have ap:∀(k:Nat) o,k≠x.R→H[k]?=some o→(H.set x.R (.arr 9 (rowA x (Go.Sort.swp d i j))))[k]?=some o:=fun k o hk h=>(List.getElem?_set_ne (fun e=>hk e.symm)).trans h
 obtain⟨es,ck,hm,hmo⟩:=h.m;exact⟨List.getElem?_set_self h.lt.1,(zEp d i j).trans h.n,ap _ _ n1 h.D,ap _ _ n2 h.F,ap _ _ n3 h.M,ap _ _ n4 h.S,⟨es,ck,ap _ _ n5 hm,hmo⟩,fun X hX=>h.sc X (swp_mem hi hj hX)⟩
theorem zBr{x:Cx}(hx:x.ok){H:List AO}{d:Array Plc}(h:Inv x H d){i j:Nat}(hi:i < d.size)(hj:j < d.size)(K:AV→List AO→Prop)(hK:∀ H',Inv x H' d→Stp x H H'→K (I (cmpS x.a x.b x.c x.sc d[i]! d[j]!)) H') :
  AC Tryz.prog GG 38 [d[i]!.av,d[j]!.av,.ptr x.D 0,.ptr x.F 0] H K:=by
 have mi:∀ k,k < d.size→d[k]!∈d.toList:=fun k hk=>by rw[getE hk]; exact Array.getElem_mem_toList hk
 exact compare2_any hx.sv h.D h.F h.M h.S h.m (h.sc _ (mi i hi)) (h.sc _ (mi j hj)) fun H' hs=>hK H' (h.memo hs) ⟨hs.1,fun k o _ h2 h3=>hs.2.1 k o h2 h3⟩
theorem Cx.swo(x:Cx):Go.Sort.SWO x.lt:=by
 have hn:=fun X Y=>cmpS_neg (a:=x.a) (b:=x.b) (c:=x.c) (sc:=x.sc) X Y
 have ht:=fun X Y Z=>cmpS_tri (a:=x.a) (b:=x.b) (c:=x.c) (sc:=x.sc) X Y Z
 refine⟨fun X=>?_,fun X Y Z h k=>?_,fun X Y Z h k=>?_⟩
 ·unfold Cx.lt ltS;rw[cmpS_self];rfl
 ·unfold Cx.lt ltS at *;have t:=ht X Y Z;unfold Tri at t;simp only[decide_eq_true_eq]at *;omega
 ·unfold Cx.lt ltS at *;have t:=ht Z Y X;have e1:=hn X Y;have e2:=hn Y Z;have e3:=hn X Z;unfold Tri at t;simp only[decide_eq_false_iff_not]at *;omega
open Go.Proofs Go.Sort
def oC13:List (Nat × Bool):=[(0,true),(1,true),(2,true),(3,true),(4,true),(5,true),(6,true),(7,true),(8,true),(9,true),(10,true),(11,true),(12,true),(13,true),(14,false),(15,true),(16,true)]
def iC14:Nat→Bool:=fun i=>i==14
theorem e76:Ent Tryz.prog 76 Tryz.f76 [4] 4:=.mk Tryz.func76 rfl
attribute [push_cast] Tryz.f76
theorem insertion_ac{x:Cx}(hx:x.ok){a b:Nat}(hab:a≤b)(hb:b≤x.n){H:List AO}{d:Array Plc}(h:Inv x H d){K:AV→List AO→Prop}(hK:∀ H',Inv x H' (insertionSort x.lt d a b)→Stp x H H'→K (.tup []) H') :
  AC Tryz.prog GG 76 [.sl x.R 0 x.n x.cap,I (a:Int),I (b:Int),.fn 38 [] [.ptr x.D 0,.ptr x.F 0]] H K:=by
 have hn:=hx.n;have wa:=zAf (n:=(a:Int)+1) (by omega) (by omega);refine goE e76 TOk.nil 0 ?_;simp(maxSteps:=2000000)only[push_cast,seval,↓kw2,wa];refine FW.loopInv (fun m ts H'=>∃(i:Nat) (d':Array Plc),i+m=b+1∧a < i∧insOuter x.lt a b i d'=insertionSort x.lt d a b∧Inv x H' d'∧Stp x H H'∧ts 0=.sl x.R 0 x.n x.cap∧ts 1=I (a:Int)∧ts 2=I (b:Int)∧ts 3=.fn 38 [] [.ptr x.D 0,.ptr x.F 0]∧ts 8=I (i:Int)) (b - a)
  ⟨a+1,d,by omega,by omega,rfl,h,.refl,rfl,rfl,rfl,rfl,rfl⟩ ?_
 rintro m ih ts H' ⟨i,d',hi,hai,hres,h',hst,t0,t1,t2,t3,t8⟩
 refine FW.inLoop ?_;rw[insOuter]at hres;have w1:=zAf (n:=(i:Int)+1) (by omega) (by omega)
 by_cases hlt:i < b
 ·have d1:decide ((i:Int) < (b:Int))=true:=decide_eq_true (by omega);rw[if_pos hlt]at hres;refine goW TOk.nil [4] 0 ?_;simp(maxSteps:=2000000)only[push_cast,seval,↓kw2,t0,t1,t2,t3,t8,d1];refine FW.loopInv (fun m ts H2=>∃(d2:Array Plc),m≤i∧insInner x.lt a m d2=insInner x.lt a i d'∧Inv x H2 d2∧Stp x H H2∧ts 0=.sl x.R 0 x.n x.cap∧ts 1=I (a:Int)∧ts 2=I (b:Int)∧ts 3=.fn 38 [] [.ptr x.D 0,.ptr x.F 0]∧ts 8=I (i:Int)∧ts 9=I (m:Int)) i
   ⟨d',Nat.le_refl _,rfl,h',hst,t0,t1,t2,t3,t8,rfl⟩ ?_
  clear h' hst t0 t1 t2 t3 t8
  rintro j ih2 ts H2 ⟨d2,hj,hin,h2,hst,t0,t1,t2,t3,t8,t9⟩
  refine FW.inLoop ?_;have hsz:=h2.n
  by_cases hja:a < j
  ·have d2':decide ((a:Int) < (j:Int))=true:=decide_eq_true (by omega);obtain⟨k,hk⟩:∃ k,j=k+1:=⟨j - 1,by omega⟩;have w2:IntKind.i64.wrap ((j:Int) - 1)=(k:Int):=by rw[zAf (n:=(j:Int) - 1) (by omega) (by omega)]; omega
   have g1:=zAi (x:=x) (d:=d2) (i:=j) (by omega);have g2:=zAi (x:=x) (d:=d2) (i:=k) (by omega);have l1:=zAj (x:=x) (d:=d2) (i:=j) (by omega);have l2:=zAj (x:=x) (d:=d2) (i:=k) (by omega);have hsw:=zCg (x:=x) (d:=d2) (i:=j) (j:=k) (by omega) (by omega);have hr:=h2.row;have hcc:=zBr hx h2 (i:=j) (j:=k) (by omega) (by omega);have hins:insInner x.lt a j d2=if x.lt d2[j]! d2[k]! =true then insInner x.lt a k (swp d2 j k) else d2:=by
    subst hk;rw[insInner];simp[hja]
   generalize d2[j]! =X at g1 hsw hcc hins
   generalize d2[k]! =Y at g2 hsw hcc hins
   obtain⟨Z,hz⟩:=zBp x (d:=d2) (i:=k) (j:=j) (by omega) Y;simp only[Plc.av]at hz;have c1:=Plc.cells X;have c2:=Plc.cells Y;refine goW TOk.nil [4] 0 ?_;simp(maxSteps:=2000000)only[push_cast,seval,↓kw2,t0,t1,t2,t3,t8,t9];refine FW.walkH hmix (imp:=iC14) (l:=oC13) (by kernel_rfl) (by kernel_rfl) ?_;simp only[oC13];simp(maxSteps:=2000000)only[push_cast,seval,↓kw2,zAo,zAn,zAh,↓zAc,Bool.or_false,Bool.or_true,Bool.true_or,Bool.false_or,Bool.or_self,Nat.add_assoc,zAd,zAr,wat,clOf,Int.toNat_natCast,iC14,t0,t1,t2,t3,t8,t9,gt_iff_lt,d2',w2,hr,g1,g2,l1,l2,c1,c2,Plc.av];refine⟨⟨by omega,by omega⟩,⟨by omega,by omega⟩,hcc _ fun H3 h3 st3=>⟨?_,?_⟩⟩
   ·repeat' (first | apply And.intro | (intro h; exact absurd (h.symm.trans (by kernel_rfl)) Bool.false_ne_true))
   rw[hins]at hin;have hr3:=h3.row;have hrs:∀ v,(H3.set x.R v)[x.R]?=some v:=fun v=>List.getElem?_set_self h3.lt.1
   have hpost:=h3.swap (i:=j) (j:=k) (by omega) (by omega);rw[← hsw]at hpost;cases hc:x.lt X Y
   ·have hcd:decide (cmpS x.a x.b x.c x.sc X Y < 0)=false:=hc;simp(maxSteps:=2000000)only[push_cast,seval,↓kw2,zAo,zAn,zAh,↓zAc,Bool.or_false,Bool.or_true,Bool.true_or,Bool.false_or,Bool.or_self,Nat.add_assoc,zAd,zAr,wat,clOf,Int.toNat_natCast,iC14,hcd];refine goW TOk.nil [4] 0 ?_;simp(maxSteps:=2000000)only[push_cast,seval,↓kw2,t0,t1,t2,t3,t8,t9,w1];refine ih (m - 1) (by omega) _ _ ⟨i+1,d2,by omega,by omega,?_,h3,hst.trans st3,t0,t1,t2,t3,rfl⟩;rw[hc,if_neg (by decide)]at hin;rw[hin];exact hres
   ·have hcd:decide (cmpS x.a x.b x.c x.sc X Y < 0)=true:=hc;simp(maxSteps:=2000000)only[push_cast,seval,↓kw2,zAo,zAn,zAh,↓zAc,Bool.or_false,Bool.or_true,Bool.true_or,Bool.false_or,Bool.or_self,Nat.add_assoc,zAd,zAr,wat,clOf,Int.toNat_natCast,iC14,hcd];refine goW TOk.nil [4] 0 ?_;simp(maxSteps:=2000000)only[push_cast,seval,↓kw2,t0,t1,t2,t3,t8,t9,w1,w2,hr3,hrs,hz,g1,g2,l1,l2,c1,c2,Plc.av,List.set_set,List.length_set,Int.toNat_natCast,List.contains_cons,Bool.true_or,Bool.false_or,Bool.or_true,Bool.or_false]
    repeat (refine⟨by omega,?_⟩)
    rw[hc,if_pos rfl]at hin;exact ih2 k (by omega) _ _ ⟨swp d2 j k,by omega,hin,hpost,(hst.trans st3).trans .row,t0,t1,t2,t3,t8,rfl⟩
  ·have d2':decide ((a:Int) < (j:Int))=false:=decide_eq_false (by omega);have hins:insInner x.lt a j d2=d2:=by
    cases j with
    | zero=>rfl
    | succ k=>rw[insInner]; simp[hja]
   rw[hins]at hin;refine goW TOk.nil [4] 0 ?_;simp(maxSteps:=2000000)only[push_cast,seval,↓kw2,t0,t1,t2,t3,t8,t9];refine FW.walkH hmix (imp:=iC14) (l:=oC13) (by kernel_rfl) (by kernel_rfl) ?_;simp only[oC13];simp(maxSteps:=2000000)only[push_cast,seval,↓kw2,zAo,zAn,zAh,↓zAc,Bool.or_false,Bool.or_true,Bool.true_or,Bool.false_or,Bool.or_self,Nat.add_assoc,zAd,zAr,wat,clOf,Int.toNat_natCast,iC14,t0,t1,t2,t3,t8,t9,gt_iff_lt,d2'];refine goW TOk.nil [4] 0 ?_;simp(maxSteps:=2000000)only[push_cast,seval,↓kw2,t0,t1,t2,t3,t8,t9,w1];exact ih (m - 1) (by omega) _ _ ⟨i+1,d2,by omega,by omega,by rw[hin]; exact hres,h2,hst,t0,t1,t2,t3,rfl⟩
 ·have d1:decide ((i:Int) < (b:Int))=false:=decide_eq_false (by omega);rw[if_neg hlt]at hres;refine goW TOk.nil [4] 0 ?_;simp(maxSteps:=2000000)only[push_cast,seval,↓kw2,t0,t1,t2,t3,t8,d1];exact⟨_,rfl,hK _ (hres ▸ h') hst⟩
def oCa:List (Nat × Bool):=[(0,true),(1,true),(2,true),(3,true),(4,true),(5,true),(6,true),(7,true),(8,true),(9,true),(10,true),(11,true),(12,true),(13,true),(14,true),(15,true),(16,true),(17,true),(18,true),(19,false),(20,true),(21,true)]
def iCa:Nat→Bool:=fun i=>i==19
def oCb:List (Nat × Bool):=[(0,true),(1,true),(2,true),(3,true),(4,true),(5,true),(6,true),(7,true),(8,true),(9,true),(10,true),(11,true),(12,true),(13,false),(14,true),(15,true)]
def iCb:Nat→Bool:=fun i=>i==13
theorem e117:Ent Tryz.prog 117 Tryz.f117 [3,5] 5:=.mk Tryz.func117 rfl
attribute [push_cast] Tryz.f117
theorem sift_ac{x:Cx}(hx:x.ok){lo hi first:Nat}(hb:first+hi≤x.n){H:List AO}{d:Array Plc}(h:Inv x H d){K:AV→List AO→Prop}(hK:∀ H',Inv x H' (siftDown x.lt hi first lo d)→Stp x H H'→K (.tup []) H')(hlo:lo≤x.n) :
  AC Tryz.prog GG 117 [.sl x.R 0 x.n x.cap,I (lo:Int),I (hi:Int),I (first:Int),.fn 38 [] [.ptr x.D 0,.ptr x.F 0]] H K:=by
 have hn:=hx.n;refine goE e117 TOk.nil 0 ?_;simp(maxSteps:=2000000)only[push_cast,seval,↓kw2];refine FW.loopInv (fun m ts H'=>∃(r:Nat) (d':Array Plc),m=hi - r∧r≤x.n∧siftDown x.lt hi first r d'=siftDown x.lt hi first lo d∧Inv x H' d'∧Stp x H H'∧ts 0=.sl x.R 0 x.n x.cap∧ts 2=I (hi:Int)∧ts 3=I (first:Int)∧ts 4=.fn 38 [] [.ptr x.D 0,.ptr x.F 0]∧ts 10=I (r:Int)) (hi - lo)
  ⟨lo,d,rfl,hlo,rfl,h,.refl,rfl,rfl,rfl,rfl,rfl⟩ ?_
 clear h hlo
 rintro m ih ts H' ⟨r,d',hm,hrn,hres,h,hst,t0,t2,t3,t4,t10⟩
 refine FW.inLoop ?_;have hsz:=h.n;obtain⟨c,hc⟩:∃ c,c=2*r+1:=⟨_,rfl⟩;have wa:=zAf (n:=2*(r:Int)) (by omega) (by omega);have wb:IntKind.i64.wrap (2*(r:Int)+1)=(c:Int):=by rw[zAf (n:=2*(r:Int)+1) (by omega) (by omega)]; omega
 rw[siftDown]at hres
 by_cases hge:hi≤c
 ·have dg:decide ((hi:Int)≤(c:Int))=true:=decide_eq_true (by omega);rw[dif_pos (by omega)]at hres;refine goW TOk.nil [3,5] 0 ?_;simp(maxSteps:=2000000)only[push_cast,seval,↓kw2,t0,t2,t3,t4,t10,wa,wb,ge_iff_le,dg,List.contains_cons,Bool.true_or,Bool.false_or,Bool.or_true,Bool.or_false,Bool.or_self];exact⟨_,rfl,hK _ (hres ▸ h) hst⟩
 have dg:decide ((hi:Int)≤(c:Int))=false:=decide_eq_false (by omega);rw[dif_neg (by omega)]at hres;have wc:IntKind.i64.wrap ((c:Int)+1)=(c:Int)+1:=zAf (by omega) (by omega);obtain⟨pc,hpc⟩:∃ q,q=first+c:=⟨_,rfl⟩;obtain⟨pr,hpr⟩:∃ q,q=first+r:=⟨_,rfl⟩;have wpc:IntKind.i64.wrap ((first:Int)+(c:Int))=(pc:Int):=by rw[zAf (n:=(first:Int)+(c:Int)) (by omega) (by omega)]; omega
 have wpr:IntKind.i64.wrap ((first:Int)+(r:Int))=(pr:Int):=by rw[zAf (n:=(first:Int)+(r:Int)) (by omega) (by omega)]; omega
 have e1:2*r+1=c:=by omega
 refine goW TOk.nil [3,5] 0 ?_;simp(maxSteps:=2000000)only[push_cast,seval,↓kw2,t0,t2,t3,t4,t10,wa,wb,ge_iff_le,dg,List.contains_cons,Bool.true_or,Bool.false_or,Bool.or_true,Bool.or_false,Bool.or_self]
 by_cases hrt:c+1 < hi
 ·have dr:decide ((c:Int)+1 < (hi:Int))=true:=decide_eq_true (by omega);obtain⟨q,hq⟩:∃ q,q=c+1:=⟨_,rfl⟩;obtain⟨pq,hpq⟩:∃ q,q=first+(c+1):=⟨_,rfl⟩;have wq:IntKind.i64.wrap ((c:Int)+1)=(q:Int):=by rw[wc]; omega
  have wpq:IntKind.i64.wrap ((pc:Int)+1)=(pq:Int):=by rw[zAf (n:=(pc:Int)+1) (by omega) (by omega)]; omega
  have wpq2:IntKind.i64.wrap ((first:Int)+(q:Int))=(pq:Int):=by rw[zAf (n:=(first:Int)+(q:Int)) (by omega) (by omega)]; omega
  have dr:decide ((q:Int) < (hi:Int))=true:=decide_eq_true (by omega)
  replace hres:(if x.lt d'[pc]! d'[pq]! =true then (if (!x.lt d'[pr]! d'[pq]!)=true then d' else siftDown x.lt hi first q (swp d' pr pq)) else (if (!x.lt d'[pr]! d'[pc]!)=true then d' else siftDown x.lt hi first c (swp d' pr pc)))=siftDown x.lt hi first lo d:=by
   rw[← hres];have a1:2*r+2=q:=by omega
   have a2:first+(2*r+1)=pc:=by omega
   have a3:first+q=pq:=by omega
   have a4:pc+1=pq:=by omega
   have a5:2*r+1+1 < hi:=by omega
   have a6:q < hi:=by omega
   rw[a1,a2,a3,a4,e1,← hpr];simp only[hrt,decide_true,Bool.true_and,a6,dite_true]
  skip
  have gC:=zAi (x:=x) (d:=d') (i:=pc) (by omega);have lC:=zAj (x:=x) (d:=d') (i:=pc) (by omega);have gQ:=zAi (x:=x) (d:=d') (i:=pq) (by omega);have lQ:=zAj (x:=x) (d:=d') (i:=pq) (by omega);have hr:=h.row;have hcc:=zBr hx h (i:=pc) (j:=pq) (by omega) (by omega)
  generalize hX:d'[pc]! =X at gC hcc
  generalize hY:d'[pq]! =Y at gQ hcc
  have cX:=Plc.cells X;have cY:=Plc.cells Y;refine FW.walkH hmix (imp:=iCa) (l:=oCa) (by kernel_rfl) (by kernel_rfl) ?_;simp only[oCa];simp(maxSteps:=2000000)only[push_cast,seval,↓kw2,zAo,zAn,zAh,↓zAc,Bool.or_false,Bool.or_true,Bool.true_or,Bool.false_or,Bool.or_self,Nat.add_assoc,zAd,zAr,wat,clOf,Int.toNat_natCast,iCa,t0,t2,t3,t4,t10,wq,wpc,wpq,dr,hr,gC,lC,gQ,lQ,cX,cY,Plc.av]
  repeat (refine⟨⟨by omega,by omega⟩,?_⟩)
  refine hcc _ fun H3 h4 st4=>⟨?_,?_⟩
  ·repeat' (first | apply And.intro | (intro h; exact absurd (h.symm.trans (by kernel_rfl)) Bool.false_ne_true))
  clear gC gQ lC lQ hr cX cY hcc;cases hlt:x.lt X Y
  ·have hcd:decide (cmpS x.a x.b x.c x.sc X Y < 0)=false:=hlt;rw[show x.lt d'[pc]! d'[pq]! =false by rw[hX,hY]; exact hlt,if_neg (by decide)]at hres;simp(maxSteps:=2000000)only[push_cast,seval,↓kw2,zAo,zAn,zAh,↓zAc,Bool.or_false,Bool.or_true,Bool.true_or,Bool.false_or,Bool.or_self,Nat.add_assoc,zAd,zAr,wat,clOf,Int.toNat_natCast,iCa,hcd];refine goW TOk.nil [3,5] 0 ?_;simp(maxSteps:=2000000)only[push_cast,seval,↓kw2,t0,t2,t3,t4,t10,List.contains_cons,Bool.true_or,Bool.false_or,Bool.or_true,Bool.or_false,Bool.or_self];have gR:=zAi (x:=x) (d:=d') (i:=pr) (by omega);have lR:=zAj (x:=x) (d:=d') (i:=pr) (by omega);have gC:=zAi (x:=x) (d:=d') (i:=pc) (by omega);have lC:=zAj (x:=x) (d:=d') (i:=pc) (by omega);have hr:=h4.row;have hcc:=zBr hx h4 (i:=pr) (j:=pc) (by omega) (by omega);have hsw:=zCg (x:=x) (d:=d') (i:=pr) (j:=pc) (by omega) (by omega)
   generalize d'[pr]! =U at gR hcc hres hsw
   generalize d'[pc]! =V at gC hcc hres hsw
   obtain⟨Z,hz⟩:=zBp x (d:=d') (i:=pc) (j:=pr) (by omega) V;simp only[Plc.av]at hz;have cX:=Plc.cells U;have cY:=Plc.cells V;refine FW.walkH hmix (imp:=iCb) (l:=oCb) (by kernel_rfl) (by kernel_rfl) ?_;simp only[oCb];simp(maxSteps:=2000000)only[push_cast,seval,↓kw2,zAo,zAn,zAh,↓zAc,Bool.or_false,Bool.or_true,Bool.true_or,Bool.false_or,Bool.or_self,Nat.add_assoc,zAd,zAr,wat,clOf,Int.toNat_natCast,iCb,t0,t2,t3,t4,t10,wpc,wpr,hr,gR,lR,gC,lC,cX,cY,Plc.av]
   repeat (refine⟨⟨by omega,by omega⟩,?_⟩)
   refine hcc _ fun H3 h3 st3=>⟨?_,?_⟩
   ·repeat' (first | apply And.intro | (intro h; exact absurd (h.symm.trans (by kernel_rfl)) Bool.false_ne_true))
   have hr3:=h3.row;have hrs:∀ v,(H3.set x.R v)[x.R]?=some v:=fun v=>List.getElem?_set_self h3.lt.1
   have hpost:=h3.swap (i:=pr) (j:=pc) (by omega) (by omega);rw[← hsw]at hpost;cases hlu:x.lt U V
   ·have hcd:decide (cmpS x.a x.b x.c x.sc U V < 0)=false:=hlu;rw[hlu]at hres;simp(maxSteps:=2000000)only[push_cast,seval,↓kw2,zAo,zAn,zAh,↓zAc,Bool.or_false,Bool.or_true,Bool.true_or,Bool.false_or,Bool.or_self,Nat.add_assoc,zAd,zAr,wat,clOf,Int.toNat_natCast,iCb,hcd];refine goW TOk.nil [3,5] 0 ?_;simp(maxSteps:=2000000)only[push_cast,seval,↓kw2,t0,t2,t3,t4,t10,List.contains_cons,Bool.true_or,Bool.false_or,Bool.or_true,Bool.or_false,Bool.or_self];exact⟨_,rfl,hK _ (by rw[← hres]; exact h3) ((hst.trans st4).trans st3)⟩
   ·have hcd:decide (cmpS x.a x.b x.c x.sc U V < 0)=true:=hlu;rw[hlu]at hres;simp(maxSteps:=2000000)only[push_cast,seval,↓kw2,zAo,zAn,zAh,↓zAc,Bool.or_false,Bool.or_true,Bool.true_or,Bool.false_or,Bool.or_self,Nat.add_assoc,zAd,zAr,wat,clOf,Int.toNat_natCast,iCb,hcd];refine goW TOk.nil [3,5] 0 ?_;simp(maxSteps:=2000000)only[push_cast,seval,↓kw2,t0,t2,t3,t4,t10,wpc,wpr,hr3,hrs,hz,gR,lR,gC,lC,cX,cY,Plc.av,List.set_set,List.length_set,Int.toNat_natCast,List.contains_cons,Bool.true_or,Bool.false_or,Bool.or_true,Bool.or_false,Bool.or_self]
    repeat (refine⟨⟨by omega,by omega⟩,?_⟩)
    exact ih (hi - c) (by omega) _ _ ⟨c,swp d' pr pc,rfl,by omega,hres,hpost,((hst.trans st4).trans st3).trans .row,t0,t2,t3,t4,rfl⟩
  ·have hcd:decide (cmpS x.a x.b x.c x.sc X Y < 0)=true:=hlt;rw[show x.lt d'[pc]! d'[pq]! =true by rw[hX,hY]; exact hlt,if_pos rfl]at hres;simp(maxSteps:=2000000)only[push_cast,seval,↓kw2,zAo,zAn,zAh,↓zAc,Bool.or_false,Bool.or_true,Bool.true_or,Bool.false_or,Bool.or_self,Nat.add_assoc,zAd,zAr,wat,clOf,Int.toNat_natCast,iCa,hcd];refine goW TOk.nil [3,5] 0 ?_;simp(maxSteps:=2000000)only[push_cast,seval,↓kw2,t0,t2,t3,t4,t10,wq,List.contains_cons,Bool.true_or,Bool.false_or,Bool.or_true,Bool.or_false,Bool.or_self];have gR:=zAi (x:=x) (d:=d') (i:=pr) (by omega);have lR:=zAj (x:=x) (d:=d') (i:=pr) (by omega);have gC:=zAi (x:=x) (d:=d') (i:=pq) (by omega);have lC:=zAj (x:=x) (d:=d') (i:=pq) (by omega);have hr:=h4.row;have hcc:=zBr hx h4 (i:=pr) (j:=pq) (by omega) (by omega);have hsw:=zCg (x:=x) (d:=d') (i:=pr) (j:=pq) (by omega) (by omega)
   generalize d'[pr]! =U at gR hcc hres hsw
   generalize d'[pq]! =V at gC hcc hres hsw
   obtain⟨Z,hz⟩:=zBp x (d:=d') (i:=pq) (j:=pr) (by omega) V;simp only[Plc.av]at hz;have cX:=Plc.cells U;have cY:=Plc.cells V;refine FW.walkH hmix (imp:=iCb) (l:=oCb) (by kernel_rfl) (by kernel_rfl) ?_;simp only[oCb];simp(maxSteps:=2000000)only[push_cast,seval,↓kw2,zAo,zAn,zAh,↓zAc,Bool.or_false,Bool.or_true,Bool.true_or,Bool.false_or,Bool.or_self,Nat.add_assoc,zAd,zAr,wat,clOf,Int.toNat_natCast,iCb,t0,t2,t3,t4,t10,wpq2,wpr,hr,gR,lR,gC,lC,cX,cY,Plc.av]
   repeat (refine⟨⟨by omega,by omega⟩,?_⟩)
   refine hcc _ fun H3 h3 st3=>⟨?_,?_⟩
   ·repeat' (first | apply And.intro | (intro h; exact absurd (h.symm.trans (by kernel_rfl)) Bool.false_ne_true))
   have hr3:=h3.row;have hrs:∀ v,(H3.set x.R v)[x.R]?=some v:=fun v=>List.getElem?_set_self h3.lt.1
   have hpost:=h3.swap (i:=pr) (j:=pq) (by omega) (by omega);rw[← hsw]at hpost;cases hlu:x.lt U V
   ·have hcd:decide (cmpS x.a x.b x.c x.sc U V < 0)=false:=hlu;rw[hlu]at hres;simp(maxSteps:=2000000)only[push_cast,seval,↓kw2,zAo,zAn,zAh,↓zAc,Bool.or_false,Bool.or_true,Bool.true_or,Bool.false_or,Bool.or_self,Nat.add_assoc,zAd,zAr,wat,clOf,Int.toNat_natCast,iCb,hcd];refine goW TOk.nil [3,5] 0 ?_;simp(maxSteps:=2000000)only[push_cast,seval,↓kw2,t0,t2,t3,t4,t10,List.contains_cons,Bool.true_or,Bool.false_or,Bool.or_true,Bool.or_false,Bool.or_self];exact⟨_,rfl,hK _ (by rw[← hres]; exact h3) ((hst.trans st4).trans st3)⟩
   ·have hcd:decide (cmpS x.a x.b x.c x.sc U V < 0)=true:=hlu;rw[hlu]at hres;simp(maxSteps:=2000000)only[push_cast,seval,↓kw2,zAo,zAn,zAh,↓zAc,Bool.or_false,Bool.or_true,Bool.true_or,Bool.false_or,Bool.or_self,Nat.add_assoc,zAd,zAr,wat,clOf,Int.toNat_natCast,iCb,hcd];refine goW TOk.nil [3,5] 0 ?_;simp(maxSteps:=2000000)only[push_cast,seval,↓kw2,t0,t2,t3,t4,t10,wpq2,wpr,hr3,hrs,hz,gR,lR,gC,lC,cX,cY,Plc.av,List.set_set,List.length_set,Int.toNat_natCast,List.contains_cons,Bool.true_or,Bool.false_or,Bool.or_true,Bool.or_false,Bool.or_self]
    repeat (refine⟨⟨by omega,by omega⟩,?_⟩)
    exact ih (hi - q) (by omega) _ _ ⟨q,swp d' pr pq,rfl,by omega,hres,hpost,((hst.trans st4).trans st3).trans .row,t0,t2,t3,t4,rfl⟩
 ·have dr:decide ((c:Int)+1 < (hi:Int))=false:=decide_eq_false (by omega)
  replace hres:(if (!x.lt d'[pr]! d'[pc]!)=true then d' else siftDown x.lt hi first c (swp d' pr pc))=siftDown x.lt hi first lo d:=by
   rw[← hres];have a2:first+(2*r+1)=pc:=by omega
   rw[a2,e1,← hpr];simp only[hrt,decide_false,Bool.false_and,Bool.false_eq_true,if_false]
  skip
  refine FW.walkH hmix (imp:=iCa) (l:=oCa) (by kernel_rfl) (by kernel_rfl) ?_;simp only[oCa];simp(maxSteps:=2000000)only[push_cast,seval,↓kw2,zAo,zAn,zAh,↓zAc,Bool.or_false,Bool.or_true,Bool.true_or,Bool.false_or,Bool.or_self,Nat.add_assoc,zAd,zAr,wat,clOf,Int.toNat_natCast,iCa,t0,t2,t3,t4,t10,wc,dr];refine goW TOk.nil [3,5] 0 ?_;simp(maxSteps:=2000000)only[push_cast,seval,↓kw2,t0,t2,t3,t4,t10,List.contains_cons,Bool.true_or,Bool.false_or,Bool.or_true,Bool.or_false,Bool.or_self];have gR:=zAi (x:=x) (d:=d') (i:=pr) (by omega);have lR:=zAj (x:=x) (d:=d') (i:=pr) (by omega);have gC:=zAi (x:=x) (d:=d') (i:=pc) (by omega);have lC:=zAj (x:=x) (d:=d') (i:=pc) (by omega);have hr:=h.row;have hcc:=zBr hx h (i:=pr) (j:=pc) (by omega) (by omega);have hsw:=zCg (x:=x) (d:=d') (i:=pr) (j:=pc) (by omega) (by omega)
  generalize d'[pr]! =U at gR hcc hres hsw
  generalize d'[pc]! =V at gC hcc hres hsw
  obtain⟨Z,hz⟩:=zBp x (d:=d') (i:=pc) (j:=pr) (by omega) V;simp only[Plc.av]at hz;have cX:=Plc.cells U;have cY:=Plc.cells V;refine FW.walkH hmix (imp:=iCb) (l:=oCb) (by kernel_rfl) (by kernel_rfl) ?_;simp only[oCb];simp(maxSteps:=2000000)only[push_cast,seval,↓kw2,zAo,zAn,zAh,↓zAc,Bool.or_false,Bool.or_true,Bool.true_or,Bool.false_or,Bool.or_self,Nat.add_assoc,zAd,zAr,wat,clOf,Int.toNat_natCast,iCb,t0,t2,t3,t4,t10,wpc,wpr,hr,gR,lR,gC,lC,cX,cY,Plc.av]
  repeat (refine⟨⟨by omega,by omega⟩,?_⟩)
  refine hcc _ fun H3 h3 st3=>⟨?_,?_⟩
  ·repeat' (first | apply And.intro | (intro h; exact absurd (h.symm.trans (by kernel_rfl)) Bool.false_ne_true))
  have hr3:=h3.row;have hrs:∀ v,(H3.set x.R v)[x.R]?=some v:=fun v=>List.getElem?_set_self h3.lt.1
  have hpost:=h3.swap (i:=pr) (j:=pc) (by omega) (by omega);rw[← hsw]at hpost;cases hlu:x.lt U V
  ·have hcd:decide (cmpS x.a x.b x.c x.sc U V < 0)=false:=hlu;rw[hlu]at hres;simp(maxSteps:=2000000)only[push_cast,seval,↓kw2,zAo,zAn,zAh,↓zAc,Bool.or_false,Bool.or_true,Bool.true_or,Bool.false_or,Bool.or_self,Nat.add_assoc,zAd,zAr,wat,clOf,Int.toNat_natCast,iCb,hcd];refine goW TOk.nil [3,5] 0 ?_;simp(maxSteps:=2000000)only[push_cast,seval,↓kw2,t0,t2,t3,t4,t10,List.contains_cons,Bool.true_or,Bool.false_or,Bool.or_true,Bool.or_false,Bool.or_self];exact⟨_,rfl,hK _ (by rw[← hres]; exact h3) (hst.trans st3)⟩
  ·have hcd:decide (cmpS x.a x.b x.c x.sc U V < 0)=true:=hlu;rw[hlu]at hres;simp(maxSteps:=2000000)only[push_cast,seval,↓kw2,zAo,zAn,zAh,↓zAc,Bool.or_false,Bool.or_true,Bool.true_or,Bool.false_or,Bool.or_self,Nat.add_assoc,zAd,zAr,wat,clOf,Int.toNat_natCast,iCb,hcd];refine goW TOk.nil [3,5] 0 ?_;simp(maxSteps:=2000000)only[push_cast,seval,↓kw2,t0,t2,t3,t4,t10,wpc,wpr,hr3,hrs,hz,gR,lR,gC,lC,cX,cY,Plc.av,List.set_set,List.length_set,Int.toNat_natCast,List.contains_cons,Bool.true_or,Bool.false_or,Bool.or_true,Bool.or_false,Bool.or_self]
   repeat (refine⟨⟨by omega,by omega⟩,?_⟩)
   exact ih (hi - c) (by omega) _ _ ⟨c,swp d' pr pc,rfl,by omega,hres,hpost,(hst.trans st3).trans .row,t0,t2,t3,t4,rfl⟩
theorem e77:Ent Tryz.prog 77 Tryz.f77 [] 4:=.mk Tryz.func77 rfl
attribute [push_cast] Tryz.f77
theorem heap_ac{x:Cx}(hx:x.ok){a b:Nat}(hab:a≤b)(hb:b≤x.n){H:List AO}{d:Array Plc}(h:Inv x H d){K:AV→List AO→Prop}(hK:∀ H',Inv x H' (heapSort x.lt d a b)→Stp x H H'→K (.tup []) H') :
  AC Tryz.prog GG 77 [.sl x.R 0 x.n x.cap,I (a:Int),I (b:Int),.fn 38 [] [.ptr x.D 0,.ptr x.F 0]] H K:=by
 have hn:=hx.n;unfold heapSort at hK;obtain⟨hi,hhi⟩:∃ q,q=b - a:=⟨_,rfl⟩;have w1:IntKind.i64.wrap ((b:Int) - (a:Int))=(hi:Int):=by rw[zAf (n:=(b:Int) - (a:Int)) (by omega) (by omega)]; omega
 have w2:=zAf (n:=(hi:Int) - 1) (by omega) (by omega);obtain⟨k0,hk0⟩:∃ q,q=(hi - 1) / 2+1:=⟨_,rfl⟩;have w3:IntKind.i64.wrap (((hi:Int) - 1).tdiv 2)=(k0:Int) - 1:=by
  have:((hi:Int) - 1).tdiv 2=(k0:Int) - 1:=by
   by_cases h0:hi=0
   ·subst h0; rw[hk0]; decide
   ·rw[show(hi:Int) - 1=((hi - 1:Nat):Int) by omega]; show((hi - 1:Nat):Int).tdiv ((2:Nat):Int)=_; rw[← Int.ofNat_tdiv]; omega
  rw[this];exact zAf (by omega) (by omega)
 rw[← hhi,← hk0]at hK;refine goE e77 TOk.nil 0 ?_;simp(maxSteps:=2000000)only[push_cast,seval,↓kw2,w1,w2,w3];refine FW.loopInv (fun m ts H'=>∃(d':Array Plc),heapBuild x.lt hi a m d'=heapBuild x.lt hi a k0 d∧m≤k0∧Inv x H' d'∧Stp x H H'∧ts 0=.sl x.R 0 x.n x.cap∧ts 3=.fn 38 [] [.ptr x.D 0,.ptr x.F 0]∧ts 8=I (a:Int)∧ts 9=I 0∧ts 10=I (hi:Int)∧ts 11=I ((m:Int) - 1)) k0
  ⟨d,rfl,Nat.le_refl _,h,.refl,rfl,rfl,rfl,rfl,rfl,rfl⟩ ?_
 clear h
 rintro m ih ts H' ⟨d',hres,hmk,h,hst,t0,t3,t8,t9,t10,t11⟩
 refine FW.inLoop ?_;have hsz:=h.n
 by_cases hm:1≤m
 ·have d1:decide (0≤(m:Int) - 1)=true:=decide_eq_true (by omega);obtain⟨q,hq⟩:∃ q,m=q+1:=⟨m - 1,by omega⟩;have e1:(m:Int) - 1=(q:Int):=by omega
  rw[e1]at t11 d1;have w4:=zAf (n:=(q:Int) - 1) (by omega) (by omega);rw[hq,heapBuild]at hres;refine goN ?_;simp(maxSteps:=2000000)only[push_cast,seval,↓kw2,t0,t3,t8,t9,t10,t11,d1,ge_iff_le,List.contains_cons,Bool.true_or,Bool.false_or,Bool.or_true,Bool.or_false,Bool.or_self];refine sift_ac (lo:=q) (hi:=hi) (first:=a) hx (by omega) h ?_ (by omega)
  intro H3 h3 st3
  refine goN ?_;simp(maxSteps:=2000000)only[push_cast,seval,↓kw2,t0,t3,t8,t9,t10,t11,w4,List.contains_cons,Bool.true_or,Bool.false_or,Bool.or_true,Bool.or_false,Bool.or_self];exact ih q (by omega) _ _ ⟨_,hres,by omega,h3,hst.trans st3,t0,t3,t8,t9,t10,rfl⟩
 have d1:decide (0≤(m:Int) - 1)=false:=decide_eq_false (by omega);have hm0:m=0:=by omega
 subst hm0;rw[show heapBuild x.lt hi a 0 d'=d' from rfl]at hres;subst hres;refine goN ?_;simp(maxSteps:=2000000)only[push_cast,seval,↓kw2,t0,t3,t8,t9,t10,t11,d1,w2,List.contains_cons,Bool.true_or,Bool.false_or,Bool.or_true,Bool.or_false,Bool.or_self];clear ih d1 hm hmk t11;refine FW.loopInv (fun m ts H'=>∃(d':Array Plc),heapPop x.lt a m d'=heapPop x.lt a hi (heapBuild x.lt hi a k0 d)∧m≤hi∧Inv x H' d'∧Stp x H H'∧ts 0=.sl x.R 0 x.n x.cap∧ts 3=.fn 38 [] [.ptr x.D 0,.ptr x.F 0]∧ts 8=I (a:Int)∧ts 9=I 0∧ts 10=I (hi:Int)∧ts 12=I ((m:Int) - 1)) hi
  ⟨_,rfl,Nat.le_refl _,h,hst,t0,t3,t8,t9,t10,rfl⟩ ?_
 clear h hst t0 t3 t8 t9 t10 hsz
 rintro m ih ts H' ⟨d',hres,hmk,h,hst,t0,t3,t8,t9,t10,t12⟩
 refine FW.inLoop ?_;have hsz:=h.n
 by_cases hm:1≤m
 ·have d1:decide (0≤(m:Int) - 1)=true:=decide_eq_true (by omega);obtain⟨q,hq⟩:∃ q,m=q+1:=⟨m - 1,by omega⟩;have e1:(m:Int) - 1=(q:Int):=by omega
  rw[e1]at t12 d1;obtain⟨pq,hpq⟩:∃ r,r=a+q:=⟨_,rfl⟩;have w4:=zAf (n:=(q:Int) - 1) (by omega) (by omega);have w5:IntKind.i64.wrap ((a:Int)+(q:Int))=(pq:Int):=by rw[zAf (n:=(a:Int)+(q:Int)) (by omega) (by omega)]; omega
  rw[hq,heapPop,← hpq]at hres;have gR:=zAi (x:=x) (d:=d') (i:=a) (by omega);have lR:=zAj (x:=x) (d:=d') (i:=a) (by omega);have gC:=zAi (x:=x) (d:=d') (i:=pq) (by omega);have lC:=zAj (x:=x) (d:=d') (i:=pq) (by omega);have hr:=h.row;have hsw:=zCg (x:=x) (d:=d') (i:=a) (j:=pq) (by omega) (by omega);have hpost:=h.swap (i:=a) (j:=pq) (by omega) (by omega);rw[← hsw]at hpost;have hrs:∀ v,(H'.set x.R v)[x.R]?=some v:=fun v=>List.getElem?_set_self h.lt.1
  generalize d'[a]! =U at gR hsw hpost
  generalize d'[pq]! =V at gC hsw hpost
  obtain⟨Z,hz⟩:=zBp x (d:=d') (i:=pq) (j:=a) (by omega) V;simp only[Plc.av]at hz;have cU:=Plc.cells U;have cV:=Plc.cells V;refine goN ?_;simp(maxSteps:=2000000)only[push_cast,seval,↓kw2,t0,t3,t8,t9,t10,t12,d1,ge_iff_le,w5,hr,hrs,hz,gR,lR,gC,lC,cU,cV,Plc.av,List.set_set,List.length_set,Int.toNat_natCast,List.contains_cons,Bool.true_or,Bool.false_or,Bool.or_true,Bool.or_false,Bool.or_self]
  repeat (refine⟨⟨by omega,by omega⟩,?_⟩)
  refine sift_ac (lo:=0) (hi:=q) (first:=a) hx (by omega) hpost ?_ (by omega)
  intro H3 h3 st3
  refine goN ?_;simp(maxSteps:=2000000)only[push_cast,seval,↓kw2,t0,t3,t8,t9,t10,t12,w4,List.contains_cons,Bool.true_or,Bool.false_or,Bool.or_true,Bool.or_false,Bool.or_self];exact ih q (by omega) _ _ ⟨_,hres,by omega,h3,(hst.trans .row).trans st3,t0,t3,t8,t9,t10,rfl⟩
 have d1:decide (0≤(m:Int) - 1)=false:=decide_eq_false (by omega);have hm0:m=0:=by omega
 subst hm0;rw[show heapPop x.lt a 0 d'=d' from rfl]at hres;subst hres;refine goN ?_;simp(maxSteps:=2000000)only[push_cast,seval,↓kw2,t0,t3,t8,t9,t10,t12,d1,List.contains_cons,Bool.true_or,Bool.false_or,Bool.or_true,Bool.or_false,Bool.or_self];exact⟨_,rfl,hK _ h hst⟩
theorem e80:Ent Tryz.prog 80 Tryz.f80 [] 4:=.mk Tryz.func80 rfl
attribute [push_cast] Tryz.f80
theorem reverse_ac{x:Cx}(hx:x.ok){a b:Nat}(hab:a < b)(hb:b≤x.n){H:List AO}{d:Array Plc}(h:Inv x H d){K:AV→List AO→Prop}(hK:∀ H',Inv x H' (reverseRange d a b)→Stp x H H'→K (.tup []) H') :
  AC Tryz.prog GG 80 [.sl x.R 0 x.n x.cap,I (a:Int),I (b:Int),.fn 38 [] [.ptr x.D 0,.ptr x.F 0]] H K:=by
 have hn:=hx.n;unfold reverseRange at hK;obtain⟨b1,hb1⟩:∃ q,q=b - 1:=⟨_,rfl⟩;have w1:IntKind.i64.wrap ((b:Int) - 1)=(b1:Int):=by rw[zAf (n:=(b:Int) - 1) (by omega) (by omega)]; omega
 rw[← hb1]at hK;refine goE e80 TOk.nil 0 ?_;simp(maxSteps:=2000000)only[push_cast,seval,↓kw2,w1];refine FW.loopInv (fun m ts H'=>∃(i j:Nat) (d':Array Plc),m=j+1 - i∧a≤i∧j < b∧i≤b∧reverseLoop i j d'=reverseLoop a b1 d∧Inv x H' d'∧Stp x H H'∧ts 0=.sl x.R 0 x.n x.cap∧ts 8=I (i:Int)∧ts 9=I (j:Int)) (b1+1 - a)
  ⟨a,b1,d,rfl,Nat.le_refl _,by omega,by omega,rfl,h,.refl,rfl,rfl,rfl⟩ ?_
 clear h
 rintro m ih ts H' ⟨i,j,d',hm,hai,hjb,hib,hres,h,hst,t0,t8,t9⟩
 refine FW.inLoop ?_;have hsz:=h.n;rw[reverseLoop]at hres
 by_cases hlt:i < j
 ·have d1:decide ((i:Int) < (j:Int))=true:=decide_eq_true (by omega);rw[if_pos hlt]at hres;have w2:=zAf (n:=(i:Int)+1) (by omega) (by omega);obtain⟨j1,hj1⟩:∃ q,q=j - 1:=⟨_,rfl⟩;rw[← hj1]at hres;have w3:IntKind.i64.wrap ((j:Int) - 1)=(j1:Int):=by rw[zAf (n:=(j:Int) - 1) (by omega) (by omega)]; omega
  have gR:=zAi (x:=x) (d:=d') (i:=i) (by omega);have lR:=zAj (x:=x) (d:=d') (i:=i) (by omega);have gC:=zAi (x:=x) (d:=d') (i:=j) (by omega);have lC:=zAj (x:=x) (d:=d') (i:=j) (by omega);have hr:=h.row;have hsw:=zCg (x:=x) (d:=d') (i:=i) (j:=j) (by omega) (by omega);have hpost:=h.swap (i:=i) (j:=j) (by omega) (by omega);rw[← hsw]at hpost;have hrs:∀ v,(H'.set x.R v)[x.R]?=some v:=fun v=>List.getElem?_set_self h.lt.1
  generalize d'[i]! =U at gR hsw hpost
  generalize d'[j]! =V at gC hsw hpost
  obtain⟨Z,hz⟩:=zBp x (d:=d') (i:=j) (j:=i) (by omega) V;simp only[Plc.av]at hz;have cU:=Plc.cells U;have cV:=Plc.cells V;refine goN ?_;simp(maxSteps:=2000000)only[push_cast,seval,↓kw2,t0,t8,t9,d1,w2,w3,hr,hrs,hz,gR,lR,gC,lC,cU,cV,Plc.av,List.set_set,List.length_set,Int.toNat_natCast,List.contains_cons,Bool.true_or,Bool.false_or,Bool.or_true,Bool.or_false,Bool.or_self]
  repeat (refine⟨⟨by omega,by omega⟩,?_⟩)
  exact ih (j1+1 - (i+1)) (by omega) _ _ ⟨i+1,j1,_,rfl,by omega,by omega,by omega,hres,hpost,hst.trans .row,t0,rfl,rfl⟩
 ·have d1:decide ((i:Int) < (j:Int))=false:=decide_eq_false (by omega);rw[if_neg hlt]at hres;subst hres;refine goN ?_;simp(maxSteps:=2000000)only[push_cast,seval,↓kw2,t0,t8,t9,d1,List.contains_cons,Bool.true_or,Bool.false_or,Bool.or_true,Bool.or_false,Bool.or_self];exact⟨_,rfl,hK _ h hst⟩
def oCc:List (Nat × Bool):=[(0,true),(1,true),(2,true),(3,true),(4,true),(5,true),(6,true),(7,true),(8,true),(9,false),(10,true)]
def iCc:Nat→Bool:=fun i=>i==9
structure HiC(x:Cx)(k:Nat):Prop where
 R:x.R < k
 D:x.D < k
 F:x.F < k
 M:x.M < k
 S:x.S < k
 mi:x.mi < k
theorem Inv.setK{x:Cx}{H:List AO}{d:Array Plc}(h:Inv x H d){k:Nat}(hk:HiC x k){v:AO}:Inv x (H.set k v) d :=
 h.set (Nat.ne_of_lt hk.R) (Nat.ne_of_lt hk.D) (Nat.ne_of_lt hk.F) (Nat.ne_of_lt hk.M) (Nat.ne_of_lt hk.S) (Nat.ne_of_lt hk.mi)
structure Stk(x:Cx)(k:Nat)(H H':List AO):Prop where
 len:H.length≤H'.length
 keep:∀ j o,j≠x.R→j≠x.mi→j≠k→H[j]?=some o→H'[j]?=some o
 c:∃ s:Int,H'[k]?=some (.cells [I s])
theorem Stk.trans{x:Cx}{k:Nat}{H H1 H2:List AO}(h:Stk x k H H1)(g:Stk x k H1 H2):Stk x k H H2:=⟨Nat.le_trans h.len g.len,fun j o h1 h2 h3 h4=>g.keep j o h1 h2 h3 (h.keep j o h1 h2 h3 h4),g.c⟩
theorem Stp.toK{x:Cx}{k:Nat}(hk:HiC x k){H H':List AO}(h:Stp x H H')(hc:∃ s:Int,H[k]?=some (.cells [I s])):Stk x k H H' :=
 ⟨h.len,fun j o h1 h2 _ h4=>h.keep j o h1 h2 h4,hc.elim fun s hs=>⟨s,h.keep k _ (Nat.ne_of_gt hk.R) (Nat.ne_of_gt hk.mi) hs⟩⟩
theorem Stk.set{x:Cx}{k:Nat}{H:List AO}{s:Int}(hl:k < H.length):Stk x k H (H.set k (.cells [I s])) :=
 ⟨by simp,fun j o _ _ h3 h4=>by rw[List.getElem?_set_ne (fun e=>h3 e.symm)]; exact h4,s,List.getElem?_set_self hl⟩
theorem e141:Ent Tryz.prog 141 Tryz.f141 [1] 5:=.mk Tryz.func141 rfl
attribute [push_cast] Tryz.f141
theorem order2_ac{x:Cx}(hx:x.ok){a b k:Nat}(ha:a < x.n)(hb:b < x.n)(hk:HiC x k){H:List AO}{d:Array Plc}(h:Inv x H d){s:Int}(hs:H[k]?=some (.cells [I s])){K:AV→List AO→Prop}(hK:∀(a' b':Nat) H',((a'=a∧b'=b)∨(a'=b∧b'=a))→Inv x H' d→Stk x k H H'→K (.tup [I (a':Int),I (b':Int)]) H') :
  AC Tryz.prog GG 141 [.sl x.R 0 x.n x.cap,I (a:Int),I (b:Int),.ptr k 0,.fn 38 [] [.ptr x.D 0,.ptr x.F 0]] H K:=by
 have hsz:=h.n;have gR:=zAi (x:=x) (d:=d) (i:=b) (by omega);have lR:=zAj (x:=x) (d:=d) (i:=b) (by omega);have gC:=zAi (x:=x) (d:=d) (i:=a) (by omega);have lC:=zAj (x:=x) (d:=d) (i:=a) (by omega);have hr:=h.row;have hcc:=zBr hx h (i:=b) (j:=a) (by omega) (by omega)
 generalize d[b]! =U at gR hcc
 generalize d[a]! =V at gC hcc
 have cU:=Plc.cells U;have cV:=Plc.cells V;refine goE e141 TOk.nil 0 ?_;simp(maxSteps:=2000000)only[push_cast,seval,↓kw2,List.contains_cons,Bool.true_or,Bool.false_or,Bool.or_true,Bool.or_false,Bool.or_self];refine FW.walkH hmix (imp:=iCc) (l:=oCc) (by kernel_rfl) (by kernel_rfl) ?_;simp only[oCc];simp(maxSteps:=2000000)only[push_cast,seval,↓kw2,zAo,zAn,zAh,↓zAc,Bool.or_false,Bool.or_true,Bool.true_or,Bool.false_or,Bool.or_self,Nat.add_assoc,zAd,zAr,wat,clOf,Int.toNat_natCast,iCc,hr,gR,lR,gC,lC,cU,cV,Plc.av]
 repeat (refine⟨⟨by omega,by omega⟩,?_⟩)
 refine hcc _ fun H3 h3 st3=>⟨?_,?_⟩
 ·repeat' (first | apply And.intro | (intro h; exact absurd (h.symm.trans (by kernel_rfl)) Bool.false_ne_true))
 have hs3:=st3.keep k _ (Nat.ne_of_gt hk.R) (Nat.ne_of_gt hk.mi) hs;cases hlu:x.lt U V
 ·have hcd:decide (cmpS x.a x.b x.c x.sc U V < 0)=false:=hlu;simp(maxSteps:=2000000)only[push_cast,seval,↓kw2,zAo,zAn,zAh,↓zAc,Bool.or_false,Bool.or_true,Bool.true_or,Bool.false_or,Bool.or_self,Nat.add_assoc,zAd,zAr,wat,clOf,Int.toNat_natCast,iCc,hcd];refine goW TOk.nil [1] 0 ?_;simp(maxSteps:=2000000)only[push_cast,seval,↓kw2,List.contains_cons,Bool.true_or,Bool.false_or,Bool.or_true,Bool.or_false,Bool.or_self];exact⟨_,rfl,hK a b H3 (.inl ⟨rfl,rfl⟩) h3 (st3.toK hk ⟨s,hs⟩)⟩
 ·have hcd:decide (cmpS x.a x.b x.c x.sc U V < 0)=true:=hlu;simp(maxSteps:=2000000)only[push_cast,seval,↓kw2,zAo,zAn,zAh,↓zAc,Bool.or_false,Bool.or_true,Bool.true_or,Bool.false_or,Bool.or_self,Nat.add_assoc,zAd,zAr,wat,clOf,Int.toNat_natCast,iCc,hcd];refine goW TOk.nil [1] 0 ?_;simp(maxSteps:=2000000)only[push_cast,seval,↓kw2,hs3,nonNil,List.contains_cons,Bool.true_or,Bool.false_or,Bool.or_true,Bool.or_false,Bool.or_self];exact⟨_,rfl,hK b a _ (.inr ⟨rfl,rfl⟩) (h3.setK hk) ((st3.toK hk ⟨s,hs⟩).trans (Stk.set (zAb hs3)))⟩
theorem e121:Ent Tryz.prog 121 Tryz.f121 [] 6:=.mk Tryz.func121 rfl
attribute [push_cast] Tryz.f121
theorem median_ac{x:Cx}(hx:x.ok){a b c k:Nat}(ha:a < x.n)(hb:b < x.n)(hc:c < x.n)(hk:HiC x k){H:List AO}{d:Array Plc}(h:Inv x H d){s:Int}(hs:H[k]?=some (.cells [I s])){K:AV→List AO→Prop}(hK:∀(m:Nat) H',(m=a∨m=b∨m=c)→Inv x H' d→Stk x k H H'→K (I (m:Int)) H') :
  AC Tryz.prog GG 121 [.sl x.R 0 x.n x.cap,I (a:Int),I (b:Int),I (c:Int),.ptr k 0,.fn 38 [] [.ptr x.D 0,.ptr x.F 0]] H K:=by
 refine goE e121 TOk.nil 0 ?_;simp(maxSteps:=2000000)only[push_cast,seval,↓kw2];refine order2_ac hx ha hb hk h hs ?_
 intro a1 b1 H1 e1 h1 st1
 obtain⟨s1,hs1⟩:=st1.c;refine goN ?_;simp(maxSteps:=2000000)only[push_cast,seval,↓kw2,List.contains_cons,Bool.true_or,Bool.false_or,Bool.or_true,Bool.or_false,Bool.or_self];refine order2_ac (a:=b1) (b:=c) hx (by omega) hc hk h1 hs1 ?_
 intro b2 c2 H2 e2 h2 st2
 obtain⟨s2,hs2⟩:=st2.c;refine goN ?_;simp(maxSteps:=2000000)only[push_cast,seval,↓kw2,List.contains_cons,Bool.true_or,Bool.false_or,Bool.or_true,Bool.or_false,Bool.or_self];refine order2_ac (a:=a1) (b:=b2) hx (by omega) (by omega) hk h2 hs2 ?_
 intro a3 b3 H3 e3 h3 st3
 refine goN ?_;simp(maxSteps:=2000000)only[push_cast,seval,↓kw2,List.contains_cons,Bool.true_or,Bool.false_or,Bool.or_true,Bool.or_false,Bool.or_self];exact⟨_,rfl,hK b3 H3 (by omega) h3 ((st1.trans st2).trans st3)⟩
theorem e120:Ent Tryz.prog 120 Tryz.f120 [] 4:=.mk Tryz.func120 rfl
attribute [push_cast] Tryz.f120
theorem medianA_ac{x:Cx}(hx:x.ok){a k:Nat}(h0:1≤a)(ha:a+1 < x.n)(hk:HiC x k){H:List AO}{d:Array Plc}(h:Inv x H d){s:Int}(hs:H[k]?=some (.cells [I s])){K:AV→List AO→Prop}(hK:∀(m:Nat) H',(m+1=a∨m=a∨m=a+1)→Inv x H' d→Stk x k H H'→K (I (m:Int)) H') :
  AC Tryz.prog GG 120 [.sl x.R 0 x.n x.cap,I (a:Int),.ptr k 0,.fn 38 [] [.ptr x.D 0,.ptr x.F 0]] H K:=by
 have hn:=hx.n;obtain⟨l,hl⟩:∃ q,q=a - 1:=⟨_,rfl⟩;obtain⟨r,hr⟩:∃ q,q=a+1:=⟨_,rfl⟩;have w1:IntKind.i64.wrap ((a:Int) - 1)=(l:Int):=by rw[zAf (n:=(a:Int) - 1) (by omega) (by omega)]; omega
 have w2:IntKind.i64.wrap ((a:Int)+1)=(r:Int):=by rw[zAf (n:=(a:Int)+1) (by omega) (by omega)]; omega
 refine goE e120 TOk.nil 0 ?_;simp(maxSteps:=2000000)only[push_cast,seval,↓kw2,w1,w2];refine median_ac (a:=l) (b:=a) (c:=r) hx (by omega) (by omega) (by omega) hk h hs ?_
 intro m H' e1 h1 st1
 refine goN ?_;simp(maxSteps:=2000000)only[push_cast,seval,↓kw2,List.contains_cons,Bool.true_or,Bool.false_or,Bool.or_true,Bool.or_false,Bool.or_self];exact⟨_,rfl,hK m H' (by omega) h1 st1⟩
theorem e79:Ent Tryz.prog 79 Tryz.f79 [] 4:=.mk Tryz.func79 rfl
attribute [push_cast] Tryz.f79
theorem pivot_ac{x:Cx}(hx:x.ok){a b:Nat}(hab:a+8≤b)(hb:b≤x.n){H:List AO}{d:Array Plc}(h:Inv x H d){K:AV→List AO→Prop}(hK:∀(m t:Nat) H',a≤m→m < b→Inv x H' d→Stp x H H'→K (.tup [I (m:Int),I (t:Int)]) H') :
  AC Tryz.prog GG 79 [.sl x.R 0 x.n x.cap,I (a:Int),I (b:Int),.fn 38 [] [.ptr x.D 0,.ptr x.F 0]] H K:=by
 have hn:=hx.n;obtain⟨l,hl⟩:∃ q,q=b - a:=⟨_,rfl⟩;obtain⟨q,hq⟩:∃ r,r=l / 4:=⟨_,rfl⟩;obtain⟨i,hi⟩:∃ r,r=a+q*1:=⟨_,rfl⟩;obtain⟨j,hj⟩:∃ r,r=a+q*2:=⟨_,rfl⟩;obtain⟨k,hk⟩:∃ r,r=a+q*3:=⟨_,rfl⟩;have w1:IntKind.i64.wrap ((b:Int) - (a:Int))=(l:Int):=by rw[zAf (n:=(b:Int) - (a:Int)) (by omega) (by omega)]; omega
 have w2:IntKind.i64.wrap ((l:Int).tdiv 4)=(q:Int):=by
  have:(l:Int).tdiv 4=(q:Int):=by show(l:Int).tdiv ((4:Nat):Int)=_; rw[← Int.ofNat_tdiv]; omega
  rw[this];exact zAf (by omega) (by omega)
 have w3:=zAf (n:=(q:Int)*1) (by omega) (by omega);have w4:=zAf (n:=(q:Int)*2) (by omega) (by omega);have w5:=zAf (n:=(q:Int)*3) (by omega) (by omega);have w6:IntKind.i64.wrap ((a:Int)+(q:Int)*1)=(i:Int):=by rw[zAf (n:=(a:Int)+(q:Int)*1) (by omega) (by omega)]; omega
 have w7:IntKind.i64.wrap ((a:Int)+(q:Int)*2)=(j:Int):=by rw[zAf (n:=(a:Int)+(q:Int)*2) (by omega) (by omega)]; omega
 have w8:IntKind.i64.wrap ((a:Int)+(q:Int)*3)=(k:Int):=by rw[zAf (n:=(a:Int)+(q:Int)*3) (by omega) (by omega)]; omega
 have d8:decide (8≤(l:Int))=true:=decide_eq_true (by omega);have hlt:=h.lt;have hH:HiC x H.length:=⟨hlt.1,hlt.2.1,hlt.2.2.1,hlt.2.2.2.1,hlt.2.2.2.2.1,hlt.2.2.2.2.2⟩;have h0:Inv x (H++[AO.cells [I 0]]) d:=h.app;have hs:(H++[AO.cells [I 0]])[H.length]?=some (.cells [I 0]):=by simp
 have fin:∀(m:Nat) (s:Int) H',a≤m→m < b→Inv x H' d→Stk x H.length (H++[AO.cells [I 0]]) H'→∀ t:Nat,K (.tup [I (m:Int),I (t:Int)]) H':=fun m s H' e1 e2 h1 st t=>hK m t H' e1 e2 h1 ⟨by have:=st.len; simp at this; omega,fun j o h1 h2 h3=>st.keep j o h1 h2 (Nat.ne_of_lt (zAb h3)) ((List.getElem?_append_left (zAb h3)).trans h3)⟩
 by_cases h50:50≤l
 ·have d5:decide (50≤(l:Int))=true:=decide_eq_true (by omega);refine goE e79 TOk.nil 0 ?_;simp(maxSteps:=2000000)only[push_cast,seval,↓kw2,w1,w2,w3,w4,w5,w6,w7,w8,d8,d5,ge_iff_le];refine medianA_ac (a:=i) hx (by omega) (by omega) hH h0 hs ?_
  intro m1 H1 e1 h1 st1
  replace e1:a≤m1∧m1 < b:=by omega
  obtain⟨s1,hs1⟩:=st1.c;refine goN ?_;simp(maxSteps:=2000000)only[push_cast,seval,↓kw2,List.contains_cons,Bool.true_or,Bool.false_or,Bool.or_true,Bool.or_false,Bool.or_self];refine medianA_ac (a:=j) hx (by omega) (by omega) hH h1 hs1 ?_
  intro m2 H2 e2 h2 st2
  replace e2:a≤m2∧m2 < b:=by omega
  obtain⟨s2,hs2⟩:=st2.c;refine goN ?_;simp(maxSteps:=2000000)only[push_cast,seval,↓kw2,List.contains_cons,Bool.true_or,Bool.false_or,Bool.or_true,Bool.or_false,Bool.or_self];refine medianA_ac (a:=k) hx (by omega) (by omega) hH h2 hs2 ?_
  intro m3 H3 e3 h3 st3
  replace e3:a≤m3∧m3 < b:=by omega
  obtain⟨s3,hs3⟩:=st3.c;refine goN ?_;simp(maxSteps:=2000000)only[push_cast,seval,↓kw2,List.contains_cons,Bool.true_or,Bool.false_or,Bool.or_true,Bool.or_false,Bool.or_self];refine median_ac (a:=m1) (b:=m2) (c:=m3) hx (by omega) (by omega) (by omega) hH h3 hs3 ?_
  intro mf Hf ef hf stf
  replace ef:a≤mf∧mf < b:=by rcases ef with rfl | rfl | rfl <;> omega
  obtain⟨sf,hsf⟩:=stf.c;have fin:=fun t=>fin mf 0 Hf ef.1 ef.2 hf (((st1.trans st2).trans st3).trans stf) t
  by_cases z0:sf=0
  ·have dz:decide (sf=0)=true:=decide_eq_true z0;refine goN ?_;simp(maxSteps:=2000000)only[push_cast,seval,↓kw2,hsf,dz,List.contains_cons,Bool.true_or,Bool.false_or,Bool.or_true,Bool.or_false,Bool.or_self];exact⟨_,rfl,fin 1⟩
  have dz:decide (sf=0)=false:=decide_eq_false z0
  by_cases z1:sf=12
  ·have dy:decide (sf=12)=true:=decide_eq_true z1;refine goN ?_;simp(maxSteps:=2000000)only[push_cast,seval,↓kw2,hsf,dz,dy,List.contains_cons,Bool.true_or,Bool.false_or,Bool.or_true,Bool.or_false,Bool.or_self];exact⟨_,rfl,fin 2⟩
  have dy:decide (sf=12)=false:=decide_eq_false z1;refine goN ?_;simp(maxSteps:=2000000)only[push_cast,seval,↓kw2,hsf,dz,dy,List.contains_cons,Bool.true_or,Bool.false_or,Bool.or_true,Bool.or_false,Bool.or_self];exact⟨_,rfl,fin 0⟩
 ·have d5:decide (50≤(l:Int))=false:=decide_eq_false (by omega);refine goE e79 TOk.nil 0 ?_;simp(maxSteps:=2000000)only[push_cast,seval,↓kw2,w1,w2,w3,w4,w5,w6,w7,w8,d8,d5,ge_iff_le];refine median_ac (a:=i) (b:=j) (c:=k) hx (by omega) (by omega) (by omega) hH h0 hs ?_
  intro mf Hf ef hf stf
  replace ef:a≤mf∧mf < b:=by rcases ef with rfl | rfl | rfl <;> omega
  obtain⟨sf,hsf⟩:=stf.c;have fin:=fun t=>fin mf 0 Hf ef.1 ef.2 hf (stf) t
  by_cases z0:sf=0
  ·have dz:decide (sf=0)=true:=decide_eq_true z0;refine goN ?_;simp(maxSteps:=2000000)only[push_cast,seval,↓kw2,hsf,dz,List.contains_cons,Bool.true_or,Bool.false_or,Bool.or_true,Bool.or_false,Bool.or_self];exact⟨_,rfl,fin 1⟩
  have dz:decide (sf=0)=false:=decide_eq_false z0
  by_cases z1:sf=12
  ·have dy:decide (sf=12)=true:=decide_eq_true z1;refine goN ?_;simp(maxSteps:=2000000)only[push_cast,seval,↓kw2,hsf,dz,dy,List.contains_cons,Bool.true_or,Bool.false_or,Bool.or_true,Bool.or_false,Bool.or_self];exact⟨_,rfl,fin 2⟩
  have dy:decide (sf=12)=false:=decide_eq_false z1;refine goN ?_;simp(maxSteps:=2000000)only[push_cast,seval,↓kw2,hsf,dz,dy,List.contains_cons,Bool.true_or,Bool.false_or,Bool.or_true,Bool.or_false,Bool.or_self];exact⟨_,rfl,fin 0⟩
end Go.Ab.Pd
