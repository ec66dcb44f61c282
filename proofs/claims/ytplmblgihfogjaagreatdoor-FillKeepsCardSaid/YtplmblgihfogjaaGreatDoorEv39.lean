/- A text of this claim. -/
import Derived.Test.YtplmblgihfogjaaGreatDoorEv37
set_option maxHeartbeats 40000000
set_option maxRecDepth 400000
set_option linter.all false
namespace Go.Ab.Pd
open Go.Proofs
theorem twinJ2_ac{l:List Jb}{s:AV}(hs:JobsS s l)(hl:l.length<=2^16)(ha:∀ j∈l,j.after.length<=2^16){H:List AO}{K:AV->List AO->Prop}(hK:∀ r X,LiveS 16 (H++X) s r (l.map Jb.av)->(∀ i,zAw r=some i->H.length<=i)->K r (H++X)) :
  AC Tryz.prog GG 42 [s] H K:=by
 obtain⟨n1,n2,n3⟩:=hs.1.cell;refine goE e42 TOk.nil 0 ?_;simp only[push_cast,seval,↓kw2,n1,n2,n3];refine cloneJ_ac hs.1 hl ?_
 intro r X hr hq0
 generalize hes:l.map Jb.av=es at hr hK
 cases hr with
 | nil =>
  refine goW TOk.nil [] 1 ?_;simp only[push_cast,seval,↓kw2];exact⟨_,rfl,by simpa using hK _ X .nil (fun i h=>by cases h)⟩
 | zs =>
  refine goW TOk.nil [] 1 ?_;simp only[push_cast,seval,↓kw2];exact⟨_,rfl,by simpa using hK _ X .zs (fun i h=>by cases h)⟩
 | row hid h0 =>
  rename_i id;have hel:es.length=l.length:=by rw[<- hes,zM]
  refine goN ?_;simp only[push_cast,seval,↓kw2];refine FW.loopInv (fun m ts H'=>∃ i:Nat,i+m=es.length/\H'=H++X/\ts 0=.sl id 0 es.length es.length/\ts 7=I (es.length:Int)/\ts 8=I (i:Int)) es.length ⟨0,by omega,rfl,rfl,rfl,rfl⟩ ?_
  rintro m ih ts H' ⟨i,hi,rfl,t0,t7,t8⟩
  refine FW.inLoop ?_
  by_cases hlt:i < es.length
  ·have hd1:decide ((i:Int) < (es.length:Int))=true:=by simp[hlt]
   have hgy:es.getD i .un=(l.getD i default).av:=by rw[<- hes]; exact zAj Jb.av l default (by omega)
   have hg:=hs.get i;have hal:(l.getD i default).after.length<=2^16:=ha _ (by
    rw[show l.getD i default=l[i]'(by omega) by simp[List.getD,show i < l.length by omega]];exact List.getElem_mem _)
   generalize l.getD i default=j at hgy hg hal
   have hcx:=Jb.cells j;obtain⟨m1,m2,m3⟩:=IsSl.cell hg;have hi1:=zAl (n:=(i:Int)+1) (by omega) (by omega);have hset:=set_getD (d:=.un) hlt hgy;have hset2:=set_id hid;simp only[Jb.av]at hgy hcx hset;refine goN ?_;simp only[push_cast,seval,↓kw2,t0,t7,t8,hd1,hid,hgy,hcx,m1,m2,m3,Int.toNat_natCast,hlt];refine⟨⟨by omega,by omega⟩,AC.pur (cloneI_pur hg hal (zAi IA _ (fun _=>rfl))) ?_⟩;refine goN ?_;simp only[push_cast,seval,↓kw2,t0,t7,t8,hd1,hid,hgy,hcx,m1,m2,m3,Int.toNat_natCast,hlt,hset,hset2,hi1];exact⟨⟨by omega,by omega⟩,ih (m - 1) (by omega) _ _ ⟨i+1,by omega,rfl,t0,t7,rfl⟩⟩
  ·have hd1:decide ((i:Int) < (es.length:Int))=false:=by simp; omega
   refine goN ?_;simp only[push_cast,seval,↓kw2,t0,t7,t8,hd1];exact⟨_,rfl,hK _ _ (.row hid h0) hq0⟩
theorem entTA:Ent Tryz.prog 16 Tryz.f16 [1,2,3] 1:=.mk e16.hf rfl
def impT1:Nat->Bool:=fun i=>i==3||i==6
def ordT1:List (Nat × Bool):=[(0,true),(1,true),(2,true),(4,true),(5,true),(3,false),(7,true),(8,true),(6,false),(9,false),(10,true),(11,false)]
def impT2:Nat->Bool:=fun i=>i==2||i==5
def ordT2:List (Nat × Bool):=[(0,true),(1,true),(3,true),(4,true),(2,false),(6,true),(5,false),(7,false),(8,true),(9,false)]
def impT3:Nat->Bool:=fun i=>i==2||(i==5||i==8)
def ordT3:List (Nat × Bool):=[(0,true),(1,true),(3,true),(4,true),(6,true),(7,true),(2,false),(9,true),(5,false),(8,false),(10,false),(11,true),(12,false),(13,true),(14,false)]
theorem LiveS.mv{k:Nat}{H X R:List AO}{a b a' b':AO}{s r:AV}{l:List AV}(h:LiveS k (H++a::b::X) s r l)(lo:∀ i,zAw r=some i->H.length+2<=i):LiveS k (H++a'::b'::(X++R)) s r l:=h.keep fun i hi=>by
 have q1:=lo i hi;have q2:=h.lt i hi;simp only[List.length_append,List.length_cons]at q2;obtain⟨j,rfl⟩:∃ j,i=H.length+(j+2):=⟨i - H.length - 2,by omega⟩;rw[getA,getA,List.getElem?_cons_succ,List.getElem?_cons_succ,List.getElem?_cons_succ,List.getElem?_cons_succ,zL (by omega)]
def Rng(r:AV)(a b:Nat):Prop:=∀ i,zAw r=some i->a<=i/\i < b
theorem twinA_ac{s:Sta}(h:s.good)(hl:s.lim2){H:List AO}{K:AV->List AO->Prop}
  (hK:∀ rc rj rp rk rd rh ru X n1 n2 n3 n4 n5 n6 n7,LiveS 4 (H++X) s.cs rc (s.c.cls.map Cls.av)->LiveS 16 (H++X) s.js rj (s.jobs.map Jb.av)->LiveS 13 (H++X) s.ps rp (s.parts.map Prt.av)->LiveS 9 (H++X) s.ks rk (s.keeps.map Kep.av)->LiveS 1 (H++X) s.ds rd (s.down.map IA)->LiveS 1 (H++X) s.hs rh (s.shut.map IA)->LiveS 1 (H++X) s.us ru (s.cut.map IA) ->
   H.length<=n1->Rng rc n1 n2->Rng rj n2 n3->Rng rp n3 n4->Rng rk n4 n5->Rng rd n5 n6->Rng rh n6 n7->Rng ru n7 (H++X).length->n1<=n2/\n2<=n3/\n3<=n4/\n4<=n5/\n5<=n6/\n6<=n7/\n7<=(H++X).length->K (ST s.c.a s.c.b s.c.c s.c.boot s.c.free s.c.tries s.c.age rc s.now s.next rj rp rk rd rh ru) (H++X)) :
  AC Tryz.prog GG 16 [s.av] H K:=by
 have hZ:=h.cell;obtain⟨⟨⟨a1,a2,a3⟩,b1,b2,b3⟩,⟨⟨c1,c2,c3⟩,d1,d2,d3⟩,⟨e1,e2,e3⟩,⟨f1,f2,f3⟩,g1,g2,g3⟩:=h.cell;obtain⟨p1,p2,p3,p4,p5,p6,p7⟩:=h.purs;obtain⟨l1,l2,l3,l4,l5,l6,l7,l8⟩:=hl;show AC Tryz.prog GG 16 [ST s.c.a s.c.b s.c.c s.c.boot s.c.free s.c.tries s.c.age s.cs s.now s.next s.js s.ps s.ks s.ds s.hs s.us] H K;refine goE entTA TOk.nil 0 ?_;simp only[push_cast,seval,↓kw2,hZ,zAd,getA,zAe,setA,zAb,List.contains_cons,Bool.true_or,Bool.or_true,Bool.false_or,Bool.or_false,Bool.or_self];refine FW.walkG hmix (imp:=impT1) (l:=ordT1) (by kernel_rfl) (by kernel_rfl) ?_;simp only[ordT1];simp only[push_cast,seval,↓kw2,zBn,zBm,zAr,↓zAq,impT1,impT2,impT3,Nat.add_assoc,zAx,zCq,wat,clOf,hZ,zAd,getA,zAe,setA,zAb,List.contains_cons,Bool.true_or,Bool.or_true,Bool.false_or,Bool.or_false,Bool.or_self];refine cloneC_ac h.cs (by omega) ?_
 intro rc X1 hc hc0
 obtain⟨u1,u2,u3⟩:=hc.cell;simp only[push_cast,seval,↓kw2,zBn,zBm,zAr,↓zAq,impT1,impT2,impT3,Nat.add_assoc,zAx,zCq,wat,clOf,hZ,zAd,getA,zAe,setA,zAb,List.contains_cons,Bool.true_or,Bool.or_true,Bool.false_or,Bool.or_false,Bool.or_self,u1,u2,u3];refine twinJ2_ac h.js (by omega) (fun j hj=>by have:=l8 j hj; omega) ?_
 intro rj X2 hj hj0
 obtain⟨v1,v2,v3⟩:=hj.cell;simp only[push_cast,seval,↓kw2,zBn,zBm,zAr,↓zAq,impT1,impT2,impT3,Nat.add_assoc,zAx,zCq,wat,clOf,hZ,zAd,getA,zAe,setA,zAb,List.contains_cons,Bool.true_or,Bool.or_true,Bool.false_or,Bool.or_false,Bool.or_self,u1,u2,u3,v1,v2,v3];refine goW TOk.nil [1,2,3] 0 ?_;simp only[push_cast,seval,↓kw2,zBn,zBm,zAr,↓zAq,impT1,impT2,impT3,Nat.add_assoc,zAx,zCq,wat,clOf,hZ,zAd,getA,zAe,setA,zAb,List.contains_cons,Bool.true_or,Bool.or_true,Bool.false_or,Bool.or_false,Bool.or_self,u1,u2,u3,v1,v2,v3];refine FW.walkG hmix (imp:=impT2) (l:=ordT2) (by kernel_rfl) (by kernel_rfl) ?_;simp only[ordT2];simp only[push_cast,seval,↓kw2,zBn,zBm,zAr,↓zAq,impT1,impT2,impT3,Nat.add_assoc,zAx,zCq,wat,clOf,hZ,zAd,getA,zAe,setA,zAb,List.contains_cons,Bool.true_or,Bool.or_true,Bool.false_or,Bool.or_false,Bool.or_self,u1,u2,u3,v1,v2,v3];refine cloneP_ac h.ps (by omega) ?_
 intro rp X3 hp hp0
 obtain⟨o1,o2,o3⟩:=hp.cell;simp only[push_cast,seval,↓kw2,zBn,zBm,zAr,↓zAq,impT1,impT2,impT3,Nat.add_assoc,zAx,zCq,wat,clOf,hZ,zAd,getA,zAe,setA,zAb,List.contains_cons,Bool.true_or,Bool.or_true,Bool.false_or,Bool.or_false,Bool.or_self,u1,u2,u3,v1,v2,v3,o1,o2,o3];refine cloneK_ac h.ks (by omega) ?_
 intro rk X4 hk hk0
 obtain⟨r1,r2,r3⟩:=hk.cell;simp only[push_cast,seval,↓kw2,zBn,zBm,zAr,↓zAq,impT1,impT2,impT3,Nat.add_assoc,zAx,zCq,wat,clOf,hZ,zAd,getA,zAe,setA,zAb,List.contains_cons,Bool.true_or,Bool.or_true,Bool.false_or,Bool.or_false,Bool.or_self,u1,u2,u3,v1,v2,v3,o1,o2,o3,r1,r2,r3];refine goW TOk.nil [1,2,3] 0 ?_;simp only[push_cast,seval,↓kw2,zBn,zBm,zAr,↓zAq,impT1,impT2,impT3,Nat.add_assoc,zAx,zCq,wat,clOf,hZ,zAd,getA,zAe,setA,zAb,List.contains_cons,Bool.true_or,Bool.or_true,Bool.false_or,Bool.or_false,Bool.or_self,u1,u2,u3,v1,v2,v3,o1,o2,o3,r1,r2,r3];refine FW.walkG hmix (imp:=impT3) (l:=ordT3) (by kernel_rfl) (by kernel_rfl) ?_;simp only[ordT3];simp only[push_cast,seval,↓kw2,zBn,zBm,zAr,↓zAq,impT1,impT2,impT3,Nat.add_assoc,zAx,zCq,wat,clOf,hZ,zAd,getA,zAe,setA,zAb,List.contains_cons,Bool.true_or,Bool.or_true,Bool.false_or,Bool.or_false,Bool.or_self,u1,u2,u3,v1,v2,v3,o1,o2,o3,r1,r2,r3];refine cloneI_ac h.ds (by omega) ?_
 intro rd X5 hd hd0
 obtain⟨x1,x2,x3⟩:=hd.cell;simp only[push_cast,seval,↓kw2,zBn,zBm,zAr,↓zAq,impT1,impT2,impT3,Nat.add_assoc,zAx,zCq,wat,clOf,hZ,zAd,getA,zAe,setA,zAb,List.contains_cons,Bool.true_or,Bool.or_true,Bool.false_or,Bool.or_false,Bool.or_self,u1,u2,u3,v1,v2,v3,o1,o2,o3,r1,r2,r3,x1,x2,x3];refine cloneI_ac h.hs (by omega) ?_
 intro rh X6 hh hh0
 obtain⟨y1,y2,y3⟩:=hh.cell;simp only[push_cast,seval,↓kw2,zBn,zBm,zAr,↓zAq,impT1,impT2,impT3,Nat.add_assoc,zAx,zCq,wat,clOf,hZ,zAd,getA,zAe,setA,zAb,List.contains_cons,Bool.true_or,Bool.or_true,Bool.false_or,Bool.or_false,Bool.or_self,u1,u2,u3,v1,v2,v3,o1,o2,o3,r1,r2,r3,x1,x2,x3,y1,y2,y3];refine cloneI_ac h.us (by omega) ?_
 intro ru X7 hu hu0
 obtain⟨z1,z2,z3⟩:=hu.cell;simp only[push_cast,seval,↓kw2,zBn,zBm,zAr,↓zAq,impT1,impT2,impT3,Nat.add_assoc,zAx,zCq,wat,clOf,hZ,zAd,getA,zAe,setA,zAb,List.contains_cons,Bool.true_or,Bool.or_true,Bool.false_or,Bool.or_false,Bool.or_self,u1,u2,u3,v1,v2,v3,o1,o2,o3,r1,r2,r3,x1,x2,x3,y1,y2,y3,z1,z2,z3];refine goW TOk.nil [1,2,3] 0 ?_;simp only[push_cast,seval,↓kw2,zBn,zBm,zAr,↓zAq,impT1,impT2,impT3,Nat.add_assoc,zAx,zCq,wat,clOf,hZ,zAd,getA,zAe,setA,zAb,List.contains_cons,Bool.true_or,Bool.or_true,Bool.false_or,Bool.or_false,Bool.or_self,u1,u2,u3,v1,v2,v3,o1,o2,o3,r1,r2,r3,x1,x2,x3,y1,y2,y3,z1,z2,z3];simp only[List.append_assoc,List.cons_append,List.nil_append]at hc hj hp hk hd hh hu;simp only[List.length_append,List.length_cons,List.length_nil]at hc0 hj0 hp0 hk0 hd0 hh0 hu0;have tc:=hc.lt;have tj:=hj.lt;have tp:=hp.lt;have tk:=hk.lt;have td:=hd.lt;have th:=hh.lt;have tu:=hu.lt;simp only[List.length_append,List.length_cons]at tc tj tp tk td th tu;have ec:=fun i hi=>And.intro (hc0 i hi) (tc i hi)
 have ej:=fun i hi=>And.intro (hj0 i hi) (tj i hi)
 have ep:=fun i hi=>And.intro (hp0 i hi) (tp i hi)
 have ek:=fun i hi=>And.intro (hk0 i hi) (tk i hi)
 have ed:=fun i hi=>And.intro (hd0 i hi) (td i hi)
 have eh:=fun i hi=>And.intro (hh0 i hi) (th i hi)
 have eu:=fun i hi=>And.intro (hu0 i hi) (tu i hi)
 have mc:=fun a b=>hc.mv (a':=a) (b':=b) (R:=(X2++(X3++(X4++(X5++(X6++X7)))))) (fun i hi=>by have:=ec i hi; omega)
 have mj:=fun a b=>hj.mv (a':=a) (b':=b) (R:=(X3++(X4++(X5++(X6++X7))))) (fun i hi=>by have:=ej i hi; omega)
 have mp:=fun a b=>hp.mv (a':=a) (b':=b) (R:=(X4++(X5++(X6++X7)))) (fun i hi=>by have:=ep i hi; omega)
 have mk:=fun a b=>hk.mv (a':=a) (b':=b) (R:=(X5++(X6++X7))) (fun i hi=>by have:=ek i hi; omega)
 have md:=fun a b=>hd.mv (a':=a) (b':=b) (R:=(X6++X7)) (fun i hi=>by have:=ed i hi; omega)
 have mh:=fun a b=>hh.mv (a':=a) (b':=b) (R:=X7) (fun i hi=>by have:=eh i hi; omega)
 have mu:=fun a b=>hu.mv (a':=a) (b':=b) (R:=[]) (fun i hi=>by have:=eu i hi; omega)
 simp only[List.append_assoc,List.append_nil]at mc mj mp mk md mh mu;refine⟨_,rfl,?_⟩;refine hK rc rj rp rk rd rh ru _ (H.length+2) (H.length+2+X1.length) (H.length+2+X1.length+X2.length) (H.length+2+X1.length+X2.length+X3.length) (H.length+2+X1.length+X2.length+X3.length+X4.length) (H.length+2+X1.length+X2.length+X3.length+X4.length+X5.length) (H.length+2+X1.length+X2.length+X3.length+X4.length+X5.length+X6.length) (mc _ _) (mj _ _) (mp _ _) (mk _ _) (md _ _) (mh _ _) (mu _ _) (by omega) ?_ ?_ ?_ ?_ ?_ ?_ ?_ ?_
 ·intro i hi
  have:=ec i hi;omega
 ·intro i hi
  have:=ej i hi;omega
 ·intro i hi
  have:=ep i hi;omega
 ·intro i hi
  have:=ek i hi;omega
 ·intro i hi
  have:=ed i hi;omega
 ·intro i hi
  have:=eh i hi;omega
 ·intro i hi
  have:=eu i hi;simp only[List.length_append,List.length_cons];omega
 ·simp only[List.length_append,List.length_cons];omega
structure Slt where
 fr:Int
 till:Int
 own:Int
 deriving DecidableEq,Inhabited
def Slt.may(s:Slt):Prop:=0<=s.fr/\s.fr < s.till/\s.till<=1099511627776/\1<=s.own/\s.own<=1099511627776
instance (s:Slt):Decidable s.may:=by unfold Slt.may; infer_instance
def calO:Int->List Slt->Prop
 | _,[]=>True
 | b,s::l=>s.may/\b<=s.fr/\calO s.till l
def afterN(a:Int):List Slt->Nat
 | []=>0
 | s::l=>if s.till<=a then afterN a l+1 else 0
theorem calO_fr{b:Int}:∀ {l:List Slt},calO b l->∀ s∈l,b<=s.fr/\s.may
 | [],_,s,hs=>by cases hs
 | x::l,⟨h1,h2,h3⟩,s,hs=>by
  rcases List.mem_cons.1 hs with rfl | hs
  ·exact⟨h2,h1⟩
  ·have:=calO_fr h3 s hs;unfold Slt.may at h1;exact⟨by omega,this.2⟩
theorem after_le(a:Int):∀ l:List Slt,afterN a l<=l.length
 | []=>Nat.le_refl _
 | s::l=>by
  unfold afterN
  split
  ·have:=after_le a l; simp only[List.length_cons]; omega
  ·simp
theorem after_lt{a:Int}:∀ {l:List Slt} {i:Nat},i < afterN a l->(l.getD i default).till<=a
 | [],i,h=>by simp[afterN]at h
 | s::l,i,h=>by
  unfold afterN at h
  split at h
  ·rename_i hs;cases i with
   | zero=>simpa using hs
   | succ i=>simpa using after_lt (l:=l) (i:=i) (by omega)
  ·omega
theorem after_ge{a b:Int}:∀ {l:List Slt} {i:Nat},calO b l->afterN a l<=i->i < l.length->a < (l.getD i default).till
 | [],i,_,_,h=>by simp at h
 | s::l,i,⟨h1,h2,h3⟩,h,hi=>by
  unfold afterN at h
  split at h
  ·cases i with
   | zero=>omega
   | succ i=>simpa using after_ge (l:=l) (i:=i) h3 (by omega) (by simpa using hi)
  ·rename_i hs;cases i with
   | zero=>simpa using hs
   | succ i =>
    have hi':i < l.length:=by simpa using hi
    have:=calO_fr h3 (l.getD i default) (by simp[List.getD,hi']);unfold Slt.may at this;simp only[List.getD_cons_succ];omega
def zFm(fr till:Int)(l:List Slt):Bool:=decide (afterN fr l=l.length)||decide (till<=(l.getD (afterN fr l) default).fr)
def Slt.hits(s:Slt)(fr till:Int):Prop:=s.fr < till/\fr < s.till
instance (s:Slt) (fr till:Int):Decidable (s.hits fr till):=by unfold Slt.hits; infer_instance
theorem freeC_cons(s:Slt)(l:List Slt)(fr till:Int):zFm fr till (s::l)=if s.till<=fr then zFm fr till l else decide (till<=s.fr):=by
 unfold zFm
 by_cases h:s.till<=fr
 ·simp[afterN,h]
 ·simp[afterN,h]
theorem free_iff{fr till:Int}(hft:fr < till):∀ {l:List Slt} {b:Int},calO b l->(zFm fr till l=true ↔ ∀ s∈l,¬s.hits fr till)
 | [],_,_=>by simp[zFm,afterN]
 | s::l,b,⟨h1,h2,h3⟩=>by
  rw[freeC_cons]
  split
  ·rename_i hs;rw[free_iff hft h3];simp only[List.mem_cons,forall_eq_or_imp,Slt.hits];exact⟨fun h=>⟨by omega,h⟩,fun h=>h.2⟩
  ·rename_i hs;simp only[decide_eq_true_eq,List.mem_cons,forall_eq_or_imp];unfold Slt.may at h1
   constructor
   ·intro h
    refine⟨by unfold Slt.hits; omega,fun x hx=>?_⟩;have:=(calO_fr h3 x hx).1;unfold Slt.hits;omega
   ·intro h
    have:=h.1;unfold Slt.hits at this;omega
def insC(x:Slt):List Slt->List Slt
 | []=>[x]
 | s::l=>if s.till<=x.fr then s::insC x l else x::s::l
theorem ins_eq(x:Slt):∀ l:List Slt,insC x l=l.take (afterN x.fr l)++x::l.drop (afterN x.fr l)
 | []=>rfl
 | s::l=>by
  unfold insC afterN
  split
  ·rw[ins_eq x l]; rfl
  ·rfl
theorem ins_mem{x y:Slt}:∀ {l:List Slt},y∈insC x l ↔ y=x\/y∈l
 | []=>by simp[insC]
 | s::l=>by
  unfold insC
  split
  ·simp only[List.mem_cons,ins_mem (l:=l)]
   constructor
   ·rintro(h | h | h) <;> simp[h]
   ·rintro(h | h | h) <;> simp[h]
  ·simp
theorem ins_len(x:Slt):∀ l:List Slt,(insC x l).length=l.length+1
 | []=>rfl
 | s::l=>by
  unfold insC
  split
  ·simp[ins_len x l]
  ·simp
theorem ins_ne(x:Slt)(l:List Slt):insC x l≠[]:=fun h=>by
 have:=ins_len x l;rw[h]at this;simp at this
theorem ins_cal{x:Slt}(hx:x.may):∀ {l:List Slt} {b:Int},calO b l->b<=x.fr->zFm x.fr x.till l=true->calO b (insC x l)
 | [],_,_,hb,_=>⟨hx,hb,trivial⟩
 | s::l,b,⟨h1,h2,h3⟩,hb,hf=>by
  rw[freeC_cons]at hf;unfold insC
  split
  ·rename_i hs;rw[if_pos hs]at hf;exact⟨h1,h2,ins_cal hx h3 hs hf⟩
  ·rename_i hs;rw[if_neg hs,decide_eq_true_eq]at hf;exact⟨hx,hb,h1,hf,h3⟩
structure Sl4 where
 own:Int
 pl:Plc
 fr:Int
 till:Int
instance:Inhabited Sl4:=⟨⟨0,default,0,0⟩⟩
abbrev SV4(o:Int)(x:Plc)(f t:Int):AV:=.agg [I o,I x.x,I x.y,I x.z,I x.p,I x.q,I x.r,B x.s,B x.t,B x.u,I f,I t]
def Sl4.av(x:Sl4):AV:=SV4 x.own x.pl x.fr x.till
def Sl4.slt(x:Sl4):Slt:=⟨x.fr,x.till,x.own⟩
def Sta.slots(s:Sta):List Sl4:=s.parts.map (fun p=>⟨p.job,p.pl,s.now,s.ends p⟩)++s.keeps.map (fun k=>⟨k.id,k.bx.pl,max k.fr s.now,k.till⟩)
theorem apart_iff{a b c:Int}{X Y:Plc}:zEu a b c X Y=true ↔ (∀ k∈zAo a b c X.x X.y X.z X.p X.q X.r,¬k∈zAo a b c Y.x Y.y Y.z Y.p Y.q Y.r)/\(∀ k∈zBh a b c X.x X.y X.z X.p X.q X.r X.s X.t X.u,¬k∈zBh a b c Y.x Y.y Y.z Y.p Y.q Y.r Y.s Y.t Y.u):=by
 unfold zEu;simp only[zA,List.all_eq_true,Bool.not_eq_true',decide_eq_false_iff_not]
theorem apart_symm{a b c:Int}{X Y:Plc}(h:zEu a b c X Y=true):zEu a b c Y X=true:=by
 rw[apart_iff]at h ⊢;exact⟨fun k h1 h2=>h.1 k h2 h1,fun k h1 h2=>h.2 k h2 h1⟩
def Sl4.off(a b c:Int)(x y:Sl4):Prop:=zEu a b c x.pl y.pl=true\/¬x.slt.hits y.fr y.till
theorem part_may{s:Sta}(f:s.fine){p:Prt}(hp:p∈s.parts):(0<=s.now/\s.now < s.ends p/\s.ends p<=1099511627776/\1<=p.job/\p.job<=2147483647)/\p.pl.ok s.c.a s.c.b s.c.c:=by
 have hpp:=zFd f.pa p hp;obtain⟨h1,h2,h3,h4,h5,h6⟩:=part_facts hpp;have hc:=f.cf;unfold Sta.config at hc;simp only[zA,decide_eq_true_eq]at hc;unfold Sta.part at hpp;simp only[zA,decide_eq_true_eq,Bool.not_eq_true',decide_eq_false_iff_not]at hpp;obtain⟨⟨_,hq⟩,_⟩:=Cfg.sp_facts h2;unfold Cfg.part at hq;simp only[zA,witV_t]at hq;exact⟨⟨by omega,h4,by omega,by omega,by omega⟩,h5⟩
theorem keep_id{s:Sta}(f:s.fine):∀(i:Nat),i < s.keeps.length->1<=(s.keeps.getD i default).id
 | 0,hi=>by
  have h:=keeps_ok f.kp hi;unfold Sta.okK Sta.last at h;simp only[zA,decide_eq_true_eq,Bool.not_eq_true',decide_eq_false_iff_not,if_true]at h;omega
 | i+1,hi=>by
  have h:=keeps_ok f.kp hi;have ih:=keep_id f i (by omega);unfold Sta.okK Sta.last at h;rw[if_neg (by omega),Nat.add_sub_cancel]at h;simp only[zA,decide_eq_true_eq,Bool.not_eq_true',decide_eq_false_iff_not]at h;omega
theorem keep_may{s:Sta}(f:s.fine){i:Nat}(hi:i < s.keeps.length):(0<=(s.keeps.getD i default).fr/\(s.keeps.getD i default).fr < (s.keeps.getD i default).till/\(s.keeps.getD i default).till<=1099511627776/\s.now < (s.keeps.getD i default).till/\1<=(s.keeps.getD i default).id/\(s.keeps.getD i default).id<=2147483647)/\(s.keeps.getD i default).bx.pl.ok s.c.a s.c.b s.c.c:=by
 have h:=keeps_ok f.kp hi;have h1:=keep_id f i hi;have h2:=(keeps_apart f.kp hi).1;have hc:=f.cf;unfold Sta.config at hc;simp only[zA,decide_eq_true_eq]at hc;unfold Sta.okK at h;simp only[zA,decide_eq_true_eq,Bool.not_eq_true',decide_eq_false_iff_not]at h;exact⟨⟨by omega,by omega,by omega,by omega,h1,by omega⟩,h2⟩
theorem slot_may{s:Sta}(f:s.fine):∀ x∈s.slots,x.slt.may/\x.pl.ok s.c.a s.c.b s.c.c:=fun x hx=>by
 unfold Sta.slots at hx
 rcases List.mem_append.1 hx with hx | hx
 ·obtain⟨p,hp,rfl⟩:=List.mem_map.1 hx;obtain⟨h,hok⟩:=part_may f hp;refine⟨?_,hok⟩;unfold Slt.may Sl4.slt;simp only;omega
 ·obtain⟨k,hk,rfl⟩:=List.mem_map.1 hx;obtain⟨i,hi,rfl⟩:=List.getElem_of_mem hk;have hm:=keep_may f hi;rw[show s.keeps.getD i default=s.keeps[i] by simp[List.getD,hi]]at hm;obtain⟨h,hok⟩:=hm;refine⟨?_,hok⟩;unfold Slt.may Sl4.slt;simp only;omega
theorem slots_off{s:Sta}(f:s.fine):s.slots.Pairwise (Sl4.off s.c.a s.c.b s.c.c):=by
 unfold Sta.slots;rw[List.pairwise_append];refine⟨?_,?_,?_⟩
 ·rw[List.pairwise_iff_getElem]
  intro i j hi hj hij
  simp only[zM]at hi hj;have h:=parts_apart f.pa hij hj;rw[show s.parts.getD i default=s.parts[i] by simp[List.getD,hi],show s.parts.getD j default=s.parts[j] by simp[List.getD,hj]]at h;simp only[List.getElem_map];exact .inl (apart_symm h)
 ·rw[List.pairwise_iff_getElem]
  intro i j hi hj hij
  simp only[zM]at hi hj;simp only[List.getElem_map];have h:=keeps_ok f.kp hj;have m1:=keep_may f hi;have m2:=keep_may f hj;rw[show s.keeps.getD j default=s.keeps[j] by simp[List.getD,hj]]at h m2;rw[show s.keeps.getD i default=s.keeps[i] by simp[List.getD,hi]]at m1;unfold Sta.okK at h;simp only[zA,decide_eq_true_eq,Bool.not_eq_true']at h;have h9:=h.2;unfold Sta.taken at h9;rw[Bool.or_eq_false_iff]at h9;have h3:=zFl h9.1 i (by rw[List.length_take]; omega);have ht:(s.keeps.take j).getD i default=s.keeps[i]:=by simp[List.getD,List.getElem?_take,hij,hi]
  rw[ht]at h3;unfold tk1 at h3
  by_cases hh:s.keeps[i].fr < s.keeps[j].till/\s.keeps[j].fr < s.keeps[i].till
  ·rw[zT hh.1,zT hh.2,Bool.true_and,Bool.true_and]at h3;exact .inl (meet_no m1.2 m2.2 h3)
  ·refine .inr fun hx=>hh ?_
   unfold Slt.hits Sl4.slt at hx;simp only at hx;omega
 ·intro x hx y hy
  obtain⟨p,hp,rfl⟩:=List.mem_map.1 hx;obtain⟨k,hk,rfl⟩:=List.mem_map.1 hy;obtain⟨i,hi,rfl⟩:=List.getElem_of_mem hk;obtain⟨hm,hok⟩:=part_may f hp;have h:=(keeps_apart f.kp hi).2 p hp hok;rw[show s.keeps.getD i default=s.keeps[i] by simp[List.getD,hi]]at h
  rcases h with h | h
  ·exact .inl h
  ·refine .inr fun hx=>?_
   unfold Slt.hits Sl4.slt at hx;simp only at hx;omega
def pushC(b:Bool)(x:Slt)(c:List Slt):List Slt:=if b=true then insC x c else c
def calF(inn:Sl4->Nat->Bool)(xs:List Sl4)(i:Nat):List Slt:=xs.foldl (fun c x=>pushC (inn x i) x.slt c) []
theorem calF_snoc(inn:Sl4->Nat->Bool)(xs:List Sl4)(x:Sl4)(i:Nat):calF inn (xs++[x]) i=pushC (inn x i) x.slt (calF inn xs i):=by simp[calF]
theorem calF_mem0{inn:Sl4->Nat->Bool}{i:Nat}{y:Slt}:∀ {xs:List Sl4} {c:List Slt},y∈xs.foldl (fun c x=>pushC (inn x i) x.slt c) c ↔ y∈c\/∃ x∈xs,inn x i=true/\x.slt=y
 | [],c=>by simp
 | x::xs,c=>by
  rw[List.foldl_cons,calF_mem0 (xs:=xs)];unfold pushC
  by_cases hb:inn x i=true
  ·rw[if_pos hb,ins_mem]
   constructor
   ·rintro((h | h) | ⟨z,h1,h2⟩)
    ·exact .inr ⟨x,by simp,hb,h.symm⟩
    ·exact .inl h
    ·exact .inr ⟨z,List.mem_cons_of_mem _ h1,h2⟩
   ·rintro(h | ⟨z,h1,h2,h3⟩)
    ·exact .inl (.inr h)
    ·rcases List.mem_cons.1 h1 with rfl | h1
     ·exact .inl (.inl h3.symm)
     ·exact .inr ⟨z,h1,h2,h3⟩
  ·rw[if_neg hb]
   constructor
   ·rintro(h | ⟨z,h1,h2⟩)
    ·exact .inl h
    ·exact .inr ⟨z,List.mem_cons_of_mem _ h1,h2⟩
   ·rintro(h | ⟨z,h1,h2,h3⟩)
    ·exact .inl h
    ·rcases List.mem_cons.1 h1 with rfl | h1
     ·exact absurd h2 hb
     ·exact .inr ⟨z,h1,h2,h3⟩
theorem calF_mem{inn:Sl4->Nat->Bool}{xs:List Sl4}{i:Nat}{y:Slt}:y∈calF inn xs i ↔ ∃ x∈xs,inn x i=true/\x.slt=y:=by
 unfold calF;rw[calF_mem0];simp
theorem calF_len0{inn:Sl4->Nat->Bool}{i:Nat}:∀(xs:List Sl4) (c:List Slt),(xs.foldl (fun c x=>pushC (inn x i) x.slt c) c).length<=c.length+xs.length
 | [],c=>by simp
 | x::xs,c=>by
  rw[List.foldl_cons];have:=calF_len0 (inn:=inn) (i:=i) xs (pushC (inn x i) x.slt c);have h2:(pushC (inn x i) x.slt c).length<=c.length+1:=by
   unfold pushC
   split
   ·rw[ins_len]; omega
   ·omega
  simp only[List.length_cons];omega
theorem calF_len(inn:Sl4->Nat->Bool)(xs:List Sl4)(i:Nat):(calF inn xs i).length<=xs.length:=by
 have:=calF_len0 (inn:=inn) (i:=i) xs [];rw[List.length_nil,Nat.zero_add]at this;exact this
def Apt(inn:Sl4->Nat->Bool)(i:Nat)(x y:Sl4):Prop:=inn x i=true->inn y i=true->¬x.slt.hits y.fr y.till
theorem calF_free{inn:Sl4->Nat->Bool}{i:Nat}{xs:List Sl4}{x:Sl4}(hc:calO 0 (calF inn xs i))(hx:x.slt.may)(hb:inn x i=true)(ha:∀ y∈xs,Apt inn i y x):zFm x.fr x.till (calF inn xs i)=true:=by
 unfold Slt.may Sl4.slt at hx;simp only at hx;rw[free_iff (by omega) hc]
 intro z hz
 obtain⟨y,h1,h2,rfl⟩:=calF_mem.1 hz;exact ha y h1 h2 hb
theorem calF_cal0{inn:Sl4->Nat->Bool}{i:Nat}:∀(xs ys:List Sl4),(∀ x∈xs++ys,x.slt.may)->(xs++ys).Pairwise (Apt inn i)->calO 0 (calF inn xs i)->calO 0 (calF inn (xs++ys) i)
 | xs,[],_,_,h=>by simpa using h
 | xs,y::ys,hm,hp,h=>by
  have e:xs++y::ys=(xs++[y])++ys:=by simp
  rw[e]at hm hp ⊢;refine calF_cal0 (xs++[y]) ys hm hp ?_;rw[calF_snoc];unfold pushC
  split
  ·rename_i hb;have hy:=hm y (by simp);refine ins_cal hy h ?_ ?_
   ·exact hy.1
   ·refine calF_free h hy hb fun z hz=>?_
    rw[List.pairwise_append]at hp;have:=(List.pairwise_append.1 hp.1).2.2 z hz y (by simp);exact this
  ·exact h
theorem calF_cal{inn:Sl4->Nat->Bool}{i:Nat}{xs:List Sl4}(hm:∀ x∈xs,x.slt.may)(hp:xs.Pairwise (Apt inn i)):calO 0 (calF inn xs i):=by
 have:=calF_cal0 (inn:=inn) (i:=i) [] xs (by simpa using hm) (by simpa using hp) trivial;simpa using this
def inN(a b c:Int)(x:Sl4)(i:Nat):Bool:=decide ((i:Int)∈zAo a b c x.pl.x x.pl.y x.pl.z x.pl.p x.pl.q x.pl.r)
def inL(a b c:Int)(x:Sl4)(i:Nat):Bool:=decide ((i:Int)∈zBh a b c x.pl.x x.pl.y x.pl.z x.pl.p x.pl.q x.pl.r x.pl.s x.pl.t x.pl.u)
theorem off_N{a b c:Int}{x y:Sl4}(h:x.off a b c y)(i:Nat):Apt (inN a b c) i x y:=fun h1 h2=>by
 rcases h with h | h
 ·exact absurd (of_decide_eq_true h2) ((apart_iff.1 h).1 _ (of_decide_eq_true h1))
 ·exact h
theorem off_L{a b c:Int}{x y:Sl4}(h:x.off a b c y)(i:Nat):Apt (inL a b c) i x y:=fun h1 h2=>by
 rcases h with h | h
 ·exact absurd (of_decide_eq_true h2) ((apart_iff.1 h).2 _ (of_decide_eq_true h1))
 ·exact h
end Go.Ab.Pd
