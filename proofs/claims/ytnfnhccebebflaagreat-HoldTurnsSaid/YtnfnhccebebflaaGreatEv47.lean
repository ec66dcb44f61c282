/- One of the texts that this claim stands on. -/
import Derived.Test.YtnfnhccebebflaaGreatEv45
import Derived.Test.YtnfnhccebebflaaGreatEv40
import Derived.Test.YtnfnhccebebflaaGreatEv42
import Derived.Test.YtnfnhccebebflaaGreatEv44
set_option maxHeartbeats 40000000
set_option maxRecDepth 400000
set_option linter.all false
namespace Go.Ab.Pd
open Go.Proofs
open Go.Proofs.Tryz renaming prog->zP
theorem twinJ2_ac{l:List Jb}{s:AV}(hs:JobsS s l)(hl:l.length<=2^16)(ha:∀ j∈l,j.after.length<=2^16){H:List AO}{K:AV->List AO->Prop}(hK:∀ r X,LiveS 16 (H++X) s r (l.map Jb.av)->(∀ i,zAl r=some i->H.length<=i)->K r (H++X)) :
  AC zP GG 69 [s] H K:=by
 obtain⟨n1,n2,n3⟩:=hs.1.cell;refine goE e69 TOk.nil 0 ?_;simp only[push_cast,seval,↓kw2,n1,n2,n3];refine cloneJ_ac hs.1 hl ?_
 intro r X hr hq0
 generalize hes:l.map Jb.av=es at hr hK
 cases hr with
 | nil =>
  refine goW TOk.nil [] 1 ?_;simp only[push_cast,seval,↓kw2];exact⟨_,rfl,by simpa using hK _ X .nil (fun i h=>by cases h)⟩
 | zs =>
  refine goW TOk.nil [] 1 ?_;simp only[push_cast,seval,↓kw2];exact⟨_,rfl,by simpa using hK _ X .zs (fun i h=>by cases h)⟩
 | row hid h0 =>
  rename_i id;have hel:es.length=l.length:=by rw[<- hes,zM]
  refine goN ?_;simp only[push_cast,seval,↓kw2];refine FW.loopInv (fun m ts H'=>∃ i:Nat,i+m=es.length/\H'=H++X/\ts 0=.sl id 0 es.length es.length/\ts 7=I (es.length:Int)/\ts 8=I (i:Int)) es.length ⟨0,by omega,rfl,rfl,rfl,rfl⟩ ?_
  rintro m ih ts H' ⟨i,hi,rfl,t0,t7,t8⟩
  refine FW.inLoop ?_
  by_cases hlt:i < es.length
  ·have hd1:decide ((i:Int) < (es.length:Int))=true:=by simp[hlt]
   have hgy:es.getD i .un=(l.getD i default).av:=by rw[<- hes]; exact zAe Jb.av l default (by omega)
   have hg:=hs.get i;have hal:(l.getD i default).after.length<=2^16:=ha _ (by
    rw[show l.getD i default=l[i]'(by omega) by simp[List.getD,show i < l.length by omega]];exact List.getElem_mem _)
   generalize l.getD i default=j at hgy hg hal
   have hcx:=Jb.cells j;obtain⟨m1,m2,m3⟩:=IsSl.cell hg;have hi1:=zAh (n:=(i:Int)+1) (by omega) (by omega);have hset:=set_getD (d:=.un) hlt hgy;have hset2:=set_id hid;simp only[Jb.av]at hgy hcx hset;refine goN ?_;simp only[push_cast,seval,↓kw2,t0,t7,t8,hd1,hid,hgy,hcx,m1,m2,m3,Int.toNat_natCast,hlt];refine⟨⟨by omega,by omega⟩,AC.pur (cloneI_pur hg hal (zAc IA _ (fun _=>rfl))) ?_⟩;refine goN ?_;simp only[push_cast,seval,↓kw2,t0,t7,t8,hd1,hid,hgy,hcx,m1,m2,m3,Int.toNat_natCast,hlt,hset,hset2,hi1];exact⟨⟨by omega,by omega⟩,ih (m - 1) (by omega) _ _ ⟨i+1,by omega,rfl,t0,t7,rfl⟩⟩
  ·have hd1:decide ((i:Int) < (es.length:Int))=false:=by simp; omega
   refine goN ?_;simp only[push_cast,seval,↓kw2,t0,t7,t8,hd1];exact⟨_,rfl,hK _ _ (.row hid h0) hq0⟩
theorem entTA:Ent zP 22 Tryz.f22 [1,2,3] 1:=.mk e22.hf rfl
def impT1:Nat->Bool:=fun i=>i==3||i==6
def ordT1:List (Nat × Bool):=[(0,true),(1,true),(2,true),(4,true),(5,true),(3,false),(7,true),(8,true),(6,false),(9,false),(10,true),(11,false)]
def impT2:Nat->Bool:=fun i=>i==2||i==5
def ordT2:List (Nat × Bool):=[(0,true),(1,true),(3,true),(4,true),(2,false),(6,true),(5,false),(7,false),(8,true),(9,false)]
def impT3:Nat->Bool:=fun i=>i==2||(i==5||i==8)
def ordT3:List (Nat × Bool):=[(0,true),(1,true),(3,true),(4,true),(6,true),(7,true),(2,false),(9,true),(5,false),(8,false),(10,false),(11,true),(12,false),(13,true),(14,false)]
theorem LiveS.mv{k:Nat}{H X R:List AO}{a b a' b':AO}{s r:AV}{l:List AV}(h:LiveS k (H++a::b::X) s r l)(lo:∀ i,zAl r=some i->H.length+2<=i):LiveS k (H++a'::b'::(X++R)) s r l:=h.keep fun i hi=>by
 have q1:=lo i hi;have q2:=h.lt i hi;simp only[List.length_append,List.length_cons]at q2;obtain⟨j,rfl⟩:∃ j,i=H.length+(j+2):=⟨i - H.length - 2,by omega⟩;rw[getA,getA,List.getElem?_cons_succ,List.getElem?_cons_succ,List.getElem?_cons_succ,List.getElem?_cons_succ,zL (by omega)]
def Rng(r:AV)(a b:Nat):Prop:=∀ i,zAl r=some i->a<=i/\i < b
theorem twinA_ac{s:Sta}(h:s.good)(hl:s.lim2){H:List AO}{K:AV->List AO->Prop}
  (hK:∀ rc rj rp rk rd rh ru X n1 n2 n3 n4 n5 n6 n7,LiveS 4 (H++X) s.cs rc (s.c.cls.map Cls.av)->LiveS 16 (H++X) s.js rj (s.jobs.map Jb.av)->LiveS 13 (H++X) s.ps rp (s.parts.map Prt.av)->LiveS 9 (H++X) s.ks rk (s.keeps.map Kep.av)->LiveS 1 (H++X) s.ds rd (s.down.map IA)->LiveS 1 (H++X) s.hs rh (s.shut.map IA)->LiveS 1 (H++X) s.us ru (s.cut.map IA) ->
   H.length<=n1->Rng rc n1 n2->Rng rj n2 n3->Rng rp n3 n4->Rng rk n4 n5->Rng rd n5 n6->Rng rh n6 n7->Rng ru n7 (H++X).length->n1<=n2/\n2<=n3/\n3<=n4/\n4<=n5/\n5<=n6/\n6<=n7/\n7<=(H++X).length->K (ST s.c.a s.c.b s.c.c s.c.boot s.c.free s.c.tries s.c.age rc s.now s.next rj rp rk rd rh ru) (H++X)) :
  AC zP GG 22 [s.av] H K:=by
 have hZ:=h.cell;obtain⟨⟨⟨a1,a2,a3⟩,b1,b2,b3⟩,⟨⟨c1,c2,c3⟩,d1,d2,d3⟩,⟨e1,e2,e3⟩,⟨f1,f2,f3⟩,g1,g2,g3⟩:=h.cell;obtain⟨p1,p2,p3,p4,p5,p6,p7⟩:=h.purs;obtain⟨l1,l2,l3,l4,l5,l6,l7,l8⟩:=hl;show AC zP GG 22 [ST s.c.a s.c.b s.c.c s.c.boot s.c.free s.c.tries s.c.age s.cs s.now s.next s.js s.ps s.ks s.ds s.hs s.us] H K;refine goE entTA TOk.nil 0 ?_;simp only[push_cast,seval,↓kw2,hZ,zAf,getA,zAg,setA,zAb,List.contains_cons,Bool.true_or,Bool.or_true,Bool.false_or,Bool.or_false,Bool.or_self];refine FW.walkG hmix (imp:=impT1) (l:=ordT1) (by kernel_rfl) (by kernel_rfl) ?_;simp only[ordT1];simp only[push_cast,seval,↓kw2,zCx,zCw,zBj,↓zBi,impT1,impT2,impT3,Nat.add_assoc,zBu,zEk,wat,clOf,hZ,zAf,getA,zAg,setA,zAb,List.contains_cons,Bool.true_or,Bool.or_true,Bool.false_or,Bool.or_false,Bool.or_self];refine cloneC_ac h.cs (by omega) ?_
 intro rc X1 hc hc0
 obtain⟨u1,u2,u3⟩:=hc.cell;simp only[push_cast,seval,↓kw2,zCx,zCw,zBj,↓zBi,impT1,impT2,impT3,Nat.add_assoc,zBu,zEk,wat,clOf,hZ,zAf,getA,zAg,setA,zAb,List.contains_cons,Bool.true_or,Bool.or_true,Bool.false_or,Bool.or_false,Bool.or_self,u1,u2,u3];refine twinJ2_ac h.js (by omega) (fun j hj=>by have:=l8 j hj; omega) ?_
 intro rj X2 hj hj0
 obtain⟨v1,v2,v3⟩:=hj.cell;simp only[push_cast,seval,↓kw2,zCx,zCw,zBj,↓zBi,impT1,impT2,impT3,Nat.add_assoc,zBu,zEk,wat,clOf,hZ,zAf,getA,zAg,setA,zAb,List.contains_cons,Bool.true_or,Bool.or_true,Bool.false_or,Bool.or_false,Bool.or_self,u1,u2,u3,v1,v2,v3];refine goW TOk.nil [1,2,3] 0 ?_;simp only[push_cast,seval,↓kw2,zCx,zCw,zBj,↓zBi,impT1,impT2,impT3,Nat.add_assoc,zBu,zEk,wat,clOf,hZ,zAf,getA,zAg,setA,zAb,List.contains_cons,Bool.true_or,Bool.or_true,Bool.false_or,Bool.or_false,Bool.or_self,u1,u2,u3,v1,v2,v3];refine FW.walkG hmix (imp:=impT2) (l:=ordT2) (by kernel_rfl) (by kernel_rfl) ?_;simp only[ordT2];simp only[push_cast,seval,↓kw2,zCx,zCw,zBj,↓zBi,impT1,impT2,impT3,Nat.add_assoc,zBu,zEk,wat,clOf,hZ,zAf,getA,zAg,setA,zAb,List.contains_cons,Bool.true_or,Bool.or_true,Bool.false_or,Bool.or_false,Bool.or_self,u1,u2,u3,v1,v2,v3];refine cloneP_ac h.ps (by omega) ?_
 intro rp X3 hp hp0
 obtain⟨o1,o2,o3⟩:=hp.cell;simp only[push_cast,seval,↓kw2,zCx,zCw,zBj,↓zBi,impT1,impT2,impT3,Nat.add_assoc,zBu,zEk,wat,clOf,hZ,zAf,getA,zAg,setA,zAb,List.contains_cons,Bool.true_or,Bool.or_true,Bool.false_or,Bool.or_false,Bool.or_self,u1,u2,u3,v1,v2,v3,o1,o2,o3];refine cloneK_ac h.ks (by omega) ?_
 intro rk X4 hk hk0
 obtain⟨r1,r2,r3⟩:=hk.cell;simp only[push_cast,seval,↓kw2,zCx,zCw,zBj,↓zBi,impT1,impT2,impT3,Nat.add_assoc,zBu,zEk,wat,clOf,hZ,zAf,getA,zAg,setA,zAb,List.contains_cons,Bool.true_or,Bool.or_true,Bool.false_or,Bool.or_false,Bool.or_self,u1,u2,u3,v1,v2,v3,o1,o2,o3,r1,r2,r3];refine goW TOk.nil [1,2,3] 0 ?_;simp only[push_cast,seval,↓kw2,zCx,zCw,zBj,↓zBi,impT1,impT2,impT3,Nat.add_assoc,zBu,zEk,wat,clOf,hZ,zAf,getA,zAg,setA,zAb,List.contains_cons,Bool.true_or,Bool.or_true,Bool.false_or,Bool.or_false,Bool.or_self,u1,u2,u3,v1,v2,v3,o1,o2,o3,r1,r2,r3];refine FW.walkG hmix (imp:=impT3) (l:=ordT3) (by kernel_rfl) (by kernel_rfl) ?_;simp only[ordT3];simp only[push_cast,seval,↓kw2,zCx,zCw,zBj,↓zBi,impT1,impT2,impT3,Nat.add_assoc,zBu,zEk,wat,clOf,hZ,zAf,getA,zAg,setA,zAb,List.contains_cons,Bool.true_or,Bool.or_true,Bool.false_or,Bool.or_false,Bool.or_self,u1,u2,u3,v1,v2,v3,o1,o2,o3,r1,r2,r3];refine cloneI_ac h.ds (by omega) ?_
 intro rd X5 hd hd0
 obtain⟨x1,x2,x3⟩:=hd.cell;simp only[push_cast,seval,↓kw2,zCx,zCw,zBj,↓zBi,impT1,impT2,impT3,Nat.add_assoc,zBu,zEk,wat,clOf,hZ,zAf,getA,zAg,setA,zAb,List.contains_cons,Bool.true_or,Bool.or_true,Bool.false_or,Bool.or_false,Bool.or_self,u1,u2,u3,v1,v2,v3,o1,o2,o3,r1,r2,r3,x1,x2,x3];refine cloneI_ac h.hs (by omega) ?_
 intro rh X6 hh hh0
 obtain⟨y1,y2,y3⟩:=hh.cell;simp only[push_cast,seval,↓kw2,zCx,zCw,zBj,↓zBi,impT1,impT2,impT3,Nat.add_assoc,zBu,zEk,wat,clOf,hZ,zAf,getA,zAg,setA,zAb,List.contains_cons,Bool.true_or,Bool.or_true,Bool.false_or,Bool.or_false,Bool.or_self,u1,u2,u3,v1,v2,v3,o1,o2,o3,r1,r2,r3,x1,x2,x3,y1,y2,y3];refine cloneI_ac h.us (by omega) ?_
 intro ru X7 hu hu0
 obtain⟨z1,z2,z3⟩:=hu.cell;simp only[push_cast,seval,↓kw2,zCx,zCw,zBj,↓zBi,impT1,impT2,impT3,Nat.add_assoc,zBu,zEk,wat,clOf,hZ,zAf,getA,zAg,setA,zAb,List.contains_cons,Bool.true_or,Bool.or_true,Bool.false_or,Bool.or_false,Bool.or_self,u1,u2,u3,v1,v2,v3,o1,o2,o3,r1,r2,r3,x1,x2,x3,y1,y2,y3,z1,z2,z3];refine goW TOk.nil [1,2,3] 0 ?_;simp only[push_cast,seval,↓kw2,zCx,zCw,zBj,↓zBi,impT1,impT2,impT3,Nat.add_assoc,zBu,zEk,wat,clOf,hZ,zAf,getA,zAg,setA,zAb,List.contains_cons,Bool.true_or,Bool.or_true,Bool.false_or,Bool.or_false,Bool.or_self,u1,u2,u3,v1,v2,v3,o1,o2,o3,r1,r2,r3,x1,x2,x3,y1,y2,y3,z1,z2,z3];simp only[List.append_assoc,List.cons_append,List.nil_append]at hc hj hp hk hd hh hu;simp only[List.length_append,List.length_cons,List.length_nil]at hc0 hj0 hp0 hk0 hd0 hh0 hu0;have tc:=hc.lt;have tj:=hj.lt;have tp:=hp.lt;have tk:=hk.lt;have td:=hd.lt;have th:=hh.lt;have tu:=hu.lt;simp only[List.length_append,List.length_cons]at tc tj tp tk td th tu;have ec:=fun i hi=>And.intro (hc0 i hi) (tc i hi)
 have ej:=fun i hi=>And.intro (hj0 i hi) (tj i hi)
 have ep:=fun i hi=>And.intro (hp0 i hi) (tp i hi)
 have ek:=fun i hi=>And.intro (hk0 i hi) (tk i hi)
 have ed:=fun i hi=>And.intro (hd0 i hi) (td i hi)
 have eh:=fun i hi=>And.intro (hh0 i hi) (th i hi)
 have eu:=fun i hi=>And.intro (hu0 i hi) (tu i hi)
 have mc:=fun a b=>hc.mv (a':=a) (b':=b) (R:=(X2++(X3++(X4++(X5++(X6++X7)))))) (fun i hi=>by have:=ec i hi; omega)
 have mj:=fun a b=>hj.mv (a':=a) (b':=b) (R:=(X3++(X4++(X5++(X6++X7))))) (fun i hi=>by have:=ej i hi; omega)
 have mp:=fun a b=>hp.mv (a':=a) (b':=b) (R:=(X4++(X5++(X6++X7)))) (fun i hi=>by have:=ep i hi; omega)
 have mk:=fun a b=>hk.mv (a':=a) (b':=b) (R:=(X5++(X6++X7))) (fun i hi=>by have:=ek i hi; omega)
 have md:=fun a b=>hd.mv (a':=a) (b':=b) (R:=(X6++X7)) (fun i hi=>by have:=ed i hi; omega)
 have mh:=fun a b=>hh.mv (a':=a) (b':=b) (R:=X7) (fun i hi=>by have:=eh i hi; omega)
 have mu:=fun a b=>hu.mv (a':=a) (b':=b) (R:=[]) (fun i hi=>by have:=eu i hi; omega)
 simp only[List.append_assoc,List.append_nil]at mc mj mp mk md mh mu;refine⟨_,rfl,?_⟩;refine hK rc rj rp rk rd rh ru _ (H.length+2) (H.length+2+X1.length) (H.length+2+X1.length+X2.length) (H.length+2+X1.length+X2.length+X3.length) (H.length+2+X1.length+X2.length+X3.length+X4.length) (H.length+2+X1.length+X2.length+X3.length+X4.length+X5.length) (H.length+2+X1.length+X2.length+X3.length+X4.length+X5.length+X6.length) (mc _ _) (mj _ _) (mp _ _) (mk _ _) (md _ _) (mh _ _) (mu _ _) (by omega) ?_ ?_ ?_ ?_ ?_ ?_ ?_ ?_
 ·intro i hi
  have:=ec i hi;omega
 ·intro i hi
  have:=ej i hi;omega
 ·intro i hi
  have:=ep i hi;omega
 ·intro i hi
  have:=ek i hi;omega
 ·intro i hi
  have:=ed i hi;omega
 ·intro i hi
  have:=eh i hi;omega
 ·intro i hi
  have:=eu i hi;simp only[List.length_append,List.length_cons];omega
 ·simp only[List.length_append,List.length_cons];omega
def axN(n x v:Int)(k:Nat):Bool:=(List.range k).any fun j=>decide ((x+(j:Int)).tmod n=v)
theorem axN_succ(n x v:Int)(k:Nat):axN n x v (k+1)=(axN n x v k||decide ((x+(k:Int)).tmod n=v)):=by
 unfold axN;rw[List.range_succ,List.any_append];simp
theorem axN_iff{n x v:Int}{k:Nat}:axN n x v k=true ↔ ∃ i:Int,(0<=i/\i < k)/\(x+i).tmod n=v:=by
 unfold axN;rw[List.any_eq_true]
 constructor
 ·rintro⟨j,hj,h⟩
  exact⟨j,⟨by omega,by have:=List.mem_range.1 hj; omega⟩,of_decide_eq_true h⟩
 ·rintro⟨i,⟨h0,h1⟩,h⟩
  refine⟨i.toNat,List.mem_range.2 (by omega),zT ?_⟩;rw[show((i.toNat:Nat):Int)=i by omega];exact h
def inB(a b c x y z p q r m:Int):Bool:=axN a x (ofX a b c m) p.toNat&&(axN b y (ofY a b c m) q.toNat&&axN c z (ofZ a b c m) r.toNat)
theorem mem_nodes{a b c x y z p q r m:Int}:m∈zAw a b c x y z p q r ↔ ∃ i j k:Int,(0<=i/\i < p)/\(0<=j/\j < q)/\(0<=k/\k < r)/\m=nodeV a b c x y z i j k:=by
 unfold zAw nodesY nodesX
 constructor
 ·intro h
  obtain⟨k,k1,k2,h⟩:=zEj h;obtain⟨j,j1,j2,h⟩:=zEj h;obtain⟨i,i1,i2,h⟩:=zEj h;exact⟨i,j,k,by omega,by omega,by omega,by simpa using h⟩
 ·rintro⟨i,j,k,hi,hj,hk,rfl⟩
  exact upto_mem (i:=k) (by omega) (by omega) (upto_mem (i:=j) (by omega) (by omega) (upto_mem (i:=i) (by omega) (by omega) (by simp)))
theorem at_of{a b c m:Int}(h:inM a b c m):atV a b c (ofX a b c m) (ofY a b c m) (ofZ a b c m)=m/\okP a b c (ofX a b c m) (ofY a b c m) (ofZ a b c m):=by
 obtain⟨h1,h2,h3,h4,h5,h6⟩:=zEd h;have hp:okP a b c (ofX a b c m) (ofY a b c m) (ofZ a b c m):=⟨h1,h2,h3⟩;refine⟨?_,hp⟩;rw[atV,if_pos ⟨h.1,hp⟩,ofX,if_pos h,ofY,if_pos h,ofZ,if_pos h];have e1:=Int.emod_add_mul_ediv m a;have e2:=Int.emod_add_mul_ediv (m / a) b;have e3:m / (a*b)=m / a / b:=(Int.ediv_ediv_of_nonneg (by omega)).symm;have e4:m / a / b < c:=by
  have hm:=h.2.2;have hmul:a*b*c=a*(b*c):=Int.mul_assoc _ _ _;have s1:m / a < b*c:=Int.ediv_lt_of_lt_mul (by omega) (by rw[Int.mul_comm,<- hmul]; exact hm);exact Int.ediv_lt_of_lt_mul (by omega) (by rw[Int.mul_comm]; exact s1)
 have e5:0<=m / a / b:=Int.ediv_nonneg (Int.ediv_nonneg h.2.1 (by omega)) (by omega);rw[e3,Int.emod_eq_of_lt e5 e4,Int.mul_assoc];rw[Int.add_assoc,<- Int.mul_add,e2];exact e1
theorem at_eq{a b c m x y z:Int}(h:inM a b c m)(hp:okP a b c x y z):m=atV a b c x y z ↔ x=ofX a b c m/\y=ofY a b c m/\z=ofZ a b c m:=by
 obtain⟨e,hq⟩:=at_of h
 constructor
 ·intro hm
  exact at_inj h.1 hp hq (by rw[e]; exact hm.symm)
 ·rintro⟨rfl,rfl,rfl⟩
  exact e.symm
theorem inB_iff{a b c x y z p q r m:Int}(h:inM a b c m)(hb:okB a b c x y z p q r):inB a b c x y z p q r m=true ↔ m∈zAw a b c x y z p q r:=by
 unfold inB;rw[zA,zA,axN_iff,axN_iff,axN_iff,mem_nodes];unfold okB ok1 at hb
 constructor
 ·rintro⟨⟨i,hi,ei⟩,⟨j,hj,ej⟩,⟨k,hk,ek⟩⟩
  refine⟨i,j,k,by omega,by omega,by omega,?_⟩;unfold nodeV;exact(at_eq h (okP_tmod h.1 (by omega) (by omega) (by omega))).2 ⟨ei,ej,ek⟩
 ·rintro⟨i,j,k,hi,hj,hk,e⟩
  unfold nodeV at e;obtain⟨e1,e2,e3⟩:=(at_eq h (okP_tmod h.1 (by omega) (by omega) (by omega))).1 e;exact⟨⟨i,by omega,e1⟩,⟨j,by omega,e2⟩,⟨k,by omega,e3⟩⟩
def boxL(a b c x y z p q r:Int):List Int:=((List.range (a*b*c).toNat).map Int.ofNat).filter fun m=>inB a b c x y z p q r m
theorem zEr{a b c x y z p q r m:Int}(hd:okD a b c)(hb:okB a b c x y z p q r):m∈boxL a b c x y z p q r ↔ m∈zAw a b c x y z p q r:=by
 unfold boxL;rw[List.mem_filter,List.mem_map]
 constructor
 ·rintro⟨⟨k,hk,rfl⟩,h⟩
  have hk:=List.mem_range.1 hk;exact(inB_iff ⟨hd,by simp,by simp; omega⟩ hb).1 h
 ·intro h
  have hm:=zCt hd hb h;refine⟨⟨m.toNat,List.mem_range.2 (by have:=hm.2; omega),by have:=hm.2; simp; omega⟩,(inB_iff hm hb).2 h⟩
def cooV(a b c m k:Int):Int:=if k=0 then ofX a b c m else if k=1 then ofY a b c m else ofZ a b c m
def zEy(a b c k m o:Int)(n:Nat):Bool:=(List.range n).any fun i=>decide (stV a b c m k (i:Int)=o)
theorem among_succ(a b c k m o:Int)(n:Nat):zEy a b c k m o (n+1)=(zEy a b c k m o n||decide (stV a b c m k (n:Int)=o)):=by
 unfold zEy;rw[List.range_succ,List.any_append];simp
def takenL(a b c k m:Int)(n:Nat):List Int:=if 1 < dimV a b c k then (((List.range (a*b*c).toNat).map Int.ofNat).filter fun o=>zEy a b c k m o n).map fun o=>k*(a*b*c)+o else []
def tookL(a b c k m s:Int)(t:Bool):List Int:=if s=1 then [] else takenL a b c k m (runN (dimV a b c k) s t).toNat
theorem dimV_in{a b c k:Int}(hd:okD a b c):1<=dimV a b c k/\dimV a b c k<=16:=by
 unfold okD at hd;unfold dimV
 split
 ·exact hd.1
 ·split
  ·exact hd.2.1
  ·exact hd.2.2
theorem took_mem{a b c k m s:Int}{t:Bool}(hk:0<=k/\k<=2)(hm:inM a b c m)(hs:1<=s/\s<=dimV a b c k)(x:Int):x∈tookL a b c k m s t ↔ x∈runLs a b c k m s t:=by
 unfold tookL runLs
 by_cases h1:s=1
 ·rw[if_pos h1,if_pos h1]
 ·have hdim:=dimV_in (k:=k) hm.1;rw[if_neg h1,if_neg h1,srt_mem,takenL,if_pos (by omega),runL];have hn:¬dimV a b c k=1:=by omega
  have hmv:zAs a b c=a*b*c:=by rw[zAs,if_pos hm.1]
  have hrv:∀ i,runV a b c k m i=k*(a*b*c)+stV a b c m k i:=fun i=>by
   obtain⟨h2,h3,h4⟩:=step_ok (s:=i) hk hm;unfold runV zFb;rw[if_pos ⟨ask_ok hk ⟨hm.1,h3,h4⟩,hn⟩,hmv]
  generalize (runN (dimV a b c k) s t)=n
  constructor
  ·intro h
   obtain⟨o,ho,rfl⟩:=List.mem_map.1 h;obtain⟨_,ho⟩:=List.mem_filter.1 ho;unfold zEy at ho;obtain⟨i,hi,e⟩:=List.any_eq_true.1 ho;have hi:=List.mem_range.1 hi;refine upto_mem (i:=(i:Int)) (by omega) (by omega) ?_;rw[hrv,of_decide_eq_true e];simp
  ·intro h
   obtain⟨i,h1,h2,h⟩:=zEj h;rw[List.mem_singleton]at h;obtain⟨_,h3,h4⟩:=step_ok (s:=i) hk hm;rw[h,hrv];refine List.mem_map.2 ⟨stV a b c m k i,List.mem_filter.2 ⟨List.mem_map.2 ⟨(stV a b c m k i).toNat,List.mem_range.2 (by omega),by simp; omega⟩,?_⟩,rfl⟩;unfold zEy;refine List.any_eq_true.2 ⟨i.toNat,List.mem_range.2 (by omega),zT ?_⟩;rw[show((i.toNat:Nat):Int)=i by omega]
def cabAx(a b c x y z p q r k base s:Int)(t:Bool):List Int:=((boxL a b c x y z p q r).filter fun m=>decide (cooV a b c m k=base)).flatMap fun m=>tookL a b c k m s t
def cabL(a b c x y z p q r:Int)(s t u:Bool):List Int:=cabAx a b c x y z p q r 0 x p s++(cabAx a b c x y z p q r 1 y q t++cabAx a b c x y z p q r 2 z r u)
theorem tmod_0{a x:Int}(h:0<=x/\x < a):(x+0).tmod a=x:=by
 rw[Int.add_zero,Int.tmod_eq_emod_of_nonneg h.1,Int.emod_eq_of_lt h.1 h.2]
theorem tmod_base{a x i:Int}(h:0<=x/\x < a)(hi:0<=i/\i < a)(e:(x+i).tmod a=x):i=0:=by
 rw[Int.tmod_eq_emod_of_nonneg (by omega)]at e
 by_cases h1:x+i < a
 ·rw[Int.emod_eq_of_lt (by omega) h1]at e;omega
 ·rw[<- Int.sub_emod_right,Int.emod_eq_of_lt (by omega) (by omega)]at e;omega
theorem coo_node{a b c x y z i j k:Int}(hd:okD a b c)(h1:0<=x+i)(h2:0<=y+j)(h3:0<=z+k) :
  ofX a b c (nodeV a b c x y z i j k)=(x+i).tmod a/\ofY a b c (nodeV a b c x y z i j k)=(y+j).tmod b/\ofZ a b c (nodeV a b c x y z i j k)=(z+k).tmod c :=
 of_at hd (okP_tmod hd h1 h2 h3)
theorem cabAx_mem{a b c x y z p q r:Int}{s t u:Bool}(hd:okD a b c)(hb:okB a b c x y z p q r){k p' q' r' n:Int}{e:Bool}{base:Int}(hx:zDw p q r s t u k p' q' r' n e)(hbase:base=if k=0 then x else if k=1 then y else z)(l:Int) :
  l∈cabAx a b c x y z p q r k base n e ↔ l∈zFn a b c x y z k p' q' r' n e:=by
 unfold cabAx zFn;rw[List.mem_flatMap,List.mem_flatMap];have hk:0<=k/\k<=2:=by unfold zDw at hx; omega
 have hn:1<=n/\n<=dimV a b c k:=by
  unfold okB ok1 at hb;unfold dimV;unfold zDw at hx
  rcases hx with ⟨rfl,_,_,_,rfl,_⟩ | ⟨rfl,_,_,_,rfl,_⟩ | ⟨rfl,_,_,_,rfl,_⟩ <;> simp <;> omega
 have key:∀ m,m∈(boxL a b c x y z p q r).filter (fun m=>decide (cooV a b c m k=base)) ↔ m∈zAw a b c x y z p' q' r':=by
  intro m
  rw[List.mem_filter,zEr hd hb,mem_nodes,mem_nodes,decide_eq_true_eq];unfold okB ok1 at hb;unfold cooV
  rcases hx with ⟨rfl,rfl,rfl,rfl,rfl,rfl⟩ | ⟨rfl,rfl,rfl,rfl,rfl,rfl⟩ | ⟨rfl,rfl,rfl,rfl,rfl,rfl⟩
  ·simp only[if_true]at hbase ⊢;subst hbase
   constructor
   ·rintro⟨⟨i,j,k,hi,hj,hk,rfl⟩,h⟩
    rw[(coo_node hd (by omega) (by omega) (by omega)).1]at h;have:=tmod_base (by omega) (by omega) h;exact⟨i,j,k,by omega,hj,hk,rfl⟩
   ·rintro⟨i,j,k,hi,hj,hk,rfl⟩
    refine⟨⟨i,j,k,by omega,hj,hk,rfl⟩,?_⟩;rw[(coo_node hd (by omega) (by omega) (by omega)).1,show i=0 by omega];exact tmod_0 (by omega)
  ·simp only[if_neg (by decide:¬(1:Int)=0),if_true]at hbase ⊢;subst hbase
   constructor
   ·rintro⟨⟨i,j,k,hi,hj,hk,rfl⟩,h⟩
    rw[(coo_node hd (by omega) (by omega) (by omega)).2.1]at h;have:=tmod_base (by omega) (by omega) h;exact⟨i,j,k,hi,by omega,hk,rfl⟩
   ·rintro⟨i,j,k,hi,hj,hk,rfl⟩
    refine⟨⟨i,j,k,hi,by omega,hk,rfl⟩,?_⟩;rw[(coo_node hd (by omega) (by omega) (by omega)).2.1,show j=0 by omega];exact tmod_0 (by omega)
  ·simp only[if_neg (by decide:¬(2:Int)=0),if_neg (by decide:¬(2:Int)=1)]at hbase ⊢;subst hbase
   constructor
   ·rintro⟨⟨i,j,k,hi,hj,hk,rfl⟩,h⟩
    rw[(coo_node hd (by omega) (by omega) (by omega)).2.2]at h;have:=tmod_base (by omega) (by omega) h;exact⟨i,j,k,hi,hj,by omega,rfl⟩
   ·rintro⟨i,j,k,hi,hj,hk,rfl⟩
    refine⟨⟨i,j,k,hi,hj,by omega,rfl⟩,?_⟩;rw[(coo_node hd (by omega) (by omega) (by omega)).2.2,show k=0 by omega];exact tmod_0 (by omega)
 have hin:∀ m,m∈zAw a b c x y z p' q' r'->inM a b c m:=fun m hm=>by
  have:=(key m).2 hm;exact zCt hd hb ((zEr hd hb).1 (List.mem_filter.1 this).1)
 constructor
 ·rintro⟨m,hm,hl⟩
  have hm':=(key m).1 hm;exact⟨m,srt_mem.2 hm',(took_mem hk (hin m hm') hn l).1 hl⟩
 ·rintro⟨m,hm,hl⟩
  have hm':=srt_mem.1 hm;exact⟨m,(key m).2 hm',(took_mem hk (hin m hm') hn l).2 hl⟩
theorem cabL_mem{a b c x y z p q r:Int}{s t u:Bool}(hd:okD a b c)(hb:okB a b c x y z p q r)(l:Int):l∈cabL a b c x y z p q r s t u ↔ l∈zDa a b c x y z p q r s t u:=by
 unfold cabL zDa;rw[List.mem_append,List.mem_append,List.mem_append,List.mem_append,
  cabAx_mem (s:=s) (t:=t) (u:=u) (base:=x) hd hb (.inl ⟨rfl,rfl,rfl,rfl,rfl,rfl⟩) rfl l,cabAx_mem (s:=s) (t:=t) (u:=u) (base:=y) hd hb (.inr (.inl ⟨rfl,rfl,rfl,rfl,rfl,rfl⟩)) rfl l,cabAx_mem (s:=s) (t:=t) (u:=u) (base:=z) hd hb (.inr (.inr ⟨rfl,rfl,rfl,rfl,rfl,rfl⟩)) rfl l,or_assoc]
def outL{α:Type}(less:α->α->Bool)(p:α):List α->Bool->List α
 | [],d=>if d=true then [] else [p]
 | y::l,d=>if (!d&&less p y)=true then p::y::outL less p l true else y::outL less p l d
theorem outL_true{α:Type}(less:α->α->Bool)(p:α):∀ l:List α,outL less p l true=l
 | []=>rfl
 | y::l=>by
  unfold outL;rw[if_neg (by simp),outL_true less p l]
theorem outL_perm{α:Type}(less:α->α->Bool)(p:α):∀ l:List α,(outL less p l false).Perm (p::l)
 | []=>by unfold outL; rw[if_neg (by decide)]
 | y::l=>by
  unfold outL
  split
  ·rw[outL_true]
  ·exact((outL_perm less p l).cons y).trans (List.Perm.swap p y l)
def putL{α:Type}[DecidableEq α](less:α->α->Bool)(l:List α)(p:α):List α:=if p∈l then l else outL less p l false
theorem putL_mem{α:Type}[DecidableEq α]{less:α->α->Bool}{l:List α}{p x:α}:x∈putL less l p ↔ x=p\/x∈l:=by
 unfold putL
 split
 ·constructor
  ·exact .inr
  ·rintro(rfl | h) <;> assumption
 ·rw[(outL_perm less p l).mem_iff,List.mem_cons]
theorem putL_len{α:Type}[DecidableEq α]{less:α->α->Bool}{l:List α}{p:α}:(putL less l p).length=if p∈l then l.length else l.length+1:=by
 unfold putL
 split
 ·rfl
 ·rw[(outL_perm less p l).length_eq,List.length_cons]
theorem bit_val{w:Int}(h:inU w){j:Nat}(hj:j < 64):decide (IntKind.u64.wrap ((BitVec.ofInt IntKind.u64.bits (w.fdiv (2^min j IntKind.u64.bits)) &&& BitVec.ofInt IntKind.u64.bits 1).toNat:Int)=1)=w.toNat.testBit j:=by
 obtain⟨x,rfl⟩:∃ x:Nat,w=(x:Int):=⟨w.toNat,by unfold inU at h; omega⟩;have hx:x < 2^64:=by unfold inU at h; omega
 have hle:x / 2^j<=x:=Nat.div_le_self _ _;have a1:=andW_nat (x:=((x / 2^j:Nat):Int)) (y:=1) (nU (by omega)) ⟨by decide,by decide⟩;unfold andW at a1;rw[show min j IntKind.u64.bits=j from Nat.min_eq_left (by rw[show IntKind.u64.bits=64 from rfl]; omega),show(2:Int)^j=((2^j:Nat):Int) by rw[Int.natCast_pow]; rfl,fdiv_nat,a1,Int.toNat_natCast,Int.toNat_natCast,Nat.testBit_eq_decide_div_mod_eq,show(1:Int).toNat=1 from rfl,Nat.and_one_is_mod];exact decide_eq_decide.2 (by omega)
def addW(w k:Int):Int:=IntKind.u64.wrap (w+IntKind.u64.wrap (1*2^(min (k.tmod 64).toNat IntKind.u64.bits)))
theorem nat_add_or{x j:Nat}(hx:x < 2^64)(hj:j < 64)(h:x.testBit j=false):x+2^j=x ||| 2^j:=by
 have hp:2^j < 2^64:=Nat.pow_lt_pow_right (by decide) hj;have h0:BitVec.ofNat 65 x &&& BitVec.ofNat 65 (2^j)=0#65:=by
  apply BitVec.eq_of_toNat_eq;rw[BitVec.toNat_and,BitVec.toNat_ofNat,BitVec.toNat_ofNat,Nat.mod_eq_of_lt (by omega),Nat.mod_eq_of_lt (by omega)];refine Nat.eq_of_testBit_eq fun i=>?_
  rw[Nat.testBit_and,Nat.testBit_two_pow]
  by_cases hi:j=i
  ·subst hi; simp[h]
  ·simp[hi]
 have h1:=congrArg BitVec.toNat (BitVec.add_eq_or_of_and_eq_zero _ _ h0);rw[BitVec.toNat_add,BitVec.toNat_or,BitVec.toNat_ofNat,BitVec.toNat_ofNat,Nat.mod_eq_of_lt (by omega:x < 2^65),Nat.mod_eq_of_lt (by omega:2^j < 2^65),Nat.mod_eq_of_lt (by omega)]at h1;exact h1
theorem addW_or{w k:Int}(hw:inU w)(hk:0<=k)(h:w.toNat.testBit (k % 64).toNat=false):addW w k=orW w k:=by
 have hj:(k % 64).toNat < 64:=by omega
 have hp:2^(k % 64).toNat < 2^64:=Nat.pow_lt_pow_right (by decide) hj;have hpi:inU (((2^(k % 64).toNat:Nat)):Int):=nU hp;rw[orW_nat hw hk,<- nat_add_or (lt_U hw) hj h];have hb:w.toNat+2^(k % 64).toNat < 2^64:=by
  rw[nat_add_or (lt_U hw) hj h];exact Nat.or_lt_two_pow (lt_U hw) hp
 have hm:k.tmod 64=k % 64:=Int.tmod_eq_emod_of_nonneg hk;unfold addW;rw[hm,show min (k % 64).toNat IntKind.u64.bits=(k % 64).toNat from Nat.min_eq_left (by rw[show IntKind.u64.bits=64 from rfl]; omega),Int.one_mul,show((2:Int)^(k % 64).toNat)=((2^(k % 64).toNat:Nat):Int) by rw[Int.natCast_pow]; rfl,wrapU hpi];have e:w+((2^(k % 64).toNat:Nat):Int)=((w.toNat+2^(k % 64).toNat:Nat):Int):=by unfold inU at hw; omega
 rw[e];exact wrapU (nU hb)
theorem orW_same{w k:Int}(hw:inU w)(hk:0<=k)(h:w.toNat.testBit (k % 64).toNat=true):orW w k=w:=by
 rw[orW_nat hw hk];have:w.toNat ||| 2^(k % 64).toNat=w.toNat:=Nat.eq_of_testBit_eq fun i=>by
  rw[Nat.testBit_or,Nat.testBit_two_pow]
  by_cases hi:(k % 64).toNat=i
  ·subst hi; simp[h]
  ·simp[hi]
 rw[this];unfold inU at hw;omega
theorem from_same{ws:List Int}(hw:∀ w∈ws,inU w){k:Int}(hk:0<=k)(hl:k.toNat / 64 < ws.length)(h:zBv ws k.toNat=true):setW ws k=ws:=by
 have hi:(k.tdiv 64).toNat=k.toNat / 64:=by rw[Int.tdiv_eq_ediv_of_nonneg hk]; omega
 unfold zBv at h;unfold setW;rw[hi,orW_same (zEi hw _) hk (by rw[show(k % 64).toNat=k.toNat % 64 by omega]; exact h)];refine List.ext_getElem (by simp) fun i h1 h2=>?_
 rw[List.getElem_set]
 split
 ·rename_i e;subst e;simp[List.getD,hl]
 ·rfl
theorem from_add{ws:List Int}(hw:∀ w∈ws,inU w){k:Int}(hk:0<=k)(h:zBv ws k.toNat=false):setW ws k=ws.set (k.tdiv 64).toNat (addW (ws.getD (k.tdiv 64).toNat 0) k):=by
 have hi:(k.tdiv 64).toNat=k.toNat / 64:=by rw[Int.tdiv_eq_ediv_of_nonneg hk]; omega
 unfold zBv at h;unfold setW;rw[addW_or (zEi hw _) hk (by rw[hi,show(k % 64).toNat=k.toNat % 64 by omega]; exact h)]
def allB(ws:List Int)(n:Nat):List Int:=((List.range n).map Int.ofNat).filter fun k=>zBv ws k.toNat
theorem allB_mem{ws:List Int}{n:Nat}{k:Int}:k∈allB ws n ↔ (0<=k/\k < n)/\zBv ws k.toNat=true:=by
 unfold allB;rw[List.mem_filter,List.mem_map]
 constructor
 ·rintro⟨⟨i,hi,rfl⟩,h⟩
  have:=List.mem_range.1 hi;exact⟨⟨by simp,by simp; omega⟩,h⟩
 ·rintro⟨h1,h2⟩
  exact⟨⟨k.toNat,List.mem_range.2 (by omega),by simp; omega⟩,h2⟩
def meetB(xs ys:List Int):Bool:=(allB xs (64*xs.length)).any fun k=>zBv ys k.toNat
theorem meetB_ofL{n:Int}(hn:1<=n/\n<=12288){l:List Int}(hl:∀ k∈l,0<=k/\k < n)(ys:List Int):meetB (ofL n l) ys=l.any fun k=>zBv ys k.toNat:=by
 unfold meetB;rw[Bool.eq_iff_iff,List.any_eq_true,List.any_eq_true];have hlen:=ofL_length n l;have hwv:zBe n=(n+63) / 64:=by rw[zBe,if_pos hn]
 constructor
 ·rintro⟨k,hk,h⟩
  obtain⟨h1,h2⟩:=allB_mem.1 hk;rw[zEw hn hl,decide_eq_true_eq,show((k.toNat:Nat):Int)=k by omega]at h2;exact⟨k,h2,h⟩
 ·rintro⟨k,hk,h⟩
  have:=hl k hk;refine⟨k,allB_mem.2 ⟨⟨this.1,by omega⟩,?_⟩,h⟩;rw[zEw hn hl,decide_eq_true_eq,show((k.toNat:Nat):Int)=k by omega];exact hk
theorem e6:Ent zP 6 Tryz.f6 [] 1:=.mk Tryz.func6 rfl
attribute [push_cast] Tryz.f6
theorem IsSet.len{s:AV}(q:IsSet s):∃ L:Int,aLen zP 28 s=some L:=by
 obtain⟨ws,_,rfl | ⟨rfl,_⟩⟩:=q
 ·exact⟨_,li28 _⟩
 ·exact⟨_,ln28⟩
theorem toVP{f:FuncId}{args:List AV}{v:AV}(h:Pur zP GG f args v):PurV zP GG (.fn f [] []) args v:=Pur.toV (by simpa using h)
theorem e91:Ent zP 91 Tryz.f91 [] 1:=.mk Tryz.func91 rfl
attribute [push_cast] Tryz.f91
theorem may01(a b c:Int):Pur zP GG 91 [.agg [I a,I b,I c]] (B (decide (okD a b c))):=by
 refine goQ e91 TOk.nil 5 ?_;simp only[push_cast,seval,↓kw2]
 repeat' (first | apply And.intro | intro _)
 all_goals
  refine⟨_,rfl,zAa rfl ?_⟩;simp only[AV.c.injEq,Value.bool.injEq]
  first | exact(zT (by unfold okD; omega)).symm | exact(zF (by unfold okD; omega)).symm
@[push_cast] def g91:List AV->Option (Prop × AV)
 | [.agg [(.c (.int .i64 a)),(.c (.int .i64 b)),(.c (.int .i64 c))]]=>some (True,B (decide (okD a b c)))
 | _=>none
theorem g91_ok:∀ args p,g91 args=some p->p.1->Pur zP GG 91 args p.2:=by
 intro args p hp hc
 unfold g91 at hp
 split at hp
 ·cases hp;exact may01 _ _ _
 ·cases hp
@[push_cast] def Q1:Tab:=Tab.ext Tab.nil 91 g91
theorem Q1_ok:TOk zP GG Q1:=TOk.ext TOk.nil g91_ok
theorem e35:Ent zP 35 Tryz.f35 [] 1:=.mk Tryz.func35 rfl
attribute [push_cast] Tryz.f35
theorem n01(a b c:Int)(hp:okD a b c):Pur zP GG 35 [.agg [I a,I b,I c]] (I (a*b*c)):=by
 refine goQ e35 Q1_ok 0 ?_;simp only[push_cast,seval,↓kw2];have hm:=zBz hp;exact⟨_,rfl,zAa rfl (by rw[zAh (n:=a*b) (by omega) (by omega),zAh (by omega) (by omega)])⟩
@[push_cast] def g35:List AV->Option (Prop × AV)
 | [.agg [(.c (.int .i64 a)),(.c (.int .i64 b)),(.c (.int .i64 c))]]=>some (okD a b c,I (a*b*c))
 | _=>none
theorem g35_ok:∀ args p,g35 args=some p->p.1->Pur zP GG 35 args p.2:=by
 intro args p hp hc
 unfold g35 at hp
 split at hp
 ·cases hp;exact n01 _ _ _ hc
 ·cases hp
@[push_cast] def Q2:Tab:=Tab.ext Q1 35 g35
theorem Q2_ok:TOk zP GG Q2:=TOk.ext Q1_ok g35_ok
theorem ofZ_is{a b c m:Int}(h:inM a b c m):ofZ a b c m=m / a / b:=by
 rw[ofZ,if_pos h];have hd:=h.1;unfold okD at hd;have e3:m / (a*b)=m / a / b:=(Int.ediv_ediv_of_nonneg (by omega)).symm;have e4:m / a / b < c:=by
  have hm:=h.2.2;have hmul:a*b*c=a*(b*c):=Int.mul_assoc _ _ _;have s1:m / a < b*c:=Int.ediv_lt_of_lt_mul (by omega) (by rw[Int.mul_comm,<- hmul]; exact hm);exact Int.ediv_lt_of_lt_mul (by omega) (by rw[Int.mul_comm]; exact s1)
 have e5:0<=m / a / b:=Int.ediv_nonneg (Int.ediv_nonneg h.2.1 (by omega)) (by omega);rw[e3,Int.emod_eq_of_lt e5 e4]
theorem e149:Ent zP 149 Tryz.f149 [] 2:=.mk Tryz.func149 rfl
attribute [push_cast] Tryz.f149
theorem where01(a b c m:Int)(hp:inM a b c m):Pur zP GG 149 [.agg [I a,I b,I c],I m] (.agg [I (ofX a b c m),I (ofY a b c m),I (ofZ a b c m)]):=by
 refine goQ e149 Q2_ok 0 ?_;simp only[push_cast,seval,↓kw2];have hd:=hp.1;have hmu:=zBz hp.1;have h0:=hp.2;unfold okD at hd;have q0:m.tdiv a=m / a:=Int.tdiv_eq_ediv_of_nonneg (by omega);have q1:0<=m / a:=Int.ediv_nonneg (by omega) (by omega);have q2:m / a<=m:=Int.ediv_le_self _ (by omega);have q3:(m / a).tdiv b=m / a / b:=Int.tdiv_eq_ediv_of_nonneg q1;have q4:0<=m / a / b:=Int.ediv_nonneg q1 (by omega);have q5:m / a / b<=m / a:=Int.ediv_le_self _ q1
 repeat' (first | apply And.intro | (intro _))
 all_goals first
  | omega
  | skip
 refine⟨_,rfl,zAa rfl ?_⟩;rw[q0,zAh (n:=m / a) (by omega) (by omega),q3,zAh (n:=m / a / b) (by omega) (by omega),ofZ_is hp,ofX,if_pos hp,ofY,if_pos hp,Int.tmod_eq_emod_of_nonneg (by omega),Int.tmod_eq_emod_of_nonneg q1]
@[push_cast] def g149:List AV->Option (Prop × AV)
 | [.agg [(.c (.int .i64 a)),(.c (.int .i64 b)),(.c (.int .i64 c))],(.c (.int .i64 m))]=>some (inM a b c m,.agg [I (ofX a b c m),I (ofY a b c m),I (ofZ a b c m)])
 | _=>none
theorem g149_ok:∀ args p,g149 args=some p->p.1->Pur zP GG 149 args p.2:=by
 intro args p hp hc
 unfold g149 at hp
 split at hp
 ·cases hp;exact where01 _ _ _ _ hc
 ·cases hp
@[push_cast] def Q3:Tab:=Tab.ext Q2 149 g149
theorem Q3_ok:TOk zP GG Q3:=TOk.ext Q2_ok g149_ok
theorem e300:Ent zP 300 Tryz.f300 [] 2:=.mk Tryz.func300 rfl
attribute [push_cast] Tryz.f300
theorem num01(a b c x y z:Int)(hp:okD a b c/\okP a b c x y z):Pur zP GG 300 [.agg [I a,I b,I c],.agg [I x,I y,I z]] (I (atV a b c x y z)):=by
 refine goQ e300 Q3_ok 0 ?_;simp only[push_cast,seval,↓kw2];have hmu:=zBz hp.1;obtain⟨_,r1,r2⟩:=at_range hp.1 hp.2;rw[atV,if_pos hp]at r1 r2 ⊢;have hd:=hp.1;have hq:=hp.2;unfold okD at hd;unfold okP at hq;have e0:b*z<=16*16:=Int.mul_le_mul (by omega) (by omega) (by omega) (by omega);have e1:0<=b*z:=Int.mul_nonneg (by omega) (by omega);have e2:x+a*(y+b*z)=x+a*y+a*b*z:=by rw[Int.mul_add,<- Int.mul_assoc]; omega
 have e3:a*(y+b*z)=(x+a*y+a*b*z) - x:=by omega
 refine⟨_,rfl,zAa rfl ?_⟩;rw[zAh (n:=b*z) (by omega) (by omega),zAh (n:=y+b*z) (by omega) (by omega),zAh (n:=a*(y+b*z)) (by omega) (by omega),zAh (by omega) (by omega),e2]
@[push_cast] def g300:List AV->Option (Prop × AV)
 | [.agg [(.c (.int .i64 a)),(.c (.int .i64 b)),(.c (.int .i64 c))],.agg [(.c (.int .i64 x)),(.c (.int .i64 y)),(.c (.int .i64 z))]]=>some (okD a b c/\okP a b c x y z,I (atV a b c x y z))
 | _=>none
theorem g300_ok:∀ args p,g300 args=some p->p.1->Pur zP GG 300 args p.2:=by
 intro args p hp hc
 unfold g300 at hp
 split at hp
 ·cases hp;exact num01 _ _ _ _ _ _ hc
 ·cases hp
@[push_cast] def Q4:Tab:=Tab.ext Q3 300 g300
theorem Q4_ok:TOk zP GG Q4:=TOk.ext Q3_ok g300_ok
theorem tmod_cases(n m:Int)(hm:0 < m):n.tmod m=n % m\/n.tmod m+m=n % m:=by
 have h1:=Int.tmod_lt_of_pos n hm;have h2:=Int.lt_tmod_of_pos n hm;have h3:=Int.emod_nonneg n (show m≠0 by omega);have h4:=Int.emod_lt_of_pos n hm
 by_cases h:0<=n
 ·exact .inl (Int.tmod_eq_emod_of_nonneg h)
 ·have e1:=Int.emod_add_mul_ediv n m;have e2:=Int.tmod_add_mul_tdiv n m;have e3:(n.tmod m - n % m)=m*(n / m - n.tdiv m):=by rw[Int.mul_sub]; omega
  have e4:n / m - n.tdiv m=0\/n / m - n.tdiv m=-1:=by
   generalize n / m - n.tdiv m=k at e3
   by_cases k0:1<=k
   ·have:=Int.mul_le_mul_of_nonneg_left k0 (show 0<=m by omega);omega
   ·by_cases k1:k<=-2
    ·have:=Int.mul_le_mul_of_nonneg_left k1 (show 0<=m by omega);omega
    ·omega
  rcases e4 with e4 | e4 <;> rw[e4]at e3 <;> omega
theorem e299:Ent zP 299 Tryz.f299 [] 2:=.mk Tryz.func299 rfl
attribute [push_cast] Tryz.f299
theorem round01(n m:Int)(hp:1<=m/\m<=16):Pur zP GG 299 [I n,I m] (I (n % m)):=by
 refine goQ e299 Q4_ok 0 ?_;simp only[push_cast,seval,↓kw2];have h1:=Int.tmod_lt_of_pos n (show 0 < m by omega);have h2:=Int.lt_tmod_of_pos n (show 0 < m by omega);have h3:=Int.emod_nonneg n (show m≠0 by omega);have h4:=Int.emod_lt_of_pos n (show 0 < m by omega);have h5:=tmod_cases n m (by omega)
 repeat' (first | apply And.intro | (intro _))
 all_goals first
  | omega
  | (refine⟨_,rfl,zAa rfl ?_⟩; first | (rw[zAh (by omega) (by omega)]; congr 2; omega) | (congr 2; omega))
@[push_cast] def g299:List AV->Option (Prop × AV)
 | [(.c (.int .i64 n)),(.c (.int .i64 m))]=>some (1<=m/\m<=16,I (n % m))
 | _=>none
theorem g299_ok:∀ args p,g299 args=some p->p.1->Pur zP GG 299 args p.2:=by
 intro args p hp hc
 unfold g299 at hp
 split at hp
 ·cases hp;exact round01 _ _ hc
 ·cases hp
@[push_cast] def Q5:Tab:=Tab.ext Q4 299 g299
theorem Q5_ok:TOk zP GG Q5:=TOk.ext Q4_ok g299_ok
theorem stp_is{x n s:Int}(h1:0<=x)(h2:x < n):(x+s % n) % n=stp x n s:=by
 unfold stp;have h3:=Int.tmod_lt_of_pos s (show 0 < n by omega);have h4:=Int.lt_tmod_of_pos s (show 0 < n by omega);rw[Int.tmod_eq_emod_of_nonneg (by omega)]
 rcases tmod_cases s n (by omega)with e | e
 ·rw[<- e,Int.add_emod_right]
 ·rw[<- e,Int.add_assoc]
theorem e297:Ent zP 297 Tryz.f297 [] 4:=.mk Tryz.func297 rfl
attribute [push_cast] Tryz.f297
theorem on01_0(a b c m s:Int)(hp:inM a b c m):Pur zP GG 297 [.agg [I a,I b,I c],I m,I 0,I s] (I (stV0 a b c m s)):=by
 refine goQ e297 Q5_ok 0 ?_;simp only[push_cast,seval,↓kw2];have hb:=zEd hp;have he:=inM_ofE hp;have e0:=Int.emod_nonneg s (show a≠0 by omega);have e1:=Int.emod_lt_of_pos s (show 0 < a by omega);have w1:=zAh (n:=ofX a b c m+s % a) (by omega) (by omega);rw[w1,stp_is (by omega) (by omega)];have hst:=stp_range (x:=ofX a b c m) (n:=a) (s:=s) (by omega) (by omega)
 repeat (first | refine⟨hp,?_⟩ | refine And.intro (by omega) ?_ | refine⟨⟨by omega,by omega⟩,?_⟩ | refine⟨⟨hp.1,by unfold okP; omega⟩,?_⟩)
 exact⟨_,rfl,zAa rfl (by rw[stV0,if_pos he])⟩
theorem on01_1(a b c m s:Int)(hp:inM a b c m):Pur zP GG 297 [.agg [I a,I b,I c],I m,I 1,I s] (I (stV1 a b c m s)):=by
 refine goQ e297 Q5_ok 0 ?_;simp only[push_cast,seval,↓kw2];have hb:=zEd hp;have he:=inM_ofE hp;have e0:=Int.emod_nonneg s (show b≠0 by omega);have e1:=Int.emod_lt_of_pos s (show 0 < b by omega);have w1:=zAh (n:=ofY a b c m+s % b) (by omega) (by omega);rw[w1,stp_is (by omega) (by omega)];have hst:=stp_range (x:=ofY a b c m) (n:=b) (s:=s) (by omega) (by omega)
 repeat (first | refine⟨hp,?_⟩ | refine And.intro (by omega) ?_ | refine⟨⟨by omega,by omega⟩,?_⟩ | refine⟨⟨hp.1,by unfold okP; omega⟩,?_⟩)
 exact⟨_,rfl,zAa rfl (by rw[stV1,if_pos he])⟩
theorem on01_2(a b c m s:Int)(hp:inM a b c m):Pur zP GG 297 [.agg [I a,I b,I c],I m,I 2,I s] (I (stV2 a b c m s)):=by
 refine goQ e297 Q5_ok 0 ?_;simp only[push_cast,seval,↓kw2];have hb:=zEd hp;have he:=inM_ofE hp;have e0:=Int.emod_nonneg s (show c≠0 by omega);have e1:=Int.emod_lt_of_pos s (show 0 < c by omega);have w1:=zAh (n:=ofZ a b c m+s % c) (by omega) (by omega);rw[w1,stp_is (by omega) (by omega)];have hst:=stp_range (x:=ofZ a b c m) (n:=c) (s:=s) (by omega) (by omega)
 repeat (first | refine⟨hp,?_⟩ | refine And.intro (by omega) ?_ | refine⟨⟨by omega,by omega⟩,?_⟩ | refine⟨⟨hp.1,by unfold okP; omega⟩,?_⟩)
 exact⟨_,rfl,zAa rfl (by rw[stV2,if_pos he])⟩
theorem on01{a b c m k:Int}(hk:0<=k/\k<=2)(hm:inM a b c m)(s:Int):Pur zP GG 297 [.agg [I a,I b,I c],I m,I k,I s] (I (stV a b c m k s)):=by
 have hcs:k=0\/k=1\/k=2:=by omega
 rcases hcs with rfl | rfl | rfl
 ·exact on01_0 a b c m s hm
 ·exact on01_1 a b c m s hm
 ·exact on01_2 a b c m s hm
end Go.Ab.Pd
namespace Go.Ab
theorem AC.freezeArgK{P:Program}{G:Gl}{k:Nat}{f:FuncId}{pre post:List AV}{H:List AO}{id cap:Nat}{es:List AV}{K:AV->List AO->Prop}(hid:H[id]?=some (.arr k es))(hne:0 < es.length)(hpure:AV.purL es=true)
  (h:AC P G f (pre++([.isl es]++post)) (H.set id .dead) K):AC P G f (pre++([.sl id 0 es.length cap]++post)) H K:=by
 refine⟨h.1,fun E w vargs hH hA cs=>?_⟩;obtain⟨l,hl,hszl,c,t,hcell,hs,hr⟩:=hH.obj id _ hid rfl
 let E':En:={ loc:=E.loc,fro:=fun b=>E.fro b\/b=l.b }
 have hlv:Live H E l.b:=⟨id,_,l,hid,rfl,hl,rfl⟩;have hm:Mono w E w E':=⟨fun b hb=>.inl hb,fun _ _=>rfl,fun _ _ h=>h,fun _ _ h=>h⟩;have hidl:=(List.getElem?_eq_some_iff.1 hid).1;have hget:∀(j:Nat) (oj:AO),(H.set id .dead)[j]?=some oj->oj.live=true->j≠id/\H[j]?=some oj:=by
  intro j oj hj hoj
  by_cases e:j=id
  ·subst e;rw[zS hidl]at hj;cases hj; simp[AO.live]at hoj
  ·rw[zQ (fun h=>e h.symm)]at hj;exact⟨e,hj⟩
 have hsub:∀ b,Live (H.set id .dead) E' b->Live H E b/\b≠l.b:=by
  rintro b ⟨j,oj,lj,hj,hoj,hlj,rfl⟩
  obtain⟨h1,h2⟩:=hget j oj hj hoj;exact⟨⟨j,oj,lj,h2,hoj,hlj,rfl⟩,fun e=>h1 (hH.inj j id oj _ lj l h2 hoj hid rfl hlj hl e)⟩
 have hR:RelH G w E' (H.set id .dead):=by
  refine⟨fun j oj hj hoj=>?_,fun j j' o1 o2 l1 l2 h1 ho1 h2 ho2 hl1 hl2 hb=>?_,fun b hb=>?_,fun b hb hl'=>?_,fun j lj hlj=>by rw[List.length_set]; exact hH.dom j lj hlj,fun g cs hg=>(hH.gl g cs hg).mono hm⟩
  ·obtain⟨h1,h2⟩:=hget j oj hj hoj;obtain⟨lj,hlj,hrj⟩:=hH.obj j oj h2 hoj;exact⟨lj,hlj,hrj.mono hm rfl⟩
  ·exact hH.inj j j' o1 o2 l1 l2 (hget _ _ h1 ho1).2 ho1 (hget _ _ h2 ho2).2 ho2 hl1 hl2 hb
  ·rcases hb with hb | rfl
   ·exact hH.frob b hb
   ·exact⟨c,t,_,hcell⟩
  ·obtain⟨h1,h2⟩:=hsub b hl'
   rcases hb with hb | hb
   ·exact hH.sep b hb h1
   ·exact h2 hb
 have hA':RepL w E' (pre++([.isl es]++post)) vargs:=by
  have hlen:(pre++([AV.sl id 0 es.length cap]++post)).length=(pre++([AV.isl es]++post)).length:=by simp
  refine⟨by rw[hA.1,hlen],fun i hi=>?_⟩;have h1:=hA.2 i (by rw[hlen]; exact hi)
  rcases Nat.lt_trichotomy i pre.length with hlt | heq | hgt
  ·have e1:(pre++([AV.isl es]++post)).getD i .un=pre.getD i .un:=by simp[List.getD,zL hlt]
   have e2:(pre++([AV.sl id 0 es.length cap]++post)).getD i .un=pre.getD i .un:=by simp[List.getD,zL hlt]
   rw[e2]at h1;rw[e1];exact h1.mono hm
  ·subst heq;have e1:(pre++([AV.isl es]++post)).getD pre.length .un=.isl es:=by simp[List.getD]
   have e2:(pre++([AV.sl id 0 es.length cap]++post)).getD pre.length .un=.sl id 0 es.length cap:=by simp[List.getD]
   rw[e2]at h1;rw[e1]
   generalize vargs.getD pre.length undef=x at h1
   cases h1 with
   | sl hloc g1 g2 g3 =>
    rename_i l' ad cc;rw[hl]at hloc; cases hloc;obtain⟨rfl,n,hrow,hle⟩:=g3 (by omega);refine RepV.isl (sz:=k) (f:=fun i j=>c.getD (l.base+0*l.sz+i*k+j) undef) (fun _=>⟨.inr rfl,rfl⟩) (by omega) (fun i hi=>⟨(hr i hi).1,(hr i hi).2.1⟩) (fun i j hi hj=>?_) (fun i j hi hj=>((hr i hi).2.2 j hj).1) (fun i j hi hj=>?_)
    ·have h4:=Nat.mul_le_mul_right k (show i+1<=es.length by omega);rw[Nat.add_mul,Nat.one_mul]at h4;show w.cell? ⟨l.b,l.base+0*l.sz+i*k+j,none⟩=_;exact cell?_row' hcell (by omega)
    ·have h3:=((hr i hi).2.2 j hj).2;rw[show l.base+0*l.sz+i*k+j=l.base+i*k+j by omega];exact h3.mono hm
  ·obtain⟨k2,rfl⟩:∃ k2,i=pre.length+(k2+1):=⟨i - pre.length - 1,by omega⟩;have e1:(pre++([AV.isl es]++post)).getD (pre.length+(k2+1)) .un=post.getD k2 .un:=by simp[List.getD,List.getElem?_append_right]
   have e2:(pre++([AV.sl id 0 es.length cap]++post)).getD (pre.length+(k2+1)) .un=post.getD k2 .un:=by simp[List.getD,List.getElem?_append_right]
   rw[e2]at h1;rw[e1];exact h1.mono hm
 obtain⟨v,H',E2,w',r,fr,hK,k1,k2,k3,k4,k5,k6⟩:=h.2 E' w vargs hR hA' cs;refine⟨v,H',E2,w',r,fr,hK,k1,⟨hm.trans k2.mono,k2.size,fun b hb hnl=>k2.same b hb (fun hl'=>hnl (hsub b hl').1),fun b hb=>?_,fun b hb=>?_,k2.os,k2.tape,k2.output⟩,k3,k4,k5,k6⟩
 ·rcases k2.newfro b hb with (h1 | h1) | h1 | h1
  ·exact .inl h1
  ·exact .inr (.inr (h1 ▸ hlv))
  ·exact .inr (.inl h1)
  ·exact .inr (.inr (hsub b h1).1)
 ·rcases k2.newlive b hb with h1 | h1
  ·exact .inl (hsub b h1).1
  ·exact .inr h1
theorem OwnK.freeze{P:Program}{G:Gl}{k:Nat}{f:FuncId}{pre post:List AV}{H:List AO}{s:AV}{es:List AV}{K:AV->List AO->Prop}(ho:OwnK k H s es)(hpure:AV.purL es=true)
  (h:∀ H',(∀ j,zAl s≠some j->H'[j]?=H[j]?)->AC P G f (pre++([frS es]++post)) H' K):AC P G f (pre++([s]++post)) H K:=by
 cases ho with
 | nil=>exact h H (fun _ _=>rfl)
 | row hid h0 =>
  rename_i id;refine AC.freezeArgK hid h0 hpure ?_;have:=h (H.set id .dead) (fun j hj=>zQ (fun e=>hj (by simp[zAl,e])))
  rwa [zFa h0]at this
end Go.Ab
namespace Go.Ab.Pd
open Go.Proofs
open Go.Proofs.Tryz renaming prog->zP
theorem e93:Ent zP 93 Tryz.f93 [] 2:=.mk Tryz.func93 rfl
attribute [push_cast] Tryz.f93
theorem there_pur{s:AV}{ws:List Int}(hs:IsSl s (ws.map U))(hw:∀ w∈ws,inU w)(hl:ws.length<=2^20){k:Int}(h0:0<=k)(h1:k < 2^40):Pur zP GG 93 [s,I k] (B (zBv ws k.toNat)):=by
 have hpu:=hs.pur (zAc U _ fun _=>rfl);have hlen:=hs.len (P:=zP) un28;rw[zM]at hlen;have d0:decide (0<=k)=true:=zT h0;have hq0:k.tdiv 64=k / 64:=Int.tdiv_eq_ediv_of_nonneg h0;have hm0:k.tmod 64=k % 64:=Int.tmod_eq_emod_of_nonneg h0;have hkw:=zAh (n:=k.tdiv 64) (by omega) (by omega);have hkm:=Int.tmod_nonneg 64 h0;have hkd:=Int.tdiv_nonneg (b:=64) h0 (by decide)
 by_cases hlt:k.tdiv 64 < (ws.length:Int)
 ·have d1:decide (k.tdiv 64 < (ws.length:Int))=true:=zT hlt;have hkq:(k.tdiv 64).toNat < ws.length:=by omega
  have hx:=fun H=>hs.idx (P:=zP) un28 sz132 (i:=k.tdiv 64) (by rw[zM]; exact hlt) hkd H
  rw[zAe U ws 0 hkq]at hx;have hgu:=zEi hw (k.tdiv 64).toNat;have hbb:(0<=k.tdiv 64/\k.tdiv 64 < ((ws.map U).length:Int)):=⟨hkd,by rw[zM]; exact hlt⟩;refine goQ e93 TOk.nil 0 ?_ (by simp[AV.purL,AV.pur,hpu]);simp only[push_cast,seval,↓kw2,hlen,d0,d1,hkw,hx]
  repeat (first | refine⟨hbb,?_⟩ | refine And.intro (by omega) ?_)
  refine⟨_,rfl,zAa rfl ?_⟩;unfold zBv;rw[show k.toNat / 64=(k.tdiv 64).toNat by omega,show k.toNat % 64=(k.tmod 64).toNat by omega,<- bit_val hgu (by omega:(k.tmod 64).toNat < 64)]
 ·have d1:decide (k.tdiv 64 < (ws.length:Int))=false:=zF hlt;rw[bitAt_out (by omega)];refine goQ e93 TOk.nil 0 ?_ (by simp[AV.purL,AV.pur,hpu]);simp only[push_cast,seval,↓kw2,hlen,d0,d1,hkw];exact⟨_,rfl,zAa rfl rfl⟩
attribute [push_cast] Tryz.f36
theorem e203:Ent zP 203 Tryz.f203 [] 1:=.mk Tryz.func203 rfl
attribute [push_cast] Tryz.f203
theorem all3_pur{s:AV}{ws:List Int}(hs:IsSl s (ws.map U))(hw:∀ w∈ws,inU w)(hl:ws.length<=2^12):Pur zP GG 203 [s] (frS ((allB ws (64*ws.length)).map IA)):=by
 have hpu:=hs.pur (zAc U _ fun _=>rfl);have hlen:=hs.len (P:=zP) un28;rw[zM]at hlen;refine goQ e203 TOk.nil 0 ?_ (by simp[AV.purL,AV.pur,hpu]);simp only[push_cast,seval,↓kw2];refine FW.loopInv (fun m ts H=>∃(k:Nat) (o:AV),k+m=64*ws.length/\Own H o ((allB ws k).map IA)/\ts 0=s/\ts 3=o/\ts 4=I (k:Int)) (64*ws.length) ⟨0,_,by omega,.nil,rfl,rfl,rfl⟩ ?_
 rintro m ih ts H ⟨k,o,hk,hown,t0,t3,t4⟩
 refine FW.inLoop ?_;have w1:=zAh (n:=64*(ws.length:Int)) (by omega) (by omega);have w2:=zAh (n:=(k:Int)+1) (by omega) (by omega);have hsucc:allB ws (k+1)=allB ws k++if zBv ws k=true then [(k:Int)] else []:=by
  unfold allB;rw[List.range_succ,List.map_append,List.filter_append]
  congr 1
  by_cases hb:zBv ws k=true <;> simp[hb]
 by_cases hlt:k < 64*ws.length
 ·have d1:decide ((k:Int) < 64*(ws.length:Int))=true:=zT (by omega);refine goN ?_;simp only[push_cast,seval,↓kw2,t0,t3,t4,hlen,w1,d1];refine AC.pur (there_pur hs hw (by omega) (by omega) (by omega)) ?_;rw[show((k:Int)).toNat=k from Int.toNat_natCast k];cases hbk:zBv ws k
  ·rw[hbk]at hsucc;refine goN ?_;simp only[push_cast,seval,↓kw2,t0,t3,t4,w2];exact ih (m - 1) (by omega) _ _ ⟨k+1,o,by omega,by rw[hsucc]; simpa using hown,t0,t3,rfl⟩
  ·rw[hbk,if_pos rfl]at hsucc;have hap:=fun v=>aApp1 (P:=zP) un56 un56 ze3 rfl by3 hown v
   have hle:(allB ws k).length<=2^18:=by
    unfold allB;refine Nat.le_trans (List.length_filter_le _ _) ?_;simp;omega
   refine goN ?_;simp only[push_cast,seval,↓kw2,t0,t3,t4,w2,hap];refine⟨zEq (by rw[zM]; omega) (by decide),?_⟩;exact ih (m - 1) (by omega) _ _ ⟨k+1,_,by omega,by rw[hsucc]; exact apI,t0,rfl,rfl⟩
 ·have d1:decide ((k:Int) < 64*(ws.length:Int))=false:=zF (by omega);have hke:k=64*ws.length:=by omega
  rw[hke]at hown;refine goN ?_;simp only[push_cast,seval,↓kw2,t0,t3,t4,hlen,w1,d1];exact⟨_,rfl,hown.done (zAc IA _ fun _=>rfl)⟩
theorem e151:Ent zP 151 Tryz.f151 [] 2:=.mk Tryz.func151 rfl
attribute [push_cast] Tryz.f151
theorem meets_pur{s r:AV}{xs ys:List Int}(hs:IsSl s (xs.map U))(hr:IsSl r (ys.map U))(hx:∀ w∈xs,inU w)(hy:∀ w∈ys,inU w)(hl:xs.length<=2^12)(hl2:ys.length<=2^12):Pur zP GG 151 [s,r] (B (meetB xs ys)):=by
 have hps:=hs.pur (zAc U _ fun _=>rfl);have hpr:=hr.pur (zAc U _ fun _=>rfl);have hA:=all3_pur hs hx hl;unfold meetB;have hmem:∀ k∈allB xs (64*xs.length),0<=k/\k < 2^20:=fun k hk=>by
  have:=(allB_mem.1 hk).1;omega
 have hle:(allB xs (64*xs.length)).length<=2^18:=by
  unfold allB;refine Nat.le_trans (List.length_filter_le _ _) ?_;simp;omega
 generalize allB xs (64*xs.length)=l at hA hmem hle
 have hL:IsSl (frS (l.map IA)) (l.map IA):=IsSl.frS _
 generalize frS (l.map IA)=o at hA hL
 have hlen:=hL.len (P:=zP) un56;rw[zM]at hlen;have hidx:=fun(i:Nat) (hi:i < l.length) (H:List AO)=>hL.idx (P:=zP) un56 sz3 (i:=(i:Int)) (by rw[zM]; omega) (by omega) H
 refine goQ e151 TOk.nil 0 ?_ (by simp[AV.purL,AV.pur,hps,hpr]);simp only[push_cast,seval,↓kw2];refine AC.pur hA ?_;refine goN ?_;simp only[push_cast,seval,↓kw2];refine FW.loopInv (fun m ts H=>∃ i:Nat,i+m=l.length/\((l.drop i).any fun k=>zBv ys k.toNat)=(l.any fun k=>zBv ys k.toNat)/\ts 1=r/\ts 5=o/\ts 6=I (i:Int)) l.length ⟨0,by omega,rfl,rfl,rfl,rfl⟩ ?_
 rintro m ih ts H ⟨i,hi,hf,t1,t5,t6⟩
 refine FW.inLoop ?_;have w2:=zAh (n:=(i:Int)+1) (by omega) (by omega)
 by_cases hlt:i < l.length
 ·have d1:decide ((i:Int) < (l.length:Int))=true:=zT (by omega);have hxi:=hidx i hlt;simp only[Int.toNat_natCast]at hxi;rw[zAe IA l 0 hlt]at hxi;have hk:=hmem (l.getD i 0) (by simp[List.getD,hlt]);rw[zAr 0 hlt,List.any_cons]at hf
  generalize l.getD i 0=k at hxi hk hf
  have hbb:(0<=(i:Int)/\(i:Int) < ((l.map IA).length:Int)):=⟨by omega,by rw[zM]; omega⟩;refine goN ?_;simp only[push_cast,seval,↓kw2,t1,t5,t6,hlen,d1,hxi]
  repeat (first | refine⟨hbb,?_⟩ | refine And.intro (by omega) ?_)
  refine AC.pur (there_pur hr hy (by omega) hk.1 (by omega)) ?_;cases hbk:zBv ys k.toNat
  ·rw[hbk,Bool.false_or]at hf;refine goN ?_;simp only[push_cast,seval,↓kw2,t1,t5,t6,w2];exact ih (m - 1) (by omega) _ _ ⟨i+1,by omega,hf,t1,t5,rfl⟩
  ·rw[hbk,Bool.true_or]at hf;refine goN ?_;simp only[push_cast,seval,↓kw2,t1,t5,t6,w2];exact⟨_,rfl,zAa rfl (by rw[<- hf])⟩
 ·have d1:decide ((i:Int) < (l.length:Int))=false:=zF (by omega);rw[List.drop_eq_nil_of_le (by omega)]at hf;refine goN ?_;simp only[push_cast,seval,↓kw2,t1,t5,t6,hlen,d1];exact⟨_,rfl,zAa rfl (by rw[<- hf]; rfl)⟩
theorem e200:Ent zP 200 Tryz.f200 [] 2:=.mk Tryz.func200 rfl
attribute [push_cast] Tryz.f200
theorem from_pur{s:AV}{l:List Int}(hs:IsSl s (l.map IA)){n:Int}(hn:1<=n/\n<=12288)(hl:∀ k∈l,0<=k/\k < n)(hle:l.length<=2^26):Pur zP GG 200 [I n,s] (.isl ((ofL n l).map U)):=by
 have hpu:=hs.pur (zAc IA _ fun _=>rfl);have hlen:=hs.len (P:=zP) un56;rw[zM]at hlen;have hidx:=fun(i:Nat) (hi:i < l.length) (H:List AO)=>hs.idx (P:=zP) un56 sz3 (i:=(i:Int)) (by rw[zM]; omega) (by omega) H
 have hw:zBe n=(n+63) / 64:=by rw[zBe,if_pos hn]
 have e1:(n+63).tdiv 64=(n+63) / 64:=Int.tdiv_eq_ediv_of_nonneg (by omega);have w0:=zAh (n:=n+63) (by omega) (by omega);have w1:=zAh (n:=(n+63) / 64) (by omega) (by omega);obtain⟨q,hq⟩:∃ q,((n+63) / 64).toNat=q+1:=⟨((n+63) / 64).toNat - 1,by omega⟩;refine goQ e200 TOk.nil 0 ?_ (by simp[AV.purL,AV.pur,hpu]);simp only[push_cast,seval,↓kw2,w0,e1,w1,hq]
 repeat (first | refine⟨⟨by omega,by omega⟩,?_⟩ | refine⟨⟨by omega,by omega,by omega⟩,?_⟩ | refine And.intro (by omega) ?_)
 refine FW.loopInv (fun m ts H=>∃(i:Nat) (ws:List Int),i+m=l.length/\(l.drop i).foldl setW ws=ofL n l/\ws.length=q+1/\(∀ w∈ws,inU w)/\H=[.arr 1 (ws.map U)]/\ts 1=s/\ts 5=.sl 0 0 (q+1) (q+1)/\ts 6=I (i:Int)) l.length
  ⟨0,List.replicate (q+1) 0,by omega,by unfold ofL; rw[hw,hq]; rfl,by simp,fun w hw=>by rw[List.eq_of_mem_replicate hw]; exact inU_0,by simp,rfl,rfl,rfl⟩ ?_
 rintro m ih ts H ⟨i,ws,hi,hws,hwl,hwu,rfl,t1,t5,t6⟩
 refine FW.inLoop ?_;have w2:=zAh (n:=(i:Int)+1) (by omega) (by omega)
 by_cases hlt:i < l.length
 ·have d1:decide ((i:Int) < (l.length:Int))=true:=zT (by omega);have hxi:=hidx i hlt;simp only[Int.toNat_natCast]at hxi;rw[zAe IA l 0 hlt]at hxi;have hk:=hl (l.getD i 0) (by simp[List.getD,hlt]);rw[zAr 0 hlt,List.foldl_cons]at hws
  generalize l.getD i 0=k at hxi hk hws
  have hbb:(0<=(i:Int)/\(i:Int) < ((l.map IA).length:Int)):=⟨by omega,by rw[zM]; omega⟩;have hkd0:=Int.tdiv_eq_ediv_of_nonneg (b:=64) hk.1;have hkw:=zAh (n:=k.tdiv 64) (by omega) (by omega);have hkq:(k.tdiv 64).toNat < ws.length:=by omega
  have hkq':(k.tdiv 64).toNat < (ws.map U).length:=by rw[zM]; exact hkq
  have hgd:=zAe U ws 0 hkq;have hkm:=Int.tmod_nonneg 64 hk.1;have hkd:=Int.tdiv_nonneg (b:=64) hk.1 (by decide);refine goN ?_;simp only[push_cast,seval,↓kw2,t1,t5,t6,hlen,d1,hxi]
  repeat (first | refine⟨hbb,?_⟩ | refine And.intro (by omega) ?_)
  refine AC.view ggp (n:=2) (args':=[.isl (ws.map U),I k]) ?_ (by simp[AV.purL,AV.pur]) rfl (there_pur (.inl rfl) hwu (by omega) hk.1 (by omega)) ?_
  ·have hown:Own [.arr 1 (ws.map U)] (.sl 0 0 (q+1) (q+1)) (ws.map U):=by
    have:=Own.row (H:=[.arr 1 (ws.map U)]) (id:=0) rfl (by rw[zM,hwl]; omega)
    rwa [zM,hwl]at this
   have hf:=hown.frz (zAc U _ fun _=>rfl) (n:=0);rw[zFa (by rw[zM,hwl]; omega)]at hf;show mapO (frz 2 [.arr 1 (ws.map U)]) [.sl 0 0 (q+1) (q+1),I k]=_;rw[mapO,hf];rfl
  ·cases hbk:zBv ws k.toNat
   ·have hadd:=from_add hwu hk.1 hbk;have hset:(ws.map U).set (k.tdiv 64).toNat (.c (.int .u64 (addW (ws.getD (k.tdiv 64).toNat 0) k)))=(setW ws k).map U:=by rw[hadd,List.map_set]
    refine goN ?_;simp only[push_cast,seval,↓kw2,t1,t5,t6,w2,hxi,hkw,hkq',hgd]
    repeat (first | refine⟨hbb,?_⟩ | refine And.intro (by omega) ?_)
    exact ih (m - 1) (by omega) _ _ ⟨i+1,setW ws k,by omega,hws,by rw[setW_length,hwl],setW_inU hwu k,congrArg (fun q=>[AO.arr 1 q]) hset,t1,t5,rfl⟩
   ·have hsame:=from_same hwu hk.1 (by omega) hbk;rw[hsame]at hws;refine goN ?_;simp only[push_cast,seval,↓kw2,t1,t5,t6,w2];exact ih (m - 1) (by omega) _ _ ⟨i+1,ws,by omega,hws,hwl,hwu,rfl,t1,t5,rfl⟩
 ·have d1:decide ((i:Int) < (l.length:Int))=false:=zF (by omega);rw[List.drop_eq_nil_of_le (by omega)]at hws;have hws':ws=ofL n l:=hws;subst hws';refine goN ?_;simp only[push_cast,seval,↓kw2,t1,t5,t6,hlen,d1];have hown:Own [.arr 1 ((ofL n l).map U)] (.sl 0 0 (q+1) (q+1)) ((ofL n l).map U):=by
   have:=Own.row (H:=[.arr 1 ((ofL n l).map U)]) (id:=0) rfl (by rw[zM,hwl]; omega)
   rwa [zM,hwl]at this
  obtain⟨m',hm'⟩:=hown.done (zAc U _ (fun _=>rfl));exact⟨_,rfl,m',by rw[hm',zFa (by rw[zM,hwl]; omega)]⟩
theorem e47:Ent zP 47 Tryz.f47 [] 2:=.mk Tryz.func47 rfl
attribute [push_cast] Tryz.f47
theorem may02(a b c x y z p q r:Int):Pur zP GG 47 [.agg [I a,I b,I c],.agg [I x,I y,I z,I p,I q,I r]] (B (decide (okB a b c x y z p q r))):=by
 refine goQ e47 Q5_ok 5 ?_;simp(maxSteps:=2000000)only[push_cast,seval,↓kw2]
 repeat' (first | apply And.intro | intro _)
 all_goals
  refine⟨_,rfl,zAa rfl ?_⟩;simp only[AV.c.injEq,Value.bool.injEq]
  first | exact(zT (by unfold okB ok1; omega)).symm | exact(zF (by unfold okB ok1; omega)).symm
@[push_cast] def g47:List AV->Option (Prop × AV)
 | [.agg [(.c (.int .i64 a)),(.c (.int .i64 b)),(.c (.int .i64 c))],.agg [(.c (.int .i64 x)),(.c (.int .i64 y)),(.c (.int .i64 z)),(.c (.int .i64 p)),(.c (.int .i64 q)),(.c (.int .i64 r))]]=>some (True,B (decide (okB a b c x y z p q r)))
 | _=>none
theorem g47_ok:∀ args p,g47 args=some p->p.1->Pur zP GG 47 args p.2:=by
 intro args p hp hc
 unfold g47 at hp
 split at hp
 ·cases hp;exact may02 _ _ _ _ _ _ _ _ _
 ·cases hp
@[push_cast] def Q6:Tab:=Tab.ext Q5 47 g47
theorem Q6_ok:TOk zP GG Q6:=TOk.ext Q5_ok g47_ok
theorem can_0{n s x:Int}:can 0 n s x=if s=n then 0 else x:=by unfold can; rw[if_pos rfl]
theorem e133:Ent zP 133 Tryz.f133 [] 2:=.mk Tryz.func133 rfl
attribute [push_cast] Tryz.f133
theorem told02(a b c x y z p q r:Int):Pur zP GG 133 [.agg [I a,I b,I c],.agg [I x,I y,I z,I p,I q,I r]] (.agg [I (can 0 a p x),I (can 0 b q y),I (can 0 c r z),I p,I q,I r]):=by
 refine goQ e133 Q6_ok 5 ?_;simp(maxSteps:=2000000)only[push_cast,seval,↓kw2]
 repeat' (first | apply And.intro | intro _)
 all_goals
  refine⟨_,rfl,zAa rfl ?_⟩;simp[can_0, *]
@[push_cast] def g133:List AV->Option (Prop × AV)
 | [.agg [(.c (.int .i64 a)),(.c (.int .i64 b)),(.c (.int .i64 c))],.agg [(.c (.int .i64 x)),(.c (.int .i64 y)),(.c (.int .i64 z)),(.c (.int .i64 p)),(.c (.int .i64 q)),(.c (.int .i64 r))]]=>some (True,.agg [I (can 0 a p x),I (can 0 b q y),I (can 0 c r z),I p,I q,I r])
 | _=>none
theorem g133_ok:∀ args p,g133 args=some p->p.1->Pur zP GG 133 args p.2:=by
 intro args p hp hc
 unfold g133 at hp
 split at hp
 ·cases hp;exact told02 _ _ _ _ _ _ _ _ _
 ·cases hp
@[push_cast] def Q7:Tab:=Tab.ext Q6 133 g133
theorem Q7_ok:TOk zP GG Q7:=TOk.ext Q6_ok g133_ok
theorem e241:Ent zP 241 Tryz.f241 [] 3:=.mk Tryz.func241 rfl
attribute [push_cast] Tryz.f241
theorem in02_pur{a b c x y z p q r m:Int}(hm:inM a b c m)(hb:okB a b c x y z p q r):Pur zP GG 241 [.agg [I a,I b,I c],.agg [I x,I y,I z,I p,I q,I r],I m] (B (inB a b c x y z p q r m)):=by
 have hd:=hm.1;have hb':=hb;unfold okD at hd;unfold okB ok1 at hb';unfold inB;refine goQ e241 Q7_ok 0 ?_;simp(maxSteps:=2000000)only[push_cast,seval,↓kw2]
 repeat (first | refine⟨hm,?_⟩)
 generalize ofX a b c m=X
 generalize ofY a b c m=Y
 generalize ofZ a b c m=Z
 obtain⟨rest,h0,h1,h2,h3⟩:∃ rest:Int->Bool,rest 0=(axN a x X p.toNat&&(axN b y Y q.toNat&&axN c z Z r.toNat))/\rest 1=(axN b y Y q.toNat&&axN c z Z r.toNat)/\rest 2=axN c z Z r.toNat/\rest 3=true :=
  ⟨fun i=>if i=0 then (axN a x X p.toNat&&(axN b y Y q.toNat&&axN c z Z r.toNat)) else if i=1 then (axN b y Y q.toNat&&axN c z Z r.toNat) else if i=2 then axN c z Z r.toNat else true,rfl,rfl,rfl,rfl⟩
 rw[<- h0];refine FW.loopInv (fun n ts H=>∃ i:Int,i+(n:Int)=3/\0<=i/\rest i=rest 0/\H=[.cells [I a,I b,I c],.cells [I x,I y,I z,I p,I q,I r],.cells [I X,I Y,I Z]]/\ts 3=.ptr 0 0/\ts 4=.ptr 1 0/\ts 7=.ptr 2 0/\ts 8=I i) 3
  ⟨0,by omega,by omega,rfl,rfl,rfl,rfl,rfl,rfl⟩ ?_
 rintro n ih ts H ⟨i,hi,hi0,hr,rfl,t3,t4,t7,t8⟩
 refine FW.inLoop ?_;have hcs:i=0\/i=1\/i=2\/i=3:=by omega
 rcases hcs with rfl | rfl | rfl | rfl
 ·skip
  refine goN ?_;simp(maxSteps:=2000000)only[push_cast,seval,↓kw2,t3,t4,t7,t8];refine FW.loopInv (fun l ts H=>∃ k:Nat,k+l=(p).toNat/\H=[.cells [I a,I b,I c],.cells [I x,I y,I z,I p,I q,I r],.cells [I X,I Y,I Z]]/\ts 3=.ptr 0 0/\ts 4=.ptr 1 0/\ts 7=.ptr 2 0/\ts 8=I 0/\ts 9=B (axN a x X k)/\ts 10=I (k:Int)) (p).toNat
   ⟨0,by omega,rfl,t3,t4,t7,t8,rfl,rfl⟩ ?_
  clear t3 t4 t7 t8 ts
  rintro l ihl ts H ⟨k,hk,rfl,t3,t4,t7,t8,t9,t10⟩
  refine FW.inLoop ?_;have w1:=zAh (n:=x+(k:Int)) (by omega) (by omega);have w2:=zAh (n:=(k:Int)+1) (by omega) (by omega);have hn0:¬a=0:=by omega
  have hsc:=axN_succ a x X k
  by_cases hlt:(k:Int) < p
  ·have d1:decide ((k:Int) < p)=true:=zT hlt
   by_cases he:(x+(k:Int)).tmod a=X
   ·have d2:decide ((x+(k:Int)).tmod a=X)=true:=zT he;rw[d2,Bool.or_true]at hsc;refine goN ?_;simp(maxSteps:=2000000)only[push_cast,seval,↓kw2,t3,t4,t7,t8,t9,t10,w1,w2,d1,d2]
    repeat (first | refine⟨hn0,?_⟩ | refine And.intro (by omega) ?_)
    exact ihl (l - 1) (by omega) _ _ ⟨k+1,by omega,rfl,t3,t4,t7,t8,by rw[hsc]; rfl,rfl⟩
   ·have d2:decide ((x+(k:Int)).tmod a=X)=false:=zF he;rw[d2,Bool.or_false]at hsc;refine goN ?_;simp(maxSteps:=2000000)only[push_cast,seval,↓kw2,t3,t4,t7,t8,t9,t10,w1,w2,d1,d2]
    repeat (first | refine⟨hn0,?_⟩ | refine And.intro (by omega) ?_)
    exact ihl (l - 1) (by omega) _ _ ⟨k+1,by omega,rfl,t3,t4,t7,t8,by rw[hsc]; exact t9,rfl⟩
  ·have d1:decide ((k:Int) < p)=false:=zF hlt;have hke:k=(p).toNat:=by omega
   subst hke;have hrs:rest 0=(axN a x X (p).toNat&&rest 1):=by simp[h0,h1,h2,h3]
   cases hx:axN a x X (p).toNat
   ·rw[hx]at t9;rw[hx,Bool.false_and]at hrs;refine goN ?_;simp(maxSteps:=2000000)only[push_cast,seval,↓kw2,t3,t4,t7,t8,t9,t10,d1];exact⟨_,rfl,zAa rfl (by rw[<- hr,hrs])⟩
   ·rw[hx]at t9;rw[hx,Bool.true_and]at hrs;refine goN ?_;simp(maxSteps:=2000000)only[push_cast,seval,↓kw2,t3,t4,t7,t8,t9,t10,d1];exact ih (n - 1) (by omega) _ _ ⟨1,by omega,by omega,hrs.symm.trans hr,rfl,t3,t4,t7,rfl⟩
 ·skip
  refine goN ?_;simp(maxSteps:=2000000)only[push_cast,seval,↓kw2,t3,t4,t7,t8];refine FW.loopInv (fun l ts H=>∃ k:Nat,k+l=(q).toNat/\H=[.cells [I a,I b,I c],.cells [I x,I y,I z,I p,I q,I r],.cells [I X,I Y,I Z]]/\ts 3=.ptr 0 0/\ts 4=.ptr 1 0/\ts 7=.ptr 2 0/\ts 8=I 1/\ts 9=B (axN b y Y k)/\ts 10=I (k:Int)) (q).toNat
   ⟨0,by omega,rfl,t3,t4,t7,t8,rfl,rfl⟩ ?_
  clear t3 t4 t7 t8 ts
  rintro l ihl ts H ⟨k,hk,rfl,t3,t4,t7,t8,t9,t10⟩
  refine FW.inLoop ?_;have w1:=zAh (n:=y+(k:Int)) (by omega) (by omega);have w2:=zAh (n:=(k:Int)+1) (by omega) (by omega);have hn0:¬b=0:=by omega
  have hsc:=axN_succ b y Y k
  by_cases hlt:(k:Int) < q
  ·have d1:decide ((k:Int) < q)=true:=zT hlt
   by_cases he:(y+(k:Int)).tmod b=Y
   ·have d2:decide ((y+(k:Int)).tmod b=Y)=true:=zT he;rw[d2,Bool.or_true]at hsc;refine goN ?_;simp(maxSteps:=2000000)only[push_cast,seval,↓kw2,t3,t4,t7,t8,t9,t10,w1,w2,d1,d2]
    repeat (first | refine⟨hn0,?_⟩ | refine And.intro (by omega) ?_)
    exact ihl (l - 1) (by omega) _ _ ⟨k+1,by omega,rfl,t3,t4,t7,t8,by rw[hsc]; rfl,rfl⟩
   ·have d2:decide ((y+(k:Int)).tmod b=Y)=false:=zF he;rw[d2,Bool.or_false]at hsc;refine goN ?_;simp(maxSteps:=2000000)only[push_cast,seval,↓kw2,t3,t4,t7,t8,t9,t10,w1,w2,d1,d2]
    repeat (first | refine⟨hn0,?_⟩ | refine And.intro (by omega) ?_)
    exact ihl (l - 1) (by omega) _ _ ⟨k+1,by omega,rfl,t3,t4,t7,t8,by rw[hsc]; exact t9,rfl⟩
  ·have d1:decide ((k:Int) < q)=false:=zF hlt;have hke:k=(q).toNat:=by omega
   subst hke;have hrs:rest 1=(axN b y Y (q).toNat&&rest 2):=by simp[h0,h1,h2,h3]
   cases hx:axN b y Y (q).toNat
   ·rw[hx]at t9;rw[hx,Bool.false_and]at hrs;refine goN ?_;simp(maxSteps:=2000000)only[push_cast,seval,↓kw2,t3,t4,t7,t8,t9,t10,d1];exact⟨_,rfl,zAa rfl (by rw[<- hr,hrs])⟩
   ·rw[hx]at t9;rw[hx,Bool.true_and]at hrs;refine goN ?_;simp(maxSteps:=2000000)only[push_cast,seval,↓kw2,t3,t4,t7,t8,t9,t10,d1];exact ih (n - 1) (by omega) _ _ ⟨2,by omega,by omega,hrs.symm.trans hr,rfl,t3,t4,t7,rfl⟩
 ·skip
  refine goN ?_;simp(maxSteps:=2000000)only[push_cast,seval,↓kw2,t3,t4,t7,t8];refine FW.loopInv (fun l ts H=>∃ k:Nat,k+l=(r).toNat/\H=[.cells [I a,I b,I c],.cells [I x,I y,I z,I p,I q,I r],.cells [I X,I Y,I Z]]/\ts 3=.ptr 0 0/\ts 4=.ptr 1 0/\ts 7=.ptr 2 0/\ts 8=I 2/\ts 9=B (axN c z Z k)/\ts 10=I (k:Int)) (r).toNat
   ⟨0,by omega,rfl,t3,t4,t7,t8,rfl,rfl⟩ ?_
  clear t3 t4 t7 t8 ts
  rintro l ihl ts H ⟨k,hk,rfl,t3,t4,t7,t8,t9,t10⟩
  refine FW.inLoop ?_;have w1:=zAh (n:=z+(k:Int)) (by omega) (by omega);have w2:=zAh (n:=(k:Int)+1) (by omega) (by omega);have hn0:¬c=0:=by omega
  have hsc:=axN_succ c z Z k
  by_cases hlt:(k:Int) < r
  ·have d1:decide ((k:Int) < r)=true:=zT hlt
   by_cases he:(z+(k:Int)).tmod c=Z
   ·have d2:decide ((z+(k:Int)).tmod c=Z)=true:=zT he;rw[d2,Bool.or_true]at hsc;refine goN ?_;simp(maxSteps:=2000000)only[push_cast,seval,↓kw2,t3,t4,t7,t8,t9,t10,w1,w2,d1,d2]
    repeat (first | refine⟨hn0,?_⟩ | refine And.intro (by omega) ?_)
    exact ihl (l - 1) (by omega) _ _ ⟨k+1,by omega,rfl,t3,t4,t7,t8,by rw[hsc]; rfl,rfl⟩
   ·have d2:decide ((z+(k:Int)).tmod c=Z)=false:=zF he;rw[d2,Bool.or_false]at hsc;refine goN ?_;simp(maxSteps:=2000000)only[push_cast,seval,↓kw2,t3,t4,t7,t8,t9,t10,w1,w2,d1,d2]
    repeat (first | refine⟨hn0,?_⟩ | refine And.intro (by omega) ?_)
    exact ihl (l - 1) (by omega) _ _ ⟨k+1,by omega,rfl,t3,t4,t7,t8,by rw[hsc]; exact t9,rfl⟩
  ·have d1:decide ((k:Int) < r)=false:=zF hlt;have hke:k=(r).toNat:=by omega
   subst hke;have hrs:rest 2=(axN c z Z (r).toNat&&rest 3):=by simp[h0,h1,h2,h3]
   cases hx:axN c z Z (r).toNat
   ·rw[hx]at t9;rw[hx,Bool.false_and]at hrs;refine goN ?_;simp(maxSteps:=2000000)only[push_cast,seval,↓kw2,t3,t4,t7,t8,t9,t10,d1];exact⟨_,rfl,zAa rfl (by rw[<- hr,hrs])⟩
   ·rw[hx]at t9;rw[hx,Bool.true_and]at hrs;refine goN ?_;simp(maxSteps:=2000000)only[push_cast,seval,↓kw2,t3,t4,t7,t8,t9,t10,d1];exact ih (n - 1) (by omega) _ _ ⟨3,by omega,by omega,hrs.symm.trans hr,rfl,t3,t4,t7,rfl⟩
 ·skip
  refine goN ?_;simp(maxSteps:=2000000)only[push_cast,seval,↓kw2,t3,t4,t7,t8];exact⟨_,rfl,zAa rfl (by rw[<- hr,h3])⟩
def boxN(a b c x y z p q r:Int)(k:Nat):List Int:=((List.range k).map Int.ofNat).filter fun m=>inB a b c x y z p q r m
theorem boxN_succ(a b c x y z p q r:Int)(k:Nat):boxN a b c x y z p q r (k+1)=boxN a b c x y z p q r k++if inB a b c x y z p q r (k:Int)=true then [(k:Int)] else []:=by
 unfold boxN;rw[List.range_succ,List.map_append,List.filter_append]
 congr 1
 by_cases hb:inB a b c x y z p q r (k:Int)=true <;> simp[hb]
theorem boxN_len(a b c x y z p q r:Int)(k:Nat):(boxN a b c x y z p q r k).length<=k:=by
 unfold boxN;refine Nat.le_trans (List.length_filter_le _ _) ?_;simp
theorem e201:Ent zP 201 Tryz.f201 [] 2:=.mk Tryz.func201 rfl
attribute [push_cast] Tryz.f201
theorem all02_pur{a b c x y z p q r:Int}(hd:okD a b c)(hb:okB a b c x y z p q r):Pur zP GG 201 [.agg [I a,I b,I c],.agg [I x,I y,I z,I p,I q,I r]] (frS ((boxL a b c x y z p q r).map IA)):=by
 have hmu:=zBz hd;have hN:=n01 a b c hd;refine goQ e201 TOk.nil 0 ?_;simp(maxSteps:=2000000)only[push_cast,seval,↓kw2];refine FW.loopInv (fun n ts H=>∃(k:Nat) (o:AV),k+n=(a*b*c).toNat/\Own H o ((boxN a b c x y z p q r k).map IA)/\zAl o≠some 0/\zAl o≠some 1/\H[0]?=some (.cells [I a,I b,I c])/\H[1]?=some (.cells [I x,I y,I z,I p,I q,I r])/\ts 2=.ptr 0 0/\ts 3=.ptr 1 0/\ts 5=o/\ts 6=I (k:Int)) (a*b*c).toNat
  ⟨0,_,by omega,.nil,by simp[zAl],by simp[zAl],rfl,rfl,rfl,rfl,rfl,rfl⟩ ?_
 rintro n ih ts H ⟨k,o,hk,hown,ho0,ho1,m0,m1,t2,t3,t5,t6⟩
 refine FW.inLoop ?_;have w2:=zAh (n:=(k:Int)+1) (by omega) (by omega);have hsc:=boxN_succ a b c x y z p q r k;have hle:=boxN_len a b c x y z p q r k
 by_cases hlt:(k:Int) < a*b*c
 ·have d1:decide ((k:Int) < a*b*c)=true:=zT hlt;refine goN ?_;simp(maxSteps:=2000000)only[push_cast,seval,↓kw2,m0,m1,t2,t3,t5,t6];refine AC.pur hN ?_;refine goN ?_;simp(maxSteps:=2000000)only[push_cast,seval,↓kw2,m0,m1,t2,t3,t5,t6,d1];refine AC.pur (in02_pur ⟨hd,by omega,hlt⟩ hb) ?_;cases hin:inB a b c x y z p q r (k:Int)
  ·rw[hin]at hsc;refine goN ?_;simp(maxSteps:=2000000)only[push_cast,seval,↓kw2,m0,m1,t2,t3,t5,t6,w2];exact ih (n - 1) (by omega) _ _ ⟨k+1,o,by omega,by rw[hsc]; simpa using hown,ho0,ho1,m0,m1,t2,t3,t5,rfl⟩
  ·rw[hin,if_pos rfl]at hsc;have hap:=fun v=>aApp1 (P:=zP) un56 un56 ze3 rfl by3 hown v
   have hl0:=zAd m0;have hl1:=zAd m1;refine goN ?_;simp(maxSteps:=2000000)only[push_cast,seval,↓kw2,m0,m1,t2,t3,t5,t6,w2,hap];refine⟨zEq (by rw[zM]; omega) (by decide),?_⟩;exact ih (n - 1) (by omega) _ _ ⟨k+1,_,by omega,by rw[hsc]; exact apI,ownNe (by omega),ownNe (by omega),(zFt hl0 ho0).trans m0,(zFt hl1 ho1).trans m1,t2,t3,rfl,rfl⟩
 ·have d1:decide ((k:Int) < a*b*c)=false:=zF hlt;have hke:k=(a*b*c).toNat:=by omega
  subst hke;refine goN ?_;simp(maxSteps:=2000000)only[push_cast,seval,↓kw2,m0,m1,t2,t3,t5,t6];refine AC.pur hN ?_;refine goN ?_;simp(maxSteps:=2000000)only[push_cast,seval,↓kw2,m0,m1,t2,t3,t5,t6,d1];exact⟨_,rfl,hown.done (zAc IA _ fun _=>rfl)⟩
theorem e292:Ent zP 292 Tryz.f292 [] 5:=.mk Tryz.func292 rfl
attribute [push_cast] Tryz.f292
theorem among_pur{a b c k m:Int}(hk:0<=k/\k<=2)(hm:inM a b c m){N:Nat}(hN:N<=16)(o:Int):Pur zP GG 292 [.agg [I a,I b,I c],I k,I m,I (N:Int),I o] (B (zEy a b c k m o N)):=by
 refine goQ e292 TOk.nil 0 ?_;simp only[push_cast,seval,↓kw2];refine FW.loopInv (fun n ts H=>∃ i:Nat,i+n=N/\zEy a b c k m o i=false/\H=[.cells [I a,I b,I c]]/\ts 1=I k/\ts 2=I m/\ts 3=I (N:Int)/\ts 4=I o/\ts 5=.ptr 0 0/\ts 11=I (i:Int)) N
  ⟨0,by omega,rfl,rfl,rfl,rfl,rfl,rfl,rfl,rfl⟩ ?_
 rintro n ih ts H ⟨i,hi,hf,rfl,t1,t2,t3,t4,t5,t11⟩
 refine FW.inLoop ?_;have w2:=zAh (n:=(i:Int)+1) (by omega) (by omega);have hs:=among_succ a b c k m o i;rw[hf,Bool.false_or]at hs
 by_cases hlt:i < N
 ·have d1:decide ((i:Int) < (N:Int))=true:=zT (by omega);refine goN ?_;simp only[push_cast,seval,↓kw2,t1,t2,t3,t4,t5,t11,d1];refine AC.pur (on01 hk hm (i:Int)) ?_
  by_cases he:stV a b c m k (i:Int)=o
  ·have d2:decide (stV a b c m k (i:Int)=o)=true:=zT he;rw[d2]at hs;refine goN ?_;simp only[push_cast,seval,↓kw2,t1,t2,t3,t4,t5,t11,d2];refine⟨_,rfl,zAa rfl ?_⟩;have:∀ j:Nat,zEy a b c k m o (i+1+j)=true:=fun j=>by
    induction j with
    | zero=>exact hs
    | succ j ihj=>rw[<- Nat.add_assoc,among_succ,ihj,Bool.true_or]
   have:=this (N - (i+1));rw[show i+1+(N - (i+1))=N by omega]at this;rw[this]
  ·have d2:decide (stV a b c m k (i:Int)=o)=false:=zF he;rw[d2]at hs;refine goN ?_;simp only[push_cast,seval,↓kw2,t1,t2,t3,t4,t5,t11,d2,w2];exact ih (n - 1) (by omega) _ _ ⟨i+1,by omega,hs,rfl,t1,t2,t3,t4,t5,rfl⟩
 ·have d1:decide ((i:Int) < (N:Int))=false:=zF (by omega);have:i=N:=by omega
  subst this;refine goN ?_;simp only[push_cast,seval,↓kw2,t1,t2,t3,t4,t5,t11,d1];exact⟨_,rfl,zAa rfl (by rw[hf])⟩
def takN(a b c k m:Int)(N i:Nat):List Int:=(((List.range i).map Int.ofNat).filter fun o=>zEy a b c k m o N).map fun o=>k*(a*b*c)+o
theorem takN_succ(a b c k m:Int)(N i:Nat):takN a b c k m N (i+1)=takN a b c k m N i++if zEy a b c k m (i:Int) N=true then [k*(a*b*c)+(i:Int)] else []:=by
 unfold takN;rw[List.range_succ,List.map_append,List.filter_append,List.map_append]
 congr 1
 by_cases hb:zEy a b c k m (i:Int) N=true <;> simp[hb]
theorem takN_len(a b c k m:Int)(N i:Nat):(takN a b c k m N i).length<=i:=by
 unfold takN;rw[zM];refine Nat.le_trans (List.length_filter_le _ _) ?_;simp
theorem taken_is(a b c k m:Int)(N:Nat):takenL a b c k m N=if 1 < dimV a b c k then takN a b c k m N (a*b*c).toNat else []:=rfl
theorem e273:Ent zP 273 Tryz.f273 [] 4:=.mk Tryz.func273 rfl
attribute [push_cast] Tryz.f273
theorem taken05{a b c k m:Int}(hk:0<=k/\k<=2)(hm:inM a b c m){N:Nat}(hN:N<=16):Pur zP GG 273 [.agg [I a,I b,I c],I k,I m,I (N:Int)] (frS ((takenL a b c k m N).map IA)):=by
 have hd:=hm.1;have hmu:=zBz hd;have hN1:=n01 a b c hd;have hkm0:0<=k*(a*b*c):=Int.mul_nonneg (by omega) (by omega);have hkm1:k*(a*b*c)<=2*(a*b*c):=Int.mul_le_mul_of_nonneg_right (by omega) (by omega);have w0:=zAh (n:=k*(a*b*c)) (by omega) (by omega);have hpos:0 < a*b*c:=by have:=hm.2; omega
 rw[taken_is];refine goQ e273 TOk.nil 0 ?_;simp only[push_cast,seval,↓kw2];refine AC.pur hN1 ?_;refine goN ?_;simp only[push_cast,seval,↓kw2]
 by_cases h1:1 < dimV a b c k
 ·rw[if_pos h1];refine FW.loopInv (fun n ts H=>∃(i:Nat) (o:AV),i+n=(a*b*c).toNat/\Own H o ((takN a b c k m N i).map IA)/\zAl o≠some 0/\H[0]?=some (.cells [I a,I b,I c])/\ts 1=I k/\ts 2=I m/\ts 3=I (N:Int)/\ts 4=.ptr 0 0/\ts 9=o/\ts 10=I (a*b*c)/\ts 11=I (i:Int)) (a*b*c).toNat
   ⟨0,_,by omega,.nil,by simp[zAl],rfl,rfl,rfl,rfl,rfl,rfl,rfl,rfl⟩ ?_
  rintro n ih ts H ⟨i,o,hi,hown,ho0,m0,t1,t2,t3,t4,t9,t10,t11⟩
  refine FW.inLoop ?_;have w2:=zAh (n:=(i:Int)+1) (by omega) (by omega);have w3:=zAh (n:=k*(a*b*c)+(i:Int)) (by omega) (by omega);have hsc:=takN_succ a b c k m N i;have hle:=takN_len a b c k m N i;have hAm:=among_pur hk hm hN (i:Int);have hap:=fun v=>aApp1 (P:=zP) un56 un56 ze3 rfl by3 hown v
  have hl0:=zAd m0;have d0:=zT h1
  by_cases hlt:(i:Int) < a*b*c
  ·have d1:decide ((i:Int) < a*b*c)=true:=zT hlt;have hcs:k=0\/k=1\/k=2:=by omega
   rcases hcs with rfl | rfl | rfl
   all_goals
    simp only[dimV,if_true,if_neg (by decide:¬(1:Int)=0),if_neg (by decide:¬(2:Int)=0),if_neg (by decide:¬(2:Int)=1)]at d0;refine goN ?_;simp only[push_cast,seval,↓kw2,m0,t1,t2,t3,t4,t9,t10,t11,d1,d0];refine AC.pur hAm ?_;cases hin:zEy a b c _ m (i:Int) N
    ·rw[hin]at hsc;refine goN ?_;simp only[push_cast,seval,↓kw2,m0,t1,t2,t3,t4,t9,t10,t11,w2];exact ih (n - 1) (by omega) _ _ ⟨i+1,o,by omega,by rw[hsc]; simpa using hown,ho0,m0,t1,t2,t3,t4,t9,t10,rfl⟩
    ·rw[hin,if_pos rfl]at hsc;refine goN ?_;simp only[push_cast,seval,↓kw2,m0,t1,t2,t3,t4,t9,t10,t11,w0,w2,w3,hap];refine⟨zEq (by rw[zM]; omega) (by decide),?_⟩;exact ih (n - 1) (by omega) _ _ ⟨i+1,_,by omega,by rw[hsc]; exact apI,ownNe (by omega),(zFt hl0 ho0).trans m0,t1,t2,t3,t4,rfl,t10,rfl⟩
  ·have d1:decide ((i:Int) < a*b*c)=false:=zF hlt;have hke:i=(a*b*c).toNat:=by omega
   subst hke;refine goN ?_;simp only[push_cast,seval,↓kw2,m0,t1,t2,t3,t4,t9,t10,t11,d1];exact⟨_,rfl,hown.done (zAc IA _ fun _=>rfl)⟩
 ·rw[if_neg h1];have d0:=zF h1;have d1:decide (0 < a*b*c)=true:=zT hpos;have hcs:k=0\/k=1\/k=2:=by omega
  refine FW.inLoop ?_
  rcases hcs with rfl | rfl | rfl
  all_goals
   simp only[dimV,if_true,if_neg (by decide:¬(1:Int)=0),if_neg (by decide:¬(2:Int)=0),if_neg (by decide:¬(2:Int)=1)]at d0;refine goN ?_;simp only[push_cast,seval,↓kw2,d1,d0];exact⟨_,rfl,zAa rfl rfl⟩
theorem e242:Ent zP 242 Tryz.f242 [] 5:=.mk Tryz.func242 rfl
attribute [push_cast] Tryz.f242
theorem took05{a b c k m s:Int}(t:Bool)(hk:0<=k/\k<=2)(hm:inM a b c m)(hs:1<=s/\s<=dimV a b c k):Pur zP GG 242 [.agg [I a,I b,I c],I k,I m,I s,B t] (frS ((tookL a b c k m s t).map IA)):=by
 have hdim:=dimV_in (k:=k) hm.1;unfold tookL
 by_cases h1:s=1
 ·have d1:decide (s=1)=true:=zT h1;rw[if_pos h1];refine goQ e242 TOk.nil 0 ?_;simp only[push_cast,seval,↓kw2,d1];exact⟨_,rfl,zAa rfl rfl⟩
 ·have d1:decide (s=1)=false:=zF h1;rw[if_neg h1];have w1:=zAh (n:=s - 1) (by omega) (by omega);have hT:=taken05 hk hm (N:=(runN (dimV a b c k) s t).toNat) (by unfold runN; split <;> omega);have hpur:∀ l:List Int,(frS (l.map IA)).pur=true:=fun l=>frS_pur (zAc IA _ fun _=>rfl)
  cases t
  ·rw[show(((runN (dimV a b c k) s false).toNat:Nat):Int)=s - 1 by unfold runN; rw[if_neg (by decide)]; omega]at hT;refine goQ e242 TOk.nil 0 ?_;simp only[push_cast,seval,↓kw2,d1,w1];refine AC.pur hT ?_;refine goN ?_;simp only[push_cast,seval,↓kw2];exact⟨_,rfl,zAa (hpur _) rfl⟩
  ·rw[show(((runN (dimV a b c k) s true).toNat:Nat):Int)=dimV a b c k by unfold runN; rw[if_pos rfl]; omega]at hT;have key:∀ dd,dd=dimV a b c k->Pur zP GG 273 [.agg [I a,I b,I c],I k,I m,I dd] (frS ((takenL a b c k m (runN (dimV a b c k) s true).toNat).map IA)):=fun dd e=>by rw[e]; exact hT
   have hcs:k=0\/k=1\/k=2:=by omega
   rcases hcs with rfl | rfl | rfl
   all_goals
    refine goQ e242 TOk.nil 0 ?_;simp only[push_cast,seval,↓kw2,d1,w1];refine⟨_,toVP (key _ rfl),?_⟩;exact⟨_,rfl,zAa (hpur _) rfl⟩
theorem e101:Ent zP 101 Tryz.f101 [] 2:=.mk Tryz.func101 rfl
attribute [push_cast] Tryz.f101
theorem may06(a b c x y z p q r:Int)(s t u:Bool)(hd:okD a b c):Pur zP GG 101 [.agg [I a,I b,I c],.agg [I x,I y,I z,I p,I q,I r,B s,B t,B u]] (B (decide (okPl a b c x y z p q r s t u))):=by
 refine goQ e101 Q7_ok 0 ?_;simp only[push_cast,seval,↓kw2];refine FW.loopInv (fun n ts H=>∃ i:Int,i+(n:Int)=3/\0<=i/\(0 < i->s=true->¬p=1)/\(1 < i->t=true->¬q=1)/\(2 < i->u=true->¬r=1)/\H=[.cells [I a,I b,I c],.cells [I x,I y,I z,I p,I q,I r,B s,B t,B u]]/\ts 2=.ptr 0 0/\ts 3=.ptr 1 0/\ts 5=I i) 3
  ⟨0,by omega,by omega,fun h=>by omega,fun h=>by omega,fun h=>by omega,rfl,rfl,rfl,rfl⟩ ?_
 rintro n ih ts H ⟨i,hi,hi0,k1,k2,k3,rfl,t2,t3,t5⟩
 refine FW.inLoop ?_;have hcs:i=0\/i=1\/i=2\/i=3:=by omega
 rcases hcs with rfl | rfl | rfl | rfl
 ·cases s
  ·skip
   refine goW Q7_ok [] 0 ?_;simp only[push_cast,seval,↓kw2,t2,t3,t5];refine ih (n - 1) (by omega) _ _ ⟨1,by omega,by omega,?_,?_,?_,rfl,t2,t3,rfl⟩
   all_goals
    intro h1 h2
    first | exact absurd h1 (by decide) | (cases h2; done) | exact k1 (by decide) h2 | exact k2 (by decide) h2
  ·by_cases he:p=1
   ·have d1:decide (p=1)=true:=zT he;refine goW Q7_ok [] 0 ?_;simp only[push_cast,seval,↓kw2,t2,t3,t5,d1];refine⟨_,rfl,zAa rfl ?_⟩;rw[zF]
    intro hq
    obtain⟨_,_,q1,q2,q3,_⟩:=hq
    first | exact q1 rfl he | exact q2 rfl he | exact q3 rfl he
   ·have d1:decide (p=1)=false:=zF he;refine goW Q7_ok [] 0 ?_;simp only[push_cast,seval,↓kw2,t2,t3,t5,d1];refine ih (n - 1) (by omega) _ _ ⟨1,by omega,by omega,?_,?_,?_,rfl,t2,t3,rfl⟩
    all_goals
     intro h1 h2
     first | exact absurd h1 (by decide) | exact he | exact k1 (by decide) h2 | exact k2 (by decide) h2
 ·cases t
  ·skip
   refine goW Q7_ok [] 0 ?_;simp only[push_cast,seval,↓kw2,t2,t3,t5];refine ih (n - 1) (by omega) _ _ ⟨2,by omega,by omega,?_,?_,?_,rfl,t2,t3,rfl⟩
   all_goals
    intro h1 h2
    first | exact absurd h1 (by decide) | (cases h2; done) | exact k1 (by decide) h2 | exact k2 (by decide) h2
  ·by_cases he:q=1
   ·have d1:decide (q=1)=true:=zT he;refine goW Q7_ok [] 0 ?_;simp only[push_cast,seval,↓kw2,t2,t3,t5,d1];refine⟨_,rfl,zAa rfl ?_⟩;rw[zF]
    intro hq
    obtain⟨_,_,q1,q2,q3,_⟩:=hq
    first | exact q1 rfl he | exact q2 rfl he | exact q3 rfl he
   ·have d1:decide (q=1)=false:=zF he;refine goW Q7_ok [] 0 ?_;simp only[push_cast,seval,↓kw2,t2,t3,t5,d1];refine ih (n - 1) (by omega) _ _ ⟨2,by omega,by omega,?_,?_,?_,rfl,t2,t3,rfl⟩
    all_goals
     intro h1 h2
     first | exact absurd h1 (by decide) | exact he | exact k1 (by decide) h2 | exact k2 (by decide) h2
 ·cases u
  ·skip
   refine goW Q7_ok [] 0 ?_;simp only[push_cast,seval,↓kw2,t2,t3,t5];refine ih (n - 1) (by omega) _ _ ⟨3,by omega,by omega,?_,?_,?_,rfl,t2,t3,rfl⟩
   all_goals
    intro h1 h2
    first | exact absurd h1 (by decide) | (cases h2; done) | exact k1 (by decide) h2 | exact k2 (by decide) h2
  ·by_cases he:r=1
   ·have d1:decide (r=1)=true:=zT he;refine goW Q7_ok [] 0 ?_;simp only[push_cast,seval,↓kw2,t2,t3,t5,d1];refine⟨_,rfl,zAa rfl ?_⟩;rw[zF]
    intro hq
    obtain⟨_,_,q1,q2,q3,_⟩:=hq
    first | exact q1 rfl he | exact q2 rfl he | exact q3 rfl he
   ·have d1:decide (r=1)=false:=zF he;refine goW Q7_ok [] 0 ?_;simp only[push_cast,seval,↓kw2,t2,t3,t5,d1];refine ih (n - 1) (by omega) _ _ ⟨3,by omega,by omega,?_,?_,?_,rfl,t2,t3,rfl⟩
    all_goals
     intro h1 h2
     first | exact absurd h1 (by decide) | exact he | exact k1 (by decide) h2 | exact k2 (by decide) h2
 ·have k1:=k1 (by omega);have k2:=k2 (by omega);have k3:=k3 (by omega)
  by_cases hb:okB a b c x y z p q r
  ·have d1:=zT hb;refine goW Q7_ok [] 0 ?_;simp only[push_cast,seval,↓kw2,t2,t3,t5,d1,eqBox',zAj];refine⟨_,rfl,zAa rfl ?_⟩;exact congrArg (fun q=>AV.c (Value.bool q)) (decide_eq_decide.2 (by
    rw[can_iff,can_iff,can_iff];exact⟨fun ht=>⟨hd,hb,k1,k2,k3,ht⟩,fun hq=>hq.2.2.2.2.2⟩))
  ·have d1:=zF hb;refine goW Q7_ok [] 0 ?_;simp only[push_cast,seval,↓kw2,t2,t3,t5,d1,eqBox',zAj];refine⟨_,rfl,zAa rfl ?_⟩;rw[zF fun h=>hb h.2.1]
def gmay06:List AV->Option (Prop × AV)
 | [.agg [.c (.int .i64 a),.c (.int .i64 b),.c (.int .i64 c)],.agg [.c (.int .i64 x),.c (.int .i64 y),.c (.int .i64 z),.c (.int .i64 p),.c (.int .i64 q),.c (.int .i64 r),.c (.bool s),.c (.bool t),.c (.bool u)]]=>some (okD a b c,B (decide (okPl a b c x y z p q r s t u)))
 | _=>none
theorem gmay06_ok:∀ args p,gmay06 args=some p->p.1->Pur zP GG 101 args p.2:=by
 intro args p hp hc
 unfold gmay06 at hp
 split at hp
 ·cases hp;exact may06 _ _ _ _ _ _ _ _ _ _ _ _ hc
 ·cases hp
attribute [push_cast] gmay06
@[push_cast] def Q8:Tab:=Tab.ext Q7 101 gmay06
theorem Q8_ok:TOk zP GG Q8:=TOk.ext Q7_ok gmay06_ok
theorem e43:Ent zP 43 Tryz.f43 [] 2:=.mk Tryz.func43 rfl
attribute [push_cast] Tryz.f43
theorem check06(a b c x y z p q r:Int)(s t u:Bool):Pur zP GG 43 [.agg [I a,I b,I c],.agg [I x,I y,I z,I p,I q,I r,B s,B t,B u]] (I (pchk a b c x y z p q r s t u)):=by
 refine goQ e43 Q8_ok 0 ?_;simp only[push_cast,seval,↓kw2,zDc];refine⟨fun h=>?_,fun h=>?_⟩
 ·have hd:¬okD a b c:=by simpa using h
  exact⟨_,rfl,zAa rfl (by rw[pchk,ckB,if_neg hd,if_neg (by decide)])⟩
 ·have hd:okD a b c:=by simpa using h
  refine⟨hd,fun h2=>?_,fun h2=>?_⟩
  ·have hp:¬okPl a b c x y z p q r s t u:=by simpa using h2
   refine⟨_,rfl,zAa rfl ?_⟩;rw[pchk,ckB,if_pos hd]
   by_cases hb':okB a b c x y z p q r
   ·rw[if_pos hb',if_pos rfl,if_neg hp]
   ·rw[if_neg hb',if_neg (by decide)]
  ·have hp:okPl a b c x y z p q r s t u:=by simpa using h2
   have hb:ckB a b c x y z p q r=0:=by rw[ckB,if_pos hd,if_pos hp.2.1]
   exact⟨_,rfl,zAa rfl (by rw[pchk,if_pos hb,if_pos hp])⟩
@[push_cast] def g43:List AV->Option (Prop × AV)
 | [.agg [(.c (.int .i64 a)),(.c (.int .i64 b)),(.c (.int .i64 c))],.agg [(.c (.int .i64 x)),(.c (.int .i64 y)),(.c (.int .i64 z)),(.c (.int .i64 p)),(.c (.int .i64 q)),(.c (.int .i64 r)),(.c (.bool s)),(.c (.bool t)),(.c (.bool u))]]=>some (True,I (pchk a b c x y z p q r s t u))
 | _=>none
theorem g43_ok:∀ args p,g43 args=some p->p.1->Pur zP GG 43 args p.2:=by
 intro args p hp hc
 unfold g43 at hp
 split at hp
 ·cases hp;exact check06 _ _ _ _ _ _ _ _ _ _ _ _
 ·cases hp
@[push_cast] def Q9:Tab:=Tab.ext Q8 43 g43
theorem Q9_ok:TOk zP GG Q9:=TOk.ext Q8_ok g43_ok
theorem flat_le2{α β:Type}{f:α->List β}{k:Nat}:∀ {l:List α},(∀ x∈l,(f x).length<=k)->(l.flatMap f).length<=l.length*k
 | [],_=>by simp
 | x::l,h=>by
  have h1:=h x (by simp);have h2:=flat_le2 fun y hy=>h y (List.mem_cons_of_mem x hy)
  rw[List.flatMap_cons,List.length_append,List.length_cons,Nat.add_mul];omega
theorem boxL_len{a b c:Int}(hd:okD a b c)(x y z p q r:Int):(boxL a b c x y z p q r).length<=4096:=by
 have:=boxN_len a b c x y z p q r (a*b*c).toNat;have hm:=zBz hd;exact Nat.le_trans this (by omega)
theorem tookL_len{a b c:Int}(hd:okD a b c)(k m s:Int)(t:Bool):(tookL a b c k m s t).length<=4096:=by
 have hm:=zBz hd;unfold tookL
 split
 ·simp
 ·rw[taken_is]
  split
  ·exact Nat.le_trans (takN_len ..) (by omega)
  ·simp
def cabF(a b c k base s:Int)(t:Bool)(l:List Int):List Int:=(l.filter fun m=>decide (cooV a b c m k=base)).flatMap fun m=>tookL a b c k m s t
theorem cabF_cons(a b c k base s:Int)(t:Bool)(m:Int)(l:List Int):cabF a b c k base s t (m::l)=(if cooV a b c m k=base then tookL a b c k m s t else [])++cabF a b c k base s t l:=by
 unfold cabF;rw[List.filter_cons]
 by_cases h:cooV a b c m k=base
 ·rw[if_pos h,if_pos (zT h),List.flatMap_cons]
 ·rw[if_neg h,if_neg (by simp[h]),List.nil_append]
theorem cabF_len{a b c:Int}(hd:okD a b c)(k base s:Int)(t:Bool)(l:List Int):(cabF a b c k base s t l).length<=l.length*4096:=by
 unfold cabF;refine Nat.le_trans (flat_le2 fun x _=>tookL_len hd k x s t) ?_;exact Nat.mul_le_mul_right _ (List.length_filter_le _ _)
theorem cabL_len{a b c:Int}(hd:okD a b c)(x y z p q r:Int)(s t u:Bool):(cabL a b c x y z p q r s t u).length<=2^26:=by
 have h:=boxL_len hd x y z p q r;have h1:=cabF_len hd 0 x p s (boxL a b c x y z p q r);have h2:=cabF_len hd 1 y q t (boxL a b c x y z p q r);have h3:=cabF_len hd 2 z r u (boxL a b c x y z p q r);show((cabF a b c 0 x p s (boxL a b c x y z p q r))++((cabF a b c 1 y q t (boxL a b c x y z p q r))++(cabF a b c 2 z r u (boxL a b c x y z p q r)))).length<=_;rw[List.length_append,List.length_append];omega
theorem e202:Ent zP 202 Tryz.f202 [] 2:=.mk Tryz.func202 rfl
attribute [push_cast] Tryz.f202
theorem cables06{a b c x y z p q r:Int}(s t u:Bool)(hd:okD a b c)(hb:okB a b c x y z p q r):Pur zP GG 202 [.agg [I a,I b,I c],.agg [I x,I y,I z,I p,I q,I r,B s,B t,B u]] (frS ((cabL a b c x y z p q r s t u).map IA)):=by
 have hA:=all02_pur hd hb;have hb':=hb;unfold okB ok1 at hb';have hin:∀ m∈boxL a b c x y z p q r,inM a b c m:=fun m hm=>zCt hd hb ((zEr hd hb).1 hm)
 have hbl:=boxL_len hd x y z p q r;have hcl:=cabL_len hd x y z p q r s t u;have hC:cabL a b c x y z p q r s t u=cabF a b c 0 x p s (boxL a b c x y z p q r)++(cabF a b c 1 y q t (boxL a b c x y z p q r)++cabF a b c 2 z r u (boxL a b c x y z p q r)):=rfl
 generalize cabL a b c x y z p q r s t u=C at hC hcl
 generalize boxL a b c x y z p q r=l at hA hin hbl hC
 have hL:IsSl (frS (l.map IA)) (l.map IA):=IsSl.frS _
 generalize frS (l.map IA)=sl at hA hL
 have hlen:=hL.len (P:=zP) un56;rw[zM]at hlen;have hidx:=fun(i:Nat) (hi:i < l.length) (H:List AO)=>hL.idx (P:=zP) un56 sz3 (i:=(i:Int)) (by rw[zM]; omega) (by omega) H
 obtain⟨rest,h0,h1,h2,h3⟩:∃ rest:Int->List Int,rest 0=C/\rest 1=cabF a b c 1 y q t l++cabF a b c 2 z r u l/\rest 2=cabF a b c 2 z r u l/\rest 3=[] :=
  ⟨fun i=>if i=0 then C else if i=1 then cabF a b c 1 y q t l++cabF a b c 2 z r u l else if i=2 then cabF a b c 2 z r u l else [],rfl,rfl,rfl,rfl⟩
 refine goQ e202 TOk.nil 0 ?_;simp only[push_cast,seval,↓kw2];refine AC.pur hA ?_;refine goN ?_;simp only[push_cast,seval,↓kw2];refine FW.loopInv (fun n ts H=>∃(i:Int) (es:List Int) (o:AV),i+(n:Int)=3/\0<=i/\es++rest i=C/\Own H o (es.map IA)/\zAl o≠some 0/\zAl o≠some 1/\H[0]?=some (.cells [I a,I b,I c])/\H[1]?=some (.cells [I x,I y,I z,I p,I q,I r,B s,B t,B u])/\ts 2=.ptr 0 0/\ts 3=.ptr 1 0/\ts 5=o/\ts 6=sl/\ts 7=I i) 3
  ⟨0,[],_,by omega,by omega,by rw[h0]; rfl,.nil,by simp[zAl],by simp[zAl],rfl,rfl,rfl,rfl,rfl,rfl,rfl⟩ ?_
 rintro n ih ts H ⟨i,es,o,hi,hi0,hes,hown,ho0,ho1,m0,m1,t2,t3,t5,t6,t7⟩
 refine FW.inLoop ?_;have hcs:i=0\/i=1\/i=2\/i=3:=by omega
 rcases hcs with rfl | rfl | rfl | rfl
 ·have hrs:rest 0=cabF a b c 0 x p s l++rest 1:=by simp[h0,h1,h2,h3,hC]
  rw[hrs]at hes;refine goN ?_;simp only[push_cast,seval,↓kw2,m0,m1,t2,t3,t5,t6,t7];refine FW.loopInv (fun n ts H=>∃(k:Nat) (es:List Int) (o:AV),k+n=l.length/\es++(cabF a b c 0 x p s (l.drop k)++rest 1)=C/\Own H o (es.map IA)/\zAl o≠some 0/\zAl o≠some 1/\H[0]?=some (.cells [I a,I b,I c])/\H[1]?=some (.cells [I x,I y,I z,I p,I q,I r,B s,B t,B u])/\ts 2=.ptr 0 0/\ts 3=.ptr 1 0/\ts 5=o/\ts 6=sl/\ts 7=I 0/\ts 8=I (k:Int)) l.length
   ⟨0,es,o,by omega,hes,hown,ho0,ho1,m0,m1,t2,t3,t5,t6,t7,rfl⟩ ?_
  clear hes hown ho0 ho1 m0 m1 t2 t3 t5 t6 t7
  rintro l2 ihl ts H ⟨k,es,o,hk,hes,hown,ho0,ho1,m0,m1,t2,t3,t5,t6,t7,t8⟩
  refine FW.inLoop ?_;have w2:=zAh (n:=(k:Int)+1) (by omega) (by omega);have hl0:=zAd m0;have hl1:=zAd m1
  by_cases hlt:k < l.length
  ·have d1:decide ((k:Int) < (l.length:Int))=true:=zT (by omega);have hx:=hidx k hlt;simp only[Int.toNat_natCast]at hx;rw[zAe IA l 0 hlt]at hx;have hmm:=hin (l.getD k 0) (by simp[List.getD,hlt]);rw[zAr 0 hlt,cabF_cons]at hes
   generalize l.getD k 0=m at hx hmm hes
   have hbb:(0<=(k:Int)/\(k:Int) < ((l.map IA).length:Int)):=⟨by omega,by rw[zM]; omega⟩;have hW:=where01 a b c m hmm
   by_cases he:cooV a b c m 0=x
   ·rw[if_pos he,List.append_assoc,<- List.append_assoc es]at hes;have d2:=zT he;simp only[cooV,if_true,if_neg (by decide:¬(1:Int)=0),if_neg (by decide:¬(2:Int)=0),if_neg (by decide:¬(2:Int)=1)]at d2;have hT:=took05 (k:=0) (s:=p) s (by omega) hmm ⟨by omega,by simp only[dimV,if_true,if_neg (by decide:¬(1:Int)=0),if_neg (by decide:¬(2:Int)=0),if_neg (by decide:¬(2:Int)=1)]; omega⟩;have htl:=len_le_of_append hes;rw[List.length_append]at htl;obtain⟨CC,hap,hCC⟩:=aAppF (P:=zP) un56 un56 ze3 rfl by3 hown (l:=(tookL a b c 0 m p s).map IA) (fun x hx=>by obtain⟨_,_,rfl⟩:=List.mem_map.1 hx; rfl);refine goN ?_;simp only[push_cast,seval,↓kw2,m0,m1,t2,t3,t5,t6,t7,t8,d1,d2,hlen,hx]
    repeat (first | refine⟨hbb,?_⟩)
    refine⟨_,toVP hW,?_⟩;simp only[push_cast,seval,↓kw2,m0,m1,t2,t3,t5,t6,t7,t8,d1,d2,hlen,hx]
    repeat (first | refine And.intro (by omega) ?_)
    refine⟨_,toVP hT,?_⟩;simp only[push_cast,seval,↓kw2,m0,m1,t2,t3,t5,t6,t7,t8,d1,d2,hlen,hx,hap,w2];refine⟨hCC (by rw[zM,zM]; omega) (by rw[zM,zM]; omega),?_⟩;exact ihl (l2 - 1) (by omega) _ _ ⟨k+1,es++tookL a b c 0 m p s,_,by omega,hes,by rw[List.map_append]; exact apSs_own hown,zCz hl0 ho0,zCz hl1 ho1,(zEh hl0 ho0).trans m0,(zEh hl1 ho1).trans m1,t2,t3,rfl,t6,t7,rfl⟩
   ·rw[if_neg he,List.nil_append]at hes;have d2:=zF he;simp only[cooV,if_true,if_neg (by decide:¬(1:Int)=0),if_neg (by decide:¬(2:Int)=0),if_neg (by decide:¬(2:Int)=1)]at d2;refine goN ?_;simp only[push_cast,seval,↓kw2,m0,m1,t2,t3,t5,t6,t7,t8,d1,d2,hlen,hx]
    repeat (first | refine⟨hbb,?_⟩)
    refine⟨_,toVP hW,?_⟩;simp only[push_cast,seval,↓kw2,m0,m1,t2,t3,t5,t6,t7,t8,d1,d2,hlen,hx,w2]
    repeat (first | refine And.intro (by omega) ?_)
    exact ihl (l2 - 1) (by omega) _ _ ⟨k+1,es,o,by omega,hes,hown,ho0,ho1,m0,m1,t2,t3,t5,t6,t7,rfl⟩
  ·have d1:decide ((k:Int) < (l.length:Int))=false:=zF (by omega);rw[List.drop_eq_nil_of_le (by omega)]at hes;refine goN ?_;simp only[push_cast,seval,↓kw2,m0,m1,t2,t3,t5,t6,t7,t8,d1,hlen];exact ih (n - 1) (by omega) _ _ ⟨1,es,o,by omega,by omega,hes,hown,ho0,ho1,m0,m1,t2,t3,t5,t6,rfl⟩
 ·have hrs:rest 1=cabF a b c 1 y q t l++rest 2:=by simp[h0,h1,h2,h3,hC]
  rw[hrs]at hes;refine goN ?_;simp only[push_cast,seval,↓kw2,m0,m1,t2,t3,t5,t6,t7];refine FW.loopInv (fun n ts H=>∃(k:Nat) (es:List Int) (o:AV),k+n=l.length/\es++(cabF a b c 1 y q t (l.drop k)++rest 2)=C/\Own H o (es.map IA)/\zAl o≠some 0/\zAl o≠some 1/\H[0]?=some (.cells [I a,I b,I c])/\H[1]?=some (.cells [I x,I y,I z,I p,I q,I r,B s,B t,B u])/\ts 2=.ptr 0 0/\ts 3=.ptr 1 0/\ts 5=o/\ts 6=sl/\ts 7=I 1/\ts 8=I (k:Int)) l.length
   ⟨0,es,o,by omega,hes,hown,ho0,ho1,m0,m1,t2,t3,t5,t6,t7,rfl⟩ ?_
  clear hes hown ho0 ho1 m0 m1 t2 t3 t5 t6 t7
  rintro l2 ihl ts H ⟨k,es,o,hk,hes,hown,ho0,ho1,m0,m1,t2,t3,t5,t6,t7,t8⟩
  refine FW.inLoop ?_;have w2:=zAh (n:=(k:Int)+1) (by omega) (by omega);have hl0:=zAd m0;have hl1:=zAd m1
  by_cases hlt:k < l.length
  ·have d1:decide ((k:Int) < (l.length:Int))=true:=zT (by omega);have hx:=hidx k hlt;simp only[Int.toNat_natCast]at hx;rw[zAe IA l 0 hlt]at hx;have hmm:=hin (l.getD k 0) (by simp[List.getD,hlt]);rw[zAr 0 hlt,cabF_cons]at hes
   generalize l.getD k 0=m at hx hmm hes
   have hbb:(0<=(k:Int)/\(k:Int) < ((l.map IA).length:Int)):=⟨by omega,by rw[zM]; omega⟩;have hW:=where01 a b c m hmm
   by_cases he:cooV a b c m 1=y
   ·rw[if_pos he,List.append_assoc,<- List.append_assoc es]at hes;have d2:=zT he;simp only[cooV,if_true,if_neg (by decide:¬(1:Int)=0),if_neg (by decide:¬(2:Int)=0),if_neg (by decide:¬(2:Int)=1)]at d2;have hT:=took05 (k:=1) (s:=q) t (by omega) hmm ⟨by omega,by simp only[dimV,if_true,if_neg (by decide:¬(1:Int)=0),if_neg (by decide:¬(2:Int)=0),if_neg (by decide:¬(2:Int)=1)]; omega⟩;have htl:=len_le_of_append hes;rw[List.length_append]at htl;obtain⟨CC,hap,hCC⟩:=aAppF (P:=zP) un56 un56 ze3 rfl by3 hown (l:=(tookL a b c 1 m q t).map IA) (fun x hx=>by obtain⟨_,_,rfl⟩:=List.mem_map.1 hx; rfl);refine goN ?_;simp only[push_cast,seval,↓kw2,m0,m1,t2,t3,t5,t6,t7,t8,d1,d2,hlen,hx]
    repeat (first | refine⟨hbb,?_⟩)
    refine⟨_,toVP hW,?_⟩;simp only[push_cast,seval,↓kw2,m0,m1,t2,t3,t5,t6,t7,t8,d1,d2,hlen,hx]
    repeat (first | refine And.intro (by omega) ?_)
    refine⟨_,toVP hT,?_⟩;simp only[push_cast,seval,↓kw2,m0,m1,t2,t3,t5,t6,t7,t8,d1,d2,hlen,hx,hap,w2];refine⟨hCC (by rw[zM,zM]; omega) (by rw[zM,zM]; omega),?_⟩;exact ihl (l2 - 1) (by omega) _ _ ⟨k+1,es++tookL a b c 1 m q t,_,by omega,hes,by rw[List.map_append]; exact apSs_own hown,zCz hl0 ho0,zCz hl1 ho1,(zEh hl0 ho0).trans m0,(zEh hl1 ho1).trans m1,t2,t3,rfl,t6,t7,rfl⟩
   ·rw[if_neg he,List.nil_append]at hes;have d2:=zF he;simp only[cooV,if_true,if_neg (by decide:¬(1:Int)=0),if_neg (by decide:¬(2:Int)=0),if_neg (by decide:¬(2:Int)=1)]at d2;refine goN ?_;simp only[push_cast,seval,↓kw2,m0,m1,t2,t3,t5,t6,t7,t8,d1,d2,hlen,hx]
    repeat (first | refine⟨hbb,?_⟩)
    refine⟨_,toVP hW,?_⟩;simp only[push_cast,seval,↓kw2,m0,m1,t2,t3,t5,t6,t7,t8,d1,d2,hlen,hx,w2]
    repeat (first | refine And.intro (by omega) ?_)
    exact ihl (l2 - 1) (by omega) _ _ ⟨k+1,es,o,by omega,hes,hown,ho0,ho1,m0,m1,t2,t3,t5,t6,t7,rfl⟩
  ·have d1:decide ((k:Int) < (l.length:Int))=false:=zF (by omega);rw[List.drop_eq_nil_of_le (by omega)]at hes;refine goN ?_;simp only[push_cast,seval,↓kw2,m0,m1,t2,t3,t5,t6,t7,t8,d1,hlen];exact ih (n - 1) (by omega) _ _ ⟨2,es,o,by omega,by omega,hes,hown,ho0,ho1,m0,m1,t2,t3,t5,t6,rfl⟩
 ·have hrs:rest 2=cabF a b c 2 z r u l++rest 3:=by simp[h0,h1,h2,h3,hC]
  rw[hrs]at hes;refine goN ?_;simp only[push_cast,seval,↓kw2,m0,m1,t2,t3,t5,t6,t7];refine FW.loopInv (fun n ts H=>∃(k:Nat) (es:List Int) (o:AV),k+n=l.length/\es++(cabF a b c 2 z r u (l.drop k)++rest 3)=C/\Own H o (es.map IA)/\zAl o≠some 0/\zAl o≠some 1/\H[0]?=some (.cells [I a,I b,I c])/\H[1]?=some (.cells [I x,I y,I z,I p,I q,I r,B s,B t,B u])/\ts 2=.ptr 0 0/\ts 3=.ptr 1 0/\ts 5=o/\ts 6=sl/\ts 7=I 2/\ts 8=I (k:Int)) l.length
   ⟨0,es,o,by omega,hes,hown,ho0,ho1,m0,m1,t2,t3,t5,t6,t7,rfl⟩ ?_
  clear hes hown ho0 ho1 m0 m1 t2 t3 t5 t6 t7
  rintro l2 ihl ts H ⟨k,es,o,hk,hes,hown,ho0,ho1,m0,m1,t2,t3,t5,t6,t7,t8⟩
  refine FW.inLoop ?_;have w2:=zAh (n:=(k:Int)+1) (by omega) (by omega);have hl0:=zAd m0;have hl1:=zAd m1
  by_cases hlt:k < l.length
  ·have d1:decide ((k:Int) < (l.length:Int))=true:=zT (by omega);have hx:=hidx k hlt;simp only[Int.toNat_natCast]at hx;rw[zAe IA l 0 hlt]at hx;have hmm:=hin (l.getD k 0) (by simp[List.getD,hlt]);rw[zAr 0 hlt,cabF_cons]at hes
   generalize l.getD k 0=m at hx hmm hes
   have hbb:(0<=(k:Int)/\(k:Int) < ((l.map IA).length:Int)):=⟨by omega,by rw[zM]; omega⟩;have hW:=where01 a b c m hmm
   by_cases he:cooV a b c m 2=z
   ·rw[if_pos he,List.append_assoc,<- List.append_assoc es]at hes;have d2:=zT he;simp only[cooV,if_true,if_neg (by decide:¬(1:Int)=0),if_neg (by decide:¬(2:Int)=0),if_neg (by decide:¬(2:Int)=1)]at d2;have hT:=took05 (k:=2) (s:=r) u (by omega) hmm ⟨by omega,by simp only[dimV,if_true,if_neg (by decide:¬(1:Int)=0),if_neg (by decide:¬(2:Int)=0),if_neg (by decide:¬(2:Int)=1)]; omega⟩;have htl:=len_le_of_append hes;rw[List.length_append]at htl;obtain⟨CC,hap,hCC⟩:=aAppF (P:=zP) un56 un56 ze3 rfl by3 hown (l:=(tookL a b c 2 m r u).map IA) (fun x hx=>by obtain⟨_,_,rfl⟩:=List.mem_map.1 hx; rfl);refine goN ?_;simp only[push_cast,seval,↓kw2,m0,m1,t2,t3,t5,t6,t7,t8,d1,d2,hlen,hx]
    repeat (first | refine⟨hbb,?_⟩)
    refine⟨_,toVP hW,?_⟩;simp only[push_cast,seval,↓kw2,m0,m1,t2,t3,t5,t6,t7,t8,d1,d2,hlen,hx]
    repeat (first | refine And.intro (by omega) ?_)
    refine⟨_,toVP hT,?_⟩;simp only[push_cast,seval,↓kw2,m0,m1,t2,t3,t5,t6,t7,t8,d1,d2,hlen,hx,hap,w2];refine⟨hCC (by rw[zM,zM]; omega) (by rw[zM,zM]; omega),?_⟩;exact ihl (l2 - 1) (by omega) _ _ ⟨k+1,es++tookL a b c 2 m r u,_,by omega,hes,by rw[List.map_append]; exact apSs_own hown,zCz hl0 ho0,zCz hl1 ho1,(zEh hl0 ho0).trans m0,(zEh hl1 ho1).trans m1,t2,t3,rfl,t6,t7,rfl⟩
   ·rw[if_neg he,List.nil_append]at hes;have d2:=zF he;simp only[cooV,if_true,if_neg (by decide:¬(1:Int)=0),if_neg (by decide:¬(2:Int)=0),if_neg (by decide:¬(2:Int)=1)]at d2;refine goN ?_;simp only[push_cast,seval,↓kw2,m0,m1,t2,t3,t5,t6,t7,t8,d1,d2,hlen,hx]
    repeat (first | refine⟨hbb,?_⟩)
    refine⟨_,toVP hW,?_⟩;simp only[push_cast,seval,↓kw2,m0,m1,t2,t3,t5,t6,t7,t8,d1,d2,hlen,hx,w2]
    repeat (first | refine And.intro (by omega) ?_)
    exact ihl (l2 - 1) (by omega) _ _ ⟨k+1,es,o,by omega,hes,hown,ho0,ho1,m0,m1,t2,t3,t5,t6,t7,rfl⟩
  ·have d1:decide ((k:Int) < (l.length:Int))=false:=zF (by omega);rw[List.drop_eq_nil_of_le (by omega)]at hes;refine goN ?_;simp only[push_cast,seval,↓kw2,m0,m1,t2,t3,t5,t6,t7,t8,d1,hlen];exact ih (n - 1) (by omega) _ _ ⟨3,es,o,by omega,by omega,hes,hown,ho0,ho1,m0,m1,t2,t3,t5,t6,rfl⟩
 ·rw[h3,List.append_nil]at hes;subst hes;refine goN ?_;simp only[push_cast,seval,↓kw2,m0,m1,t2,t3,t5,t6,t7];exact⟨_,rfl,hown.done (zAc IA _ fun _=>rfl)⟩
theorem e150:Ent zP 150 Tryz.f150 [] 2:=.mk Tryz.func150 rfl
attribute [push_cast] Tryz.f150
theorem taken06{a b c x y z p q r:Int}(s t u:Bool)(hd:okD a b c)(hb:okB a b c x y z p q r):Pur zP GG 150 [.agg [I a,I b,I c],.agg [I x,I y,I z,I p,I q,I r,B s,B t,B u]]
  (.tup [.isl ((ofL (a*b*c) (boxL a b c x y z p q r)).map U),.isl ((ofL (3*(a*b*c)) (cabL a b c x y z p q r s t u)).map U)]):=by
 have hA:=all02_pur hd hb;have hN:=n01 a b c hd;have hK:=cables06 s t u hd hb;have hmu:=zBz hd;have h1:1<=a*b*c:=by
  unfold okD at hd;have:=Int.mul_pos (Int.mul_pos (show 0 < a by omega) (show 0 < b by omega)) (show 0 < c by omega);omega
 have w3:=zAh (n:=3*(a*b*c)) (by omega) (by omega);have hF1:=from_pur (n:=a*b*c) (IsSl.frS ((boxL a b c x y z p q r).map IA)) (by omega) (fun k hk=>(zCt hd hb ((zEr hd hb).1 hk)).2) (by have:=boxL_len hd x y z p q r; omega);have hF2:=from_pur (n:=3*(a*b*c)) (IsSl.frS ((cabL a b c x y z p q r s t u).map IA)) (by omega) (fun k hk=>links_mem hd hb k ((cabL_mem hd hb k).1 hk)) (by have:=cabL_len hd x y z p q r s t u; omega);refine goQ e150 TOk.nil 0 ?_;simp only[push_cast,seval,↓kw2];refine AC.pur hN ?_;refine goN ?_;simp only[push_cast,seval,↓kw2,w3];refine⟨_,toVP hA,?_⟩
 try simp only[push_cast,seval,↓kw2,w3]
 refine⟨_,toVP hF1,?_⟩
 try simp only[push_cast,seval,↓kw2,w3]
 refine⟨_,toVP hK,?_⟩
 try simp only[push_cast,seval,↓kw2,w3]
 refine⟨_,toVP hF2,?_⟩
 try simp only[push_cast,seval,↓kw2,w3]
 exact⟨_,rfl,zAa (by simp[AV.pur,AV.purL]) rfl⟩
attribute [push_cast] Tryz.f95
theorem e92:Ent zP 92 Tryz.f92 [] 1:=.mk Tryz.func92 rfl
attribute [push_cast] Tryz.f92
theorem may04(p q r:Int)(s t u v:Bool):Pur zP GG 92 [WT p q r s t u v] (B (decide (okW p q r))):=by
 refine goQ e92 Q9_ok 5 ?_;simp only[push_cast,seval,↓kw2]
 repeat' (first | apply And.intro | intro _)
 all_goals
  refine⟨_,rfl,zAa rfl ?_⟩;simp only[AV.c.injEq,Value.bool.injEq]
  first | exact(zT (by unfold okW; omega)).symm | exact(zF (by unfold okW; omega)).symm
@[push_cast] def g92:List AV->Option (Prop × AV)
 | [.agg [(.c (.int .i64 p)),(.c (.int .i64 q)),(.c (.int .i64 r)),(.c (.bool s)),(.c (.bool t)),(.c (.bool u)),(.c (.bool v))]]=>some (True,B (decide (okW p q r)))
 | _=>none
theorem g92_ok:∀ args p,g92 args=some p->p.1->Pur zP GG 92 args p.2:=by
 intro args p hp hc
 unfold g92 at hp
 split at hp
 ·cases hp;exact may04 _ _ _ _ _ _ _
 ·cases hp
@[push_cast] def Q10:Tab:=Tab.ext Q9 92 g92
theorem Q10_ok:TOk zP GG Q10:=TOk.ext Q9_ok g92_ok
theorem e206:Ent zP 206 Tryz.f206 [] 1:=.mk Tryz.func206 rfl
attribute [push_cast] Tryz.f206
theorem flag04(s:Bool):Pur zP GG 206 [B s] (I (bitV s)):=by
 refine goQ e206 Q10_ok 0 ?_;simp only[push_cast,seval,↓kw2,zDc];exact⟨fun h=>⟨_,rfl,zAa rfl (by rw[bitV,if_pos h])⟩,fun h=>⟨_,rfl,zAa rfl (by rw[bitV,if_neg (by simp[h])])⟩⟩
@[push_cast] def g206:List AV->Option (Prop × AV)
 | [(.c (.bool s))]=>some (True,I (bitV s))
 | _=>none
theorem g206_ok:∀ args p,g206 args=some p->p.1->Pur zP GG 206 args p.2:=by
 intro args p hp hc
 unfold g206 at hp
 split at hp
 ·cases hp;exact flag04 _
 ·cases hp
@[push_cast] def Q11:Tab:=Tab.ext Q10 206 g206
theorem Q11_ok:TOk zP GG Q11:=TOk.ext Q10_ok g206_ok
def zEo(x y:Wnt):Bool :=
 if x.p=y.p then if x.q=y.q then if x.r=y.r then if x.s=y.s then if x.t=y.t then if x.u=y.u then false else y.u else y.t else y.s else decide (x.r < y.r) else decide (x.q < y.q) else decide (x.p < y.p)
theorem bv0:bitV false=0:=rfl
theorem bv1:bitV true=1:=rfl
theorem e156:Ent zP 156 Tryz.f156 [] 2:=.mk Tryz.func156 rfl
attribute [push_cast] Tryz.f156
theorem less04(X Y:Wnt):Pur zP GG 156 [X.av,Y.av] (B (zEo X Y)):=by
 obtain⟨p,q,r,s,t,u,v⟩:=X;obtain⟨p',q',r',s',t',u',v'⟩:=Y;show Pur zP GG 156 [WT p q r s t u v,WT p' q' r' s' t' u' v'] _;unfold zEo;simp only
 by_cases e0:p=p'
 ·subst e0;rw[if_pos rfl];have d0:decide (p≠p)=false:=by simp
  by_cases e1:q=q'
  ·subst e1;rw[if_pos rfl];have d1:decide (q≠q)=false:=by simp
   by_cases e2:r=r'
   ·subst e2;rw[if_pos rfl];have d2:decide (r≠r)=false:=by simp
    by_cases e3:s=s'
    ·subst e3;rw[if_pos rfl]
     by_cases e4:t=t'
     ·subst e4;rw[if_pos rfl]
      by_cases e5:u=u'
      ·subst e5;rw[if_pos rfl];refine goQ e156 Q11_ok 8 ?_;simp only[push_cast,seval,↓kw2,zEa,zDx,zDz,zDy,bne_self_eq_false,bv0,bv1,d0,d1,d2];exact⟨_,rfl,zAa rfl rfl⟩
      ·rw[if_neg e5];cases u <;> cases u' <;> first | exact absurd rfl e5 | skip
       all_goals
        refine goQ e156 Q11_ok 8 ?_;simp only[push_cast,seval,↓kw2,zEa,zDx,zDz,zDy,bne_self_eq_false,bv0,bv1,d0,d1,d2];exact⟨_,rfl,zAa rfl rfl⟩
     ·rw[if_neg e4];cases t <;> cases t' <;> first | exact absurd rfl e4 | skip
      all_goals
       refine goQ e156 Q11_ok 8 ?_;simp only[push_cast,seval,↓kw2,zEa,zDx,zDz,zDy,bne_self_eq_false,bv0,bv1,d0,d1,d2];exact⟨_,rfl,zAa rfl rfl⟩
    ·rw[if_neg e3];cases s <;> cases s' <;> first | exact absurd rfl e3 | skip
     all_goals
      refine goQ e156 Q11_ok 8 ?_;simp only[push_cast,seval,↓kw2,zEa,zDx,zDz,zDy,bne_self_eq_false,bv0,bv1,d0,d1,d2];exact⟨_,rfl,zAa rfl rfl⟩
   ·rw[if_neg e2];have d2:decide (r≠r')=true:=by simp[e2]
    refine goQ e156 Q11_ok 8 ?_;simp only[push_cast,seval,↓kw2,zEa,zDx,zDz,zDy,bne_self_eq_false,bv0,bv1,d0,d1,d2];exact⟨_,rfl,zAa rfl rfl⟩
  ·rw[if_neg e1];have d1:decide (q≠q')=true:=by simp[e1]
   refine goQ e156 Q11_ok 8 ?_;simp only[push_cast,seval,↓kw2,zEa,zDx,zDz,zDy,bne_self_eq_false,bv0,bv1,d0,d1];exact⟨_,rfl,zAa rfl rfl⟩
 ·rw[if_neg e0];have d0:decide (p≠p')=true:=by simp[e0]
  refine goQ e156 Q11_ok 8 ?_;simp only[push_cast,seval,↓kw2,zEa,zDx,zDz,zDy,bne_self_eq_false,bv0,bv1,d0];exact⟨_,rfl,zAa rfl rfl⟩
attribute [push_cast] Tryz.f104
theorem Wnt.eqT0(p q r p' q' r':Int)(s t u v s' t' u' v':Bool):aEqS zP 26 (WT p q r s t u v) (WT p' q' r' s' t' u' v') =
  some (((p==p'&&(q==q'&&(r==r'&&true)))&&((s==s'&&(t==t'&&(u==u'&&true)))&&(v==v'&&true)))):=by kernel_rfl
theorem Wnt.eqT(a b:Wnt):aEqS zP 26 a.av b.av=some (decide (a=b)):=by
 obtain⟨p,q,r,s,t,u,v⟩:=a;obtain⟨p',q',r',s',t',u',v'⟩:=b;unfold Wnt.av;rw[Wnt.eqT0,Option.some.injEq,Bool.eq_iff_iff,decide_eq_true_iff];simp[and_assoc]
theorem outL_len{α:Type}(less:α->α->Bool)(p:α):∀(l:List α) (d:Bool),(outL less p l d).length<=l.length+1
 | [],d=>by unfold outL; split <;> simp
 | y::l,d=>by
  have h1:=outL_len less p l true;have h2:=outL_len less p l d;unfold outL
  split
  ·rw[outL_true]at h1 ⊢;simp
  ·simp only[List.length_cons]; omega
theorem outL_f{α:Type}(less:α->α->Bool)(p y:α)(l:List α):outL less p (y::l) false=if less p y=true then p::y::outL less p l true else y::outL less p l false:=by
 rw[outL];simp
theorem outL_t{α:Type}(less:α->α->Bool)(p y:α)(l:List α):outL less p (y::l) true=y::outL less p l true:=by
 rw[outL];simp
theorem e103:Ent zP 103 Tryz.f103 [] 2:=.mk Tryz.func103 rfl
attribute [push_cast] Tryz.f103
theorem put04{l:List Wnt}(x:Wnt)(hl:l.length<=2^19):Pur zP GG 103 [frS (l.map Wnt.av),x.av] (frS ((putL zEo l x).map Wnt.av)):=by
 have hL:IsSl (frS (l.map Wnt.av)) (l.map Wnt.av):=IsSl.frS _;have hpu:=hL.pur (zAc Wnt.av _ Wnt.pur)
 generalize hsl:frS (l.map Wnt.av)=sl at hL hpu
 have hlen:=hL.len (P:=zP) un97;rw[zM]at hlen;have hidx:=fun(i:Nat) (hi:i < l.length) (H:List AO)=>hL.idx (P:=zP) un97 sz26 (i:=(i:Int)) (by rw[zM]; omega) (by omega) H
 have hol:=outL_len zEo x l false;show Pur zP GG 103 [sl,.agg [I x.p,I x.q,I x.r,B x.s,B x.t,B x.u,B x.v]] _;refine goQ e103 TOk.nil 0 ?_ (by simp[AV.purL,AV.pur,hpu]);simp(maxSteps:=2000000)only[push_cast,seval,↓kw2];refine FW.loopInv (fun n ts H=>∃(i:Nat) (es:List Wnt) (o:AV) (d:Bool),i+n=l.length/\(∀ y∈l.take i,¬y=x)/\es++outL zEo x (l.drop i) d=outL zEo x l false/\OwnK 7 H o (es.map Wnt.av)/\zAl o≠some 0/\H[0]?=some (.cells [I x.p,I x.q,I x.r,B x.s,B x.t,B x.u,B x.v])/\ts 0=sl/\ts 3=.ptr 0 0/\ts 5=o/\ts 6=B d/\ts 7=I (i:Int)) l.length
  ⟨0,[],_,false,by omega,by simp,rfl,.nil,by simp[zAl],rfl,rfl,rfl,rfl,rfl,rfl⟩ ?_
 rintro n ih ts H ⟨i,es,o,d,hi,hne,hes,hown,ho0,m0,t0,t3,t5,t6,t7⟩
 refine FW.inLoop ?_;have w2:=zAh (n:=(i:Int)+1) (by omega) (by omega);have hl0:=zAd m0;have hap:=fun v=>aAppK (P:=zP) (k:=7) un97 un97 ze26 rfl by26 hown v
 have hle:=len_le_of_append hes;have hcx:=Wnt.cells x
 by_cases hlt:i < l.length
 ·have d1:decide ((i:Int) < (l.length:Int))=true:=zT (by omega);have hxi:=hidx i hlt;simp only[Int.toNat_natCast]at hxi;rw[zAe Wnt.av l default hlt]at hxi;rw[zAr default hlt]at hes;have htk:=zAo default hlt;have hmem:l.getD i default∈l:=by simp[List.getD,hlt]
  generalize l.getD i default=y at hxi hes htk hmem
  have hcy:=Wnt.cells y;have heq:=Wnt.eqT y x;have hbb:(0<=(i:Int)/\(i:Int) < ((l.map Wnt.av).length:Int)):=⟨by omega,by rw[zM]; omega⟩
  by_cases he:y=x
  ·rw[zT he]at heq;simp only[Wnt.av]at heq;refine goN ?_;simp(maxSteps:=2000000)only[push_cast,seval,↓kw2,m0,t0,t3,t5,t6,t7,d1,hlen,hxi,hcy,heq,zAj]
   repeat (first | refine⟨hbb,?_⟩)
   exact⟨_,rfl,zAa hpu (by rw[putL,if_pos (by rw[<- he]; exact hmem)]; exact hsl.symm)⟩
  ·rw[zF he]at heq;simp only[Wnt.av]at heq;have hne':∀ z∈l.take (i+1),¬z=x:=fun z hz=>by
    rw[htk,List.mem_append,List.mem_singleton]at hz
    rcases hz with hz | rfl
    ·exact hne z hz
    ·exact he
   cases d
   ·rw[outL_f]at hes;refine goN ?_;simp(maxSteps:=2000000)only[push_cast,seval,↓kw2,m0,t0,t3,t5,t6,t7,d1,hlen,hxi,hcy,heq,zAj]
    repeat (first | refine⟨hbb,?_⟩)
    refine⟨_,toVP (less04 x y),?_⟩;cases hls:zEo x y
    ·rw[hls,if_neg (by decide)]at hes;simp(maxSteps:=2000000)only[push_cast,seval,↓kw2,m0,t0,t3,t5,t6,t7,d1,hlen,hxi,hcy,zAj,hap,w2]
     repeat (first | refine⟨hbb,?_⟩ | refine⟨zEq (by rw[zM]; omega) (by decide),?_⟩)
     exact ih (n - 1) (by omega) _ _ ⟨i+1,es++[y],_,false,by omega,hne',by rw[List.append_assoc]; exact hes,by rw[List.map_append]; exact apHk_own,ownNe (by omega),(zDn hl0 ho0).trans m0,t0,t3,rfl,t6,rfl⟩
    ·rw[hls,if_pos rfl]at hes;have m0':=(zDn (k:=7) (H:=H) (s:=o) (es:=es.map Wnt.av) (v:=.agg [I x.p,I x.q,I x.r,B x.s,B x.t,B x.u,B x.v]) hl0 ho0).trans m0;have hap2:=fun v=>aAppK (P:=zP) (k:=7) un97 un97 ze26 rfl by26 (apHk_own (k:=7) (H:=H) (s:=o) (es:=es.map Wnt.av) (v:=.agg [I x.p,I x.q,I x.r,B x.s,B x.t,B x.u,B x.v])) v
     have hl2:=zDk (k:=7) (H:=H) (s:=o) (es:=es.map Wnt.av) (v:=.agg [I x.p,I x.q,I x.r,B x.s,B x.t,B x.u,B x.v]);have hown3:=apHk_own (k:=7) (H:=apHk 7 H o (es.map Wnt.av) (.agg [I x.p,I x.q,I x.r,B x.s,B x.t,B x.u,B x.v])) (s:=.sl (H.length+1) 0 ((es.map Wnt.av).length+1) ((es.map Wnt.av).length+1)) (es:=es.map Wnt.av++[.agg [I x.p,I x.q,I x.r,B x.s,B x.t,B x.u,B x.v]]) (v:=y.av);rw[List.length_append,List.length_singleton]at hown3;simp(maxSteps:=2000000)only[push_cast,seval,↓kw2,m0,m0',t0,t3,t5,t6,t7,d1,hlen,hxi,hcy,zAj,hap,hap2,w2]
     repeat (first | refine⟨hbb,?_⟩ | refine⟨zEq (by first | (rw[zM]; omega) | (rw[List.length_append,zM,List.length_singleton]; omega)) (by decide),?_⟩)
     exact ih (n - 1) (by omega) _ _ ⟨i+1,es++[x,y],_,true,by omega,hne',by rw[List.append_assoc]; exact hes,by rw[List.map_append,show [x,y].map Wnt.av=[x.av]++[y.av] from rfl,<- List.append_assoc]; exact hown3,ownNe (by omega),(zDn (by omega) (ownNe (by omega))).trans m0',t0,t3,rfl,rfl,rfl⟩
   ·rw[outL_t]at hes;refine goN ?_;simp(maxSteps:=2000000)only[push_cast,seval,↓kw2,m0,t0,t3,t5,t6,t7,d1,hlen,hxi,hcy,heq,zAj,hap,w2]
    repeat (first | refine⟨hbb,?_⟩ | refine⟨zEq (by rw[zM]; omega) (by decide),?_⟩)
    exact ih (n - 1) (by omega) _ _ ⟨i+1,es++[y],_,true,by omega,hne',by rw[List.append_assoc]; exact hes,by rw[List.map_append]; exact apHk_own,ownNe (by omega),(zDn hl0 ho0).trans m0,t0,t3,rfl,t6,rfl⟩
 ·have d1:decide ((i:Int) < (l.length:Int))=false:=zF (by omega);rw[List.drop_eq_nil_of_le (by omega)]at hes;rw[List.take_of_length_le (by omega)]at hne;have hput:putL zEo l x=outL zEo x l false:=by rw[putL,if_neg (fun h=>hne x h rfl)]
  rw[hput,<- hes];cases d
  ·skip
   refine goN ?_;simp(maxSteps:=2000000)only[push_cast,seval,↓kw2,m0,t0,t3,t5,t6,t7,d1,hlen,hap]
   repeat (first | refine⟨zEq (by rw[zM]; omega) (by decide),?_⟩)
   refine⟨_,rfl,2,?_⟩;rw[show outL zEo x [] false=[x] from rfl,List.map_append];exact apHk_own.frz (by
    have:=zAc Wnt.av (es++[x]) Wnt.pur;rw[List.map_append]at this;exact this)
  ·skip
   refine goN ?_;simp(maxSteps:=2000000)only[push_cast,seval,↓kw2,m0,t0,t3,t5,t6,t7,d1,hlen];refine⟨_,rfl,2,?_⟩;rw[show outL zEo x [] true=[] from rfl,List.append_nil];exact hown.frz (zAc Wnt.av _ Wnt.pur)
attribute [push_cast] Tryz.f46
attribute [push_cast] Tryz.f11
def dd{α:Type}[DecidableEq α]:List α->List α
 | []=>[]
 | x::l=>if x∈dd l then dd l else x::dd l
theorem turns_t{w:Wnt}(hv:w.v=true){t:Wnt}:t∈w.turns ↔ ∃ i,i < 6/\t=w.rot i:=by
 unfold Wnt.turns;rw[if_pos hv,Wnt.all_mem]
attribute [push_cast] Tryz.f13
theorem drawT{T:Tab}(hT:TOk zP GG T)(ord:List Nat){ops:Array Oper}(hB:ordB ops (fun _=>false) ord=true){rd:Option Nat}{n id:Nat}{k:List Item}{ts:Nat->AV}{H:List AO}{Q:Lv->(Nat->AV)->List AO->Prop}
  (h:symR zP GG T ops (fun _ ts H=>FW zP GG rd n k ts H Q) true ord ts H):FW zP GG rd n (.code (.region id ops true)::k) ts H Q :=
 FW.drawOrd hmix hB (zDi hT (fun _ _ h=>h) _ _ _ h)
theorem e102:Ent zP 102 Tryz.f102 [1,2] 3:=.mk Tryz.func102 rfl
attribute [push_cast] Tryz.f102
theorem swapped01(p q r:Int)(s t u v:Bool):Pur zP GG 102 [WT p q r s t u v,I 0,I 1] (WT q p r t s u v):=by
 refine goQ e102 TOk.nil 0 ?_;simp only[push_cast,seval,↓kw2];refine drawT TOk.nil [0,1,2,3,4,5,6,7,8,9,10,11,13,12,14,15] (by kernel_rfl) ?_;simp only[push_cast,seval,↓kw2];refine goW TOk.nil [1,2] 0 ?_;simp only[push_cast,seval,↓kw2];refine drawT TOk.nil [0,1,2,3,4,5,6,7,8,9,10,11,13,12,14,15] (by kernel_rfl) ?_;simp only[push_cast,seval,↓kw2];refine goW TOk.nil [1,2] 0 ?_;simp only[push_cast,seval,↓kw2];exact⟨_,rfl,zAa rfl rfl⟩
theorem swapped02(p q r:Int)(s t u v:Bool):Pur zP GG 102 [WT p q r s t u v,I 0,I 2] (WT r q p u t s v):=by
 refine goQ e102 TOk.nil 0 ?_;simp only[push_cast,seval,↓kw2];refine drawT TOk.nil [0,1,2,3,4,5,6,7,8,9,10,11,13,12,14,15] (by kernel_rfl) ?_;simp only[push_cast,seval,↓kw2];refine goW TOk.nil [1,2] 0 ?_;simp only[push_cast,seval,↓kw2];refine drawT TOk.nil [0,1,2,3,4,5,6,7,8,9,10,11,13,12,14,15] (by kernel_rfl) ?_;simp only[push_cast,seval,↓kw2];refine goW TOk.nil [1,2] 0 ?_;simp only[push_cast,seval,↓kw2];exact⟨_,rfl,zAa rfl rfl⟩
theorem swapped12(p q r:Int)(s t u v:Bool):Pur zP GG 102 [WT p q r s t u v,I 1,I 2] (WT p r q s u t v):=by
 refine goQ e102 TOk.nil 0 ?_;simp only[push_cast,seval,↓kw2];refine drawT TOk.nil [0,1,2,3,4,5,6,7,8,9,10,11,13,12,14,15] (by kernel_rfl) ?_;simp only[push_cast,seval,↓kw2];refine goW TOk.nil [1,2] 0 ?_;simp only[push_cast,seval,↓kw2];refine drawT TOk.nil [0,1,2,3,4,5,6,7,8,9,10,11,13,12,14,15] (by kernel_rfl) ?_;simp only[push_cast,seval,↓kw2];refine goW TOk.nil [1,2] 0 ?_;simp only[push_cast,seval,↓kw2];exact⟨_,rfl,zAa rfl rfl⟩
def gswap:List AV->Option (Prop × AV)
 | [.agg [.c (.int .i64 p),.c (.int .i64 q),.c (.int .i64 r),.c (.bool s),.c (.bool t),.c (.bool u),.c (.bool v)],.c (.int .i64 i),.c (.int .i64 k)]=>some ((i=0/\k=1)\/(i=0/\k=2)\/(i=1/\k=2),if i=0 then (if k=1 then WT q p r t s u v else WT r q p u t s v) else WT p r q s u t v)
 | _=>none
theorem gswap_ok:∀ args p,gswap args=some p->p.1->Pur zP GG 102 args p.2:=by
 intro args p hp hc
 unfold gswap at hp
 split at hp
 ·cases hp
  rcases hc with ⟨rfl,rfl⟩ | ⟨rfl,rfl⟩ | ⟨rfl,rfl⟩
  ·exact swapped01 _ _ _ _ _ _ _
  ·exact swapped02 _ _ _ _ _ _ _
  ·exact swapped12 _ _ _ _ _ _ _
 ·cases hp
attribute [push_cast] gswap
@[push_cast] def Q12:Tab:=Tab.ext Q11 102 gswap
theorem zEg:TOk zP GG Q12:=TOk.ext Q11_ok gswap_ok
def swaps(w:Wnt):List Wnt:=[w.rot 2,w.rot 5,w.rot 1,w.rot 3,w.rot 4]
def turnsR(w:Wnt):List Wnt:=if w.v=true then (swaps w).foldl (putL zEo) [w] else [w]
theorem foldP_mem{x:Wnt}:∀(l s:List Wnt),x∈l.foldl (putL zEo) s ↔ x∈s\/x∈l
 | [],s=>by simp
 | y::l,s=>by
  rw[List.foldl_cons,foldP_mem l,putL_mem,List.mem_cons]
  constructor
  ·rintro((h | h) | h)
   ·exact .inr (.inl h)
   ·exact .inl h
   ·exact .inr (.inr h)
  ·rintro(h | h | h)
   ·exact .inl (.inr h)
   ·exact .inl (.inl h)
   ·exact .inr h
theorem foldP_len:∀(l s:List Wnt),(l.foldl (putL zEo) s).length<=s.length+l.length
 | [],s=>by simp
 | y::l,s=>by
  have:=foldP_len l (putL zEo s y);have h2:(putL zEo s y).length<=s.length+1:=by rw[putL_len]; split <;> omega
  rw[List.foldl_cons,List.length_cons];omega
theorem turnsR_mem(w x:Wnt):x∈turnsR w ↔ x∈w.turns:=by
 cases hv:w.v
 ·unfold turnsR Wnt.turns;rw[hv,if_neg (by decide),if_neg (by decide)]
 ·rw[turns_t hv,turnsR,if_pos hv,foldP_mem];simp only[swaps,List.mem_cons,List.not_mem_nil,or_false]
  constructor
  ·rintro(rfl | rfl | rfl | rfl | rfl | rfl)
   ·exact⟨0,by decide,rfl⟩
   ·exact⟨2,by decide,rfl⟩
   ·exact⟨5,by decide,rfl⟩
   ·exact⟨1,by decide,rfl⟩
   ·exact⟨3,by decide,rfl⟩
   ·exact⟨4,by decide,rfl⟩
  ·rintro⟨i,hi,rfl⟩
   have hs:i=0\/i=1\/i=2\/i=3\/i=4\/i=5:=by omega
   rcases hs with rfl | rfl | rfl | rfl | rfl | rfl
   ·exact .inl rfl
   ·exact .inr (.inr (.inr (.inl rfl)))
   ·exact .inr (.inl rfl)
   ·exact .inr (.inr (.inr (.inr (.inl rfl))))
   ·exact .inr (.inr (.inr (.inr (.inr rfl))))
   ·exact .inr (.inr (.inl rfl))
theorem turnsR_len(w:Wnt):(turnsR w).length<=6:=by
 unfold turnsR
 split
 ·exact foldP_len _ _
 ·simp
theorem e45:Ent zP 45 Tryz.f45 [4] 1:=.mk Tryz.func45 rfl
attribute [push_cast] Tryz.f45
theorem turns04(w:Wnt):Pur zP GG 45 [w.av] (frS ((turnsR w).map Wnt.av)):=by
 obtain⟨p,q,r,s,t,u,v⟩:=w;show Pur zP GG 45 [WT p q r s t u v] _;cases v
 ·skip
  refine goQ e45 zEg 0 ?_;simp only[push_cast,seval,↓kw2];exact⟨_,rfl,3,rfl⟩
 ·skip
  refine goQ e45 zEg 0 ?_;simp only[push_cast,seval,↓kw2];refine drawT zEg [0,2,4,6,9,14,1,3,5,7,8,10,11,12,13] (by kernel_rfl) ?_;simp only[push_cast,seval,↓kw2];refine goW zEg [4] 1 ?_;simp only[push_cast,seval,↓kw2];have hp1:=put04 (l:=[⟨p,q,r,s,t,u,true⟩]) ((⟨p,q,r,s,t,u,true⟩:Wnt).rot 2) (by simp);refine OwnK.freeze (k:=7) (pre:=[]) (post:=[WT q p r t s u true]) (s:=.sl 1 0 1 1) (es:=[WT p q r s t u true]) (OwnK.row (k:=7) (id:=1) (es:=[WT p q r s t u true]) rfl (by simp)) rfl ?_
  intro H' hk
  refine AC.pur hp1 ?_;have hk2:=hk 2 (by simp[zAl]);refine goW zEg [4] 0 ?_;simp only[push_cast,seval,↓kw2]
  generalize hw:(⟨p,q,r,s,t,u,true⟩:Wnt)=w
  have hT:turnsR w=((swaps w).take 5).foldl (putL zEo) [w]:=by rw[<- hw]; rfl
  have hwr:∀ i,(w.rot i).av=((⟨p,q,r,s,t,u,true⟩:Wnt).rot i).av:=fun i=>by rw[hw]
  refine FW.loopInv (fun n ts H=>∃ i:Int,i+(n:Int)=5/\1<=i/\H[2]?=some (.arr 7 [WT q p r t s u true,WT r q p u t s true,WT p r q s u t true,WT q r p t u s true,WT r p q u s t true])/\ts 3=frS ((((swaps w).take i.toNat).foldl (putL zEo) [w]).map Wnt.av)/\ts 24=.sl 2 0 5 5/\ts 25=I 5/\ts 26=I i) 4
   ⟨1,by omega,by omega,hk2.trans rfl,by rw[<- hw]; rfl,rfl,rfl,rfl⟩ ?_
  clear hk hk2 hp1
  rintro n ih ts H ⟨i,hi,hi1,m2,t3,t24,t25,t26⟩
  refine FW.inLoop ?_;have hl2:=zAd m2;have hfl:=foldP_len ((swaps w).take i.toNat) [w];have hfl2:((swaps w).take i.toNat).length<=5:=by rw[List.length_take]; exact Nat.min_le_right _ _
  simp only[List.length_singleton]at hfl;have hcs:i=1\/i=2\/i=3\/i=4\/i=5:=by omega
  rcases hcs with rfl | rfl | rfl | rfl | rfl
  ·have hp:=put04 (w.rot 5) (show(((swaps w).take (1:Int).toNat).foldl (putL zEo) [w]).length<=2^19 by omega);rw[hwr]at hp;refine goW zEg [4] 0 ?_;simp only[push_cast,seval,↓kw2,t3,t24,t25,t26,m2,zAf,zAg];refine AC.pur hp ?_;refine goW zEg [4] 0 ?_;simp only[push_cast,seval,↓kw2,t3,t24,t25,t26];exact ih (n - 1) (by omega) _ _ ⟨2,by omega,by omega,(zL hl2).trans m2,rfl,t24,t25,rfl⟩
  ·have hp:=put04 (w.rot 1) (show(((swaps w).take (2:Int).toNat).foldl (putL zEo) [w]).length<=2^19 by omega);rw[hwr]at hp;refine goW zEg [4] 0 ?_;simp only[push_cast,seval,↓kw2,t3,t24,t25,t26,m2,zAf,zAg];refine AC.pur hp ?_;refine goW zEg [4] 0 ?_;simp only[push_cast,seval,↓kw2,t3,t24,t25,t26];exact ih (n - 1) (by omega) _ _ ⟨3,by omega,by omega,(zL hl2).trans m2,rfl,t24,t25,rfl⟩
  ·have hp:=put04 (w.rot 3) (show(((swaps w).take (3:Int).toNat).foldl (putL zEo) [w]).length<=2^19 by omega);rw[hwr]at hp;refine goW zEg [4] 0 ?_;simp only[push_cast,seval,↓kw2,t3,t24,t25,t26,m2,zAf,zAg];refine AC.pur hp ?_;refine goW zEg [4] 0 ?_;simp only[push_cast,seval,↓kw2,t3,t24,t25,t26];exact ih (n - 1) (by omega) _ _ ⟨4,by omega,by omega,(zL hl2).trans m2,rfl,t24,t25,rfl⟩
  ·have hp:=put04 (w.rot 4) (show(((swaps w).take (4:Int).toNat).foldl (putL zEo) [w]).length<=2^19 by omega);rw[hwr]at hp;refine goW zEg [4] 0 ?_;simp only[push_cast,seval,↓kw2,t3,t24,t25,t26,m2,zAf,zAg];refine AC.pur hp ?_;refine goW zEg [4] 0 ?_;simp only[push_cast,seval,↓kw2,t3,t24,t25,t26];exact ih (n - 1) (by omega) _ _ ⟨5,by omega,by omega,(zL hl2).trans m2,rfl,t24,t25,rfl⟩
  ·skip
   refine goW zEg [4] 0 ?_;simp only[push_cast,seval,↓kw2,t3,t24,t25,t26];exact⟨_,rfl,zAa (frS_pur (zAc Wnt.av _ Wnt.pur)) (by rw[hT])⟩
attribute [push_cast] Tryz.f34
theorem e44:Ent zP 44 Tryz.f44 [] 2:=.mk Tryz.func44 rfl
attribute [push_cast] Tryz.f44
theorem of12(w:Wnt)(X:Plc):Pur zP GG 44 [w.av,X.av] (B ((turnsR w).any fun t=>decide (isT t X))):=by
 have hT:=turns04 w;have hLl:=turnsR_len w
 generalize turnsR w=L at hT hLl
 have hL:IsSl (frS (L.map Wnt.av)) (L.map Wnt.av):=IsSl.frS _
 generalize frS (L.map Wnt.av)=sl at hT hL
 have hlen:=hL.len (P:=zP) un97;rw[zM]at hlen;have hidx:=fun(i:Nat) (hi:i < L.length) (H:List AO)=>hL.idx (P:=zP) un97 sz26 (i:=(i:Int)) (by rw[zM]; omega) (by omega) H
 obtain⟨x,y,z,xp,xq,xr,xs,xt,xu⟩:=X;obtain⟨wp,wq,wr,ws,wt,wu,wv⟩:=w;show Pur zP GG 44 [WT wp wq wr ws wt wu wv,PL x y z xp xq xr xs xt xu] _;refine goQ e44 TOk.nil 0 ?_;simp only[push_cast,seval,↓kw2];refine AC.pur hT ?_;refine goN ?_;simp only[push_cast,seval,↓kw2];refine FW.loopInv (fun n ts H=>∃ i:Nat,i+n=L.length/\((L.drop i).any fun t=>decide (isT t ⟨x,y,z,xp,xq,xr,xs,xt,xu⟩))=(L.any fun t=>decide (isT t ⟨x,y,z,xp,xq,xr,xs,xt,xu⟩))/\H=[.cells [I wp,I wq,I wr,B ws,B wt,B wu,B wv],.cells [I x,I y,I z,I xp,I xq,I xr,B xs,B xt,B xu]]/\ts 3=.ptr 1 0/\ts 5=sl/\ts 6=I (i:Int)) L.length
  ⟨0,by omega,rfl,rfl,rfl,rfl,rfl⟩ ?_
 rintro n ih ts H ⟨i,hi,hf,rfl,t3,t5,t6⟩
 refine FW.inLoop ?_;have w2:=zAh (n:=(i:Int)+1) (by omega) (by omega)
 by_cases hlt:i < L.length
 ·have d0:decide ((i:Int) < (L.length:Int))=true:=zT (by omega);have hx:=hidx i hlt;simp only[Int.toNat_natCast]at hx;rw[zAe Wnt.av L default hlt]at hx;rw[zAr default hlt,List.any_cons]at hf
  generalize L.getD i default=τ at hx hf
  obtain⟨p,q,r,s,t,u,v⟩:=τ;have hcy:(Wnt.mk p q r s t u v).av.cells=[I p,I q,I r,B s,B t,B u,B v]:=rfl;rw[hcy]at hx;have hbb:(0<=(i:Int)/\(i:Int) < ((L.map Wnt.av).length:Int)):=⟨by omega,by rw[zM]; omega⟩;obtain⟨a0,h0⟩:∃ a0,a0=(decide (p=xp)&&(torV s p==xs)):=⟨_,rfl⟩;obtain⟨a1,h1⟩:∃ a1,a1=(decide (q=xq)&&(torV t q==xt)):=⟨_,rfl⟩;obtain⟨a2,h2⟩:∃ a2,a2=(decide (r=xr)&&(torV u r==xu)):=⟨_,rfl⟩;have hT3:decide (isT ⟨p,q,r,s,t,u,v⟩ ⟨x,y,z,xp,xq,xr,xs,xt,xu⟩)=(a0&&(a1&&a2)):=by
   rw[h0,h1,h2,Bool.eq_iff_iff,decide_eq_true_iff];show((p=xp/\q=xq/\r=xr)/\(torV s p=xs/\torV t q=xt/\torV u r=xu)) ↔ _;simp only[zA,decide_eq_true_eq,beq_iff_eq];exact⟨fun⟨⟨e1,e2,e3⟩,e4,e5,e6⟩=>⟨⟨e1,e4⟩,⟨e2,e5⟩,e3,e6⟩,fun⟨⟨e1,e4⟩,⟨e2,e5⟩,e3,e6⟩=>⟨⟨e1,e2,e3⟩,e4,e5,e6⟩⟩
  rw[hT3]at hf;obtain⟨S,hS0,hS1,hS2,hS3⟩:∃ S:Int->Bool,S 0=true/\S 1=a0/\S 2=(a0&&a1)/\S 3=(a0&&(a1&&a2)):=⟨fun k=>if k=0 then true else if k=1 then a0 else if k=2 then (a0&&a1) else (a0&&(a1&&a2)),rfl,rfl,rfl,rfl⟩;refine goN ?_;simp only[push_cast,seval,↓kw2,t3,t5,t6,d0,hlen];refine FW.loopInv (fun l ts H=>∃ k:Int,k+(l:Int)=3/\0<=k/\H=[.cells [I wp,I wq,I wr,B ws,B wt,B wu,B wv],.cells [I x,I y,I z,I xp,I xq,I xr,B xs,B xt,B xu]]/\ts 3=.ptr 1 0/\ts 5=sl/\ts 6=I (i:Int)/\ts 7=B (S k)/\ts 8=I k) 3
   ⟨0,by omega,by omega,rfl,t3,t5,t6,by rw[hS0]; rfl,rfl⟩ ?_
  clear t3 t5 t6 ts
  rintro l ihl ts H ⟨k,hk,hk0,rfl,t3,t5,t6,t7,t8⟩
  refine FW.inLoop ?_;have hcs:k=0\/k=1\/k=2\/k=3:=by omega
  rcases hcs with rfl | rfl | rfl | rfl
  ·by_cases e1:p=xp
   ·have d1:decide (p≠xp)=false:=by simp[e1]
    cases s
    ·cases xs
     all_goals
      simp only[e1,torV,decide_true,Bool.true_and,Bool.false_and,beq_self_eq_true,show(false==true)=false from rfl]at h0;refine goN ?_;simp only[push_cast,seval,↓kw2,t3,t5,t6,t7,t8,hx,d1,zEa,zDx,zDz,zDy]
      repeat (first | refine⟨hbb,?_⟩)
      exact ihl (l - 1) (by omega) _ _ ⟨1,by omega,by omega,rfl,t3,t5,t6,by first | (refine t7.trans (congrArg B ?_); simp[hS0,hS1,hS2,hS3,h0,h1,h2]; done) | (refine congrArg B ?_; simp[hS0,hS1,hS2,hS3,h0,h1,h2]; done),rfl⟩
    ·by_cases e2:1 < p
     ·have d2:=zT e2;have d3:decide (1 < xp)=true:=zT (by omega);cases xs
      all_goals
       simp only[e1,torV,d3,decide_true,Bool.true_and,Bool.false_and,beq_self_eq_true,show(true==false)=false from rfl]at h0;refine goN ?_;simp only[push_cast,seval,↓kw2,t3,t5,t6,t7,t8,hx,d1,d2,zEa,zDx,zDz,zDy]
       repeat (first | refine⟨hbb,?_⟩)
       exact ihl (l - 1) (by omega) _ _ ⟨1,by omega,by omega,rfl,t3,t5,t6,by first | (refine t7.trans (congrArg B ?_); simp[hS0,hS1,hS2,hS3,h0,h1,h2]; done) | (refine congrArg B ?_; simp[hS0,hS1,hS2,hS3,h0,h1,h2]; done),rfl⟩
     ·have d2:=zF e2;have d3:decide (1 < xp)=false:=zF (by omega);cases xs
      all_goals
       simp only[e1,d3,torV,decide_true,decide_false,Bool.true_and,Bool.false_and,Bool.and_false,beq_self_eq_true,show(false==true)=false from rfl]at h0;refine goN ?_;simp only[push_cast,seval,↓kw2,t3,t5,t6,t7,t8,hx,d1,d2,zEa,zDx,zDz,zDy]
       repeat (first | refine⟨hbb,?_⟩)
       exact ihl (l - 1) (by omega) _ _ ⟨1,by omega,by omega,rfl,t3,t5,t6,by first | (refine t7.trans (congrArg B ?_); simp[hS0,hS1,hS2,hS3,h0,h1,h2]; done) | (refine congrArg B ?_; simp[hS0,hS1,hS2,hS3,h0,h1,h2]; done),rfl⟩
   ·have d1:decide (p≠xp)=true:=by simp[e1]
    rw[zF e1,Bool.false_and]at h0;refine goN ?_;simp only[push_cast,seval,↓kw2,t3,t5,t6,t7,t8,hx,d1]
    repeat (first | refine⟨hbb,?_⟩)
    exact ihl (l - 1) (by omega) _ _ ⟨1,by omega,by omega,rfl,t3,t5,t6,by first | (refine t7.trans (congrArg B ?_); simp[hS0,hS1,hS2,hS3,h0,h1,h2]; done) | (refine congrArg B ?_; simp[hS0,hS1,hS2,hS3,h0,h1,h2]; done),rfl⟩
  ·by_cases e1:q=xq
   ·have d1:decide (q≠xq)=false:=by simp[e1]
    cases t
    ·cases xt
     all_goals
      simp only[e1,torV,decide_true,Bool.true_and,Bool.false_and,beq_self_eq_true,show(false==true)=false from rfl]at h1;refine goN ?_;simp only[push_cast,seval,↓kw2,t3,t5,t6,t7,t8,hx,d1,zEa,zDx,zDz,zDy]
      repeat (first | refine⟨hbb,?_⟩)
      exact ihl (l - 1) (by omega) _ _ ⟨2,by omega,by omega,rfl,t3,t5,t6,by first | (refine t7.trans (congrArg B ?_); simp[hS0,hS1,hS2,hS3,h0,h1,h2]; done) | (refine congrArg B ?_; simp[hS0,hS1,hS2,hS3,h0,h1,h2]; done),rfl⟩
    ·by_cases e2:1 < q
     ·have d2:=zT e2;have d3:decide (1 < xq)=true:=zT (by omega);cases xt
      all_goals
       simp only[e1,torV,d3,decide_true,Bool.true_and,Bool.false_and,beq_self_eq_true,show(true==false)=false from rfl]at h1;refine goN ?_;simp only[push_cast,seval,↓kw2,t3,t5,t6,t7,t8,hx,d1,d2,zEa,zDx,zDz,zDy]
       repeat (first | refine⟨hbb,?_⟩)
       exact ihl (l - 1) (by omega) _ _ ⟨2,by omega,by omega,rfl,t3,t5,t6,by first | (refine t7.trans (congrArg B ?_); simp[hS0,hS1,hS2,hS3,h0,h1,h2]; done) | (refine congrArg B ?_; simp[hS0,hS1,hS2,hS3,h0,h1,h2]; done),rfl⟩
     ·have d2:=zF e2;have d3:decide (1 < xq)=false:=zF (by omega);cases xt
      all_goals
       simp only[e1,d3,torV,decide_true,decide_false,Bool.true_and,Bool.false_and,Bool.and_false,beq_self_eq_true,show(false==true)=false from rfl]at h1;refine goN ?_;simp only[push_cast,seval,↓kw2,t3,t5,t6,t7,t8,hx,d1,d2,zEa,zDx,zDz,zDy]
       repeat (first | refine⟨hbb,?_⟩)
       exact ihl (l - 1) (by omega) _ _ ⟨2,by omega,by omega,rfl,t3,t5,t6,by first | (refine t7.trans (congrArg B ?_); simp[hS0,hS1,hS2,hS3,h0,h1,h2]; done) | (refine congrArg B ?_; simp[hS0,hS1,hS2,hS3,h0,h1,h2]; done),rfl⟩
   ·have d1:decide (q≠xq)=true:=by simp[e1]
    rw[zF e1,Bool.false_and]at h1;refine goN ?_;simp only[push_cast,seval,↓kw2,t3,t5,t6,t7,t8,hx,d1]
    repeat (first | refine⟨hbb,?_⟩)
    exact ihl (l - 1) (by omega) _ _ ⟨2,by omega,by omega,rfl,t3,t5,t6,by first | (refine t7.trans (congrArg B ?_); simp[hS0,hS1,hS2,hS3,h0,h1,h2]; done) | (refine congrArg B ?_; simp[hS0,hS1,hS2,hS3,h0,h1,h2]; done),rfl⟩
  ·by_cases e1:r=xr
   ·have d1:decide (r≠xr)=false:=by simp[e1]
    cases u
    ·cases xu
     all_goals
      simp only[e1,torV,decide_true,Bool.true_and,Bool.false_and,beq_self_eq_true,show(false==true)=false from rfl]at h2;refine goN ?_;simp only[push_cast,seval,↓kw2,t3,t5,t6,t7,t8,hx,d1,zEa,zDx,zDz,zDy]
      repeat (first | refine⟨hbb,?_⟩)
      exact ihl (l - 1) (by omega) _ _ ⟨3,by omega,by omega,rfl,t3,t5,t6,by first | (refine t7.trans (congrArg B ?_); simp[hS0,hS1,hS2,hS3,h0,h1,h2]; done) | (refine congrArg B ?_; simp[hS0,hS1,hS2,hS3,h0,h1,h2]; done),rfl⟩
    ·by_cases e2:1 < r
     ·have d2:=zT e2;have d3:decide (1 < xr)=true:=zT (by omega);cases xu
      all_goals
       simp only[e1,torV,d3,decide_true,Bool.true_and,Bool.false_and,beq_self_eq_true,show(true==false)=false from rfl]at h2;refine goN ?_;simp only[push_cast,seval,↓kw2,t3,t5,t6,t7,t8,hx,d1,d2,zEa,zDx,zDz,zDy]
       repeat (first | refine⟨hbb,?_⟩)
       exact ihl (l - 1) (by omega) _ _ ⟨3,by omega,by omega,rfl,t3,t5,t6,by first | (refine t7.trans (congrArg B ?_); simp[hS0,hS1,hS2,hS3,h0,h1,h2]; done) | (refine congrArg B ?_; simp[hS0,hS1,hS2,hS3,h0,h1,h2]; done),rfl⟩
     ·have d2:=zF e2;have d3:decide (1 < xr)=false:=zF (by omega);cases xu
      all_goals
       simp only[e1,d3,torV,decide_true,decide_false,Bool.true_and,Bool.false_and,Bool.and_false,beq_self_eq_true,show(false==true)=false from rfl]at h2;refine goN ?_;simp only[push_cast,seval,↓kw2,t3,t5,t6,t7,t8,hx,d1,d2,zEa,zDx,zDz,zDy]
       repeat (first | refine⟨hbb,?_⟩)
       exact ihl (l - 1) (by omega) _ _ ⟨3,by omega,by omega,rfl,t3,t5,t6,by first | (refine t7.trans (congrArg B ?_); simp[hS0,hS1,hS2,hS3,h0,h1,h2]; done) | (refine congrArg B ?_; simp[hS0,hS1,hS2,hS3,h0,h1,h2]; done),rfl⟩
   ·have d1:decide (r≠xr)=true:=by simp[e1]
    rw[zF e1,Bool.false_and]at h2;refine goN ?_;simp only[push_cast,seval,↓kw2,t3,t5,t6,t7,t8,hx,d1]
    repeat (first | refine⟨hbb,?_⟩)
    exact ihl (l - 1) (by omega) _ _ ⟨3,by omega,by omega,rfl,t3,t5,t6,by first | (refine t7.trans (congrArg B ?_); simp[hS0,hS1,hS2,hS3,h0,h1,h2]; done) | (refine congrArg B ?_; simp[hS0,hS1,hS2,hS3,h0,h1,h2]; done),rfl⟩
  ·rw[hS3]at t7;cases hA:(a0&&(a1&&a2))
   ·rw[hA]at t7;rw[hA,Bool.false_or]at hf;refine goN ?_;simp only[push_cast,seval,↓kw2,t3,t5,t6,t7,t8,w2];exact ih (n - 1) (by omega) _ _ ⟨i+1,by omega,hf,rfl,t3,t5,rfl⟩
   ·rw[hA]at t7;rw[hA,Bool.true_or]at hf;refine goN ?_;simp only[push_cast,seval,↓kw2,t3,t5,t6,t7,t8,w2];exact⟨_,rfl,zAa rfl (by rw[<- hf])⟩
 ·have d0:decide ((i:Int) < (L.length:Int))=false:=zF (by omega);rw[List.drop_eq_nil_of_le (by omega)]at hf;refine goN ?_;simp only[push_cast,seval,↓kw2,t3,t5,t6,d0,hlen];exact⟨_,rfl,zAa rfl (by rw[<- hf]; rfl)⟩
inductive SegK(H:List AO):AV->List Kep->Prop
 | nil:SegK H (.c (.slice none 0 0)) []
 | zs:SegK H .zs []
 | row {id n cap:Nat} {rs:List AV} {l:List Kep} (h:H[id]?=some (.arr 9 rs)) (hn:n=l.length) (hr:n<=rs.length) (hc:n<=cap) (ht:rs.take n=l.map Kep.av):SegK H (.sl id 0 n cap) l
def Same3(s s':AV):Prop:=(s=.c (.slice none 0 0)/\s'=.c (.slice none 0 0))\/(s=.zs/\s'=.zs)\/∃ id n cap n' cap',s=.sl id 0 n cap/\s'=.sl id 0 n' cap'
theorem SegK.same3{H:List AO}{s:AV}{l:List Kep}(h:SegK H s l):Same3 s s:=by
 cases h with
 | nil=>exact .inl ⟨rfl,rfl⟩
 | zs=>exact .inr (.inl ⟨rfl,rfl⟩)
 | row=>exact .inr (.inr ⟨_,_,_,_,_,rfl,rfl⟩)
theorem Same3.own{s s':AV}(h:Same3 s s'):zAl s'=zAl s:=by
 rcases h with ⟨rfl,rfl⟩ | ⟨rfl,rfl⟩ | ⟨_,_,_,_,_,rfl,rfl⟩ <;> rfl
theorem SegK.get{rs:List AV}{l:List Kep}{n:Nat}(hn:n=l.length)(ht:rs.take n=l.map Kep.av){j:Nat}(hj:j < n):rs.getD j .un=(l.getD j default).av:=by
 have h1:=zAe Kep.av l default (by omega:j < l.length);rw[<- ht]at h1;rw[<- h1,List.getD_eq_getElem?_getD,List.getD_eq_getElem?_getD,List.getElem?_take_of_lt hj]
def PredK(g:Nat)(caps:List AV)(pr:Kep->Bool)(l:List Kep)(s:AV)(H:List AO):Prop :=
 ∀(H':List AO) (x:Kep) (K:AV->List AO->Prop),x∈l->(∀ j,j < H.length->zAl s≠some j->H'[j]?=H[j]?)->K (B (pr x)) H'->AC zP GG g (x.av::caps) H' K
theorem indexK{g:Nat}{caps:List AV}{pr:Kep->Bool}{l:List Kep}{s:AV}{H:List AO}(hseg:SegK H s l)(hl:l.length<=2^20)(hp:PredK g caps pr l s H){K:AV->List AO->Prop}(hK:K (I (zDp pr l 0)) H) :
  AC zP GG 105 [s,.fn g [] caps] H K:=by
 cases hseg with
 | nil =>
  refine goE e105 TOk.nil 0 ?_;simp only[push_cast,seval,↓kw2];refine FW.inLoop ?_;refine goN ?_;simp only[push_cast,seval,↓kw2];exact⟨_,rfl,hK⟩
 | zs =>
  refine goE e105 TOk.nil 0 ?_;simp only[push_cast,seval,↓kw2];refine FW.inLoop ?_;refine goN ?_;simp only[push_cast,seval,↓kw2];exact⟨_,rfl,hK⟩
 | row hid hn hr hc ht =>
  rename_i id n cap rs;refine goE e105 TOk.nil 0 ?_;simp only[push_cast,seval,↓kw2];refine FW.loopInv (fun m ts H'=>∃ i:Nat,i+m=l.length/\zDp pr (l.drop i) i=zDp pr l 0/\H'=H/\ts 0=.sl id 0 n cap/\ts 1=.fn g [] caps/\ts 7=I (n:Int)/\ts 8=I (i:Int)) l.length
   ⟨0,by omega,rfl,rfl,rfl,rfl,rfl,rfl⟩ ?_
  rintro m ih ts H' ⟨i,hi,hf,rfl,t0,t1,t7,t8⟩
  refine FW.inLoop ?_
  by_cases hlt:i < n
  ·have hd1:decide ((i:Int) < (n:Int))=true:=by simp[hlt]
   have hg:=SegK.get hn ht hlt;have hb:i < rs.length:=by omega
   rw[zAr default (by omega:i < l.length)]at hf;have hmem:l.getD i default∈l:=by simp[List.getD,(by omega:i < l.length)]
   generalize l.getD i default=x at hg hf hmem
   have hcl:=Kep.cells x;refine goN ?_;simp only[push_cast,seval,↓kw2,t0,t1,t7,t8,hid,hd1,hg,hb,hcl,Int.toNat_natCast]
   repeat (refine⟨by omega,?_⟩)
   refine hp _ x _ hmem (fun _ _ _=>rfl) ?_;rw[firstI_cons]at hf;cases hpx:pr x
   ·rw[hpx,if_neg (by decide)]at hf;refine goN ?_;simp only[push_cast,seval,↓kw2,t8];rw[zAh (n:=(i:Int)+1) (by omega) (by omega)];exact ih (m - 1) (by omega) _ _ ⟨i+1,by omega,hf,rfl,t0,t1,t7,rfl⟩
   ·rw[hpx,if_pos rfl]at hf;refine goN ?_;simp only[push_cast,seval,↓kw2,t8];exact⟨_,rfl,by rw[hf]; exact hK⟩
  ·have hd1:decide ((i:Int) < (n:Int))=false:=by simp; omega
   rw[List.drop_eq_nil_of_le (by omega)]at hf;refine goN ?_;simp only[push_cast,seval,↓kw2,t7,t8,hd1];exact⟨_,rfl,by rw[show(-1:Int)=zDp pr l 0 from hf]; exact hK⟩
theorem e50:Ent zP 50 Tryz.f50 [] 2:=.mk Tryz.func50 rfl
attribute [push_cast] Tryz.f50
theorem deleteK{g:Nat}{caps:List AV}{pr:Kep->Bool}{l:List Kep}{s:AV}{H:List AO}(hseg:SegK H s l)(hl:l.length<=2^20)(hp:PredK g caps pr l s H){K:AV->List AO->Prop}
  (hK:∀ H' s',SegK H' s' (l.filter fun x=>!pr x)->Same3 s s'->(∀ j,j < H.length->zAl s≠some j->H'[j]?=H[j]?)->K s' H') :
  AC zP GG 50 [s,.fn g [] caps] H K:=by
 by_cases hno:zDp pr l 0=-1
 ·have hall:=firstI_no hno;have hfl:(l.filter fun x=>!pr x)=l:=List.filter_eq_self.2 fun x hx=>by rw[hall x hx]; rfl
  rw[hfl]at hK;refine goE e50 TOk.nil 0 ?_;simp only[push_cast,seval,↓kw2];refine indexK hseg hl hp ?_;rw[hno];refine goN ?_;simp only[push_cast,seval,↓kw2];exact⟨_,rfl,hK _ _ hseg hseg.same3 fun _ _ _=>rfl⟩
 ·obtain⟨k,hk,hfi,hpk,hpre⟩:=firstI_yes hno;rw[Nat.zero_add]at hfi;have hseg0:=hseg;cases hseg with
  | nil=>simp at hk
  | zs=>simp at hk
  | row hid hn hr hc ht =>
   rename_i id n cap rs;have hk1:¬ (k:Int)=-1:=by omega
   have w1:=zAh (n:=(k:Int)+1) (by omega) (by omega);refine goE e50 TOk.nil 0 ?_;simp only[push_cast,seval,↓kw2];refine indexK hseg0 hl hp ?_;rw[hfi];refine goN ?_;simp only[push_cast,seval,↓kw2,hk1,w1];have hfk:(l.take (k+1)).filter (fun x=>!pr x)=l.take k:=by
    rw[zAo default hk,List.filter_append,List.filter_eq_self.2 fun x hx=>by rw[hpre x hx]; rfl];have:([l.getD k default].filter fun x=>!pr x)=[]:=by rw[List.filter_cons_of_neg (by rw[hpk]; decide),List.filter_nil]
    rw[this,List.append_nil]
   have htk0:rs.take k=(l.take k).map Kep.av:=by
    have h:=congrArg (List.take k) ht;rw[List.take_take,Nat.min_eq_left (by omega),<- List.map_take]at h;exact h
   refine FW.loopInv (fun m ts H'=>∃(i j:Nat) (rs':List AV),j+m=l.length/\i < j/\H'[id]?=some (.arr 9 rs')/\rs'.length=rs.length/\i=((l.take j).filter fun x=>!pr x).length/\rs'.take i=((l.take j).filter fun x=>!pr x).map Kep.av /\
    (∀ q,i<=q->q < n->∃ y:Kep,rs'.getD q .un=y.av)/\(∀ q,j<=q->q < n->rs'.getD q .un=(l.getD q default).av)/\(∀ q,q < H.length->q≠id->H'[q]?=H[q]?)/\H.length<=H'.length/\ts 0=.sl id 0 n cap/\ts 1=.fn g [] caps/\ts 5=I (i:Int)/\ts 6=I (j:Int)) (l.length - (k+1))
    ⟨k,k+1,rs,by omega,by omega,hid,rfl,by rw[hfk,List.length_take]; omega,by rw[hfk]; exact htk0,(fun q _ h2=>⟨_,SegK.get hn ht h2⟩),(fun q _ h2=>SegK.get hn ht h2),(fun _ _ _=>rfl),Nat.le_refl _,rfl,rfl,rfl,rfl⟩ ?_
   have hidl:=zAd hid
   rintro m ih ts H' ⟨i,j,rs',hj,hij,hr',hrl,hil,hit,hiy,hjy,hoth,hlen,t0,t1,t5,t6⟩
   refine FW.inLoop ?_
   by_cases hlt:j < n
   ·have hd1:decide ((j:Int) < (n:Int))=true:=by simp[hlt]
    have hg:=hjy j (Nat.le_refl _) hlt;obtain⟨y,hy⟩:=hiy i (Nat.le_refl _) (by omega);have hb:j < rs'.length:=by omega
    have hb2:i < rs'.length:=by omega
    have htk:=zAo default (by omega:j < l.length);have hmem:l.getD j default∈l:=by simp[List.getD,(by omega:j < l.length)]
    have w2:=zAh (n:=(j:Int)+1) (by omega) (by omega);have w3:=zAh (n:=(i:Int)+1) (by omega) (by omega)
    generalize hx:l.getD j default=x at hg hmem htk
    have hcl:=Kep.cells x;have hcy:=Kep.cells y;have hri:∀ X,(H'++X)[id]?=some (.arr 9 rs'):=fun X=>by rw[zL (by omega)]; exact hr'
    refine goN ?_;simp only[push_cast,seval,↓kw2,t0,t1,t5,t6,hr',hri,hd1,hg,hb,hcl,Int.toNat_natCast,zAf,zAg,Kep.av]
    repeat (refine⟨by omega,?_⟩)
    refine hp _ x _ hmem (fun q h1 h2=>by rw[zL (by omega)]; exact hoth q h1 (fun e=>h2 (by rw[e]; rfl))) ?_;cases hpx:pr x
    ·have hset:∀ X Y,((H'++X).set id Y)[id]?=some Y:=fun X Y=>zS (by simp; omega)
     refine goN ?_;simp only[push_cast,seval,↓kw2,t0,t1,t5,t6,hri,hy,hb2,hcy,w2,w3,Int.toNat_natCast,zAf,zAg,Kep.av]
     repeat (refine⟨by omega,?_⟩)
     have hft:(l.take (j+1)).filter (fun x=>!pr x)=(l.take j).filter (fun x=>!pr x)++[x]:=by rw[htk,List.filter_append]; simp[hpx]
     exact ih (m - 1) (by omega) _ _ ⟨i+1,j+1,rs'.set i x.av,by omega,by omega,hset _ _,by rw[List.length_set]; exact hrl,by rw[hft,List.length_append,List.length_singleton,<- hil],(by
       rw[hft,List.map_append,<- hit,List.take_add_one,zS hb2,List.take_set_of_le (Nat.le_refl _)];rfl),(fun q h1 h2=>by rw[List.getD_eq_getElem?_getD,zQ (by omega),<- List.getD_eq_getElem?_getD]; exact hiy q (by omega) h2),
      (fun q h1 h2=>by rw[List.getD_eq_getElem?_getD,zQ (by omega),<- List.getD_eq_getElem?_getD]; exact hjy q (by omega) h2),(fun q h1 h2=>by rw[zQ (fun e=>h2 e.symm),zL (by omega)]; exact hoth q h1 h2),by simp; omega,t0,t1,rfl,rfl⟩
    ·skip
     have hft:(l.take (j+1)).filter (fun x=>!pr x)=(l.take j).filter (fun x=>!pr x):=by rw[htk,List.filter_append]; simp[hpx]
     refine goN ?_;simp only[push_cast,seval,↓kw2,t5,t6,w2];exact ih (m - 1) (by omega) _ _ ⟨i,j+1,rs',by omega,by omega,hri _,hrl,by rw[hft]; exact hil,by rw[hft]; exact hit,hiy,(fun q h1 h2=>hjy q (by omega) h2),(fun q h1 h2=>by rw[zL (by omega)]; exact hoth q h1 h2),by simp; omega,t0,t1,t5,rfl⟩
   ·have hd1:decide ((j:Int) < (n:Int))=false:=by simp; omega
    have hjl:j=l.length:=by omega
    rw[hjl,List.take_length]at hil hit;have b4:i+(n - i)<=rs'.length:=by omega
    have b5:0 < cap - i:=by omega
    have hset:∀ X,(H'.set id X)[id]?=some X:=fun X=>zS (zAd hr')
    refine goN ?_;simp only[push_cast,seval,↓kw2,t0,t5,t6,hr',hd1,Int.toNat_natCast,zEp,zBw,aClear,b4,b5,hset]
    repeat (refine⟨by omega,?_⟩)
    refine⟨_,rfl,hK _ _ (SegK.row (n:=i) (cap:=cap) (hset _) hil ?_ (by omega) ?_) (.inr (.inr ⟨_,_,_,_,_,rfl,rfl⟩)) fun q h1 h2=>?_⟩
    ·simp only[List.length_append,List.length_take,List.length_replicate,List.length_drop]; omega
    ·rw[List.take_append_of_le_length (by rw[List.length_take]; omega),List.take_take,Nat.min_self]; exact hit
    ·have hq:q≠id:=fun e=>h2 (by rw[e]; rfl)
     rw[zQ (fun e=>hq e.symm)]; exact hoth q h1 hq
theorem e75:Ent zP 75 Tryz.f75 [] 2:=.mk Tryz.func75 rfl
attribute [push_cast] Tryz.f75
theorem drop1_pur(k:Kep)(id:Int):Pur zP GG 75 [k.av,.iptr [I id] 0] (B (decide (k.id=id))):=by
 show Pur zP GG 75 [KP k.id k.x k.y k.z k.p k.q k.r k.fr k.till,.iptr [I id] 0] _;refine goQ e75 TOk.nil 0 ?_;simp only[push_cast,seval,↓kw2];exact⟨_,rfl,zAa rfl rfl⟩
attribute [push_cast] Tryz.f52
theorem predK{g:Nat}{pr:Kep->Bool}{n:Int}(h:∀ k:Kep,Pur zP GG g [k.av,.iptr [I n] 0] (B (pr k))){l:List Kep}{s:AV}{H:List AO}{q:Nat}(hq:H[q]?=some (.cells [I n]))(hs:zAl s≠some q):PredK g [.ptr q 0] pr l s H:=by
 intro H' x K _ hf hK
 have hq':H'[q]?=some (.cells [I n]):=(hf q (zAd hq) hs).trans hq;refine AC.view ggp (n:=2) (args':=[x.av,.iptr [I n] 0]) ?_ rfl rfl (h x) hK;have h1:frz 2 H' x.av=some x.av:=zBh rfl;have h2:frz 2 H' (.ptr q 0)=some (.iptr [I n] 0):=by
  unfold Go.Ab.frz;simp only[AV.pur,Bool.false_eq_true,if_false,hq',mapO,zBh (a:=I n) rfl];rfl
 simp only[mapO,h1,h2]
theorem LiveS.segK{H:List AO}{s r:AV}{l:List Kep}(h:LiveS 9 H s r (l.map Kep.av)):SegK H r l:=by
 generalize hm:l.map Kep.av=m at h
 cases h with
 | nil=>rw[List.map_eq_nil_iff.1 hm]; exact .nil
 | zs=>rw[List.map_eq_nil_iff.1 hm]; exact .zs
 | row h h0 =>
  subst hm;rw[zM]at h0 ⊢;exact .row h rfl (by rw[zM]; exact Nat.le_refl _) (Nat.le_refl _) (List.take_of_length_le (by simp))
def delS(ks:AV)(l:List Kep):AV:=match ks with
 | .c (.slice none 0 0)=>.c (.slice none 0 0)
 | _=>.isl (l.map Kep.av)
def delZ(ks:AV)(l:List Kep):AV:=match ks with
 | .c (.slice none 0 0)=>.c (.slice none 0 0)
 | .isl []=>.zs
 | _=>.isl (l.map Kep.av)
theorem del_froz{H0 H:List AO}{ks r s':AV}{l m:List Kep}(hr:LiveS 9 H0 ks r (l.map Kep.av))(hs:Same3 r s')(hg:SegK H s' m):frz 2 H s'=some (delZ ks m)/\(delZ ks m).pur=true/\(s'.pur=true->delZ ks m=s'):=by
 generalize hm:l.map Kep.av=q at hr
 cases hr with
 | nil =>
  rcases hs with ⟨_,rfl⟩ | ⟨h,_⟩ | ⟨_,_,_,_,_,h,_⟩
  ·exact⟨rfl,rfl,fun _=>rfl⟩
  ·cases h
  ·cases h
 | zs =>
  rcases hs with ⟨h,_⟩ | ⟨_,rfl⟩ | ⟨_,_,_,_,_,h,_⟩
  ·cases h
  ·exact⟨rfl,rfl,fun _=>rfl⟩
  ·cases h
 | row h h0 =>
  rcases hs with ⟨h,_⟩ | ⟨h,_⟩ | ⟨_,_,_,_,_,_,rfl⟩
  ·cases h
  ·cases h
  ·cases q with
   | nil=>simp at h0
   | cons x q =>
    cases hg with
    | row hid hn hr hc ht =>
     refine⟨?_,by simp[delZ,AV.pur,zAc Kep.av _ (fun _=>rfl)],fun e=>by cases e⟩;unfold Go.Ab.frz;simp only[AV.pur,Bool.false_eq_true,if_false,hid,Nat.zero_add,hr,if_true,List.drop_zero,ht];rw[zEc (zAc Kep.av _ (fun _=>rfl))]; rfl
theorem del_le{ks:AV}{l m:List Kep}(hs:IsSl ks (l.map Kep.av))(hm:l=[]->m=[]):Le (delZ ks m) (delS ks m):=by
 rcases hs with rfl | ⟨h0,rfl⟩
 ·cases l with
  | nil =>
   rw[hm rfl];exact fun _ _ _=>zs_isl
  | cons x l=>exact Le.refl _
 ·exact Le.refl _
theorem delS_sl{ks:AV}{l m:List Kep}(hs:IsSl ks (l.map Kep.av))(hm:l=[]->m=[]):IsSl (delS ks m) (m.map Kep.av):=by
 rcases hs with rfl | ⟨h0,rfl⟩
 ·exact .inl rfl
 ·rw[hm (List.map_eq_nil_iff.1 h0)];exact .inr ⟨rfl,rfl⟩
attribute [push_cast] Tryz.f16
def Sta.left(s:Sta)(id:Int):List Kep:=s.keeps.filter fun k=>!decide (k.id=id)
def Sta.dropE(s:Sta)(id:Int):Int:=if s.okV=true then (if (s.left id).length=s.keeps.length then 6 else 0) else 8
def Sta.del(s:Sta)(id:Int):Sta:={ s with keeps:=s.left id,ks:=delS s.ks (s.left id) }
theorem tup2_frz{n:Nat}{H:List AO}{a a':AV}{x:Int}(h:frz (n+1) H a=some a'):frz (n+2) H (.tup [a,I x])=some (.tup [a',I x]):=by
 unfold Go.Ab.frz
 split
 ·rename_i hq;have ha:a.pur=true:=by simpa[AV.pur,AV.purL]using hq
  rw[zBh ha]at h;cases h;rfl
 ·simp only[mapO,h,zBh (a:=I x) rfl];rfl
theorem SegK.len{H:List AO}{r:AV}{l:List Kep}(h:SegK H r l):aLen zP 55 r=some (l.length:Int):=by
 cases h with
 | nil=>unfold aLen; simp only[un55]; rfl
 | zs=>unfold aLen; simp only[un55]; rfl
 | row h hn hr hc ht=>unfold aLen; simp only[un55,hn]
theorem SegK.keep{H H':List AO}{r:AV}{l:List Kep}(h:SegK H r l)(hk:∀ i,zAl r=some i->H'[i]?=H[i]?):SegK H' r l:=by
 cases h with
 | nil=>exact .nil
 | zs=>exact .zs
 | row h hn hr hc ht=>exact .row ((hk _ rfl).trans h) hn hr hc ht
theorem SegK.cell{H:List AO}{r:AV}{l:List Kep}(h:SegK H r l):r.isCell=true/\r.isEl=true/\r.cells=[r]:=by
 cases h <;> exact⟨rfl,rfl,rfl⟩
theorem e25:Ent zP 25 Tryz.f25 [] 2:=.mk Tryz.func25 rfl
attribute [push_cast] Tryz.f25
theorem left_nil{s:Sta}(id:Int):s.keeps=[]->s.left id=[]:=fun e=>by unfold Sta.left; rw[e]; rfl
theorem del_good{s:Sta}(h:s.good)(id:Int):(s.del id).good:=⟨h.cs,h.js,h.ps,delS_sl h.ks (left_nil id),h.ds,h.hs,h.us⟩
end Go.Ab.Pd
namespace Go.Ab
open Go.Proofs
open Go.Proofs.Tryz renaming prog->zP
section
variable {P:Program} {G:Gl} {ops:Array Oper}
def okFst(ops:Array Oper)(ms:List Nat)(listed:Array Bool)(i:Nat):Bool:=match ops[i]? with
 | some oi=>!(clOf oi.op==.call)&&zEz (clOf oi.op) .scal false&&(List.range ops.size).all fun j=>j==i||listed.getD j true||(ms.getD j 0).testBit i||(match ops[j]? with
  | some oj=>oi.apart ops oj&&zEz (clOf oi.op) (clOf oj.op) false
  | none=>true)
 | none=>false
def lin2(ops:Array Oper)(ms:List Nat):Nat->Array Bool->List (List Nat)
 | 0,_=>[[]]
 | f+1,listed=>match (Region.ready .any ops listed).find? (okFst ops ms listed)with
  | some i=>(lin2 ops ms f (listed.setIfInBounds i true)).map (i::·)
  | none=>match Region.ready .any ops listed with
   | []=>[[]]
   | rs=>rs.flatMap fun i=>(lin2 ops ms f (listed.setIfInBounds i true)).map (i::·)
def lin2Ok(ops:Array Oper)(ms:List Nat):Nat->Array Bool->Bool
 | 0,listed=>(Region.ready .any ops listed).isEmpty
 | f+1,listed=>match (Region.ready .any ops listed).find? (okFst ops ms listed)with
  | some i=>lin2Ok ops ms f (listed.setIfInBounds i true)
  | none=>(Region.ready .any ops listed).all fun i=>(match ops[i]? with
   | some o=>!(clOf o.op==.call)
   | none=>false)&&lin2Ok ops ms f (listed.setIfInBounds i true)
theorem lin2_ne{ms:List Nat}:∀(f:Nat) (listed:Array Bool),lin2 ops ms f listed≠[]
 | 0,_=>by simp[lin2]
 | f+1,listed=>by
  unfold lin2
  split
  ·simp[lin2_ne f]
  ·split
   ·simp
   ·rename_i rs hrs;cases hr:Region.ready .any ops listed with
    | nil=>exact absurd hr hrs
    | cons i rs=>simp[lin2_ne f]
theorem lin2_sound{K:(Nat->AV)->List AO->Prop}:∀(f:Nat) (listed:Array Bool) (ts:Nat->AV) (H:List AO),Closed ops listed->lin2Ok ops (zDu [] ops.toList) f listed=true->(∀ l∈lin2 ops (zDu [] ops.toList) f listed,runR P G ops (fun _=>false) K l ts H)->anyR P G ops (fun _=>false) K f listed ts H
 | 0,listed,ts,H,hcl,hk,h=>⟨by simpa[lin2Ok]using hk,h [] (by simp[lin2])⟩
 | f+1,listed,ts,H,hcl,hk,h=>by
  unfold lin2Ok at hk;unfold lin2 at h
  split at hk
  ·rename_i i hi;rw[hi]at h;simp only[List.mem_map,forall_exists_index,and_imp,forall_apply_eq_imp_iff₂]at h;have hr':=List.mem_of_find?_eq_some hi;have hok:=List.find?_some hi;unfold okFst at hok
   split at hok
   ·rename_i oi ho;rw[zA,zA,Bool.not_eq_true',List.all_eq_true]at hok;obtain⟨⟨hci,hcs⟩,hall⟩:=hok;have h1:∀ l∈lin2 ops (zDu [] ops.toList) f (listed.setIfInBounds i true),zBl P G ops (fun _=>false) i ts H (runR P G ops (fun _=>false) K l):=fun l hl=>h l hl
    have h2:=stepR_all (lin2_ne f _) (by rw[ho]; show(!(clOf oi.op==.call))=true; rw[hci]; rfl) h1;obtain⟨v,hy,hK⟩:=YR.of_step ho hcs (by simp) h2;refine anyR_first (C:=clsC (clOf oi.op) H) (W:=fun j=>((zDu [] ops.toList).getD j 0).testBit i) ho (fun listed j hcl hj hi=>masks_wait hcl hj hi) f listed ts H (fun j oj hoj hji hun hw=>?_) hcl hr' hy (clsC_refl _ _) (lin2_sound f _ _ _ (hcl.set hr') hk hK);have hlt:j < ops.size:=(Array.getElem?_eq_some_iff.1 hoj).1;have:=hall j (by simpa using hlt);simp only[Bool.or_eq_true,hoj,zA,hun,hw,beq_iff_eq,hji,Bool.false_eq_true,false_or,or_false]at this;exact⟨this.1,keeps_cls this.2⟩
   ·cases hok
  ·rename_i hno;rw[hno]at h;rw[List.all_eq_true]at hk;refine⟨fun e=>?_,fun i hi=>?_⟩
   ·refine h [] ?_;simp only;rw[e];simp
   ·have hk':=hk i hi;rw[zA]at hk';have h1:∀ l∈lin2 ops (zDu [] ops.toList) f (listed.setIfInBounds i true),zBl P G ops (fun _=>false) i ts H (runR P G ops (fun _=>false) K l):=fun l hl=>by
     refine h (i::l) ?_;simp only;cases hr:Region.ready .any ops listed with
     | nil=>rw[hr]at hi; cases hi
     | cons a rs =>
      rw[hr]at hi;simp only[List.mem_flatMap,List.mem_map];exact⟨i,hi,l,hl,rfl⟩
    exact zCn (stepR_all (lin2_ne f _) hk'.1 h1) fun ts' H' h2=>lin2_sound f _ ts' H' (hcl.set hi) hk'.2 h2
theorem FW.drawAll2(hm:P.follows .mixedOrders=true){ls:List (List Nat)}(hl:lin2 ops (zDu [] ops.toList) ops.size (Array.replicate ops.size false)=ls)(hk:lin2Ok ops (zDu [] ops.toList) ops.size (Array.replicate ops.size false)=true){rd:Option Nat}{n id:Nat}{k:List Item}{ts:Nat->AV}{H:List AO}{Q:Lv->(Nat->AV)->List AO->Prop}{Inv:(Nat->AV)->List AO->Prop}
  (h:∀ l∈ls,symR P G Tab.nil ops (fun _ ts H=>Inv ts H) true l ts H) (hK:∀ ts' H',Inv ts' H'->FW P G rd n k ts' H' Q):FW P G rd n (.code (.region id ops true)::k) ts H Q :=
 FW.draw hm (imp:=fun _=>false) (lin2_sound _ _ _ _ (fun j o ho hl=>by
  exfalso
  rcases Nat.lt_or_ge j ops.size with h1 | h1 <;> simp[Array.getD,h1]at hl) hk fun l hl'=>zDi TOk.nil (fun ts' H' h'=>hK ts' H' h') l ts H (h l (hl ▸ hl')))
end
end Go.Ab
namespace Go.Ab.Pd
open Go.Proofs
open Go.Proofs.Tryz renaming prog->zP
theorem Jb.same_refl(j:Jb):j.same j=true:=by
 unfold Jb.same;simp
theorem sameJ_refl:∀ l:List Jb,sameJ l l=true
 | []=>rfl
 | j::l=>by rw[sameJ_cons,Jb.same_refl,sameJ_refl l]; rfl
theorem dimsEq0(a b c a' b' c':Int):aEqS zP 23 (.agg [I a,I b,I c]) (.agg [I a',I b',I c'])=some (a==a'&&(b==b'&&(c==c'&&true))):=by kernel_rfl
attribute [push_cast] Tryz.f20
theorem add_facts{s:Sta}{b:Bx6}{fr till:Int}(h:s.addE b fr till=0):s.okV=true/\s.ckb b=0/\s.now<=fr/\fr < till/\till<=1099511627776/\(s.keeps.length:Int) < 4/\s.next < 2147483647/\s.taken s.keeps (s.own b) fr till=false:=by
 unfold Sta.addE at h
 split at h
 ·rename_i h1
  split at h
  ·cases h
  ·rename_i h2
   split at h
   ·cases h
   ·rename_i h3
    split at h
    ·cases h
    ·rename_i h4;unfold Sta.argE at h2;unfold Sta.full at h3;simp only[Bool.or_eq_true,Bool.not_eq_true',decide_eq_true_eq,decide_eq_false_iff_not,not_or,Classical.not_not]at h2 h3;refine⟨h1,h2.1,by omega,by omega,by omega,by omega,by omega,by simpa using h4⟩
 ·cases h
theorem put_good{s:Sta}(h:s.good)(b:Bx6)(fr till:Int):(s.put b fr till).good:=⟨h.cs,h.js,h.ps,.inl rfl,h.ds,h.hs,h.us⟩
theorem put_lim{s:Sta}(h:s.lim)(h4:(s.keeps.length:Int) < 4)(b:Bx6)(fr till:Int):(s.put b fr till).lim:=⟨h.jl,h.pl,by show(s.keeps++[_]).length<=_; simp; omega,h.dl,h.hl,h.ul⟩
theorem put_lim2{s:Sta}(h:s.lim2)(h4:(s.keeps.length:Int) < 4)(b:Bx6)(fr till:Int):(s.put b fr till).lim2:=⟨h.cl,h.jl,h.pl,by show(s.keeps++[_]).length<=_; simp; omega,h.dl,h.hl,h.ul,h.al⟩
theorem rising{f:Nat->Int}{n:Nat}(h:∀ i,0 < i->i < n->f (i - 1) < f i):∀ {a b:Nat},a < b->b < n->f a < f b:=by
 intro a b hab hb
 induction b with
 | zero=>omega
 | succ b ih =>
  have h1:=h (b+1) (by omega) hb;rw[Nat.add_sub_cancel]at h1
  by_cases e:a=b
  ·subst e; exact h1
  ·have:=ih (by omega) (by omega);omega
theorem jobs_rise{l:List Jb}:∀ {n:Nat},risN l n=true->∀ i,0 < i->i < n->(l.getD (i - 1) default).id < (l.getD i default).id
 | 0,_,i,_,hi=>by omega
 | n+1,h,i,h0,hi=>by
  unfold risN at h;simp only[zA,Bool.or_eq_true,decide_eq_true_eq]at h
  by_cases e:i=n
  ·subst e
   rcases h.2 with h2 | h2
   ·omega
   ·exact h2
  ·exact jobs_rise h.1 i h0 (by omega)
theorem get_put_ne{κ:Type}[DecidableEq κ][Inhabited κ]{M:MS κ}{k k':κ}(v:Int)(hne:¬k'=k):getM (putM M k v) k'=getM M k':=by
 have key:∀ l:List (Nat × κ × Int),(∀ i,fndM k l=some i->∀ e:Nat × κ × Int,e.2.1=k->fndM k' (l.set i e)=fndM k' l)/\(∀ e:Nat × κ × Int,e.2.1=k->fndM k' (l++[e])=fndM k' l):=by
  intro l
  induction l with
  | nil=>exact⟨fun i h=>(by cases h),fun e he=>by simp[fndM,he,hne]⟩
  | cons x l ih =>
   constructor
   ·intro i h e he
    unfold fndM at h
    split at h
    ·rename_i hx;cases h;rw[List.set_cons_zero];unfold fndM;rw[he,if_neg hne,if_neg (fun e'=>hne (e'.trans hx.symm))]
    ·cases hf:fndM k l with
     | none=>rw[hf]at h; cases h
     | some j =>
      rw[hf]at h;cases h;rw[List.set_cons_succ];unfold fndM;rw[ih.1 j hf e he]
   ·intro e he
    rw[List.cons_append];unfold fndM;rw[ih.2 e he]
 unfold putM;cases hf:fndM k M.1 with
 | none =>
  unfold getM;simp only;rw[(key M.1).2 _ rfl];cases hf':fndM k' M.1 with
  | none=>rfl
  | some i =>
   have:=(zEu hf').1;simp[List.getD,zL this]
 | some i =>
  unfold getM;simp only;rw[(key M.1).1 i hf _ rfl];cases hf':fndM k' M.1 with
  | none=>rfl
  | some j =>
   have h1:=zEu hf';have h2:=zEu hf;have hij:i≠j:=fun e=>hne (by have a:=h1.2 default; have b:=h2.2 default; rw[<- e]at a; exact a.symm.trans b)
   simp only;rw[List.getD_eq_getElem?_getD,zQ hij,<- List.getD_eq_getElem?_getD]
def zFq(l:List Jb)(id:Int):Int:=if zBm l id < 0 then 0 else (l.getD (zBm l id).toNat default).st
def zDe(l:List Jb)(j:Jb):Bool:=decide (j.st=1)&&anyN (fun i=>decide (3 < zFq l (j.after.getD i 0))) j.after.length 0
theorem stM_not:∀ {l:List Jb} {M:MS Int} {id:Int},(∀ j∈l,¬j.id=id)->getM (l.foldl (fun M j=>putM M j.id j.st) M) id=getM M id
 | [],M,id,_=>rfl
 | j::l,M,id,h=>by
  rw[List.foldl_cons,stM_not fun x hx=>h x (by simp[hx]),get_put_ne _ (fun e=>h j (by simp) e.symm)]
theorem stM_in:∀ {l:List Jb} {M:MS Int},l.Pairwise (fun x y=>¬x.id=y.id)->∀ j∈l,getM (l.foldl (fun M j=>putM M j.id j.st) M) j.id=j.st
 | [],M,_,j,hj=>by cases hj
 | x::l,M,hp,j,hj=>by
  rw[List.pairwise_cons]at hp;rw[List.foldl_cons]
  rcases List.mem_cons.1 hj with rfl | hj
  ·rw[stM_not fun y hy e=>hp.1 y hy e.symm,get_put]
  ·exact stM_in hp.2 j hj
theorem findN_no{l:List Jb}{id:Int}(h:zBm l id < 0):∀ j∈l,¬j.id=id:=by
 intro j hj e
 obtain⟨i,hi,rfl⟩:=List.getElem_of_mem hj;have h1:=zCl (fun i=>decide ((l.getD i default).id=id)) l.length 0;unfold zBm at h;rw[zF (by omega)]at h1;have h2:=(anyN_iff (pr:=fun i=>decide ((l.getD i default).id=id)) (n:=l.length) (i:=0)).2 ⟨i,by omega,by omega,zT (p:=(l.getD i default).id=id) (by rw[show l.getD i default=l[i] by simp[List.getD,hi]]; exact e)⟩;rw[<- h1]at h2;cases h2
theorem stM_stat{l:List Jb}(hp:l.Pairwise fun x y=>¬x.id=y.id)(id:Int):getM (stM l) id=zFq l id:=by
 unfold stM zFq
 by_cases h:zBm l id < 0
 ·rw[if_pos h,stM_not (findN_no h)];rfl
 ·rw[if_neg h];obtain⟨h1,h2,h3⟩:=findN_lt h;have hm:l.getD (zBm l id).toNat default∈l:=by
   rw[show l.getD (zBm l id).toNat default=l[(zBm l id).toNat] by simp[List.getD,h2]];exact List.getElem_mem h2
  have:=stM_in (M:=([],0)) hp _ hm;rw[h3]at this;exact this
theorem lost_never{l:List Jb}(hp:l.Pairwise fun x y=>¬x.id=y.id)(j:Jb):zFp (stM l) j=zDe l j:=by
 unfold zFp zDe;simp only[stM_stat hp]
theorem same_off(j:Jb)(h:j.st=1):j.off.same j=false:=by
 unfold Jb.same;have:decide (j.off.st=j.st)=false:=zF (by rw[h]; show ¬(5:Int)=1; decide);rw[this];simp
theorem settle_lost:∀(l:List Jb) (M:MS Int),sameJ (zAy M l) l=!l.any (zFp M)/\(l.any (zFp M)=false->zAy M l=l)
 | [],M=>⟨rfl,fun _=>rfl⟩
 | j::l,M=>by
  unfold zAy;cases h:zFp M j
  ·rw[if_neg (by decide),sameJ_cons,Jb.same_refl,Bool.true_and,List.any_cons,h,Bool.false_or];obtain⟨h1,h2⟩:=settle_lost l M;exact⟨h1,fun h=>by rw[h2 h]⟩
  ·have hst:j.st=1:=by
    unfold zFp at h;rw[zA]at h;exact of_decide_eq_true h.1
   rw[if_pos rfl,sameJ_cons,same_off j hst,Bool.false_and,List.any_cons,h,Bool.true_or];exact⟨rfl,fun h=>by cases h⟩
def zBl(l:List Jb)(i:Nat):List Jb:=if zDe l (l.getD i default)=true then l.set i (l.getD i default).off else l
def passR(l:List Jb)(n:Nat):List Jb:=(List.range n).foldl zBl l
def zFc(l:List Jb):Nat->List Jb
 | 0=>l
 | k+1=>passR (zFc l k) l.length
theorem stepR_len(l:List Jb)(i:Nat):(zBl l i).length=l.length:=by unfold zBl; split <;> simp
theorem zDm(l:List Jb)(n:Nat):passR l (n+1)=zBl (passR l n) n:=by
 unfold passR;rw[List.range_succ,List.foldl_append];rfl
theorem passR_len(l:List Jb):∀ n,(passR l n).length=l.length
 | 0=>rfl
 | n+1=>by rw[zDm,stepR_len,passR_len l n]
theorem setdR_len(l:List Jb):∀ k,(zFc l k).length=l.length
 | 0=>rfl
 | k+1=>by
  show(passR (zFc l k) l.length).length=_;rw[passR_len,setdR_len l k]
theorem passR_keep{l:List Jb}(h:∀ i,i < l.length->zDe l (l.getD i default)=false):∀ n,n<=l.length->passR l n=l
 | 0,_=>rfl
 | n+1,hn=>by
  rw[zDm,passR_keep h n (by omega)];unfold zBl;rw[h n (by omega),if_neg (by decide)]
theorem setdR_keep{l:List Jb}(h:∀ i,i < l.length->zDe l (l.getD i default)=false):∀ k,zFc l k=l
 | 0=>rfl
 | k+1=>by
  show passR (zFc l k) l.length=l;rw[setdR_keep h k,passR_keep h _ (Nat.le_refl _)]
theorem stepR_five{l:List Jb}{i k:Nat}(h:(l.getD k default).st=5):((zBl l i).getD k default).st=5:=by
 unfold zBl
 split
 ·rename_i hn
  by_cases e:i=k
  ·subst e;unfold zDe at hn;rw[zA,decide_eq_true_eq]at hn;omega
  ·rw[List.getD_eq_getElem?_getD,zQ e,<- List.getD_eq_getElem?_getD];exact h
 ·exact h
theorem passR_five{l:List Jb}{k:Nat}(h:(l.getD k default).st=5):∀ n,((passR l n).getD k default).st=5
 | 0=>h
 | n+1=>by rw[zDm]; exact stepR_five (passR_five h n)
theorem passR_first{l:List Jb}{k:Nat}(hk:k < l.length)(h0:∀ i,i < k->zDe l (l.getD i default)=false)(h1:zDe l (l.getD k default)=true):∀ n,((passR l (k+1+n)).getD k default).st=5
 | 0=>by
  have:∀ n,n<=k->passR l n=l:=by
   intro n
   induction n with
   | zero=>intro _; rfl
   | succ n ih =>
    intro hn
    rw[zDm,ih (by omega)];unfold zBl;rw[h0 n (by omega),if_neg (by decide)]
  rw[Nat.add_zero,zDm,this k (Nat.le_refl _)];unfold zBl;rw[if_pos h1,List.getD_eq_getElem?_getD,zS hk];rfl
 | n+1=>by
  rw[<- Nat.add_assoc,zDm];exact stepR_five (passR_first hk h0 h1 n)
theorem setdR_five{l:List Jb}{k:Nat}(hk:k < l.length)(h0:∀ i,i < k->zDe l (l.getD i default)=false)(h1:zDe l (l.getD k default)=true):∀ n,((zFc l (n+1)).getD k default).st=5
 | 0=>by
  show((passR l l.length).getD k default).st=5;have:=passR_first hk h0 h1 (l.length - (k+1))
  rwa [show k+1+(l.length - (k+1))=l.length by omega]at this
 | n+1=>passR_five (setdR_five hk h0 h1 n) _
theorem sameJ_get:∀ {l m:List Jb},sameJ l m=true->∀ i,(l.getD i default).st=(m.getD i default).st
 | [],[],_,i=>rfl
 | x::l,y::m,h,i=>by
  rw[sameJ_cons,zA]at h;cases i with
  | zero =>
   have:=h.1;unfold Jb.same at this;simp only[zA,decide_eq_true_eq]at this;exact this.1.1.2
  | succ i=>exact sameJ_get h.2 i
 | [],y::m,h,i=>by cases h
 | x::l,[],h,i=>by cases h
theorem any_first{pr:Nat->Bool}:∀ {n:Nat},(∃ i,i < n/\pr i=true)->∃ i,i < n/\pr i=true/\∀ k,k < i->pr k=false
 | 0,⟨i,h,_⟩=>by omega
 | n+1,h=>by
  by_cases h':∃ i,i < n/\pr i=true
  ·obtain⟨i,h1,h2,h3⟩:=any_first h';exact⟨i,by omega,h2,h3⟩
  ·obtain⟨i,h1,h2⟩:=h;refine⟨i,h1,h2,fun k hk=>?_⟩;cases hp:pr k
   ·rfl
   ·exact absurd ⟨k,by omega,hp⟩ h'
theorem settled_same{l:List Jb}(hp:l.Pairwise fun x y=>¬x.id=y.id)(n:Nat):sameJ (zFc l (n+1)) l=sameJ (zAy (stM l) l) l:=by
 rw[(settle_lost l (stM l)).1];cases ha:l.any (zFp (stM l))
 ·have hno:∀ i,i < l.length->zDe l (l.getD i default)=false:=fun i hi=>by
   rw[<- lost_never hp];rw[List.any_eq_false]at ha;have:=ha l[i] (List.getElem_mem hi);rw[show l.getD i default=l[i] by simp[List.getD,hi]];simpa using this
  rw[setdR_keep hno,sameJ_refl]; rfl
 ·rw[List.any_eq_true]at ha;obtain⟨j,hj,hn⟩:=ha;obtain⟨i,hi,rfl⟩:=List.getElem_of_mem hj;obtain⟨k,hk,h1,h0⟩:=any_first (pr:=fun i=>zDe l (l.getD i default)) (n:=l.length) ⟨i,hi,by
   show zDe l (l.getD i default)=true;rw[<- lost_never hp,show l.getD i default=l[i] by simp[List.getD,hi]]; exact hn⟩
  have h5:=setdR_five hk h0 h1 n;cases hs:sameJ (zFc l (n+1)) l
  ·rfl
  ·have:=sameJ_get hs k;have h1':zDe l (l.getD k default)=true:=h1;unfold zDe at h1';rw[zA,decide_eq_true_eq]at h1';omega
theorem ris_ne{l:List Jb}(h:risN l l.length=true):l.Pairwise fun x y=>¬x.id=y.id:=by
 rw[List.pairwise_iff_getElem]
 intro i j hi hj hij e
 have:=rising (f:=fun i=>(l.getD i default).id) (n:=l.length) (jobs_rise h) hij hj;simp only[List.getD,hi,hj,List.getElem?_eq_getElem,Option.getD_some]at this;omega
def jobsR(x:Cfg)(l:List Jb)(now next:Int):Bool:=decide (tblE x l=0)&&(sameJ (zFc l (l.length+1)) l&&!anyN (fun i=>lateJ now next (l.getD i default)) l.length 0)
theorem jobsR_is(x:Cfg)(l:List Jb)(now next:Int):jobsR x l now next=jobsV x l now next:=by
 unfold jobsR jobsV
 by_cases h:tblE x l=0
 ·have hp:=ris_ne (tbl_0 h).2.2.2.1;rw[settled_same hp];cases hs:sameJ (zAy (stM l) l) l
  ·rw[Bool.false_and,Bool.false_and]
  ·obtain⟨h1,h2⟩:=settle_lost l (stM l);rw[hs]at h1;rw[h2 (by simpa using h1.symm)]
 ·rw[zF h,Bool.false_and,Bool.false_and]
end Go.Ab.Pd
