/- One of the texts that this claim stands on. -/
import Derived.Test.YtdfgdheehdabmaaGreatDoorEv39
import Derived.Test.YtdfgdheehdabmaaGreatDoorEv35
import Derived.Test.YtdfgdheehdabmaaGreatDoorEv37
set_option maxHeartbeats 40000000
set_option maxRecDepth 400000
set_option linter.all false
namespace Go.Ab.Pd
open Go.Proofs
theorem cmpV_neg(m n:Int):cmpV n m=-cmpV m n:=by unfold cmpV; split <;> split <;> (try split) <;> omega
theorem orV_neg(a b:Int):orV (-a) (-b)=-orV a b:=by unfold orV; split <;> split <;> omega
def Tri(p q r:Int):Prop:=(p < 0→q≤0→r < 0)∧(p≤0→q < 0→r < 0)∧(p=0→q=0→r=0)
theorem Tri.cmp(l m n:Int):Tri (cmpV l m) (cmpV m n) (cmpV l n):=by
 unfold Tri cmpV
 split <;> (try split) <;> (try split) <;> (try split) <;> (try split) <;> (try split) <;> omega
theorem Tri.or{a1 a2 a3 b1 b2 b3:Int}(h:Tri a1 a2 a3)(k:Tri b1 b2 b3):Tri (orV a1 b1) (orV a2 b2) (orV a3 b3):=by
 unfold Tri orV at *;obtain⟨h1,h2,h3⟩:=h;obtain⟨k1,k2,k3⟩:=k
 split <;> split <;> split <;> omega
theorem lexV_neg(p q r p' q' r':Int):lexV p' q' r' p q r=-lexV p q r p' q' r':=by
 unfold lexV;rw[cmpV_neg p p',cmpV_neg q q',cmpV_neg r r',orV_neg,orV_neg]
theorem lexV_zero{p q r p' q' r':Int}:lexV p q r p' q' r'=0 ↔ p=p'∧q=q'∧r=r':=by
 unfold lexV; rw[zBt,zBt,cmpV_zero,cmpV_zero,cmpV_zero]
theorem Tri.lex(p q r p' q' r' p'' q'' r'':Int):Tri (lexV p q r p' q' r') (lexV p' q' r' p'' q'' r'') (lexV p q r p'' q'' r''):=(Tri.cmp _ _ _).or ((Tri.cmp _ _ _).or (Tri.cmp _ _ _))
theorem cmp2_neg(a b c x y z p q r x' y' z' p' q' r' m n:Int)(s t u s' t' u':Bool):cmp2 a b c x' y' z' p' q' r' x y z p q r n m s' t' u' s t u=-cmp2 a b c x y z p q r x' y' z' p' q' r' m n s t u s' t' u':=by
 unfold cmp2;rw[cmpV_neg m n,cmpV_neg (atV a b c x y z),lexV_neg p q r,lexV_neg (bitV s),orV_neg,orV_neg,orV_neg]
theorem Tri.cmp2(a b c x y z p q r x' y' z' p' q' r' x2 y2 z2 p2 q2 r2 l m n:Int)(s t u s' t' u' s2 t2 u2:Bool) :
  Tri (Pd.cmp2 a b c x y z p q r x' y' z' p' q' r' l m s t u s' t' u') (Pd.cmp2 a b c x' y' z' p' q' r' x2 y2 z2 p2 q2 r2 m n s' t' u' s2 t2 u2) (Pd.cmp2 a b c x y z p q r x2 y2 z2 p2 q2 r2 l n s t u s2 t2 u2) :=
 (Tri.cmp _ _ _).or ((Tri.cmp _ _ _).or ((Tri.lex _ _ _ _ _ _ _ _ _).or (Tri.lex _ _ _ _ _ _ _ _ _)))
theorem cmp2_zero{a b c x y z p q r x' y' z' p' q' r' m n:Int}{s t u s' t' u':Bool}(h:okPl a b c x y z p q r s t u)(h':okPl a b c x' y' z' p' q' r' s' t' u')(e:cmp2 a b c x y z p q r x' y' z' p' q' r' m n s t u s' t' u'=0):zDy x y z p q r x' y' z' p' q' r' s t u s' t' u':=by
 unfold cmp2 at e;rw[zBt,zBt,zBt,cmpV_zero,cmpV_zero,lexV_zero,lexV_zero]at e;obtain⟨_,e1,⟨e2,e3,e4⟩,e5,e6,e7⟩:=e;have b1:=h.2.1;have b2:=h'.2.1;unfold okB ok1 at b1 b2;obtain⟨f1,f2,f3⟩:=at_inj h.1 (by unfold okP; omega) (by unfold okP; omega) e1;exact⟨f1,f2,f3,e2,e3,e4,zEm e5,zEm e6,zEm e7⟩
theorem cmp2_self(a b c x y z p q r m:Int)(s t u:Bool):cmp2 a b c x y z p q r x y z p q r m m s t u s t u=0:=by
 unfold cmp2;rw[zBt,zBt,zBt,cmpV_zero,cmpV_zero,lexV_zero,lexV_zero];exact⟨rfl,rfl,⟨rfl,rfl,rfl⟩,rfl,rfl,rfl⟩
def minL(lt:Plc→Plc→Bool):Plc→List Plc→Plc
 | m,[]=>m
 | m,x::l=>minL lt (if lt x m=true then x else m) l
def impM:Nat→Bool:=fun i=>i==6
def ordM:List (Nat × Bool):=[(0,true),(1,true),(2,true),(3,true),(4,true),(5,true),(6,false),(7,true)]
def ltS(a b c:Int)(sc:Plc→Int)(x y:Plc):Bool:=decide (cmpS a b c sc x y < 0)
theorem e15:Ent Tryz.prog 15 Tryz.f15 [7] 2:=.mk Tryz.func15 rfl
attribute [push_cast] Tryz.f15
theorem min_ac{sc:Plc→Int}{a b c:Int}{sv:AV}(hsv:sv.isCell=true∧sv.isEl=true∧sv.cells=[sv]){l:List Plc}(h0:0 < l.length)(hl:l.length≤2^20){H:List AO}{D F M S mi:Nat}
  (hD:H[D]?=some (.cells [I a,I b,I c])) (hF:H[F]?=some (.cells [.fn 36 [] [.ptr M 0,.ptr D 0,.ptr S 0]])) (hM:H[M]?=some (.cells [.mp mi])) (hS:H[S]?=some (.cells [sv])) (hmi:∃ es clock,H[mi]?=some (.map es clock)∧Memo sc es)
  (hsc:∀ x∈l,Pur Tryz.prog GG 37 [.agg [I a,I b,I c],x.av,sv] (.tup [I (sc x),I 0]))
  {K:AV→List AO→Prop} (hK:∀ H',(∀ j o,j≠mi→H[j]?=some o→H'[j]?=some o)→K (minL (ltS a b c sc) (l.getD 0 default) (l.drop 1)).av H') :
  AC Tryz.prog GG 15 [.isl (l.map Plc.av),.fn 38 [] [.ptr D 0,.ptr F 0]] H K:=by
 have hlt0:decide ((l.length:Int) < 1)=false:=decide_eq_false (by omega);have hg0:=zAm Plc.av l default h0;have hc0:=Plc.cells (l.getD 0 default);have hD1:=zAb hD;have hF1:=zAb hF;have hM1:=zAb hM;have hS1:=zAb hS;obtain⟨es,clock,hes,hmo⟩:=hmi;have hmi1:=zAb hes;have nD:D≠mi:=fun e=>by rw[e,hes]at hD; cases hD
 have nF:F≠mi:=fun e=>by rw[e,hes]at hF; cases hF
 have nM:M≠mi:=fun e=>by rw[e,hes]at hM; cases hM
 have nS:S≠mi:=fun e=>by rw[e,hes]at hS; cases hS
 refine goE e15 TOk.nil 0 ?_;simp(maxSteps:=2000000)only[push_cast,seval,↓kw2,List.length_map,hlt0,hg0,hc0,zAw,getA,zCf,setA,zDh];refine⟨by omega,?_⟩;have hL0:∃ L,L=H.length:=⟨_,rfl⟩;obtain⟨L,hL⟩:=hL0;have hmem0:l.getD 0 default∈l:=by simp[List.getD,h0]
 have ap:∀ X (j:Nat) o,H[j]?=some o→(H++X)[j]?=some o:=fun X j o h=>(List.getElem?_append_left (zAb h)).trans h
 refine FW.loopInv (fun n ts H'=>∃(i:Nat) (m:Plc),i+n=l.length∧1≤i∧minL (ltS a b c sc) m (l.drop i)=minL (ltS a b c sc) (l.getD 0 default) (l.drop 1)∧m∈l∧(∀ j o,j≠mi→H[j]?=some o→H'[j]?=some o)∧(∃ es clock,H'[mi]?=some (.map es clock)∧Memo sc es) ∧
   H'[L]?=some (.cells [I 0,I 0,I 0,I 0,I 0,I 0,B false,B false,B false])∧H'[L+1]?=some (.cells [I m.x,I m.y,I m.z,I m.p,I m.q,I m.r,B m.s,B m.t,B m.u])∧ts 0=.isl (l.map Plc.av)∧ts 1=.fn 38 [] [.ptr D 0,.ptr F 0]∧ts 4=.ptr L 0∧ts 5=.ptr (L+1) 0∧ts 6=I (i:Int)) (l.length - 1)
  ⟨1,l.getD 0 default,by omega,by omega,rfl,hmem0,fun j o _ h=>ap _ _ _ h,⟨es,clock,ap _ _ _ hes,hmo⟩,by rw[hL,zAw]; rfl,by rw[hL,getA]; rfl,rfl,rfl,by rw[hL]; rfl,by rw[hL]; rfl,rfl⟩ ?_
 clear ap hmo hes es clock hg0 hc0
 rintro n ih ts H' ⟨i,m,hi,hi1,hmn,hmm,ga,gmi,gL,gL1,t0,t1,t4,t5,t6⟩
 have gD:=ga D _ nD hD;have gF:=ga F _ nF hF;have gM:=ga M _ nM hM;have gS:=ga S _ nS hS;have lD:=zAb gD;have hlL:=zAb gL1;refine FW.inLoop ?_
 by_cases hlt:i < l.length
 ·have hd1:decide ((i:Int) < (l.length:Int))=true:=by simp[hlt]
  have hg:=zAm Plc.av l default hlt;have hmem:l.getD i default∈l:=by simp[List.getD,hlt]
  rw[zBi default hlt]at hmn
  generalize l.getD i default=x at hg hmem hmn
  have hcx:=Plc.cells x;have hbb:(0≤(i:Int)∧(i:Int) < (l.length:Int)):=⟨by omega,by omega⟩;have hi2:=zAf (n:=(i:Int)+1) (by omega) (by omega);refine goW TOk.nil [7] 0 ?_;simp(maxSteps:=2000000)only[push_cast,seval,↓kw2,t0,t1,t4,t5,t6,hd1,hg,hcx,gL1,List.length_map,Int.toNat_natCast,List.contains_cons,Bool.true_or,Bool.false_or,Bool.or_true];refine FW.walkG hmix (imp:=impM) (l:=ordM) (by kernel_rfl) (by kernel_rfl) ?_;simp only[ordM];simp(maxSteps:=2000000)only[push_cast,seval,↓kw2,zBw,zBv,zAu,↓zAc,Bool.or_false,Bool.or_true,Bool.true_or,Bool.false_or,Bool.or_self,Nat.add_assoc,zAd,zAr,wat,clOf,Int.toNat_natCast,impM,t0,t1,t4,t5,t6,hd1,hg,hcx,gL1,List.length_map];refine⟨hbb,?_⟩;refine compare2_any (X:=x) (Y:=m) hsv gD gF gM gS gmi (hsc x hmem) (hsc m hmm) ?_
  rintro H2 ⟨len2,f2,gmi2⟩
  refine⟨⟨fun h=>absurd (h.symm.trans (by kernel_rfl)) Bool.false_ne_true,fun h=>absurd (h.symm.trans (by kernel_rfl)) Bool.false_ne_true⟩,?_⟩;have ka:∀ j o,j≠mi→H[j]?=some o→H2[j]?=some o:=fun j o hj h=>f2 j o hj (ga j o hj h)
  have kL:=f2 L _ (by omega) gL;have kL1:=f2 (L+1) _ (by omega) gL1;clear f2
  by_cases hc:cmpS a b c sc x m < 0
  ·have hlt':ltS a b c sc x m=true:=decide_eq_true hc;have hcd:decide (cmpS a b c sc x m < 0)=true:=decide_eq_true hc;have hmn2:minL (ltS a b c sc) x (l.drop (i+1))=minL (ltS a b c sc) (l.getD 0 default) (l.drop 1):=by
    rw[← hmn];show _=minL (ltS a b c sc) (if ltS a b c sc x m=true then x else m) (l.drop (i+1));rw[hlt',if_pos rfl]
   simp(maxSteps:=2000000)only[push_cast,seval,↓kw2,zBw,zBv,zAu,↓zAc,Bool.or_false,Bool.or_true,Bool.true_or,Bool.false_or,Bool.or_self,Nat.add_assoc,zAd,zAr,wat,clOf,Int.toNat_natCast,impM,hcd];refine goW TOk.nil [7] 0 ?_;simp(maxSteps:=2000000)only[push_cast,seval,↓kw2,t0,t1,t4,t5,t6,hg,hcx,kL1,List.length_map,hi2,Int.toNat_natCast];refine⟨hbb,?_⟩;obtain⟨es2,ck2,e2,e3⟩:=gmi2;exact ih (n - 1) (by omega) _ _ ⟨i+1,x,by omega,by omega,hmn2,hmem,(fun j o hj h=>(List.getElem?_set_ne (by have:=zAb h; omega)).trans (ka j o hj h)),⟨es2,ck2,(List.getElem?_set_ne (by omega)).trans e2,e3⟩,(List.getElem?_set_ne (by omega)).trans kL,List.getElem?_set_self (zAb kL1),t0,t1,t4,t5,rfl⟩
  ·have hlt':ltS a b c sc x m=false:=decide_eq_false hc;have hcd:decide (cmpS a b c sc x m < 0)=false:=decide_eq_false hc;have hmn2:minL (ltS a b c sc) m (l.drop (i+1))=minL (ltS a b c sc) (l.getD 0 default) (l.drop 1):=by
    rw[← hmn];show _=minL (ltS a b c sc) (if ltS a b c sc x m=true then x else m) (l.drop (i+1));rw[hlt',if_neg (by decide)]
   simp(maxSteps:=2000000)only[push_cast,seval,↓kw2,zBw,zBv,zAu,↓zAc,Bool.or_false,Bool.or_true,Bool.true_or,Bool.false_or,Bool.or_self,Nat.add_assoc,zAd,zAr,wat,clOf,Int.toNat_natCast,impM,hcd];refine goW TOk.nil [7] 0 ?_;simp(maxSteps:=2000000)only[push_cast,seval,↓kw2,t0,t1,t4,t5,t6,hi2];exact ih (n - 1) (by omega) _ _ ⟨i+1,m,by omega,by omega,hmn2,hmm,ka,gmi2,kL,kL1,t0,t1,t4,t5,rfl⟩
 ·have hd1:decide ((i:Int) < (l.length:Int))=false:=by simp; omega
  rw[List.drop_eq_nil_of_le (by omega)]at hmn;have hmn':m=minL (ltS a b c sc) (l.getD 0 default) (l.drop 1):=hmn;have gs:∀ X,(H'.set L X)[L]?=some X:=fun X=>List.getElem?_set_self (by omega)
  refine goW TOk.nil [7] 0 ?_;simp(maxSteps:=2000000)only[push_cast,seval,↓kw2,t0,t4,t5,t6,hd1,gL,gL1,gs,List.length_map];rw[← hmn']at hK;exact⟨_,rfl,hK _ fun j o hj h=>(List.getElem?_set_ne (by have:=zAb h; omega)).trans (ga j o hj h)⟩
end Go.Ab.Pd
