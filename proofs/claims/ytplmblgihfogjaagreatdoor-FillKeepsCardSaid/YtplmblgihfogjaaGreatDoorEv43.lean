/- A text of this claim. -/
import Derived.Test.YtplmblgihfogjaaGreatDoorEv41
set_option maxHeartbeats 40000000
set_option maxRecDepth 400000
set_option linter.all false
namespace Go.Ab.Pd
open Go.Proofs
open Go.Proofs.Tryz renaming prog->zP
def Memo(sc:Plc->Int)(es:List (Nat × AV × AV)):Prop:=∀ e∈es,∃ y:Plc,e.2.1=y.av/\e.2.2=I (sc y)
theorem find_memo{sc:Plc->Int}{x:Plc}:∀ {es:List (Nat × AV × AV)},Memo sc es->zEk zP 37 x.av es=some none\/∃ i,zEk zP 37 x.av es=some (some i)/\(es.getD i default).2.2=I (sc x)
 | [],_=>.inl rfl
 | e::es,h=>by
  obtain⟨y,h1,h2⟩:=h e (by simp);have hq:=eqPl x.x x.y x.z x.p x.q x.r y.x y.y y.z y.p y.q y.r x.s x.t x.u y.s y.t y.u
  by_cases hxy:samePl x.x x.y x.z x.p x.q x.r y.x y.y y.z y.p y.q y.r x.s x.t x.u y.s y.t y.u
  ·rw[zT hxy]at hq;refine .inr ⟨0,?_,?_⟩
   ·unfold zEk;rw[h1];simp only[Plc.av];rw[hq]
   ·rw[Plc.same.1 hxy];exact h2
  ·rw[zF hxy]at hq;have hf:zEk zP 37 x.av (e::es)=(zEk zP 37 x.av es).map fun(o:Option Nat)=>o.map (·+1):=by
    show(match aEq zP 10000 37 x.av e.2.1 with
     | some true=>some (some 0)
     | some false=>(zEk zP 37 x.av es).map fun(o:Option Nat)=>o.map (·+1)
     | none=>none)=_
    rw[h1];simp only[Plc.av];rw[hq]
   rw[hf]
   rcases find_memo (es:=es) (x:=x) (fun z hz=>h z (by simp[hz]))with k | ⟨i,k1,k2⟩
   ·exact .inl (by rw[k]; rfl)
   ·exact .inr ⟨i+1,by rw[k1]; rfl,by simpa using k2⟩
def MemoStep(sc:Plc->Int)(mi:Nat)(H H':List AO):Prop:=H.length<=H'.length/\(∀ j o,j≠mi->H[j]?=some o->H'[j]?=some o)/\∃ es clock,H'[mi]?=some (.map es clock)/\Memo sc es
theorem MemoStep.refl{sc:Plc->Int}{mi clock:Nat}{H l:List AO}{es:List (Nat × AV × AV)}(h:H[mi]?=some (.map es clock))(hm:Memo sc es):MemoStep sc mi H (H++l) :=
 ⟨by simp,fun j o _ h=>by rw[zL (zAc h)]; exact h,es,clock,by rw[zL (zAc h)]; exact h,hm⟩
theorem of_there{x:Plc}{n:Int}{H:List AO}{M D S m clock i:Nat}{es:List (Nat × AV × AV)}
  (hM:H[M]?=some (.cells [.mp m])) (hm:H[m]?=some (.map es clock)) (hf:zEk zP 37 x.av es=some (some i)) (hi:(es.getD i default).2.2=I n) {K:AV->List AO->Prop}
  (hK:K (I n) (H++[AO.cells [I x.x,I x.y,I x.z,I x.p,I x.q,I x.r,B x.s,B x.t,B x.u]])) :
  AC zP GG 112 [x.av,.ptr M 0,.ptr D 0,.ptr S 0] H K:=by
 have qM:∀ l,(H++l)[M]?=some (.cells [.mp m]):=fun l=>by rw[zL (zAc hM)]; exact hM
 have qm:∀ l,(H++l)[m]?=some (.map es clock):=fun l=>by rw[zL (zAc hm)]; exact hm
 have hck:=ckPl x.x x.y x.z x.p x.q x.r x.s x.t x.u;simp only[Plc.av]at hf;show AC zP GG 112 [PL x.x x.y x.z x.p x.q x.r x.s x.t x.u,.ptr M 0,.ptr D 0,.ptr S 0] H K;refine goE e112 T25_ok 0 ?_;simp only[push_cast,seval,↓kw2,zAb,qM,qm,hck,hf,hi,aLookup,lkRes];exact⟨_,rfl,hK⟩
theorem of_any{sc:Plc->Int}{a b c:Int}{x:Plc}{sv:AV}{H:List AO}{M D S m:Nat}(hsv:sv.isCell=true/\sv.isEl=true/\sv.cells=[sv])
  (hM:H[M]?=some (.cells [.mp m])) (hD:H[D]?=some (.cells [I a,I b,I c])) (hS:H[S]?=some (.cells [sv])) (hm:∃ es clock,H[m]?=some (.map es clock)/\Memo sc es)
  (hsc:Pur zP GG 113 [.agg [I a,I b,I c],x.av,sv] (.tup [I (sc x),I 0])) {K:AV->List AO->Prop} (hK:∀ H',MemoStep sc m H H'->K (I (sc x)) H') :
  AC zP GG 112 [x.av,.ptr M 0,.ptr D 0,.ptr S 0] H K:=by
 obtain⟨es,clock,hes,hmo⟩:=hm
 rcases find_memo (x:=x) hmo with k | ⟨i,k1,k2⟩
 ·refine of_new hsv hM hD hS hes k hsc (hK _ ⟨by simp,fun j o hj h=>?_,_,_,zS (by have:=zAc hes; simp; omega),fun e he=>?_⟩)
  ·rw[zQ (fun e=>hj e.symm),zL (zAc h)]; exact h
  ·rcases List.mem_append.1 he with he | he
   ·exact hmo e he
   ·rw[List.mem_singleton]at he;subst he;exact⟨x,rfl,rfl⟩
 ·exact of_there hM hes k1 k2 (hK _ (MemoStep.refl hes hmo))
def cmpS(a b c:Int)(sc:Plc->Int)(X Y:Plc):Int:=cmp2 a b c X.x X.y X.z X.p X.q X.r Y.x Y.y Y.z Y.p Y.q Y.r (sc X) (sc Y) X.s X.t X.u Y.s Y.t Y.u
theorem compare2_any{sc:Plc->Int}{a b c:Int}{X Y:Plc}{sv:AV}(hsv:sv.isCell=true/\sv.isEl=true/\sv.cells=[sv]){H:List AO}{D F M S mi:Nat}
  (hD:H[D]?=some (.cells [I a,I b,I c])) (hF:H[F]?=some (.cells [.fn 112 [] [.ptr M 0,.ptr D 0,.ptr S 0]])) (hM:H[M]?=some (.cells [.mp mi])) (hS:H[S]?=some (.cells [sv])) (hmi:∃ es clock,H[mi]?=some (.map es clock)/\Memo sc es)
  (hs1:Pur zP GG 113 [.agg [I a,I b,I c],X.av,sv] (.tup [I (sc X),I 0])) (hs2:Pur zP GG 113 [.agg [I a,I b,I c],Y.av,sv] (.tup [I (sc Y),I 0]))
  {K:AV->List AO->Prop} (hK:∀ H',MemoStep sc mi H H'->K (I (cmpS a b c sc X Y)) H') :
  AC zP GG 114 [X.av,Y.av,.ptr D 0,.ptr F 0] H K:=by
 obtain⟨x,y,z,p,q,r,s,t,u⟩:=X;obtain⟨x',y',z',p',q',r',s',t',u'⟩:=Y;have hmi0:=hmi;obtain⟨es,clock,hmi,hmo⟩:=hmi
 generalize hm':sc ⟨x,y,z,p,q,r,s,t,u⟩=m at hs1
 generalize hn':sc ⟨x',y',z',p',q',r',s',t',u'⟩=n at hs2
 have hcm:cmpS a b c sc ⟨x,y,z,p,q,r,s,t,u⟩ ⟨x',y',z',p',q',r',s',t',u'⟩=cmp2 a b c x y z p q r x' y' z' p' q' r' m n s t u s' t' u':=by
  unfold cmpS;simp only;rw[hm',hn']
 rw[hcm]at hK;show AC zP GG 114 [PL x y z p q r s t u,PL x' y' z' p' q' r' s' t' u',.ptr D 0,.ptr F 0] H K;have qD:∀ l,(H++l)[D]?=some (.cells [I a,I b,I c]):=fun l=>by rw[zL (zAc hD)]; exact hD
 have qF:∀ l,(H++l)[F]?=some (.cells [.fn 112 [] [.ptr M 0,.ptr D 0,.ptr S 0]]):=fun l=>by rw[zL (zAc hF)]; exact hF
 have qM:∀ l,(H++l)[M]?=some (.cells [.mp mi]):=fun l=>by rw[zL (zAc hM)]; exact hM
 have qS:∀ l,(H++l)[S]?=some (.cells [sv]):=fun l=>by rw[zL (zAc hS)]; exact hS
 have qmi:∀ l,(H++l)[mi]?=some (.map es clock):=fun l=>by rw[zL (zAc hmi)]; exact hmi
 have hmiL:=zAc hmi;have nD:D≠mi:=fun e=>by rw[e,hmi]at hD; cases hD
 have nF:F≠mi:=fun e=>by rw[e,hmi]at hF; cases hF
 have nM:M≠mi:=fun e=>by rw[e,hmi]at hM; cases hM
 have nS:S≠mi:=fun e=>by rw[e,hmi]at hS; cases hS
 refine goE e114 T25_ok 0 ?_;simp only[push_cast,seval,↓kw2,getA,zAd,setA,qD,qF,List.contains_cons,Bool.true_or,Bool.false_or,Bool.or_true];refine FW.walkD hmix (A:=A3) (ex:=ex3) (imp:=imp3) (l:=ord3) (fun a ha=>by unfold A3 at ha; simp at ha; rcases ha with rfl | rfl <;> decide) (by kernel_rfl) (by kernel_rfl) (by kernel_rfl) ?_;simp only[ord3];simp only[push_cast,seval,↓kw2,zBn,zBm,zAr,↓zAq,zFh,dlO,A3,ex3,imp3,Bool.or_false,Bool.or_true,Bool.true_or,Bool.false_or,Bool.or_self,Nat.add_assoc,zAx,zCq,wat,clOf,getA,zAd,setA,qD,qF];refine AC.pur (bits_pur s t u) ?_;simp only[push_cast,seval,↓kw2,zBn,zBm,zAr,↓zAq,zFh,dlO,A3,ex3,imp3,Bool.or_false,Bool.or_true,Bool.true_or,Bool.false_or,Bool.or_self,Nat.add_assoc,zAx,zCq,wat,clOf,getA,zAd,setA,qD,qF];refine AC.pur (bits_pur s' t' u') ?_;simp only[push_cast,seval,↓kw2,zBn,zBm,zAr,↓zAq,zFh,dlO,A3,ex3,imp3,Bool.or_false,Bool.or_true,Bool.true_or,Bool.false_or,Bool.or_self,Nat.add_assoc,zAx,zCq,wat,clOf,getA,zAd,setA,qD,qF];refine goW T25_ok [3,4] 0 ?_;simp only[push_cast,seval,↓kw2,List.contains_cons,Bool.true_or,Bool.false_or,Bool.or_true];refine FW.walkG hmix (imp:=imp4) (l:=ord4) (by kernel_rfl) (by kernel_rfl) ?_;simp only[ord4];simp only[push_cast,seval,↓kw2,zBn,zBm,zAr,↓zAq,imp4,Bool.or_false,Bool.or_true,Bool.true_or,Bool.false_or,Bool.or_self,Nat.add_assoc,zAx,zCq,wat,clOf,getA,zAd,setA,qD,qF,zCm,zBi,zCy];refine of_any (sc:=sc) (x:=⟨x,y,z,p,q,r,s,t,u⟩) hsv (M:=M) (D:=D) (S:=S) (m:=mi) (qM _) (qD _) (qS _) ⟨es,clock,qmi _,hmo⟩ (by rw[hm']; exact hs1) ?_;rw[hm']
 intro H1 ms1
 obtain⟨len1,f1,es1,clock1,m1,hmo1⟩:=ms1;have F1:=f1 F _ nF (qF _);have D1:=f1 D _ nD (qD _);have M1:=f1 M _ nM (qM _);have S1:=f1 S _ nS (qS _);have A1:=f1 H.length _ (by omega) (by rw[zAd]; rfl);have B1:=f1 (H.length+1) _ (by omega) (by rw[getA]; rfl);have C1:=f1 (H.length+2) _ (by omega) (by rw[getA]; rfl);have E1:=f1 (H.length+3) _ (by omega) (by rw[getA]; rfl);have f01:∀ j o,j≠mi->H[j]?=some o->H1[j]?=some o:=fun j o hj h=>f1 j o hj (by rw[zL (zAc h)]; exact h)
 have len01:H.length<=H1.length:=Nat.le_trans (by simp) len1;clear f1 len1;simp only[push_cast,seval,↓kw2,zBn,zBm,zAr,↓zAq,imp4,Bool.or_false,Bool.or_true,Bool.true_or,Bool.false_or,Bool.or_self,Nat.add_assoc,zAx,zCq,wat,clOf,getA,zAd,setA,zCm,zBi,zCy,F1,D1,M1,S1,A1,B1];refine of_any (sc:=sc) (x:=⟨x',y',z',p',q',r',s',t',u'⟩) hsv M1 D1 S1 ⟨es1,clock1,m1,hmo1⟩ (by rw[hn']; exact hs2) ?_;rw[hn']
 intro H2 ms2
 obtain⟨len2,f2,es2,clock2,m2,hmo2⟩:=ms2;have step2:∀ l,MemoStep sc mi H (H2++l):=fun l=>⟨by simp; omega,fun j o hj h=>by
  have:=f2 j o hj (f01 j o hj h);rw[zL (zAc this)]; exact this,es2,clock2,by rw[zL (zAc m2)]; exact m2,hmo2⟩
 have F2:=f2 F _ nF F1;have A2:=f2 H.length _ (by omega) A1;have B2:=f2 (H.length+1) _ (by omega) B1;have C2:=f2 (H.length+2) _ (by omega) C1;have E2:=f2 (H.length+3) _ (by omega) E1;clear f2 f01;simp only[push_cast,seval,↓kw2,zBn,zBm,zAr,↓zAq,imp4,Bool.or_false,Bool.or_true,Bool.true_or,Bool.false_or,Bool.or_self,Nat.add_assoc,zAx,zCq,wat,clOf,getA,zAd,setA,zCm,zBi,zCy,F2,A2,B2];refine AC.pur (cmp_pur m n) ?_;simp only[push_cast,seval,↓kw2,zBn,zBm,zAr,↓zAq,imp4,Bool.or_false,Bool.or_true,Bool.true_or,Bool.false_or,Bool.or_self,Nat.add_assoc,zAx,zCq,wat,clOf,getA,zAd,setA,zCm,zBi,zCy,F2,A2,B2];refine AC.pur (cmp_pur _ _) ?_;simp only[push_cast,seval,↓kw2,zBn,zBm,zAr,↓zAq,imp4,Bool.or_false,Bool.or_true,Bool.true_or,Bool.false_or,Bool.or_self,Nat.add_assoc,zAx,zCq,wat,clOf,getA,zAd,setA,zCm,zBi,zCy,F2,A2,B2];refine scmp3 A2 B2 ?_;simp only[push_cast,seval,↓kw2,zBn,zBm,zAr,↓zAq,imp4,Bool.or_false,Bool.or_true,Bool.true_or,Bool.false_or,Bool.or_self,Nat.add_assoc,zAx,zCq,wat,clOf,getA,zAd,setA,zCm,zBi,zCy,F2,A2,B2];refine scmp0 C2 E2 ?_;simp only[push_cast,seval,↓kw2,zBn,zBm,zAr,↓zAq,imp4,Bool.or_false,Bool.or_true,Bool.true_or,Bool.false_or,Bool.or_self,Nat.add_assoc,zAx,zCq,wat,clOf,getA,zAd,setA,zCm,zBi,zCy,F2,A2,B2];have F3:∀ l,(H2++l)[F]?=_:=fun l=>(zL (zAc F2)).trans F2
 have A3:∀ l,(H2++l)[H.length]?=_:=fun l=>(zL (zAc A2)).trans A2
 have B3:∀ l,(H2++l)[H.length+1]?=_:=fun l=>(zL (zAc B2)).trans B2
 refine or_ac (by rw[zAd]; rfl) ?_;simp only[push_cast,seval,↓kw2,zBn,zBm,zAr,↓zAq,imp4,Bool.or_false,Bool.or_true,Bool.true_or,Bool.false_or,Bool.or_self,Nat.add_assoc,zAx,zCq,wat,clOf,getA,zAd,setA,zCm,zBi,zCy,F3,A3,B3];refine goW T25_ok [] 0 ?_;simp only[push_cast,seval,↓kw2];exact⟨_,rfl,hK _ (step2 _)⟩
end Go.Ab.Pd
