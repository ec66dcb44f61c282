/- A text of this claim. -/
import Derived.Test.YtplmblgihfogjaaGreatDoorEv43
set_option maxHeartbeats 40000000
set_option maxRecDepth 400000
set_option linter.all false
namespace Go.Ab.Pd
open Go.Proofs
open Go.Proofs.Tryz renaming prog->zP
theorem cmpV_neg(m n:Int):cmpV n m=-cmpV m n:=by unfold cmpV; split <;> split <;> (try split) <;> omega
theorem orV_neg(a b:Int):orV (-a) (-b)=-orV a b:=by unfold orV; split <;> split <;> omega
def Tri(p q r:Int):Prop:=(p < 0->q<=0->r < 0)/\(p<=0->q < 0->r < 0)/\(p=0->q=0->r=0)
theorem Tri.cmp(l m n:Int):Tri (cmpV l m) (cmpV m n) (cmpV l n):=by
 unfold Tri cmpV
 split <;> (try split) <;> (try split) <;> (try split) <;> (try split) <;> (try split) <;> omega
theorem Tri.or{a1 a2 a3 b1 b2 b3:Int}(h:Tri a1 a2 a3)(k:Tri b1 b2 b3):Tri (orV a1 b1) (orV a2 b2) (orV a3 b3):=by
 unfold Tri orV at *;obtain⟨h1,h2,h3⟩:=h;obtain⟨k1,k2,k3⟩:=k
 split <;> split <;> split <;> omega
theorem lexV_neg(p q r p' q' r':Int):lexV p' q' r' p q r=-lexV p q r p' q' r':=by
 unfold lexV;rw[cmpV_neg p p',cmpV_neg q q',cmpV_neg r r',orV_neg,orV_neg]
theorem lexV_zero{p q r p' q' r':Int}:lexV p q r p' q' r'=0 ↔ p=p'/\q=q'/\r=r':=by
 unfold lexV; rw[zCl,zCl,zBv,zBv,zBv]
theorem Tri.lex(p q r p' q' r' p'' q'' r'':Int):Tri (lexV p q r p' q' r') (lexV p' q' r' p'' q'' r'') (lexV p q r p'' q'' r''):=(Tri.cmp _ _ _).or ((Tri.cmp _ _ _).or (Tri.cmp _ _ _))
theorem cmp2_neg(a b c x y z p q r x' y' z' p' q' r' m n:Int)(s t u s' t' u':Bool):cmp2 a b c x' y' z' p' q' r' x y z p q r n m s' t' u' s t u=-cmp2 a b c x y z p q r x' y' z' p' q' r' m n s t u s' t' u':=by
 unfold cmp2;rw[cmpV_neg m n,cmpV_neg (atV a b c x y z),lexV_neg p q r,lexV_neg (bitV s),orV_neg,orV_neg,orV_neg]
theorem Tri.cmp2(a b c x y z p q r x' y' z' p' q' r' x2 y2 z2 p2 q2 r2 l m n:Int)(s t u s' t' u' s2 t2 u2:Bool) :
  Tri (Pd.cmp2 a b c x y z p q r x' y' z' p' q' r' l m s t u s' t' u') (Pd.cmp2 a b c x' y' z' p' q' r' x2 y2 z2 p2 q2 r2 m n s' t' u' s2 t2 u2) (Pd.cmp2 a b c x y z p q r x2 y2 z2 p2 q2 r2 l n s t u s2 t2 u2) :=
 (Tri.cmp _ _ _).or ((Tri.cmp _ _ _).or ((Tri.lex _ _ _ _ _ _ _ _ _).or (Tri.lex _ _ _ _ _ _ _ _ _)))
theorem cmp2_self(a b c x y z p q r m:Int)(s t u:Bool):cmp2 a b c x y z p q r x y z p q r m m s t u s t u=0:=by
 unfold cmp2;rw[zCl,zCl,zCl,zBv,zBv,lexV_zero,lexV_zero];exact⟨rfl,rfl,⟨rfl,rfl,rfl⟩,rfl,rfl,rfl⟩
def minL(lt:Plc->Plc->Bool):Plc->List Plc->Plc
 | m,[]=>m
 | m,x::l=>minL lt (if lt x m=true then x else m) l
def impM:Nat->Bool:=fun i=>i==6
def ordM:List (Nat × Bool):=[(0,true),(1,true),(2,true),(3,true),(4,true),(5,true),(6,false),(7,true)]
def ltS(a b c:Int)(sc:Plc->Int)(x y:Plc):Bool:=decide (cmpS a b c sc x y < 0)
theorem e60:Ent zP 60 Tryz.f60 [7] 2:=.mk Tryz.func60 rfl
theorem min_ac{sc:Plc->Int}{a b c:Int}{sv:AV}(hsv:sv.isCell=true/\sv.isEl=true/\sv.cells=[sv]){l:List Plc}(h0:0 < l.length)(hl:l.length<=2^20){H:List AO}{D F M S mi:Nat}
  (hD:H[D]?=some (.cells [I a,I b,I c])) (hF:H[F]?=some (.cells [.fn 112 [] [.ptr M 0,.ptr D 0,.ptr S 0]])) (hM:H[M]?=some (.cells [.mp mi])) (hS:H[S]?=some (.cells [sv])) (hmi:∃ es clock,H[mi]?=some (.map es clock)/\Memo sc es)
  (hsc:∀ x∈l,Pur zP GG 113 [.agg [I a,I b,I c],x.av,sv] (.tup [I (sc x),I 0]))
  {K:AV->List AO->Prop} (hK:∀ H',(∀ j o,j≠mi->H[j]?=some o->H'[j]?=some o)->K (minL (ltS a b c sc) (l.getD 0 default) (l.drop 1)).av H') :
  AC zP GG 60 [.isl (l.map Plc.av),.fn 114 [] [.ptr D 0,.ptr F 0]] H K:=by
 have hlt0:decide ((l.length:Int) < 1)=false:=zF (by omega);have hg0:=zAj Plc.av l default h0;have hc0:=Plc.cells (l.getD 0 default);have hD1:=zAc hD;have hF1:=zAc hF;have hM1:=zAc hM;have hS1:=zAc hS;obtain⟨es,clock,hes,hmo⟩:=hmi;have hmi1:=zAc hes;have nD:D≠mi:=fun e=>by rw[e,hes]at hD; cases hD
 have nF:F≠mi:=fun e=>by rw[e,hes]at hF; cases hF
 have nM:M≠mi:=fun e=>by rw[e,hes]at hM; cases hM
 have nS:S≠mi:=fun e=>by rw[e,hes]at hS; cases hS
 refine goE e60 TOk.nil 0 ?_;simp only[push_cast,seval,↓kw2,zM,hlt0,hg0,hc0,zAd,getA,zAe,setA,zAb];refine⟨by omega,?_⟩;have hL0:∃ L,L=H.length:=⟨_,rfl⟩;obtain⟨L,hL⟩:=hL0;have hmem0:l.getD 0 default∈l:=by simp[List.getD,h0]
 have ap:∀ X (j:Nat) o,H[j]?=some o->(H++X)[j]?=some o:=fun X j o h=>(zL (zAc h)).trans h
 refine FW.loopInv (fun n ts H'=>∃(i:Nat) (m:Plc),i+n=l.length/\1<=i/\minL (ltS a b c sc) m (l.drop i)=minL (ltS a b c sc) (l.getD 0 default) (l.drop 1)/\m∈l/\(∀ j o,j≠mi->H[j]?=some o->H'[j]?=some o)/\(∃ es clock,H'[mi]?=some (.map es clock)/\Memo sc es) /\
   H'[L]?=some (.cells [I 0,I 0,I 0,I 0,I 0,I 0,B false,B false,B false])/\H'[L+1]?=some (.cells [I m.x,I m.y,I m.z,I m.p,I m.q,I m.r,B m.s,B m.t,B m.u])/\ts 0=.isl (l.map Plc.av)/\ts 1=.fn 114 [] [.ptr D 0,.ptr F 0]/\ts 4=.ptr L 0/\ts 5=.ptr (L+1) 0/\ts 6=I (i:Int)) (l.length - 1)
  ⟨1,l.getD 0 default,by omega,by omega,rfl,hmem0,fun j o _ h=>ap _ _ _ h,⟨es,clock,ap _ _ _ hes,hmo⟩,by rw[hL,zAd]; rfl,by rw[hL,getA]; rfl,rfl,rfl,by rw[hL]; rfl,by rw[hL]; rfl,rfl⟩ ?_
 clear ap hmo hes es clock hg0 hc0
 rintro n ih ts H' ⟨i,m,hi,hi1,hmn,hmm,ga,gmi,gL,gL1,t0,t1,t4,t5,t6⟩
 have gD:=ga D _ nD hD;have gF:=ga F _ nF hF;have gM:=ga M _ nM hM;have gS:=ga S _ nS hS;have lD:=zAc gD;have hlL:=zAc gL1;refine FW.inLoop ?_
 by_cases hlt:i < l.length
 ·have hd1:decide ((i:Int) < (l.length:Int))=true:=by simp[hlt]
  have hg:=zAj Plc.av l default hlt;have hmem:l.getD i default∈l:=by simp[List.getD,hlt]
  rw[zBa default hlt]at hmn
  generalize l.getD i default=x at hg hmem hmn
  have hcx:=Plc.cells x;have hbb:(0<=(i:Int)/\(i:Int) < (l.length:Int)):=⟨by omega,by omega⟩;have hi2:=zAl (n:=(i:Int)+1) (by omega) (by omega);refine goW TOk.nil [7] 0 ?_;simp only[push_cast,seval,↓kw2,t0,t1,t4,t5,t6,hd1,hg,hcx,gL1,zM,Int.toNat_natCast,List.contains_cons,Bool.true_or,Bool.false_or,Bool.or_true];refine FW.walkG hmix (imp:=impM) (l:=ordM) (by kernel_rfl) (by kernel_rfl) ?_;simp only[ordM];simp only[push_cast,seval,↓kw2,zBn,zBm,zAr,↓zAq,Bool.or_false,Bool.or_true,Bool.true_or,Bool.false_or,Bool.or_self,Nat.add_assoc,zAx,zCq,wat,clOf,Int.toNat_natCast,impM,t0,t1,t4,t5,t6,hd1,hg,hcx,gL1,zM];refine⟨hbb,?_⟩;refine compare2_any (X:=x) (Y:=m) hsv gD gF gM gS gmi (hsc x hmem) (hsc m hmm) ?_
  rintro H2 ⟨len2,f2,gmi2⟩
  refine⟨⟨fun h=>absurd (h.symm.trans (by kernel_rfl)) Bool.false_ne_true,fun h=>absurd (h.symm.trans (by kernel_rfl)) Bool.false_ne_true⟩,?_⟩;have ka:∀ j o,j≠mi->H[j]?=some o->H2[j]?=some o:=fun j o hj h=>f2 j o hj (ga j o hj h)
  have kL:=f2 L _ (by omega) gL;have kL1:=f2 (L+1) _ (by omega) gL1;clear f2
  by_cases hc:cmpS a b c sc x m < 0
  ·have hlt':ltS a b c sc x m=true:=zT hc;have hcd:decide (cmpS a b c sc x m < 0)=true:=zT hc;have hmn2:minL (ltS a b c sc) x (l.drop (i+1))=minL (ltS a b c sc) (l.getD 0 default) (l.drop 1):=by
    rw[<- hmn];show _=minL (ltS a b c sc) (if ltS a b c sc x m=true then x else m) (l.drop (i+1));rw[hlt',if_pos rfl]
   simp only[push_cast,seval,↓kw2,zBn,zBm,zAr,↓zAq,Bool.or_false,Bool.or_true,Bool.true_or,Bool.false_or,Bool.or_self,Nat.add_assoc,zAx,zCq,wat,clOf,Int.toNat_natCast,impM,hcd];refine goW TOk.nil [7] 0 ?_;simp only[push_cast,seval,↓kw2,t0,t1,t4,t5,t6,hg,hcx,kL1,zM,hi2,Int.toNat_natCast];refine⟨hbb,?_⟩;obtain⟨es2,ck2,e2,e3⟩:=gmi2;exact ih (n - 1) (by omega) _ _ ⟨i+1,x,by omega,by omega,hmn2,hmem,(fun j o hj h=>(zQ (by have:=zAc h; omega)).trans (ka j o hj h)),⟨es2,ck2,(zQ (by omega)).trans e2,e3⟩,(zQ (by omega)).trans kL,zS (zAc kL1),t0,t1,t4,t5,rfl⟩
  ·have hlt':ltS a b c sc x m=false:=zF hc;have hcd:decide (cmpS a b c sc x m < 0)=false:=zF hc;have hmn2:minL (ltS a b c sc) m (l.drop (i+1))=minL (ltS a b c sc) (l.getD 0 default) (l.drop 1):=by
    rw[<- hmn];show _=minL (ltS a b c sc) (if ltS a b c sc x m=true then x else m) (l.drop (i+1));rw[hlt',if_neg (by decide)]
   simp only[push_cast,seval,↓kw2,zBn,zBm,zAr,↓zAq,Bool.or_false,Bool.or_true,Bool.true_or,Bool.false_or,Bool.or_self,Nat.add_assoc,zAx,zCq,wat,clOf,Int.toNat_natCast,impM,hcd];refine goW TOk.nil [7] 0 ?_;simp only[push_cast,seval,↓kw2,t0,t1,t4,t5,t6,hi2];exact ih (n - 1) (by omega) _ _ ⟨i+1,m,by omega,by omega,hmn2,hmm,ka,gmi2,kL,kL1,t0,t1,t4,t5,rfl⟩
 ·have hd1:decide ((i:Int) < (l.length:Int))=false:=by simp; omega
  rw[List.drop_eq_nil_of_le (by omega)]at hmn;have hmn':m=minL (ltS a b c sc) (l.getD 0 default) (l.drop 1):=hmn;have gs:∀ X,(H'.set L X)[L]?=some X:=fun X=>zS (by omega)
  refine goW TOk.nil [7] 0 ?_;simp only[push_cast,seval,↓kw2,t0,t4,t5,t6,hd1,gL,gL1,gs,zM];rw[<- hmn']at hK;exact⟨_,rfl,hK _ fun j o hj h=>(zQ (by have:=zAc h; omega)).trans (ga j o hj h)⟩
theorem allS{a b c:Int}(w:Wnt){xs ys:List Int}(hx:∀ w∈xs,inU w)(hy:∀ w∈ys,inU w)(c1:schk (zAf a b c) xs=0)(c2:schk (3*zAf a b c) ys=0)(h:dwchk a b c w.p w.q w.r=0) :
  Pur zP GG 59 [.agg [I a,I b,I c],w.av,.isl (xs.map U),.isl (ys.map U)] (.tup [rsl a b c w ((wholeL a b c w).filter (holdV a b c xs ys)),I 0]):=by
 have p1:=zBl (zAf a b c) xs;have p2:=zBl (3*zAf a b c) ys;rw[c1]at p1;rw[c2]at p2;exact spotsA_ok w (.isl hx) (.isl hy) h p1 p2 fun x hk=>holds_is hx hy c1 c2 x hk
abbrev PLz:AV:=PL 0 0 0 0 0 0 false false false
theorem e30:Ent zP 30 Tryz.f30 [] 4:=.mk Tryz.func30 rfl
theorem best_none{a b c:Int}{w:Wnt}{s1 s2 r:AV}(q1:IsSet s1)(q2:IsSet s2)(hA:Pur zP GG 59 [.agg [I a,I b,I c],w.av,s1,s2] (.tup [r,I 0]))(hr:IsSl r ([]:List AV)) :
  Pur zP GG 30 [.agg [I a,I b,I c],w.av,s1,s2] (.tup [PLz,I 6]):=by
 have h1:=q1.pur;have h2:=q2.pur;have hlen:=hr.len un122;rw[List.length_nil]at hlen;show Pur zP GG 30 [.agg [I a,I b,I c],WT w.p w.q w.r w.s w.t w.u w.v,s1,s2] _;refine goQ e30 TOk.nil 0 ?_ (by simp[AV.purL,AV.pur,h1,h2]);simp only[push_cast,seval,↓kw2];refine AC.pur hA ?_;refine goN ?_;simp only[push_cast,seval,↓kw2,hlen];exact⟨_,rfl,zAa rfl rfl⟩
theorem best_min{sc:Plc->Int}{a b c:Int}{w:Wnt}{s1 s2:AV}{F:List Plc}(q1:IsSet s1)(q2:IsSet s2)(h0:0 < F.length)(hl:F.length<=2^20)(hA:Pur zP GG 59 [.agg [I a,I b,I c],w.av,s1,s2] (.tup [.isl (F.map Plc.av),I 0]))
  (hsc:∀ x∈F,Pur zP GG 113 [.agg [I a,I b,I c],x.av,s1] (.tup [I (sc x),I 0])) :
  Pur zP GG 30 [.agg [I a,I b,I c],w.av,s1,s2] (.tup [(minL (ltS a b c sc) (F.getD 0 default) (F.drop 1)).av,I 0]):=by
 have h1:=q1.pur;have h2:=q2.pur;have hlen:=(li122 (F.map Plc.av));have hn0:¬ (F.length:Int)=0:=by omega
 show Pur zP GG 30 [.agg [I a,I b,I c],WT w.p w.q w.r w.s w.t w.u w.v,s1,s2] _;refine goQ e30 TOk.nil 0 ?_ (by simp[AV.purL,AV.pur,h1,h2]);simp only[push_cast,seval,↓kw2];refine AC.pur hA ?_;refine goN ?_;simp only[push_cast,seval,↓kw2,hlen,hn0,zM];refine compare_ac q1.cell ?_;refine goN ?_;simp only[push_cast,seval,↓kw2,List.length_cons,List.length_nil];refine min_ac q1.cell h0 hl (D:=3) (F:=7) (M:=6) (S:=4) (mi:=5) rfl rfl rfl rfl ⟨[],0,rfl,fun e he=>by simp at he⟩ hsc ?_
 intro H' hh
 have m2:=hh 2 _ (by decide) rfl;have hcy:=Plc.cells (minL (ltS a b c sc) (F.getD 0 default) (F.drop 1))
 generalize minL (ltS a b c sc) (F.getD 0 default) (F.drop 1)=y at hcy
 show FW _ _ _ _ _ (upd _ 34 (PL y.x y.y y.z y.p y.q y.r y.s y.t y.u)) _ _;have gs:∀ X,(H'.set 2 X)[2]?=some X:=fun X=>zS (zAc m2)
 refine goN ?_;simp only[push_cast,seval,↓kw2,m2,gs];exact⟨_,rfl,zAa rfl rfl⟩
theorem words_ext{xs ys:List Int}(hx:∀ w∈xs,inU w)(hy:∀ w∈ys,inU w)(hl:xs.length=ys.length)(h:∀ m,zAy xs m=zAy ys m):xs=ys:=by
 refine List.ext_getElem hl fun i h1 h2=>?_
 have u1:=hx _ (List.getElem_mem h1);have u2:=hy _ (List.getElem_mem h2);have:(xs[i]).toNat=(ys[i]).toNat:=Nat.eq_of_testBit_eq fun j=>by
  by_cases hj:j < 64
  ·have:=h (64*i+j);unfold zAy at this;rw[show(64*i+j) / 64=i by omega,show(64*i+j) % 64=j by omega,show xs.getD i 0=xs[i] by simp[List.getD,h1],show ys.getD i 0=ys[i] by simp[List.getD,h2]]at this;exact this
  ·rw[Nat.testBit_lt_two_pow (Nat.lt_of_lt_of_le (lt_U u1) (Nat.pow_le_pow_right (by decide) (by omega))),Nat.testBit_lt_two_pow (Nat.lt_of_lt_of_le (lt_U u2) (Nat.pow_le_pow_right (by decide) (by omega)))]
 unfold inU at u1 u2;omega
theorem own_srt{n:Int}(hn:1<=n/\n<=12288){l:List Int}(hl:∀ k∈l,0<=k/\k < n):ofL n (srt l)=ofL n l :=
 words_ext (zAt _ _) (zAt _ _) (by rw[zCj,zCj]) fun m=>by
  rw[zEb hn (fun k hk=>hl k (srt_mem.1 hk)),zEb hn hl];exact decide_eq_decide.2 srt_mem
theorem andn_sub{xs ys:List Int}(hx:∀ w∈xs,inU w){m:Nat}(h:zAy (List.zipWith andnV xs ys) m=true):zAy xs m=true:=by
 by_cases h1:m / 64 < xs.length
 ·by_cases h2:m / 64 < ys.length
  ·have e:(List.zipWith andnV xs ys).getD (m / 64) 0=andnV (xs.getD (m / 64) 0) (ys.getD (m / 64) 0):=by
    simp[List.getD,List.getElem?_zipWith,h1,h2]
   unfold zAy at h ⊢;rw[e]at h;have hu:=zFj hx (m / 64)
   generalize xs.getD (m / 64) 0=x at h hu
   unfold andnV at h;rw[BitVec.toNat_and,toNat_U hu]at h;have hle:=Nat.and_le_left (n:=x.toNat) (m:=(~~~BitVec.ofInt IntKind.u64.bits (ys.getD (m / 64) 0)).toNat);have:=lt_U hu;rw[wrapU (nU (by omega)),Int.toNat_natCast,Nat.testBit_and,zA]at h;exact h.1
  ·rw[zEc (by rw[List.length_zipWith]; omega)]at h; cases h
 ·rw[zEc (by rw[List.length_zipWith]; omega)]at h; cases h
theorem schk_andn{n:Int}{xs ys:List Int}(hx:∀ w∈xs,inU w)(hl:ys.length=xs.length)(h1:schk n xs=0):schk n (List.zipWith andnV xs ys)=0:=by
 obtain⟨hn,l1,b1⟩:=(zBt hx).1 h1;refine(zBt (zCo andn_inU xs ys)).2 ⟨hn,by rw[List.length_zipWith]; omega,fun m hm=>?_⟩;cases h:zAy (List.zipWith andnV xs ys) m
 ·rfl
 ·have h2:=andn_sub hx h;rw[b1 m hm]at h2;cases h2
def sumC(ws:List Int):Int:=((ws.map fun w=>On.ones w.toNat).sum:Nat)
theorem manyW_sum{ws:List Int}(h:∀ w∈ws,inU w)(hl:ws.length<=2^16):manyW ws=sumC ws:=by
 obtain⟨e,_⟩:=many_fold (acc:=0) h (by omega) (by omega);rw[Int.zero_add]at e;exact e
def othW(n:Int)(ws:List Int):List Int:=List.zipWith andnV (ofL n (allL n)) ws
def scV(a b c:Int)(ws:List Int)(x:Plc):Int :=
 IntKind.i64.wrap (IntKind.i64.wrap (2*(listL (ofL (zAf a b c) (zAo a b c x.x x.y x.z x.p x.q x.r))).foldl (stepM a b c (inS (zAf a b c) (List.zipWith andnV (othW (zAf a b c) ws) (ofL (zAf a b c) (zAo a b c x.x x.y x.z x.p x.q x.r))))) 0)
  + sumC (ofL (3*zAf a b c) (zBh a b c x.x x.y x.z x.p x.q x.r x.s x.t x.u)))
theorem scV_pur{a b c:Int}{ws:List Int}(hw:∀ w∈ws,inU w)(hc:schk (zAf a b c) ws=0){X:Plc}(hp:X.ok a b c):Pur zP GG 113 [.agg [I a,I b,I c],X.av,.isl (ws.map U)] (.tup [I (scV a b c ws X),I 0]):=by
 obtain⟨x,y,z,p,q,r,s,t,u⟩:=X;have hd:=hp.1;have hb:=hp.2.1;have hmu:=zBx hd;have hmv:zAf a b c=a*b*c:=by rw[zAf,if_pos hd]
 obtain⟨hN1,lw,_⟩:=(zBt hw).1 hc;have hN2:1<=3*zAf a b c/\3*zAf a b c<=12288:=by omega
 have hn:1<=zAf a b c/\zAf a b c<=4096:=by omega
 have wv1:zBe (zAf a b c)=(zAf a b c+63) / 64:=by rw[zBe,if_pos (by omega)]
 have wv2:zBe (3*zAf a b c)=(3*zAf a b c+63) / 64:=by rw[zBe,if_pos (by omega)]
 have hlo:∀ k∈zAo a b c x y z p q r,0<=k/\k < zAf a b c:=fun k hk=>by rw[hmv]; exact(zDc hd hb hk).2
 have hll:∀ k∈zBh a b c x y z p q r s t u,0<=k/\k < 3*zAf a b c:=fun k hk=>by rw[hmv]; exact zDx hd hb k hk
 have hla:∀ k∈allL (zAf a b c),0<=k/\k < zAf a b c:=fun k hk=>allL_mem hk
 have eo:ownW a b c x y z p q r=ofL (zAf a b c) (zAo a b c x y z p q r):=own_srt hN1 hlo;have lo:=zCj (zAf a b c) (zAo a b c x y z p q r);have la:=zCj (zAf a b c) (allL (zAf a b c));have ll:=zCj (3*zAf a b c) (zBh a b c x y z p q r s t u);have io:=zAt (zAf a b c) (zAo a b c x y z p q r);have ia:=zAt (zAf a b c) (allL (zAf a b c));have il:=zAt (3*zAf a b c) (zBh a b c x y z p q r s t u);have so:=zCa hN1 hlo;have sa:=zCa hN1 hla;have sl:=zCa hN2 hll;have pw:=zBl (zAf a b c) ws;rw[hc]at pw;have po:=zBl (zAf a b c) (ofL (zAf a b c) (zAo a b c x y z p q r));rw[so]at po;have pa:=zBl (zAf a b c) (ofL (zAf a b c) (allL (zAf a b c)));rw[sa]at pa;have pl:=zBl (3*zAf a b c) (ofL (3*zAf a b c) (zBh a b c x y z p q r s t u));rw[sl]at pl;have h1:=less_is (zAf a b c) ia hw (by omega) (by omega) (by omega) pa pw;have ioth:∀ w∈othW (zAf a b c) ws,inU w:=zCo andn_inU _ _;have loth:(othW (zAf a b c) ws).length=ws.length:=by unfold othW; rw[List.length_zipWith]; omega
 have soth:schk (zAf a b c) (othW (zAf a b c) ws)=0:=schk_andn ia (by omega) sa;have ho:=others_of hn (IsSet.isl hw) (IsSet.isl ioth) h1;have pt:=zBl (zAf a b c) (othW (zAf a b c) ws);rw[soth]at pt;have h2:=less_is (zAf a b c) ioth io (by omega) (by omega) (by omega) pt po;have hifr:∀ w∈List.zipWith andnV (othW (zAf a b c) ws) (ofL (zAf a b c) (zAo a b c x y z p q r)),inU w:=zCo andn_inU _ _;have sfr:=schk_andn (ys:=ofL (zAf a b c) (zAo a b c x y z p q r)) ioth (by omega) soth;have hm:=smany_ok (3*zAf a b c) (ws:=ofL (3*zAf a b c) (zBh a b c x y z p q r s t u)) (by omega) pl;rw[manyW_sum il (by omega)]at hm;have hli:=list_is (zAf a b c) io (by omega) po;have hle:=listL_length (ofL (zAf a b c) (zAo a b c x y z p q r));have hop:=open_of a b c (zAf a b c) (IsSet.isl io) (IsSet.isl hifr) (by omega) hli (has:=inS (zAf a b c) _) fun k=>⟨0,has_is hifr sfr k⟩
 rw[<- eo]at h2 hop;have hfin:=score_of (x:=x) (y:=y) (z:=z) (p:=p) (q:=q) (r:=r) (s:=s) (t:=t) (u:=u) hp (IsSet.isl hw) pw (IsSet.isl ioth) (IsSet.isl (by rw[eo]; exact hifr)) ho h2 hm hop;unfold scV;simp only;rw[<- eo];exact hfin
section
variable {a b c:Int} {sc:Plc->Int}
theorem cmpS_neg(X Y:Plc):cmpS a b c sc Y X=-cmpS a b c sc X Y:=cmp2_neg ..
theorem cmpS_tri(X Y Z:Plc):Tri (cmpS a b c sc X Y) (cmpS a b c sc Y Z) (cmpS a b c sc X Z):=Tri.cmp2 ..
theorem cmpS_self(X:Plc):cmpS a b c sc X X=0:=cmp2_self ..
theorem cmpS_trans{X Y Z:Plc}(h:0<=cmpS a b c sc X Y)(k:0<=cmpS a b c sc Y Z):0<=cmpS a b c sc X Z:=by
 have t:=cmpS_tri (a:=a) (b:=b) (c:=c) (sc:=sc) Z Y X;rw[cmpS_neg Y Z,cmpS_neg X Y,cmpS_neg X Z]at t;obtain⟨t1,t2,t3⟩:=t
 by_cases h1:cmpS a b c sc X Y=0
 ·by_cases h2:cmpS a b c sc Y Z=0
  ·have:=t3 (by omega) (by omega); omega
  ·have:=t1 (by omega) (by omega); omega
 ·have:=t2 (by omega) (by omega); omega
theorem minL_least:∀(l:List Plc) (m:Plc),minL (ltS a b c sc) m l∈m::l/\∀ y∈m::l,0<=cmpS a b c sc y (minL (ltS a b c sc) m l)
 | [],m=>⟨by simp[minL],fun y hy=>by
  rw[List.mem_singleton]at hy;rw[hy];show 0<=cmpS a b c sc m m;rw[cmpS_self]; decide⟩
 | x::l,m=>by
  show minL (ltS a b c sc) (if ltS a b c sc x m=true then x else m) l∈m::x::l/\∀ y∈m::x::l,0<=cmpS a b c sc y (minL (ltS a b c sc) (if ltS a b c sc x m=true then x else m) l)
  by_cases h:ltS a b c sc x m=true
  ·rw[if_pos h];obtain⟨h1,h2⟩:=minL_least l x;have hx:cmpS a b c sc x m < 0:=of_decide_eq_true h;have hn:=cmpS_neg (a:=a) (b:=b) (c:=c) (sc:=sc) x m;refine⟨List.mem_cons_of_mem _ h1,fun y hy=>?_⟩
   rcases List.mem_cons.1 hy with rfl | hy
   ·exact cmpS_trans (Y:=x) (by omega) (h2 x (by simp))
   ·exact h2 y hy
  ·rw[if_neg h];obtain⟨h1,h2⟩:=minL_least l m;have hx:¬cmpS a b c sc x m < 0:=fun hh=>h (zT hh)
   refine⟨?_,fun y hy=>?_⟩
   ·rcases List.mem_cons.1 h1 with h1 | h1
    ·rw[h1]; simp
    ·simp[h1]
   ·rcases List.mem_cons.1 hy with rfl | hy
    ·exact h2 y (by simp)
    ·rcases List.mem_cons.1 hy with rfl | hy
     ·exact cmpS_trans (Y:=m) (by omega) (h2 m (by simp))
     ·exact h2 y (by simp[hy])
def minF(a b c:Int)(sc:Plc->Int)(F:List Plc):Plc:=minL (ltS a b c sc) (F.getD 0 default) (F.drop 1)
theorem minF_least{F:List Plc}(h:0 < F.length):minF a b c sc F∈F/\∀ y∈F,0<=cmpS a b c sc y (minF a b c sc F):=by
 have e:=zBa (default:Plc) h;rw[List.drop_zero]at e;have:=minL_least (a:=a) (b:=b) (c:=c) (sc:=sc) (F.drop 1) (F.getD 0 default);rw[<- e]at this;exact this
end
theorem best_is{a b c:Int}(w:Wnt){xs ys:List Int}(hx:∀ w∈xs,inU w)(hy:∀ w∈ys,inU w)(c1:schk (zAf a b c) xs=0)(c2:schk (3*zAf a b c) ys=0)(h:dwchk a b c w.p w.q w.r=0) :
  Pur zP GG 30 [.agg [I a,I b,I c],w.av,.isl (xs.map U),.isl (ys.map U)]
   (.tup [(if (wholeL a b c w).filter (holdV a b c xs ys)=[] then ⟨0,0,0,0,0,0,false,false,false⟩ else minF a b c (scV a b c xs) ((wholeL a b c w).filter (holdV a b c xs ys)):Plc).av,I (if (wholeL a b c w).filter (holdV a b c xs ys)=[] then 6 else 0)]):=by
 have hA:=allS w hx hy c1 c2 h;obtain⟨hd,hw⟩:=dwchk_ok.1 h;have hr:=rsl_is (a:=a) (b:=b) (c:=c) (w:=w) (holdV a b c xs ys);have hle:=Nat.le_trans (List.length_filter_le (holdV a b c xs ys) (wholeL a b c w)) (whole_le hd w)
 by_cases hF:(wholeL a b c w).filter (holdV a b c xs ys)=[]
 ·rw[if_pos hF,if_pos hF];rw[hF]at hA hr;exact best_none (IsSet.isl hx) (IsSet.isl hy) hA hr
 ·rw[if_neg hF,if_neg hF];have hne:¬ wholeL a b c w=[]:=fun e=>hF (by rw[e]; rfl)
  have hrs:rsl a b c w ((wholeL a b c w).filter (holdV a b c xs ys))=.isl (((wholeL a b c w).filter (holdV a b c xs ys)).map Plc.av):=by rw[rsl,if_neg hne]
  rw[hrs]at hA;refine best_min (IsSet.isl hx) (IsSet.isl hy) (List.length_pos_iff.2 hF) (by omega) hA fun x hxm=>?_
  exact scV_pur hx c1 ((wholeL_mem hd).1 (List.mem_filter.1 hxm).1).1
def wOne:Wnt:=⟨1,1,1,false,false,false,false⟩
def pAt(k:Int):Plc:=⟨k,0,0,1,1,1,false,false,false⟩
instance (w:Int):Decidable (inU w):=by unfold inU; infer_instance
theorem check_of{n:Int}{ws:List Int}(h:schk n ws=0):Pur zP GG 107 [I n,.isl (ws.map U)] (I 0):=by
 have:=zBl n ws
 rwa [h]at this
def orwV(x y:Int):Int:=IntKind.u64.wrap ((BitVec.ofInt IntKind.u64.bits x ||| BitVec.ofInt IntKind.u64.bits y).toNat:Int)
theorem e106:Ent zP 106 Tryz.f106 [] 2:=.mk Tryz.func106 rfl
theorem orw_pur(x y:Int):Pur zP GG 106 [U x,U y] (U (orwV x y)):=by
 refine goQ e106 zCi 0 ?_;simp only[push_cast,seval,↓kw2];exact⟨_,rfl,zAa rfl rfl⟩
theorem zEl(x y:Int):inU (orwV x y):=wrap_inU _
theorem orw_bit{xs ys:List Int}(hx:∀ w∈xs,inU w)(hy:∀ w∈ys,inU w)(hl:xs.length=ys.length)(m:Nat):zAy (List.zipWith orwV xs ys) m=(zAy xs m||zAy ys m):=by
 by_cases h:m / 64 < xs.length
 ·have e:(List.zipWith orwV xs ys).getD (m / 64) 0=orwV (xs.getD (m / 64) 0) (ys.getD (m / 64) 0):=by
   simp[List.getD,List.getElem?_zipWith,h,(by omega:m / 64 < ys.length)]
  have u1:=zFj hx (m / 64);have u2:=zFj hy (m / 64);unfold zAy;rw[e,orwV,BitVec.toNat_or,toNat_U u1,toNat_U u2,wrapU (nU (Nat.or_lt_two_pow (lt_U u1) (lt_U u2))),Int.toNat_natCast,Nat.testBit_or]
 ·rw[zEc (by rw[List.length_zipWith]; omega),zEc (ws:=xs) (by omega),zEc (ws:=ys) (by omega),Bool.or_false]
theorem e58:Ent zP 58 Tryz.f58 [] 3:=.mk Tryz.func58 rfl
theorem or_of{n e:Int}{s1 s2 s:AV}(hp:Pur zP GG 105 [I n,s1,s2,.fn 106 [] []] (.tup [s,I e]))(h1:s1.pur=true)(h2:s2.pur=true)(h3:s.pur=true):Pur zP GG 58 [I n,s1,s2] (.tup [s,I e]):=by
 refine goQ e58 TOk.nil 0 ?_ (by simp[AV.purL,AV.pur,h1,h2]);simp only[push_cast,seval,↓kw2];refine AC.pur hp ?_;refine goN ?_;simp only[push_cast,seval,↓kw2];exact⟨_,rfl,zAa (by simp[AV.pur,AV.purL,h3]) rfl⟩
end Go.Ab.Pd
