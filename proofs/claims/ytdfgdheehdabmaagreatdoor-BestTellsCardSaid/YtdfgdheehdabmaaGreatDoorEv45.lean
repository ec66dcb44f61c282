/- One of the texts that this claim stands on. -/
import Derived.Test.YtdfgdheehdabmaaGreatDoorEv44
import Derived.Test.YtdfgdheehdabmaaGreatDoorEv35
import Derived.Lib.ItoaNum
set_option maxHeartbeats 40000000
set_option maxRecDepth 400000
set_option linter.all false
namespace Go.Ab
open Go.Proofs
section
variable {P:Program} {G:Gl}
theorem AC.of_calls1{f:FuncId}(hf:zCs P f){a r:Value}(hr:plain r=true)(hS:∀ w:World,Calls P f #[a] w fun e w'=>e=.returned r∧w'=w){H:List AO}{K:AV→List AO→Prop}(hK:K (.c r) H):AC P G f [.c a] H K:=by
 refine⟨hf,fun E w vargs hH hA cs=>?_⟩;obtain⟨hn,hA⟩:=hA;have hv:=hA 0 (by simp);have hvs:vargs=#[vargs.getD 0 undef]:=by
  have h1:vargs.size=1:=hn;apply Array.ext
  ·simpa using h1
  ·intro i h2 h3
   have:i=0:=by simp at h3; omega
   subst this;simp[Array.getD,h1]
 rw[hvs];simp only[List.getD,List.getElem?_cons_zero,Option.getD_some]at hv;have hx:=hv.c_inv;rw[hx];obtain⟨e,w',fr,⟨rfl,rfl⟩,h3,h4,h5⟩:=hS w cs;exact⟨_,_,E,_,_,fr,hK,hH,Grow.refl _ _ _,.c hr,h3,h4,h5⟩
end
end Go.Ab
namespace Go.Ab.Pd
open Go.Proofs Go.Sort
theorem callableLen:zCs Tryz.prog 46:=⟨_,Tryz.func46,rfl,by decide⟩
theorem len_ac{n:Int}(h0:0≤n)(h1:n≤18446744073709551615){H:List AO}{K:AV→List AO→Prop}(hK:K (I (Lib.bitLen n.toNat:Nat)) H):AC Tryz.prog GG 46 [U n] H K:=by
 have h:=fun w=>Any.bits_Len (SlLaysF0.n15.bits (P:=Tryz.prog) (ρ:=Tryz.laysFP_ren) { Tryz.laysFP with }) n w h0 h1
 exact AC.of_calls1 callableLen rfl h hK
theorem e119:Ent Tryz.prog 119 Tryz.f119 [] 1:=.mk Tryz.func119 rfl
attribute [push_cast] Tryz.f119
theorem next_ac{k:Nat}{H:List AO}{s:Int}(hs:H[k]?=some (.cells [U s])){K:AV→List AO→Prop}(hK:∀ v:Int,inU v→K (U v) (H.set k (.cells [U v]))):AC Tryz.prog GG 119 [.ptr k 0] H K:=by
 have hset:∀ v,(H.set k v)[k]?=some v:=fun v=>List.getElem?_set_self (zAb hs)
 refine goE e119 TOk.nil 0 ?_;simp(maxSteps:=2000000)only[push_cast,seval,↓kw2,hs,nonNil,hset,List.set_set];exact⟨_,rfl,hK _ (wrap_inU _)⟩
theorem e118:Ent Tryz.prog 118 Tryz.f118 [] 1:=.mk Tryz.func118 rfl
attribute [push_cast] Tryz.f118
theorem npow_ac{n:Nat}(hn:n≤2^20){H:List AO}{K:AV→List AO→Prop}(hK:K (U (2^(Lib.bitLen n):Nat)) H):AC Tryz.prog GG 118 [I (n:Int)] H K:=by
 have wu:IntKind.u64.wrap (n:Int)=(n:Int):=by simp only[IntKind.wrap,IntKind.bits,IntKind.signed]; simp; omega
 have hl:Lib.bitLen n≤21:=Lib.bitLen_le n 21 (by omega) (by omega);obtain⟨L,hL⟩:∃ L,L=Lib.bitLen n:=⟨_,rfl⟩;refine goE e118 TOk.nil 0 ?_;simp(maxSteps:=2000000)only[push_cast,seval,↓kw2,wu];refine len_ac (by omega) (by omega) ?_;rw[Int.toNat_natCast,← hL];rw[← hL]at hK;refine goN ?_;simp(maxSteps:=2000000)only[push_cast,seval,↓kw2];have hp:(2:Nat)^L≤2^21:=Nat.pow_le_pow_right (by decide) (by omega);have e:IntKind.u64.wrap (1*2^min ((L:Int)).toNat IntKind.u64.bits)=((2^L:Nat):Int):=by
  rw[Int.toNat_natCast,show min L IntKind.u64.bits=L from Nat.min_eq_left (by show L≤64; omega),Int.one_mul,show((2:Int)^L)=((2^L:Nat):Int) from (Int.natCast_pow 2 L).symm]
  generalize 2^L=q at hp
  exact wrapU ⟨by omega,by omega⟩
 refine⟨by omega,_,rfl,?_⟩;rw[e];exact hK
theorem npow_le{l:Nat}(h0:1≤l)(h:l≤2^20):l < 2^Lib.bitLen l∧2^Lib.bitLen l≤2*l:=by
 obtain⟨h1,h2,h3⟩:=Lib.bitLenAux_bounds 64 l (by omega) (by omega);refine⟨h3,?_⟩;show 2^Lib.bitLenAux 64 l≤_;rw[show Lib.bitLenAux 64 l=(Lib.bitLenAux 64 l - 1)+1 by omega,Nat.pow_succ];omega
theorem and_lt(v:Int){M:Nat}(h1:1≤M)(h2:M≤2^32):∃ o:Nat,IntKind.i64.wrap (IntKind.u64.wrap ↑(BitVec.ofInt IntKind.u64.bits v &&& BitVec.ofInt IntKind.u64.bits (IntKind.u64.wrap ((M:Int) - 1))).toNat)=(o:Int)∧o < M:=by
 rw[wrapU (n:=(M:Int) - 1) ⟨by omega,by omega⟩];have hle:(BitVec.ofInt IntKind.u64.bits v &&& BitVec.ofInt IntKind.u64.bits ((M:Int) - 1)).toNat≤M - 1:=by
  rw[BitVec.toNat_and];refine Nat.le_trans Nat.and_le_right ?_;rw[BitVec.toNat_ofInt];show(((M:Int) - 1) % ((2^64:Nat):Int)).toNat≤_;omega
 generalize (BitVec.ofInt IntKind.u64.bits v &&& BitVec.ofInt IntKind.u64.bits ((M:Int) - 1)).toNat=o at hle
 exact⟨o,by rw[wrapU ⟨by omega,by omega⟩]; exact zAf (by omega) (by omega),by omega⟩
theorem e78:Ent Tryz.prog 78 Tryz.f78 [] 4:=.mk Tryz.func78 rfl
attribute [push_cast] Tryz.f78
theorem break_ac{x:Cx}(hx:x.ok){a b:Nat}(hab:a+12≤b)(hb:b≤x.n){H:List AO}{d:Array Plc}(h:Inv x H d){K:AV→List AO→Prop}(hK:∀ H' d',Inv x H' d'→PermIn a b d d'→Stp x H H'→K (.tup []) H') :
  AC Tryz.prog GG 78 [.sl x.R 0 x.n x.cap,I (a:Int),I (b:Int),.fn 38 [] [.ptr x.D 0,.ptr x.F 0]] H K:=by
 have hn:=hx.n;obtain⟨l,hl⟩:∃ q,q=b - a:=⟨_,rfl⟩;obtain⟨q,hq⟩:∃ r,r=l / 4:=⟨_,rfl⟩;have w1:IntKind.i64.wrap ((b:Int) - (a:Int))=(l:Int):=by rw[zAf (n:=(b:Int) - (a:Int)) (by omega) (by omega)]; omega
 have w2:IntKind.i64.wrap ((l:Int).tdiv 4)=(q:Int):=by
  have:(l:Int).tdiv 4=(q:Int):=by show(l:Int).tdiv ((4:Nat):Int)=_; rw[← Int.ofNat_tdiv]; omega
  rw[this];exact zAf (by omega) (by omega)
 have w4:=zAf (n:=(q:Int)*2) (by omega) (by omega);obtain⟨j,hj⟩:∃ r,r=a+q*2:=⟨_,rfl⟩;have w7:IntKind.i64.wrap ((a:Int)+(q:Int)*2)=(j:Int):=by rw[zAf (n:=(a:Int)+(q:Int)*2) (by omega) (by omega)]; omega
 obtain⟨j1,hj1⟩:∃ r,r=j - 1:=⟨_,rfl⟩;have w8:IntKind.i64.wrap ((j:Int) - 1)=(j1:Int):=by rw[zAf (n:=(j:Int) - 1) (by omega) (by omega)]; omega
 have w9:=zAf (n:=(j:Int)+1) (by omega) (by omega);have d8:decide (8≤(l:Int))=true:=decide_eq_true (by omega);have wu:IntKind.u64.wrap (l:Int)=(l:Int):=by simp only[IntKind.wrap,IntKind.bits,IntKind.signed]; simp; omega
 have hlt:=h.lt;have hH:HiC x H.length:=⟨hlt.1,hlt.2.1,hlt.2.2.1,hlt.2.2.2.1,hlt.2.2.2.2.1,hlt.2.2.2.2.2⟩;obtain⟨M,hM⟩:∃ M,M=2^Lib.bitLen l:=⟨_,rfl⟩;have hMl:=npow_le (l:=l) (by omega) (by omega);rw[← hM]at hMl;refine goE e78 TOk.nil 0 ?_;simp(maxSteps:=2000000)only[push_cast,seval,↓kw2,w1,d8,ge_iff_le,wu,getA,zAw,setA,zCf];refine npow_ac (by omega) ?_;rw[← hM];refine goN ?_;simp(maxSteps:=2000000)only[push_cast,seval,↓kw2,w2,w4,w7,w8];have hs0:(H++[AO.cells [U (l:Int)]])[H.length]?=some (.cells [U (l:Int)]):=by simp
 refine FW.loopInv (fun m ts H'=>∃(i:Nat) (d':Array Plc) (s:Int),i+m=j+2∧j1≤i∧PermIn a b d d'∧Inv x H' d'∧H'[H.length]?=some (.cells [U s])∧Stp x H H'∧ts 0=.sl x.R 0 x.n x.cap∧ts 1=I (a:Int)∧ts 8=I (l:Int)∧ts 9=.ptr H.length 0∧ts 10=U (M:Int)∧ts 11=I (i:Int)) 3
  ⟨j1,d,l,by omega,by omega,permIn_refl _ _ _,h.app,hs0,.app,rfl,rfl,rfl,rfl,rfl,rfl⟩ ?_
 clear h
 rintro m ih ts H' ⟨i,d',s,hi,hji,hpm,h,hs,hst,t0,t1,t8,t9,t10,t11⟩
 refine FW.inLoop ?_;have hsz:=h.n;have wi:=zAf (n:=(i:Int)+1) (by omega) (by omega)
 by_cases hle:i≤j+1
 ·have d1:decide ((i:Int)≤(j:Int)+1)=true:=decide_eq_true (by omega);refine goN ?_;simp(maxSteps:=2000000)only[push_cast,seval,↓kw2,t0,t1,t8,t9,t10,t11,w2,w4,w7,w9,d1];refine next_ac hs ?_
  intro v hv
  obtain⟨o,ho,hoM⟩:=and_lt v (M:=M) (by omega) (by omega);have h2:Inv x (H'.set H.length (AO.cells [U v])) d':=h.setK hH
  by_cases hol:l≤o
  ·have d2:decide ((l:Int)≤(o:Int))=true:=decide_eq_true (by omega);obtain⟨p,hp⟩:∃ p,p=o - l:=⟨_,rfl⟩;have wp:IntKind.i64.wrap ((o:Int) - (l:Int))=(p:Int):=by rw[zAf (n:=(o:Int) - (l:Int)) (by omega) (by omega)]; omega
   obtain⟨po,hpo⟩:∃ r,r=a+p:=⟨_,rfl⟩;have wpo:IntKind.i64.wrap ((a:Int)+(p:Int))=(po:Int):=by rw[zAf (n:=(a:Int)+(p:Int)) (by omega) (by omega)]; omega
   have gR:=zAi (x:=x) (d:=d') (i:=i) (by omega);have lR:=zAj (x:=x) (d:=d') (i:=i) (by omega);have gC:=zAi (x:=x) (d:=d') (i:=po) (by omega);have lC:=zAj (x:=x) (d:=d') (i:=po) (by omega);have hr:=h2.row;have hsw:=zCg (x:=x) (d:=d') (i:=i) (j:=po) (by omega) (by omega);have hpost:=h2.swap (i:=i) (j:=po) (by omega) (by omega);rw[← hsw]at hpost;have hrs:∀ w,((H'.set H.length (AO.cells [U v])).set x.R w)[x.R]?=some w:=fun w=>List.getElem?_set_self h2.lt.1
   generalize d'[i]! =U0 at gR hsw hpost
   generalize d'[po]! =V at gC hsw hpost
   obtain⟨Z,hz⟩:=zBp x (d:=d') (i:=po) (j:=i) (by omega) V;simp only[Plc.av]at hz;have cU:=Plc.cells U0;have cV:=Plc.cells V;refine goN ?_;simp(maxSteps:=2000000)only[push_cast,seval,↓kw2,t0,t1,t8,t9,t10,t11,ho,d2,wp,wpo,wi,hr,hrs,hz,gR,lR,gC,lC,cU,cV,Plc.av,List.set_set,List.length_set,Int.toNat_natCast]
   repeat (refine⟨⟨by omega,by omega⟩,?_⟩)
   exact ih (m - 1) (by omega) _ _ ⟨i+1,swp d' i po,v,by omega,by omega,permIn_trans _ _ _ _ _ hpm (swp_permIn d' a b i po (by omega) (by omega) (by omega) (by omega) (by omega)),hpost,by rw[List.getElem?_set_ne (Nat.ne_of_lt hH.R)]; exact List.getElem?_set_self (zAb hs),⟨by have:=hst.len; simpa using this,fun k e n1 n2 hk=>by rw[List.getElem?_set_ne (fun e2=>n1 e2.symm),List.getElem?_set_ne (Nat.ne_of_gt (zAb hk))]; exact hst.keep k e n1 n2 hk⟩,t0,t1,t8,t9,t10,rfl⟩
  ·have d2:decide ((l:Int)≤(o:Int))=false:=decide_eq_false (by omega);obtain⟨po,hpo⟩:∃ r,r=a+o:=⟨_,rfl⟩;have wpo:IntKind.i64.wrap ((a:Int)+(o:Int))=(po:Int):=by rw[zAf (n:=(a:Int)+(o:Int)) (by omega) (by omega)]; omega
   have gR:=zAi (x:=x) (d:=d') (i:=i) (by omega);have lR:=zAj (x:=x) (d:=d') (i:=i) (by omega);have gC:=zAi (x:=x) (d:=d') (i:=po) (by omega);have lC:=zAj (x:=x) (d:=d') (i:=po) (by omega);have hr:=h2.row;have hsw:=zCg (x:=x) (d:=d') (i:=i) (j:=po) (by omega) (by omega);have hpost:=h2.swap (i:=i) (j:=po) (by omega) (by omega);rw[← hsw]at hpost;have hrs:∀ w,((H'.set H.length (AO.cells [U v])).set x.R w)[x.R]?=some w:=fun w=>List.getElem?_set_self h2.lt.1
   generalize d'[i]! =U0 at gR hsw hpost
   generalize d'[po]! =V at gC hsw hpost
   obtain⟨Z,hz⟩:=zBp x (d:=d') (i:=po) (j:=i) (by omega) V;simp only[Plc.av]at hz;have cU:=Plc.cells U0;have cV:=Plc.cells V;refine goN ?_;simp(maxSteps:=2000000)only[push_cast,seval,↓kw2,t0,t1,t8,t9,t10,t11,ho,d2,wpo,wi,hr,hrs,hz,gR,lR,gC,lC,cU,cV,Plc.av,List.set_set,List.length_set,Int.toNat_natCast]
   repeat (refine⟨⟨by omega,by omega⟩,?_⟩)
   exact ih (m - 1) (by omega) _ _ ⟨i+1,swp d' i po,v,by omega,by omega,permIn_trans _ _ _ _ _ hpm (swp_permIn d' a b i po (by omega) (by omega) (by omega) (by omega) (by omega)),hpost,by rw[List.getElem?_set_ne (Nat.ne_of_lt hH.R)]; exact List.getElem?_set_self (zAb hs),⟨by have:=hst.len; simpa using this,fun k e n1 n2 hk=>by rw[List.getElem?_set_ne (fun e2=>n1 e2.symm),List.getElem?_set_ne (Nat.ne_of_gt (zAb hk))]; exact hst.keep k e n1 n2 hk⟩,t0,t1,t8,t9,t10,rfl⟩
 ·have d1:decide ((i:Int)≤(j:Int)+1)=false:=decide_eq_false (by omega);refine goN ?_;simp(maxSteps:=2000000)only[push_cast,seval,↓kw2,t0,t1,t8,t9,t10,t11,w2,w4,w7,w9,d1];exact⟨_,rfl,hK _ _ h hpm hst⟩
end Go.Ab.Pd
