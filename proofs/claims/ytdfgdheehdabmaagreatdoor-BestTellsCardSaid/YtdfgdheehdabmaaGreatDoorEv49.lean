/- One of the texts that this claim stands on. -/
import Derived.Test.YtdfgdheehdabmaaGreatDoorEv47
import Derived.Test.YtdfgdheehdabmaaGreatDoorEv48
set_option maxHeartbeats 40000000
set_option maxRecDepth 400000
set_option linter.all false
namespace Go.Ab.Pd
open Go.Proofs Go.Sort
section
variable {a b c:Int} {sc:Plc→Int}
def rankL(a b c:Int)(sc:Plc→Int)(F:List Plc):List Plc:=F.mergeSort fun X Y=>decide (cmpS a b c sc X Y≤0)
theorem le_trans'(X Y Z:Plc)(h:decide (cmpS a b c sc X Y≤0)=true)(k:decide (cmpS a b c sc Y Z≤0)=true):decide (cmpS a b c sc X Z≤0)=true:=by
 have t:=cmpS_tri (a:=a) (b:=b) (c:=c) (sc:=sc) X Y Z;unfold Tri at t;simp only[decide_eq_true_eq]at *;omega
theorem le_total'(X Y:Plc):(decide (cmpS a b c sc X Y≤0)||decide (cmpS a b c sc Y X≤0))=true:=by
 have e:=cmpS_neg (a:=a) (b:=b) (c:=c) (sc:=sc) X Y;rw[Bool.or_eq_true,decide_eq_true_eq,decide_eq_true_eq];omega
theorem rankL_perm(F:List Plc):(rankL a b c sc F).Perm F:=List.mergeSort_perm _ _
theorem rankL_pw(F:List Plc):List.Pairwise (fun X Y=>decide (cmpS a b c sc X Y≤0)=true) (rankL a b c sc F):=List.pairwise_mergeSort le_trans' le_total' F
theorem rank_uniq{F L:List Plc}(hok:∀ X∈F,X.ok a b c)(hp:L.Perm F)(hs:List.Pairwise (fun X Y=>decide (cmpS a b c sc X Y≤0)=true) L):L=rankL a b c sc F:=by
 refine List.Perm.eq_of_pairwise (fun X Y hX hY h1 h2=>?_) hs (rankL_pw F) (hp.trans (rankL_perm F).symm);have e:=cmpS_neg (a:=a) (b:=b) (c:=c) (sc:=sc) X Y;rw[decide_eq_true_eq]at h1 h2;exact cmpS_zero (sc:=sc) (hok X (hp.mem_iff.1 hX)) (hok Y ((rankL_perm F).mem_iff.1 hY)) (by omega)
theorem rank_of{x:Cx}{F:List Plc}{d':Array Plc}(hn:F.length=x.n)(hok:∀ X∈F,X.ok x.a x.b x.c)(hp:PermIn 0 x.n F.toArray d')(hs:SortedIn x.lt 0 x.n d'):d'.toList=rankL x.a x.b x.c x.sc F:=by
 have hsz:d'.size=x.n:=by rw[hp.1]; simp[hn]
 refine rank_uniq hok ?_ ?_
 ·have:=hp.2.2;rw[Array.toList_extract,Array.toList_extract]at this;simp only[List.extract_eq_take_drop,List.drop_zero,Nat.sub_zero]at this
  rwa [List.take_of_length_le (by rw[Array.length_toList]; omega),List.take_of_length_le (by simp[hn])]at this
 ·rw[List.pairwise_iff_getElem]
  intro i j hi hj hij
  have h:=hs i j (by omega) hij (by rw[Array.length_toList]at hj; omega);have e:=cmpS_neg (a:=x.a) (b:=x.b) (c:=x.c) (sc:=x.sc) d'.toList[i] d'.toList[j];unfold Cx.lt ltS at h;rw[decide_eq_false_iff_not]at h;rw[getE (by rw[Array.length_toList]at hj; exact hj),getE (by rw[Array.length_toList]at hi; exact hi)]at h;rw[decide_eq_true_eq];simp only[Array.getElem_toList]at e ⊢;omega
end
theorem allA_ac{a b c:Int}(w:Wnt){s1 s2:AV}(q1:IsSet s1)(q2:IsSet s2)(h:zEs a b c w.p w.q w.r=0)(p1:Pur Tryz.prog GG 24 [I (zAg a b c),s1] (I 0))(p2:Pur Tryz.prog GG 24 [I (3*zAg a b c),s2] (I 0))
  {hold:Plc→Bool} (hh:∀ x,x.ok a b c→Pur Tryz.prog GG 35 [.agg [I a,I b,I c],x.av,s1,s2] (.tup [B (hold x),I 0])) {H:List AO} {K:AV→List AO→Prop}
  (hK:∀ s H',SegP H' s ((wholeL a b c w).filter hold)→(wholeL a b c w=[]→s=.c (.slice none 0 0))→(¬wholeL a b c w=[]→∃ id n cap,s=.sl id 0 n cap)→(∀ q,q < H.length→H'[q]?=H[q]?)→(∀ i,zAl s=some i→H.length≤i)→K (.tup [s,I 0]) H') :
  AC Tryz.prog GG 14 [.agg [I a,I b,I c],w.av,s1,s2] H K:=by
 have h1:=q1.pur;have h2:=q2.pur;obtain⟨k11,k12,k13⟩:=q1.cell;obtain⟨k21,k22,k23⟩:=q2.cell;obtain⟨hd,hw⟩:=dwchk_ok.1 h;have hmu:=zAy hd;have hmv:zAg a b c=a*b*c:=by rw[zAg,if_pos hd]
 have w3:=zAf (n:=3*zAg a b c) (by omega) (by omega);show AC Tryz.prog GG 14 [.agg [I a,I b,I c],WT w.p w.q w.r w.s w.t w.u w.v,s1,s2] H K;refine goE e14 zFp 0 ?_;simp(maxSteps:=2000000)only[push_cast,seval,↓kw2,k11,k12,k13,k21,k22,k23,h,getA,zAw,setA,zCf];refine AC.pur p1 ?_;refine goW zFp [] 0 ?_;simp(maxSteps:=2000000)only[push_cast,seval,↓kw2,w3,k11,k12,k13,k21,k22,k23,getA,zAw,setA,zCf];refine AC.pur p2 ?_;refine goW zFp [] 0 ?_;simp(maxSteps:=2000000)only[push_cast,seval,↓kw2,getA,zAw,setA,zCf];refine whole_ac hd w hw ?_
 intro H1 s hseg hnil hoth hs
 have g0:H1[H.length]?=some (.cells [I a,I b,I c]):=(hoth _ (by simp)).trans (by simp);have g2:H1[H.length+2]?=some (.cells [s1]):=(hoth _ (by simp)).trans (by simp);have g3:H1[H.length+3]?=some (.cells [s2]):=(hoth _ (by simp)).trans (by simp);have hl3:=zAb g3;simp only[List.length_append,List.length_cons,List.length_nil]at hoth hs;have hl4:∀ j,j < H.length+4→j < H1.length∧zAl s≠some j:=fun j hj=>⟨by omega,fun e=>by have:=hs j e; omega⟩
 refine goW zFp [] 0 ?_;simp(maxSteps:=2000000)only[push_cast,seval,↓kw2,getA,zAw,setA,zCf];refine deleteP (pr:=fun x=>!(hold x)) hseg (by have:=whole_le hd w; omega) ?_ ?_
 ·intro H' x K hx hfr hK
  have okx:=raw_ok (whole_mem.1 hx);have f0:=(hfr _ (hl4 _ (by omega)).1 (hl4 _ (by omega)).2).trans g0;have f2:=(hfr _ (hl4 _ (by omega)).1 (hl4 _ (by omega)).2).trans g2;have f3:=(hfr _ (hl4 _ (by omega)).1 (hl4 _ (by omega)).2).trans g3;refine AC.view ggp (n:=3) (args':=[x.av,.iptr [I a,I b,I c] 0,.iptr [s1] 0,.iptr [s2] 0]) ?_ ?_ rfl (all1_pur h1 h2 q1.cell q2.cell x (hh x okx)) hK
  ·simp[mapO,frz,Plc.pur,AV.pur,f0,f2,f3,h1,h2]
  ·simp[AV.purL,AV.pur,Plc.pur,h1,h2]
 ·intro H2 s' hseg' hsame hfr
  have hff:((wholeL a b c w).filter fun x=>!(!(hold x)))=(wholeL a b c w).filter hold:=by simp
  rw[hff]at hseg';refine goW zFp [] 0 ?_;simp(maxSteps:=2000000)only[push_cast,seval,↓kw2];refine⟨_,rfl,?_⟩;have hkeep:∀ q,q < H.length→H2[q]?=H[q]?:=fun q hq=>(hfr q (hl4 q (by omega)).1 (hl4 q (by omega)).2).trans ((hoth q (by omega)).trans (List.getElem?_append_left hq))
  rcases hsame with ⟨hs0,rfl⟩ | ⟨id,n,cap,n',cap',rfl,rfl⟩
  ·exact hK _ _ hseg' (fun _=>rfl) (fun hne=>(by
    subst hs0
    generalize wholeL a b c w=L at hseg hne
    cases hseg; exact absurd rfl hne)) hkeep (fun i e=>by cases e)
  ·exact hK _ _ hseg' (fun e=>by have:=hnil e; cases this) (fun _=>⟨_,_,_,rfl⟩) hkeep (fun i e=>by cases e; have:=hs id rfl; omega)
def rkl(a b c:Int)(w:Wnt)(l:List Plc):AV:=if wholeL a b c w=[] then .c (.slice none 0 0) else .isl (l.map Plc.av)
theorem rkl_is{a b c:Int}{w:Wnt}{sc:Plc→Int}(f:Plc→Bool):IsSl (rkl a b c w (rankL a b c sc ((wholeL a b c w).filter f))) ((rankL a b c sc ((wholeL a b c w).filter f)).map Plc.av):=by
 unfold rkl
 split
 ·rename_i h;rw[h];exact .inr ⟨by simp[rankL],rfl⟩
 ·exact .inl rfl
theorem e8:Ent Tryz.prog 8 Tryz.f8 [] 4:=.mk Tryz.func8 rfl
attribute [push_cast] Tryz.f8
theorem rank_err{a b c e:Int}{w:Wnt}{s1 s2:AV}(q1:IsSet s1)(q2:IsSet s2)(he:¬e=0)(hA:Pur Tryz.prog GG 14 [.agg [I a,I b,I c],w.av,s1,s2] (.tup [.c (.slice none 0 0),I e])) :
  Pur Tryz.prog GG 8 [.agg [I a,I b,I c],w.av,s1,s2] (.tup [.c (.slice none 0 0),I e]):=by
 have h1:=q1.pur;have h2:=q2.pur;show Pur Tryz.prog GG 8 [.agg [I a,I b,I c],WT w.p w.q w.r w.s w.t w.u w.v,s1,s2] _;refine goQ e8 TOk.nil 0 ?_ (by simp[AV.purL,AV.pur,h1,h2]);simp(maxSteps:=2000000)only[push_cast,seval,↓kw2];refine AC.pur hA ?_;refine goN ?_;simp(maxSteps:=2000000)only[push_cast,seval,↓kw2,he];exact⟨_,rfl,zAa rfl rfl⟩
theorem rank_ok{a b c:Int}(w:Wnt){s1 s2:AV}(q1:IsSet s1)(q2:IsSet s2)(h:zEs a b c w.p w.q w.r=0)(p1:Pur Tryz.prog GG 24 [I (zAg a b c),s1] (I 0))(p2:Pur Tryz.prog GG 24 [I (3*zAg a b c),s2] (I 0))
  {hold:Plc→Bool} (hh:∀ x,x.ok a b c→Pur Tryz.prog GG 35 [.agg [I a,I b,I c],x.av,s1,s2] (.tup [B (hold x),I 0]))
  {sc:Plc→Int} (hsc:∀ x,x.ok a b c→Pur Tryz.prog GG 37 [.agg [I a,I b,I c],x.av,s1] (.tup [I (sc x),I 0])) :
  Pur Tryz.prog GG 8 [.agg [I a,I b,I c],w.av,s1,s2] (.tup [rkl a b c w (rankL a b c sc ((wholeL a b c w).filter hold)),I 0]):=by
 have h1:=q1.pur;have h2:=q2.pur;obtain⟨hd,hw⟩:=dwchk_ok.1 h;have hwl:=whole_le hd w;have hokF:∀ X∈(wholeL a b c w).filter hold,X.ok a b c:=fun X hX=>((wholeL_mem hd).1 (List.mem_filter.1 hX).1).1
 have hFl:((wholeL a b c w).filter hold).length≤24576:=Nat.le_trans (List.length_filter_le _ _) hwl;show Pur Tryz.prog GG 8 [.agg [I a,I b,I c],WT w.p w.q w.r w.s w.t w.u w.v,s1,s2] _;refine goQ e8 TOk.nil 0 ?_ (by simp[AV.purL,AV.pur,h1,h2]);simp(maxSteps:=2000000)only[push_cast,seval,↓kw2];refine allA_ac w q1 q2 h p1 p2 hh ?_
 intro s H1 hseg hnil hrow hkp hlo
 have g0:H1[0]?=some (.cells [I a,I b,I c]):=hkp 0 (by simp);refine goN ?_;simp(maxSteps:=2000000)only[push_cast,seval,↓kw2,g0];refine compare_ac q1.cell ?_
 generalize hF:(wholeL a b c w).filter hold=F at hseg hokF hFl ⊢
 cases hseg with
 | nil =>
  refine goN ?_;simp(maxSteps:=2000000)only[push_cast,seval,↓kw2];refine AC.sortNone callableSP sortsNoneP ?_;have hw0:wholeL a b c w=[]:=Classical.byContradiction fun e=>by obtain⟨_,_,_,e2⟩:=hrow e; cases e2
  refine goN ?_;simp(maxSteps:=2000000)only[push_cast,seval,↓kw2];refine⟨_,rfl,?_⟩;unfold rkl;rw[if_pos hw0];exact zAa rfl rfl
 | row hid hn hr hc ht =>
  rename_i id n cap rs;have hw0:¬wholeL a b c w=[]:=fun e=>by have:=hnil e; cases this
  have hidl:=zAb hid;have hrs:rs=F.map Plc.av++rs.drop n:=by rw[← ht,List.take_append_drop]
  refine goN ?_;simp(maxSteps:=2000000)only[push_cast,seval,↓kw2];refine sortM_ac (x:=⟨a,b,c,sc,s1,H1.length,H1.length+4,H1.length+3,H1.length+1,H1.length+2,id,n,cap,rs.drop n⟩) (d:=F.toArray) ⟨q1.cell,by show n≤2^20; omega⟩ ⟨?_,by simp[hn],zAw,getA,getA,getA,⟨[],0,getA,fun e he=>by cases he⟩,fun X hX=>hsc X (hokF X (by simpa using hX))⟩ ?_
  ·show(H1++_)[id]?=some (.arr 9 (F.toArray.toList.map Plc.av++rs.drop n));rw[List.getElem?_append_left hidl,hid];exact congrArg (fun q=>some (AO.arr 9 q)) hrs
  ·intro H2 d' h' pp ss st
   have hd':=rank_of (x:=⟨a,b,c,sc,s1,H1.length,H1.length+4,H1.length+3,H1.length+1,H1.length+2,id,n,cap,rs.drop n⟩) (F:=F) (by show F.length=n; omega) hokF pp ss;have hrow2:=h'.row;have hdn:d'.toList.length=n:=by rw[Array.length_toList]; exact h'.n
   refine goN ?_;simp(maxSteps:=2000000)only[push_cast,seval,↓kw2];refine⟨_,rfl,?_⟩;unfold rkl;rw[if_neg hw0,← hd'];have htk:(d'.toList.map Plc.av++rs.drop n).take n=d'.toList.map Plc.av:=by rw[List.take_append_of_le_length (by rw[List.length_map]; omega),List.take_of_length_le (by rw[List.length_map]; omega)]
   have:=seg_done2 (k:=9) (n:=n) (cap:=cap) (v:=I 0) (es:=d'.toList.map Plc.av++rs.drop n) hrow2 (by rw[List.length_append,List.length_map]; omega) (by rw[htk]; exact zAe Plc.av _ (fun _=>rfl)) rfl;rw[htk]at this;exact this
open Go.Proofs
theorem all_told(a b c:Int)(w:Wnt){s1 s2:AV}(q1:IsSet s1)(q2:IsSet s2) :
  Pur Tryz.prog GG 14 [.agg [I a,I b,I c],w.av,s1,s2] (.tup [.c (.slice none 0 0),I 8]) ∨
  ∃ xs ys:List Int,(∀ w∈xs,inU w)∧(∀ w∈ys,inU w)∧s1=.isl (xs.map U)∧s2=.isl (ys.map U)∧schk (zAg a b c) xs=0∧schk (3*zAg a b c) ys=0∧zEs a b c w.p w.q w.r=0:=by
 by_cases h:zEs a b c w.p w.q w.r=0
 ·rcases set_told q1 (zAg a b c)with ⟨e1,n1,p1⟩ | ⟨xs,hx,rfl,c1⟩
  ·obtain⟨e2,p2,_⟩:=check_ex q2 (3*zAg a b c);exact .inl (spotsA_sets w q1 q2 h p1 p2 fun hh=>n1 hh.1)
  ·rcases set_told q2 (3*zAg a b c)with ⟨e2,n2,p2⟩ | ⟨ys,hy,rfl,c2⟩
   ·exact .inl (spotsA_sets w q1 q2 h (check_of c1) p2 fun hh=>n2 hh.2)
   ·exact .inr ⟨xs,ys,hx,hy,rfl,rfl,c1,c2,h⟩
 ·have:=spotsA_bad w q1 q2 h;rw[dwchk_8 h]at this;exact .inl this
theorem rank_is{a b c:Int}(w:Wnt){xs ys:List Int}(hx:∀ w∈xs,inU w)(hy:∀ w∈ys,inU w)(c1:schk (zAg a b c) xs=0)(c2:schk (3*zAg a b c) ys=0)(h:zEs a b c w.p w.q w.r=0) :
  Pur Tryz.prog GG 8 [.agg [I a,I b,I c],w.av,.isl (xs.map U),.isl (ys.map U)] (.tup [rkl a b c w (rankL a b c (scV a b c xs) ((wholeL a b c w).filter (zEa a b c xs ys))),I 0]) :=
 rank_ok w (IsSet.isl hx) (IsSet.isl hy) h (check_of c1) (check_of c2) (fun x hk=>holds_is hx hy c1 c2 x hk) fun x hk=>scV_pur hx c1 hk
theorem betterS{a b c:Int}{xs:List Int}(hx:∀ w∈xs,inU w)(hd:okD a b c)(c1:schk (zAg a b c) xs=0){X Y:Plc}(hX:X.ok a b c)(hY:Y.ok a b c) :
  Pur Tryz.prog GG 10 [.agg [I a,I b,I c],X.av,Y.av,.isl (xs.map U)] (.tup [B (decide (cmpS a b c (scV a b c xs) X Y < 0)),I 0]) :=
 better_of (IsSet.isl hx) hd (check_of c1) (ok_pchk hX) (ok_pchk hY) (scV_pur hx c1 hX) (scV_pur hx c1 hY) fun h=>congrArg (scV a b c xs) (Plc.same.1 h).symm
theorem toVB{f:FuncId}{args:List AV}{v:AV}(h:Pur Tryz.prog GG f args v):PurV Tryz.prog GG (.fn f [] []) args v:=Pur.toV (by simpa using h)
theorem e4:Ent Tryz.prog 4 Tryz.f4 [] 4:=.mk Tryz.func4 rfl
attribute [push_cast] Tryz.f4
end Go.Ab.Pd
