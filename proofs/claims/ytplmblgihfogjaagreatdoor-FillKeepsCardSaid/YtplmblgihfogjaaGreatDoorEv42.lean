/- A text of this claim. -/
import Derived.Test.YtplmblgihfogjaaGreatDoorEv41
set_option maxHeartbeats 40000000
set_option maxRecDepth 400000
set_option linter.all false
namespace Go.Ab.Pd
open Go.Proofs
open Go.Proofs.Tryz renaming prog->zP
theorem tup2_frz{n:Nat}{H:List AO}{a a':AV}{x:Int}(h:frz (n+1) H a=some a'):frz (n+2) H (.tup [a,I x])=some (.tup [a',I x]):=by
 unfold Go.Ab.frz
 split
 ·rename_i hq;have ha:a.pur=true:=by simpa[AV.pur,AV.purL]using hq
  rw[zDr ha]at h;cases h;rfl
 ·simp only[mapO,h,zDr (a:=I x) rfl];rfl
def A98:Nat->Bool:=fun i=>i==8
def ex98:Nat->List Nat:=fun i=>if i=8 then [1,6] else []
def imp98:Nat->Bool:=fun i=>i==1||(i==6||i==9)
def ord98:List (Nat × Bool):=[(0,true),(2,true),(3,true),(4,true),(5,true),(7,true),(1,false),(6,false),(8,false),(9,false),(10,true),(11,true)]
theorem calA_nil{l:List Slt}(h:l=[]):calA l=.c (.slice none 0 0):=by rw[calA,if_pos h]
theorem calA_ne{l:List Slt}(h:l≠[]):calA l=.isl (l.map Slt.av):=by rw[calA,if_neg h]
theorem e147:Ent zP 147 Tryz.f147 [10] 2:=.mk Tryz.func147 rfl
theorem cPut_pur{l:List Slt}{x:Slt}(hc:calO 0 l)(hl:l.length < 4096)(hx:x.may)(hf:zFm x.fr x.till l=true):Pur zP GG 147 [calA l,x.av] (.tup [calA (insC x l),I 0]):=by
 have hs:=zDy l;have hp:=calA_pur l;obtain⟨k1,k2,k3⟩:=hs.cell;have hlen:=hs.len un218;rw[zM]at hlen;have h1:=cchk_pur hc (by omega);have h2:=cmay_pur x;rw[zT hx]at h2;have h3:=free_pur x.fr x.till hc (by omega);rw[hf]at h3;have h4:=caft_pur x.fr hc (by omega);have hd:decide ((l.length:Int)=4096)=false:=zF (by omega);have hle:=after_le x.fr l;rw[calA_ne (ins_ne x l),show insC x l=insAt l (afterN x.fr l) x from ins_eq x l];have hcl:l=[]->calA l=.c (.slice none 0 0):=calA_nil;have hcloneN:∀(c:AV) (L:List AV),c=.c (.slice none 0 0)->∀ {k:Nat} {H:List AO} {r:AV},LiveS k H c r L->r=.c (.slice none 0 0):=fun c L e k H r hr=>by
  cases hr with
  | nil=>rfl
  | zs=>cases e
  | row h h0=>cases e
 simp only[Slt.av]at h2;show Pur zP GG 147 [calA l,.agg [I x.fr,I x.till,I x.own]] _
 generalize calA l=S at *
 refine goQ e147 TOk.nil 0 ?_ (by simp[AV.purL,AV.pur,hp]);simp only[push_cast,seval,↓kw2,k1,k2,k3];refine AC.pur h1 ?_;refine goW TOk.nil [10] 0 ?_;simp only[push_cast,seval,↓kw2,k1,k2,k3];refine AC.pur h2 ?_;refine goW TOk.nil [10] 0 ?_;simp only[push_cast,seval,↓kw2,k1,k2,k3];refine AC.pur h3 ?_;refine goW TOk.nil [10] 0 ?_;simp only[push_cast,seval,↓kw2,k1,k2,k3,hlen,hd,List.contains_cons,Bool.true_or,Bool.false_or,Bool.or_true];refine FW.walkD hmix (A:=A98) (ex:=ex98) (imp:=imp98) (l:=ord98) (fun a ha=>by unfold A98 at ha; simp at ha; subst ha; decide) (by kernel_rfl) (by kernel_rfl) (by kernel_rfl) ?_;simp only[ord98];simp only[push_cast,seval,↓kw2,zBn,zBm,zAr,↓zAq,zFh,dlO,A98,ex98,imp98,Bool.or_false,Bool.or_true,Bool.true_or,Bool.false_or,Bool.or_self,Nat.add_assoc,zAx,zCq,wat,clOf,k1,k2,k3];refine cloneS_ac hs (by omega) ?_
 intro r X hr hr0
 obtain⟨u1,u2,u3⟩:=hr.cell;simp only[push_cast,seval,↓kw2,zBn,zBm,zAr,↓zAq,zFh,dlO,A98,ex98,imp98,Bool.or_false,Bool.or_true,Bool.true_or,Bool.false_or,Bool.or_self,Nat.add_assoc,zAx,zCq,wat,clOf,k1,k2,k3,u1,u2,u3];refine AC.pur h4 ?_;simp only[push_cast,seval,↓kw2,zBn,zBm,zAr,↓zAq,zFh,dlO,A98,ex98,imp98,Bool.or_false,Bool.or_true,Bool.true_or,Bool.false_or,Bool.or_self,Nat.add_assoc,zAx,zCq,wat,clOf,k1,k2,k3,u1,u2,u3];have hvid:(AO.cells [I x.fr,I x.till,I x.own]::(X++[AO.arr 3 [AV.agg [I x.fr,I x.till,I x.own]]]))[X.length+1]?=some (.arr 3 [x.av]):=by
  rw[List.getElem?_cons_succ,zAd];rfl
 refine insert_ac x hle (by omega) (hr.keep ?_) (fun e=>hcloneN S _ (hcl e) hr) hvid ?_ ?_
 ·intro i hi
  have h5:=hr.lt i hi;simp only[List.length_append,List.length_cons,List.length_nil]at h5;show(AO.cells [I x.fr,I x.till,I x.own]::(X++[AO.arr 3 [AV.agg [I x.fr,I x.till,I x.own]]]))[i]?=_;rw[<- List.cons_append,zL (by simp; omega)];rfl
 ·intro e
  have h5:=hr.lt _ e;simp only[List.length_append,List.length_cons,List.length_nil]at h5;omega
 intro id' H' hid'
 refine⟨⟨fun hh=>?_,fun hh=>?_⟩,?_⟩
 ·cases (hh.symm.trans (by kernel_rfl):false=true)
 ·cases (hh.symm.trans (by kernel_rfl):false=true)
 refine goW TOk.nil [10] 0 ?_;simp only[push_cast,seval,↓kw2];have hfz:=frz_row hid' (by rw[zM,insAt_len hle]; omega) (zAi Slt.av _ (fun _=>rfl));rw[zM,insAt_len hle]at hfz;exact⟨_,rfl,3,tup2_frz hfz⟩
def rowA(n:Nat)(g:Nat->List Slt):List AV:=(List.range n).map fun i=>calA (g i)
theorem zCd(n:Nat)(g:Nat->List Slt):(rowA n g).length=n:=by simp[rowA]
theorem rowA_get{n:Nat}{g:Nat->List Slt}{i:Nat}(hi:i < n):(rowA n g).getD i .un=calA (g i):=by simp[rowA,List.getD,hi]
theorem calA_cells(l:List Slt):(calA l).cells=[calA l]:=(zDy l).cell.2.2
theorem rowA_cells{n:Nat}{g:Nat->List Slt}:∀ x∈rowA n g,x.cells.length=1:=fun x hx=>by
 obtain⟨i,_,rfl⟩:=List.mem_map.1 hx;rw[calA_cells]; rfl
theorem rowA_pur(n:Nat)(g:Nat->List Slt):AV.purL (rowA n g)=true:=zAi (fun i=>calA (g i)) _ fun i=>calA_pur (g i)
theorem zFa(n:Nat)(g:Nat->List Slt):(AV.isl (rowA n g)).pur=true:=by rw[AV.pur]; exact rowA_pur n g
theorem rowA_cong{n:Nat}{g h:Nat->List Slt}(e:∀ i,i < n->g i=h i):rowA n g=rowA n h:=by
 unfold rowA;refine List.map_congr_left fun i hi=>?_
 rw[e i (List.mem_range.1 hi)]
abbrev YA(a b c:Int)(ns ls:AV):AV:=.agg [I a,I b,I c,ns,ls]
def ydA(a b c:Int)(n:Nat)(g h:Nat->List Slt):AV:=YA a b c (.isl (rowA n g)) (.isl (rowA (3*n) h))
theorem ydA_pur(a b c:Int)(n:Nat)(g h:Nat->List Slt):(ydA a b c n g h).pur=true:=by
 have h1:=zFa n g;have h2:=zFa (3*n) h;simp[ydA,AV.pur,AV.purL]at h1 h2 ⊢;exact⟨h1,h2⟩
def okG(n:Nat)(g:Nat->List Slt):Prop:=∀ i,i < n->calO 0 (g i)/\(g i).length<=4000
theorem zBs(l:List AV):(AV.isl l).isCell=true/\(AV.isl l).isEl=true/\(AV.isl l).cells=[AV.isl l]:=⟨rfl,rfl,rfl⟩
theorem replA(n:Nat):AV.isl (List.replicate n (.c (.slice none 0 0)))=.isl (rowA n fun _=>[]):=by
 unfold rowA;rw[List.map_const',List.length_range];rfl
theorem frz_yard{a b c:Int}{H:List AO}{id1 id2 n m:Nat}{r1 r2:List AV}(h1:H[id1]?=some (.arr 1 r1))(h2:H[id2]?=some (.arr 1 r2))(l1:r1.length=n)(l2:r2.length=m)(p1:AV.purL r1=true)(p2:AV.purL r2=true)(n0:0 < n)(m0:0 < m):frz 3 H (YA a b c (.sl id1 0 n n) (.sl id2 0 m m))=some (YA a b c (.isl r1) (.isl r2)):=by
 subst l1;subst l2;have f1:=frz_row h1 n0 p1;have f2:=frz_row h2 m0 p2;unfold Go.Ab.frz
 split
 ·rename_i hq;simp[AV.pur,AV.purL]at hq
 ·simp only[mapO,f1,f2,zDr (a:=I a) rfl,zDr (a:=I b) rfl,zDr (a:=I c) rfl];rfl
theorem pur_nils(n:Nat):AV.purL (List.replicate n (.c (.slice none 0 0)))=true:=by
 induction n with
 | zero=>rfl
 | succ n ih=>simp[List.replicate_succ,AV.purL,ih,AV.pur]
def A53:Nat->Bool:=fun i=>i==2||i==5
def ex53:Nat->List Nat:=fun i=>if i=5 then [2] else []
def imp53:Nat->Bool:=fun _=>false
def ord53:List (Nat × Bool):=[(0,true),(1,true),(3,true),(4,true),(2,false),(5,false),(6,true),(7,false),(8,true)]
theorem e83:Ent zP 83 Tryz.f83 [4] 1:=.mk Tryz.func83 rfl
theorem cNew_pur{a b c:Int}(hd:okD a b c){n:Nat}(hn:(n:Int)=a*b*c):Pur zP GG 83 [.agg [I a,I b,I c]] (.tup [ydA a b c n (fun _=>[]) (fun _=>[]),I 0]):=by
 have hm:=many_pur a b c;have hk:=chk_ok.2 hd;have hv:zAf a b c=a*b*c:=by rw[zAf,if_pos hd]
 rw[hk,hv,<- hn]at hm;obtain⟨q1,q2,q3,q4⟩:=zBx hd;have hn1:1<=a*b*c:=zFp hd;have h3:IntKind.i64.wrap (3*(n:Int))=((3*n:Nat):Int):=by rw[zAl (by omega) (by omega)]; omega
 obtain⟨k,rfl⟩:∃ k,n=k+1:=⟨n - 1,by omega⟩;have h3':IntKind.i64.wrap (3*((k:Int)+1))=3*((k:Int)+1):=zAl (by omega) (by omega);have hT1:((k:Int)+1).toNat=k+1:=by omega
 have hT3:(3*((k:Int)+1)).toNat=3*k+2+1:=by omega
 unfold ydA;rw[<- replA,<- replA];refine goQ e83 TOk.nil 0 ?_;simp only[push_cast,seval,↓kw2];refine AC.pur hm ?_;refine goW TOk.nil [4] 0 ?_;simp only[push_cast,seval,↓kw2,h3,List.contains_cons,Bool.true_or,Bool.false_or,Bool.or_true];refine FW.walkD hmix (A:=A53) (ex:=ex53) (imp:=imp53) (l:=ord53) (fun a ha=>by unfold A53 at ha; simp at ha; rcases ha with rfl | rfl <;> decide) (by kernel_rfl) (by kernel_rfl) (by kernel_rfl) ?_;simp only[ord53];simp only[push_cast,seval,↓kw2,zBn,zBm,zAr,↓zAq,zFh,dlO,A53,ex53,imp53,Bool.or_false,Bool.or_true,Bool.true_or,Bool.false_or,Bool.or_self,Nat.add_assoc,zAx,zCq,wat,clOf,h3',hT1,hT3];refine⟨⟨by omega,by omega,by omega⟩,⟨by omega,by omega,by omega⟩,?_⟩;refine goW TOk.nil [4] 0 ?_;simp only[push_cast,seval,↓kw2];refine⟨_,rfl,4,tup2_frz ?_⟩;exact frz_yard (r1:=List.replicate (k+1) (.c (.slice none 0 0))) (r2:=List.replicate (3*(k+1)) (.c (.slice none 0 0))) rfl rfl (by simp) (by simp; omega) (pur_nils _) (pur_nils _) (by omega) (by omega)
theorem e204:Ent zP 204 Tryz.f204 [] 1:=.mk Tryz.func204 rfl
theorem yChk1_pur{l:List Slt}(hc:calO 0 l)(hl:l.length<=4096):Pur zP GG 204 [calA l] (B false):=by
 have h:=cchk_pur hc hl;have hp:=calA_pur l
 generalize calA l=S at *
 refine goQ e204 TOk.nil 0 ?_ (by simp[AV.purL,AV.pur,hp]);simp only[push_cast,seval,↓kw2];refine AC.pur h ?_;refine goN ?_;simp only[push_cast,seval,↓kw2];exact⟨_,rfl,zAa rfl rfl⟩
theorem e252:Ent zP 252 Tryz.f252 [] 2:=.mk Tryz.func252 rfl
theorem idxY{n:Nat}{g:Nat->List Slt}(hg:okG n g)(hn:n<=2^20){H:List AO}{K:AV->List AO->Prop}(hK:K (I (-1)) H):AC zP GG 252 [.isl (rowA n g),.fn 204 [] []] H K:=by
 have hs:IsSl (.isl (rowA n g)) (rowA n g):=.inl rfl;obtain⟨k1,k2,k3⟩:=hs.cell;have hlen:=hs.len un100;rw[zCd]at hlen;have hidx:=fun(i:Nat) (hi:i < n) (H:List AO)=>hs.idx (P:=zP) un100 sz218 (i:=(i:Int)) (by rw[zCd]; omega) (by omega) H
 generalize AV.isl (rowA n g)=S at *
 refine goE e252 TOk.nil 0 ?_;simp only[push_cast,seval,↓kw2,k1,k2,k3,hlen];refine FW.loopInv (fun m ts H'=>∃ i:Nat,i+m=n/\H'=H/\ts 0=S/\ts 1=.fn 204 [] []/\ts 7=I (n:Int)/\ts 8=I (i:Int)) n
  ⟨0,by omega,rfl,rfl,rfl,rfl,rfl⟩ ?_
 rintro m ih ts H' ⟨i,hi,rfl,t0,t1,t7,t8⟩
 refine FW.inLoop ?_
 by_cases hlt:i < n
 ·have hd1:=natlt hlt;have hx:=hidx i hlt;simp only[Int.toNat_natCast]at hx;rw[rowA_get hlt,zCd,calA_cells]at hx;obtain⟨g1,g2⟩:=hg i hlt;have hc:=yChk1_pur g1 (by omega);have hbb:(0<=(i:Int)/\(i:Int) < (n:Int)):=⟨by omega,by omega⟩;have hi1:=zAl (n:=(i:Int)+1) (by omega) (by omega);obtain⟨c1,c2,c3⟩:=(zDy (g i)).cell
  generalize calA (g i)=C at *
  refine goN ?_;simp only[push_cast,seval,↓kw2,t0,t1,t7,t8,hd1,hx,c1,c2,c3]
  first
   | refine⟨hbb,AC.pur hc ?_⟩
   | refine⟨⟨hbb,rfl⟩,AC.pur hc ?_⟩
  refine goN ?_;simp only[push_cast,seval,↓kw2,t8,hi1];exact ih (m - 1) (by omega) _ _ ⟨i+1,by omega,rfl,t0,t1,t7,rfl⟩
 ·have hd1:=natge hlt;refine goN ?_;simp only[push_cast,seval,↓kw2,t7,t8,hd1];exact⟨_,rfl,hK⟩
theorem e206:Ent zP 206 Tryz.f206 [] 2:=.mk Tryz.func206 rfl
theorem hasY{n:Nat}{g:Nat->List Slt}(hg:okG n g)(hn:n<=2^20){H:List AO}{K:AV->List AO->Prop}(hK:K (B false) H):AC zP GG 206 [.isl (rowA n g),.fn 204 [] []] H K:=by
 refine goE e206 TOk.nil 0 ?_;simp only[push_cast,seval,↓kw2];refine idxY hg hn ?_;refine goN ?_;simp only[push_cast,seval,↓kw2];exact⟨_,rfl,hK⟩
theorem e146:Ent zP 146 Tryz.f146 [] 1:=.mk Tryz.func146 rfl
theorem yChk_pur{a b c:Int}(hd:okD a b c){n:Nat}(hn:(n:Int)=a*b*c){g h:Nat->List Slt}(hg:okG n g)(hh:okG (3*n) h):Pur zP GG 146 [ydA a b c n g h] (I 0):=by
 have hm:=many_pur a b c;have hk:=chk_ok.2 hd;have hv:zAf a b c=a*b*c:=by rw[zAf,if_pos hd]
 rw[hk,hv,<- hn]at hm;obtain⟨q1,q2,q3,q4⟩:=zBx hd;have hn1:1<=a*b*c:=zFp hd;have h3:IntKind.i64.wrap (3*(n:Int))=((3*n:Nat):Int):=by rw[zAl (by omega) (by omega)]; omega
 have p1:=zFa n g;have p2:=zFa (3*n) h;have s1:IsSl (.isl (rowA n g)) (rowA n g):=.inl rfl;have s2:IsSl (.isl (rowA (3*n) h)) (rowA (3*n) h):=.inl rfl;obtain⟨k1,k2,k3⟩:=s1.cell;obtain⟨j1,j2,j3⟩:=s2.cell;have l1:=s1.len un100;have l2:=s2.len un100;rw[zCd]at l1 l2;have y1:=fun {H:List AO} {K:AV->List AO->Prop} (hK:K (B false) H)=>hasY hg (by omega) hK
 have y2:=fun {H:List AO} {K:AV->List AO->Prop} (hK:K (B false) H)=>hasY hh (by omega) hK
 have d1:(decide ((n:Int)=(n:Int)))=true:=zT rfl;have d2:(decide (((3*n:Nat):Int)=((3*n:Nat):Int)))=true:=zT rfl;unfold ydA
 generalize AV.isl (rowA n g)=N at *
 generalize AV.isl (rowA (3*n) h)=L at *
 refine goQ e146 TOk.nil 0 ?_ (by simp[AV.purL,AV.pur,p1,p2]);simp only[push_cast,seval,↓kw2,k1,k2,k3,j1,j2,j3];refine AC.pur hm ?_;refine goN ?_;simp only[push_cast,seval,↓kw2,k1,k2,k3,j1,j2,j3,l1,l2,h3,d1,d2];refine y1 ?_;refine goN ?_;simp only[push_cast,seval,↓kw2,k1,k2,k3,j1,j2,j3,l1,l2,h3,d1,d2];refine y2 ?_;refine goN ?_;simp only[push_cast,seval,↓kw2];exact⟨_,rfl,zAa rfl rfl⟩
theorem e212:Ent zP 212 Tryz.f212 [] 1:=.mk Tryz.func212 rfl
theorem cloneY_ac{n:Nat}{g:Nat->List Slt}(h0:0 < n)(hn:n<=2^16){H:List AO}{K:AV->List AO->Prop}(hK:∀ X id,H.length<=id->(H++X)[id]?=some (.arr 1 (rowA n g))->K (.sl id 0 n n) (H++X)):AC zP GG 212 [.isl (rowA n g)] H K:=by
 obtain⟨C,happ,hC⟩:=aAppZK (P:=zP) un100 un100 ze218 rfl by218 (H:=H++[AO.arr 1 []]) (l:=rowA n g) rowA_cells (by rw[zCd]; exact h0);rw[zCd]at happ hC;have hL:=zCd n g
 generalize rowA n g=L at *
 refine goE e212 TOk.nil 0 ?_;simp only[push_cast,seval,↓kw2,zAn,aEqS,zDd,happ];refine⟨hC (by omega) (by omega),_,rfl,?_⟩;have:=hK ([AO.arr 1 []]++[AO.arr 1 L]) (H++[AO.arr 1 []]).length (by simp) (by
  rw[<- List.append_assoc,zAd]; rfl)
 simpa using this
theorem cloneS_same{l:List Slt}(hl:l.length<=4096):Pur zP GG 210 [calA l] (calA l):=cloneS_pur (zDy l) (by omega) (zAi Slt.av _ (fun _=>rfl))
theorem e148:Ent zP 148 Tryz.f148 [] 1:=.mk Tryz.func148 rfl
theorem yTwin_ac{a b c:Int}{n m:Nat}{g h:Nat->List Slt}(n0:0 < n)(hn:n<=2^16)(m0:0 < m)(hm:m<=2^16)(hg:okG n g)(hh:okG m h){H:List AO}{K:AV->List AO->Prop}
  (hK:∀ id1 id2 H',H.length<=id1->H.length<=id2->id1≠id2->H'[id1]?=some (.arr 1 (rowA n g))->H'[id2]?=some (.arr 1 (rowA m h))->(∀ j,j < H.length->H'[j]?=H[j]?)->K (YA a b c (.sl id1 0 n n) (.sl id2 0 m m)) H') :
  AC zP GG 148 [YA a b c (.isl (rowA n g)) (.isl (rowA m h))] H K:=by
 have c1:=fun {H:List AO} {K:AV->List AO->Prop} hK=>cloneY_ac (g:=g) n0 hn (H:=H) (K:=K) hK
 have c2:=fun {H:List AO} {K:AV->List AO->Prop} hK=>cloneY_ac (g:=h) m0 hm (H:=H) (K:=K) hK
 obtain⟨k1,k2,k3⟩:=zBs (rowA n g);obtain⟨j1,j2,j3⟩:=zBs (rowA m h)
 generalize AV.isl (rowA n g)=N at *
 generalize AV.isl (rowA m h)=L at *
 refine goE e148 TOk.nil 1 ?_;simp only[push_cast,seval,↓kw2,zAd,getA,zAe,setA,zAb,zCu,k1,k2,k3,j1,j2,j3]
 let Z:AO:=.cells [I 0,I 0,I 0,.c (.slice none 0 0),.c (.slice none 0 0)]
 let P2:AO:=.arr 1 [.ptr H.length 3,.ptr H.length 4]
 have e0:∀ A X,((H++[A,Z,P2])++X)[H.length]?=some A:=fun A X=>by rw[List.append_assoc,zAd]; rfl
 have e1:∀ A X,((H++[A,Z,P2])++X)[H.length+1]?=some Z:=fun A X=>by rw[List.append_assoc,getA]; rfl
 have e2:∀ A X,((H++[A,Z,P2])++X)[H.length+2]?=some P2:=fun A X=>by rw[List.append_assoc,getA]; rfl
 have e3:∀ A X j,j < H.length->((H++[A,Z,P2])++X)[j]?=H[j]?:=fun A X j hj=>by rw[List.append_assoc,zL hj]
 refine c1 ?_
 intro X id hid0 hid
 simp only[List.length_append,List.length_cons,List.length_nil]at hid0;have f0:=e0 (.cells [I a,I b,I c,N,L]) X;have f1:=e1 (.cells [I a,I b,I c,N,L]) X;have f2:=e2 (.cells [I a,I b,I c,N,L]) X;have f3:=e3 (.cells [I a,I b,I c,N,L]) X;simp only[Z,P2]at f0 f1 f2 f3
 generalize (H++[AO.cells [I a,I b,I c,N,L],AO.cells [I 0,I 0,I 0,.c (.slice none 0 0),.c (.slice none 0 0)],AO.arr 1 [.ptr H.length 3,.ptr H.length 4]])++X=H1 at hid f0 f1 f2 f3 ⊢
 have s0:=zS (v:=AO.cells [I a,I b,I c,.sl id 0 n n,L]) (zAc f0);have s1:∀ A,(H1.set H.length A)[H.length+1]?=_:=fun A=>(zQ (by omega)).trans f1
 have s2:∀ A,(H1.set H.length A)[H.length+2]?=_:=fun A=>(zQ (by omega)).trans f2
 have s3:∀ A j,j < H.length->(H1.set H.length A)[j]?=H[j]?:=fun A j hj=>(zQ (by omega)).trans (f3 j hj)
 have sid:∀ A,(H1.set H.length A)[id]?=_:=fun A=>(zQ (by omega)).trans hid
 refine goN ?_;simp only[push_cast,seval,↓kw2,zAd,getA,zAe,setA,zAb,zCu,k1,k2,k3,j1,j2,j3,f0,f1,f2,s0,s1,s2];have s1':=s1 (.cells [I a,I b,I c,.sl id 0 n n,L]);have s2':=s2 (.cells [I a,I b,I c,.sl id 0 n n,L]);have s3':=s3 (.cells [I a,I b,I c,.sl id 0 n n,L]);have sid':=sid (.cells [I a,I b,I c,.sl id 0 n n,L]);clear s1 s2 s3 sid f0 f1 f2 f3 hid
 generalize H1.set H.length (AO.cells [I a,I b,I c,.sl id 0 n n,L])=H2 at s0 s1' s2' s3' sid' ⊢
 have hro:∀ i,i < n->(rowA n g).getD i .un=calA (g i):=fun i hi=>rowA_get hi
 have hgl:∀ i,i < n->(g i).length<=4096:=fun i hi=>by have:=(hg i hi).2; omega
 have hrl:=zCd n g;refine FW.loopInv (fun k ts H'=>∃ i:Nat,i+k=n/\H'=H2/\ts 1=.ptr H.length 0/\ts 2=.ptr (H.length+1) 0/\ts 4=.ptr H.length 3/\ts 8=.sl (H.length+2) 0 2 2/\ts 9=I 2/\ts 10=I 0/\ts 23=I (n:Int)/\ts 24=I (i:Int)) n
  ⟨0,by omega,rfl,rfl,rfl,rfl,rfl,rfl,rfl,rfl,rfl⟩ ?_
 rintro k ih ts H' ⟨i,hi,rfl,t1,t2,t4,t8,t9,t10,t23,t24⟩
 refine FW.inLoop ?_
 by_cases hlt:i < n
 ·have hd1:=natlt hlt;have hgy:=hro i hlt;have hcp:=cloneS_same (hgl i hlt);obtain⟨y1,y2,y3⟩:=(zDy (g i)).cell;have hset:=set_getD (d:=AV.un) (by rw[hrl]; exact hlt) hgy;have hset2:=set_id sid';have hi1:=zAl (n:=(i:Int)+1) (by omega) (by omega);have hC:(∃ L',calA (g i)=.isl L')\/calA (g i)=.c (.slice none 0 0):=by
   unfold calA
   split
   ·exact .inr rfl
   ·exact .inl ⟨_,rfl⟩
  generalize calA (g i)=C at *
  rcases hC with ⟨L',rfl⟩ | rfl
  all_goals
   refine goN ?_;simp only[push_cast,seval,↓kw2,zCu,t1,t2,t4,t8,t9,t10,t23,t24,hd1,s0,s1',s2',sid',hgy,y1,y2,y3,Int.toNat_natCast,hlt,hrl];refine⟨⟨by omega,by omega⟩,_,toVQ hcp,?_⟩;simp only[push_cast,seval,↓kw2,zCu,t1,t2,t4,t8,t9,t10,t23,t24,y1,y2,y3,hset,hset2,hi1];refine⟨⟨by omega,by omega⟩,?_⟩;exact ih (k - 1) (by omega) _ _ ⟨i+1,by omega,rfl,t1,t2,t4,t8,t9,t10,t23,rfl⟩
 ·have hd1:=natge hlt;clear ih;refine goW TOk.nil [] 1 ?_;simp only[push_cast,seval,↓kw2,zCu,t1,t2,t4,t8,t9,t10,t23,t24,hd1,s0,s1',s2',k1,k2,k3,j1,j2,j3];refine c2 ?_
  intro X2 id2 hid20 hid2
  have hap:∀ j o,H'[j]?=some o->(H'++X2)[j]?=some o:=fun j o h=>(zL (zAc h)).trans h
  have f0:=hap _ _ s0;have f1:=hap _ _ s1';have f2:=hap _ _ s2';have fid:=hap _ _ sid';have f3:∀ j,j < H.length->(H'++X2)[j]?=H[j]?:=fun j hj=>by
   rw[zL (by have:=zAc s0; omega)];exact s3' j hj
  have hidl:=zAc sid';have h2l:=zAc s2'
  generalize H'++X2=H3 at f0 f1 f2 fid f3 hid2 ⊢
  clear s0 s1' s2' s3' sid';have s0:=zS (v:=AO.cells [I a,I b,I c,.sl id 0 n n,.sl id2 0 m m]) (zAc f0);have s1':(H3.set H.length (.cells [I a,I b,I c,.sl id 0 n n,.sl id2 0 m m]))[H.length+1]?=_:=(zQ (by omega)).trans f1;have s2':(H3.set H.length (.cells [I a,I b,I c,.sl id 0 n n,.sl id2 0 m m]))[H.length+2]?=_:=(zQ (by omega)).trans f2;have s3':∀ j,j < H.length->(H3.set H.length (.cells [I a,I b,I c,.sl id 0 n n,.sl id2 0 m m]))[j]?=H[j]?:=fun j hj=>(zQ (by omega)).trans (f3 j hj)
  have sid':(H3.set H.length (.cells [I a,I b,I c,.sl id 0 n n,.sl id2 0 m m]))[id]?=_:=(zQ (by omega)).trans fid;have sid2:(H3.set H.length (.cells [I a,I b,I c,.sl id 0 n n,.sl id2 0 m m]))[id2]?=_:=(zQ (by omega)).trans hid2;refine goN ?_;simp only[push_cast,seval,↓kw2,zCu,t1,t2,t4,t8,t9,t10,t23,t24,f0,f1,f2,s0,s1',s2',k1,k2,k3,j1,j2,j3];clear f0 f1 f2 f3 fid hid2
  generalize H3.set H.length (.cells [I a,I b,I c,.sl id 0 n n,.sl id2 0 m m])=H4 at s0 s1' s2' s3' sid' sid2 ⊢
  clear t4 t10 t23 t24 hro hgl hrl;have hro:∀ i,i < m->(rowA m h).getD i .un=calA (h i):=fun i hi=>rowA_get hi
  have hgl:∀ i,i < m->(h i).length<=4096:=fun i hi=>by have:=(hh i hi).2; omega
  have hrl:=zCd m h;refine FW.loopInv (fun k ts H'=>∃ i:Nat,i+k=m/\H'=H4/\ts 1=.ptr H.length 0/\ts 2=.ptr (H.length+1) 0/\ts 4=.ptr H.length 4/\ts 8=.sl (H.length+2) 0 2 2/\ts 9=I 2/\ts 10=I 1/\ts 23=I (m:Int)/\ts 24=I (i:Int)) m
   ⟨0,by omega,rfl,t1,t2,rfl,t8,t9,rfl,rfl,rfl⟩ ?_
  clear t1 t2 t8 t9
  rintro k ih ts H5 ⟨i,hi,rfl,t1,t2,t4,t8,t9,t10,t23,t24⟩
  refine FW.inLoop ?_
  by_cases hlt:i < m
  ·have hd1:=natlt hlt;have hgy:=hro i hlt;have hcp:=cloneS_same (hgl i hlt);obtain⟨y1,y2,y3⟩:=(zDy (h i)).cell;have hset:=set_getD (d:=AV.un) (by rw[hrl]; exact hlt) hgy;have hset2:=set_id sid2;have hi1:=zAl (n:=(i:Int)+1) (by omega) (by omega);have hC:(∃ L',calA (h i)=.isl L')\/calA (h i)=.c (.slice none 0 0):=by
    unfold calA
    split
    ·exact .inr rfl
    ·exact .inl ⟨_,rfl⟩
   generalize calA (h i)=C at *
   rcases hC with ⟨L',rfl⟩ | rfl
   all_goals
    refine goN ?_;simp only[push_cast,seval,↓kw2,zCu,t1,t2,t4,t8,t9,t10,t23,t24,hd1,s0,s1',s2',sid2,hgy,y1,y2,y3,Int.toNat_natCast,hlt,hrl];refine⟨⟨by omega,by omega⟩,_,toVQ hcp,?_⟩;simp only[push_cast,seval,↓kw2,zCu,t1,t2,t4,t8,t9,t10,t23,t24,y1,y2,y3,hset,hset2,hi1];refine⟨⟨by omega,by omega⟩,?_⟩;exact ih (k - 1) (by omega) _ _ ⟨i+1,by omega,rfl,t1,t2,t4,t8,t9,t10,t23,rfl⟩
  ·have hd1:=natge hlt;clear ih;refine goW TOk.nil [] 1 ?_;simp only[push_cast,seval,↓kw2,zCu,t1,t2,t4,t8,t9,t10,t23,t24,hd1,s0,s1',s2',zAe];have hL:=zS (v:=AO.cells [I a,I b,I c,.sl id 0 n n,.sl id2 0 m m]) (zAc s1');rw[hL];exact⟨_,rfl,hK id id2 _ (by omega) (by omega) (by omega) ((zQ (by omega)).trans sid') ((zQ (by omega)).trans sid2) fun j hj=>(zQ (by omega)).trans (s3' j hj)⟩
theorem e149:Ent zP 149 Tryz.f149 [] 2:=.mk Tryz.func149 rfl
theorem each_ac{a b c:Int}{n m:Nat}(hn:n<=2^16)(hm:m<=2^16){ns ls:AV}(kn:ns.isCell=true/\ns.isEl=true/\ns.cells=[ns])(kl:ls.isCell=true/\ls.isEl=true/\ls.cells=[ls]){q:Nat}{pn pl:Nat->AV}{gf:FuncId}{caps:List AV}(St:Bool->Nat->List AO->Prop)
  (hq:∀ lk i H,St lk i H->H[q]?=some (.cells [I a,I b,I c,ns,ls])) (l1:aLen zP 100 ns=some (n:Int)) (l2:aLen zP 100 ls=some (m:Int))
  (hin:∀ i H,St false i H->i < n->∃ C,zAk zP 100 ns (i:Int) H=some (C,pn i)/\C)
  (hil:∀ i H,St true i H->i < m->∃ C,zAk zP 100 ls (i:Int) H=some (C,pl i)/\C)
  (hpn:∀ i H K,St false i H->i < n->(∀ v H',St false (i+1) H'->K v H')->AC zP GG gf (B false::I (i:Int)::pn i::caps) H K)
  (hpl:∀ i H K,St true i H->i < m->(∀ v H',St true (i+1) H'->K v H')->AC zP GG gf (B true::I (i:Int)::pl i::caps) H K)
  (hsw:∀ H,St false n H->St true 0 H) {H:List AO} {K:AV->List AO->Prop} (h0:St false 0 H) (hK:∀ H',St true m H'->K (.tup []) H'):AC zP GG 149 [.ptr q 0,.fn gf [] caps] H K:=by
 obtain⟨k1,k2,k3⟩:=kn;obtain⟨j1,j2,j3⟩:=kl;have hq0:=hq _ _ _ h0;refine goE e149 TOk.nil 0 ?_;simp only[push_cast,seval,↓kw2,zCu,hq0,k1,k2,k3,j1,j2,j3,l1,l2];refine FW.loopInv (fun k ts H'=>∃ i:Nat,i+k=n/\St false i H'/\ts 0=.ptr q 0/\ts 1=.fn gf [] caps/\ts 10=I (n:Int)/\ts 11=I (i:Int)) n
  ⟨0,by omega,h0,rfl,rfl,rfl,rfl⟩ ?_
 clear hq0 h0
 rintro k ih ts H1 ⟨i,hi,hst,t0,t1,t10,t11⟩
 refine FW.inLoop ?_;have hq0:=hq _ _ _ hst
 by_cases hlt:i < n
 ·have hd1:=natlt hlt;obtain⟨C,hix,hC⟩:=hin i _ hst hlt;have hi1:=zAl (n:=(i:Int)+1) (by omega) (by omega);refine goN ?_;simp only[push_cast,seval,↓kw2,zCu,hq0,k1,k2,k3,j1,j2,j3,t0,t1,t10,t11,hd1,hix];refine⟨hC,?_⟩;refine hpn i _ _ hst hlt ?_
  intro v H2 hst2
  refine goN ?_;simp only[push_cast,seval,↓kw2,t11,hi1];exact ih (k - 1) (by omega) _ _ ⟨i+1,by omega,hst2,t0,t1,t10,rfl⟩
 ·have hd1:=natge hlt;have hin':i=n:=by omega
  subst hin';have hst':=hsw _ hst;clear ih;refine goN ?_;simp only[push_cast,seval,↓kw2,zCu,hq0,k1,k2,k3,j1,j2,j3,t0,t1,t10,t11,hd1,l2];refine FW.loopInv (fun k ts H'=>∃ i:Nat,i+k=m/\St true i H'/\ts 0=.ptr q 0/\ts 1=.fn gf [] caps/\ts 28=I (m:Int)/\ts 29=I (i:Int)) m
   ⟨0,by omega,hst',t0,t1,rfl,rfl⟩ ?_
  clear hst hst' hq0 t0 t1 t10 t11 hd1 hi
  rintro k ih ts H1 ⟨i,hi,hst,t0,t1,t28,t29⟩
  refine FW.inLoop ?_;have hq0:=hq _ _ _ hst
  by_cases hlt:i < m
  ·have hd1:=natlt hlt;obtain⟨C,hix,hC⟩:=hil i _ hst hlt;have hi1:=zAl (n:=(i:Int)+1) (by omega) (by omega);refine goN ?_;simp only[push_cast,seval,↓kw2,zCu,hq0,k1,k2,k3,j1,j2,j3,t0,t1,t28,t29,hd1,hix];refine⟨hC,?_⟩;refine hpl i _ _ hst hlt ?_
   intro v H2 hst2
   refine goN ?_;simp only[push_cast,seval,↓kw2,t29,hi1];exact ih (k - 1) (by omega) _ _ ⟨i+1,by omega,hst2,t0,t1,t28,rfl⟩
  ·have hd1:=natge hlt;have hin':i=m:=by omega
   subst hin';refine goN ?_;simp only[push_cast,seval,↓kw2,t28,t29,hd1];exact⟨_,rfl,hK _ hst⟩
def stC(inn:Nat->Bool)(x:Slt)(g:Nat->List Slt)(i:Nat):Nat->List Slt:=fun j=>if j < i then pushC (inn j) x (g j) else g j
theorem row_set{n:Nat}{g h:Nat->List Slt}{i:Nat}(hi:i < n)(hne:∀ j,j≠i->g j=h j):(rowA n g).set i (calA (h i))=rowA n h:=by
 refine List.ext_getElem (by simp[rowA]) fun j h1 h2=>?_
 simp only[List.length_set,zCd]at h1;rw[List.getElem_set]
 split
 ·rename_i e;subst e;simp[rowA]
 ·rename_i e;simp only[rowA,List.getElem_map,List.getElem_range];rw[hne j (fun h=>e h.symm)]
theorem stC_at(inn:Nat->Bool)(x:Slt)(g:Nat->List Slt)(i:Nat):stC inn x g i i=g i:=by simp[stC]
theorem stC_in{inn:Nat->Bool}{i:Nat}(h:inn i=true)(x:Slt)(g:Nat->List Slt):stC inn x g (i+1) i=insC x (g i):=by simp[stC,pushC,h]
theorem stC_ne{inn:Nat->Bool}{i j:Nat}(h:j≠i)(x:Slt)(g:Nat->List Slt):stC inn x g i j=stC inn x g (i+1) j:=by
 unfold stC
 by_cases h1:j < i
 ·rw[if_pos h1,if_pos (by omega)]
 ·rw[if_neg h1,if_neg (by omega)]
theorem stC_out{inn:Nat->Bool}{i:Nat}(h:inn i=false)(x:Slt)(g:Nat->List Slt):stC inn x g i=stC inn x g (i+1):=by
 funext j
 by_cases hj:j=i
 ·subst hj;simp[stC,pushC,h]
 ·exact stC_ne hj x g
theorem e150:Ent zP 150 Tryz.f150 [] 9:=.mk Tryz.func150 rfl
theorem put1_ac{lk:Bool}{N n i:Nat}(hN:N<=4096){ms ls:AV}(km:ms.isCell=true/\ms.isEl=true/\ms.cells=[ms])(kl:ls.isCell=true/\ls.isEl=true/\ls.cells=[ls]){x:Slt}(hx:x.may){inn:Nat->Bool}{g:Nat->List Slt}(hi:i < n)(hg:calO 0 (g i))(hgl:(g i).length < 4096)(hf:inn i=true->zFm x.fr x.till (g i)=true)
  (hhas:Pur zP GG 151 [I (if lk=true then 3*(N:Int) else (N:Int)),if lk=true then ls else ms,I (i:Int)] (.tup [B (inn i),I 0]))
  {H:List AO} {qm qn ql qs qt qy id:Nat} (h1:H[qm]?=some (.cells [ms])) (h2:H[qn]?=some (.cells [I (N:Int)])) (h3:H[ql]?=some (.cells [ls])) (h4:H[qs]?=some (.cells [I x.fr,I x.till,I x.own])) (h5:H[qt]?=some (.cells [B false])) (h6:H[qy]?=some (.cells [B false])) (h7:H[id]?=some (.arr 1 (rowA n (stC inn x g i))))
  {K:AV->List AO->Prop} (hK:∀ v H',H'[id]?=some (.arr 1 (rowA n (stC inn x g (i+1))))->(∀ j,j≠id->j < H.length->H'[j]?=H[j]?)->H'.length=H.length->K v H') :
  AC zP GG 150 [B lk,I (i:Int),.eptr id i 0,.ptr qm 0,.ptr qn 0,.ptr ql 0,.ptr qs 0,.ptr qt 0,.ptr qy 0] H K:=by
 obtain⟨k1,k2,k3⟩:=km;obtain⟨j1,j2,j3⟩:=kl;have h33:IntKind.i64.wrap (3*(N:Int))=3*(N:Int):=zAl (by omega) (by omega);have hro:(rowA n (stC inn x g i)).getD i .un=calA (g i):=by rw[rowA_get hi,stC_at]
 have hrl:=zCd n (stC inn x g i);obtain⟨y1,y2,y3⟩:=(zDy (g i)).cell;cases hin:inn i
 ·rw[hin]at hhas;rw[stC_out hin]at h7;cases lk
  all_goals
   simp only[if_true,Bool.false_eq_true,if_false]at hhas;refine goE e150 TOk.nil 0 ?_;simp only[push_cast,seval,↓kw2,h1,h2,h3,h4,h5,h6,k1,k2,k3,j1,j2,j3,h33];refine AC.pur hhas ?_;refine goN ?_;simp only[push_cast,seval,↓kw2];exact⟨_,rfl,hK _ _ h7 (fun j _ _=>rfl) rfl⟩
 ·rw[hin]at hhas;have hP:=cPut_pur hg hgl hx (hf hin);obtain⟨z1,z2,z3⟩:=(zDy (insC x (g i))).cell;have hrs:(rowA n (stC inn x g i)).set i (calA (insC x (g i)))=rowA n (stC inn x g (i+1)):=by
   rw[<- stC_in hin];exact row_set hi fun j hj=>stC_ne hj x g
  have hs5:=set_id h5;have hs6:=set_id h6;have hC:(∃ L',calA (g i)=.isl L')\/calA (g i)=.c (.slice none 0 0):=by
   unfold calA
   split
   ·exact .inr rfl
   ·exact .inl ⟨_,rfl⟩
  simp only[Slt.av]at hP
  generalize calA (insC x (g i))=R at *
  generalize calA (g i)=C at *
  have hfin:=zS (v:=AO.arr 1 (rowA n (stC inn x g (i+1)))) (zAc h7);have hoth:∀ j,j≠id->j < H.length->(H.set id (AO.arr 1 (rowA n (stC inn x g (i+1)))))[j]?=H[j]?:=fun j hj _=>zQ fun e=>hj e.symm
  rcases hC with ⟨L',rfl⟩ | rfl
  all_goals
   cases lk
   all_goals
    simp only[if_true,Bool.false_eq_true,if_false]at hhas;refine goE e150 TOk.nil 0 ?_;simp only[push_cast,seval,↓kw2,h1,h2,h3,h4,h5,h6,h7,k1,k2,k3,j1,j2,j3,h33];refine AC.pur hhas ?_;refine goN ?_;simp only[push_cast,seval,↓kw2,zCu,h4,h5,h6,h7,hro,hrl,hi,y1,y2,y3];refine⟨_,toVQ hP,?_⟩;simp only[push_cast,seval,↓kw2,zCu,h4,h5,h6,h7,hro,hrl,hi,hs5,hs6,y1,y2,y3,z1,z2,z3,hrs];exact⟨_,rfl,hK _ _ hfin hoth (List.length_set ..)⟩
end Go.Ab.Pd
