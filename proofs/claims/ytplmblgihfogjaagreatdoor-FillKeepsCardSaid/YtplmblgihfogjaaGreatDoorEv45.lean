/- A text of this claim. -/
import Derived.Test.YtplmblgihfogjaaGreatDoorEv42
import Derived.Test.YtplmblgihfogjaaGreatDoorEv44
set_option maxHeartbeats 40000000
set_option maxRecDepth 400000
set_option linter.all false
namespace Go.Ab.Pd
open Go.Proofs
open Go.Proofs.Tryz renaming prog->zP
theorem stC_0(inn:Nat->Bool)(x:Slt)(g:Nat->List Slt):stC inn x g 0=g:=by funext j; simp[stC]
theorem stC_n{n:Nat}(inn:Nat->Bool)(x:Slt)(g:Nat->List Slt):rowA n (stC inn x g n)=rowA n fun i=>pushC (inn i) x (g i):=rowA_cong fun i hi=>by simp[stC,hi]
theorem idx_sl{id n i:Nat}{es:List AV}(hl:es.length=n)(hi:i < n){H:List AO}(h:H[id]?=some (.arr 1 es)):∃ C,zAk zP 100 (.sl id 0 n n) (i:Int) H=some (C,.eptr id i 0)/\C:=by
 unfold zAk;simp only[un100,sz218,h,hl];simp;exact⟨i < n,Iff.rfl,hi⟩
def PutB(a b c:Int)(n id1 id2:Nat)(M L:AV)(x:Slt)(H:List AO):Prop:=H[0]?=some (.cells [I a,I b,I c,.sl id1 0 n n,.sl id2 0 (3*n) (3*n)])/\H[1]?=some (.cells [M])/\H[2]?=some (.cells [L])/\H[4]?=some (.cells [I 0,I 0,I 0,.c (.slice none 0 0),.c (.slice none 0 0)]) /\
 H[5]?=some (.cells [I (n:Int)])/\H[6]?=some (.cells [I x.fr,I x.till,I x.own])/\H[7]?=some (.cells [B false])/\H[8]?=some (.cells [B false])
theorem PutB.of{a b c:Int}{n id1 id2:Nat}{M L:AV}{x:Slt}{H H':List AO}(h:PutB a b c n id1 id2 M L x H)(hs:∀ j,j < 9->H'[j]?=H[j]?):PutB a b c n id1 id2 M L x H':=by
 obtain⟨h0,h1,h2,h4,h5,h6,h7,h8⟩:=h;exact⟨(hs 0 (by omega)).trans h0,(hs 1 (by omega)).trans h1,(hs 2 (by omega)).trans h2,(hs 4 (by omega)).trans h4,(hs 5 (by omega)).trans h5,(hs 6 (by omega)).trans h6,(hs 7 (by omega)).trans h7,(hs 8 (by omega)).trans h8⟩
theorem e85:Ent zP 85 Tryz.f85 [] 5:=.mk Tryz.func85 rfl
theorem yPut_pur{a b c:Int}(hd:okD a b c){n:Nat}(hn:(n:Int)=a*b*c){g h:Nat->List Slt}(hg:okG n g)(hh:okG (3*n) h){x:Slt}(hx:x.may){xs ys:List Int}(ux:∀ w∈xs,inU w)(uy:∀ w∈ys,inU w)(c1:schk (n:Int) xs=0)(c2:schk (3*(n:Int)) ys=0)
  (fg:∀ i,i < n->zAy xs i=true->zFm x.fr x.till (g i)=true) (fh:∀ i,i < 3*n->zAy ys i=true->zFm x.fr x.till (h i)=true) :
  Pur zP GG 85 [ydA a b c n g h,I x.own,.isl (xs.map U),.isl (ys.map U),.agg [I x.fr,I x.till]] (.tup [ydA a b c n (fun i=>pushC (zAy xs i) x (g i)) (fun i=>pushC (zAy ys i) x (h i)),I 0]):=by
 obtain⟨q1,q2,q3,q4⟩:=zBx hd;have hn1:1<=a*b*c:=zFp hd;have hC:=yChk_pur hd hn hg hh;have hP:=cPut_pur (l:=[]) (x:=x) trivial (by simp) hx rfl;have s1:=check_of c1;have s2:=check_of c2;have h33:IntKind.i64.wrap (3*(n:Int))=3*(n:Int):=zAl (by omega) (by omega);have py:=ydA_pur a b c n g h;have hh1:∀ i,i < n->Pur zP GG 151 [I (n:Int),.isl (xs.map U),I (i:Int)] (.tup [B (zAy xs i),I 0]):=fun i hi=>by
  have:=has_is ux c1 (i:Int);unfold inS at this;rw[zT (by omega),Bool.true_and,Int.toNat_natCast]at this;exact this
 have hh2:∀ i,i < 3*n->Pur zP GG 151 [I (3*(n:Int)),.isl (ys.map U),I (i:Int)] (.tup [B (zAy ys i),I 0]):=fun i hi=>by
  have:=has_is uy c2 (i:Int);unfold inS at this;rw[zT (by omega),Bool.true_and,Int.toNat_natCast]at this;exact this
 have qx:IsSet (.isl (xs.map U)):=.isl ux;have qy:IsSet (.isl (ys.map U)):=.isl uy;have px:=qx.pur;have pyy:=qy.pur;obtain⟨kx1,kx2,kx3⟩:=qx.cell;obtain⟨ky1,ky2,ky3⟩:=qy.cell;have l1:=(show IsSl (.isl (rowA n g)) (rowA n g) from .inl rfl).len un100;rw[zCd]at l1;obtain⟨z1,z2,z3⟩:=(zDy (insC x [])).cell;have hT:=fun {H:List AO} {K:AV->List AO->Prop} hK=>yTwin_ac (a:=a) (b:=b) (c:=c) (n:=n) (m:=3*n) (g:=g) (h:=h) (by omega) (by omega) (by omega) (by omega) hg hh (H:=H) (K:=K) hK
 obtain⟨k1,k2,k3⟩:=zBs (rowA n g);obtain⟨j1,j2,j3⟩:=zBs (rowA (3*n) h);have p1:=zFa n g;have p2:=zFa (3*n) h;simp only[Slt.av]at hP;unfold ydA at hC py ⊢
 generalize calA (insC x [])=RR at *
 generalize hM:AV.isl (xs.map U)=M at *
 generalize hL:AV.isl (ys.map U)=L at *
 generalize AV.isl (rowA n g)=GN at *
 generalize AV.isl (rowA (3*n) h)=GL at *
 rw[calA_nil rfl]at hP;refine goQ e85 TOk.nil 0 ?_ (by simp[AV.purL,AV.pur,px,pyy,p1,p2]);simp only[push_cast,seval,↓kw2,kx1,kx2,kx3,ky1,ky2,ky3,k1,k2,k3,j1,j2,j3];refine AC.pur hC ?_;refine goN ?_;simp only[push_cast,seval,↓kw2,kx1,kx2,kx3,ky1,ky2,ky3,k1,k2,k3,j1,j2,j3,l1,zAd,getA,zAe,setA,zAb];refine AC.pur hP ?_;refine goN ?_;simp only[push_cast,seval,↓kw2,kx1,kx2,kx3,ky1,ky2,ky3,k1,k2,k3,j1,j2,j3,l1,z1,z2,z3,zAd,getA,zAe,setA,zAb];refine AC.pur s1 ?_;refine goN ?_;simp only[push_cast,seval,↓kw2,kx1,kx2,kx3,ky1,ky2,ky3,k1,k2,k3,j1,j2,j3,l1,h33,zAd,getA,zAe,setA,zAb];refine AC.pur s2 ?_;refine goN ?_;simp only[push_cast,seval,↓kw2,kx1,kx2,kx3,ky1,ky2,ky3,k1,k2,k3,j1,j2,j3,l1,h33,zAd,getA,zAe,setA,zAb];refine hT ?_
 intro id1 id2 H1 hi1 hi2 h12 r1 r2 hold
 simp only[List.length_cons,List.length_nil]at hi1 hi2 hold;have b0:=hold 0 (by omega);have b1:=hold 1 (by omega);have b2:=hold 2 (by omega);have b4:=hold 4 (by omega);have b5:=hold 5 (by omega);have b6:=hold 6 (by omega);have b7:=hold 7 (by omega);have b8:=hold 8 (by omega);simp only[List.getElem?_cons_zero,List.getElem?_cons_succ]at b0 b1 b2 b4 b5 b6 b7 b8;have hPB:PutB a b c n id1 id2 M L x (H1.set 0 (.cells [I a,I b,I c,.sl id1 0 n n,.sl id2 0 (3*n) (3*n)])):=by
  have hne:∀ j,j≠0->(H1.set 0 (.cells [I a,I b,I c,.sl id1 0 n n,.sl id2 0 (3*n) (3*n)]))[j]?=H1[j]?:=fun j hj=>zQ fun e=>hj e.symm
  exact⟨zS (zAc b0),(hne 1 (by omega)).trans b1,(hne 2 (by omega)).trans b2,(hne 4 (by omega)).trans b4,(hne 5 (by omega)).trans b5,(hne 6 (by omega)).trans b6,(hne 7 (by omega)).trans b7,(hne 8 (by omega)).trans b8⟩
 have r1':(H1.set 0 (.cells [I a,I b,I c,.sl id1 0 n n,.sl id2 0 (3*n) (3*n)]))[id1]?=_:=(zQ (by omega)).trans r1;have r2':(H1.set 0 (.cells [I a,I b,I c,.sl id1 0 n n,.sl id2 0 (3*n) (3*n)]))[id2]?=_:=(zQ (by omega)).trans r2;refine goN ?_;simp only[push_cast,seval,↓kw2,b0];clear b0 b1 b2 b4 b5 b6 b7 b8 r1 r2 hold
 generalize H1.set 0 (.cells [I a,I b,I c,.sl id1 0 n n,.sl id2 0 (3*n) (3*n)])=H2 at hPB r1' r2' ⊢
 have lens:∀(id k:Nat),aLen zP 100 (.sl id 0 k k)=some (k:Int):=fun id k=>ls100 _ _ _ _
 refine each_ac (a:=a) (b:=b) (c:=c) (n:=n) (m:=3*n) (by omega) (by omega) (ns:=.sl id1 0 n n) (ls:=.sl id2 0 (3*n) (3*n)) ⟨rfl,rfl,rfl⟩ ⟨rfl,rfl,rfl⟩ (pn:=fun i=>.eptr id1 i 0) (pl:=fun i=>.eptr id2 i 0)
  (fun lk i H'=>PutB a b c n id1 id2 M L x H'/\H'[id1]?=some (.arr 1 (rowA n (if lk=true then stC (zAy xs) x g n else stC (zAy xs) x g i)))/\H'[id2]?=some (.arr 1 (rowA (3*n) (if lk=true then stC (zAy ys) x h i else h))))
  (fun lk i H' hs=>hs.1.1) (lens _ _) (lens _ _) (fun i H' hs hi=>idx_sl (zCd _ _) hi hs.2.1) (fun i H' hs hi=>idx_sl (zCd _ _) hi hs.2.2) ?_ ?_ ?_ ?_ ?_
 ·rintro i H' K ⟨hB,w1,w2⟩ hi hK
  obtain⟨o0,o1,o2,o4,o5,o6,o7,o8⟩:=hB;simp only[Bool.false_eq_true,if_false]at w1 w2;refine put1_ac (lk:=false) (N:=n) (n:=n) (by omega) ⟨kx1,kx2,kx3⟩ ⟨ky1,ky2,ky3⟩ hx hi (hg i hi).1 (by have:=(hg i hi).2; omega) (fg i hi) (hh1 i hi) o1 o5 o2 o6 o7 o8 w1 ?_
  intro v H3 u1 u2 u3
  have l8:=zAc o8;have l2:=zAc w2;refine hK v H3 ⟨PutB.of ⟨o0,o1,o2,o4,o5,o6,o7,o8⟩ fun j hj=>u2 j (by omega) (by omega),?_,?_⟩
  ·simp only[Bool.false_eq_true,if_false];exact u1
  ·simp only[Bool.false_eq_true,if_false];exact(u2 id2 (by omega) l2).trans w2
 ·rintro i H' K ⟨hB,w1,w2⟩ hi hK
  obtain⟨o0,o1,o2,o4,o5,o6,o7,o8⟩:=hB;simp only[if_true]at w1 w2;refine put1_ac (lk:=true) (N:=n) (n:=3*n) (by omega) ⟨kx1,kx2,kx3⟩ ⟨ky1,ky2,ky3⟩ hx hi (hh i hi).1 (by have:=(hh i hi).2; omega) (fh i hi) (hh2 i hi) o1 o5 o2 o6 o7 o8 w2 ?_
  intro v H3 u1 u2 u3
  have l8:=zAc o8;have l2:=zAc w1;refine hK v H3 ⟨PutB.of ⟨o0,o1,o2,o4,o5,o6,o7,o8⟩ fun j hj=>u2 j (by omega) (by omega),?_,?_⟩
  ·simp only[if_true];exact(u2 id1 (by omega) l2).trans w1
  ·simp only[if_true];exact u1
 ·rintro H' ⟨hB,w1,w2⟩
  refine⟨hB,?_,?_⟩
  ·simp only[Bool.false_eq_true,if_false]at w1;simp only[if_true];exact w1
  ·simp only[Bool.false_eq_true,if_false]at w2;simp only[if_true,stC_0];exact w2
 ·refine⟨hPB,?_,?_⟩
  ·simp only[Bool.false_eq_true,if_false,stC_0];exact r1'
  ·simp only[Bool.false_eq_true,if_false];exact r2'
 rintro H' ⟨hB,w1,w2⟩
 obtain⟨o0,o1,o2,o4,o5,o6,o7,o8⟩:=hB;simp only[if_true]at w1 w2;rw[stC_n]at w1 w2;refine goN ?_;simp only[push_cast,seval,↓kw2,o0,o1,o2,o4,o5,o6,o7,o8];rw[zS (zAc o4)];refine⟨_,rfl,4,tup2_frz ?_⟩;exact frz_yard ((zQ (by omega)).trans w1) ((zQ (by omega)).trans w2) (zCd _ _) (zCd _ _) (rowA_pur _ _) (rowA_pur _ _) (by omega) (by omega)
def thL(pr:Nat->Bool)(i:Nat):List Int:=((List.range i).filter pr).map fun(k:Nat)=>(k:Int)
theorem thL_0(pr:Nat->Bool):thL pr 0=[]:=rfl
theorem thL_in{pr:Nat->Bool}{i:Nat}(h:pr i=true):thL pr (i+1)=thL pr i++[(i:Int)]:=by simp[thL,List.range_succ,List.filter_append,h]
theorem thL_out{pr:Nat->Bool}{i:Nat}(h:pr i=false):thL pr (i+1)=thL pr i:=by simp[thL,List.range_succ,List.filter_append,h]
theorem thL_len(pr:Nat->Bool)(i:Nat):(thL pr i).length<=i:=by
 unfold thL;rw[zM];exact Nat.le_trans (List.length_filter_le _ _) (by simp)
theorem thL_mem{pr:Nat->Bool}{n i:Nat}:(i:Int)∈thL pr n ↔ i < n/\pr i=true:=by
 unfold thL;rw[List.mem_map]
 constructor
 ·rintro⟨k,hk,e⟩
  have:k=i:=by omega
  subst this;simpa using hk
 ·intro h
  exact⟨i,by simpa using h,rfl⟩
theorem thL_rng{pr:Nat->Bool}{n:Nat}:∀ k∈thL pr n,0<=k/\k < (n:Int):=fun k hk=>by
 unfold thL at hk;obtain⟨i,hi,rfl⟩:=List.mem_map.1 hk;have:=(List.mem_filter.1 hi).1;simp at this;omega
theorem e224:Ent zP 224 Tryz.f224 [3] 5:=.mk Tryz.func224 rfl
theorem those1_ac{lk:Bool}{i:Nat}{C:AV}(kC:C.isCell=true/\C.isEl=true/\C.cells=[C]){gf:FuncId}{caps:List AV}{H:List AO}{qf ql:Nat}{s0 s1:AV}{es:List Int}(h1:H[qf]?=some (.cells [.fn gf [] caps]))(h2:H[ql]?=some (.cells [s0,s1]))
  (hown:Own H (if lk=true then s1 else s0) (es.map IA)) (k0:s0.isCell=true/\s0.isEl=true/\s0.cells=[s0]) (k1:s1.isCell=true/\s1.isEl=true/\s1.cells=[s1]) (hes:es.length<=2^16) {pr:Bool} (hqo:zAw (if lk=true then s1 else s0)≠some ql)
  {K:AV->List AO->Prop} (hp:∀ K',K' (B pr) H->AC zP GG gf (C::caps) H K') (hK0:pr=false->∀ v,K v H)
  (hK1:pr=true->∀ v,K v ((apH H (if lk=true then s1 else s0) (es.map IA) (IA (i:Int))).set ql (.cells (if lk=true then [s0,.sl (H.length+1) 0 ((es.map IA).length+1) ((es.map IA).length+1)] else [.sl (H.length+1) 0 ((es.map IA).length+1) ((es.map IA).length+1),s1])))) :
  AC zP GG 224 [B lk,I (i:Int),.iptr [C] 0,.ptr qf 0,.ptr ql 0] H K:=by
 obtain⟨y1,y2,y3⟩:=kC;obtain⟨a1,a2,a3⟩:=k0;obtain⟨b1,b2,b3⟩:=k1;have hap:=aApp1 (P:=zP) un30 un30 ze3 rfl by3 hown (IA (i:Int));have hC:=apC_of (n:=(es.map IA).length) (by':=8) (by rw[zM]; omega) (by decide);have e2:∀ l,(H++l)[ql]?=_:=fun l=>(zL (zAc h2)).trans h2
 have a2':=(apH_get (es:=es.map IA) (v:=IA (i:Int)) (zAc h2) hqo).trans h2;cases lk
 all_goals
  simp only[if_true,Bool.false_eq_true,if_false]at hown hap hK1 a2';refine goE e224 TOk.nil 0 ?_;simp only[push_cast,seval,↓kw2,List.contains_cons,Bool.true_or,Bool.false_or,Bool.or_true];refine FW.drawI hmix (by kernel_rfl) ?_;simp only[push_cast,seval,↓kw2,symI_cons,symI_nil,symI_on,h1,zCu,y1,y2,y3];refine hp _ ?_;cases pr
  ·skip
   refine goW TOk.nil [3] 0 ?_;simp only[push_cast,seval,↓kw2];exact⟨_,rfl,hK0 rfl _⟩
  ·skip
   refine goW TOk.nil [3] 0 ?_;simp only[push_cast,seval,↓kw2,h2,e2,hap,a2',a1,a2,a3,b1,b2,b3];exact⟨hC,_,rfl,hK1 rfl _⟩
theorem idx_isl{n i:Nat}{g:Nat->List Slt}(hi:i < n)(H:List AO):∃ C,zAk zP 100 (.isl (rowA n g)) (i:Int) H=some (C,.iptr [calA (g i)] 0)/\C:=by
 have hs:IsSl (.isl (rowA n g)) (rowA n g):=.inl rfl;have hx:=hs.idx (P:=zP) un100 sz218 (i:=(i:Int)) (by rw[zCd]; omega) (by omega) H;simp only[Int.toNat_natCast]at hx;rw[rowA_get hi,zCd,calA_cells]at hx;exact⟨_,hx,⟨by omega,by omega⟩,rfl⟩
structure ThB(a b c:Int)(N L F:AV)(q:Nat)(e0 e1:List Int)(H0 H:List AO):Prop where
 y:H[q]?=some (.cells [I a,I b,I c,N,L])
 f:H[q+1]?=some (.cells [F])
 l:∃ s0 s1,H[q+2]?=some (.cells [s0,s1])/\Own H s0 (e0.map IA)/\Own H s1 (e1.map IA)/\(∀ j,zAw s0=some j->q+3<=j)/\(∀ j,zAw s1=some j->q+3<=j)/\(∀ j,zAw s0=some j->zAw s1≠some j)
 old:∀ j,j < q->H[j]?=H0[j]?
theorem e155:Ent zP 155 Tryz.f155 [] 2:=.mk Tryz.func155 rfl
theorem those_ac{a b c:Int}{n:Nat}(n0:1<=n)(hn:n<=4096){g h:Nat->List Slt}{gf:FuncId}{caps:List AV}{pn pl:Nat->Bool}{H:List AO}
  (hpn:∀ i H' K,i < n->(∀ j,j < H.length->H'[j]?=H[j]?)->K (B (pn i)) H'->AC zP GG gf (calA (g i)::caps) H' K)
  (hpl:∀ i H' K,i < 3*n->(∀ j,j < H.length->H'[j]?=H[j]?)->K (B (pl i)) H'->AC zP GG gf (calA (h i)::caps) H' K)
  {K:AV->List AO->Prop} (hK:∀ H',K (.tup [.isl ((ofL (n:Int) (thL pn n)).map U),.isl ((ofL (3*(n:Int)) (thL pl (3*n))).map U),I 0]) H'):AC zP GG 155 [ydA a b c n g h,.fn gf [] caps] H K:=by
 have h33:IntKind.i64.wrap (3*(n:Int))=3*(n:Int):=zAl (by omega) (by omega);have l1:=(show IsSl (.isl (rowA n g)) (rowA n g) from .inl rfl).len un100;have l2:=(show IsSl (.isl (rowA (3*n) h)) (rowA (3*n) h) from .inl rfl).len un100;rw[zCd]at l1 l2;have t1:=thL_len pn n;have t2:=thL_len pl (3*n);have hof1:=zEq (n:Int) (thL pn n) ⟨by omega,fun k hk=>thL_rng k hk,by omega⟩;have hof2:=zEq (3*(n:Int)) (thL pl (3*n)) ⟨by omega,fun k hk=>by have:=thL_rng k hk; omega,by omega⟩;have hix1:=fun(i:Nat) (hi:i < n) (H:List AO)=>idx_isl (g:=g) hi H
 have hix2:=fun(i:Nat) (hi:i < 3*n) (H:List AO)=>idx_isl (g:=h) hi H
 obtain⟨k1,k2,k3⟩:=zBs (rowA n g);obtain⟨j1,j2,j3⟩:=zBs (rowA (3*n) h);unfold ydA
 generalize AV.isl (rowA n g)=N at *
 generalize AV.isl (rowA (3*n) h)=L at *
 refine goE e155 TOk.nil 0 ?_;simp only[push_cast,seval,↓kw2,k1,k2,k3,j1,j2,j3];have hB0:ThB a b c N L (.fn gf [] caps) H.length [] [] H (H++[AO.cells [I a,I b,I c,N,L],AO.cells [.fn gf [] caps],AO.cells [.c (.slice none 0 0),.c (.slice none 0 0)]]):=by
  refine⟨by rw[zAd]; rfl,by rw[getA]; rfl,⟨_,_,by rw[getA]; rfl,.nil,.nil,fun j hj=>(by cases hj),fun j hj=>(by cases hj),fun j hj=>(by cases hj)⟩,fun j hj=>zL hj⟩
 refine each_ac (a:=a) (b:=b) (c:=c) (n:=n) (m:=3*n) (by omega) (by omega) ⟨k1,k2,k3⟩ ⟨j1,j2,j3⟩ (pn:=fun i=>.iptr [calA (g i)] 0) (pl:=fun i=>.iptr [calA (h i)] 0)
  (fun lk i H'=>ThB a b c N L (.fn gf [] caps) H.length (if lk=true then thL pn n else thL pn i) (if lk=true then thL pl i else []) H H') (fun lk i H' hs=>hs.y) l1 l2 (fun i H' hs hi=>hix1 i hi H') (fun i H' hs hi=>hix2 i hi H') ?_ ?_ ?_ ?_ ?_
 ·rintro i H' K' ⟨y,f,⟨s0,s1,hl,o0,o1,d0,d1,dd⟩,old⟩ hi hK'
  simp only[Bool.false_eq_true,if_false]at o0 o1;have hti:=thL_len pn i;refine those1_ac (lk:=false) (zDy (g i)).cell f hl (by simpa using o0) o0.cell o1.cell (es:=thL pn i) (by omega) (pr:=pn i) (by
   simp only[Bool.false_eq_true,if_false]
   intro e
   have:=d0 _ e;omega) (fun K' hk=>hpn i H' K' hi old hk) ?_ ?_
  ·intro hp v
   refine hK' v H' ⟨y,f,⟨s0,s1,hl,?_,o1,d0,d1,dd⟩,old⟩;simp only[Bool.false_eq_true,if_false,thL_out hp];exact o0
  ·intro hp v
   simp only[Bool.false_eq_true,if_false];have hq2:=zAc hl;have hno:∀ j,j < H.length+3->zAw s0≠some j:=fun j hj e=>by have:=d0 _ e; omega
   have hg:∀ j,j < H'.length->j≠H.length+2->zAw s0≠some j->((apH H' s0 ((thL pn i).map IA) (IA (i:Int))).set (H.length+2) (.cells [.sl (H'.length+1) 0 (((thL pn i).map IA).length+1) (((thL pn i).map IA).length+1),s1]))[j]?=H'[j]?:=fun j hj hne ho=>by
    rw[zQ (fun e=>hne e.symm),apH_get hj ho]
   refine hK' v _ ⟨(hg _ (by omega) (by omega) (hno _ (by omega))).trans y,(hg _ (by omega) (by omega) (hno _ (by omega))).trans f,⟨_,s1,zS (by rw[apH_length]; omega),?_,?_,?_,d1,?_⟩,fun j hj=>(hg j (by omega) (by omega) (hno _ (by omega))).trans (old j hj)⟩
   ·simp only[Bool.false_eq_true,if_false,thL_in hp];refine(apI (H:=H') (s:=s0)).keep fun j hj=>?_
    cases hj;exact zQ (by omega)
   ·refine o1.keep fun j hj=>?_
    have h5:=o1.lt hj;have h6:=d1 _ hj;exact hg j h5 (by omega) (fun e=>dd _ e hj)
   ·intro j hj
    cases hj;omega
   ·intro j hj e
    have h5:=o1.lt e;cases hj;omega
 ·rintro i H' K' ⟨y,f,⟨s0,s1,hl,o0,o1,d0,d1,dd⟩,old⟩ hi hK'
  simp only[if_true]at o0 o1;have hti:=thL_len pl i;refine those1_ac (lk:=true) (zDy (h i)).cell f hl (by simpa using o1) o0.cell o1.cell (es:=thL pl i) (by omega) (pr:=pl i) (by
   simp only[if_true]
   intro e
   have:=d1 _ e;omega) (fun K' hk=>hpl i H' K' hi old hk) ?_ ?_
  ·intro hp v
   refine hK' v H' ⟨y,f,⟨s0,s1,hl,o0,?_,d0,d1,dd⟩,old⟩;simp only[if_true,thL_out hp];exact o1
  ·intro hp v
   simp only[if_true];have hq2:=zAc hl;have hno:∀ j,j < H.length+3->zAw s1≠some j:=fun j hj e=>by have:=d1 _ e; omega
   have hg:∀ j,j < H'.length->j≠H.length+2->zAw s1≠some j->((apH H' s1 ((thL pl i).map IA) (IA (i:Int))).set (H.length+2) (.cells [s0,.sl (H'.length+1) 0 (((thL pl i).map IA).length+1) (((thL pl i).map IA).length+1)]))[j]?=H'[j]?:=fun j hj hne ho=>by
    rw[zQ (fun e=>hne e.symm),apH_get hj ho]
   refine hK' v _ ⟨(hg _ (by omega) (by omega) (hno _ (by omega))).trans y,(hg _ (by omega) (by omega) (hno _ (by omega))).trans f,⟨s0,_,zS (by rw[apH_length]; omega),?_,?_,d0,?_,?_⟩,fun j hj=>(hg j (by omega) (by omega) (hno _ (by omega))).trans (old j hj)⟩
   ·refine o0.keep fun j hj=>?_
    have h5:=o0.lt hj;have h6:=d0 _ hj;exact hg j h5 (by omega) (dd _ hj)
   ·simp only[if_true,thL_in hp];refine(apI (H:=H') (s:=s1)).keep fun j hj=>?_
    cases hj;exact zQ (by omega)
   ·intro j hj
    cases hj;omega
   ·intro j hj e
    have h5:=o0.lt hj;cases e;omega
 ·rintro H' ⟨y,f,⟨s0,s1,hl,o0,o1,d0,d1,dd⟩,old⟩
  exact⟨y,f,⟨s0,s1,hl,by simpa using o0,by simpa[thL_0]using o1,d0,d1,dd⟩,old⟩
 ·simpa[thL_0]using hB0
 rintro H' ⟨y,f,⟨s0,s1,hl,o0,o1,d0,d1,dd⟩,old⟩
 simp only[if_true]at o0 o1;obtain⟨a1,a2,a3⟩:=o0.cell;obtain⟨b1,b2,b3⟩:=o1.cell;refine goN ?_;simp only[push_cast,seval,↓kw2,y,hl,l1,h33,a1,a2,a3,b1,b2,b3];refine Own.freeze (f:=57) (pre:=[I (n:Int)]) (post:=[]) o0 (zAi IA _ (fun _=>rfl)) ?_
 intro H1 hk1
 refine AC.pur hof1 ?_;have hl':=(hk1 (H.length+2) (fun e=>by have:=d0 _ e; omega)).trans hl;have o1':=o1.keep fun j hj=>hk1 j (fun e=>dd _ e hj)
 refine goN ?_;simp only[push_cast,seval,↓kw2,hl',h33,a1,a2,a3,b1,b2,b3];refine Own.freeze (f:=57) (pre:=[I (3*(n:Int))]) (post:=[]) o1' (zAi IA _ (fun _=>rfl)) ?_
 intro H2 hk2
 refine AC.pur hof2 ?_;refine goN ?_;simp only[push_cast,seval,↓kw2];exact⟨_,rfl,hK _⟩
theorem e156:Ent zP 156 Tryz.f156 [] 2:=.mk Tryz.func156 rfl
theorem busy1_ac{l:List Slt}{f t:Int}(hc:calO 0 l)(hl:l.length<=4096)(hft:spC f t=0){H:List AO}{q:Nat}(hq:H[q]?=some (.cells [I f,I t])){K:AV->List AO->Prop}(hK:K (B (!zFm f t l)) H):AC zP GG 156 [calA l,.ptr q 0] H K:=by
 have h:=cFree_pur hc hl hft
 generalize calA l=S at *
 refine goE e156 TOk.nil 0 ?_;simp only[push_cast,seval,↓kw2,hq];refine AC.pur h ?_;refine goN ?_;simp only[push_cast,seval,↓kw2];exact⟨_,rfl,hK⟩
def takN(n:Nat)(g:Nat->List Slt)(f t:Int):List Int:=ofL (n:Int) (thL (fun i=>!zFm f t (g i)) n)
theorem e89:Ent zP 89 Tryz.f89 [] 2:=.mk Tryz.func89 rfl
theorem yBusy_pur{a b c:Int}(hd:okD a b c){n:Nat}(hn:(n:Int)=a*b*c){g h:Nat->List Slt}(hg:okG n g)(hh:okG (3*n) h){f t:Int}(hft:spC f t=0):Pur zP GG 89 [ydA a b c n g h,.agg [I f,I t]] (.tup [.isl ((takN n g f t).map U),.isl ((takN (3*n) h f t).map U),I 0]):=by
 obtain⟨q1,q2,q3,q4⟩:=zBx hd;have hn1:1<=a*b*c:=zFp hd;have hC:=yChk_pur hd hn hg hh;have hS:=spchk_pur f t;rw[hft]at hS;have py:=ydA_pur a b c n g h;obtain⟨k1,k2,k3⟩:=zBs (rowA n g);obtain⟨j1,j2,j3⟩:=zBs (rowA (3*n) h);have hT:=fun {H:List AO} {K:AV->List AO->Prop} {caps:List AV} h1 h2 h3=>those_ac (a:=a) (b:=b) (c:=c) (n:=n) (g:=g) (h:=h) (gf:=156) (caps:=caps) (pn:=fun i=>!zFm f t (g i)) (pl:=fun i=>!zFm f t (h i)) (H:=H) (by omega) (by omega) h1 h2 (K:=K) h3
 unfold ydA at *
 generalize AV.isl (rowA n g)=GN at *
 generalize AV.isl (rowA (3*n) h)=GL at *
 have ux:∀ l:List Int,AV.purL (l.map U)=true:=fun l=>zAi U _ (fun _=>rfl)
 have p1:GN.pur=true:=by simp[AV.pur,AV.purL]at py; exact py.1
 have p2:GL.pur=true:=by simp[AV.pur,AV.purL]at py; exact py.2
 refine goQ e89 TOk.nil 0 ?_ (by simp[AV.purL,AV.pur,p1,p2]);simp only[push_cast,seval,↓kw2,k1,k2,k3,j1,j2,j3];refine AC.pur hC ?_;refine goN ?_;simp only[push_cast,seval,↓kw2];refine AC.pur hS ?_;refine goN ?_;simp only[push_cast,seval,↓kw2,k1,k2,k3,j1,j2,j3];refine hT ?_ ?_ ?_
 ·intro i H' K' hi hold hk
  exact busy1_ac (hg i hi).1 (by have:=(hg i hi).2; omega) hft ((hold 1 (by simp)).trans rfl) hk
 ·intro i H' K' hi hold hk
  exact busy1_ac (hh i hi).1 (by have:=(hh i hi).2; omega) hft ((hold 1 (by simp)).trans rfl) hk
 intro H'
 have e3:((3*n:Nat):Int)=3*(n:Int):=by omega
 unfold takN;rw[e3];have hi1:IsSet (.isl ((ofL (n:Int) (thL (fun i=>!zFm f t (g i)) n)).map U)):=.isl (zAt _ _);have hi2:IsSet (.isl ((ofL (3*(n:Int)) (thL (fun i=>!zFm f t (h i)) (3*n))).map U)):=.isl (zAt _ _);have v1:=hi1.pur;have v2:=hi2.pur;obtain⟨c1,c2,c3⟩:=hi1.cell;obtain⟨d1,d2,d3⟩:=hi2.cell
 generalize AV.isl ((ofL (n:Int) (thL (fun i=>!zFm f t (g i)) n)).map U)=R1 at *
 generalize AV.isl ((ofL (3*(n:Int)) (thL (fun i=>!zFm f t (h i)) (3*n))).map U)=R2 at *
 refine goN ?_;simp only[push_cast,seval,↓kw2];exact⟨_,rfl,zAa (by simp[AV.pur,AV.purL,v1,v2]) rfl⟩
theorem mm_max(a b:Int):aMM true (I a) (I b)=some (I (max a b)):=by
 have:(if a < b then b else a)=max a b:=by rw[Int.max_def]; split <;> split <;> omega
 rw[<- this]; rfl
def Sta.slP(s:Sta)(p:Prt):Sl4:=⟨p.job,p.pl,s.now,s.ends p⟩
def Sta.slK(s:Sta)(k:Kep):Sl4:=⟨k.id,k.bx.pl,max k.fr s.now,k.till⟩
theorem Sl4.cells(x:Sl4):x.av.cells=[I x.own,I x.pl.x,I x.pl.y,I x.pl.z,I x.pl.p,I x.pl.q,I x.pl.r,B x.pl.s,B x.pl.t,B x.pl.u,I x.fr,I x.till]:=rfl
theorem take_next{α:Type}[Inhabited α]{l:List α}{i:Nat}(h:i < l.length):l.take (i+1)=l.take i++[l.getD i default]:=by
 rw[List.take_succ_eq_append_getElem h];simp[List.getD,h]
theorem fine_lens{s:Sta}(f:s.fine):s.parts.length<=24/\s.keeps.length<=4:=by
 have h1:=f.pa;have h2:=f.kp;unfold Sta.partsV at h1;unfold Sta.keepsV at h2;simp only[zA,decide_eq_true_eq]at h1 h2;omega
theorem e84:Ent zP 84 Tryz.f84 [] 1:=.mk Tryz.func84 rfl
theorem slots_pur{s:Sta}(h:s.good)(hl:s.lim)(f:s.fine):Pur zP GG 84 [s.av] (frS (s.slots.map Sl4.av)):=by
 have hZ:=h.cell;obtain⟨⟨⟨a1,a2,a3⟩,b1,b2,b3⟩,⟨⟨c1,c2,c3⟩,d1,d2,d3⟩,⟨ee1,ee2,ee3⟩,⟨f1,f2,f3⟩,g1,g2,g3⟩:=h.cell;obtain⟨p1,p2,p3,p4,p5,p6,p7⟩:=h.purs;have hplen:=h.ps.len un28;have hklen:=h.ks.len un29;rw[zM]at hplen hklen;have hpidx:=fun(i:Nat) (hi:i < s.parts.length) (H:List AO)=>h.ps.idx (P:=zP) un28 sz65 (i:=(i:Int)) (by rw[zM]; omega) (by omega) H
 have hkidx:=fun(i:Nat) (hi:i < s.keeps.length) (H:List AO)=>h.ks.idx (P:=zP) un29 sz98 (i:=(i:Int)) (by rw[zM]; omega) (by omega) H
 have hlp:=hl.pl;have hlk:=hl.kl;have hlj:=hl.jl;obtain⟨h24,h4⟩:=fine_lens f;show Pur zP GG 84 [ST s.c.a s.c.b s.c.c s.c.boot s.c.free s.c.tries s.c.age s.cs s.now s.next s.js s.ps s.ks s.ds s.hs s.us] _;refine goQ e84 TOk.nil 0 ?_ (by simp[AV.purL,AV.pur,p1,p2,p3,p4,p5,p6,p7]);simp only[push_cast,seval,↓kw2,hZ,hplen]
 let CC:AO:=.cells [I s.c.a,I s.c.b,I s.c.c,I s.c.boot,I s.c.free,I s.c.tries,I s.c.age,s.cs,I s.now,I s.next,s.js,s.ps,s.ks,s.ds,s.hs,s.us]
 refine FW.loopInv (fun m ts H=>∃(i:Nat) (sl:AV),i+m=s.parts.length/\OwnK 12 H sl (((s.parts.take i).map s.slP).map Sl4.av)/\zAw sl≠some 0/\H[0]?=some CC/\ts 1=.ptr 0 0/\ts 2=sl/\ts 12=s.ps/\ts 13=I (s.parts.length:Int)/\ts 14=I (i:Int)) s.parts.length
  ⟨0,_,by omega,.nil,(by intro e; cases e),rfl,rfl,rfl,rfl,rfl,rfl⟩ ?_
 rintro m ih ts H ⟨i,sl,hi,hown,hid0,h0,t1,t2,t12,t13,t14⟩
 refine FW.inLoop ?_
 by_cases hlt:i < s.parts.length
 ·have hd1:decide ((i:Int) < (s.parts.length:Int))=true:=by simp[hlt]
  have hx:=hpidx i hlt;have hgy:=zAj Prt.av s.parts default hlt;simp only[Int.toNat_natCast]at hx;rw[hgy]at hx;have hpm:=parts_mem hlt;have htn:=take_next hlt
  generalize s.parts.getD i default=p at hx hpm htn
  obtain⟨y1,y2,y3,y4,y5,y6⟩:=part_facts (zFd f.pa _ hpm);obtain⟨z1,z2,z3⟩:=zEm y1;have hcx:=Prt.cells p;have hf:=zFc h.js hlj p.job;rw[if_neg y1,if_neg y1]at hf;have hE:=ends_pur s.c p (s.jobOf p).wall h.cs;rw[if_pos y2,y2,y3]at hE;have hjo:s.jobOf p=s.jobs.getD (findN s.jobs p.job).toNat default:=by rw[Sta.jobOf,if_neg y1]
  have hjx:=h.js.1.idx (P:=zP) un27 sz50 (i:=findN s.jobs p.job) (by rw[zM]; omega) (by omega);rw[zAj Jb.av s.jobs default z2,<- hjo]at hjx;have hjg:=s.jobOf_good h p;have hsl:(s.slP p).av=SV4 p.job p.pl s.now (s.ends p):=rfl
  generalize s.jobOf p=j at hjx hE hjg y6
  generalize findN s.jobs p.job=at_ at hf hjx z1 z2
  have hjc:=Jb.cells j;obtain⟨m1,m2,m3⟩:=IsSl.cell hjg;have hbb:(0<=(i:Int)/\(i:Int) < ((s.parts.map Prt.av).length:Int)):=⟨by omega,by rw[zM]; omega⟩;have hbj:(0<=at_/\at_ < ((s.jobs.map Jb.av).length:Int)):=⟨by omega,by rw[zM]; omega⟩;have hi1:=zAl (n:=(i:Int)+1) (by omega) (by omega);have g0:∀ X,(H++X)[0]?=some CC:=fun X=>(zL (zAc h0)).trans h0
  simp only[CC]at g0 h0;simp only[Prt.av,Cfg.av]at hE;refine goN ?_;simp only[push_cast,seval,↓kw2,t1,t2,t12,t13,t14,hd1,hx,hcx,h0,g0,zAd,getA,zAe,setA,zAb];refine⟨hbb,AC.pur hf ?_⟩;have hO1:=hown.append [AO.cells [I p.job,I p.pl.x,I p.pl.y,I p.pl.z,I p.pl.p,I p.pl.q,I p.pl.r,B p.pl.s,B p.pl.t,B p.pl.u,.c (.int .u8 p.ph),I p.tries,I p.since]];have r0:=g0 [AO.cells [I p.job,I p.pl.x,I p.pl.y,I p.pl.z,I p.pl.p,I p.pl.q,I p.pl.r,B p.pl.s,B p.pl.t,B p.pl.u,.c (.int .u8 p.ph),I p.tries,I p.since]];have r6:(H++[AO.cells [I p.job,I p.pl.x,I p.pl.y,I p.pl.z,I p.pl.p,I p.pl.q,I p.pl.r,B p.pl.s,B p.pl.t,B p.pl.u,.c (.int .u8 p.ph),I p.tries,I p.since]])[H.length]?=some (AO.cells [I p.job,I p.pl.x,I p.pl.y,I p.pl.z,I p.pl.p,I p.pl.q,I p.pl.r,B p.pl.s,B p.pl.t,B p.pl.u,.c (.int .u8 p.ph),I p.tries,I p.since]):=by rw[zAd]; rfl
  generalize (H++[AO.cells [I p.job,I p.pl.x,I p.pl.y,I p.pl.z,I p.pl.p,I p.pl.q,I p.pl.r,B p.pl.s,B p.pl.t,B p.pl.u,.c (.int .u8 p.ph),I p.tries,I p.since]])=H1 at hO1 r0 r6 ⊢
  have hap:=aAppK (P:=zP) (k:=12) un151 un151 ze154 rfl by154 hO1 (SV4 p.job p.pl s.now (s.ends p));have hC:=apC_of (n:=(((s.parts.take i).map s.slP).map Sl4.av).length) (by':=80) (by simp; omega) (by decide);have r0':∀ X,(H1++X)[0]?=_:=fun X=>(zL (zAc r0)).trans r0
  have r6':∀ X,(H1++X)[H.length]?=_:=fun X=>(zL (zAc r6)).trans r6
  refine goN ?_;simp only[push_cast,seval,↓kw2,t1,t2,t12,t13,t14,r0,r6,zAd,getA,zAe,setA,zAb,hjx,hjc,m1,m2,m3];refine⟨hbj,_,toVQ hE,?_⟩;simp only[push_cast,seval,↓kw2,t1,t2,t12,t13,t14,r0,r6,r0',r6',hjx,hjc,m1,m2,m3,hap,hi1];refine⟨hC,ih (m - 1) (by omega) _ _ ⟨i+1,.sl (H1.length+1) 0 ((((s.parts.take i).map s.slP).map Sl4.av).length+1) ((((s.parts.take i).map s.slP).map Sl4.av).length+1),by omega,?_,?_,?_,t1,rfl,t12,t13,rfl⟩⟩
  ·rw[htn,List.map_append,List.map_append];exact apHk_own
  ·intro e
   cases e
  ·rw[zFt (zAc r0) hid0];exact r0
 ·have hd1:decide ((i:Int) < (s.parts.length:Int))=false:=by simp; omega
  simp only[CC]at h0;rw[List.take_of_length_le (by omega)]at hown;clear ih;refine goN ?_;simp only[push_cast,seval,↓kw2,t1,t2,t12,t13,t14,hd1,h0,hklen];refine FW.loopInv (fun m ts H=>∃(i:Nat) (sl:AV),i+m=s.keeps.length/\OwnK 12 H sl ((s.parts.map s.slP++(s.keeps.take i).map s.slK).map Sl4.av)/\zAw sl≠some 0/\H[0]?=some CC/\ts 1=.ptr 0 0/\ts 2=sl/\ts 53=s.ks/\ts 54=I (s.keeps.length:Int)/\ts 55=I (i:Int)) s.keeps.length
   ⟨0,sl,by omega,by simpa using hown,hid0,h0,t1,t2,rfl,rfl,rfl⟩ ?_
  clear hown hid0 h0 t1 t2 t12 t13 t14 hd1 hi hlt
  rintro m ih ts H ⟨i,sl,hi,hown,hid0,h0,t1,t2,t53,t54,t55⟩
  refine FW.inLoop ?_
  by_cases hlt:i < s.keeps.length
  ·have hd1:decide ((i:Int) < (s.keeps.length:Int))=true:=by simp[hlt]
   have hx:=hkidx i hlt;have hgy:=zAj Kep.av s.keeps default hlt;simp only[Int.toNat_natCast]at hx;rw[hgy]at hx;have htn:=take_next hlt
   generalize s.keeps.getD i default=k at hx htn
   have hck:=Kep.cells k;have hmx:=mm_max k.fr s.now;have hbb:(0<=(i:Int)/\(i:Int) < ((s.keeps.map Kep.av).length:Int)):=⟨by omega,by rw[zM]; omega⟩;have hi1:=zAl (n:=(i:Int)+1) (by omega) (by omega);have g0:∀ X,(H++X)[0]?=some CC:=fun X=>(zL (zAc h0)).trans h0
   simp only[CC]at g0 h0;have hO1:=hown.append [AO.cells [I k.id,I k.x,I k.y,I k.z,I k.p,I k.q,I k.r,I k.fr,I k.till]];have r0:=g0 [AO.cells [I k.id,I k.x,I k.y,I k.z,I k.p,I k.q,I k.r,I k.fr,I k.till]];have hap:=aAppK (P:=zP) (k:=12) un151 un151 ze154 rfl by154 hO1 (s.slK k).av;have hC:=apC_of (n:=((s.parts.map s.slP++(s.keeps.take i).map s.slK).map Sl4.av).length) (by':=80) (by simp; omega) (by decide);simp only[Sta.slK,Sl4.av,Kep.bx,Bx6.pl,keptP,List.append_assoc,List.length_append,List.length_cons,List.length_nil,List.cons_append,List.nil_append]at hap;refine goN ?_;simp only[push_cast,seval,↓kw2,t1,t2,t53,t54,t55,hd1,hx,hck,h0,g0,zAd,getA,zAe,setA,zAb,aop3,hmx,hap,hi1];refine⟨hbb,hC,ih (m - 1) (by omega) _ _ ⟨i+1,.sl (H.length+1+1) 0 (((s.parts.map s.slP++(s.keeps.take i).map s.slK).map Sl4.av).length+1) (((s.parts.map s.slP++(s.keeps.take i).map s.slK).map Sl4.av).length+1),by omega,?_,?_,?_,t1,rfl,t53,t54,rfl⟩⟩
   ·have:=apHk_own (k:=12) (H:=H++[AO.cells [I k.id,I k.x,I k.y,I k.z,I k.p,I k.q,I k.r,I k.fr,I k.till]]) (s:=sl) (es:=((s.parts.map s.slP++(s.keeps.take i).map s.slK).map Sl4.av)) (v:=(s.slK k).av);rw[List.length_append,List.length_singleton]at this;have e:(s.parts.map s.slP++(s.keeps.take (i+1)).map s.slK).map Sl4.av=(s.parts.map s.slP++(s.keeps.take i).map s.slK).map Sl4.av++[(s.slK k).av]:=by
     rw[htn];simp
    rw[e];exact this
   ·intro e
    cases e
   ·rw[zFt (zAc r0) hid0];exact r0
  ·have hd1:decide ((i:Int) < (s.keeps.length:Int))=false:=by simp; omega
   rw[List.take_of_length_le (by omega)]at hown;refine goN ?_;simp only[push_cast,seval,↓kw2,t1,t2,t53,t54,t55,hd1];exact⟨_,rfl,2,hown.frz (zAi Sl4.av _ (fun _=>rfl))⟩
def Sta.nM(s:Sta):Nat:=(s.c.a*s.c.b*s.c.c).toNat
theorem zFi{s:Sta}(f:s.fine):okD s.c.a s.c.b s.c.c:=Cfg.may_ok (Cfg.chk_may (config_chk f.cf))
theorem nM_eq{s:Sta}(f:s.fine):(s.nM:Int)=s.c.a*s.c.b*s.c.c:=by
 have:=zFp (zFi f);unfold Sta.nM;omega
def Sta.calN(s:Sta):Nat->List Slt:=calF (inN s.c.a s.c.b s.c.c) s.slots
def Sta.calL(s:Sta):Nat->List Slt:=calF (inL s.c.a s.c.b s.c.c) s.slots
def Sta.yard(s:Sta):AV:=ydA s.c.a s.c.b s.c.c s.nM s.calN s.calL
theorem take_pair{α:Type}{R:α->α->Prop}{l:List α}(h:l.Pairwise R)(i:Nat):(l.take i).Pairwise R:=h.sublist (List.take_sublist i l)
theorem take_cross{α:Type}[Inhabited α]{R:α->α->Prop}{l:List α}(h:l.Pairwise R){i:Nat}(hi:i < l.length):∀ y∈l.take i,R y (l.getD i default):=by
 have h2:=take_pair h (i+1);rw[take_next hi,List.pairwise_append]at h2;exact fun y hy=>h2.2.2 y hy _ (by simp)
theorem slots_okG{s:Sta}(f:s.fine)(i n:Nat):okG n (calF (inN s.c.a s.c.b s.c.c) (s.slots.take i))/\okG n (calF (inL s.c.a s.c.b s.c.c) (s.slots.take i)):=by
 have hm:∀ x∈s.slots.take i,x.slt.may:=fun x hx=>(slot_may f x (List.mem_of_mem_take hx)).1
 have hp:=take_pair (slots_off f) i;have hlen:s.slots.length<=28:=by
  obtain⟨h1,h2⟩:=fine_lens f;unfold Sta.slots;simp;omega
 have hle:(s.slots.take i).length<=28:=by rw[List.length_take]; omega
 exact⟨fun k _=>⟨calF_cal hm (hp.imp fun h=>off_N h k),by have:=calF_len (inN s.c.a s.c.b s.c.c) (s.slots.take i) k; omega⟩,
  fun k _=>⟨calF_cal hm (hp.imp fun h=>off_L h k),by have:=calF_len (inL s.c.a s.c.b s.c.c) (s.slots.take i) k; omega⟩⟩
theorem slots_len{s:Sta}(f:s.fine):s.slots.length<=28:=by
 obtain⟨h1,h2⟩:=fine_lens f;unfold Sta.slots;simp;omega
theorem frS_sl(l:List AV):IsSl (frS l) l:=by
 cases l with
 | nil=>exact .inr ⟨rfl,rfl⟩
 | cons x l=>exact .inl rfl
theorem own_bit{a b c:Int}{x:Plc}(h:x.ok a b c)(m:Nat):zAy (ownW a b c x.x x.y x.z x.p x.q x.r) m=decide ((m:Int)∈zAo a b c x.x x.y x.z x.p x.q x.r):=by
 obtain⟨q1,q2,q3,q4⟩:=zBx h.1;have hmv:zAf a b c=a*b*c:=by rw[zAf,if_pos h.1]
 have h1:=zFp h.1;unfold ownW;rw[zEb (by omega) (fun k hk=>by rw[hmv]; exact(zDc h.1 h.2.1 (srt_mem.1 hk)).2)];exact decide_eq_decide.2 srt_mem
theorem link_bit{a b c:Int}{x:Plc}(h:x.ok a b c)(m:Nat):zAy (zEx a b c x.x x.y x.z x.p x.q x.r x.s x.t x.u) m=decide ((m:Int)∈zBh a b c x.x x.y x.z x.p x.q x.r x.s x.t x.u):=by
 obtain⟨q1,q2,q3,q4⟩:=zBx h.1;have hmv:zAf a b c=a*b*c:=by rw[zAf,if_pos h.1]
 have h1:=zFp h.1;unfold zEx;rw[zEb (by omega) (fun k hk=>by rw[hmv]; exact zDx h.1 h.2.1 k hk)]
theorem own_chk{a b c:Int}{x:Plc}(h:x.ok a b c):schk (zAf a b c) (ownW a b c x.x x.y x.z x.p x.q x.r)=0/\schk (3*zAf a b c) (zEx a b c x.x x.y x.z x.p x.q x.r x.s x.t x.u)=0:=by
 obtain⟨q1,q2,q3,q4⟩:=zBx h.1;have hmv:zAf a b c=a*b*c:=by rw[zAf,if_pos h.1]
 have h1:=zFp h.1;exact⟨zCa (by omega) (fun k hk=>by rw[hmv]; exact(zDc h.1 h.2.1 (srt_mem.1 hk)).2),zCa (by omega) (fun k hk=>by rw[hmv]; exact zDx h.1 h.2.1 k hk)⟩
theorem slots_mem{s:Sta}{i:Nat}(hi:i < s.slots.length):s.slots.getD i default∈s.slots:=by
 rw[show s.slots.getD i default=s.slots[i] by simp[List.getD,hi]];exact List.getElem_mem hi
theorem yard_step{s:Sta}(f:s.fine){i:Nat}(hi:i < s.slots.length){x:Sl4}(hx:s.slots.getD i default=x) :
  Pur zP GG 85 [ydA s.c.a s.c.b s.c.c s.nM (calF (inN s.c.a s.c.b s.c.c) (s.slots.take i)) (calF (inL s.c.a s.c.b s.c.c) (s.slots.take i)),I x.own,.isl ((ownW s.c.a s.c.b s.c.c x.pl.x x.pl.y x.pl.z x.pl.p x.pl.q x.pl.r).map U),.isl ((zEx s.c.a s.c.b s.c.c x.pl.x x.pl.y x.pl.z x.pl.p x.pl.q x.pl.r x.pl.s x.pl.t x.pl.u).map U),.agg [I x.fr,I x.till]]
   (.tup [ydA s.c.a s.c.b s.c.c s.nM (calF (inN s.c.a s.c.b s.c.c) (s.slots.take (i+1))) (calF (inL s.c.a s.c.b s.c.c) (s.slots.take (i+1))),I 0]):=by
 have hn:=nM_eq f;have hd:=zFi f;have hmv:zAf s.c.a s.c.b s.c.c=s.c.a*s.c.b*s.c.c:=by rw[zAf,if_pos hd]
 have hxm:=slots_mem hi;have hcr:=take_cross (slots_off f) hi;have htn:=take_next hi;rw[hx]at hxm hcr htn;obtain⟨hmay,hok⟩:=slot_may f x hxm;obtain⟨c1,c2⟩:=own_chk hok;rw[hmv,<- hn]at c1 c2;have ob:=own_bit hok;have lb:=link_bit hok;have gN:=(slots_okG f i s.nM).1;have gL:=(slots_okG f i (3*s.nM)).2;have hP:=yPut_pur hd hn gN gL (x:=x.slt) hmay (xs:=ownW s.c.a s.c.b s.c.c x.pl.x x.pl.y x.pl.z x.pl.p x.pl.q x.pl.r) (ys:=zEx s.c.a s.c.b s.c.c x.pl.x x.pl.y x.pl.z x.pl.p x.pl.q x.pl.r x.pl.s x.pl.t x.pl.u) (zAt _ _) (zAt _ _) c1 c2
  (fun k hk hb=>calF_free (gN k hk).1 hmay (by rw[ob]at hb; exact hb) fun y hy=>off_N (hcr y hy) k)
  (fun k hk hb=>calF_free (gL k hk).1 hmay (by rw[lb]at hb; exact hb) fun y hy=>off_L (hcr y hy) k)
 have e1:∀ n:Nat,rowA n (fun k=>pushC (zAy (ownW s.c.a s.c.b s.c.c x.pl.x x.pl.y x.pl.z x.pl.p x.pl.q x.pl.r) k) x.slt (calF (inN s.c.a s.c.b s.c.c) (s.slots.take i) k))=rowA n (calF (inN s.c.a s.c.b s.c.c) (s.slots.take (i+1))):=fun n=>rowA_cong fun k _=>by rw[ob,htn,calF_snoc]; rfl
 have e2:∀ n:Nat,rowA n (fun k=>pushC (zAy (zEx s.c.a s.c.b s.c.c x.pl.x x.pl.y x.pl.z x.pl.p x.pl.q x.pl.r x.pl.s x.pl.t x.pl.u) k) x.slt (calF (inL s.c.a s.c.b s.c.c) (s.slots.take i) k))=rowA n (calF (inL s.c.a s.c.b s.c.c) (s.slots.take (i+1))):=fun n=>rowA_cong fun k _=>by rw[lb,htn,calF_snoc]; rfl
 unfold ydA at hP ⊢;rw[e1,e2]at hP;exact hP
theorem e46:Ent zP 46 Tryz.f46 [] 1:=.mk Tryz.func46 rfl
theorem yard_pur{s:Sta}(h:s.good)(hl:s.lim)(f:s.fine):Pur zP GG 46 [s.av] (.tup [s.yard,I 0]):=by
 have hC:=holdc_pur h hl;rw[if_pos (okV_iff.2 f)]at hC;have hd:=zFi f;have hn:=nM_eq f;have hN:=cNew_pur hd hn;have hS:=slots_pur h hl f;have hll:=slots_len f;have hs:=frS_sl (s.slots.map Sl4.av);have hstep:=fun i hi x hx=>yard_step f (i:=i) hi (x:=x) hx
 have hmem:=fun i (hi:i < s.slots.length)=>(slot_may f _ (slots_mem hi)).2
 have hZ:=h.cell;obtain⟨⟨⟨a1,a2,a3⟩,b1,b2,b3⟩,⟨⟨c1,c2,c3⟩,d1,d2,d3⟩,⟨ee1,ee2,ee3⟩,⟨f1,f2,f3⟩,g1,g2,g3⟩:=h.cell;obtain⟨p1,p2,p3,p4,p5,p6,p7⟩:=h.purs;simp only[Sta.av]at hC hS;have hslen:=hs.len un151;rw[zM]at hslen;have hsidx:=fun(i:Nat) (hi:i < s.slots.length) (H:List AO)=>hs.idx (P:=zP) un151 sz154 (i:=(i:Int)) (by rw[zM]; omega) (by omega) H
 generalize frS (s.slots.map Sl4.av)=S at *
 have w1:∀ n g,(AV.isl (rowA n g)).isCell=true:=fun _ _=>rfl
 unfold Sta.yard Sta.calN Sta.calL;unfold ydA at hN hstep ⊢;show Pur zP GG 46 [ST s.c.a s.c.b s.c.c s.c.boot s.c.free s.c.tries s.c.age s.cs s.now s.next s.js s.ps s.ks s.ds s.hs s.us] _;refine goQ e46 TOk.nil 0 ?_ (by simp[AV.purL,AV.pur,p1,p2,p3,p4,p5,p6,p7]);simp only[push_cast,seval,↓kw2,hZ];refine AC.pur hC ?_;refine goN ?_;simp only[push_cast,seval,↓kw2];refine AC.pur hN ?_;obtain⟨N0,hN0⟩:∃ N0,N0=AV.isl (rowA s.nM fun _=>[]):=⟨_,rfl⟩;obtain⟨L0,hL0⟩:∃ L0,L0=AV.isl (rowA (3*s.nM) fun _=>[]):=⟨_,rfl⟩;rw[<- hN0,<- hL0];obtain⟨u1,u2,u3⟩:=zBs (rowA s.nM fun _=>[]);obtain⟨v1,v2,v3⟩:=zBs (rowA (3*s.nM) fun _=>[]);rw[<- hN0]at u1 u2 u3;rw[<- hL0]at v1 v2 v3;refine goN ?_;simp only[push_cast,seval,↓kw2,hZ,u1,u2,u3,v1,v2,v3];refine AC.pur hS ?_;refine goN ?_;simp only[push_cast,seval,↓kw2,hslen]
 let CC:AO:=.cells [I s.c.a,I s.c.b,I s.c.c,I s.c.boot,I s.c.free,I s.c.tries,I s.c.age,s.cs,I s.now,I s.next,s.js,s.ps,s.ks,s.ds,s.hs,s.us]
 refine FW.loopInv (fun m ts H=>∃(i:Nat) (N L:AV),i+m=s.slots.length/\N=.isl (rowA s.nM (calF (inN s.c.a s.c.b s.c.c) (s.slots.take i)))/\L=.isl (rowA (3*s.nM) (calF (inL s.c.a s.c.b s.c.c) (s.slots.take i)))/\H[0]?=some CC/\H[1]?=some (.cells [I 0,I 0,I 0,.c (.slice none 0 0),.c (.slice none 0 0)])/\H[2]?=some (.cells [I s.c.a,I s.c.b,I s.c.c,N,L])/\2 < H.length/\ts 1=.ptr 0 0/\ts 2=.ptr 1 0/\ts 5=.ptr 2 0/\ts 6=I 0/\ts 26=S/\ts 27=I (s.slots.length:Int)/\ts 28=I (i:Int)) s.slots.length
  ⟨0,N0,L0,by omega,hN0,hL0,rfl,rfl,rfl,by simp,rfl,rfl,rfl,rfl,rfl,rfl,rfl⟩ ?_
 clear hN0 hL0 u1 u2 u3 v1 v2 v3
 rintro m ih ts H ⟨i,N,L,hi,hN,hL,h0,h1,h2,hHl,t1,t2,t5,t6,t26,t27,t28⟩
 obtain⟨u1,u2,u3⟩:=zBs (rowA s.nM (calF (inN s.c.a s.c.b s.c.c) (s.slots.take i)));obtain⟨v1,v2,v3⟩:=zBs (rowA (3*s.nM) (calF (inL s.c.a s.c.b s.c.c) (s.slots.take i)));rw[<- hN]at u1 u2 u3;rw[<- hL]at v1 v2 v3;have hpN:N.pur=true:=by rw[hN]; exact zFa _ _
 have hpL:L.pur=true:=by rw[hL]; exact zFa _ _
 refine FW.inLoop ?_
 by_cases hlt:i < s.slots.length
 ·have hd1:=natlt hlt;have hx:=hsidx i hlt;have hgy:=zAj Sl4.av s.slots default hlt;simp only[Int.toNat_natCast]at hx;rw[hgy]at hx;have hst:=hstep i hlt _ rfl;have hok:=hmem i hlt;rw[<- hN,<- hL]at hst;obtain⟨N',hN'⟩:∃ N',N'=AV.isl (rowA s.nM (calF (inN s.c.a s.c.b s.c.c) (s.slots.take (i+1)))):=⟨_,rfl⟩;obtain⟨L',hL'⟩:∃ L',L'=AV.isl (rowA (3*s.nM) (calF (inL s.c.a s.c.b s.c.c) (s.slots.take (i+1)))):=⟨_,rfl⟩;rw[<- hN',<- hL']at hst;obtain⟨w1,w2,w3⟩:=zBs (rowA s.nM (calF (inN s.c.a s.c.b s.c.c) (s.slots.take (i+1))));obtain⟨x1,x2,x3⟩:=zBs (rowA (3*s.nM) (calF (inL s.c.a s.c.b s.c.c) (s.slots.take (i+1))));rw[<- hN']at w1 w2 w3;rw[<- hL']at x1 x2 x3
  generalize s.slots.getD i default=x at hx hst hok
  have hcx:=Sl4.cells x;have hset:=sets_pur s.c.a s.c.b s.c.c x.pl.x x.pl.y x.pl.z x.pl.p x.pl.q x.pl.r x.pl.s x.pl.t x.pl.u hok;have q1:IsSet (.isl ((ownW s.c.a s.c.b s.c.c x.pl.x x.pl.y x.pl.z x.pl.p x.pl.q x.pl.r).map U)):=.isl (zAt _ _);have q2:IsSet (.isl ((zEx s.c.a s.c.b s.c.c x.pl.x x.pl.y x.pl.z x.pl.p x.pl.q x.pl.r x.pl.s x.pl.t x.pl.u).map U)):=.isl (zAt _ _);obtain⟨y1,y2,y3⟩:=q1.cell;obtain⟨z1,z2,z3⟩:=q2.cell
  generalize AV.isl ((ownW s.c.a s.c.b s.c.c x.pl.x x.pl.y x.pl.z x.pl.p x.pl.q x.pl.r).map U)=M1 at *
  generalize AV.isl ((zEx s.c.a s.c.b s.c.c x.pl.x x.pl.y x.pl.z x.pl.p x.pl.q x.pl.r x.pl.s x.pl.t x.pl.u).map U)=M2 at *
  have hbb:(0<=(i:Int)/\(i:Int) < ((s.slots.map Sl4.av).length:Int)):=⟨by omega,by rw[zM]; omega⟩;have hi1:=zAl (n:=(i:Int)+1) (by omega) (by omega);have e0:∀ X,(H++X)[0]?=some CC:=fun X=>(zL (zAc h0)).trans h0
  have e1:∀ X,(H++X)[1]?=_:=fun X=>(zL (zAc h1)).trans h1
  have e2:∀ X,(H++X)[2]?=_:=fun X=>(zL (zAc h2)).trans h2
  have s0:∀ X A,((H++X).set 2 A)[0]?=some CC:=fun X A=>(zQ (by omega)).trans (e0 X)
  have s1:∀ X A,((H++X).set 2 A)[1]?=_:=fun X A=>(zQ (by omega)).trans (e1 X)
  have s2:∀ X A,((H++X).set 2 A)[2]?=some A:=fun X A=>zS (by simp; omega)
  simp only[CC]at e0 s0 h0;refine goN ?_;simp only[push_cast,seval,↓kw2,t1,t2,t5,t6,t26,t27,t28,hd1,hx,hcx,h0,h1,h2,e0,e1,e2,zAd,getA,zAe,setA,zAb];refine⟨hbb,AC.pur hset ?_⟩;refine goN ?_;simp only[push_cast,seval,↓kw2,t1,t2,t5,t6,t26,t27,t28,e0,e1,e2,zAd,getA,zAe,setA,zAb,u1,u2,u3,v1,v2,v3];refine AC.pur hst ?_;refine goN ?_;simp only[push_cast,seval,↓kw2,t1,t2,t5,t6,t26,t27,t28,e0,e1,e2,zAd,getA,w1,w2,w3,x1,x2,x3,hi1];exact ih (m - 1) (by omega) _ _ ⟨i+1,N',L',by omega,hN',hL',s0 _ _,s1 _ _,s2 _ _,by simp; omega,t1,t2,t5,rfl,t26,t27,rfl⟩
 ·have hd1:=natge hlt;rw[List.take_of_length_le (by omega)]at hN hL;rw[<- hN,<- hL];refine goN ?_;simp only[push_cast,seval,↓kw2,t1,t2,t5,t6,t26,t27,t28,hd1,h0,h1,h2,u1,u2,u3,v1,v2,v3];rw[zS (zAc h1)];exact⟨_,rfl,zAa (by simp[AV.pur,AV.purL,hpN,hpL]) rfl⟩
theorem or_is{n:Int}{xs ys:List Int}(ux:∀ w∈xs,inU w)(uy:∀ w∈ys,inU w)(c1:schk n xs=0)(c2:schk n ys=0):Pur zP GG 58 [I n,.isl (xs.map U),.isl (ys.map U)] (.tup [.isl ((List.zipWith orwV xs ys).map U),I 0]):=by
 obtain⟨hn,lx,bx⟩:=(zBt ux).1 c1;obtain⟨_,ly,by'⟩:=(zBt uy).1 c2;have q1:IsSet (.isl (xs.map U)):=.isl ux;have q2:IsSet (.isl (ys.map U)):=.isl uy;have q3:IsSet (.isl ((List.zipWith orwV xs ys).map U)):=.isl (zCo zEl xs ys);exact or_of (joined_ok n orw_pur ux uy (by omega) (by omega) (by omega) (check_of c1) (check_of c2)) q1.pur q2.pur q3.pur
theorem or_chk{n:Int}{xs ys:List Int}(ux:∀ w∈xs,inU w)(uy:∀ w∈ys,inU w)(c1:schk n xs=0)(c2:schk n ys=0):schk n (List.zipWith orwV xs ys)=0/\∀ m,zAy (List.zipWith orwV xs ys) m=(zAy xs m||zAy ys m):=by
 obtain⟨hn,lx,bx⟩:=(zBt ux).1 c1;obtain⟨_,ly,by'⟩:=(zBt uy).1 c2;have hl:xs.length=ys.length:=by omega
 have iz:=zCo zEl xs ys;exact⟨(zBt iz).2 ⟨hn,by rw[List.length_zipWith]; omega,fun m hm=>by rw[orw_bit ux uy hl,by' m hm,bx m hm]; rfl⟩,fun m=>orw_bit ux uy hl m⟩
theorem bad_is{a b c:Int}(hd:okD a b c){d h u:Sl}(l1:d.l.length<=2^20)(l2:h.l.length<=2^20)(l3:u.l.length<=2^20)(hb:badV (a*b*c) d.l h.l u.l=true) :
  Pur zP GG 70 [.agg [I a,I b,I c],d.s,h.s,u.s] (.tup [.isl ((ofL (a*b*c) (d.l++h.l)).map U),.isl ((ofL (3*(a*b*c)) u.l).map U),I 0]):=by
 have hm:=many_pur a b c;have hk:=chk_ok.2 hd;have hv:zAf a b c=a*b*c:=by rw[zAf,if_pos hd]
 rw[hk,hv]at hm;obtain⟨q1,q2,q3,q4⟩:=zBx hd;have hn1:1<=a*b*c:=zFp hd;have h3:IntKind.i64.wrap (3*(a*b*c))=3*(a*b*c):=zAl (by omega) (by omega)
 generalize hN:a*b*c=N at *
 have t1:=together_pur (n:=N) (by omega) (ls:=[d,h]) (by simp) (by simp; omega);have t2:=together_pur (n:=3*N) (by omega) (ls:=[u]) (by simp) (by simp; omega);rw[markA_two]at t1;rw[markA_one]at t2;obtain⟨d1,d2,d3⟩:=IsSl.cell d.h;obtain⟨h1,h2,h3'⟩:=IsSl.cell h.h;obtain⟨u1,u2,u3⟩:=IsSl.cell u.h;have pd:=d.pur;have ph:=h.pur;have pu:=u.pur;unfold badV at hb;rw[zA]at hb;rw[hb.1]at t1;rw[hb.2]at t2;simp only[if_true]at t1 t2;have e1:zDe [d,h]=d.l++h.l:=by simp[zDe]
 have e2:zDe [u]=u.l:=by simp[zDe]
 rw[e1]at t1;rw[e2]at t2;have qA:IsSet (.isl ((ofL N (d.l++h.l)).map U)):=.isl (zAt _ _);have qC:IsSet (.isl ((ofL (3*N) u.l).map U)):=.isl (zAt _ _);have hpA:=qA.pur;have hpC:=qC.pur
 generalize AV.isl ((ofL N (d.l++h.l)).map U)=A at *
 generalize AV.isl ((ofL (3*N) u.l).map U)=C at *
 refine goQ e70 TOk.nil 0 ?_ (by simp[AV.purL,AV.pur,pd,ph,pu]);simp only[push_cast,seval,↓kw2,d1,d2,d3,h1,h2,h3',u1,u2,u3];refine AC.pur hm ?_;refine goN ?_;simp only[push_cast,seval,↓kw2,d1,d2,d3,h1,h2,h3',u1,u2,u3];refine Own.freeze (f:=129) (pre:=[I N]) (post:=[]) (s:=.sl 1 0 2 2) (es:=[d.s,h.s]) (Own.row (es:=[d.s,h.s]) rfl (by simp)) (by simp[AV.purL,pd,ph]) ?_
 intro H1 _
 refine AC.pur t1 ?_;refine goN ?_;simp only[push_cast,seval,↓kw2,d1,d2,d3,h1,h2,h3',u1,u2,u3,h3];refine Own.freeze (f:=129) (pre:=[I (3*N)]) (post:=[]) (s:=.sl H1.length 0 1 1) (es:=[u.s]) (Own.row (es:=[u.s]) (by rw[zAd]; rfl) (by simp)) (by simp[AV.purL,pu]) ?_
 intro H2 _
 refine AC.pur t2 ?_;refine goN ?_;simp only[push_cast,seval,↓kw2];exact⟨_,rfl,zAa (by simp[AV.pur,AV.purL,hpA,hpC]) rfl⟩
def Sta.downW(s:Sta):List Int:=ofL (s.nM:Int) (s.down++s.shut)
def Sta.cutW(s:Sta):List Int:=ofL (3*(s.nM:Int)) s.cut
def Sta.busN(s:Sta)(f t:Int):List Int:=List.zipWith orwV (takN s.nM s.calN f t) s.downW
def Sta.busL(s:Sta)(f t:Int):List Int:=List.zipWith orwV (takN (3*s.nM) s.calL f t) s.cutW
theorem nM_rng{s:Sta}(f:s.fine):1<=s.nM/\s.nM<=4096:=by
 have hd:=zFi f;have:=nM_eq f;obtain⟨q1,q2,q3,q4⟩:=zBx hd;have:=zFp hd;omega
theorem tak_chk{n:Nat}(h1:1<=n)(h2:n<=12288)(g:Nat->List Slt)(f t:Int):schk (n:Int) (takN n g f t)=0:=zCa (by omega) fun k hk=>thL_rng k hk
theorem down_in{s:Sta}(f:s.fine):(∀ k∈s.down++s.shut,0<=k/\k < (s.nM:Int))/\∀ k∈s.cut,0<=k/\k < 3*(s.nM:Int):=by
 have hm:=f.mr;rw[nM_eq f];unfold Sta.marks badV at hm;simp only[zA]at hm;refine⟨fun k hk=>?_,(mark_in hm.2).1⟩
 rcases List.mem_append.1 hk with h | h
 ·exact(mark_in hm.1.1).1 k h
 ·exact(mark_in hm.1.2).1 k h
theorem bus_chk{s:Sta}(f:s.fine)(fr till:Int):schk (s.nM:Int) (s.busN fr till)=0/\schk (3*(s.nM:Int)) (s.busL fr till)=0/\(∀ w∈s.busN fr till,inU w)/\(∀ w∈s.busL fr till,inU w) /\
  (∀ m,zAy (s.busN fr till) m=(zAy (takN s.nM s.calN fr till) m||zAy s.downW m))/\(∀ m,zAy (s.busL fr till) m=(zAy (takN (3*s.nM) s.calL fr till) m||zAy s.cutW m)):=by
 obtain⟨n1,n2⟩:=nM_rng f;obtain⟨d1,d2⟩:=down_in f;have e3:((3*s.nM:Nat):Int)=3*(s.nM:Int):=by omega
 have c1:=tak_chk n1 (by omega) s.calN fr till;have c2:=tak_chk (n:=3*s.nM) (by omega) (by omega) s.calL fr till;rw[e3]at c2;have c3:schk (s.nM:Int) s.downW=0:=zCa (by omega) d1;have c4:schk (3*(s.nM:Int)) s.cutW=0:=zCa (by omega) d2;have x1:=or_chk (zAt _ _) (zAt _ _) c1 c3;have x2:=or_chk (zAt _ _) (zAt _ _) c2 c4;exact⟨x1.1,x2.1,zCo zEl _ _,zCo zEl _ _,x1.2,x2.2⟩
theorem e48:Ent zP 48 Tryz.f48 [] 3:=.mk Tryz.func48 rfl
theorem sbusy_pur{s:Sta}(h:s.good)(hl:s.lim)(f:s.fine){fr till:Int}(hft:spC fr till=0):Pur zP GG 48 [s.av,s.yard,.agg [I fr,I till]] (.tup [.isl ((s.busN fr till).map U),.isl ((s.busL fr till).map U),I 0]):=by
 have hd:=zFi f;have hn:=nM_eq f;have hm:=many_pur s.c.a s.c.b s.c.c;have hk:=chk_ok.2 hd;have hv:zAf s.c.a s.c.b s.c.c=s.c.a*s.c.b*s.c.c:=by rw[zAf,if_pos hd]
 rw[hk,hv,<- hn]at hm;obtain⟨n1,n2⟩:=nM_rng f;have h33:IntKind.i64.wrap (3*(s.nM:Int))=3*(s.nM:Int):=zAl (by omega) (by omega);have hbd:=bad_is hd (d:=⟨s.ds,s.down,h.ds⟩) (h:=⟨s.hs,s.shut,h.hs⟩) (u:=⟨s.us,s.cut,h.us⟩) hl.dl hl.hl hl.ul f.mr;rw[<- hn]at hbd;have gN:=(slots_okG f s.slots.length s.nM).1;have gL:=(slots_okG f s.slots.length (3*s.nM)).2;rw[List.take_length]at gN gL;have hB:=yBusy_pur hd hn (g:=s.calN) (h:=s.calL) gN gL hft;obtain⟨d1,d2⟩:=down_in f;have e3:((3*s.nM:Nat):Int)=3*(s.nM:Int):=by omega
 have c1:=tak_chk n1 (by omega) s.calN fr till;have c2:=tak_chk (n:=3*s.nM) (by omega) (by omega) s.calL fr till;rw[e3]at c2;have c3:schk (s.nM:Int) s.downW=0:=zCa (by omega) d1;have c4:schk (3*(s.nM:Int)) s.cutW=0:=zCa (by omega) d2;have o1:=or_is (zAt _ _) (zAt _ _) c1 c3;have o2:=or_is (zAt _ _) (zAt _ _) c2 c4;have r1:IsSet (.isl ((s.busN fr till).map U)):=.isl (zCo zEl _ _);have r2:IsSet (.isl ((s.busL fr till).map U)):=.isl (zCo zEl _ _);have v1:=r1.pur;have v2:=r2.pur;have py:=ydA_pur s.c.a s.c.b s.c.c s.nM s.calN s.calL;obtain⟨k1,k2,k3⟩:=zBs (rowA s.nM s.calN);obtain⟨j1,j2,j3⟩:=zBs (rowA (3*s.nM) s.calL);have hZ:=h.cell;obtain⟨⟨⟨a1,a2,a3⟩,b1,b2,b3⟩,⟨⟨cc1,cc2,cc3⟩,dd1,dd2,dd3⟩,⟨ee1,ee2,ee3⟩,⟨f1,f2,f3⟩,g1,g2,g3⟩:=h.cell;obtain⟨p1,p2,p3,p4,p5,p6,p7⟩:=h.purs;show Pur zP GG 48 [ST s.c.a s.c.b s.c.c s.c.boot s.c.free s.c.tries s.c.age s.cs s.now s.next s.js s.ps s.ks s.ds s.hs s.us,s.yard,.agg [I fr,I till]] _
 change Pur zP GG 58 [I (s.nM:Int),.isl ((takN s.nM s.calN fr till).map U),.isl (s.downW.map U)] (.tup [.isl ((s.busN fr till).map U),I 0])at o1
 change Pur zP GG 58 [I (3*(s.nM:Int)),.isl ((takN (3*s.nM) s.calL fr till).map U),.isl (s.cutW.map U)] (.tup [.isl ((s.busL fr till).map U),I 0])at o2
 change Pur zP GG 70 [.agg [I s.c.a,I s.c.b,I s.c.c],s.ds,s.hs,s.us] (.tup [.isl (s.downW.map U),.isl (s.cutW.map U),I 0])at hbd
 have w1:IsSet (.isl ((takN s.nM s.calN fr till).map U)):=.isl (zAt _ _);have w2:IsSet (.isl ((takN (3*s.nM) s.calL fr till).map U)):=.isl (zAt _ _);unfold Sta.yard;unfold ydA at py hB ⊢
 generalize AV.isl ((s.busN fr till).map U)=R1 at *
 generalize AV.isl ((s.busL fr till).map U)=R2 at *
 generalize AV.isl ((takN s.nM s.calN fr till).map U)=T1 at *
 generalize AV.isl ((takN (3*s.nM) s.calL fr till).map U)=T2 at *
 generalize AV.isl (s.downW.map U)=D1 at *
 generalize AV.isl (s.cutW.map U)=D2 at *
 generalize AV.isl (rowA s.nM s.calN)=GN at *
 generalize AV.isl (rowA (3*s.nM) s.calL)=GL at *
 have y1:GN.pur=true:=by simp[AV.pur,AV.purL]at py; exact py.1
 have y2:GL.pur=true:=by simp[AV.pur,AV.purL]at py; exact py.2
 refine goQ e48 TOk.nil 0 ?_ (by simp[AV.purL,AV.pur,p1,p2,p3,p4,p5,p6,p7,y1,y2]);simp only[push_cast,seval,↓kw2,hZ,k1,k2,k3,j1,j2,j3];refine AC.pur hm ?_;refine goN ?_;simp only[push_cast,seval,↓kw2,hZ,k1,k2,k3,j1,j2,j3];refine AC.pur hbd ?_;refine goN ?_;simp only[push_cast,seval,↓kw2,k1,k2,k3,j1,j2,j3];refine AC.pur hB ?_;refine goN ?_;simp only[push_cast,seval,↓kw2];refine AC.pur o1 ?_;refine goN ?_;simp only[push_cast,seval,↓kw2,h33];refine AC.pur o2 ?_;refine goN ?_;simp only[push_cast,seval,↓kw2];exact⟨_,rfl,zAa (by simp[AV.pur,AV.purL,v1,v2]) rfl⟩
def Sta.spE(s:Sta)(fr till:Int):Bool:=decide (fr < s.now)||(decide (till<=fr)||decide (1099511627776 < till))
theorem e25:Ent zP 25 Tryz.f25 [] 2:=.mk Tryz.func25 rfl
theorem spE_no{s:Sta}(f:s.fine){fr till:Int}(he:s.spE fr till=false):(s.now<=fr/\fr < till/\till<=1099511627776)/\spC fr till=0:=by
 have hc:=f.cf;unfold Sta.config at hc;simp only[zA,decide_eq_true_eq]at hc;unfold Sta.spE at he;simp only[Bool.or_eq_false_iff,decide_eq_false_iff_not]at he;exact⟨⟨by omega,by omega,by omega⟩,spC_0.2 ⟨by omega,by omega,by omega⟩⟩
theorem sBusy_ok{s:Sta}(h:s.good)(hl:s.lim)(f:s.fine){fr till:Int}(he:s.spE fr till=false):Pur zP GG 25 [s.av,.agg [I fr,I till]] (.tup [.isl ((s.busN fr till).map U),.isl ((s.busL fr till).map U),I 0]):=by
 have hC:=yard_pur h hl f;have hB:=sbusy_pur h hl f (spE_no f he).2;have hZ:=h.cell;obtain⟨⟨⟨a1,a2,a3⟩,b1,b2,b3⟩,⟨⟨c1,c2,c3⟩,d1,d2,d3⟩,⟨ee1,ee2,ee3⟩,⟨f1,f2,f3⟩,g1,g2,g3⟩:=h.cell;obtain⟨p1,p2,p3,p4,p5,p6,p7⟩:=h.purs;obtain⟨k1,k2,k3⟩:=zBs (rowA s.nM s.calN);obtain⟨j1,j2,j3⟩:=zBs (rowA (3*s.nM) s.calL);have r1:IsSet (.isl ((s.busN fr till).map U)):=.isl (zCo zEl _ _);have r2:IsSet (.isl ((s.busL fr till).map U)):=.isl (zCo zEl _ _);have v1:=r1.pur;have v2:=r2.pur;simp only[Sta.av]at hC hB;unfold Sta.yard ydA at hC hB
 generalize AV.isl (rowA s.nM s.calN)=GN at *
 generalize AV.isl (rowA (3*s.nM) s.calL)=GL at *
 generalize AV.isl ((s.busN fr till).map U)=R1 at *
 generalize AV.isl ((s.busL fr till).map U)=R2 at *
 unfold Sta.spE at he;simp only[Bool.or_eq_false_iff]at he;obtain⟨h1,h2,h3⟩:=he;show Pur zP GG 25 [ST s.c.a s.c.b s.c.c s.c.boot s.c.free s.c.tries s.c.age s.cs s.now s.next s.js s.ps s.ks s.ds s.hs s.us,.agg [I fr,I till]] _;refine goQ e25 TOk.nil 0 ?_ (by simp[AV.purL,AV.pur,p1,p2,p3,p4,p5,p6,p7]);simp only[push_cast,seval,↓kw2,hZ];refine AC.pur hC ?_;refine goN ?_;simp only[push_cast,seval,↓kw2,hZ,k1,k2,k3,j1,j2,j3,h1,h2,h3];refine AC.pur hB ?_;refine goN ?_;simp only[push_cast,seval,↓kw2];exact⟨_,rfl,zAa (by simp[AV.pur,AV.purL,v1,v2]) rfl⟩
end Go.Ab.Pd
