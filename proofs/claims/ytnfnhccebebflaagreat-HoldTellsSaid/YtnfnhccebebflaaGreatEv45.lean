/- One of the texts that this claim stands on. -/
import Derived.Test.YtnfnhccebebflaaGreatEv44
import Derived.Test.YtnfnhccebebflaaGreatEv37
import Derived.Test.YtnfnhccebebflaaGreatEv12
set_option maxHeartbeats 40000000
set_option maxRecDepth 400000
set_option linter.all false
namespace Go.Ab.Pd
open Go.Proofs
def SeqM{κ:Type}[Inhabited κ](M:MS κ):Prop:=M.2=M.1.length∧∀ i,i < M.1.length→(M.1.getD i default).1=i
def posM{κ:Type}[DecidableEq κ](M:MS κ)(k:κ):Nat:=match fndM k M.1 with
 | some i=>i
 | none=>M.1.length
def entM{κ:Type}[DecidableEq κ](M:MS κ)(k:κ):MS κ:=match fndM k M.1 with
 | some i=>M
 | none=>(M.1++[(M.2,k,0)],M.2+1)
section
variable {κ:Type} [DecidableEq κ] [Inhabited κ]
theorem seq_put{M:MS κ}(h:SeqM M)(k:κ)(v:Int):SeqM (putM M k v):=by
 obtain⟨h1,h2⟩:=h;unfold putM;cases hf:fndM k M.1 with
 | none =>
  refine⟨by simp[h1],fun i hi=>?_⟩;simp only[List.length_append,List.length_singleton]at hi
  by_cases hl:i < M.1.length
  ·have:=h2 i hl;simpa[List.getD,List.getElem?_append_left hl]using this
  ·have:i=M.1.length:=by omega
   subst this;simp[List.getD,h1]
 | some j =>
  obtain⟨hj,_⟩:=zEr hf;refine⟨by simp[h1],fun i hi=>?_⟩;simp only[List.length_set]at hi
  by_cases hij:j=i
  ·subst hij;have:=h2 j hj;simpa[List.getD,hj]using this
  ·have:=h2 i hi;simpa[List.getD,List.getElem?_set_ne hij]using this
omit [DecidableEq κ] in
theorem find_stamp{ek:κ→AV}{ev:Int→AV}{l:List (Nat × κ × Int)}(h:∀ i,i < l.length→(l.getD i default).1=i){n:Nat}(hn:n < l.length):(encM ek ev l).findIdx? (fun e=>(e.1:Int)==(n:Int))=some n:=by
 rw[List.findIdx?_eq_some_iff_getElem];have hl:(encM ek ev l).length=l.length:=by simp[encM]
 have hg:∀ i (hi:i < l.length),((encM ek ev l)[i]'(by omega)).1=i:=fun i hi=>by
  have:=h i hi;simp[List.getD,hi]at this;simpa[encM]using this
 refine⟨by omega,by rw[hg n hn]; simp,fun j hj=>?_⟩;rw[hg j (by omega)];simp;omega
theorem ent_M{ek:κ→AV}{ev:Int→AV}{t kt et:TypeId}(hu:Tryz.prog.underlying t=some (.map kt et))(hz:zBj Tryz.prog et=some (ev 0))(he:∀ a b,aEq Tryz.prog 10000 kt (ek a) (ek b)=some (decide (a=b)))(hck:∀ a,ckOk Tryz.prog 10000 kt (ek a)=true)(hfl:∀ a,flatA (ek a)=true)
  {H:List AO} {id:Nat} {M:MS κ} (hS:SeqM M) (hm:H[id]?=some (.map (encM ek ev M.1) M.2)) (k:κ):aMapEntry Tryz.prog t (.mp id) (ek k) H=some ⟨True,.tup [ev (getM M k),I (posM M k:Nat)],H.set id (.map (encM ek ev (entM M k).1) (entM M k).2)⟩:=by
 unfold aMapEntry getM posM entM;simp only[hu,hm,hck,hfl,and_self,if_true,find_M he];cases hf:fndM k M.1 with
 | none=>simp only[hz,encM_app,hS.1]
 | some i =>
  obtain⟨h1,h2⟩:=zEr hf;have h3:=hS.2 i h1;simp only[encM_get h1 default,h2 default,h3,encM_set];have:M.1.set i (i,k,(M.1.getD i default).2.2)=M.1:=by
   exact set_getD (d:=default) h1 (Prod.ext h3 (Prod.ext (h2 default) rfl))
  rw[this]
theorem store_M{ek:κ→AV}{ev:Int→AV}{H:List AO}{id:Nat}{M:MS κ}(hS:SeqM M)(k:κ)(hm:H[id]?=some (.map (encM ek ev (entM M k).1) (entM M k).2))(v:Int):aEntryStore (.mp id) (I (posM M k:Nat)) (ev v) H=some ⟨True,.un,H.set id (.map (encM ek ev (putM M k v).1) (putM M k v).2)⟩:=by
 unfold aEntryStore;simp only[aInt,hm];obtain⟨h1,h2⟩:=hS;unfold entM posM putM;cases hf:fndM k M.1 with
 | none =>
  have hfs:(encM ek ev (M.1++[(M.2,k,0)])).findIdx? (fun e=>(e.1:Int)==(M.1.length:Int))=some M.1.length:=find_stamp (n:=M.1.length) (fun i hi=>by
   simp only[List.length_append,List.length_singleton]at hi
   by_cases hl:i < M.1.length
   ·have:=h2 i hl;simpa[List.getD,List.getElem?_append_left hl]using this
   ·have:i=M.1.length:=by omega
    subst this;simp[List.getD,h1]) (by simp)
  simp only[hfs,encM_get (l:=M.1++[(M.2,k,0)]) (i:=M.1.length) (by simp) default];have hgt:(M.1++[((M.2,k,0):Nat × κ × Int)]).getD M.1.length default=(M.2,k,0):=by simp[List.getD]
  have hst:(M.1++[((M.2,k,0):Nat × κ × Int)]).set M.1.length (M.2,k,v)=M.1++[(M.2,k,v)]:=by simp
  rw[hgt];simp only[encM_set,hst]
 | some i =>
  obtain⟨hi,hk⟩:=zEr hf;have hfs:(encM ek ev M.1).findIdx? (fun e=>(e.1:Int)==(i:Int))=some i:=find_stamp h2 hi;simp only[hfs,encM_get hi default,hk default,encM_set]
theorem get_put{M:MS κ}(k:κ)(v:Int):getM (putM M k v) k=v:=by
 have key:∀ l:List (Nat × κ × Int),(∀ i,fndM k l=some i→∀ e:Nat × κ × Int,e.2.1=k→fndM k (l.set i e)=some i)∧(fndM k l=none→∀ e:Nat × κ × Int,e.2.1=k→fndM k (l++[e])=some l.length):=by
  intro l
  induction l with
  | nil=>exact⟨fun i h=>(by cases h),fun _ e he=>by simp[fndM,he]⟩
  | cons x l ih =>
   constructor
   ·intro i h e he
    unfold fndM at h
    split at h
    ·cases h;rw[List.set_cons_zero];simp[fndM,he]
    ·rename_i hx;cases hf:fndM k l with
     | none=>rw[hf]at h; cases h
     | some j =>
      rw[hf]at h;cases h;rw[List.set_cons_succ];unfold fndM;rw[if_neg hx,ih.1 j hf e he]; rfl
   ·intro h e he
    unfold fndM at h
    split at h
    ·cases h
    ·rename_i hx;have hn:fndM k l=none:=by
      cases hf:fndM k l with
      | none=>rfl
      | some j=>rw[hf]at h; cases h
     rw[List.cons_append];unfold fndM;rw[if_neg hx,ih.2 hn e he]; simp
 unfold putM;cases hf:fndM k M.1 with
 | none =>
  unfold getM;simp only;rw[(key M.1).2 hf _ rfl];simp[List.getD]
 | some i =>
  unfold getM;simp only;rw[(key M.1).1 i hf _ rfl];have:=(zEr hf).1;simp[List.getD,this]
theorem get_ent{M:MS κ}(k:κ):getM (entM M k) k=getM M k:=by
 have h0:=get_put (M:=M) k 0;unfold entM;unfold putM at h0;cases hf:fndM k M.1 with
 | none =>
  rw[hf]at h0;simp only at h0 ⊢;rw[h0];unfold getM;rw[hf]
 | some i=>rfl
end
abbrev A2(a b:Int):AV:=.agg [I a,I b]
def encA(k:Int × Int):AV:=A2 k.1 k.2
theorem eqA0(a b c d:Int):aEq Tryz.prog 10000 174 (A2 a b) (A2 c d)=some (a==c&&(b==d&&true)):=by kernel_rfl
theorem eqA(x y:Int × Int):aEq Tryz.prog 10000 174 (encA x) (encA y)=some (decide (x=y)):=by
 obtain⟨a,b⟩:=x;obtain⟨c,d⟩:=y;show aEq Tryz.prog 10000 174 (A2 a b) (A2 c d)=_;rw[eqA0,Option.some.injEq,Bool.eq_iff_iff,decide_eq_true_iff];simp
theorem ckA0(a b:Int):ckOk Tryz.prog 10000 174 (A2 a b)=true:=by kernel_rfl
theorem ckA(x:Int × Int):ckOk Tryz.prog 10000 174 (encA x)=true:=ckA0 x.1 x.2
theorem flA(x:Int × Int):flatA (encA x)=true:=rfl
def zDe(cls:List Cls)(P:Int→Bool):MS (Int × Int)→List Jb→Bool
 | _,[]=>true
 | M,j::l=>if j.st=2 then !(decide ((cls.getD j.cls.toNat default).d < IntKind.i64.wrap (getM M (j.user,j.cls)+1))||!P j.id)&&zDe cls P (putM M (j.user,j.cls) (IntKind.i64.wrap (getM M (j.user,j.cls)+1))) l else zDe cls P M l
def zCf(ps:List Prt)(id:Int):Bool:=anyN (fun i=>decide ((ps.getD i default).job=id)) ps.length 0
theorem e115:Ent Tryz.prog 115 Tryz.f115 [] 2:=.mk Tryz.func115 rfl
attribute [push_cast] Tryz.f115
theorem started1_ac{p:Prt}{q:Nat}{a2 a3 a4 a5 a6 a7 a8 a9 b1 b2 b3 b4 b5 b6 b7:AV}{id:Int}{H:List AO}(h0:H[q]?=some (.cells [I id,a2,a3,a4,a5,a6,a7,a8,a9,b1,b2,b3,b4,b5,b6,b7])){K:AV→List AO→Prop}(hK:∀ X,K (B (decide (p.job=id))) (H++X)):AC Tryz.prog GG 115 [p.av,.ptr q 0] H K:=by
 have h0':∀ l,(H++l)[q]?=_:=fun l=>(List.getElem?_append_left (zAe h0)).trans h0
 show AC Tryz.prog GG 115 [PA p.job p.pl p.ph p.tries p.since,.ptr q 0] H K;refine goE e115 TOk.nil 0 ?_;simp only[push_cast,seval,↓kw2,h0,h0',zAf,getA,zAh,setA,zAb];exact⟨_,rfl,hK _⟩
def ord7:List (List Nat):=[[0,1,2,3,4,5,6],[0,1,2,4,3,5,6],[0,1,2,4,5,3,6],[0,1,4,2,3,5,6],[0,1,4,2,5,3,6],[0,1,4,5,2,3,6],[1,0,2,3,4,5,6],[1,0,2,4,3,5,6],[1,0,2,4,5,3,6],[1,0,4,2,3,5,6],[1,0,4,2,5,3,6],[1,0,4,5,2,3,6]]
theorem e57:Ent Tryz.prog 57 Tryz.f57 [7,8] 1:=.mk Tryz.func57 rfl
attribute [push_cast] Tryz.f57
theorem started_pur{s:Sta}(h:s.good)(hl:s.lim)(hcl:∀ j∈s.jobs,0≤j.cls∧j.cls < s.c.cls.length):Pur Tryz.prog GG 57 [s.av] (B (zDe s.c.cls (zCf s.parts) ([],0) s.jobs)):=by
 have hZ:=h.cell;obtain⟨⟨⟨a1,a2,a3⟩,b1,b2,b3⟩,⟨⟨c1,c2,c3⟩,d1,d2,d3⟩,⟨e1,e2,e3⟩,⟨f1,f2,f3⟩,g1,g2,g3⟩:=h.cell;obtain⟨p1,p2,p3,p4,p5,p6,p7⟩:=h.purs;have hlj:=hl.jl;have hlen:=h.js.1.len un53;rw[List.length_map]at hlen;have hidx:=fun(i:Nat) (hi:i < s.jobs.length) (H:List AO)=>h.js.1.idx (P:=Tryz.prog) un53 sz83 (i:=(i:Int)) (by rw[List.length_map]; omega) (by omega) H
 show Pur Tryz.prog GG 57 [ST s.c.a s.c.b s.c.c s.c.boot s.c.free s.c.tries s.c.age s.cs s.now s.next s.js s.ps s.ks s.ds s.hs s.us] _;refine goQ e57 TOk.nil 0 ?_ (by simp[AV.purL,AV.pur,p1,p2,p3,p4,p5,p6,p7]);simp only[push_cast,seval,↓kw2,hZ,hlen]
 let CC:AO:=.cells [I s.c.a,I s.c.b,I s.c.c,I s.c.boot,I s.c.free,I s.c.tries,I s.c.age,s.cs,I s.now,I s.next,s.js,s.ps,s.ks,s.ds,s.hs,s.us]
 refine FW.loopInv (fun m ts H=>∃(i:Nat) (M:MS (Int × Int)),i+m=s.jobs.length∧SeqM M∧zDe s.c.cls (zCf s.parts) M (s.jobs.drop i)=zDe s.c.cls (zCf s.parts) ([],0) s.jobs∧H[0]?=some CC∧H[1]?=some (.map (encM encA I M.1) M.2)∧ts 1=.ptr 0 0∧ts 3=.mp 1∧ts 10=s.js∧ts 11=I (s.jobs.length:Int)∧ts 12=I (i:Int)) s.jobs.length
  ⟨0,([],0),by omega,⟨rfl,fun i hi=>by simp at hi⟩,rfl,rfl,rfl,rfl,rfl,rfl,rfl,rfl⟩ ?_
 rintro m ih ts H ⟨i,M,hi,hsq,hst,h0,h1,t1,t3,t10,t11,t12⟩
 refine FW.inLoop ?_
 by_cases hlt:i < s.jobs.length
 ·have hd1:decide ((i:Int) < (s.jobs.length:Int))=true:=by simp[hlt]
  have hx:=hidx i hlt;have hgy:=zAc Jb.av s.jobs default hlt;simp only[Int.toNat_natCast]at hx;rw[hgy]at hx;rw[zAn default hlt]at hst;have hg:=h.js.get i;have hjc:=hcl (s.jobs.getD i default) (by simp[List.getD,hlt])
  generalize s.jobs.getD i default=j at hx hst hg hjc
  have hcx:=Jb.cells j;obtain⟨m1,m2,m3⟩:=IsSl.cell hg;have hbb:(0≤(i:Int)∧(i:Int) < ((s.jobs.map Jb.av).length:Int)):=⟨by omega,by rw[List.length_map]; omega⟩;have hi1:=zAg (n:=(i:Int)+1) (by omega) (by omega)
  by_cases hj2:j.st=2
  ·have hd2:decide (j.st=2)=true:=decide_eq_true hj2;rw[zDe,if_pos hj2]at hst;refine goW TOk.nil [7,8] 0 ?_;simp only[push_cast,seval,↓kw2,t1,t3,t10,t11,t12,hd1,hd2,hx,hcx,m1,m2,m3,zAf,getA,zAh,setA,zAb,h0,h1,List.contains_cons,Bool.true_or,Bool.or_true,Bool.false_or];have hL1:=zAe h1;have hm1:∀ X,(H++X)[1]?=some (.map (encM encA I M.1) M.2):=fun X=>(List.getElem?_append_left hL1).trans h1
   have hget:∀ X,zFi Tryz.prog 173 (.mp 1) (.agg [I j.user,I j.cls]) false (H++X)=some ⟨True,I (getM M (j.user,j.cls)),H++X⟩:=fun X=>get_M (ek:=encA) (ev:=I) un173 ze3 eqA ckA (hm1 X) (j.user,j.cls)
   have hent:∀ X,aMapEntry Tryz.prog 173 (.mp 1) (.agg [I j.user,I j.cls]) (H++X)=some ⟨True,.tup [I (getM M (j.user,j.cls)),I (posM M (j.user,j.cls):Nat)],(H++X).set 1 (.map (encM encA I (entM M (j.user,j.cls)).1) (entM M (j.user,j.cls)).2)⟩:=fun X=>ent_M (ek:=encA) (ev:=I) un173 ze3 eqA ckA flA hsq (hm1 X) (j.user,j.cls)
   have hm2:∀ X o,((H++X).set 1 o)[1]?=some o:=fun X o=>List.getElem?_set_self (by simp; omega)
   have hge2:∀ X,zFi Tryz.prog 173 (.mp 1) (.agg [I j.user,I j.cls]) false ((H++X).set 1 (.map (encM encA I (entM M (j.user,j.cls)).1) (entM M (j.user,j.cls)).2))=some ⟨True,I (getM M (j.user,j.cls)),(H++X).set 1 (.map (encM encA I (entM M (j.user,j.cls)).1) (entM M (j.user,j.cls)).2)⟩:=fun X=>by
    have:=get_M (ek:=encA) (ev:=I) un173 ze3 eqA ckA (hm2 X (.map (encM encA I (entM M (j.user,j.cls)).1) (entM M (j.user,j.cls)).2)) (j.user,j.cls);rw[get_ent]at this;exact this
   have hsto:∀ X v,aEntryStore (.mp 1) (I (posM M (j.user,j.cls):Nat)) (I v) ((H++X).set 1 (.map (encM encA I (entM M (j.user,j.cls)).1) (entM M (j.user,j.cls)).2))=some ⟨True,.un,(H++X).set 1 (.map (encM encA I (putM M (j.user,j.cls) v).1) (putM M (j.user,j.cls) v).2)⟩:=fun X v=>by
    have:=store_M (ek:=encA) (ev:=I) hsq (j.user,j.cls) (hm2 X _) v;rw[List.set_set]at this;exact this
   refine⟨hbb,FW.drawAll hmix (ls:=ord7) (by kernel_rfl) (by kernel_rfl) (Inv:=fun ts' H'=>(ts' 1=.ptr 0 0∧ts' 3=.mp 1∧ts' 5=.ptr H.length 0∧ts' 6=.ptr (H.length+1) 0∧ts' 10=s.js∧ts' 11=I (s.jobs.length:Int)∧ts' 12=I (i:Int)) ∧
    H'=(H++[AO.cells [I j.id,I j.user,I j.cls,I j.w.p,I j.w.q,I j.w.r,B j.w.s,B j.w.t,B j.w.u,B j.w.v,I j.wall,I j.prio,B j.held,j.aft,.c (.int .u8 j.st),I j.came],AO.cells [I j.user,I j.cls]]).set 1 (.map (encM encA I (putM M (j.user,j.cls) (IntKind.i64.wrap (getM M (j.user,j.cls)+1))).1) (putM M (j.user,j.cls) (IntKind.i64.wrap (getM M (j.user,j.cls)+1))).2)) ?_ ?_⟩
   ·intro l hl
    simp only[ord7,List.mem_cons,List.not_mem_nil,or_false]at hl
    rcases hl with rfl | rfl | rfl | rfl | rfl | rfl | rfl | rfl | rfl | rfl | rfl | rfl
    all_goals
     simp only[push_cast,seval,↓kw2,t1,t3,t10,t11,t12,zAf,getA,aop3,hget,hge2,hent,hsto]
   ·clear t1 t3 t10 t11 t12
    rintro ts' H' ⟨⟨t1,t3,t5,t6,t10,t11,t12⟩,rfl⟩
    have hcx2:=h.cs.idx (P:=Tryz.prog) un50 sz72 (i:=j.cls) (by rw[List.length_map]; omega) (by omega);rw[zAc Cls.av s.c.cls default (by omega)]at hcx2;have hcc:=Cls.cells (s.c.cls.getD j.cls.toNat default)
    generalize s.c.cls.getD j.cls.toNat default=cl at hcx2 hcc hst
    generalize IntKind.i64.wrap (getM M (j.user,j.cls)+1)=v at hst ⊢
    generalize hXX:[AO.cells [I j.id,I j.user,I j.cls,I j.w.p,I j.w.q,I j.w.r,B j.w.s,B j.w.t,B j.w.u,B j.w.v,I j.wall,I j.prio,B j.held,j.aft,.c (.int .u8 j.st),I j.came],AO.cells [I j.user,I j.cls]]=X
    have hX0:X[0]?=some (.cells [I j.id,I j.user,I j.cls,I j.w.p,I j.w.q,I j.w.r,B j.w.s,B j.w.t,B j.w.u,B j.w.v,I j.wall,I j.prio,B j.held,j.aft,.c (.int .u8 j.st),I j.came]):=by rw[← hXX]; rfl
    have hX1:X[1]?=some (.cells [I j.user,I j.cls]):=by rw[← hXX]; rfl
    have hlo:=get_M (ek:=encA) (ev:=I) un173 ze3 eqA ckA (hm2 X (.map (encM encA I (putM M (j.user,j.cls) v).1) (putM M (j.user,j.cls) v).2)) (j.user,j.cls);rw[get_put,show encA (j.user,j.cls)=.agg [I j.user,I j.cls] from rfl]at hlo;have hs1:=hm2 X (.map (encM encA I (putM M (j.user,j.cls) v).1) (putM M (j.user,j.cls) v).2);have q0:((H++X).set 1 (.map (encM encA I (putM M (j.user,j.cls) v).1) (putM M (j.user,j.cls) v).2))[0]?=some CC:=by rw[List.getElem?_set_ne (by omega),List.getElem?_append_left (by omega)]; exact h0
    have q5:((H++X).set 1 (.map (encM encA I (putM M (j.user,j.cls) v).1) (putM M (j.user,j.cls) v).2))[H.length]?=X[0]?:=by rw[List.getElem?_set_ne (by omega),zAf]
    have q6:((H++X).set 1 (.map (encM encA I (putM M (j.user,j.cls) v).1) (putM M (j.user,j.cls) v).2))[H.length+1]?=X[1]?:=by rw[List.getElem?_set_ne (by omega),getA]
    rw[hX0]at q5;rw[hX1]at q6
    generalize (H++X).set 1 (.map (encM encA I (putM M (j.user,j.cls) v).1) (putM M (j.user,j.cls) v).2)=H2 at hlo hs1 q0 q5 q6 ⊢
    have hcb:(0≤j.cls∧j.cls < ((s.c.cls.map Cls.av).length:Int)):=⟨by omega,by rw[List.length_map]; omega⟩;simp only[CC]at q0;refine goW TOk.nil [7,8] 0 ?_;simp only[push_cast,seval,↓kw2,t1,t3,t5,t6,t10,t11,t12,List.contains_cons,Bool.true_or,Bool.or_true,Bool.false_or];refine FW.drawI hmix (by kernel_rfl) ?_;cases hc:decide (cl.d < v)
    ·rw[hc,Bool.false_or,Bool.not_not]at hst;simp only[push_cast,seval,↓kw2,symI_cons,symI_nil,t1,t3,t5,t6,t10,t11,t12,hlo,q0,q5,q6,hcx2,hcc,hc];refine⟨hcb,?_⟩;refine hasP h.ps hl.pl (fun _ H'=>∃ Y,H'=H2++Y) (pr:=fun i=>decide ((s.parts.getD i default).job=j.id)) ?_ ⟨[],by simp⟩ ?_
     ·rintro i _ K hi ⟨Y,rfl⟩ hK
      exact started1_ac ((List.getElem?_append_left (zAe q5)).trans q5) fun X=>hK _ ⟨Y++X,by simp⟩
     rintro H' ⟨_,_,Y,rfl⟩
     have hps:zCf s.parts j.id=anyN (fun i=>decide ((s.parts.getD i default).job=j.id)) s.parts.length 0:=rfl;rw[symI_on];cases hA:anyN (fun i=>decide ((s.parts.getD i default).job=j.id)) s.parts.length 0
     ·rw[hps,hA]at hst;simp only[push_cast,seval,↓kw2,symI_cons,symI_nil];refine goW TOk.nil [7,8] 0 ?_;simp only[push_cast,seval,↓kw2];exact⟨_,rfl,zAa rfl (by rw[← hst]; rfl)⟩
     ·rw[hps,hA,Bool.true_and]at hst;simp only[push_cast,seval,↓kw2,symI_cons,symI_nil];refine goW TOk.nil [7,8] 0 ?_;simp only[push_cast,seval,↓kw2,t12,hi1];exact ih (m - 1) (by omega) _ _ ⟨i+1,_,by omega,seq_put hsq _ _,hst,(List.getElem?_append_left (zAe q0)).trans q0,(List.getElem?_append_left (zAe hs1)).trans hs1,t1,t3,t10,t11,rfl⟩
    ·rw[hc,Bool.true_or]at hst;simp only[push_cast,seval,↓kw2,symI_cons,symI_nil,t1,t3,t5,t6,t10,t11,t12,hlo,q0,q5,q6,hcx2,hcc,hc];refine⟨hcb,?_⟩;refine goW TOk.nil [7,8] 0 ?_;simp only[push_cast,seval,↓kw2];exact⟨_,rfl,zAa rfl (by rw[← hst]; rfl)⟩
  ·have hd2:decide (j.st=2)=false:=decide_eq_false hj2;rw[zDe,if_neg hj2]at hst;refine goW TOk.nil [7,8] 0 ?_;simp only[push_cast,seval,↓kw2,t1,t3,t10,t11,t12,hd1,hd2,hx,hcx,m1,m2,m3,zAf,getA,zAh,setA,zAb,h0,h1,hi1];refine⟨hbb,ih (m - 1) (by omega) _ _ ⟨i+1,M,by omega,hsq,hst,(List.getElem?_append_left (zAe h0)).trans h0,(List.getElem?_append_left (zAe h1)).trans h1,t1,t3,t10,t11,rfl⟩⟩
 ·have hd1:decide ((i:Int) < (s.jobs.length:Int))=false:=by simp; omega
  rw[List.drop_eq_nil_of_le (by omega)]at hst;refine goW TOk.nil [7,8] 0 ?_;simp only[push_cast,seval,↓kw2,t1,t3,t10,t11,t12,hd1];exact⟨_,rfl,zAa rfl (by rw[← hst]; rfl)⟩
theorem IsSl.ne{s:AV}{l:List AV}(h:IsSl s l)(h0:0 < l.length):s=.isl l:=by
 rcases h with h | ⟨h,_⟩
 ·exact h
 ·rw[h]at h0; simp at h0
theorem sl_parts{l:List Prt}{i:Nat}(hi:i≤l.length):∃ C,(∀ H,zEm Tryz.prog 54 (.isl (l.map Prt.av)) H none (some (I (i:Int))) none=some (C,.isl ((l.take i).map Prt.av)))∧C:=by
 unfold zEm;simp only[un54,sz70,zBv];refine⟨True∧0≤(i:Int)∧0≤(i:Int).toNat∧(i:Int).toNat≤(l.map Prt.av).length∧(0 < (i:Int).toNat→((l.map Prt.av).getD 0 .un).cells.length=13),?_,?_⟩
 ·intro H
  show some (_,AV.isl (List.take ((i:Int).toNat - 0) (List.drop 0 (List.map Prt.av l))))=_;rw[Int.toNat_natCast,Nat.sub_zero,List.drop_zero,List.map_take]
 ·refine⟨trivial,by omega,by omega,by rw[List.length_map]; omega,fun h=>?_⟩;rw[zAc Prt.av l default (by omega)];rfl
theorem e113:Ent Tryz.prog 113 Tryz.f113 [] 3:=.mk Tryz.func113 rfl
attribute [push_cast] Tryz.f113
theorem parts1_ac{s:Sta}(h:s.good)(p o:Prt){H:List AO}{q0 q1:Nat}(h0:H[q0]?=some (.cells s.cel))(h1:H[q1]?=some (.cells p.av.cells)){K:AV→List AO→Prop}(hK:∀ X,K (B (s.meet p.pl o.pl)) (H++X)) :
  AC Tryz.prog GG 113 [o.av,.ptr q0 0,.ptr q1 0] H K:=by
 have hZ:=h.cell;obtain⟨⟨⟨a1,a2,a3⟩,b1,b2,b3⟩,⟨⟨c1,c2,c3⟩,d1,d2,d3⟩,⟨e1,e2,e3⟩,⟨f1,f2,f3⟩,g1,g2,g3⟩:=h.cell;obtain⟨p1,p2,p3,p4,p5,p6,p7⟩:=h.purs;have hm:=meetS_pur h p.pl o.pl;have w0:∀ X,(H++X)[q0]?=some (.cells s.cel):=fun X=>(List.getElem?_append_left (zAe h0)).trans h0
 have w1:∀ X,(H++X)[q1]?=some (.cells p.av.cells):=fun X=>(List.getElem?_append_left (zAe h1)).trans h1
 unfold Sta.cel at h0 w0;rw[Prt.cells]at h1;simp only[Prt.cells]at w1;simp only[Sta.av,Plc.av]at hm;show AC Tryz.prog GG 113 [PA o.job o.pl o.ph o.tries o.since,.ptr q0 0,.ptr q1 0] H K;refine goE e113 TOk.nil 0 ?_;simp only[push_cast,seval,↓kw2,hZ,h0,h1,w0,w1,zAf,getA,zAh,setA,zAb,List.length_cons,List.length_nil,List.take];refine AC.pur hm ?_;refine goN ?_;simp only[push_cast,seval,↓kw2];exact⟨_,rfl,hK _⟩
def Sta.odd1(s:Sta)(i:Nat):Bool:=(decide (0 < i)&&decide ((s.parts.getD i default).job≤(s.parts.getD (i - 1) default).job))||!s.part (s.parts.getD i default)
def Sta.odd2(s:Sta)(i:Nat):Bool:=anyN (fun k=>s.meet (s.parts.getD i default).pl ((s.parts.take i).getD k default).pl) (s.parts.take i).length 0
def Sta.partsV(s:Sta):Bool:=decide ((s.parts.length:Int)≤24)&&!anyN (fun i=>s.odd1 i||s.odd2 i) s.parts.length 0
theorem e56:Ent Tryz.prog 56 Tryz.f56 [] 1:=.mk Tryz.func56 rfl
attribute [push_cast] Tryz.f56
theorem parts_pur{s:Sta}(h:s.good)(hl:s.lim):Pur Tryz.prog GG 56 [s.av] (B s.partsV):=by
 have hZ:=h.cell;obtain⟨⟨⟨a1,a2,a3⟩,b1,b2,b3⟩,⟨⟨c1,c2,c3⟩,d1,d2,d3⟩,⟨e1,e2,e3⟩,⟨f1,f2,f3⟩,g1,g2,g3⟩:=h.cell;obtain⟨p1,p2,p3,p4,p5,p6,p7⟩:=h.purs;have hlen:=h.ps.len un54;rw[List.length_map]at hlen;unfold Sta.partsV;show Pur Tryz.prog GG 56 [ST s.c.a s.c.b s.c.c s.c.boot s.c.free s.c.tries s.c.age s.cs s.now s.next s.js s.ps s.ks s.ds s.hs s.us] _
 by_cases h24:24 < (s.parts.length:Int)
 ·rw[decide_eq_false (by omega),Bool.false_and];refine goQ e56 TOk.nil 0 ?_ (by simp[AV.purL,AV.pur,p1,p2,p3,p4,p5,p6,p7]);simp only[push_cast,seval,↓kw2,hZ,hlen,h24];exact⟨_,rfl,zAa rfl rfl⟩
 rw[decide_eq_true (by omega),Bool.true_and];have hidx:=fun(i:Nat) (hi:i < s.parts.length) (H:List AO)=>h.ps.idx (P:=Tryz.prog) un54 sz70 (i:=(i:Int)) (by rw[List.length_map]; omega) (by omega) H
 refine goQ e56 TOk.nil 0 ?_ (by simp[AV.purL,AV.pur,p1,p2,p3,p4,p5,p6,p7]);simp only[push_cast,seval,↓kw2,hZ,hlen,h24];refine FW.loopInv (fun m ts H=>∃ i:Nat,i+m=s.parts.length∧anyN (fun i=>s.odd1 i||s.odd2 i) m i=anyN (fun i=>s.odd1 i||s.odd2 i) s.parts.length 0∧H[0]?=some (.cells s.cel)∧ts 1=.ptr 0 0∧ts 12=s.ps∧ts 13=I (s.parts.length:Int)∧ts 14=I (i:Int)) s.parts.length
  ⟨0,by omega,rfl,rfl,rfl,rfl,rfl,rfl⟩ ?_
 rintro m ih ts H ⟨i,hi,hf,m0,t1,t12,t13,t14⟩
 refine FW.inLoop ?_
 by_cases hlt:i < s.parts.length
 ·have hd1:decide ((i:Int) < (s.parts.length:Int))=true:=by simp[hlt]
  have hx:=hidx i hlt;have hgy:=zAc Prt.av s.parts default hlt;simp only[Int.toNat_natCast]at hx;rw[hgy]at hx;obtain⟨m,rfl⟩:∃ m',m=m'+1:=⟨m - 1,by omega⟩;have hfs:anyN (fun i=>s.odd1 i||s.odd2 i) (m+1) i=((s.odd1 i||s.odd2 i)||anyN (fun i=>s.odd1 i||s.odd2 i) m (i+1)):=rfl;rw[hfs]at hf;have hP:=partS_pur h hl (s.parts.getD i default);have ho1:s.odd1 i=((decide (0 < i)&&decide ((s.parts.getD i default).job≤(s.parts.getD (i - 1) default).job))||!s.part (s.parts.getD i default)):=rfl;have ho2:s.odd2 i=anyN (fun k=>s.meet (s.parts.getD i default).pl ((s.parts.take i).getD k default).pl) (s.parts.take i).length 0:=rfl
  generalize hp0:s.parts.getD i default=p at hx hP ho1 ho2
  have hcx:=Prt.cells p;have hbb:(0≤(i:Int)∧(i:Int) < ((s.parts.map Prt.av).length:Int)):=⟨by omega,by rw[List.length_map]; omega⟩;have mm0:∀ X,(H++X)[0]?=some (.cells s.cel):=fun X=>(List.getElem?_append_left (zAe m0)).trans m0
  have mm0':=mm0;unfold Sta.cel at mm0';have hi1:=zAg (n:=(i:Int)+1) (by omega) (by omega);simp only[Sta.av,Prt.av]at hP;have hpe:=Go.Ab.Pd.IsSl.ne h.ps (by rw[List.length_map]; omega);obtain⟨C,hsl,hC⟩:=sl_parts (l:=s.parts) (i:=i) (by omega);rw[← hpe]at hsl;have hbad:s.odd1 i=true→anyN (fun i=>s.odd1 i||s.odd2 i) s.parts.length 0=true:=fun ho=>by rw[← hf,ho]; rfl
  have hmid:s.odd1 i=false→True:=fun _=>trivial
  by_cases hi0:i=0
  ·have d0:decide (0 < (i:Int))=false:=decide_eq_false (by omega);rw[decide_eq_false (by omega:¬0 < i),Bool.false_and,Bool.false_or]at ho1;refine goN ?_;simp only[push_cast,seval,↓kw2,hZ,t1,t12,t13,t14,hd1,hx,hcx,mm0',d0,zAf,getA,zAh,setA,zAb,List.length_cons,List.length_nil,List.take];cases hpt:s.part p
   ·rw[hpt]at hP ho1;have hb:=hbad ho1;refine⟨hbb,_,toVQ hP,?_⟩;simp only[push_cast,seval,↓kw2,hZ,t1,t12,t13,t14,mm0',zAf,getA,zAh,setA,zAb,List.length_cons,List.length_nil,List.take];exact⟨_,rfl,zAa rfl (by rw[hb]; rfl)⟩
   ·rw[hpt]at hP ho1;rw[show s.odd1 i=false from ho1,Bool.false_or]at hf;refine⟨hbb,_,toVQ hP,?_⟩;simp only[push_cast,seval,↓kw2,hZ,t1,t12,t13,t14,mm0',zAf,getA,zAh,setA,zAb,List.length_cons,List.length_nil,List.take,hsl];refine⟨hC,?_⟩;refine hasP (.inl rfl) (by rw[List.length_take]; omega) (fun _ H2=>∃ X,H2=H++(AO.cells [I p.job,I p.pl.x,I p.pl.y,I p.pl.z,I p.pl.p,I p.pl.q,I p.pl.r,B p.pl.s,B p.pl.t,B p.pl.u,.c (.int .u8 p.ph),I p.tries,I p.since]::X)) (pr:=fun k=>s.meet p.pl ((s.parts.take i).getD k default).pl) ?_ ⟨[],rfl⟩ ?_
    ·rintro k H2 K hk ⟨X,rfl⟩ hK
     exact parts1_ac h p _ (q0:=0) (q1:=H.length) (mm0 _) (by rw[zAf]; rfl) fun X2=>hK _ ⟨X++X2,by simp⟩
    rintro H2 ⟨_,_,X,rfl⟩
    show FW _ _ _ _ _ (upd _ _ (B (anyN (fun k=>s.meet p.pl ((s.parts.take i).getD k default).pl) (s.parts.take i).length 0))) _ _;rw[← ho2];cases ho:s.odd2 i
    ·rw[ho,Bool.false_or]at hf;refine goN ?_;simp only[push_cast,seval,↓kw2,t14,hi1];refine goN ?_;simp only[push_cast,seval,↓kw2,t14,hi1];exact ih m (by omega) _ _ ⟨i+1,by omega,hf,mm0 _,t1,t12,t13,rfl⟩
    ·rw[ho,Bool.true_or]at hf;refine goN ?_;simp only[push_cast,seval,↓kw2];exact⟨_,rfl,zAa rfl (by rw[← hf]; rfl)⟩
  ·have d0:decide (0 < (i:Int))=true:=decide_eq_true (by omega);rw[decide_eq_true (by omega:0 < i),Bool.true_and]at ho1;have hw1:=zAg (n:=(i:Int) - 1) (by omega) (by omega);have hx2:=hidx (i - 1) (by omega);have hgy2:=zAc Prt.av s.parts default (by omega:i - 1 < s.parts.length);rw[show((i - 1:Nat):Int)=(i:Int) - 1 by omega]at hx2;rw[show((i:Int) - 1).toNat=i - 1 by omega,hgy2]at hx2
   generalize hp2:s.parts.getD (i - 1) default=o at hx2 ho1
   have hcx2:=Prt.cells o;have hbb2:(0≤(i:Int) - 1∧(i:Int) - 1 < ((s.parts.map Prt.av).length:Int)):=⟨by omega,by rw[List.length_map]; omega⟩
   by_cases hle:p.job≤o.job
   ·have d2:=decide_eq_true hle;rw[d2,Bool.true_or]at ho1;have hb:=hbad ho1;refine goN ?_;simp only[push_cast,seval,↓kw2,hZ,t1,t12,t13,t14,hd1,hx,hcx,mm0',d0,hw1,hx2,hcx2,d2,zAf,getA,zAh,setA,zAb,List.length_cons,List.length_nil,List.take];refine⟨hbb,hbb2,?_⟩;exact⟨_,rfl,zAa rfl (by rw[hb]; rfl)⟩
   ·have d2:=decide_eq_false hle;rw[d2,Bool.false_or]at ho1;refine goN ?_;simp only[push_cast,seval,↓kw2,hZ,t1,t12,t13,t14,hd1,hx,hcx,mm0',d0,hw1,hx2,hcx2,d2,zAf,getA,zAh,setA,zAb,List.length_cons,List.length_nil,List.take];refine⟨hbb,hbb2,?_⟩;cases hpt:s.part p
    ·rw[hpt]at hP ho1;have hb:=hbad ho1;refine⟨_,toVQ hP,?_⟩;simp only[push_cast,seval,↓kw2,hZ,t1,t12,t13,t14,mm0',zAf,getA,zAh,setA,zAb,List.length_cons,List.length_nil,List.take];exact⟨_,rfl,zAa rfl (by rw[hb]; rfl)⟩
    ·rw[hpt]at hP ho1;rw[show s.odd1 i=false from ho1,Bool.false_or]at hf;refine⟨_,toVQ hP,?_⟩;simp only[push_cast,seval,↓kw2,hZ,t1,t12,t13,t14,mm0',zAf,getA,zAh,setA,zAb,List.length_cons,List.length_nil,List.take,hsl];refine⟨hC,?_⟩;refine hasP (.inl rfl) (by rw[List.length_take]; omega) (fun _ H2=>∃ X,H2=H++(AO.cells [I p.job,I p.pl.x,I p.pl.y,I p.pl.z,I p.pl.p,I p.pl.q,I p.pl.r,B p.pl.s,B p.pl.t,B p.pl.u,.c (.int .u8 p.ph),I p.tries,I p.since]::X)) (pr:=fun k=>s.meet p.pl ((s.parts.take i).getD k default).pl) ?_ ⟨[],rfl⟩ ?_
     ·rintro k H2 K hk ⟨X,rfl⟩ hK
      exact parts1_ac h p _ (q0:=0) (q1:=H.length) (mm0 _) (by rw[zAf]; rfl) fun X2=>hK _ ⟨X++X2,by simp⟩
     rintro H2 ⟨_,_,X,rfl⟩
     show FW _ _ _ _ _ (upd _ _ (B (anyN (fun k=>s.meet p.pl ((s.parts.take i).getD k default).pl) (s.parts.take i).length 0))) _ _;rw[← ho2];cases ho:s.odd2 i
     ·rw[ho,Bool.false_or]at hf;refine goN ?_;simp only[push_cast,seval,↓kw2,t14,hi1];refine goN ?_;simp only[push_cast,seval,↓kw2,t14,hi1];exact ih m (by omega) _ _ ⟨i+1,by omega,hf,mm0 _,t1,t12,t13,rfl⟩
     ·rw[ho,Bool.true_or]at hf;refine goN ?_;simp only[push_cast,seval,↓kw2];exact⟨_,rfl,zAa rfl (by rw[← hf]; rfl)⟩
 ·have hd1:decide ((i:Int) < (s.parts.length:Int))=false:=by simp; omega
  have hm:m=0:=by omega
  subst hm;have hf2:anyN (fun i=>s.odd1 i||s.odd2 i) s.parts.length 0=false:=hf.symm;refine goN ?_;simp only[push_cast,seval,↓kw2,t13,t14,hd1];exact⟨_,rfl,zAa rfl (by rw[hf2]; rfl)⟩
theorem sl_keeps{l:List Kep}{i:Nat}(hi:i≤l.length):∃ C,(∀ H,zEm Tryz.prog 55 (.isl (l.map Kep.av)) H none (some (I (i:Int))) none=some (C,.isl ((l.take i).map Kep.av)))∧C:=by
 unfold zEm;simp only[un55,sz68,zBv];refine⟨True∧0≤(i:Int)∧0≤(i:Int).toNat∧(i:Int).toNat≤(l.map Kep.av).length∧(0 < (i:Int).toNat→((l.map Kep.av).getD 0 .un).cells.length=9),?_,?_⟩
 ·intro H
  show some (_,AV.isl (List.take ((i:Int).toNat - 0) (List.drop 0 (List.map Kep.av l))))=_;rw[Int.toNat_natCast,Nat.sub_zero,List.drop_zero,List.map_take]
 ·refine⟨trivial,by omega,by omega,by rw[List.length_map]; omega,fun h=>?_⟩;rw[zAc Kep.av l default (by omega)];rfl
def Sta.told(s:Sta)(k:Kep):Bool:=decide (can (ckB s.c.a s.c.b s.c.c k.x k.y k.z k.p k.q k.r) s.c.a k.p k.x=k.x∧can (ckB s.c.a s.c.b s.c.c k.x k.y k.z k.p k.q k.r) s.c.b k.q k.y=k.y∧can (ckB s.c.a s.c.b s.c.c k.x k.y k.z k.p k.q k.r) s.c.c k.r k.z=k.z∧cas (ckB s.c.a s.c.b s.c.c k.x k.y k.z k.p k.q k.r) k.p=k.p∧cas (ckB s.c.a s.c.b s.c.c k.x k.y k.z k.p k.q k.r) k.q=k.q∧cas (ckB s.c.a s.c.b s.c.c k.x k.y k.z k.p k.q k.r) k.r=k.r)
def Sta.last(s:Sta)(i:Nat):Int:=if i=0 then 0 else (s.keeps.getD (i - 1) default).id
def Sta.okK(s:Sta)(k:Kep)(last:Int)(i:Nat):Bool:=decide (ckB s.c.a s.c.b s.c.c k.x k.y k.z k.p k.q k.r=0)&&s.told k&&!decide (k.id≤last)&&!decide (s.next≤k.id)&&!decide (k.fr < 0)&&!decide (k.till≤k.fr)&&!decide (1099511627776 < k.till)&&!decide (k.till≤s.now)&&!s.taken (s.keeps.take i) k.bx k.fr k.till
def Sta.keepsV(s:Sta):Bool:=decide ((s.keeps.length:Int)≤4)&&!anyN (fun i=>!s.okK (s.keeps.getD i default) (s.last i) i) s.keeps.length 0
theorem e58:Ent Tryz.prog 58 Tryz.f58 [] 1:=.mk Tryz.func58 rfl
attribute [push_cast] Tryz.f58
theorem keepsS_pur{s:Sta}(h:s.good)(hl:s.lim)(hE:∀ p∈s.parts,Pur Tryz.prog GG 131 [s.av,p.av] (I (s.ends p))):Pur Tryz.prog GG 58 [s.av] (B s.keepsV):=by
 have hZ:=h.cell;obtain⟨⟨⟨a1,a2,a3⟩,b1,b2,b3⟩,⟨⟨c1,c2,c3⟩,d1,d2,d3⟩,⟨e1,e2,e3⟩,⟨f1,f2,f3⟩,g1,g2,g3⟩:=h.cell;obtain⟨p1,p2,p3,p4,p5,p6,p7⟩:=h.purs;have hlen:=h.ks.len un55;rw[List.length_map]at hlen;unfold Sta.keepsV;show Pur Tryz.prog GG 58 [ST s.c.a s.c.b s.c.c s.c.boot s.c.free s.c.tries s.c.age s.cs s.now s.next s.js s.ps s.ks s.ds s.hs s.us] _
 by_cases h24:4 < (s.keeps.length:Int)
 ·rw[decide_eq_false (by omega),Bool.false_and];refine goQ e58 TOk.nil 0 ?_ (by simp[AV.purL,AV.pur,p1,p2,p3,p4,p5,p6,p7]);simp only[push_cast,seval,↓kw2,hZ,hlen,h24];exact⟨_,rfl,zAa rfl rfl⟩
 rw[decide_eq_true (by omega),Bool.true_and];have hidx:=fun(i:Nat) (hi:i < s.keeps.length) (H:List AO)=>h.ks.idx (P:=Tryz.prog) un55 sz68 (i:=(i:Int)) (by rw[List.length_map]; omega) (by omega) H
 refine goQ e58 TOk.nil 0 ?_ (by simp[AV.purL,AV.pur,p1,p2,p3,p4,p5,p6,p7]);simp only[push_cast,seval,↓kw2,hZ,hlen,h24];refine FW.loopInv (fun m ts H=>∃ i:Nat,i+m=s.keeps.length∧anyN (fun i=>!s.okK (s.keeps.getD i default) (s.last i) i) m i=anyN (fun i=>!s.okK (s.keeps.getD i default) (s.last i) i) s.keeps.length 0∧H[0]?=some (.cells s.cel)∧ts 1=.ptr 0 0∧ts 3=I (s.last i)∧ts 15=s.ks∧ts 16=I (s.keeps.length:Int)∧ts 17=I (i:Int)) s.keeps.length
  ⟨0,by omega,rfl,rfl,rfl,rfl,rfl,rfl,rfl⟩ ?_
 rintro m ih ts H ⟨i,hi,hf,m0,t1,t3,t15,t16,t17⟩
 refine FW.inLoop ?_
 by_cases hlt:i < s.keeps.length
 ·have hd1:decide ((i:Int) < (s.keeps.length:Int))=true:=by simp[hlt]
  have hx:=hidx i hlt;have hgy:=zAc Kep.av s.keeps default hlt;simp only[Int.toNat_natCast]at hx;rw[hgy]at hx;obtain⟨m,rfl⟩:∃ m',m=m'+1:=⟨m - 1,by omega⟩;have hfs:anyN (fun i=>!s.okK (s.keeps.getD i default) (s.last i) i) (m+1) i=(!s.okK (s.keeps.getD i default) (s.last i) i||anyN (fun i=>!s.okK (s.keeps.getD i default) (s.last i) i) m (i+1)):=rfl;rw[hfs]at hf;have hla:s.last (i+1)=(s.keeps.getD i default).id:=rfl;have hT:=takenS_pur h hl hE (l:=s.keeps.take i) (r:=.isl ((s.keeps.take i).map Kep.av)) (.inl rfl) (by rw[List.length_take]; omega) (s.keeps.getD i default).bx (s.keeps.getD i default).fr (s.keeps.getD i default).till
  generalize hk0:s.keeps.getD i default=k at hx hf hla hT
  have hcx:=Kep.cells k;have hC:=canon_pur s.c.a s.c.b s.c.c k.x k.y k.z k.p k.q k.r;have heq:=eqBox' (can (ckB s.c.a s.c.b s.c.c k.x k.y k.z k.p k.q k.r) s.c.a k.p k.x) (can (ckB s.c.a s.c.b s.c.c k.x k.y k.z k.p k.q k.r) s.c.b k.q k.y) (can (ckB s.c.a s.c.b s.c.c k.x k.y k.z k.p k.q k.r) s.c.c k.r k.z) (cas (ckB s.c.a s.c.b s.c.c k.x k.y k.z k.p k.q k.r) k.p) (cas (ckB s.c.a s.c.b s.c.c k.x k.y k.z k.p k.q k.r) k.q) (cas (ckB s.c.a s.c.b s.c.c k.x k.y k.z k.p k.q k.r) k.r) k.x k.y k.z k.p k.q k.r;rw[show decide (can (ckB s.c.a s.c.b s.c.c k.x k.y k.z k.p k.q k.r) s.c.a k.p k.x=k.x∧can (ckB s.c.a s.c.b s.c.c k.x k.y k.z k.p k.q k.r) s.c.b k.q k.y=k.y∧can (ckB s.c.a s.c.b s.c.c k.x k.y k.z k.p k.q k.r) s.c.c k.r k.z=k.z∧cas (ckB s.c.a s.c.b s.c.c k.x k.y k.z k.p k.q k.r) k.p=k.p∧cas (ckB s.c.a s.c.b s.c.c k.x k.y k.z k.p k.q k.r) k.q=k.q∧cas (ckB s.c.a s.c.b s.c.c k.x k.y k.z k.p k.q k.r) k.r=k.r)=s.told k from rfl]at heq;have hbb:(0≤(i:Int)∧(i:Int) < ((s.keeps.map Kep.av).length:Int)):=⟨by omega,by rw[List.length_map]; omega⟩;have mm0:∀ X,(H++X)[0]?=some (.cells s.cel):=fun X=>(List.getElem?_append_left (zAe m0)).trans m0
  have mm0':=mm0;unfold Sta.cel at mm0';have hi1:=zAg (n:=(i:Int)+1) (by omega) (by omega);have hpe:=Go.Ab.Pd.IsSl.ne h.ks (by rw[List.length_map]; omega);obtain⟨C,hsl,hCC⟩:=sl_keeps (l:=s.keeps) (i:=i) (by omega);rw[← hpe]at hsl;simp only[Sta.av,Kep.bx]at hT;have hok:s.okK k (s.last i) i=(decide (ckB s.c.a s.c.b s.c.c k.x k.y k.z k.p k.q k.r=0)&&s.told k&&!decide (k.id≤s.last i)&&!decide (s.next≤k.id)&&!decide (k.fr < 0)&&!decide (k.till≤k.fr)&&!decide (1099511627776 < k.till)&&!decide (k.till≤s.now)&&!s.taken (s.keeps.take i) ⟨k.x,k.y,k.z,k.p,k.q,k.r⟩ k.fr k.till):=rfl
  generalize ckB s.c.a s.c.b s.c.c k.x k.y k.z k.p k.q k.r=ck at hC heq hok
  generalize s.told k=tl at heq hok
  generalize s.taken (s.keeps.take i) ⟨k.x,k.y,k.z,k.p,k.q,k.r⟩ k.fr k.till=tk at hT hok
  generalize s.last i=la at t3 hf hok
  have hch:(decide (ck=0)=false)∨(decide (ck=0)=true∧tl=false)∨(decide (ck=0)=true∧tl=true∧decide (k.id≤la)=true)∨(decide (ck=0)=true∧tl=true∧decide (k.id≤la)=false∧decide (s.next≤k.id)=true)∨(decide (ck=0)=true∧tl=true∧decide (k.id≤la)=false∧decide (s.next≤k.id)=false∧decide (k.fr < 0)=true)∨(decide (ck=0)=true∧tl=true∧decide (k.id≤la)=false∧decide (s.next≤k.id)=false∧decide (k.fr < 0)=false∧decide (k.till≤k.fr)=true)∨(decide (ck=0)=true∧tl=true∧decide (k.id≤la)=false∧decide (s.next≤k.id)=false∧decide (k.fr < 0)=false∧decide (k.till≤k.fr)=false∧decide (1099511627776 < k.till)=true)∨(decide (ck=0)=true∧tl=true∧decide (k.id≤la)=false∧decide (s.next≤k.id)=false∧decide (k.fr < 0)=false∧decide (k.till≤k.fr)=false∧decide (1099511627776 < k.till)=false∧decide (k.till≤s.now)=true)∨(decide (ck=0)=true∧tl=true∧decide (k.id≤la)=false∧decide (s.next≤k.id)=false∧decide (k.fr < 0)=false∧decide (k.till≤k.fr)=false∧decide (1099511627776 < k.till)=false∧decide (k.till≤s.now)=false∧tk=true)∨(decide (ck=0)=true∧tl=true∧decide (k.id≤la)=false∧decide (s.next≤k.id)=false∧decide (k.fr < 0)=false∧decide (k.till≤k.fr)=false∧decide (1099511627776 < k.till)=false∧decide (k.till≤s.now)=false∧tk=false):=by
   generalize decide (ck=0)=qq1
   generalize tl=qq2
   generalize decide (k.id≤la)=qq3
   generalize decide (s.next≤k.id)=qq4
   generalize decide (k.fr < 0)=qq5
   generalize decide (k.till≤k.fr)=qq6
   generalize decide (1099511627776 < k.till)=qq7
   generalize decide (k.till≤s.now)=qq8
   generalize tk=qq9
   cases qq1 <;> cases qq2 <;> cases qq3 <;> cases qq4 <;> cases qq5 <;> cases qq6 <;> cases qq7 <;> cases qq8 <;> cases qq9 <;> simp
  rcases hch with q1 | ⟨q1,q2⟩ | ⟨q1,q2,q3⟩ | ⟨q1,q2,q3,q4⟩ | ⟨q1,q2,q3,q4,q5⟩ | ⟨q1,q2,q3,q4,q5,q6⟩ | ⟨q1,q2,q3,q4,q5,q6,q7⟩ | ⟨q1,q2,q3,q4,q5,q6,q7,q8⟩ | ⟨q1,q2,q3,q4,q5,q6,q7,q8,q9⟩ | ⟨q1,q2,q3,q4,q5,q6,q7,q8,q9⟩
  ·skip
   simp only[q1,Bool.true_and,Bool.false_and,Bool.and_false,Bool.and_true,Bool.not_true,Bool.not_false]at hok;rw[hok]at hf;simp only[Bool.not_true,Bool.not_false,Bool.true_or,Bool.false_or]at hf;refine goN ?_;simp only[push_cast,seval,↓kw2,hZ,t1,t3,t15,t16,t17,hd1,hx,hcx,mm0',zAf,getA,zAh,setA,zAb,List.length_cons,List.length_nil,List.take];refine⟨hbb,?_⟩;refine AC.pur hC ?_;refine goN ?_;simp only[push_cast,seval,↓kw2,hZ,t1,t3,t15,t16,t17,mm0',zAf,getA,zAh,setA,zAb,List.length_cons,List.length_nil,List.take,heq,zAi,q1];exact⟨_,rfl,zAa rfl (by first | (rw[← hf]; rfl) | (rw[hf]; rfl) | simp[hf] | simp[← hf])⟩
  ·skip
   subst q2;simp only[q1,Bool.true_and,Bool.false_and,Bool.and_false,Bool.and_true,Bool.not_true,Bool.not_false]at hok;rw[hok]at hf;simp only[Bool.not_true,Bool.not_false,Bool.true_or,Bool.false_or]at hf;refine goN ?_;simp only[push_cast,seval,↓kw2,hZ,t1,t3,t15,t16,t17,hd1,hx,hcx,mm0',zAf,getA,zAh,setA,zAb,List.length_cons,List.length_nil,List.take];refine⟨hbb,?_⟩;refine AC.pur hC ?_;refine goN ?_;simp only[push_cast,seval,↓kw2,hZ,t1,t3,t15,t16,t17,mm0',zAf,getA,zAh,setA,zAb,List.length_cons,List.length_nil,List.take,heq,zAi,q1];exact⟨_,rfl,zAa rfl (by first | (rw[← hf]; rfl) | (rw[hf]; rfl) | simp[hf] | simp[← hf])⟩
  ·skip
   subst q2;simp only[q1,q3,Bool.true_and,Bool.false_and,Bool.and_false,Bool.and_true,Bool.not_true,Bool.not_false]at hok;rw[hok]at hf;simp only[Bool.not_true,Bool.not_false,Bool.true_or,Bool.false_or]at hf;refine goN ?_;simp only[push_cast,seval,↓kw2,hZ,t1,t3,t15,t16,t17,hd1,hx,hcx,mm0',zAf,getA,zAh,setA,zAb,List.length_cons,List.length_nil,List.take];refine⟨hbb,?_⟩;refine AC.pur hC ?_;refine goN ?_;simp only[push_cast,seval,↓kw2,hZ,t1,t3,t15,t16,t17,mm0',zAf,getA,zAh,setA,zAb,List.length_cons,List.length_nil,List.take,heq,zAi,q1,q3];exact⟨_,rfl,zAa rfl (by first | (rw[← hf]; rfl) | (rw[hf]; rfl) | simp[hf] | simp[← hf])⟩
  ·skip
   subst q2;simp only[q1,q3,q4,Bool.true_and,Bool.false_and,Bool.and_false,Bool.and_true,Bool.not_true,Bool.not_false]at hok;rw[hok]at hf;simp only[Bool.not_true,Bool.not_false,Bool.true_or,Bool.false_or]at hf;refine goN ?_;simp only[push_cast,seval,↓kw2,hZ,t1,t3,t15,t16,t17,hd1,hx,hcx,mm0',zAf,getA,zAh,setA,zAb,List.length_cons,List.length_nil,List.take];refine⟨hbb,?_⟩;refine AC.pur hC ?_;refine goN ?_;simp only[push_cast,seval,↓kw2,hZ,t1,t3,t15,t16,t17,mm0',zAf,getA,zAh,setA,zAb,List.length_cons,List.length_nil,List.take,heq,zAi,q1,q3,q4];exact⟨_,rfl,zAa rfl (by first | (rw[← hf]; rfl) | (rw[hf]; rfl) | simp[hf] | simp[← hf])⟩
  ·skip
   subst q2;simp only[q1,q3,q4,q5,Bool.true_and,Bool.false_and,Bool.and_false,Bool.and_true,Bool.not_true,Bool.not_false]at hok;rw[hok]at hf;simp only[Bool.not_true,Bool.not_false,Bool.true_or,Bool.false_or]at hf;refine goN ?_;simp only[push_cast,seval,↓kw2,hZ,t1,t3,t15,t16,t17,hd1,hx,hcx,mm0',zAf,getA,zAh,setA,zAb,List.length_cons,List.length_nil,List.take];refine⟨hbb,?_⟩;refine AC.pur hC ?_;refine goN ?_;simp only[push_cast,seval,↓kw2,hZ,t1,t3,t15,t16,t17,mm0',zAf,getA,zAh,setA,zAb,List.length_cons,List.length_nil,List.take,heq,zAi,q1,q3,q4,q5];exact⟨_,rfl,zAa rfl (by first | (rw[← hf]; rfl) | (rw[hf]; rfl) | simp[hf] | simp[← hf])⟩
  ·skip
   subst q2;simp only[q1,q3,q4,q5,q6,Bool.true_and,Bool.false_and,Bool.and_false,Bool.and_true,Bool.not_true,Bool.not_false]at hok;rw[hok]at hf;simp only[Bool.not_true,Bool.not_false,Bool.true_or,Bool.false_or]at hf;refine goN ?_;simp only[push_cast,seval,↓kw2,hZ,t1,t3,t15,t16,t17,hd1,hx,hcx,mm0',zAf,getA,zAh,setA,zAb,List.length_cons,List.length_nil,List.take];refine⟨hbb,?_⟩;refine AC.pur hC ?_;refine goN ?_;simp only[push_cast,seval,↓kw2,hZ,t1,t3,t15,t16,t17,mm0',zAf,getA,zAh,setA,zAb,List.length_cons,List.length_nil,List.take,heq,zAi,q1,q3,q4,q5,q6];exact⟨_,rfl,zAa rfl (by first | (rw[← hf]; rfl) | (rw[hf]; rfl) | simp[hf] | simp[← hf])⟩
  ·skip
   subst q2;simp only[q1,q3,q4,q5,q6,q7,Bool.true_and,Bool.false_and,Bool.and_false,Bool.and_true,Bool.not_true,Bool.not_false]at hok;rw[hok]at hf;simp only[Bool.not_true,Bool.not_false,Bool.true_or,Bool.false_or]at hf;refine goN ?_;simp only[push_cast,seval,↓kw2,hZ,t1,t3,t15,t16,t17,hd1,hx,hcx,mm0',zAf,getA,zAh,setA,zAb,List.length_cons,List.length_nil,List.take];refine⟨hbb,?_⟩;refine AC.pur hC ?_;refine goN ?_;simp only[push_cast,seval,↓kw2,hZ,t1,t3,t15,t16,t17,mm0',zAf,getA,zAh,setA,zAb,List.length_cons,List.length_nil,List.take,heq,zAi,q1,q3,q4,q5,q6,q7];exact⟨_,rfl,zAa rfl (by first | (rw[← hf]; rfl) | (rw[hf]; rfl) | simp[hf] | simp[← hf])⟩
  ·skip
   subst q2;simp only[q1,q3,q4,q5,q6,q7,q8,Bool.true_and,Bool.false_and,Bool.and_false,Bool.and_true,Bool.not_true,Bool.not_false]at hok;rw[hok]at hf;simp only[Bool.not_true,Bool.not_false,Bool.true_or,Bool.false_or]at hf;refine goN ?_;simp only[push_cast,seval,↓kw2,hZ,t1,t3,t15,t16,t17,hd1,hx,hcx,mm0',zAf,getA,zAh,setA,zAb,List.length_cons,List.length_nil,List.take];refine⟨hbb,?_⟩;refine AC.pur hC ?_;refine goN ?_;simp only[push_cast,seval,↓kw2,hZ,t1,t3,t15,t16,t17,mm0',zAf,getA,zAh,setA,zAb,List.length_cons,List.length_nil,List.take,heq,zAi,q1,q3,q4,q5,q6,q7,q8];exact⟨_,rfl,zAa rfl (by first | (rw[← hf]; rfl) | (rw[hf]; rfl) | simp[hf] | simp[← hf])⟩
  ·skip
   subst q2;subst q9;simp only[q1,q3,q4,q5,q6,q7,q8,Bool.true_and,Bool.false_and,Bool.and_false,Bool.and_true,Bool.not_true,Bool.not_false]at hok;rw[hok]at hf;simp only[Bool.not_true,Bool.not_false,Bool.true_or,Bool.false_or]at hf;refine goN ?_;simp only[push_cast,seval,↓kw2,hZ,t1,t3,t15,t16,t17,hd1,hx,hcx,mm0',zAf,getA,zAh,setA,zAb,List.length_cons,List.length_nil,List.take];refine⟨hbb,?_⟩;refine AC.pur hC ?_;refine goN ?_;simp only[push_cast,seval,↓kw2,hZ,t1,t3,t15,t16,t17,mm0',zAf,getA,zAh,setA,zAb,List.length_cons,List.length_nil,List.take,heq,zAi,q1,q3,q4,q5,q6,q7,q8,hsl];refine⟨hCC,_,toVQ hT,?_⟩;simp only[push_cast,seval,↓kw2,hZ,t1,t3,t15,t16,t17,mm0',zAf,getA,zAh,setA,zAb,List.length_cons,List.length_nil,List.take,q1,q3,q4,q5,q6,q7,q8,hi1];exact⟨_,rfl,zAa rfl (by first | (rw[← hf]; rfl) | (rw[hf]; rfl) | simp[hf] | simp[← hf])⟩
  ·skip
   subst q2;subst q9;simp only[q1,q3,q4,q5,q6,q7,q8,Bool.true_and,Bool.false_and,Bool.and_false,Bool.and_true,Bool.not_true,Bool.not_false]at hok;rw[hok]at hf;simp only[Bool.not_true,Bool.not_false,Bool.true_or,Bool.false_or]at hf;refine goN ?_;simp only[push_cast,seval,↓kw2,hZ,t1,t3,t15,t16,t17,hd1,hx,hcx,mm0',zAf,getA,zAh,setA,zAb,List.length_cons,List.length_nil,List.take];refine⟨hbb,?_⟩;refine AC.pur hC ?_;refine goN ?_;simp only[push_cast,seval,↓kw2,hZ,t1,t3,t15,t16,t17,mm0',zAf,getA,zAh,setA,zAb,List.length_cons,List.length_nil,List.take,heq,zAi,q1,q3,q4,q5,q6,q7,q8,hsl];refine⟨hCC,_,toVQ hT,?_⟩;simp only[push_cast,seval,↓kw2,hZ,t1,t3,t15,t16,t17,mm0',zAf,getA,zAh,setA,zAb,List.length_cons,List.length_nil,List.take,q1,q3,q4,q5,q6,q7,q8,hi1];exact ih m (by omega) _ _ ⟨i+1,by omega,hf,mm0 _,t1,by rw[hla]; rfl,t15,t16,rfl⟩
 ·have hd1:decide ((i:Int) < (s.keeps.length:Int))=false:=by simp; omega
  have hm:m=0:=by omega
  subst hm;refine goN ?_;simp only[push_cast,seval,↓kw2,t16,t17,hd1];exact⟨_,rfl,zAa rfl (by first | (rw[← hf]; rfl) | (rw[hf]; rfl) | simp[hf] | simp[← hf])⟩
def Sta.okV(s:Sta):Bool:=s.config&&(zFs s.c s.jobs s.now s.next&&(s.marks&&(s.partsV&&(zDe s.c.cls (zCf s.parts) ([],0) s.jobs&&s.keepsV))))
theorem config_chk{s:Sta}(h:s.config=true):s.c.chk=0:=by
 unfold Sta.config at h;simp only[Bool.and_eq_true,decide_eq_true_eq]at h;exact h.1.1.1.1
theorem jobs_tbl{x:Cfg}{l:List Jb}{now next:Int}(h:zFs x l now next=true):tblE x l=0:=by
 unfold zFs at h;simp only[Bool.and_eq_true,decide_eq_true_eq]at h;exact h.1
theorem Cfg.may_ok{x:Cfg}(h:x.may=true):okD x.a x.b x.c:=by
 unfold Cfg.may at h;simp only[Bool.and_eq_true,decide_eq_true_eq]at h;exact h.1.1.1.1
theorem jobs_cls{x:Cfg}{l:List Jb}(h:tblE x l=0):∀ j∈l,0≤j.cls∧j.cls < x.cls.length:=fun j hj=>by
 have:=(Jb.chk_facts (tbl_chk h j hj)).1;unfold Jb.plain witV at this;simp only[Bool.and_eq_true,decide_eq_true_eq]at this;omega
theorem part_ends{s:Sta}(h:s.good)(hl:s.lim){p:Prt}(hp:s.part p=true):Pur Tryz.prog GG 131 [s.av,p.av] (I (s.ends p)):=by
 unfold Sta.part at hp;simp only[Bool.and_eq_true,decide_eq_true_eq]at hp;obtain⟨⟨_,hpp⟩,k1,k2,k3,k4⟩:=Cfg.sp_facts hp.1.1.1.1.1.1.2;exact endsS_pur h hl p (Cfg.part_ph hpp) (by omega) (by omega) (by omega) k1
theorem parts_part{s:Sta}(h:s.partsV=true):∀ p∈s.parts,s.part p=true:=fun p hp=>by
 unfold Sta.partsV at h;simp only[Bool.and_eq_true,Bool.not_eq_true',Bool.eq_false_iff,Ne,anyN_iff]at h;obtain⟨i,hi,rfl⟩:=List.getElem_of_mem hp;cases hq:s.part s.parts[i]
 ·exact absurd ⟨i,by omega,by omega,by
   rw[Bool.or_eq_true];left;unfold Sta.odd1;rw[show s.parts.getD i default=s.parts[i] by simp[List.getD,hi],hq];simp⟩ h.2
 ·rfl
theorem parts_ends{s:Sta}(h:s.good)(hl:s.lim)(hp:s.partsV=true):∀ p∈s.parts,Pur Tryz.prog GG 131 [s.av,p.av] (I (s.ends p)):=fun p hm=>part_ends h hl (parts_part hp p hm)
theorem e18:Ent Tryz.prog 18 Tryz.f18 [] 1:=.mk Tryz.func18 rfl
attribute [push_cast] Tryz.f18
theorem holdc_pur{s:Sta}(h:s.good)(hl:s.lim):Pur Tryz.prog GG 18 [s.av] (I (if s.okV=true then 0 else 8)):=by
 have hZ:=h.cell;obtain⟨⟨⟨a1,a2,a3⟩,b1,b2,b3⟩,⟨⟨c1,c2,c3⟩,d1,d2,d3⟩,⟨e1,e2,e3⟩,⟨f1,f2,f3⟩,g1,g2,g3⟩:=h.cell;obtain⟨p1,p2,p3,p4,p5,p6,p7⟩:=h.purs;have k1:=config_pur h;have k2:=jobsT_pur h;have k4:=parts_pur h hl;simp only[Sta.av]at k1 k2 k4;show Pur Tryz.prog GG 18 [ST s.c.a s.c.b s.c.c s.c.boot s.c.free s.c.tries s.c.age s.cs s.now s.next s.js s.ps s.ks s.ds s.hs s.us] _;unfold Sta.okV;refine goQ e18 TOk.nil 1 ?_ (by simp[AV.purL,AV.pur,p1,p2,p3,p4,p5,p6,p7]);simp only[push_cast,seval,↓kw2,hZ];refine AC.pur k1 ?_;cases h0:s.config
 ·simp only[Bool.false_and,Bool.false_eq_true,if_false];refine goW TOk.nil [] 1 ?_;simp only[push_cast,seval,↓kw2];exact⟨_,rfl,zAa rfl rfl⟩
 simp only[Bool.true_and];refine goW TOk.nil [] 1 ?_;simp only[push_cast,seval,↓kw2];refine AC.pur k2 ?_;cases h1:zFs s.c s.jobs s.now s.next
 ·simp only[Bool.false_and,Bool.false_eq_true,if_false];refine goW TOk.nil [] 1 ?_;simp only[push_cast,seval,↓kw2];exact⟨_,rfl,zAa rfl rfl⟩
 simp only[Bool.true_and];have k3:=marksS_pur h hl (Cfg.may_ok (Cfg.chk_may (config_chk h0)));simp only[Sta.av]at k3;refine goW TOk.nil [] 1 ?_;simp only[push_cast,seval,↓kw2];refine AC.pur k3 ?_;cases h2:s.marks
 ·simp only[Bool.false_and,Bool.false_eq_true,if_false];refine goW TOk.nil [] 1 ?_;simp only[push_cast,seval,↓kw2];exact⟨_,rfl,zAa rfl rfl⟩
 simp only[Bool.true_and];refine goW TOk.nil [] 1 ?_;simp only[push_cast,seval,↓kw2];refine AC.pur k4 ?_;cases h3:s.partsV
 ·simp only[Bool.false_and,Bool.false_eq_true,if_false];refine goW TOk.nil [] 1 ?_;simp only[push_cast,seval,↓kw2];exact⟨_,rfl,zAa rfl rfl⟩
 simp only[Bool.true_and];have k5:=started_pur h hl (jobs_cls (jobs_tbl h1));simp only[Sta.av]at k5;refine goW TOk.nil [] 1 ?_;simp only[push_cast,seval,↓kw2];refine AC.pur k5 ?_;cases h4:zDe s.c.cls (zCf s.parts) ([],0) s.jobs
 ·simp only[Bool.false_and,Bool.false_eq_true,if_false];refine goW TOk.nil [] 1 ?_;simp only[push_cast,seval,↓kw2];exact⟨_,rfl,zAa rfl rfl⟩
 simp only[Bool.true_and];have k6:=keepsS_pur h hl (parts_ends h hl h3);simp only[Sta.av]at k6;refine goW TOk.nil [] 1 ?_;simp only[push_cast,seval,↓kw2];refine AC.pur k6 ?_;cases h5:s.keepsV
 ·simp only[Bool.false_and,Bool.false_eq_true,if_false];refine goW TOk.nil [] 1 ?_;simp only[push_cast,seval,↓kw2];exact⟨_,rfl,zAa rfl rfl⟩
 simp only[if_true];refine goW TOk.nil [] 1 ?_;simp only[push_cast,seval,↓kw2];exact⟨_,rfl,zAa rfl rfl⟩
structure Sta.lim2(s:Sta):Prop where
 cl:s.c.cls.length≤2^15
 jl:s.jobs.length≤2^15
 pl:s.parts.length≤2^15
 kl:s.keeps.length≤2^15
 dl:s.down.length≤2^15
 hl:s.shut.length≤2^15
 ul:s.cut.length≤2^15
 al:∀ j∈s.jobs,j.after.length≤2^15
theorem e22:Ent Tryz.prog 22 Tryz.f22 [] 1:=.mk Tryz.func22 rfl
attribute [push_cast] Tryz.f22
theorem twinS_pur{s:Sta}(h:s.good)(hl:s.lim2):Pur Tryz.prog GG 22 [s.av] s.av:=by
 have hZ:=h.cell;obtain⟨⟨⟨a1,a2,a3⟩,b1,b2,b3⟩,⟨⟨c1,c2,c3⟩,d1,d2,d3⟩,⟨e1,e2,e3⟩,⟨f1,f2,f3⟩,g1,g2,g3⟩:=h.cell;obtain⟨p1,p2,p3,p4,p5,p6,p7⟩:=h.purs;obtain⟨l1,l2,l3,l4,l5,l6,l7,l8⟩:=hl;have k1:=cloneC_pur h.cs (by omega) (zAd Cls.av _ (fun _=>rfl));have k2:=twinJ_pur h.js (by omega) (fun j hj=>by have:=l8 j hj; omega) (purL_jobs h.js.2);have k3:=cloneP_pur h.ps (by omega) (zAd Prt.av _ (fun _=>rfl));have k4:=cloneK_pur h.ks (by omega) (zAd Kep.av _ (fun _=>rfl));have k5:=cloneI_pur h.ds (by omega) (zAd IA _ (fun _=>rfl));have k6:=cloneI_pur h.hs (by omega) (zAd IA _ (fun _=>rfl));have k7:=cloneI_pur h.us (by omega) (zAd IA _ (fun _=>rfl));unfold Sta.av;show Pur Tryz.prog GG 22 [ST s.c.a s.c.b s.c.c s.c.boot s.c.free s.c.tries s.c.age s.cs s.now s.next s.js s.ps s.ks s.ds s.hs s.us] _;refine goQ e22 TOk.nil 0 ?_ (by simp[AV.purL,AV.pur,p1,p2,p3,p4,p5,p6,p7]);simp only[push_cast,seval,↓kw2,hZ];refine⟨_,toVQ k1,_,toVQ k2,?_⟩;simp only[push_cast,seval,↓kw2,hZ];refine⟨_,toVQ k3,_,toVQ k4,?_⟩;simp only[push_cast,seval,↓kw2,hZ];refine⟨_,toVQ k5,_,toVQ k6,_,toVQ k7,?_⟩;simp only[push_cast,seval,↓kw2,hZ];exact⟨_,rfl,zAa (by simp[AV.pur,AV.purL,p1,p2,p3,p4,p5,p6,p7]) rfl⟩
theorem LiveS.cell{k:Nat}{H:List AO}{s r:AV}{l:List AV}(h:LiveS k H s r l):r.isCell=true∧r.isEl=true∧r.cells=[r]:=by
 cases h <;> exact⟨rfl,rfl,rfl⟩
theorem LiveS.keep{k:Nat}{H H':List AO}{s r:AV}{l:List AV}(h:LiveS k H s r l)(hk:∀ i,zAp r=some i→H'[i]?=H[i]?):LiveS k H' s r l:=by
 cases h with
 | nil=>exact .nil
 | zs=>exact .zs
 | row h h0=>exact .row ((hk _ rfl).trans h) h0
theorem LiveS.lt{k:Nat}{H:List AO}{s r:AV}{l:List AV}(h:LiveS k H s r l):∀ i,zAp r=some i→i < H.length:=by
 intro i hi
 cases h with
 | nil=>cases hi
 | zs=>cases hi
 | row h h0=>cases hi; exact zAe h
def Le(a b:AV):Prop:=∀(w:World) (E:En) (r:Value),RepV w E a r→RepV w E b r
theorem Le.agg{cs ds:List AV}(hl:cs.length=ds.length)(hc:∀ i,i < ds.length→(ds.getD i .un).isCell=true)(h:∀ i,i < ds.length→Le (cs.getD i .un) (ds.getD i .un)):Le (.agg cs) (.agg ds):=fun w E r hr=>by
 cases hr with
 | agg h1 h2 h3=>exact .agg (by omega) hc fun i hi=>h i hi w E _ (h3 i (by omega))
theorem Pur.args{f:FuncId}{args args':List AV}{v:AV}(hl:args.length=args'.length)(hle:∀ i,i < args'.length→Le (args.getD i .un) (args'.getD i .un))(h:Pur Tryz.prog GG f args' v):Pur Tryz.prog GG f args v:=fun H K hK=>by
 obtain⟨h1,h2⟩:=h H K hK;exact⟨h1,fun E w vargs hH hA cs=>h2 E w vargs hH ⟨by rw[hA.1,hl],fun i hi=>hle i hi w E _ (hA.2 i (by omega))⟩ cs⟩
theorem zDg{n:Nat}{H:List AO}{a:AV}(h:a.pur=true):frz (n+1) H a=some a:=by
 unfold Go.Ab.frz;rw[if_pos h]
def Sta.ckb(s:Sta)(b:Bx6):Int:=ckB s.c.a s.c.b s.c.c b.x b.y b.z b.p b.q b.r
def Sta.own(s:Sta)(b:Bx6):Bx6:=⟨can (s.ckb b) s.c.a b.p b.x,can (s.ckb b) s.c.b b.q b.y,can (s.ckb b) s.c.c b.r b.z,cas (s.ckb b) b.p,cas (s.ckb b) b.q,cas (s.ckb b) b.r⟩
def Kep.mk6(id:Int)(b:Bx6)(fr till:Int):Kep:=⟨id,b.x,b.y,b.z,b.p,b.q,b.r,fr,till⟩
def Sta.put(s:Sta)(b:Bx6)(fr till:Int):Sta:={ s with keeps:=s.keeps++[Kep.mk6 s.next (s.own b) fr till],ks:=.isl ((s.keeps++[Kep.mk6 s.next (s.own b) fr till]).map Kep.av),next:=s.next+1 }
attribute [push_cast] Tryz.f23
theorem part_facts{s:Sta}{p:Prt}(h:s.part p=true):¬zBl s.jobs p.job < 0∧s.c.spE p (s.jobOf p).wall=0∧s.c.end p (s.jobOf p).wall=s.ends p∧s.now < s.ends p∧p.pl.ok s.c.a s.c.b s.c.c∧((s.jobOf p).st=2 ↔ ¬p.ph=3):=by
 unfold Sta.part Sta.isJob at h;simp only[Bool.and_eq_true,decide_eq_true_eq,Bool.not_eq_true',decide_eq_false_iff_not]at h;obtain⟨⟨⟨⟨⟨⟨⟨h1,h2⟩,h3⟩,h4⟩,h5⟩,h6⟩,h7⟩,h8⟩:=h;obtain⟨⟨_,hpp⟩,k1,k2,k3,k4⟩:=Cfg.sp_facts h2;have he:s.c.end p (s.jobOf p).wall=s.ends p:=by
  unfold Cfg.end Sta.ends at *;omega
 have hn:s.now < s.ends p:=by
  unfold Cfg.turn Sta.ends at *
  split at h5
  ·rename_i hp1; simp only[hp1,if_true]at h4 ⊢; omega
  ·rename_i hp1
   split at h5
   ·rename_i hp2; simp only[hp1,hp2,if_true,if_false]at h4 ⊢; omega
   ·rename_i hp2; simp only[hp1,hp2,if_false]at h4 ⊢; omega
 refine⟨by omega,h2,he,hn,isE_ok h6,?_⟩
 split at h8
 ·rename_i h3;simp only[decide_eq_true_eq]at h8;exact⟨fun e=>by omega,fun e=>absurd h3 e⟩
 ·rename_i h3;simp only[Bool.and_eq_true,decide_eq_true_eq]at h8;exact⟨fun _=>h3,fun _=>h8.1⟩
theorem anyN_none{pr:Nat→Bool}{n:Nat}(h:anyN pr n 0=false):∀ i,i < n→pr i=false:=fun i hi=>by
 cases hp:pr i
 ·rfl
 ·rw[Bool.eq_false_iff,Ne,anyN_iff]at h;exact absurd ⟨i,by omega,by omega,hp⟩ h
theorem great18_after{l:List Jb}(h:great18 l=false):l.length≤100∧∀ j∈l,j.after.length≤100:=by
 unfold great18 at h;rw[Bool.or_eq_false_iff]at h;have hl:l.length≤100:=by have:=h.2; rw[decide_eq_false_iff_not]at this; omega
 refine⟨hl,fun j hj=>?_⟩;obtain⟨i,hi,rfl⟩:=List.getElem_of_mem hj;have:=anyN_none h.1 i (by omega);rw[show l.getD i default=l[i] by simp[List.getD,hi],decide_eq_false_iff_not]at this;omega
theorem Sta.lim2_of{s:Sta}(h:s.great=false):s.lim2:=by
 unfold Sta.great at h;simp only[Bool.or_eq_false_iff,decide_eq_false_iff_not]at h;obtain⟨⟨⟨⟨⟨⟨h1,h2⟩,h3⟩,h4⟩,h5⟩,h6⟩,h7⟩:=h;obtain⟨g1,g2⟩:=great18_after h2;exact⟨by omega,by omega,by omega,by omega,by omega,by omega,by omega,fun j hj=>by have:=g2 j hj; omega⟩
end Go.Ab.Pd
