/- A text of this claim. -/
import Derived.Test.YtplmblgihfogjaaGreatDoorEv48
set_option maxHeartbeats 40000000
set_option maxRecDepth 400000
set_option linter.all false
namespace Go.Ab.Pd
open Go.Proofs
open Go.Proofs.Tryz renaming prog->zP
theorem may_of{s:Sta}(f:s.fine){id:Int}(hf:¬findN s.jobs id < 0){j:Jb}(hj:s.jobs.getD (findN s.jobs id).toNat default=j)(hel:s.eligV j=true)(he:s.endJ j<=1099511627776){w:Wt}{p:Plc}(hp:p∈s.freeW j w){k:Nat}(hk:k<=s.parts.length)(k1:∀ q∈s.parts.take k,q.job < id)(k2:∀ q∈s.parts.drop k,id<=q.job):s.mayB id p j k:=by
 unfold Sta.eligV Sta.rdyV Sta.leftV at hel;simp only[zA,decide_eq_true_eq,Bool.not_eq_true']at hel;obtain⟨⟨h1,h2,_⟩,h3⟩:=hel;obtain⟨q1,q2⟩:=List.mem_filter.1 hp;rw[zA]at q2;exact⟨f,hf,hj,h1,h2,by omega,q1,he,q2.1,hk,k1,k2⟩
section
variable {s:Sta} {id:Int} {p:Plc} {j:Jb} {k:Nat} (m:s.mayB id p j k)
include m
theorem Sta.mayB.still{w:Wt}(hp:p∈s.freeW j w)(h0:¬w.job=0){t:Int}(ht:w.tm < t)(hok:w.pl.ok s.c.a s.c.b s.c.c)(hc:s.clear w.pl w.tm t=true):(s.begun (findN s.jobs id).toNat k id p).clear w.pl w.tm t=true:=by
 rw[clear_iff m.f ht hok]at hc;refine(clear_iff m.fine ht (p:=w.pl) hok).2 ⟨hc.1,fun y hy hh=>?_⟩
 rcases(m.slots y).1 hy with hy | rfl
 ·exact hc.2 y hy hh
 ·have hlt:w.tm < s.endJ j:=hh.2;have hav:s.avoid j w=true:=by
   unfold Sta.avoid;rw[zF h0,zT hlt]; rfl
  have q2:=(List.mem_filter.1 hp).2;rw[hav,zA]at q2;exact apart_symm q2.2
theorem Sta.mayB.jobO{i:Int}(hi:¬i=id):(s.begun (findN s.jobs id).toNat k id p).jobN i=s.jobN i:=by
 unfold Sta.jobN;show(if findN (upJ Jb.std s.jobs (findN s.jobs id).toNat) i < 0 then default else (upJ Jb.std s.jobs (findN s.jobs id).toNat).getD (findN (upJ Jb.std s.jobs (findN s.jobs id).toNat) i).toNat default)=_;rw[upJ_find (g:=Jb.std) (fun _=>rfl)]
 split
 ·rfl
 ·rename_i hq;rw[upJ_get,if_neg]
  rintro⟨e,_⟩
  have h1:=(zEm m.hf).2.2;have h2:=(zEm hq).2.2;rw[e,h1]at h2;exact hi h2.symm
theorem Sta.mayB.behind{w:Wt}(h0:¬w.job=0)(hne:¬w.job=id)(hcap:s.capped j w=false)(h:s.eligV (s.jobN w.job)=true):(s.begun (findN s.jobs id).toNat k id p).eligV ((s.begun (findN s.jobs id).toNat k id p).jobN w.job)=true:=by
 have hst:(s.jobs.getD (findN s.jobs id).toNat default).st=1:=by rw[m.hj]; exact m.st
 have hlt:=m.lt.1;have ht:=jobs_tbl m.f.jb;have hp:=ris_ne (tbl_0 ht).2.2.2.1;have hp':(upJ Jb.std s.jobs (findN s.jobs id).toNat).Pairwise fun x y=>¬x.id=y.id:=by
  refine ris_ne ?_;rw[upJ_len,risU (g:=Jb.std) (fun _=>rfl)];exact(tbl_0 ht).2.2.2.1
 rw[m.jobO hne];unfold Sta.capped at hcap
 generalize s.jobN w.job=o at h hcap
 unfold Sta.eligV Sta.rdyV at h ⊢;rw[zA,decide_eq_true_eq]at h ⊢;refine⟨?_,?_⟩
 ·rw[<- h.1];show(decide (o.st=1)&&(!o.held&&!anyN (fun i=>!decide (getM (stM (upJ Jb.std s.jobs (findN s.jobs id).toNat)) (o.after.getD i 0)=3)) o.after.length 0))=_;rw[anyN_congr (g:=fun i=>!decide (getM (stM s.jobs) (o.after.getD i 0)=3)) fun i hi=>by
   rw[stM_stat hp',stM_stat hp,decide_eq_decide.2 (stat_std hlt hst (o.after.getD i 0)).2]]
 ·have h2:=h.2;unfold Sta.leftV at h2 ⊢;show 0 < (s.c.cls.getD o.cls.toNat default).d - cntR (upJ Jb.std s.jobs (findN s.jobs id).toNat) o.user o.cls;rw[cnt_std _ _ hlt hst,m.hj]
  split
  ·rename_i hu;rw[zF h0,zT hu.1.symm,zT hu.2.symm,Bool.not_false,Bool.true_and,Bool.true_and,Bool.true_and,decide_eq_false_iff_not]at hcap;unfold Sta.leftV at hcap;rw[hu.1,hu.2]at hcap;omega
  ·omega
end
theorem e81:Ent zP 81 Tryz.f81 [] 2:=.mk Tryz.func81 rfl
theorem ready1_ac{M:MS Int}{k:Int}{H:List AO}{q id:Nat}(hq:H[q]?=some (.cells [.mp id]))(hm:H[id]?=some (.map (enc8 M.1) M.2)){K:AV->List AO->Prop}(hK:K (B (!decide (getM M k=3))) H) :
  AC zP GG 81 [I k,.ptr q 0] H K:=by
 have hl:=get_M (ek:=I) (ev:=U8) un146 ze5 eqI ckI hm k;refine goE e81 TOk.nil 0 ?_;simp only[push_cast,seval,↓kw2,hq,hl];exact⟨_,rfl,hK⟩
def ARdy:Nat->Bool:=fun i=>i==6||i==7
def exRdy:Nat->List Nat:=fun i=>if i=6 then [1] else if i=7 then [1,6] else []
def impRdy:Nat->Bool:=fun i=>i==1||i==8
def ordRdy:List (Nat × Bool):=[(0,true),(2,true),(3,true),(4,true),(5,true),(1,false),(6,false),(7,false),(8,false),(9,false)]
def rdyL(l:List Jb)(j:Jb):Bool:=decide (j.st=1)&&(!j.held&&!anyN (fun i=>!decide (getM (stM l) (j.after.getD i 0)=3)) j.after.length 0)
theorem e40:Ent zP 40 Tryz.f40 [7] 3:=.mk Tryz.func40 rfl
theorem ready_pur(x:Cfg){s sl:AV}(hs:IsSl s (x.cls.map Cls.av)){l:List Jb}(hl:JobsS sl l)(h0:tblE x l=0){id:Int}(hf:¬findN l id < 0){j:Jb}(hj:l.getD (findN l id).toNat default=j):Pur zP GG 40 [x.av s,sl,I id] (.tup [B (rdyL l j),I 0]):=by
 have hpu:=hs.pur (zAi Cls.av _ (fun _=>rfl));have hpl:=hl.pur;obtain⟨k1,k2,k3⟩:=hs.cell;obtain⟨n1,n2,n3⟩:=hl.1.cell;have ht:=table_pur x hs hl;rw[h0]at ht;have hll:l.length<=24:=tbl_len h0;obtain⟨z1,z2,z3⟩:=zEm hf;have hjm:j∈l:=by
  rw[<- hj,show l.getD (findN l id).toNat default=l[(findN l id).toNat] by simp[List.getD,z2]];exact List.getElem_mem z2
 have haf:j.after.length<=4:=Jb.rises_len (Jb.chk_facts (tbl_chk h0 j hjm)).2.1;have hF:=zFc hl (by omega) id;rw[if_neg hf,if_neg hf]at hF;have hjx:=hl.1.idx (P:=zP) un27 sz50 (i:=findN l id) (by rw[zM]; omega) (by omega);rw[zAj Jb.av l default z2,hj]at hjx;have hbT:((0<=findN l id/\findN l id < ((l.map Jb.av).length:Int))/\j.av.cells.length=16)=True:=eq_true ⟨⟨by omega,by rw[zM]; omega⟩,rfl⟩;simp only[hbT]at hjx;have hjg:j.good:=hl.2 j hjm;obtain⟨m1,m2,m3⟩:=IsSl.cell hjg;have hjc:=Jb.cells j;have hbj:(0<=findN l id/\findN l id < ((l.map Jb.av).length:Int)):=⟨by omega,by rw[zM]; omega⟩;show Pur zP GG 40 [CF x.a x.b x.c x.boot x.free x.tries x.age s,sl,I id] _;simp only[Cfg.av]at ht;refine goQ e40 TOk.nil 0 ?_ (by simp[AV.purL,AV.pur,hpu,hpl]);simp only[push_cast,seval,↓kw2,k1,k2,k3,n1,n2,n3];refine AC.pur ht ?_;refine goW TOk.nil [7] 0 ?_;simp only[push_cast,seval,↓kw2,k1,k2,k3,n1,n2,n3];refine AC.pur hF ?_;refine goW TOk.nil [7] 0 ?_;simp only[push_cast,seval,↓kw2,k1,k2,k3,n1,n2,n3,List.contains_cons,Bool.true_or,Bool.false_or,Bool.or_true];refine FW.walkD hmix (A:=ARdy) (ex:=exRdy) (imp:=impRdy) (l:=ordRdy) (fun a ha=>by unfold ARdy at ha; simp at ha; rcases ha with rfl | rfl <;> decide) (by kernel_rfl) (by kernel_rfl) (by kernel_rfl) ?_;simp only[ordRdy];simp only[push_cast,seval,↓kw2,zBn,zBm,zAr,↓zAq,zFh,dlO,ARdy,exRdy,impRdy,Bool.or_false,Bool.or_true,Bool.true_or,Bool.false_or,Bool.or_self,Nat.add_assoc,zAx,zCq,wat,clOf,n1,n2,n3,hjx,hjc,m1,m2,m3];refine states_ac hl (by omega) ?_
 intro H' hold hm
 have hm0:∀ X,(H'++X)[1]?=some (.map (enc8 (stM l).1) (stM l).2):=fun X=>(zL (zAc hm)).trans hm
 simp only[push_cast,seval,↓kw2,zBn,zBm,zAr,↓zAq,zFh,dlO,ARdy,exRdy,impRdy,Bool.or_false,Bool.or_true,Bool.true_or,Bool.false_or,Bool.or_self,Nat.add_assoc,zAx,zCq,wat,clOf,n1,n2,n3,hjx,hjc,m1,m2,m3,zAd,getA,zAe,setA,List.append_assoc,List.cons_append,List.nil_append];refine goW TOk.nil [7] 0 ?_;simp only[push_cast,seval,↓kw2,zAd,getA,zAe,setA,m1,m2,m3];refine hasI hjg (by omega) (fun _ H2=>H2[H'.length]?=some (.cells [.mp 1])/\H2[1]?=some (.map (enc8 (stM l).1) (stM l).2)/\H2[H'.length+1]?=some (.cells j.av.cells)) (pr:=fun i=>!decide (getM (stM l) (j.after.getD i 0)=3)) ?_ ⟨by rw[zAd]; rfl,hm0 _,by rw[getA]; rfl⟩ ?_
 ·rintro i H K hi ⟨q1,q2,q3⟩ hK
  exact ready1_ac q1 q2 (hK _ ⟨q1,q2,q3⟩)
 rintro H2 ⟨_,_,q1,q2,q3⟩
 unfold rdyL
 generalize anyN (fun i=>!decide (getM (stM l) (j.after.getD i 0)=3)) j.after.length 0=b
 rw[hjc]at q3;cases hd:decide (j.st=1)
 ·skip
  refine goW TOk.nil [7] 0 ?_;simp only[push_cast,seval,↓kw2,q3,hd];exact⟨_,rfl,zAa rfl rfl⟩
 ·generalize j.held=hh at q3
  cases hh
  ·skip
   refine goW TOk.nil [7] 0 ?_;simp only[push_cast,seval,↓kw2,q3,hd];exact⟨_,rfl,zAa rfl rfl⟩
  ·skip
   refine goW TOk.nil [7] 0 ?_;simp only[push_cast,seval,↓kw2,q3,hd];exact⟨_,rfl,zAa rfl rfl⟩
theorem e26:Ent zP 26 Tryz.f26 [] 2:=.mk Tryz.func26 rfl
theorem left_pur{s:Sta}(h:s.good)(hl:s.lim){j:Jb}(hjg:j.good)(hc:0<=j.cls/\j.cls < (s.c.cls.length:Int))(hcl:s.c.cls.length<=2^20)(hd:0<=(s.c.cls.getD j.cls.toNat default).d/\(s.c.cls.getD j.cls.toNat default).d<=2^40):Pur zP GG 26 [s.av,j.av] (I (s.leftV j)):=by
 have hZ:=h.cell;obtain⟨⟨⟨a1,a2,a3⟩,b1,b2,b3⟩,⟨⟨cc1,cc2,cc3⟩,dd1,dd2,dd3⟩,⟨ee1,ee2,ee3⟩,⟨f1,f2,f3⟩,g1,g2,g3⟩:=h.cell;obtain⟨p1,p2,p3,p4,p5,p6,p7⟩:=h.purs;have hjp:=IsSl.pur hjg (zAi IA _ (fun _=>rfl));obtain⟨m1,m2,m3⟩:=IsSl.cell hjg;have hjl:=hl.jl;have hln:=h.js.1.len (P:=zP) un27;rw[zM]at hln;have hcx:=h.cs.idx (P:=zP) un24 sz93 (i:=j.cls) (by rw[zM]; omega) (by omega);rw[zAj Cls.av s.c.cls default (by omega)]at hcx;have hcc:(s.c.cls.getD j.cls.toNat default).av.cells=[I _,I _,I _,I (s.c.cls.getD j.cls.toNat default).d]:=rfl;have hbc:(0<=j.cls/\j.cls < ((s.c.cls.map Cls.av).length:Int)):=⟨by omega,by rw[zM]; omega⟩;unfold Sta.leftV
 generalize hdd:(s.c.cls.getD j.cls.toNat default).d=d at *
 have hidx:=fun(i:Nat) (hi:i < s.jobs.length) (H:List AO)=>h.js.1.idx (P:=zP) un27 sz50 (i:=(i:Int)) (by rw[zM]; omega) (by omega) H
 have hle:=cntR_le s.jobs j.user j.cls;show Pur zP GG 26 [ST s.c.a s.c.b s.c.c s.c.boot s.c.free s.c.tries s.c.age s.cs s.now s.next s.js s.ps s.ks s.ds s.hs s.us,JB j.id j.user j.cls j.w j.wall j.prio j.held j.aft j.st j.came] _;refine goQ e26 TOk.nil 0 ?_ (by simp[AV.purL,AV.pur,p1,p2,p3,p4,p5,p6,p7,hjp]);simp only[push_cast,seval,↓kw2,hZ,m1,m2,m3,hcx,hcc,hln];refine⟨hbc,?_⟩;refine FW.loopInv (fun m ts H'=>∃ k:Nat,k+m=s.jobs.length/\H'[0]?=some (.cells [I s.c.a,I s.c.b,I s.c.c,I s.c.boot,I s.c.free,I s.c.tries,I s.c.age,s.cs,I s.now,I s.next,s.js,s.ps,s.ks,s.ds,s.hs,s.us])/\H'[1]?=some (.cells [I j.id,I j.user,I j.cls,I j.w.p,I j.w.q,I j.w.r,B j.w.s,B j.w.t,B j.w.u,B j.w.v,I j.wall,I j.prio,B j.held,j.aft,.c (.int .u8 j.st),I j.came]) /\
   ts 2=.ptr 0 0/\ts 3=.ptr 1 0/\ts 17=s.js/\ts 18=I (s.jobs.length:Int)/\ts 19=I (k:Int)/\ts 5=I (d - (cntR s.jobs j.user j.cls - cntR (s.jobs.drop k) j.user j.cls))) s.jobs.length
  ⟨0,by omega,rfl,rfl,rfl,rfl,rfl,rfl,rfl,by simp; rfl⟩ ?_
 rintro m ih ts H' ⟨k,hk,w0,w1,t2,t3,t17,t18,t19,t5⟩
 refine FW.inLoop ?_
 by_cases hlt:k < s.jobs.length
 ·have e1:decide ((k:Int) < (s.jobs.length:Int))=true:=by simp[hlt]
  have hx:=hidx k hlt;rw[Int.toNat_natCast,zAj Jb.av s.jobs default hlt]at hx;rw[zBa default hlt,cntR_cons]at t5;have hle2:=cntR_le (s.jobs.drop (k+1)) j.user j.cls;rw[List.length_drop]at hle2;have hgo:(s.jobs.getD k default).good:=h.js.get k
  generalize s.jobs.getD k default=o at hx hgo t5
  have hoc:=Jb.cells o;obtain⟨n1,n2,n3⟩:=IsSl.cell hgo;have hbk:(0<=(k:Int)/\(k:Int) < ((s.jobs.map Jb.av).length:Int)):=⟨by omega,by rw[zM]; omega⟩;have hk1:=zAl (n:=(k:Int)+1) (by omega) (by omega);have z0:∀ Y,(H'++Y)[0]?=_:=fun Y=>(zL (zAc w0)).trans w0
  have z1:∀ Y,(H'++Y)[1]?=_:=fun Y=>(zL (zAc w1)).trans w1
  by_cases c1:o.st=2
  ·by_cases c2:o.user=j.user
   ·by_cases c3:o.cls=j.cls
    ·have d1:=zT c1;have d2:=zT c2;have d3:=zT c3;have hi:isCnt j.user j.cls o=true:=by unfold isCnt; rw[d1,d2,d3]; rfl
     rw[if_pos hi]at t5;have hw:=zAl (n:=d - (cntR s.jobs j.user j.cls - (1+cntR (s.jobs.drop (k+1)) j.user j.cls)) - 1) (by omega) (by omega);refine goN ?_;simp only[push_cast,seval,↓kw2,t2,t3,t5,t17,t18,t19,w0,w1,e1,hx,hoc,m1,m2,m3,n1,n2,n3,z0,z1,zAd,getA,zAe,setA,hk1,d1,d2,d3,hw];refine⟨hbk,ih (m - 1) (by omega) _ _ ⟨k+1,by omega,z0 _,z1 _,t2,t3,t17,t18,rfl,?_⟩⟩;refine congrArg I ?_;omega
    ·have d1:=zT c1;have d2:=zT c2;have d3:=zF c3;have hi:¬isCnt j.user j.cls o=true:=by unfold isCnt; rw[d1,d2,d3]; decide
     rw[if_neg hi]at t5;refine goN ?_;simp only[push_cast,seval,↓kw2,t2,t3,t5,t17,t18,t19,w0,w1,e1,hx,hoc,m1,m2,m3,n1,n2,n3,z0,z1,zAd,getA,zAe,setA,hk1,d1,d2,d3];refine⟨hbk,ih (m - 1) (by omega) _ _ ⟨k+1,by omega,z0 _,z1 _,t2,t3,t17,t18,rfl,?_⟩⟩;refine t5.trans ?_;rw[Int.zero_add]
   ·have d1:=zT c1;have d2:=zF c2;have hi:¬isCnt j.user j.cls o=true:=by unfold isCnt; rw[d1,d2]; simp
    rw[if_neg hi]at t5;refine goN ?_;simp only[push_cast,seval,↓kw2,t2,t3,t5,t17,t18,t19,w0,w1,e1,hx,hoc,m1,m2,m3,n1,n2,n3,z0,z1,zAd,getA,zAe,setA,hk1,d1,d2];refine⟨hbk,ih (m - 1) (by omega) _ _ ⟨k+1,by omega,z0 _,z1 _,t2,t3,t17,t18,rfl,?_⟩⟩;refine t5.trans ?_;rw[Int.zero_add]
  ·have d1:=zF c1;have hi:¬isCnt j.user j.cls o=true:=by unfold isCnt; rw[d1]; simp
   rw[if_neg hi]at t5;refine goN ?_;simp only[push_cast,seval,↓kw2,t2,t3,t5,t17,t18,t19,w0,w1,e1,hx,hoc,m1,m2,m3,n1,n2,n3,z0,z1,zAd,getA,zAe,setA,hk1,d1];refine⟨hbk,ih (m - 1) (by omega) _ _ ⟨k+1,by omega,z0 _,z1 _,t2,t3,t17,t18,rfl,?_⟩⟩;refine t5.trans ?_;rw[Int.zero_add]
 ·have e1:decide ((k:Int) < (s.jobs.length:Int))=false:=by simp; omega
  rw[List.drop_eq_nil_of_le (by omega)]at t5;refine goN ?_;simp only[push_cast,seval,↓kw2,t2,t3,t5,t17,t18,t19,w0,w1,e1];exact⟨_,rfl,zAa rfl (by rw[show cntR ([]:List Jb) j.user j.cls=0 from rfl,Int.sub_zero])⟩
theorem cls_facts{s:Sta}(f:s.fine){j:Jb}(hj:j∈s.jobs):(0<=j.cls/\j.cls < (s.c.cls.length:Int))/\s.c.cls.length<=2^20/\(0<=(s.c.cls.getD j.cls.toNat default).d/\(s.c.cls.getD j.cls.toNat default).d<=2^40):=by
 have hcf:=f.cf;unfold Sta.config at hcf;simp only[zA,decide_eq_true_eq]at hcf;have hmay:=Cfg.chk_may hcf.1.1.1.1;unfold Cfg.may at hmay;simp only[zA,witV_t,Bool.not_eq_true']at hmay;have jp:=(Jb.chk_facts (tbl_chk (jobs_tbl f.jb) j hj)).1;unfold Jb.plain at jp;simp only[zA,witV_t]at jp;have hc:=jp.1.1.1.1.1.2;have ho:=zFl hmay.2 j.cls.toNat (by omega);unfold Cls.odd at ho;simp only[Bool.not_eq_false',zA,witV_t]at ho;obtain⟨⟨_,_⟩,hl⟩:=hmay.1.2;refine⟨by omega,by omega,by omega⟩
theorem e15:Ent zP 15 Tryz.f15 [] 2:=.mk Tryz.func15 rfl
theorem elig_bad{s:Sta}(h:s.good)(hl:s.lim)(hok:s.okV=false)(id:Int):Pur zP GG 15 [s.av,I id] (.tup [B false,I 8]):=by
 have hC:=holdc_pur h hl;rw[hok,if_neg (by decide)]at hC;have hZ:=h.cell;obtain⟨⟨⟨a1,a2,a3⟩,b1,b2,b3⟩,⟨⟨cc1,cc2,cc3⟩,dd1,dd2,dd3⟩,⟨ee1,ee2,ee3⟩,⟨f1,f2,f3⟩,g1,g2,g3⟩:=h.cell;obtain⟨p1,p2,p3,p4,p5,p6,p7⟩:=h.purs;simp only[Sta.av]at hC;show Pur zP GG 15 [ST s.c.a s.c.b s.c.c s.c.boot s.c.free s.c.tries s.c.age s.cs s.now s.next s.js s.ps s.ks s.ds s.hs s.us,I id] _;refine goQ e15 TOk.nil 0 ?_ (by simp[AV.purL,AV.pur,p1,p2,p3,p4,p5,p6,p7]);simp only[push_cast,seval,↓kw2,hZ];refine AC.pur hC ?_;refine goN ?_;simp only[push_cast,seval,↓kw2];exact⟨_,rfl,zAa rfl rfl⟩
theorem elig_no{s:Sta}(h:s.good)(hl:s.lim)(f:s.fine){id:Int}(hf:findN s.jobs id < 0):Pur zP GG 15 [s.av,I id] (.tup [B false,I 6]):=by
 have hC:=holdc_pur h hl;rw[okV_iff.2 f,if_pos rfl]at hC;have hF:=zFc h.js hl.jl id;rw[if_pos hf,if_pos hf]at hF;have hZ:=h.cell;obtain⟨⟨⟨a1,a2,a3⟩,b1,b2,b3⟩,⟨⟨cc1,cc2,cc3⟩,dd1,dd2,dd3⟩,⟨ee1,ee2,ee3⟩,⟨f1,f2,f3⟩,g1,g2,g3⟩:=h.cell;obtain⟨p1,p2,p3,p4,p5,p6,p7⟩:=h.purs;simp only[Sta.av]at hC;show Pur zP GG 15 [ST s.c.a s.c.b s.c.c s.c.boot s.c.free s.c.tries s.c.age s.cs s.now s.next s.js s.ps s.ks s.ds s.hs s.us,I id] _;refine goQ e15 TOk.nil 0 ?_ (by simp[AV.purL,AV.pur,p1,p2,p3,p4,p5,p6,p7]);simp only[push_cast,seval,↓kw2,hZ];refine AC.pur hC ?_;refine goN ?_;simp only[push_cast,seval,↓kw2,hZ];refine AC.pur hF ?_;refine goN ?_;simp only[push_cast,seval,↓kw2];exact⟨_,rfl,zAa rfl rfl⟩
theorem elig_ok{s:Sta}(h:s.good)(hl:s.lim)(f:s.fine){id:Int}(hf:¬findN s.jobs id < 0){j:Jb}(hj:s.jobs.getD (findN s.jobs id).toNat default=j):Pur zP GG 15 [s.av,I id] (.tup [B (s.eligV j),I 0]):=by
 have hC:=holdc_pur h hl;rw[okV_iff.2 f,if_pos rfl]at hC;have hF:=zFc h.js hl.jl id;rw[if_neg hf,if_neg hf]at hF;have hR:=ready_pur s.c h.cs h.js (jobs_tbl f.jb) hf hj;obtain⟨z1,z2,z3⟩:=zEm hf;have hjm:j∈s.jobs:=by
  rw[<- hj,show s.jobs.getD (findN s.jobs id).toNat default=s.jobs[(findN s.jobs id).toNat] by simp[List.getD,z2]];exact List.getElem_mem z2
 have hjg:j.good:=h.js.2 j hjm;obtain⟨c1,c2,c3⟩:=cls_facts f hjm;have hL:=left_pur h hl hjg c1 c2 c3;have hjx:=h.js.1.idx (P:=zP) un27 sz50 (i:=findN s.jobs id) (by rw[zM]; omega) (by have:=hl.jl; omega);rw[zAj Jb.av s.jobs default z2,hj]at hjx;have hbT:((0<=findN s.jobs id/\findN s.jobs id < ((s.jobs.map Jb.av).length:Int))/\j.av.cells.length=16)=True:=eq_true ⟨⟨by omega,by rw[zM]; omega⟩,rfl⟩;simp only[hbT]at hjx;obtain⟨m1,m2,m3⟩:=IsSl.cell hjg;have hjc:=Jb.cells j;have hZ:=h.cell;obtain⟨⟨⟨a1,a2,a3⟩,b1,b2,b3⟩,⟨⟨cc1,cc2,cc3⟩,dd1,dd2,dd3⟩,⟨ee1,ee2,ee3⟩,⟨f1,f2,f3⟩,g1,g2,g3⟩:=h.cell;obtain⟨p1,p2,p3,p4,p5,p6,p7⟩:=h.purs;unfold Sta.eligV;rw[show s.rdyV j=rdyL s.jobs j from rfl];simp only[Sta.av,Cfg.av,Jb.av]at hC hR hL;show Pur zP GG 15 [ST s.c.a s.c.b s.c.c s.c.boot s.c.free s.c.tries s.c.age s.cs s.now s.next s.js s.ps s.ks s.ds s.hs s.us,I id] _;refine goQ e15 TOk.nil 0 ?_ (by simp[AV.purL,AV.pur,p1,p2,p3,p4,p5,p6,p7]);simp only[push_cast,seval,↓kw2,hZ];refine AC.pur hC ?_;refine goN ?_;simp only[push_cast,seval,↓kw2,hZ];refine AC.pur hF ?_;refine goN ?_;simp only[push_cast,seval,↓kw2,hZ];refine AC.pur hR ?_;cases rdyL s.jobs j
 ·skip
  refine goN ?_;simp only[push_cast,seval,↓kw2,hZ,hjx,hjc,m1,m2,m3];exact⟨_,rfl,zAa rfl rfl⟩
 ·skip
  refine goN ?_;simp only[push_cast,seval,↓kw2,hZ,hjx,hjc,m1,m2,m3];refine⟨_,toVQ hL,?_⟩;simp only[push_cast,seval,↓kw2];cases decide (0 < s.leftV j)
  ·exact⟨_,rfl,zAa rfl rfl⟩
  ·exact⟨_,rfl,zAa rfl rfl⟩
theorem jobN_get{s:Sta}{id:Int}(hf:¬findN s.jobs id < 0):s.jobN id=s.jobs.getD (findN s.jobs id).toNat default:=by unfold Sta.jobN; rw[if_neg hf]
theorem e23:Ent zP 23 Tryz.f23 [] 2:=.mk Tryz.func23 rfl
theorem waiting_pur{s:Sta}(h:s.good)(hl:s.lim)(id:Int):Pur zP GG 23 [s.av,I id] (.tup [(if s.waits id=true then s.jobN id else default:Jb).av,B (s.waits id)]):=by
 have hF:=zFc h.js hl.jl id;have hZ:=h.cell;obtain⟨⟨⟨a1,a2,a3⟩,b1,b2,b3⟩,⟨⟨cc1,cc2,cc3⟩,dd1,dd2,dd3⟩,⟨ee1,ee2,ee3⟩,⟨f1,f2,f3⟩,g1,g2,g3⟩:=h.cell;obtain⟨p1,p2,p3,p4,p5,p6,p7⟩:=h.purs;unfold Sta.waits;show Pur zP GG 23 [ST s.c.a s.c.b s.c.c s.c.boot s.c.free s.c.tries s.c.age s.cs s.now s.next s.js s.ps s.ks s.ds s.hs s.us,I id] _
 by_cases hf:findN s.jobs id < 0
 ·rw[if_pos hf,if_pos hf]at hF;rw[zT hf];refine goQ e23 TOk.nil 0 ?_ (by simp[AV.purL,AV.pur,p1,p2,p3,p4,p5,p6,p7]);simp only[push_cast,seval,↓kw2,hZ];refine AC.pur hF ?_;refine goN ?_;simp only[push_cast,seval,↓kw2,zAd,getA,zAe,setA,zAb];exact⟨_,rfl,zAa rfl rfl⟩
 ·rw[if_neg hf,if_neg hf]at hF;rw[zF hf,jobN_get hf];obtain⟨z1,z2,z3⟩:=zEm hf;have hjx:=h.js.1.idx (P:=zP) un27 sz50 (i:=findN s.jobs id) (by rw[zM]; omega) (by have:=hl.jl; omega);rw[zAj Jb.av s.jobs default z2]at hjx;have hjg:(s.jobs.getD (findN s.jobs id).toNat default).good:=h.js.get _
  generalize s.jobs.getD (findN s.jobs id).toNat default=j at hjx hjg
  have hbT:((0<=findN s.jobs id/\findN s.jobs id < ((s.jobs.map Jb.av).length:Int))/\j.av.cells.length=16)=True:=eq_true ⟨⟨by omega,by rw[zM]; omega⟩,rfl⟩;simp only[hbT]at hjx;obtain⟨m1,m2,m3⟩:=IsSl.cell hjg;have hjp:=IsSl.pur hjg (zAi IA _ (fun _=>rfl));have hjc:=Jb.cells j;cases hst:decide (j.st=1)
  ·skip
   refine goQ e23 TOk.nil 0 ?_ (by simp[AV.purL,AV.pur,p1,p2,p3,p4,p5,p6,p7]);simp only[push_cast,seval,↓kw2,hZ];refine AC.pur hF ?_;refine goN ?_;simp only[push_cast,seval,↓kw2,hZ,hst,hjx,hjc,m1,m2,m3,zAd,getA,zAe,setA,zAb];exact⟨_,rfl,zAa rfl rfl⟩
  ·skip
   refine goQ e23 TOk.nil 0 ?_ (by simp[AV.purL,AV.pur,p1,p2,p3,p4,p5,p6,p7]);simp only[push_cast,seval,↓kw2,hZ];refine AC.pur hF ?_;refine goN ?_;simp only[push_cast,seval,↓kw2,hZ,hst,hjx,hjc,m1,m2,m3,zAd,getA,zAe,setA,zAb];exact⟨_,rfl,zAa (by simp[AV.pur,AV.purL,hjp]) rfl⟩
theorem eqWt0(i m x y z p q r i' m' x' y' z' p' q' r':Int)(s t u s' t' u':Bool):aEqS zP 39 (.agg [I i,I m,I x,I y,I z,I p,I q,I r,B s,B t,B u]) (.agg [I i',I m',I x',I y',I z',I p',I q',I r',B s',B t',B u']) =
  some (i==i'&&(m==m'&&(((((x==x'&&(y==y'&&(z==z'&&true)))&&((p==p'&&(q==q'&&(r==r'&&true)))&&true)))&&((s==s'&&(t==t'&&(u==u'&&true)))&&true))&&true))):=by kernel_rfl
theorem eqWt(w:Wt):aEqS zP 39 (WA w.job w.tm w.pl) (.agg [I 0,I 0,I 0,I 0,I 0,I 0,I 0,I 0,B false,B false,B false])=some (decide (w=zWt)):=by
 obtain⟨i,m,x,y,z,p,q,r,s,t,u⟩:=w;rw[eqWt0,Option.some.injEq,Bool.eq_iff_iff,decide_eq_true_iff];simp[zWt,zPc,and_assoc]
def impPr:Nat->Bool:=fun i=>i==4
def ordPr:List (Nat × Bool):=[(0,true),(1,true),(2,true),(3,true),(4,false),(5,true)]
theorem e24:Ent zP 24 Tryz.f24 [2] 3:=.mk Tryz.func24 rfl
theorem prom_pur{s:Sta}(h:s.good)(hl:s.lim)(id:Int)(w:Wt):∃ Z:Jb,Z.good/\Pur zP GG 24 [s.av,I id,w.av] (.tup [Z.av,B (s.prom id w)])/\(¬w.job=0->s.prom id w=true->Z=s.jobN w.job):=by
 have hW:=waiting_pur h hl w.job;have hZ:=h.cell;obtain⟨⟨⟨a1,a2,a3⟩,b1,b2,b3⟩,⟨⟨cc1,cc2,cc3⟩,dd1,dd2,dd3⟩,⟨ee1,ee2,ee3⟩,⟨f1,f2,f3⟩,g1,g2,g3⟩:=h.cell;obtain⟨p1,p2,p3,p4,p5,p6,p7⟩:=h.purs;have hq:=eqWt w;unfold Sta.prom;simp only[Sta.av]at hW;have hz0:(default:Jb).good:=Jb.good_default
 by_cases h0:w.job=0
 ·refine⟨default,hz0,?_,fun e=>absurd h0 e⟩;rw[if_pos h0];show Pur zP GG 24 [ST s.c.a s.c.b s.c.c s.c.boot s.c.free s.c.tries s.c.age s.cs s.now s.next s.js s.ps s.ks s.ds s.hs s.us,I id,WA w.job w.tm w.pl] _;have d0:=zT h0
  generalize decide (w=zWt)=b at hq
  refine goQ e24 TOk.nil 0 ?_ (by simp[AV.purL,AV.pur,p1,p2,p3,p4,p5,p6,p7]);simp only[push_cast,seval,↓kw2,hZ,d0,List.contains_cons,Bool.true_or,Bool.false_or,Bool.or_true];refine FW.walkG hmix (imp:=impPr) (l:=ordPr) (by kernel_rfl) (by kernel_rfl) ?_;simp only[ordPr];simp only[push_cast,seval,↓kw2,zBn,zBm,zAr,↓zAq,impPr,Bool.or_false,Bool.or_true,Bool.true_or,Bool.false_or,Bool.or_self,Nat.add_assoc,zAx,zCq,wat,clOf,zAn,hq,zAd,getA,zAe,setA,zAb];refine goW TOk.nil [2] 0 ?_;simp only[push_cast,seval,↓kw2,zAd,getA,zAe,setA,zAb];exact⟨_,rfl,zAa rfl rfl⟩
 ·rw[if_neg h0];have d0:=zF h0;have hjg:(s.jobN w.job).good:=by
   unfold Sta.jobN
   split
   ·exact hz0
   ·exact h.js.get _
  have key:∃ Z:Jb,Z.good/\Pur zP GG 24 [ST s.c.a s.c.b s.c.c s.c.boot s.c.free s.c.tries s.c.age s.cs s.now s.next s.js s.ps s.ks s.ds s.hs s.us,I id,WA w.job w.tm w.pl] (.tup [Z.av,B (s.waits w.job&&(!decide (w.job=id)&&(!decide (w.tm < s.now)&&(!decide (1099511627776 < w.tm)&&(decide (isE s.c.a s.c.b s.c.c (s.jobN w.job).w w.pl=0)&&isV s.c.a s.c.b s.c.c (s.jobN w.job).w w.pl)))))])/\((s.waits w.job&&(!decide (w.job=id)&&(!decide (w.tm < s.now)&&(!decide (1099511627776 < w.tm)&&(decide (isE s.c.a s.c.b s.c.c (s.jobN w.job).w w.pl=0)&&isV s.c.a s.c.b s.c.c (s.jobN w.job).w w.pl)))))=true->Z=s.jobN w.job):=by
   cases hw:s.waits w.job
   ·rw[hw,if_neg (by decide)]at hW;refine⟨default,hz0,?_,fun e=>(by simp at e)⟩;obtain⟨Z0,hz⟩:∃ Z0:Jb,Z0=default:=⟨_,rfl⟩;rw[<- hz]at hW;have hz0':=hz0;rw[<- hz]at hz0';obtain⟨m1,m2,m3⟩:=IsSl.cell hz0';simp only[Jb.av]at hW;refine goQ e24 TOk.nil 0 ?_ (by simp[AV.purL,AV.pur,p1,p2,p3,p4,p5,p6,p7]);simp only[push_cast,seval,↓kw2,hZ,d0,zAd,getA,zAe,setA,zAb];refine AC.pur hW ?_;refine goW TOk.nil [2] 0 ?_;simp only[push_cast,seval,↓kw2,hZ,zAd,getA,zAe,setA,zAb,d0,m1,m2,m3];exact⟨_,rfl,zAa rfl rfl⟩
   ·rw[hw,if_pos rfl]at hW
    generalize s.jobN w.job=Z at *
    obtain⟨m1,m2,m3⟩:=IsSl.cell hjg;have hjp:=IsSl.pur hjg (zAi IA _ (fun _=>rfl));have hjc:=Jb.cells Z;have hI:=spotsIs_pur s.c.a s.c.b s.c.c Z.w w.pl;simp only[Jb.av,Plc.av,Wnt.av]at hW hI;cases c1:decide (w.job=id)
    ·cases c2:decide (w.tm < s.now)
     ·cases c3:decide (1099511627776 < w.tm)
      ·refine⟨Z,hjg,?_,fun _=>rfl⟩;cases c4:decide (isE s.c.a s.c.b s.c.c Z.w w.pl=0)
       ·skip
        refine goQ e24 TOk.nil 0 ?_ (by simp[AV.purL,AV.pur,p1,p2,p3,p4,p5,p6,p7]);simp only[push_cast,seval,↓kw2,hZ,d0,zAd,getA,zAe,setA,zAb];refine AC.pur hW ?_;refine goW TOk.nil [2] 0 ?_;simp only[push_cast,seval,↓kw2,hZ,zAd,getA,zAe,setA,zAb,d0,c1,c2,c3,m1,m2,m3,hjc];refine AC.pur hI ?_;refine goW TOk.nil [2] 0 ?_;simp only[push_cast,seval,↓kw2,hZ,zAd,getA,zAe,setA,zAb,c4,m1,m2,m3,hjc];exact⟨_,rfl,zAa (by simp[AV.pur,AV.purL,hjp]) rfl⟩
       ·generalize isV s.c.a s.c.b s.c.c Z.w w.pl=b at hI
        refine goQ e24 TOk.nil 0 ?_ (by simp[AV.purL,AV.pur,p1,p2,p3,p4,p5,p6,p7]);simp only[push_cast,seval,↓kw2,hZ,d0,zAd,getA,zAe,setA,zAb];refine AC.pur hW ?_;refine goW TOk.nil [2] 0 ?_;simp only[push_cast,seval,↓kw2,hZ,zAd,getA,zAe,setA,zAb,d0,c1,c2,c3,m1,m2,m3,hjc];refine AC.pur hI ?_;refine goW TOk.nil [2] 0 ?_;simp only[push_cast,seval,↓kw2,hZ,zAd,getA,zAe,setA,zAb,c4,m1,m2,m3,hjc];exact⟨_,rfl,zAa (by simp[AV.pur,AV.purL,hjp]) rfl⟩
      ·refine⟨default,hz0,?_,fun e=>(by simp at e)⟩;refine goQ e24 TOk.nil 0 ?_ (by simp[AV.purL,AV.pur,p1,p2,p3,p4,p5,p6,p7]);simp only[push_cast,seval,↓kw2,hZ,d0,zAd,getA,zAe,setA,zAb];refine AC.pur hW ?_;refine goW TOk.nil [2] 0 ?_;simp only[push_cast,seval,↓kw2,hZ,zAd,getA,zAe,setA,zAb,d0,c1,c2,c3,m1,m2,m3,hjc];exact⟨_,rfl,zAa rfl rfl⟩
     ·refine⟨default,hz0,?_,fun e=>(by simp at e)⟩;refine goQ e24 TOk.nil 0 ?_ (by simp[AV.purL,AV.pur,p1,p2,p3,p4,p5,p6,p7]);simp only[push_cast,seval,↓kw2,hZ,d0,zAd,getA,zAe,setA,zAb];refine AC.pur hW ?_;refine goW TOk.nil [2] 0 ?_;simp only[push_cast,seval,↓kw2,hZ,zAd,getA,zAe,setA,zAb,d0,c1,c2,m1,m2,m3,hjc];exact⟨_,rfl,zAa rfl rfl⟩
    ·refine⟨default,hz0,?_,fun e=>(by simp at e)⟩;refine goQ e24 TOk.nil 0 ?_ (by simp[AV.purL,AV.pur,p1,p2,p3,p4,p5,p6,p7]);simp only[push_cast,seval,↓kw2,hZ,d0,zAd,getA,zAe,setA,zAb];refine AC.pur hW ?_;refine goW TOk.nil [2] 0 ?_;simp only[push_cast,seval,↓kw2,hZ,zAd,getA,zAe,setA,zAb,d0,c1,m1,m2,m3,hjc];exact⟨_,rfl,zAa rfl rfl⟩
  obtain⟨Z,q1,q2,q3⟩:=key;exact⟨Z,q1,q2,fun _=>q3⟩
def togW(n:Int)(xs ys:List Int):List Int:=List.zipWith orwV (List.zipWith orwV (ofL n []) xs) ys
theorem tog_chk{n:Int}(hn:1<=n/\n<=12288){xs ys:List Int}(ux:∀ w∈xs,inU w)(uy:∀ w∈ys,inU w)(c1:schk n xs=0)(c2:schk n ys=0):schk n (togW n xs ys)=0/\(∀ w∈togW n xs ys,inU w)/\∀ m,zAy (togW n xs ys) m=(zAy xs m||zAy ys m):=by
 have c0:schk n (ofL n [])=0:=zCa hn fun k hk=>by cases hk
 have h1:=or_chk (zAt n []) ux c0 c1;have h2:=or_chk (zCo zEl _ _) uy h1.1 c2;refine⟨h2.1,zCo zEl _ _,fun m=>?_⟩;unfold togW;rw[h2.2,h1.2,zEb hn fun k hk=>by cases hk];simp
theorem e29:Ent zP 29 Tryz.f29 [] 2:=.mk Tryz.func29 rfl
theorem zEr{n:Int}(hn:1<=n/\n<=12288){xs ys:List Int}(ux:∀ w∈xs,inU w)(uy:∀ w∈ys,inU w)(c1:schk n xs=0)(c2:schk n ys=0){H:List AO}{q:Nat}(hq:H[q]?=some (.arr 1 [.isl (xs.map U),.isl (ys.map U)])){K:AV->List AO->Prop}(hK:K (.isl ((togW n xs ys).map U)) H) :
  AC zP GG 29 [I n,.sl q 0 2 2] H K:=by
 have c0:schk n (ofL n [])=0:=zCa hn fun k hk=>by cases hk
 have h1:=or_chk (zAt n []) ux c0 c1;have hO:=zEq n [] ⟨hn,(fun k hk=>by cases hk),(by decide:([]:List Int).length<=65536)⟩;rw[show frS (([]:List Int).map IA)=.c (.slice none 0 0) from rfl]at hO;have o1:=or_is (zAt n []) ux c0 c1;have o2:=or_is (zCo zEl _ _) uy h1.1 c2;have gS:∀(l:List Int),(∀ w∈l,inU w)->IsSet (.isl (l.map U)):=fun l hl=>.isl hl
 obtain⟨x1,x2,x3⟩:=(gS _ (zAt n [])).cell;obtain⟨y1,y2,y3⟩:=(gS _ (zCo zEl (ofL n []) xs)).cell;obtain⟨z1,z2,z3⟩:=(gS _ (zCo zEl (List.zipWith orwV (ofL n []) xs) ys)).cell;obtain⟨u1,u2,u3⟩:=(gS _ ux).cell;obtain⟨v1,v2,v3⟩:=(gS _ uy).cell
 change K (.isl ((List.zipWith orwV (List.zipWith orwV (ofL n []) xs) ys).map U)) H at hK
 generalize AV.isl ((List.zipWith orwV (List.zipWith orwV (ofL n []) xs) ys).map U)=X4 at *
 generalize AV.isl ((List.zipWith orwV (ofL n []) xs).map U)=X3 at *
 generalize AV.isl ((ofL n []).map U)=X0 at *
 generalize AV.isl (xs.map U)=X1 at *
 generalize AV.isl (ys.map U)=X2 at *
 refine goE e29 TOk.nil 3 ?_;simp only[push_cast,seval,↓kw2,hq];refine AC.pur hO ?_;refine goW TOk.nil [] 3 ?_;simp only[push_cast,seval,↓kw2,hq,x1,x2,x3,y1,y2,y3,u1,u2,u3,v1,v2,v3,zCu,Int.toNat_natCast];refine AC.pur o1 ?_;refine goW TOk.nil [] 3 ?_;simp only[push_cast,seval,↓kw2,hq,x1,x2,x3,y1,y2,y3,z1,z2,z3,u1,u2,u3,v1,v2,v3,zCu,Int.toNat_natCast];refine AC.pur o2 ?_;refine goW TOk.nil [] 3 ?_;simp only[push_cast,seval,↓kw2,hq,x1,x2,x3,y1,y2,y3,z1,z2,z3,u1,u2,u3,v1,v2,v3,zCu,Int.toNat_natCast];exact⟨_,rfl,hK⟩
theorem hold_tog{s:Sta}(f:s.fine){fr till:Int}{p x:Plc}(hp:p.ok s.c.a s.c.b s.c.c)(hx:x.ok s.c.a s.c.b s.c.c) :
  holdV s.c.a s.c.b s.c.c (togW (s.nM:Int) (s.busN fr till) (ownW s.c.a s.c.b s.c.c x.x x.y x.z x.p x.q x.r)) (togW (3*(s.nM:Int)) (s.busL fr till) (zEx s.c.a s.c.b s.c.c x.x x.y x.z x.p x.q x.r x.s x.t x.u)) p=(s.clear p fr till&&zEu s.c.a s.c.b s.c.c p x):=by
 obtain⟨n1,n2⟩:=nM_rng f;have hd:=zFi f;have hn:=nM_eq f;obtain⟨q1,q2,q3,q4,_⟩:=bus_chk f fr till;obtain⟨k1,k2⟩:=own_chk hx;have hmv:zAf s.c.a s.c.b s.c.c=(s.nM:Int):=by rw[zAf,if_pos hd,hn]
 rw[hmv]at k1 k2;have u1:∀ w∈ownW s.c.a s.c.b s.c.c x.x x.y x.z x.p x.q x.r,inU w:=zAt _ _;have u2:∀ w∈zEx s.c.a s.c.b s.c.c x.x x.y x.z x.p x.q x.r x.s x.t x.u,inU w:=zAt _ _;have t1:=(tog_chk (n:=(s.nM:Int)) (by omega) q3 u1 q1 k1).2.2;have t2:=(tog_chk (n:=3*(s.nM:Int)) (by omega) q4 u2 q2 k2).2.2;have oN:∀ k∈zAo s.c.a s.c.b s.c.c p.x p.y p.z p.p p.q p.r,((k.toNat:Nat):Int)=k:=fun k hk=>by
  have:=(zDc hp.1 hp.2.1 hk).2; omega
 have oL:∀ k∈zBh s.c.a s.c.b s.c.c p.x p.y p.z p.p p.q p.r p.s p.t p.u,((k.toNat:Nat):Int)=k:=fun k hk=>by
  have:=zDx hp.1 hp.2.1 k hk; omega
 unfold Sta.clear holdV;rw[Bool.eq_iff_iff,zA,zA,zA,List.all_eq_true,List.all_eq_true,List.all_eq_true,List.all_eq_true,apart_iff];have e1:∀ k∈zAo s.c.a s.c.b s.c.c p.x p.y p.z p.p p.q p.r,zAy (togW (s.nM:Int) (s.busN fr till) (ownW s.c.a s.c.b s.c.c x.x x.y x.z x.p x.q x.r)) k.toNat=(zAy (s.busN fr till) k.toNat||decide (k∈zAo s.c.a s.c.b s.c.c x.x x.y x.z x.p x.q x.r)):=fun k hk=>by
  rw[t1,own_bit hx,oN k hk]
 have e2:∀ k∈zBh s.c.a s.c.b s.c.c p.x p.y p.z p.p p.q p.r p.s p.t p.u,zAy (togW (3*(s.nM:Int)) (s.busL fr till) (zEx s.c.a s.c.b s.c.c x.x x.y x.z x.p x.q x.r x.s x.t x.u)) k.toNat=(zAy (s.busL fr till) k.toNat||decide (k∈zBh s.c.a s.c.b s.c.c x.x x.y x.z x.p x.q x.r x.s x.t x.u)):=fun k hk=>by
  rw[t2,link_bit hx,oL k hk]
 constructor
 ·rintro⟨h1,h2⟩
  refine⟨⟨fun k hk=>?_,fun k hk=>?_⟩,fun k hk hm=>?_,fun k hk hm=>?_⟩
  ·have:=h1 k hk;rw[e1 k hk]at this;cases hb:zAy (s.busN fr till) k.toNat
   ·rfl
   ·rw[hb]at this; simp at this
  ·have:=h2 k hk;rw[e2 k hk]at this;cases hb:zAy (s.busL fr till) k.toNat
   ·rfl
   ·rw[hb]at this; simp at this
  ·have:=h1 k hk;rw[e1 k hk,zT hm]at this;simp at this
  ·have:=h2 k hk;rw[e2 k hk,zT hm]at this;simp at this
 ·rintro⟨⟨h1,h2⟩,h3,h4⟩
  refine⟨fun k hk=>?_,fun k hk=>?_⟩
  ·have:=h1 k hk;rw[e1 k hk,zF (h3 k hk),Bool.or_false];exact this
  ·have:=h2 k hk;rw[e2 k hk,zF (h4 k hk),Bool.or_false];exact this
theorem job_get{s:Sta}(h:s.good){id:Int}:(s.jobN id).good:=by
 unfold Sta.jobN
 split
 ·exact Jb.good_default
 ·exact h.js.get _
def Sta.nowB(s:Sta)(id:Int)(w:Wt):Int :=
 if s.okV=true then if findN s.jobs id < 0 then 6 else if (s.jobN id).st=1 then if s.prom id w=true then if s.eligV (s.jobN id)=true then 0 else 250 else 2 else 6 else 8
theorem e10:Ent zP 10 Tryz.f10 [] 3:=.mk Tryz.func10 rfl
theorem now_bad{s:Sta}(h:s.good)(hl:s.lim)(id:Int)(w:Wt)(hb:¬s.nowB id w=0):Pur zP GG 10 [s.av,I id,w.av] (.tup [zPc.av,I (s.nowB id w)]):=by
 have hZ:=h.cell;obtain⟨⟨⟨a1,a2,a3⟩,b1,b2,b3⟩,⟨⟨cc1,cc2,cc3⟩,dd1,dd2,dd3⟩,⟨ee1,ee2,ee3⟩,⟨f1,f2,f3⟩,g1,g2,g3⟩:=h.cell;obtain⟨p1,p2,p3,p4,p5,p6,p7⟩:=h.purs;unfold Sta.nowB at hb ⊢;show Pur zP GG 10 [ST s.c.a s.c.b s.c.c s.c.boot s.c.free s.c.tries s.c.age s.cs s.now s.next s.js s.ps s.ks s.ds s.hs s.us,I id,WA w.job w.tm w.pl] _;refine goQ e10 TOk.nil 0 ?_ (by simp[AV.purL,AV.pur,p1,p2,p3,p4,p5,p6,p7]);simp only[push_cast,seval,↓kw2,hZ,zAd,getA,zAe,setA,zAb];cases hok:s.okV
 ·have hE:=elig_bad h hl hok id;simp only[Sta.av]at hE;rw[if_neg (by decide)];refine AC.pur hE ?_;refine goN ?_;simp only[push_cast,seval,↓kw2,hZ,zAd,getA,zAe,setA,zAb];exact⟨_,rfl,zAa rfl rfl⟩
 have f:=okV_iff.1 hok;rw[hok,if_pos rfl]at hb;rw[if_pos rfl]
 by_cases hf:findN s.jobs id < 0
 ·have hE:=elig_no h hl f hf;simp only[Sta.av]at hE;rw[if_pos hf];refine AC.pur hE ?_;refine goN ?_;simp only[push_cast,seval,↓kw2,hZ,zAd,getA,zAe,setA,zAb];exact⟨_,rfl,zAa rfl rfl⟩
 rw[if_neg hf]at hb;rw[if_neg hf];have hE:=elig_ok h hl f hf rfl;rw[<- jobN_get hf]at hE;have hW:=waiting_pur h hl id;obtain⟨Z,hZg,hP,_⟩:=prom_pur h hl id w;have hn:=IsSl.cell hZg;have hwt:s.waits id=decide ((s.jobN id).st=1):=by unfold Sta.waits; rw[zF hf]; rfl
 rw[hwt]at hW;have hjg:=job_get h (id:=id)
 generalize s.jobN id=j at *
 simp only[Sta.av,Wt.av,Jb.av]at hE hP;refine AC.pur hE ?_;refine goN ?_;simp only[push_cast,seval,↓kw2,hZ,zAd,getA,zAe,setA,zAb]
 by_cases hst:j.st=1
 ·rw[if_pos hst]at hb;rw[if_pos hst];rw[zT hst,if_pos rfl]at hW;have hm:=IsSl.cell hjg;simp only[Sta.av,Jb.av]at hW;refine AC.pur hW ?_;refine goN ?_;simp only[push_cast,seval,↓kw2,hZ,zAd,getA,zAe,setA,zAb,hm];refine AC.pur hP ?_;cases hpr:s.prom id w
  ·rw[if_neg (by decide)];refine goN ?_;simp only[push_cast,seval,↓kw2,hZ,zAd,getA,zAe,setA,zAb,hm,hn];exact⟨_,rfl,zAa rfl rfl⟩
  ·rw[hpr,if_pos rfl]at hb;rw[if_pos rfl];cases hel:s.eligV j
   ·rw[if_neg (by decide)];refine goN ?_;simp only[push_cast,seval,↓kw2,hZ,zAd,getA,zAe,setA,zAb,hm,hn];exact⟨_,rfl,zAa rfl rfl⟩
   ·rw[hel]at hb;exact absurd rfl hb
 ·rw[if_neg hst];rw[zF hst,if_neg (by decide)]at hW;have hm:=IsSl.cell Jb.good_default
  generalize (default:Jb)=j0 at hW hm
  simp only[Sta.av,Jb.av]at hW;refine AC.pur hW ?_;refine goN ?_;simp only[push_cast,seval,↓kw2,hZ,zAd,getA,zAe,setA,zAb,hm];exact⟨_,rfl,zAa rfl rfl⟩
theorem now_no{s:Sta}(h:s.good)(hl:s.lim)(id:Int)(w:Wt)(hb:s.okV=false\/(s.fine/\(findN s.jobs id < 0\/(¬findN s.jobs id < 0/\(¬(s.jobN id).st=1\/s.prom id w=false\/s.eligV (s.jobN id)=false))))):∃ e:Int,¬e=0/\Pur zP GG 10 [s.av,I id,w.av] (.tup [zPc.av,I e]):=by
 have hne:¬s.nowB id w=0:=by
  unfold Sta.nowB
  rcases hb with hb | ⟨f,hb | ⟨hf,hb | hb | hb⟩⟩
  ·rw[hb,if_neg (by decide)]; decide
  ·rw[okV_iff.2 f,if_pos rfl,if_pos hb]; decide
  ·rw[okV_iff.2 f,if_pos rfl,if_neg hf,if_neg hb]; decide
  ·rw[okV_iff.2 f,if_pos rfl,if_neg hf,hb,if_neg (show ¬false=true by decide)]
   split <;> decide
  ·rw[okV_iff.2 f,if_pos rfl,if_neg hf,hb,if_neg (show ¬false=true by decide)]
   repeat' split
   all_goals decide
 exact⟨_,hne,now_bad h hl id w hne⟩
def Sta.nowN(s:Sta)(j:Jb)(w:Wt):List Int:=if s.avoid j w=true then togW (s.nM:Int) (s.busN s.now (s.endJ j)) (ownW s.c.a s.c.b s.c.c w.pl.x w.pl.y w.pl.z w.pl.p w.pl.q w.pl.r) else s.busN s.now (s.endJ j)
def Sta.nowP(s:Sta)(j:Jb)(w:Wt):Plc:=minF s.c.a s.c.b s.c.c (scV s.c.a s.c.b s.c.c (s.nowN j w)) (s.freeW j w)
def Sta.nowF(s:Sta)(j:Jb)(w:Wt):Bool:=decide (1099511627776 < s.endJ j)||(s.capped j w||(s.freeW j w).isEmpty)
theorem now_is{s:Sta}(h:s.good)(hl:s.lim)(f:s.fine){id:Int}(hf:¬findN s.jobs id < 0){j:Jb}(hj:s.jobN id=j){w:Wt}(hpr:s.prom id w=true)(hel:s.eligV j=true) :
  Pur zP GG 10 [s.av,I id,w.av] (.tup [(if s.nowF j w=true then zPc else s.nowP j w).av,I (if s.nowF j w=true then 9 else 0)]):=by
 have hst:j.st=1:=by
  unfold Sta.eligV Sta.rdyV at hel;simp only[zA,decide_eq_true_eq]at hel;exact hel.1.1
 have hE:=elig_ok h hl f hf rfl;rw[<- jobN_get hf,hj,hel]at hE;have hW:=waiting_pur h hl id;have hwt:s.waits id=true:=by unfold Sta.waits; rw[zF hf,hj,zT hst]; rfl
 rw[hwt,if_pos rfl,hj]at hW;obtain⟨Z,hZg,hP,hZ⟩:=prom_pur h hl id w;have hZ':=fun e=>hZ e hpr
 rw[hpr]at hP;obtain⟨z1,z2,z3⟩:=zEm hf;have hjm:j∈s.jobs:=by
  rw[<- hj,jobN_get hf,show s.jobs.getD (findN s.jobs id).toNat default=s.jobs[(findN s.jobs id).toNat] by simp[List.getD,z2]];exact List.getElem_mem z2
 have hjg:j.good:=h.js.2 j hjm;obtain⟨c1,c2,c3⟩:=cls_facts f hjm;have hLf:=left_pur h hl hjg c1 c2 c3;obtain⟨jp,_,jw,_⟩:=Jb.chk_facts (tbl_chk (jobs_tbl f.jb) j hjm);unfold Jb.plain at jp;simp only[zA,witV_t]at jp;have hwl:=jp.1.1.1.1.2;have hcf:=f.cf;unfold Sta.config at hcf;simp only[zA,decide_eq_true_eq]at hcf;have hmay:=Cfg.chk_may hcf.1.1.1.1;unfold Cfg.may at hmay;simp only[zA,witV_t]at hmay;obtain⟨⟨⟨⟨_,hbo⟩,hfr⟩,_⟩,_⟩:=hmay;have hnow:=hcf.1.1.1.2;have hnow2:=hcf.1.1.2;have hend:s.endJ j=s.now+s.c.boot+j.wall+s.c.free:=by unfold Sta.endJ; omega
 have u1:=zAl (n:=s.now+s.c.boot) (by omega) (by omega);have u2:=zAl (n:=s.now+s.c.boot+j.wall) (by omega) (by omega);have u3:=zAl (n:=s.now+s.c.boot+j.wall+s.c.free) (by omega) (by omega);have u4:s.now+s.c.boot+j.wall+s.c.free=s.endJ j:=hend.symm;have u5:=zAl (n:=s.endJ j) (by omega) (by omega);have hu:=And.intro u1 (And.intro u2 (And.intro u3 (And.intro u4 u5)));have hd:=zFi f;have hmv:zAf s.c.a s.c.b s.c.c=(s.nM:Int):=by rw[zAf,if_pos hd,nM_eq f]
 have hM:=many_pur s.c.a s.c.b s.c.c;rw[show chk s.c.a s.c.b s.c.c=0 by rw[chk,if_pos hd],hmv]at hM;obtain⟨nm1,nm2⟩:=nM_rng f;have hm3:=zAl (n:=3*(s.nM:Int)) (by omega) (by omega);have hdw:dwchk s.c.a s.c.b s.c.c j.w.p j.w.q j.w.r=0:=dwchk_ok.2 ⟨hd,jw⟩;obtain⟨q1,q2,q3,q4,_⟩:=bus_chk f s.now (s.endJ j);have hm:=IsSl.cell hjg;have hn:=IsSl.cell hZg;have hjc:=Jb.cells j;have hzc:=Jb.cells Z;have gS:∀ {l:List Int},(∀ w∈l,inU w)->IsSet (.isl (l.map U)):=fun hl=>.isl hl
 have hs:=And.intro (gS q3).cell (And.intro (gS q4).cell hm3);have hZ:=h.cell;obtain⟨⟨⟨a1,a2,a3⟩,b1,b2,b3⟩,⟨⟨cc1,cc2,cc3⟩,dd1,dd2,dd3⟩,⟨ee1,ee2,ee3⟩,⟨f1,f2,f3⟩,g1,g2,g3⟩:=h.cell;obtain⟨p1,p2,p3,p4,p5,p6,p7⟩:=h.purs;simp only[Sta.av,Wt.av,Jb.av]at hE hW hP hLf;obtain⟨r,er,hr,her⟩:∃ r er,r=(if s.nowF j w=true then zPc else s.nowP j w)/\er=(if s.nowF j w=true then (9:Int) else 0):=⟨_,_,rfl,rfl⟩;rw[<- hr,<- her];have hF:s.nowF j w=true->r=zPc/\er=9:=fun e=>by rw[hr,her,if_pos e,if_pos e]; exact⟨rfl,rfl⟩
 have hF':s.nowF j w=false->r=s.nowP j w/\er=0:=fun e=>by rw[hr,her,e]; exact⟨rfl,rfl⟩
 clear hr her;show Pur zP GG 10 [ST s.c.a s.c.b s.c.c s.c.boot s.c.free s.c.tries s.c.age s.cs s.now s.next s.js s.ps s.ks s.ds s.hs s.us,I id,WA w.job w.tm w.pl] _;refine goQ e10 TOk.nil 0 ?_ (by simp[AV.purL,AV.pur,p1,p2,p3,p4,p5,p6,p7]);simp only[push_cast,seval,↓kw2,hZ,zAd,getA,zAe,setA,zAb];refine AC.pur hE ?_;refine goN ?_;simp only[push_cast,seval,↓kw2,hZ,zAd,getA,zAe,setA,zAb,hm,hn,hjc,hzc,hu];refine AC.pur hW ?_;refine goN ?_;simp only[push_cast,seval,↓kw2,hZ,zAd,getA,zAe,setA,zAb,hm,hn,hjc,hzc,hu]
 by_cases hmax:1099511627776 < s.endJ j
 ·have dm:=zT hmax;obtain⟨rfl,rfl⟩:=hF (by unfold Sta.nowF; rw[dm]; rfl);refine AC.pur hP ?_;refine goN ?_;simp only[push_cast,seval,↓kw2,hZ,zAd,getA,zAe,setA,zAb,hm,hn,hjc,hzc,hu,dm];exact⟨_,rfl,zAa rfl rfl⟩
 have dm:=zF hmax;have hmax:s.endJ j<=1099511627776:=by omega
 have hB:=sBusy_ok h hl f (fr:=s.now) (till:=s.endJ j) (spE_of (by omega) (by omega) hmax);simp only[Sta.av]at hB;refine AC.pur hP ?_;refine goN ?_;simp only[push_cast,seval,↓kw2,hZ,zAd,getA,zAe,setA,zAb,hm,hn,hjc,hzc,hu,dm];refine AC.pur hB ?_;cases hcap:s.capped j w
 rotate_left
 ·obtain⟨rfl,rfl⟩:=hF (by unfold Sta.nowF; rw[hcap,Bool.true_or,Bool.or_true]);unfold Sta.capped at hcap;simp only[zA,decide_eq_true_eq,Bool.not_eq_true',decide_eq_false_iff_not]at hcap;obtain⟨h0,d2,d3,d4⟩:=hcap;rw[<- hZ' h0]at d2 d3;have d0:=zF h0;have d2:=zT d2;have d3:=zT d3;have d4:=zT d4;refine goN ?_;simp only[push_cast,seval,↓kw2,hZ,zAd,getA,zAe,setA,zAb,hs,hzc,hjc,hm,hn,d0,d2,d3];refine AC.pur hLf ?_;refine goN ?_;simp only[push_cast,seval,↓kw2,hZ,zAd,getA,zAe,setA,zAb,hs,d4];exact⟨_,rfl,zAa rfl rfl⟩
 have hFe:s.nowF j w=(s.freeW j w).isEmpty:=by unfold Sta.nowF; rw[hcap,dm]; rfl
 have hbest:∀ {xs ys:List Int} (i1:∀ w∈xs,inU w) (i2:∀ w∈ys,inU w) (c1:schk (zAf s.c.a s.c.b s.c.c) xs=0) (c2:schk (3*zAf s.c.a s.c.b s.c.c) ys=0) (hx:xs=s.nowN j w) (hfr:(wholeL s.c.a s.c.b s.c.c j.w).filter (holdV s.c.a s.c.b s.c.c xs ys)=s.freeW j w),∃(pk:Plc) (e:Int),Pur zP GG 30 [.agg [I s.c.a,I s.c.b,I s.c.c],j.w.av,.isl (xs.map U),.isl (ys.map U)] (.tup [pk.av,I e])/\(¬e=0->r=zPc/\er=9)/\(e=0->r=pk/\er=0):=fun {xs ys} i1 i2 c1 c2 hx hfr=>by
  have hb:=best_is (a:=s.c.a) (b:=s.c.b) (c:=s.c.c) j.w (xs:=xs) (ys:=ys) i1 i2 c1 c2 hdw;rw[hfr]at hb
  by_cases he0:s.freeW j w=[]
  ·rw[if_pos he0,if_pos he0]at hb;exact⟨zPc,6,hb,fun _=>hF (by rw[hFe,he0]; rfl),fun e=>absurd e (by decide)⟩
  ·rw[if_neg he0,if_neg he0]at hb;exact⟨_,0,hb,fun e=>absurd rfl e,fun _=>by
    obtain⟨e1,e2⟩:=hF' (by rw[hFe]; cases hq:s.freeW j w with
     | nil=>exact absurd hq he0
     | cons _ _=>rfl)
    refine⟨?_,e2⟩;rw[e1,hx]; rfl⟩
 clear hF hF' hFe;cases hav:s.avoid j w
 ·obtain⟨pk,e,hb,hres⟩:=hbest q3 q4 (by rw[hmv]; exact q1) (by rw[hmv]; exact q2) (by unfold Sta.nowN; rw[hav]; rfl) (List.filter_congr fun p _=>by rw[hav]; simp[Sta.clear]);simp only[Plc.av,Wnt.av]at hb;clear hbest
  by_cases h0:w.job=0
  ·have d0:=zT h0;refine goN ?_;simp only[push_cast,seval,↓kw2,hZ,zAd,getA,zAe,setA,zAb,hs,hzc,hjc,hm,hn,d0];refine AC.pur hb ?_
   by_cases he:e=0
   ·obtain⟨rfl,rfl⟩:=hres.2 he;subst he;refine goN ?_;simp only[push_cast,seval,↓kw2,hZ,zAd,getA,zAe,setA,zAb,hs];exact⟨_,rfl,zAa rfl rfl⟩
   ·obtain⟨rfl,rfl⟩:=hres.1 he;have he:=zF he;refine goN ?_;simp only[push_cast,seval,↓kw2,hZ,zAd,getA,zAe,setA,zAb,hs,he];exact⟨_,rfl,zAa rfl rfl⟩
  ·have d0:=zF h0;have d5:decide (w.tm < s.endJ j)=false:=by
    unfold Sta.avoid at hav;rw[d0]at hav; exact hav
   unfold Sta.capped at hcap;rw[d0,<- hZ' h0,Bool.not_false,Bool.true_and]at hcap
   by_cases d2:Z.user=j.user
   ·have d2:=zT d2
    by_cases d3:Z.cls=j.cls
    ·have d3:=zT d3;rw[d2,d3,Bool.true_and,Bool.true_and]at hcap;refine goN ?_;simp only[push_cast,seval,↓kw2,hZ,zAd,getA,zAe,setA,zAb,hs,hzc,hjc,hm,hn,d0,d2,d3];refine AC.pur hLf ?_;refine goN ?_;simp only[push_cast,seval,↓kw2,hZ,zAd,getA,zAe,setA,zAb,hs,hjc,hm,hcap,d0,d5];refine AC.pur hb ?_
     by_cases he:e=0
     ·obtain⟨rfl,rfl⟩:=hres.2 he;subst he;refine goN ?_;simp only[push_cast,seval,↓kw2,hZ,zAd,getA,zAe,setA,zAb,hs];exact⟨_,rfl,zAa rfl rfl⟩
     ·obtain⟨rfl,rfl⟩:=hres.1 he;have he:=zF he;refine goN ?_;simp only[push_cast,seval,↓kw2,hZ,zAd,getA,zAe,setA,zAb,hs,he];exact⟨_,rfl,zAa rfl rfl⟩
    ·have d3:=zF d3;refine goN ?_;simp only[push_cast,seval,↓kw2,hZ,zAd,getA,zAe,setA,zAb,hs,hzc,hjc,hm,hn,d0,d2,d3,d5];refine AC.pur hb ?_
     by_cases he:e=0
     ·obtain⟨rfl,rfl⟩:=hres.2 he;subst he;refine goN ?_;simp only[push_cast,seval,↓kw2,hZ,zAd,getA,zAe,setA,zAb,hs];exact⟨_,rfl,zAa rfl rfl⟩
     ·obtain⟨rfl,rfl⟩:=hres.1 he;have he:=zF he;refine goN ?_;simp only[push_cast,seval,↓kw2,hZ,zAd,getA,zAe,setA,zAb,hs,he];exact⟨_,rfl,zAa rfl rfl⟩
   ·have d2:=zF d2;refine goN ?_;simp only[push_cast,seval,↓kw2,hZ,zAd,getA,zAe,setA,zAb,hs,hzc,hjc,hm,hn,d0,d2,d5];refine AC.pur hb ?_
    by_cases he:e=0
    ·obtain⟨rfl,rfl⟩:=hres.2 he;subst he;refine goN ?_;simp only[push_cast,seval,↓kw2,hZ,zAd,getA,zAe,setA,zAb,hs];exact⟨_,rfl,zAa rfl rfl⟩
    ·obtain⟨rfl,rfl⟩:=hres.1 he;have he:=zF he;refine goN ?_;simp only[push_cast,seval,↓kw2,hZ,zAd,getA,zAe,setA,zAb,hs,he];exact⟨_,rfl,zAa rfl rfl⟩
 ·have h0:¬w.job=0:=fun e=>by
   unfold Sta.avoid at hav;rw[zT e]at hav; cases hav
  have d0:=zF h0;have d5:decide (w.tm < s.endJ j)=true:=by
   unfold Sta.avoid at hav;rw[d0]at hav; exact hav
  have hpr':=hpr;unfold Sta.prom at hpr';rw[if_neg h0]at hpr';simp only[zA,decide_eq_true_eq]at hpr';have hok:=isE_ok hpr'.2.2.2.2.1;have hS:=sets_pur s.c.a s.c.b s.c.c w.pl.x w.pl.y w.pl.z w.pl.p w.pl.q w.pl.r w.pl.s w.pl.t w.pl.u hok;obtain⟨k1',k2'⟩:=own_chk hok;rw[hmv]at k1' k2';have uN:∀ w'∈ownW s.c.a s.c.b s.c.c w.pl.x w.pl.y w.pl.z w.pl.p w.pl.q w.pl.r,inU w':=zAt _ _;have uL:∀ w'∈zEx s.c.a s.c.b s.c.c w.pl.x w.pl.y w.pl.z w.pl.p w.pl.q w.pl.r w.pl.s w.pl.t w.pl.u,inU w':=zAt _ _;obtain⟨g1',g2',_⟩:=tog_chk (n:=(s.nM:Int)) (by omega) q3 uN q1 k1';obtain⟨g3',g4',_⟩:=tog_chk (n:=3*(s.nM:Int)) (by omega) q4 uL q2 k2';obtain⟨pk,e,hb,hres⟩:=hbest g2' g4' (by rw[hmv]; exact g1') (by rw[hmv]; exact g3') (by unfold Sta.nowN; rw[if_pos hav]) (List.filter_congr fun p hp=>by
   rw[hold_tog f ((wholeL_mem hd).1 hp).1 hok,hav]; rfl)
  simp only[Plc.av,Wnt.av]at hb;have hs:=And.intro hs (And.intro (gS uN).cell (And.intro (gS uL).cell (And.intro (gS g2').cell (gS g4').cell)));clear hbest;unfold Sta.capped at hcap;rw[d0,<- hZ' h0,Bool.not_false,Bool.true_and]at hcap
  by_cases d2:Z.user=j.user
  ·have d2:=zT d2
   by_cases d3:Z.cls=j.cls
   ·have d3:=zT d3;rw[d2,d3,Bool.true_and,Bool.true_and]at hcap;refine goN ?_;simp only[push_cast,seval,↓kw2,hZ,zAd,getA,zAe,setA,zAb,hs,hzc,hjc,hm,hn,d0,d2,d3];refine AC.pur hLf ?_;refine goN ?_;simp only[push_cast,seval,↓kw2,hZ,zAd,getA,zAe,setA,zAb,hs,hjc,hm,hcap,d0,d5];refine AC.pur hM ?_;refine goN ?_;simp only[push_cast,seval,↓kw2,hZ,zAd,getA,zAe,setA,zAb,hs];refine AC.pur hS ?_;refine goN ?_;simp only[push_cast,seval,↓kw2,hZ,zAd,getA,zAe,setA,zAb,hs];refine zEr ⟨by omega,by omega⟩ q3 uN q1 k1' rfl ?_;refine goN ?_;simp only[push_cast,seval,↓kw2,hZ,zAd,getA,zAe,setA,zAb,hs];refine zEr ⟨by omega,by omega⟩ q4 uL q2 k2' rfl ?_;refine goN ?_;simp only[push_cast,seval,↓kw2,hZ,zAd,getA,zAe,setA,zAb,hs];refine AC.pur hb ?_
    by_cases he:e=0
    ·obtain⟨rfl,rfl⟩:=hres.2 he;subst he;refine goN ?_;simp only[push_cast,seval,↓kw2,hZ,zAd,getA,zAe,setA,zAb,hs];exact⟨_,rfl,zAa rfl rfl⟩
    ·obtain⟨rfl,rfl⟩:=hres.1 he;have he:=zF he;refine goN ?_;simp only[push_cast,seval,↓kw2,hZ,zAd,getA,zAe,setA,zAb,hs,he];exact⟨_,rfl,zAa rfl rfl⟩
   ·have d3:=zF d3;refine goN ?_;simp only[push_cast,seval,↓kw2,hZ,zAd,getA,zAe,setA,zAb,hs,hzc,hjc,hm,hn,d0,d2,d3,d5];refine AC.pur hM ?_;refine goN ?_;simp only[push_cast,seval,↓kw2,hZ,zAd,getA,zAe,setA,zAb,hs];refine AC.pur hS ?_;refine goN ?_;simp only[push_cast,seval,↓kw2,hZ,zAd,getA,zAe,setA,zAb,hs];refine zEr ⟨by omega,by omega⟩ q3 uN q1 k1' rfl ?_;refine goN ?_;simp only[push_cast,seval,↓kw2,hZ,zAd,getA,zAe,setA,zAb,hs];refine zEr ⟨by omega,by omega⟩ q4 uL q2 k2' rfl ?_;refine goN ?_;simp only[push_cast,seval,↓kw2,hZ,zAd,getA,zAe,setA,zAb,hs];refine AC.pur hb ?_
    by_cases he:e=0
    ·obtain⟨rfl,rfl⟩:=hres.2 he;subst he;refine goN ?_;simp only[push_cast,seval,↓kw2,hZ,zAd,getA,zAe,setA,zAb,hs];exact⟨_,rfl,zAa rfl rfl⟩
    ·obtain⟨rfl,rfl⟩:=hres.1 he;have he:=zF he;refine goN ?_;simp only[push_cast,seval,↓kw2,hZ,zAd,getA,zAe,setA,zAb,hs,he];exact⟨_,rfl,zAa rfl rfl⟩
  ·have d2:=zF d2;refine goN ?_;simp only[push_cast,seval,↓kw2,hZ,zAd,getA,zAe,setA,zAb,hs,hzc,hjc,hm,hn,d0,d2,d5];refine AC.pur hM ?_;refine goN ?_;simp only[push_cast,seval,↓kw2,hZ,zAd,getA,zAe,setA,zAb,hs];refine AC.pur hS ?_;refine goN ?_;simp only[push_cast,seval,↓kw2,hZ,zAd,getA,zAe,setA,zAb,hs];refine zEr ⟨by omega,by omega⟩ q3 uN q1 k1' rfl ?_;refine goN ?_;simp only[push_cast,seval,↓kw2,hZ,zAd,getA,zAe,setA,zAb,hs];refine zEr ⟨by omega,by omega⟩ q4 uL q2 k2' rfl ?_;refine goN ?_;simp only[push_cast,seval,↓kw2,hZ,zAd,getA,zAe,setA,zAb,hs];refine AC.pur hb ?_
   by_cases he:e=0
   ·obtain⟨rfl,rfl⟩:=hres.2 he;subst he;refine goN ?_;simp only[push_cast,seval,↓kw2,hZ,zAd,getA,zAe,setA,zAb,hs];exact⟨_,rfl,zAa rfl rfl⟩
   ·obtain⟨rfl,rfl⟩:=hres.1 he;have he:=zF he;refine goN ?_;simp only[push_cast,seval,↓kw2,hZ,zAd,getA,zAe,setA,zAb,hs,he];exact⟨_,rfl,zAa rfl rfl⟩
theorem now_yes{s:Sta}(h:s.good)(hl:s.lim)(f:s.fine){id:Int}(hf:¬findN s.jobs id < 0){j:Jb}(hj:s.jobN id=j){w:Wt}(hpr:s.prom id w=true)(hel:s.eligV j=true) :
  ∃(p:Plc) (e:Int),Pur zP GG 10 [s.av,I id,w.av] (.tup [p.av,I e]) /\
   ((e=9/\p=zPc/\(1099511627776 < s.endJ j\/s.capped j w=true\/s.freeW j w=[]))\/(e=0/\s.endJ j<=1099511627776/\s.capped j w=false/\p∈s.freeW j w/\(w.job=0->p=s.bestP j.w s.now (s.endJ j)))):=by
 refine⟨_,_,now_is h hl f hf hj hpr hel,?_⟩;cases hF:s.nowF j w
 ·right;unfold Sta.nowF at hF;simp only[Bool.or_eq_false_iff,decide_eq_false_iff_not]at hF;obtain⟨h1,h2,h3⟩:=hF;have hne:s.freeW j w≠[]:=fun e=>by rw[e]at h3; cases h3
  refine⟨rfl,by omega,h2,(minF_least (a:=s.c.a) (b:=s.c.b) (c:=s.c.c) (List.length_pos_iff.2 hne)).1,fun h0=>?_⟩;have ha:s.avoid j w=false:=by unfold Sta.avoid; rw[zT h0]; rfl
  show s.nowP j w=_;unfold Sta.nowP Sta.nowN Sta.bestP Sta.freeP;rw[ha,show s.freeW j w=(wholeL s.c.a s.c.b s.c.c j.w).filter (holdV s.c.a s.c.b s.c.c (s.busN s.now (s.endJ j)) (s.busL s.now (s.endJ j))) from List.filter_congr fun p _=>by rw[ha]; simp[Sta.clear]];rfl
 ·left;refine⟨rfl,rfl,?_⟩;unfold Sta.nowF at hF;simp only[Bool.or_eq_true,decide_eq_true_eq]at hF
  rcases hF with e | e | e
  ·exact .inl e
  ·exact .inr (.inl e)
  ·exact .inr (.inr (List.isEmpty_iff.1 e))
def jFn1:Jb:=⟨1,1,0,⟨2,1,1,false,false,false,false⟩,10,0,false,.c (.slice none 0 0),[],2,0⟩
def jFn2:Jb:=⟨2,2,0,⟨3,1,1,false,false,false,false⟩,10,0,false,.c (.slice none 0 0),[],1,0⟩
def jFn3:Jb:=⟨3,3,0,wOne,6,0,false,.c (.slice none 0 0),[],1,0⟩
def lineF:Sta:={ c:=⟨4,1,1,3,2,2,1,[⟨0,20,4,4⟩]⟩,cs:=.isl [CL 0 20 4 4],now:=12,next:=9,jobs:=[jFn1,jFn2,jFn3],js:=.isl [jFn1.av,jFn2.av,jFn3.av],parts:=[pLn],ps:=.isl [pLn.av],keeps:=[],ks:=NS,down:=[],ds:=NS,shut:=[],hs:=NS,cut:=[],us:=NS }
def headF:Wt:=⟨2,22,⟨0,0,0,3,1,1,false,false,false⟩⟩
theorem lineF_good:lineF.good:=⟨.inl rfl,⟨.inl rfl,fun j hj=>by
 simp only[lineF,List.mem_cons,List.not_mem_nil,or_false]at hj
 rcases hj with rfl | rfl | rfl
 ·exact .inr ⟨rfl,rfl⟩
 ·exact .inr ⟨rfl,rfl⟩
 ·exact .inr ⟨rfl,rfl⟩⟩,.inl rfl,.inr ⟨rfl,rfl⟩,.inr ⟨rfl,rfl⟩,.inr ⟨rfl,rfl⟩,.inr ⟨rfl,rfl⟩⟩
theorem lineF_lim:lineF.lim:=⟨by decide,by decide,by decide,by decide,by decide,by decide⟩
theorem lineF_ok:lineF.okV=true:=by decide +kernel
theorem lineF_find:findN lineF.jobs 3=2:=by decide +kernel
theorem lineF_prom:lineF.prom 3 headF=true:=by decide +kernel
theorem lineF_elig:lineF.eligV jFn3=true:=by decide +kernel
theorem lineF_cap:lineF.capped jFn3 headF=false:=by decide +kernel
theorem lineF_clear:(lineF.clear (pAt 3) 12 23&&(!lineF.avoid jFn3 headF||zEu 4 1 1 (pAt 3) headF.pl))=true:=by decide +kernel
theorem lineF_in:pAt 3∈plL 4 1 1 wOne:=by decide +kernel
theorem lineF_pls:(plL 4 1 1 wOne).all (fun q=>!(lineF.clear q 12 23&&(!lineF.avoid jFn3 headF||zEu 4 1 1 q headF.pl))||decide (q.x=3/\q.y=0/\q.z=0/\q.p=1/\q.q=1/\q.r=1))=true:=by decide +kernel
theorem e20:Ent zP 20 Tryz.f20 [] 1:=.mk Tryz.func20 rfl
theorem line23_pur:Pur zP GG 20 [I 6] lineF.av:=by
 refine goQ e20 TOk.nil 0 ?_;simp only[push_cast,seval,↓kw2,slv];exact⟨_,rfl,5,rfl⟩
theorem e21:Ent zP 21 Tryz.f21 [] 0:=.mk Tryz.func21 rfl
theorem head23_pur:Pur zP GG 21 [] headF.av:=by
 refine goQ e21 TOk.nil 0 ?_;simp only[push_cast,seval,↓kw2];exact⟨_,rfl,zAa rfl rfl⟩
theorem eqB3:aEqS zP 34 (.agg [I 3,I 0,I 0,I 1,I 1,I 1]) (.agg [I 3,I 0,I 0,I 1,I 1,I 1])=some true:=by kernel_rfl
theorem e8:Ent zP 8 Tryz.f8 [] 0:=.mk Tryz.func8 rfl
theorem alive23:Pur zP GG 8 [] (B true):=by
 have f:=okV_iff.1 lineF_ok;have hf:¬findN lineF.jobs 3 < 0:=by rw[lineF_find]; decide
 have hin:pAt 3∈lineF.freeW jFn3 headF:=List.mem_filter.2 ⟨(line_whole _).2 lineF_in,lineF_clear⟩;obtain⟨p,e,hN,hq⟩:=now_yes lineF_good lineF_lim f hf (j:=jFn3) (by rw[jobN_get hf,lineF_find]; rfl) (w:=headF) lineF_prom lineF_elig;have he:e=0/\p∈lineF.freeW jFn3 headF:=by
  rcases hq with ⟨_,_,h | h | h⟩ | ⟨h1,_,_,h2,_⟩
  ·exact absurd h (by decide)
  ·rw[lineF_cap]at h; cases h
  ·rw[h]at hin; cases hin
  ·exact⟨h1,h2⟩
 obtain⟨rfl,hp⟩:=he;obtain⟨h1,h2⟩:=List.mem_filter.1 hp;have h3:=List.all_eq_true.1 lineF_pls p ((line_whole p).1 h1);have h2':(lineF.clear p 12 23&&(!lineF.avoid jFn3 headF||zEu 4 1 1 p headF.pl))=true:=h2;rw[h2',Bool.not_true,Bool.false_or,decide_eq_true_eq]at h3;obtain⟨px,py,pz,pp,pq,pr,ps,pt,pu⟩:=p;simp only at h3;obtain⟨rfl,rfl,rfl,rfl,rfl,rfl⟩:=h3;clear hq hp h1 h2 h2' hin;have hL:=line23_pur;have hH:=head23_pur;simp only[Plc.av]at hN
 generalize hS:lineF.av=S at hN hL
 generalize hT:headF.av=T at hN hH
 refine goQ e8 TOk.nil 0 ?_;simp only[push_cast,seval,↓kw2];refine AC.pur hL ?_;refine goN ?_;simp only[push_cast,seval,↓kw2];refine AC.pur hH ?_;refine goN ?_;simp only[push_cast,seval,↓kw2];refine AC.pur hN ?_;refine goN ?_;simp only[push_cast,seval,↓kw2,zAd,getA,zAe,setA,zAb,eqB3,zAn];exact⟨_,rfl,zAa rfl rfl⟩
def begI(id:Int):List Jb->Nat->List Jb
 | [],_=>[]
 | j::l,0=>j::l
 | j::l,n+1=>(if j.id=id then j.std else j)::begI id l n
theorem begI_0(id:Int):∀ l:List Jb,begI id l 0=l
 | []=>rfl
 | _::_=>rfl
theorem begI_len(id:Int):∀(l:List Jb) (n:Nat),(begI id l n).length=l.length
 | [],_=>rfl
 | _::_,0=>rfl
 | _::l,n+1=>congrArg (·+1) (begI_len id l n)
theorem begI_get(id:Int):∀(l:List Jb) (n i:Nat),n<=i->(begI id l n).getD i default=l.getD i default
 | [],_,_,_=>rfl
 | _::_,0,_,_=>rfl
 | j::l,n+1,0,h=>by omega
 | j::l,n+1,i+1,h=>by
  have:=begI_get id l n i (by omega);simpa[begI]using this
theorem begI_step(id:Int):∀(l:List Jb) (n:Nat),n < l.length->begI id l (n+1)=(begI id l n).set n (if (l.getD n default).id=id then (l.getD n default).std else l.getD n default)
 | [],n,h=>by simp at h
 | j::l,0,_=>by simp[begI,begI_0]
 | j::l,n+1,h=>by
  have:=begI_step id l n (by simpa using h);simp only[begI]at this ⊢;rw[this];simp
theorem set_same{T:Type}(d:T):∀(l:List T) (n:Nat),l.set n (l.getD n d)=l
 | [],_=>rfl
 | _::_,0=>rfl
 | x::l,n+1=>by
  have:=set_same d l n;simpa using this
theorem begI_ne{id:Int}{l:List Jb}{n:Nat}(h:n < l.length)(hne:¬(l.getD n default).id=id):begI id l (n+1)=begI id l n:=by
 rw[begI_step id l n h,if_neg hne,<- begI_get id l n n (Nat.le_refl _),set_same]
theorem begI_no{id:Int}:∀ {l:List Jb} {n:Nat},(∀ j∈l,¬j.id=id)->begI id l n=l
 | [],_,_=>rfl
 | _::_,0,_=>rfl
 | j::l,n+1,h=>by
  unfold begI;rw[if_neg (h j (by simp)),begI_no fun x hx=>h x (List.mem_cons_of_mem _ hx)]
theorem begI_all{id:Int}:∀ {l:List Jb} {n:Nat},l.Pairwise (fun x y=>¬x.id=y.id)->n < l.length->(l.getD n default).id=id->begI id l l.length=upJ Jb.std l n
 | [],n,_,h,_=>by simp at h
 | j::l,0,hp,_,e=>by
  have e':j.id=id:=by simpa using e
  show(if j.id=id then j.std else j)::begI id l l.length=j.std::l;rw[if_pos e',begI_no fun x hx=>fun h=>(List.pairwise_cons.1 hp).1 x hx (e'.trans h.symm)]
 | j::l,n+1,hp,h,e=>by
  have h':n < l.length:=by simpa using h
  have e':(l.getD n default).id=id:=by simpa using e
  have hm:l.getD n default∈l:=by rw[show l.getD n default=l[n] by simp[List.getD,h']]; exact List.getElem_mem h'
  show(if j.id=id then j.std else j)::begI id l l.length=j::upJ Jb.std l n;rw[if_neg fun h=>(List.pairwise_cons.1 hp).1 _ hm (h.trans e'.symm),begI_all (List.pairwise_cons.1 hp).2 h' e']
def PR(H:List AO)(r:AV)(L:List AV):Prop:=(r=.c (.slice none 0 0)/\L=[])\/∃ id,r=.sl id 0 L.length L.length/\0 < L.length/\H[id]?=some (.arr 13 L)
theorem appP{H:List AO}{d src:AV}{L M:List AV}(hd:PR H d L)(hs:elsOf H 13 src=some (True,M))(hb:L.length+M.length<=2^17) :
  ∃ C r H',zBk zP 28 28 d src H=some ⟨C,r,H'⟩/\C/\PR H' r (L++M)/\H.length<=H'.length/\(∀ j,j < H.length->zAw d≠some j->H'[j]?=H[j]?)/\∀ i,zAw r=some i->H.length<=i\/zAw d=some i:=by
 unfold zBk;simp only[un28,ze65,by65,AV.cells,List.length_cons,List.length_nil,Nat.zero_add,Nat.reduceAdd,hs]
 rcases hd with ⟨rfl,rfl⟩ | ⟨id,rfl,h0,hid⟩
 ·cases M with
  | nil=>exact⟨_,_,_,rfl,trivial,.inl ⟨rfl,rfl⟩,Nat.le_refl _,fun j _ _=>rfl,fun i h=>by cases h⟩
  | cons m M =>
   refine⟨_,_,_,rfl,?_,.inr ⟨H.length,rfl,by simp,?_⟩,by simp,fun j hj _=>zL hj,fun i h=>by cases h; exact .inl (Nat.le_refl _)⟩
   ·simp at hb ⊢; omega
   ·rw[zAd]; rfl
 ·cases M with
  | nil=>exact⟨_,_,_,rfl,trivial,.inr ⟨id,by simp,by simpa using h0,by simpa using hid⟩,Nat.le_refl _,fun j _ _=>rfl,fun i h=>.inr h⟩
  | cons m M =>
   simp only[hid];rw[if_pos (by refine⟨?_,?_,?_⟩ <;> first | trivial | omega)];have hL2:(H.set id .dead).length=H.length:=by simp
   refine⟨_,_,_,rfl,?_,.inr ⟨H.length,by simp,by rw[List.length_append,List.length_cons]; omega,?_⟩,by simp,fun j hj hne=>?_,fun i h=>by cases h; exact .inl (Nat.le_refl _)⟩
   ·simp at hb ⊢; omega
   ·rw[<- hL2,zAd]; simp
   ·rw[zL (by simp; omega),zQ (fun e=>hne (by rw[e]; rfl))]
theorem sliceLo{H:List AO}{s r:AV}{L:List AV}(h:LiveS 13 H s r L){k:Nat}(hk:k<=L.length)(hb:L.length<=2^17) :
  ∃ C v,zCm zP 28 r H none (some (I (k:Int))) none=some (C,v)/\C/\∀ H',(∀ i,zAw r=some i->H'[i]?=H[i]?)->elsOf H' 13 v=some (True,L.take k):=by
 cases h with
 | nil =>
  have:k=0:=by simpa using hk
  subst this;simp only[zCm,un28,sz65,zBi];exact⟨_,_,rfl,by simp,fun H' _=>rfl⟩
 | zs =>
  have:k=0:=by simpa using hk
  subst this;simp only[zCm,un28,sz65,zBi];exact⟨_,_,rfl,by simp,fun H' _=>rfl⟩
 | row h h0 =>
  simp only[zCm,un28,sz65,zBi,h];refine⟨_,_,rfl,?_,fun H' hH=>?_⟩
  ·simp; omega
  ·unfold elsOf;simp only[hH _ rfl,h];rw[if_pos (by refine⟨?_,?_⟩ <;> first | trivial | (simp; omega))];simp
theorem sliceHi{H:List AO}{s r:AV}{L:List AV}(h:LiveS 13 H s r L){k:Nat}(hk:k<=L.length)(hb:L.length<=2^17) :
  ∃ C v,zCm zP 28 r H (some (I (k:Int))) none none=some (C,v)/\C/\∀ H',(∀ i,zAw r=some i->H'[i]?=H[i]?)->elsOf H' 13 v=some (True,L.drop k):=by
 cases h with
 | nil =>
  have:k=0:=by simpa using hk
  subst this;simp only[zCm,un28,sz65,zBi];exact⟨_,_,rfl,by simp,fun H' _=>rfl⟩
 | zs =>
  have:k=0:=by simpa using hk
  subst this;simp only[zCm,un28,sz65,zBi];exact⟨_,_,rfl,by simp,fun H' _=>rfl⟩
 | row h h0 =>
  simp only[zCm,un28,sz65,zBi,h];refine⟨_,_,rfl,?_,fun H' hH=>?_⟩
  ·simp; omega
  ·unfold elsOf;simp only[hH _ rfl,h];rw[if_pos (by refine⟨?_,?_⟩ <;> first | trivial | (simp; omega))];simp[List.take_of_length_le]
theorem LiveS.len{H:List AO}{s r:AV}{l:List Prt}(h:LiveS 13 H s r (l.map Prt.av)):aLen zP 28 r=some (l.length:Int):=by
 generalize hm:l.map Prt.av=m at h
 have hl:m.length=l.length:=by rw[<- hm,zM]
 cases h with
 | nil=>unfold aLen; simp only[un28]; rw[<- hl]; rfl
 | zs=>unfold aLen; simp only[un28]; rw[<- hl]; rfl
 | row h h0=>unfold aLen; simp only[un28,hl]
end Go.Ab.Pd
