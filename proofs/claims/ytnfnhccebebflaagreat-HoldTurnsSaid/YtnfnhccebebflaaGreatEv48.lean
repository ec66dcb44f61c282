/- One of the texts that this claim stands on. -/
import Derived.Test.YtnfnhccebebflaaGreatEv47
set_option maxHeartbeats 40000000
set_option maxRecDepth 400000
set_option linter.all false
namespace Go.Ab.Pd
open Go.Proofs
open Go.Proofs.Tryz renaming prog->zP
def isCnt(u c:Int)(j:Jb):Bool:=decide (j.st=2)&&(decide (j.user=u)&&decide (j.cls=c))
def cntR(l:List Jb)(u c:Int):Int:=((l.filter (isCnt u c)).length:Int)
theorem cntR_cons(j:Jb)(l:List Jb)(u c:Int):cntR (j::l) u c=(if isCnt u c j=true then 1 else 0)+cntR l u c:=by
 unfold cntR;rw[List.filter_cons]
 split
 ·rw[List.length_cons]; omega
 ·omega
theorem cntR_le(l:List Jb)(u c:Int):0<=cntR l u c/\cntR l u c<=l.length:=by
 unfold cntR;have:=List.length_filter_le (isCnt u c) l;omega
theorem cntR_0{l:List Jb}{u c:Int}(h:∀ j∈l,isCnt u c j=false):cntR l u c=0:=by
 unfold cntR;rw[List.filter_eq_nil_iff.2 fun j hj=>by rw[h j hj]; decide];rfl
theorem startG_iff{cls:List Cls}{P:Int->Bool}:∀ {l:List Jb} {M:MS (Int × Int)},(∀ k,0<=getM M k/\getM M k+l.length<=2^20) ->
  (zDh cls P M l=true ↔ ∀ j∈l,j.st=2->P j.id=true/\getM M (j.user,j.cls)+cntR l j.user j.cls<=(cls.getD j.cls.toNat default).d)
 | [],M,_=>by simp[zDh]
 | x::l,M,hM=>by
  unfold zDh
  by_cases hx:x.st=2
  ·rw[if_pos hx];have hw:=hM (x.user,x.cls);rw[List.length_cons]at hw;have hwr:=zAh (n:=getM M (x.user,x.cls)+1) (by omega) (by omega);rw[hwr];have hM':∀ k,0<=getM (putM M (x.user,x.cls) (getM M (x.user,x.cls)+1)) k/\getM (putM M (x.user,x.cls) (getM M (x.user,x.cls)+1)) k+l.length<=2^20:=fun k=>by
    by_cases e:k=(x.user,x.cls)
    ·subst e;rw[get_put]; omega
    ·rw[get_put_ne _ e];have:=hM k;rw[List.length_cons]at this;omega
   have hval:∀ j:Jb,getM (putM M (x.user,x.cls) (getM M (x.user,x.cls)+1)) (j.user,j.cls)+cntR l j.user j.cls=getM M (j.user,j.cls)+cntR (x::l) j.user j.cls:=fun j=>by
    rw[cntR_cons]
    by_cases e:(j.user,j.cls)=(x.user,x.cls)
    ·rw[e,get_put];have h1:=congrArg Prod.fst e;have h2:=congrArg Prod.snd e;simp only at h1 h2;rw[if_pos (by unfold isCnt; simp[hx,h1,h2])];omega
    ·rw[get_put_ne _ e,if_neg]
     ·omega
     ·unfold isCnt;simp only[hx,decide_true,Bool.true_and,zA,decide_eq_true_eq]
      intro h
      exact e (by rw[h.1,h.2])
   rw[zA,startG_iff hM',Bool.not_eq_true',Bool.or_eq_false_iff,decide_eq_false_iff_not,Bool.not_eq_false'];have hc:=cntR_le l x.user x.cls;have hcx:cntR (x::l) x.user x.cls=1+cntR l x.user x.cls:=by
    rw[cntR_cons,if_pos (by unfold isCnt; simp[hx])]
   constructor
   ·rintro⟨⟨h1,h2⟩,h3⟩ j hj hst
    rcases List.mem_cons.1 hj with rfl | hj
    ·refine⟨h2,?_⟩
     by_cases he:∃ y∈l,isCnt j.user j.cls y=true
     ·obtain⟨y,hy,hyc⟩:=he;unfold isCnt at hyc;simp only[zA,decide_eq_true_eq]at hyc;have:=(h3 y hy hyc.1).2;rw[hval,hyc.2.1,hyc.2.2]at this;exact this
     ·have h0:cntR l j.user j.cls=0:=cntR_0 fun y hy=>by
       cases hb:isCnt j.user j.cls y
       ·rfl
       ·exact absurd ⟨y,hy,hb⟩ he
      omega
    ·have:=h3 j hj hst;rw[hval]at this;exact this
   ·intro h
    have h0:=h x (by simp) hx;refine⟨⟨by omega,h0.1⟩,fun j hj hst=>?_⟩;have:=h j (by simp[hj]) hst;rw[hval];exact this
  ·rw[if_neg hx,startG_iff fun k=>by have:=hM k; rw[List.length_cons]at this; omega];have hval:∀ j:Jb,cntR (x::l) j.user j.cls=cntR l j.user j.cls:=fun j=>by
    rw[cntR_cons,if_neg (by unfold isCnt; simp[hx])];omega
   constructor
   ·intro h j hj hst
    rcases List.mem_cons.1 hj with rfl | hj
    ·exact absurd hst hx
    ·rw[hval]; exact h j hj hst
   ·intro h j hj hst
    have:=h j (by simp[hj]) hst;rw[hval]at this;exact this
def oddS(cls:List Cls)(P:Int->Bool)(l:List Jb)(j:Jb):Bool:=decide (j.st=2)&&(!P j.id||decide ((cls.getD j.cls.toNat default).d < cntR l j.user j.cls))
theorem started_ref{cls:List Cls}{P:Int->Bool}{l:List Jb}(hl:l.length<=2^16):zDh cls P ([],0) l=!anyN (fun i=>oddS cls P l (l.getD i default)) l.length 0:=by
 have h0:∀ k,getM (([],0):MS (Int × Int)) k=0:=fun k=>rfl
 rw[Bool.eq_iff_iff,startG_iff fun k=>by rw[h0]; omega,Bool.not_eq_true',Bool.eq_false_iff,Ne,anyN_iff]
 constructor
 ·rintro h ⟨i,_,hi,ho⟩
  have hi:i < l.length:=by omega
  rw[show l.getD i default=l[i] by simp[List.getD,hi]]at ho;unfold oddS at ho;simp only[zA,decide_eq_true_eq,Bool.or_eq_true,Bool.not_eq_true']at ho;obtain⟨h1,h2⟩:=h l[i] (List.getElem_mem hi) ho.1;rw[h0]at h2
  rcases ho.2 with h3 | h3
  ·rw[h1]at h3; cases h3
  ·omega
 ·intro h j hj hst
  obtain⟨i,hi,rfl⟩:=List.getElem_of_mem hj;have hn:oddS cls P l l[i]=false:=by
   cases ho:oddS cls P l l[i]
   ·rfl
   ·exact absurd ⟨i,by omega,by omega,by rw[show l.getD i default=l[i] by simp[List.getD,hi]]; exact ho⟩ h
  unfold oddS at hn;rw[zT hst,Bool.true_and,Bool.or_eq_false_iff,Bool.not_eq_false',decide_eq_false_iff_not]at hn;rw[h0];exact⟨hn.1,by omega⟩
theorem okD_pos{a b c:Int}(h:okD a b c):1<=a*b*c/\a*b*c<=4096:=by
 have h1:=zBz h;have h2:=okD_one h;omega
theorem box_in{a b c:Int}{X:Plc}(hX:X.ok a b c):∀ k∈boxL a b c X.x X.y X.z X.p X.q X.r,0<=k/\k < a*b*c:=fun k hk =>
 (zCt hX.1 hX.2.1 ((zEr hX.1 hX.2.1).1 hk)).2
theorem cab_in{a b c:Int}{X:Plc}(hX:X.ok a b c):∀ k∈cabL a b c X.x X.y X.z X.p X.q X.r X.s X.t X.u,0<=k/\k < 3*(a*b*c):=fun k hk =>
 links_mem hX.1 hX.2.1 k ((cabL_mem hX.1 hX.2.1 k).1 hk)
theorem meetB_two{n:Int}(hn:1<=n/\n<=12288){l m:List Int}(hl:∀ k∈l,0<=k/\k < n)(hm:∀ k∈m,0<=k/\k < n):meetB (ofL n l) (ofL n m)=l.any fun k=>decide (k∈m):=by
 rw[meetB_ofL hn hl,Bool.eq_iff_iff,List.any_eq_true,List.any_eq_true]
 constructor
 ·rintro⟨k,hk,h⟩
  rw[zEw hn hm,decide_eq_true_eq,show((k.toNat:Nat):Int)=k by have:=hl k hk; omega]at h;exact⟨k,hk,zT h⟩
 ·rintro⟨k,hk,h⟩
  refine⟨k,hk,?_⟩;rw[zEw hn hm,decide_eq_true_eq,show((k.toNat:Nat):Int)=k by have:=hl k hk; omega];exact of_decide_eq_true h
def meetR(a b c:Int)(X Y:Plc):Bool:=meetB (ofL (a*b*c) (boxL a b c X.x X.y X.z X.p X.q X.r)) (ofL (a*b*c) (boxL a b c Y.x Y.y Y.z Y.p Y.q Y.r))||meetB (ofL (3*(a*b*c)) (cabL a b c X.x X.y X.z X.p X.q X.r X.s X.t X.u)) (ofL (3*(a*b*c)) (cabL a b c Y.x Y.y Y.z Y.p Y.q Y.r Y.s Y.t Y.u))
theorem meetR_is{s:Sta}{X Y:Plc}(hX:X.ok s.c.a s.c.b s.c.c)(hY:Y.ok s.c.a s.c.b s.c.c):meetR s.c.a s.c.b s.c.c X Y=s.meet X Y:=by
 have hN:=okD_pos hX.1;unfold meetR Sta.meet apartV;rw[zT ⟨hX,hY⟩,Bool.true_and,meetB_two (by omega) (box_in hX) (box_in hY),meetB_two (by omega) (cab_in hX) (cab_in hY),Bool.eq_iff_iff];simp only[Bool.or_eq_true,List.any_eq_true,decide_eq_true_eq,Bool.not_eq_true',Bool.and_eq_false_iff,List.all_eq_false,Bool.not_eq_true,Bool.not_eq_false',decide_eq_false_iff_not,Classical.not_not,zEr hX.1 hX.2.1,zEr hY.1 hY.2.1,cabL_mem hX.1 hX.2.1,cabL_mem hY.1 hY.2.1]
def standsR(s:Sta)(X:Plc):Bool:=meetB (ofL (s.c.a*s.c.b*s.c.c) (boxL s.c.a s.c.b s.c.c X.x X.y X.z X.p X.q X.r)) (ofL (s.c.a*s.c.b*s.c.c) s.down)||meetB (ofL (3*(s.c.a*s.c.b*s.c.c)) (cabL s.c.a s.c.b s.c.c X.x X.y X.z X.p X.q X.r X.s X.t X.u)) (ofL (3*(s.c.a*s.c.b*s.c.c)) s.cut)
theorem standsR_is{s:Sta}{X:Plc}(hX:X.ok s.c.a s.c.b s.c.c)(h1:zCd (s.c.a*s.c.b*s.c.c) s.down=true)(h2:zCd (3*(s.c.a*s.c.b*s.c.c)) s.cut=true):standsR s X=!s.sound X:=by
 have hN:=okD_pos hX.1;have hmv:zAs s.c.a s.c.b s.c.c=s.c.a*s.c.b*s.c.c:=by rw[zAs,if_pos hX.1]
 have d:=(mark_in h1).1;have u:=(mark_in h2).1;unfold standsR Sta.sound;rw[meetB_two (by omega) (box_in hX) d,meetB_two (by omega) (cab_in hX) u,Bool.eq_iff_iff];simp only[Bool.or_eq_true,List.any_eq_true,decide_eq_true_eq,Bool.not_eq_true',Bool.and_eq_false_iff,Bool.not_eq_false',zEr hX.1 hX.2.1,cabL_mem hX.1 hX.2.1,anyN_iff];have hm:∀ {l:List Int} {i:Nat},i < l.length->l.getD i 0∈l:=fun {l i} hi=>by rw[getD_lt hi]; exact List.getElem_mem hi
 constructor
 ·rintro(⟨k,hk,hd⟩ | ⟨k,hk,hc⟩)
  ·obtain⟨i,hi,rfl⟩:=List.getElem_of_mem hd;refine .inl ⟨i,by omega,by omega,?_⟩;have:=d _ hd;rw[getD_lt hi];unfold Sta.hit hitV;rw[hmv,if_pos (by omega),zT this.1,zT hk];rfl
  ·obtain⟨i,hi,rfl⟩:=List.getElem_of_mem hc;refine .inr ⟨i,by omega,by omega,?_⟩;have:=u _ hc;rw[getD_lt hi];unfold Sta.hit hitV;rw[hmv,if_pos (by omega),zT this.1,zT hk];simp
 ·rintro(⟨i,_,hi,hh⟩ | ⟨i,_,hi,hh⟩)
  ·refine .inl ⟨s.down.getD i 0,?_,hm (by omega)⟩;unfold Sta.hit hitV at hh
   split at hh
   ·simp only[Bool.or_eq_true,zA,decide_eq_true_eq]at hh
    rcases hh with hh | hh
    ·exact hh.2
    ·omega
   ·cases hh
  ·refine .inr ⟨s.cut.getD i 0,?_,hm (by omega)⟩;unfold Sta.hit hitV at hh
   split at hh
   ·simp only[Bool.or_eq_true,zA,decide_eq_true_eq]at hh
    rcases hh with hh | hh
    ·omega
    ·exact hh.2
   ·cases hh
def Cfg.clockR(x:Cfg)(p:Prt)(wall:Int):Int:=p.since+(if p.ph=1 then x.boot else if p.ph=2 then wall else x.free)
def Sta.partR(s:Sta)(p:Prt):Bool :=
 s.isJob p&&(s.c.part p&&(decide (p.pl.ok s.c.a s.c.b s.c.c)&&((s.jobOf p).w.turns.any fun t=>decide (isT t p.pl)))) &&
 (!(decide (p.ph=3)&&decide ((s.jobOf p).st < 3)||!decide (p.ph=3)&&!decide ((s.jobOf p).st=2)) &&
 (!(decide (s.now < p.since)||(decide (s.c.clockR p (s.jobOf p).wall<=s.now)||decide (1099511627776 < s.ends p)))&&(decide (p.ph=3)||!standsR s p.pl)))
theorem jobOf_mem{s:Sta}{p:Prt}(h:s.isJob p=true):s.jobOf p∈s.jobs:=by
 unfold Sta.isJob at h;have h:=of_decide_eq_true h;unfold Sta.jobOf;rw[if_neg (by omega)];obtain⟨h1,h2,h3⟩:=findN_lt (l:=s.jobs) (id:=p.job) (by omega);rw[show s.jobs.getD (zBm s.jobs p.job).toNat default=s.jobs[(zBm s.jobs p.job).toNat] by simp[List.getD,h2]];exact List.getElem_mem h2
theorem partR_is{s:Sta}{p:Prt}(hc:s.c.chk=0)(ht:tblE s.c s.jobs=0)(hm:s.marks=true):s.partR p=s.part p:=by
 have hmay:s.c.may=true:=by
  unfold Cfg.chk at hc
  split at hc
  ·assumption
  ·omega
 have hd:=Cfg.may_ok hmay;unfold Sta.partR Sta.part;cases hj:s.isJob p
 ·rfl
 rw[Bool.true_and,Bool.true_and];have hjc:=tbl_chk ht _ (jobOf_mem hj);obtain⟨hpl,_,hw,_⟩:=Jb.chk_facts hjc;have hwall:witV (s.jobOf p).wall 1 1048576=true:=by
  unfold Jb.plain at hpl;simp only[zA]at hpl;exact hpl.1.1.1.1.2
 have hsp:s.c.spE p (s.jobOf p).wall=0 ↔ s.c.part p=true:=by
  unfold Cfg.spE Cfg.pchk;rw[if_pos hc];cases s.c.part p
  ·simp
  ·simp[hwall]
 have hdw:dwchk s.c.a s.c.b s.c.c (s.jobOf p).w.p (s.jobOf p).w.q (s.jobOf p).w.r=0:=dwchk_ok.2 ⟨hd,hw⟩;have hie:isE s.c.a s.c.b s.c.c (s.jobOf p).w p.pl=0 ↔ p.pl.ok s.c.a s.c.b s.c.c:=by
  unfold isE;rw[if_pos hdw]
  constructor
  ·intro h
   exact isE_ok (w:=(s.jobOf p).w) (by unfold isE; rw[if_pos hdw]; exact h)
  ·exact fun h=>okPl_pchk h
 have hiv:isE s.c.a s.c.b s.c.c (s.jobOf p).w p.pl=0->isV s.c.a s.c.b s.c.c (s.jobOf p).w p.pl=(s.jobOf p).w.turns.any fun t=>decide (isT t p.pl):=fun h=>by unfold isV; rw[if_pos h]
 by_cases hp:s.c.part p=true
 ·by_cases hk:p.pl.ok s.c.a s.c.b s.c.c
  ·have hst:standsR s p.pl=!s.sound p.pl:=by
    unfold Sta.marks badV at hm;simp only[zA]at hm;exact standsR_is hk hm.1.1 hm.2
   rw[hiv (hie.2 hk),hst,hp,zT hk,zT (hsp.2 hp),zT (hie.2 hk)];have hb:s.now<=1099511627776\/True:=.inr trivial;have hfr:1<=s.c.boot/\1<=s.c.free:=by
    unfold Cfg.may witV at hmay;simp only[zA,decide_eq_true_eq]at hmay;omega
   have hwl:1<=(s.jobOf p).wall:=by
    unfold witV at hwall;have:=of_decide_eq_true hwall;omega
   have hturn:(¬1099511627776 < s.ends p)->(s.c.turn p (s.jobOf p).wall<=s.now ↔ s.c.clockR p (s.jobOf p).wall<=s.now):=by
    unfold Sta.ends Cfg.turn Cfg.clockR
    intro h
    rw[Int.min_eq_left]
    split at h
    ·rw[if_pos (by assumption)]; omega
    ·rw[if_neg (by assumption)]
     split at h
     ·rw[if_pos (by assumption)]; omega
     ·rw[if_neg (by assumption)]; omega
   generalize ((s.jobOf p).w.turns.any fun t=>decide (isT t p.pl))=T at *
   by_cases he:1099511627776 < s.ends p
   ·rw[zT he];simp
   ·rw[decide_eq_decide.2 (hturn he)];rw[zF he]
    by_cases h3:p.ph=3
    ·rw[if_pos h3,zT h3,show decide (3<=(s.jobOf p).st)=!decide ((s.jobOf p).st < 3) by rw[Bool.eq_iff_iff]; simp];cases T <;> cases decide (s.now < p.since) <;> cases decide (s.c.clockR p (s.jobOf p).wall<=s.now) <;> cases decide ((s.jobOf p).st < 3) <;> rfl
    ·rw[if_neg h3,zF h3];cases T <;> cases decide (s.now < p.since) <;> cases decide (s.c.clockR p (s.jobOf p).wall<=s.now) <;> cases decide ((s.jobOf p).st=2) <;> cases s.sound p.pl <;> rfl
  ·rw[zF hk,zF (fun h=>hk (hie.1 h))];simp
 ·have hp':s.c.part p=false:=by simpa using hp
  rw[hp',zF (fun h=>hp (hsp.1 h))];simp
def Sta.oddKR(s:Sta)(i:Nat):Bool :=
 let k:=s.keeps.getD i default
 (decide (k.id < 1)||(decide (s.next<=k.id)||((decide (0 < i)&&decide (k.id<=(s.keeps.getD (i - 1) default).id))||(!decide (okB s.c.a s.c.b s.c.c k.x k.y k.z k.p k.q k.r)||!decide ((k.p=s.c.a->k.x=0)/\(k.q=s.c.b->k.y=0)/\(k.r=s.c.c->k.z=0)))))) ||
 ((decide (k.fr < 0)||(decide (k.till<=k.fr)||(decide (1099511627776 < k.till)||decide (k.till<=s.now))))||s.taken (s.keeps.take i) k.bx k.fr k.till)
theorem told_iff{s:Sta}{k:Kep}(h:ckB s.c.a s.c.b s.c.c k.x k.y k.z k.p k.q k.r=0):s.told k=decide ((k.p=s.c.a->k.x=0)/\(k.q=s.c.b->k.y=0)/\(k.r=s.c.c->k.z=0)):=by
 unfold Sta.told;rw[h];refine decide_eq_decide.2 ?_;rw[can_iff,can_iff,can_iff];simp[cas_z]
theorem keepsR_is{s:Sta}(hd:okD s.c.a s.c.b s.c.c):(decide ((s.keeps.length:Int)<=4)&&!anyN s.oddKR s.keeps.length 0)=s.keepsV:=by
 unfold Sta.keepsV
 congr 1
 have hck:∀ k:Kep,decide (ckB s.c.a s.c.b s.c.c k.x k.y k.z k.p k.q k.r=0)=decide (okB s.c.a s.c.b s.c.c k.x k.y k.z k.p k.q k.r):=fun k=>by
  refine decide_eq_decide.2 ⟨fun h=>(ckB0 h).2,fun h=>ckB_ok hd h⟩
 have hone:∀ i,s.oddKR i=(decide ((s.keeps.getD i default).id < 1)||(decide (0 < i)&&decide ((s.keeps.getD i default).id<=(s.keeps.getD (i - 1) default).id))||!s.okK (s.keeps.getD i default) (-1099511627776000000) i||!decide (-1099511627776000000 < (s.keeps.getD i default).id)&&decide ((s.keeps.getD i default).id < 1)):=fun i=>by
  unfold Sta.oddKR Sta.okK;simp only
  generalize s.keeps.getD i default=k
  rw[hck k]
  by_cases h1:k.id < 1
  ·rw[zT h1]; simp
  ·by_cases hb:okB s.c.a s.c.b s.c.c k.x k.y k.z k.p k.q k.r
   ·rw[told_iff (ckB_ok hd hb),zT hb,zF h1,zF (show ¬k.id<=-1099511627776000000 by omega)]
    generalize decide (s.next<=k.id)=B1
    generalize decide (0 < i)=B2
    generalize decide (k.id<=(s.keeps.getD (i - 1) default).id)=B3
    generalize decide ((k.p=s.c.a->k.x=0)/\(k.q=s.c.b->k.y=0)/\(k.r=s.c.c->k.z=0))=B4
    generalize decide (k.fr < 0)=B5
    generalize decide (k.till<=k.fr)=B6
    generalize decide (1099511627776 < k.till)=B7
    generalize decide (k.till<=s.now)=B8
    generalize s.taken (s.keeps.take i) k.bx k.fr k.till=B9
    cases B1 <;> cases B2 <;> cases B3 <;> cases B4 <;> cases B5 <;> cases B6 <;> cases B7 <;> cases B8 <;> cases B9 <;> simp
   ·rw[zF hb];simp
 have hk:∀(i:Nat) (last:Int),s.okK (s.keeps.getD i default) last i=(decide (last < (s.keeps.getD i default).id)&&s.okK (s.keeps.getD i default) ((s.keeps.getD i default).id - 1) i):=fun i last=>by
  unfold Sta.okK
  generalize s.keeps.getD i default=k
  rw[show decide (k.id<=k.id - 1)=false from zF (by omega)]
  by_cases h:last < k.id
  ·rw[zT h,show decide (k.id<=last)=false from zF (by omega),Bool.true_and]
  ·rw[zF h,show decide (k.id<=last)=true from zT (by omega)];simp
 rw[Bool.eq_iff_iff,Bool.not_eq_true',Bool.not_eq_true',Bool.eq_false_iff,Bool.eq_false_iff,Ne,Ne,anyN_iff,anyN_iff];refine not_congr ?_
 generalize hn:s.keeps.length=n
 have key:(∀ i,i < n->s.oddKR i=false) ↔ ∀ i,i < n->s.okK (s.keeps.getD i default) (s.last i) i=true:=by
  constructor
  ·intro h i hi
   have h1:=h i hi;rw[hone,hk i (-1099511627776000000)]at h1;simp only[Bool.or_eq_false_iff,decide_eq_false_iff_not,Bool.not_eq_false',zA,decide_eq_true_eq]at h1;rw[hk,h1.1.2.2,Bool.and_true];refine zT ?_;unfold Sta.last
   split
   ·omega
   ·have:=h1.1.1.2;rw[Bool.and_eq_false_iff,decide_eq_false_iff_not,decide_eq_false_iff_not]at this;omega
  ·intro h
   have hpos:∀ i,i < n->1<=(s.keeps.getD i default).id:=by
    intro i
    induction i with
    | zero =>
     intro hi
     have h1:=h 0 hi;rw[hk,zA]at h1;have:=of_decide_eq_true h1.1;unfold Sta.last at this;rw[if_pos rfl]at this;omega
    | succ i ih =>
     intro hi
     have h1:=h (i+1) hi;rw[hk,zA]at h1;have:=of_decide_eq_true h1.1;unfold Sta.last at this;rw[if_neg (by omega),Nat.add_sub_cancel]at this;have:=ih (by omega);omega
   intro i hi
   have h1:=h i hi;have h0:=hpos i hi;rw[hk,zA]at h1;have h2:=of_decide_eq_true h1.1;rw[hone,hk i (-1099511627776000000),h1.2,zF (show ¬(s.keeps.getD i default).id < 1 by omega),zT (show -1099511627776000000 < (s.keeps.getD i default).id by omega)];unfold Sta.last at h2
   by_cases hi0:0 < i
   ·rw[if_neg (by omega)]at h2;rw[zF (show ¬(s.keeps.getD i default).id<=(s.keeps.getD (i - 1) default).id by omega)];simp
   ·rw[zF hi0];simp
 constructor
 ·rintro⟨i,_,hi,h⟩
  refine Classical.byContradiction fun hno=>?_
  have:=key.2 fun j hj=>by
   cases hb:s.okK (s.keeps.getD j default) (s.last j) j
   ·exact absurd ⟨j,by omega,by omega,by rw[hb]; rfl⟩ hno
   ·rfl
  rw[this i (by omega)]at h;cases h
 ·rintro⟨i,_,hi,h⟩
  refine Classical.byContradiction fun hno=>?_
  have:=key.1 fun j hj=>by
   cases hb:s.oddKR j
   ·rfl
   ·exact absurd ⟨j,by omega,by omega,hb⟩ hno
  rw[this i (by omega)]at h;cases h
end Go.Ab.Pd
namespace Go.Ab
open Go.Proofs
open Go.Proofs.Tryz renaming prog->zP
section
variable {P:Program} {G:Gl} {rd:Option Nat} {n:Nat}
theorem live_ndef{w:World}{E:En}{H:List AO}(h:RelH G w E H){r:Nat}{ds:Option (List Deferred)}(hr:w.heap[r]?=some (Obj.deferred ds)):¬Live H E r:=by
 rintro⟨id,o,l,h1,h2,h3,rfl⟩
 obtain⟨l',h4,h5⟩:=h.obj id o h1 h2;rw[h3]at h4;cases h4;exact h5.ndef h2 ds hr
theorem MarksOn.trans{w0 w1 w2:World}{E1 E2:En}{H1 H2:List AO}(h1:RelH G w1 E1 H1)(hs:w0.heap.size<=w1.heap.size)(g:Grow H1 E1 w1 H2 E2 w2){D D1 D2:List Deferred}(a:MarksOn w0 w1 D D1)(b:MarksOn w1 w2 D1 D2):MarksOn w0 w2 D D2:=by
 obtain⟨rs,rfl,hn,hr⟩:=a;obtain⟨ss,rfl,hm,ht⟩:=b;refine⟨ss++rs,by simp,List.nodup_append.2 ⟨hm,hn,fun x hx y hy e=>?_⟩,fun r hrr=>?_⟩
 ·have:=(ht x hx).1;have:=zAu (hr y hy).2;omega
 ·rcases List.mem_append.1 hrr with h | h
  ·exact⟨Nat.le_trans hs (ht r h).1,(ht r h).2⟩
  ·exact⟨(hr r h).1,(g.same r (zAu (hr r h).2) (live_ndef h1 (hr r h).2)).trans (hr r h).2⟩
theorem FW.cut{todo t:List Item}{ts:Nat->AV}{H:List AO}{Q:Lv->(Nat->AV)->List AO->Prop}{Inv:(Nat->AV)->List AO->Prop}(ht:zCg n todo=true->zCg n t=true)
  (h1:FW P G rd n todo ts H fun L ts' H'=>L=.stop t/\Inv ts' H') (h2:∀ ts' H',Inv ts' H'->FW P G rd n t ts' H' Q):FW P G rd n todo ts H Q:=by
 intro hok E w tmps hH hT b D cs hrd
 obtain⟨L,ts1,H1,E1,w1,tmps1,D1,todo1,⟨rfl,hI⟩,r1,g1,t1,a1,⟨d1,m1⟩,l1⟩:=h1 hok E w tmps hH hT b D cs hrd;obtain⟨rfl,_⟩:=a1;obtain⟨L,ts2,H2,E2,w2,tmps2,D2,todo2,hQ,r2,g2,t2,a2,⟨d2,m2⟩,l2⟩:=h2 ts1 H1 hI (ht hok) E1 w1 tmps1 r1 t1 b D1 cs (hrd.mono g1.mono);exact⟨L,ts2,H2,E2,w2,tmps2,D2,todo2,hQ,r2,g1.trans g2,t2,a2,⟨fun h=>(d2 h).trans (d1 h),MarksOn.trans r1 g1.size g2 m1 m2⟩,l2.pre P l1⟩
end
end Go.Ab
namespace Go.Ab.Pd
open Go.Proofs
open Go.Proofs.Tryz renaming prog->zP
theorem dimsEqG(a b c a' b' c':Int):aEqS zP 23 (.agg [I a,I b,I c]) (.agg [I a',I b',I c'])=some (decide (a=a'/\b=b'/\c=c')):=by
 rw[dimsEq0,Option.some.injEq,Bool.eq_iff_iff,decide_eq_true_iff];simp
def Sta.one(s o:Sta):Bool:=decide (s.c.a=o.c.a/\s.c.b=o.c.b/\s.c.c=o.c.c)&&(decide (s.c.boot=o.c.boot)&&(decide (s.c.free=o.c.free)&&(decide (s.c.tries=o.c.tries)&&(decide (s.c.age=o.c.age)&&decide (s.c.cls=o.c.cls)))))
def Sta.two(s o:Sta):Bool:=decide (s.now=o.now)&&(decide (s.next=o.next)&&(sameJ s.jobs o.jobs&&(decide (s.parts=o.parts)&&decide (s.keeps=o.keeps))))
def Sta.same(s o:Sta):Bool:=(s.one o&&s.two o)&&(decide (s.down=o.down)&&(decide (s.shut=o.shut)&&decide (s.cut=o.cut)))
theorem e171:Ent zP 171 Tryz.f171 [] 1:=.mk Tryz.func171 rfl
attribute [push_cast] Tryz.f171
theorem chk01(a b c:Int):Pur zP GG 171 [.agg [I a,I b,I c]] (I (chk a b c)):=by
 refine goQ e171 zEg 0 ?_;simp only[push_cast,seval,↓kw2];refine⟨fun hd=>?_,fun hd=>?_⟩
 ·exact⟨_,rfl,zAa rfl (by rw[chk,if_pos hd])⟩
 ·exact⟨_,rfl,zAa rfl (by rw[chk,if_neg hd])⟩
@[push_cast] def g171:List AV->Option (Prop × AV)
 | [.agg [(.c (.int .i64 a)),(.c (.int .i64 b)),(.c (.int .i64 c))]]=>some (True,I (chk a b c))
 | _=>none
theorem g171_ok:∀ args p,g171 args=some p->p.1->Pur zP GG 171 args p.2:=by
 intro args p hp hc
 unfold g171 at hp
 split at hp
 ·cases hp;exact chk01 _ _ _
 ·cases hp
@[push_cast] def Q14:Tab:=Tab.ext Q12 171 g171
theorem Q14_ok:TOk zP GG Q14:=TOk.ext zEg g171_ok
theorem e172:Ent zP 172 Tryz.f172 [] 3:=.mk Tryz.func172 rfl
attribute [push_cast] Tryz.f172
theorem in16(n a b:Int):Pur zP GG 172 [I n,I a,I b] (B (decide (a<=n/\n<=b))):=by
 refine goQ e172 Q14_ok 0 ?_;simp only[push_cast,seval,↓kw2]
 repeat' (first | apply And.intro | intro _)
 all_goals
  refine⟨_,rfl,zAa rfl (congrArg B ?_)⟩
  first | exact(zT (by omega)).symm | exact(zF (by omega)).symm | exact decide_eq_decide.2 (by omega)
@[push_cast] def g172:List AV->Option (Prop × AV)
 | [(.c (.int .i64 n)),(.c (.int .i64 a)),(.c (.int .i64 b))]=>some (True,B (decide (a<=n/\n<=b)))
 | _=>none
theorem g172_ok:∀ args p,g172 args=some p->p.1->Pur zP GG 172 args p.2:=by
 intro args p hp hc
 unfold g172 at hp
 split at hp
 ·cases hp;exact in16 _ _ _
 ·cases hp
@[push_cast] def Q15:Tab:=Tab.ext Q14 172 g172
theorem Q15_ok:TOk zP GG Q15:=TOk.ext Q14_ok g172_ok
theorem e173:Ent zP 173 Tryz.f173 [] 1:=.mk Tryz.func173 rfl
attribute [push_cast] Tryz.f173
theorem class16(a b c d:Int):Pur zP GG 173 [.agg [I a,I b,I c,I d]] (B (!(Cls.mk a b c d).odd)):=by
 refine goQ e173 Q15_ok 0 ?_;simp only[push_cast,seval,↓kw2]
 repeat' (first | apply And.intro | intro _)
 all_goals
  refine⟨_,rfl,zAa rfl (congrArg B ?_)⟩;rw[Bool.eq_iff_iff];simp[Cls.odd,witV];omega
@[push_cast] def g173:List AV->Option (Prop × AV)
 | [.agg [(.c (.int .i64 a)),(.c (.int .i64 b)),(.c (.int .i64 c)),(.c (.int .i64 d))]]=>some (True,B (!(Cls.mk a b c d).odd))
 | _=>none
theorem g173_ok:∀ args p,g173 args=some p->p.1->Pur zP GG 173 args p.2:=by
 intro args p hp hc
 unfold g173 at hp
 split at hp
 ·cases hp;exact class16 _ _ _ _
 ·cases hp
@[push_cast] def Q16:Tab:=Tab.ext Q15 173 g173
theorem Q16_ok:TOk zP GG Q16:=TOk.ext Q15_ok g173_ok
theorem Cfg.may_all{x:Cfg}:x.may=(decide (okD x.a x.b x.c/\(1<=x.boot/\x.boot<=1048576)/\(1<=x.free/\x.free<=1048576)/\(1<=x.tries/\x.tries<=5)/\(1<=x.age/\x.age<=1048576)/\1<=(x.cls.length:Int)/\(x.cls.length:Int)<=4)&&!anyN (fun i=>(x.cls.getD i default).odd) x.cls.length 0):=by
 unfold Cfg.may witV;rw[Bool.eq_iff_iff];simp only[zA,decide_eq_true_eq]
 constructor
 ·rintro⟨⟨⟨⟨a,b⟩,c⟩,⟨d,e⟩,f⟩,g⟩
  exact⟨⟨a,b,c,d,e,f⟩,g⟩
 ·rintro⟨⟨a,b,c,d,e,f⟩,g⟩
  exact⟨⟨⟨⟨a,b⟩,c⟩,⟨d,e⟩,f⟩,g⟩
theorem e116:Ent zP 116 Tryz.f116 [] 1:=.mk Tryz.func116 rfl
attribute [push_cast] Tryz.f116
theorem may16(x:Cfg){s:AV}(hs:IsSl s (x.cls.map Cls.av))(hl:x.cls.length<=2^20):Pur zP GG 116 [CF x.a x.b x.c x.boot x.free x.tries x.age s] (B x.may):=by
 rw[Cfg.may_all];obtain⟨a,b,c,p,q,r,t,cs⟩:=x;have hpu:=hs.pur (zAc Cls.av _ (fun _=>rfl));obtain⟨k1,k2,k3⟩:=hs.cell;have hlen:=hs.len un50;rw[zM]at hlen;simp only at hs hlen hl ⊢
 by_cases hd:okD a b c
 ·have hck:=chk_ok.2 hd
  by_cases hc:(1<=p/\p<=1048576)/\(1<=q/\q<=1048576)/\(1<=r/\r<=5)/\(1<=t/\t<=1048576)/\1<=(cs.length:Int)/\(cs.length:Int)<=4
  ·rw[zT ⟨hd,hc⟩,Bool.true_and];have e1:=zT hc.1;have e2:=zT hc.2.1;have e3:=zT hc.2.2.1;have e4:=zT hc.2.2.2.1;have e5:=zT hc.2.2.2.2;have hidx:=fun(i:Nat) (hi:i < cs.length) (H:List AO)=>hs.idx (P:=zP) un50 sz72 (i:=(i:Int)) (by rw[zM]; omega) (by omega) H
   refine goQ e116 Q16_ok 0 ?_ (by simp[AV.purL,AV.pur,hpu]);simp only[push_cast,seval,↓kw2,k1,k2,k3,hlen,hck,e1,e2,e3,e4,e5];refine FW.loopInv (fun n ts H=>∃ i:Nat,i+n=cs.length/\anyN (fun i=>(cs.getD i default).odd) n i=anyN (fun i=>(cs.getD i default).odd) cs.length 0/\H=[.cells [I a,I b,I c,I p,I q,I r,I t,s]]/\ts 1=.ptr 0 0/\ts 3=I (i:Int)) cs.length
    ⟨0,by omega,rfl,rfl,rfl,rfl⟩ ?_
   rintro n ih ts H ⟨i,hi,hf,rfl,t1,t3⟩
   refine FW.inLoop ?_;have w2:=zAh (n:=(i:Int)+1) (by omega) (by omega)
   by_cases hlt:i < cs.length
   ·have d1:decide ((i:Int) < (cs.length:Int))=true:=zT (by omega);have hx:=hidx i hlt;simp only[Int.toNat_natCast]at hx;rw[zAe Cls.av cs default hlt]at hx;obtain⟨n,rfl⟩:∃ m',n=m'+1:=⟨n - 1,by omega⟩;have hf':((cs.getD i default).odd||anyN (fun i=>(cs.getD i default).odd) n (i+1))=anyN (fun i=>(cs.getD i default).odd) cs.length 0:=hf
    generalize cs.getD i default=y at hx hf'
    have hcy:=Cls.cells y;rw[hcy]at hx;have hbb:(0<=(i:Int)/\(i:Int) < ((cs.map Cls.av).length:Int)):=⟨by omega,by rw[zM]; omega⟩;have hY:=class16 y.a y.b y.c y.d;refine goN ?_;simp only[push_cast,seval,↓kw2,k1,k2,k3,hlen,t1,t3,d1,hx]
    repeat (first | refine⟨hbb,?_⟩)
    refine AC.pur hY ?_;cases ho:y.odd
    ·rw[ho,Bool.false_or]at hf';refine goN ?_;simp only[push_cast,seval,↓kw2,k1,k2,k3,hlen,t1,t3,w2];exact ih n (by omega) _ _ ⟨i+1,by omega,hf',rfl,t1,rfl⟩
    ·rw[ho,Bool.true_or]at hf';rw[<- hf'];refine goN ?_;simp only[push_cast,seval,↓kw2,k1,k2,k3,hlen,t1,t3,w2];exact⟨_,rfl,zAa rfl rfl⟩
   ·have d1:decide ((i:Int) < (cs.length:Int))=false:=zF (by omega);have hn:n=0:=by omega
    subst hn;rw[<- hf];refine goN ?_;simp only[push_cast,seval,↓kw2,k1,k2,k3,hlen,t1,t3,d1];exact⟨_,rfl,zAa rfl rfl⟩
  ·rw[zF fun h=>hc h.2,Bool.false_and];refine goQ e116 Q16_ok 0 ?_ (by simp[AV.purL,AV.pur,hpu]);simp only[push_cast,seval,↓kw2,k1,k2,k3,hlen,hck]
   repeat' (first | apply And.intro | intro _)
   all_goals first | exact⟨_,rfl,zAa rfl rfl⟩ | (exfalso; omega)
 ·have hck:=chk_no hd;rw[zF fun h=>hd h.1,Bool.false_and];refine goQ e116 Q16_ok 0 ?_ (by simp[AV.purL,AV.pur,hpu]);simp only[push_cast,seval,↓kw2,k1,k2,k3,hlen,hck];exact⟨_,rfl,zAa rfl rfl⟩
theorem e227:Ent zP 227 Tryz.f227 [] 2:=.mk Tryz.func227 rfl
attribute [push_cast] Tryz.f227
theorem mayPart16(x:Cfg){s:AV}(hs:IsSl s (x.cls.map Cls.av))(p:Prt):Pur zP GG 227 [x.av s,p.av] (B (x.part p)):=by
 have hpu:=hs.pur (zAc Cls.av _ (fun _=>rfl));obtain⟨k1,k2,k3⟩:=hs.cell;show Pur zP GG 227 [CF x.a x.b x.c x.boot x.free x.tries x.age s,PA p.job p.pl p.ph p.tries p.since] _;refine goQ e227 Q16_ok 0 ?_ (by simp[AV.purL,AV.pur,hpu]);simp only[push_cast,seval,↓kw2,k1,k2,k3]
 repeat' (first | apply And.intro | intro _)
 all_goals
  refine⟨_,rfl,zAa rfl (congrArg B ?_)⟩;rw[Bool.eq_iff_iff];simp[Cfg.part,witV];omega
theorem e230:Ent zP 230 Tryz.f230 [] 3:=.mk Tryz.func230 rfl
attribute [push_cast] Tryz.f230
theorem left16(x:Cfg){s:AV}(hs:IsSl s (x.cls.map Cls.av))(ph wall:Int)(h1:0<=x.boot/\x.boot<=1048576)(h2:0<=x.free/\x.free<=1048576)(h3:0<=wall/\wall<=1048576) :
  Pur zP GG 230 [x.av s,.c (.int .u8 ph),I wall] (I (if ph=1 then x.boot+wall+x.free else if ph=2 then wall+x.free else x.free)):=by
 have hpu:=hs.pur (zAc Cls.av _ (fun _=>rfl));obtain⟨k1,k2,k3⟩:=hs.cell;have w1:=zAh (n:=x.boot+wall) (by omega) (by omega);have w2:=zAh (n:=x.boot+wall+x.free) (by omega) (by omega);have w3:=zAh (n:=wall+x.free) (by omega) (by omega);show Pur zP GG 230 [CF x.a x.b x.c x.boot x.free x.tries x.age s,.c (.int .u8 ph),I wall] _;refine goQ e230 TOk.nil 0 ?_ (by simp[AV.purL,AV.pur,hpu]);simp only[push_cast,seval,↓kw2,k1,k2,k3,w1,w2,w3]
 repeat' (first | apply And.intro | intro _)
 all_goals
  refine⟨_,rfl,zAa rfl ?_⟩;simp[*]
theorem e228:Ent zP 228 Tryz.f228 [] 3:=.mk Tryz.func228 rfl
attribute [push_cast] Tryz.f228
theorem clock16(x:Cfg){s:AV}(hs:IsSl s (x.cls.map Cls.av))(p:Prt)(wall:Int)(h0:0<=p.since/\p.since<=1099511627776)(h1:0<=x.boot/\x.boot<=1048576)(h2:0<=x.free/\x.free<=1048576)(h3:0<=wall/\wall<=1048576) :
  Pur zP GG 228 [x.av s,p.av,I wall] (I (x.clockR p wall)):=by
 have hpu:=hs.pur (zAc Cls.av _ (fun _=>rfl));obtain⟨k1,k2,k3⟩:=hs.cell;have w1:=zAh (n:=p.since+x.boot) (by omega) (by omega);have w2:=zAh (n:=p.since+wall) (by omega) (by omega);have w3:=zAh (n:=p.since+x.free) (by omega) (by omega);show Pur zP GG 228 [CF x.a x.b x.c x.boot x.free x.tries x.age s,PA p.job p.pl p.ph p.tries p.since,I wall] _;refine goQ e228 TOk.nil 0 ?_ (by simp[AV.purL,AV.pur,hpu]);simp only[push_cast,seval,↓kw2,k1,k2,k3,w1,w2,w3]
 repeat' (first | apply And.intro | intro _)
 all_goals
  refine⟨_,rfl,zAa rfl ?_⟩;simp[Cfg.clockR, *]
theorem e118:Ent zP 118 Tryz.f118 [] 2:=.mk Tryz.func118 rfl
attribute [push_cast] Tryz.f118
theorem marks17{s:AV}{l:List Int}(hs:IsSl s (l.map IA))(hl:l.length<=2^20)(n:Int):Pur zP GG 118 [I n,s] (B (zCd n l)):=by
 have hpu:=hs.pur (zAc IA _ fun _=>rfl);have hlen:=hs.len (P:=zP) un56;rw[zM]at hlen;have hidx:=fun(i:Nat) (hi:i < l.length) (H:List AO)=>hs.idx (P:=zP) un56 sz3 (i:=(i:Int)) (by rw[zM]; omega) (by omega) H
 unfold zCd;refine goQ e118 TOk.nil 0 ?_ (by simp[AV.purL,AV.pur,hpu]);simp only[push_cast,seval,↓kw2];refine FW.loopInv (fun m ts H=>∃ i:Nat,i+m=l.length/\anyN (oddM n l) m i=anyN (oddM n l) l.length 0/\(0 < i->0<=l.getD (i - 1) 0)/\ts 0=I n/\ts 1=s/\ts 5=I (i:Int)) l.length
  ⟨0,by omega,rfl,fun h=>by omega,rfl,rfl,rfl⟩ ?_
 rintro m ih ts H ⟨i,hi,hf,hp,t0,t1,t5⟩
 refine FW.inLoop ?_;have w2:=zAh (n:=(i:Int)+1) (by omega) (by omega)
 by_cases hlt:i < l.length
 ·have d1:decide ((i:Int) < (l.length:Int))=true:=zT (by omega);have hx:=hidx i hlt;simp only[Int.toNat_natCast]at hx;rw[zAe IA l 0 hlt]at hx;obtain⟨m,rfl⟩:∃ m',m=m'+1:=⟨m - 1,by omega⟩;have hf':(oddM n l i||anyN (oddM n l) m (i+1))=anyN (oddM n l) l.length 0:=hf;have hbb:(0<=(i:Int)/\(i:Int) < ((l.map IA).length:Int)):=⟨by omega,by rw[zM]; omega⟩;have hodd:oddM n l i=decide (l.getD i 0 < 0\/n<=l.getD i 0\/(0 < i/\l.getD i 0<=l.getD (i - 1) 0)):=by
   unfold oddM;rw[Bool.eq_iff_iff];simp only[Bool.or_eq_true,decide_eq_true_eq]
   by_cases h0:i=0
   ·rw[if_pos h0]
    generalize l.getD i 0=k
    generalize l.getD (i - 1) 0=k'
    omega
   ·have:=hp (by omega);rw[if_neg h0]
    generalize l.getD i 0=k
    generalize l.getD (i - 1) 0=k' at *
    omega
  have hk':0 < i->(i - 1) < l.length:=fun _=>by omega
  have hy:=fun(h:0 < i)=>hidx (i - 1) (hk' h)
  have wi:0 < i->IntKind.i64.wrap ((i:Int) - 1)=((i - 1:Nat):Int):=fun h=>by rw[zAh (by omega) (by omega)]; omega
  by_cases hbad:l.getD i 0 < 0\/n<=l.getD i 0\/(0 < i/\l.getD i 0<=l.getD (i - 1) 0)
  ·rw[hodd,zT hbad,Bool.true_or]at hf';rw[<- hf']
   by_cases e1:l.getD i 0 < 0
   ·have d2:=zT e1;refine goN ?_;simp only[push_cast,seval,↓kw2,t0,t1,t5,hlen,d1,hx,d2]
    repeat (first | refine⟨hbb,?_⟩)
    exact⟨_,rfl,zAa rfl rfl⟩
   ·have d2:=zF e1
    by_cases e2:n<=l.getD i 0
    ·have d3:=zT e2;refine goN ?_;simp only[push_cast,seval,↓kw2,t0,t1,t5,hlen,d1,hx,d2,d3]
     repeat (first | refine⟨hbb,?_⟩)
     exact⟨_,rfl,zAa rfl rfl⟩
    ·have d3:=zF e2;have e3:0 < i/\l.getD i 0<=l.getD (i - 1) 0:=by omega
     have d4:decide (0 < (i:Int))=true:=zT (by omega);have d5:=zT e3.2;have hz:=hy e3.1;simp only[Int.toNat_natCast]at hz;rw[zAe IA l 0 (hk' e3.1)]at hz;have hb2:(0<=((i - 1:Nat):Int)/\((i - 1:Nat):Int) < ((l.map IA).length:Int)):=⟨by omega,by rw[zM]; omega⟩;have wi':=wi e3.1
     generalize l.getD (i - 1) 0=k' at hz d5
     generalize ((i - 1:Nat):Int)=i' at hz wi' hb2
     refine goN ?_;simp only[push_cast,seval,↓kw2,t0,t1,t5,hlen,d1,hx,d2,d3,d4,d5,wi',hz]
     repeat (first | refine⟨hbb,?_⟩ | refine⟨hb2,?_⟩)
     exact⟨_,rfl,zAa rfl rfl⟩
  ·rw[hodd,zF hbad,Bool.false_or]at hf';have d2:decide (l.getD i 0 < 0)=false:=zF fun h=>hbad (.inl h)
   have d3:decide (n<=l.getD i 0)=false:=zF fun h=>hbad (.inr (.inl h))
   have hnn:0<=l.getD i 0:=by
    have:=of_decide_eq_false d2;omega
   by_cases h0:0 < i
   ·have d4:decide (0 < (i:Int))=true:=zT (by omega);have d5:decide (l.getD i 0<=l.getD (i - 1) 0)=false:=zF fun h=>hbad (.inr (.inr ⟨h0,h⟩))
    have hz:=hy h0;simp only[Int.toNat_natCast]at hz;rw[zAe IA l 0 (hk' h0)]at hz;have hb2:(0<=((i - 1:Nat):Int)/\((i - 1:Nat):Int) < ((l.map IA).length:Int)):=⟨by omega,by rw[zM]; omega⟩;have wi':=wi h0
    generalize l.getD (i - 1) 0=k' at hz d5
    generalize ((i - 1:Nat):Int)=i' at hz wi' hb2
    refine goN ?_;simp only[push_cast,seval,↓kw2,t0,t1,t5,hlen,d1,hx,d2,d3,d4,d5,wi',hz,w2]
    repeat (first | refine⟨hbb,?_⟩ | refine⟨hb2,?_⟩)
    exact ih m (by omega) _ _ ⟨i+1,by omega,hf',fun _=>hnn,t0,t1,rfl⟩
   ·have d4:decide (0 < (i:Int))=false:=zF (by omega);refine goN ?_;simp only[push_cast,seval,↓kw2,t0,t1,t5,hlen,d1,hx,d2,d3,d4,w2]
    repeat (first | refine⟨hbb,?_⟩)
    exact ih m (by omega) _ _ ⟨i+1,by omega,hf',fun _=>hnn,t0,t1,rfl⟩
 ·have d1:decide ((i:Int) < (l.length:Int))=false:=zF (by omega);have hm:m=0:=by omega
  subst hm;rw[<- hf];refine goN ?_;simp only[push_cast,seval,↓kw2,t0,t1,t5,hlen,d1];exact⟨_,rfl,zAa rfl rfl⟩
theorem e67:Ent zP 67 Tryz.f67 [] 2:=.mk Tryz.func67 rfl
attribute [push_cast] Tryz.f67
theorem ints17{s r:AV}{l k:List Int}(hs:IsSl s (l.map IA))(hr:IsSl r (k.map IA))(hl:l.length<=2^20):Pur zP GG 67 [s,r] (B (decide (l=k))):=by
 have hps:=hs.pur (zAc IA _ fun _=>rfl);have hpr:=hr.pur (zAc IA _ fun _=>rfl);have l1:=hs.len (P:=zP) un56;have l2:=hr.len (P:=zP) un56;rw[zM]at l1 l2
 by_cases hll:l.length=k.length
 ·have d0:decide ((l.length:Int)≠(k.length:Int))=false:=by simp[hll]
  have hix:=fun(i:Nat) (hi:i < l.length) (H:List AO)=>hs.idx (P:=zP) un56 sz3 (i:=(i:Int)) (by rw[zM]; omega) (by omega) H
  have hiy:=fun(i:Nat) (hi:i < k.length) (H:List AO)=>hr.idx (P:=zP) un56 sz3 (i:=(i:Int)) (by rw[zM]; omega) (by omega) H
  refine goQ e67 TOk.nil 0 ?_ (by simp[AV.purL,AV.pur,hps,hpr]);simp only[push_cast,seval,↓kw2,l1,l2,d0];refine FW.loopInv (fun m ts H=>∃ i:Nat,i+m=l.length/\l.take i=k.take i/\ts 0=s/\ts 1=r/\ts 5=I (i:Int)) l.length
   ⟨0,by omega,rfl,rfl,rfl,rfl⟩ ?_
  rintro m ih ts H ⟨i,hi,hf,t0,t1,t5⟩
  refine FW.inLoop ?_;have w2:=zAh (n:=(i:Int)+1) (by omega) (by omega)
  by_cases hlt:i < l.length
  ·have d1:decide ((i:Int) < (l.length:Int))=true:=zT (by omega);have hx:=hix i hlt;have hy:=hiy i (by omega);simp only[Int.toNat_natCast]at hx hy;rw[zAe IA l 0 hlt]at hx;rw[zAe IA k 0 (by omega)]at hy;have e1:=zAo 0 hlt;have e2:=zAo (l:=k) (i:=i) 0 (by omega)
   generalize hu:l.getD i 0=u at hx e1
   generalize hv:k.getD i 0=v at hy e2
   have hb1:(0<=(i:Int)/\(i:Int) < ((l.map IA).length:Int)):=⟨by omega,by rw[zM]; omega⟩;have hb2:(0<=(i:Int)/\(i:Int) < ((k.map IA).length:Int)):=⟨by omega,by rw[zM]; omega⟩
   by_cases huv:u=v
   ·have d2:decide (u≠v)=false:=by simp[huv]
    refine goN ?_;simp only[push_cast,seval,↓kw2,t0,t1,t5,l1,d1,hx,hy,d2,w2];refine⟨hb1,hb2,?_⟩;exact ih (m - 1) (by omega) _ _ ⟨i+1,by omega,by rw[e1,e2,hf,huv],t0,t1,rfl⟩
   ·have d2:decide (u≠v)=true:=by simp[huv]
    refine goN ?_;simp only[push_cast,seval,↓kw2,t0,t1,t5,l1,d1,hx,hy,d2];refine⟨hb1,hb2,?_⟩;exact⟨_,rfl,zAa rfl (by rw[zF fun h=>huv (by rw[<- hu,<- hv,h])])⟩
  ·have d1:decide ((i:Int) < (l.length:Int))=false:=zF (by omega);rw[List.take_of_length_le (by omega),List.take_of_length_le (by omega)]at hf;refine goN ?_;simp only[push_cast,seval,↓kw2,t0,t1,t5,l1,d1];exact⟨_,rfl,zAa rfl (by rw[zT hf])⟩
 ·have d0:decide ((l.length:Int)≠(k.length:Int))=true:=by simp; omega
  refine goQ e67 TOk.nil 0 ?_ (by simp[AV.purL,AV.pur,hps,hpr]);simp only[push_cast,seval,↓kw2,l1,l2,d0];exact⟨_,rfl,zAa rfl (by rw[zF fun h=>hll (by rw[h])])⟩
theorem e265:Ent zP 265 Tryz.f265 [] 2:=.mk Tryz.func265 rfl
attribute [push_cast] Tryz.f265
theorem at18{s:AV}{l:List Jb}(hs:JobsS s l)(hl:l.length<=2^20)(id:Int):Pur zP GG 265 [s,I id] (I (zBm l id)):=by
 have hpu:=hs.pur;have hlen:=hs.1.len (P:=zP) un53;rw[zM]at hlen;have hidx:=fun(i:Nat) (hi:i < l.length) (H:List AO)=>hs.1.idx (P:=zP) un53 sz83 (i:=(i:Int)) (by rw[zM]; omega) (by omega) H
 unfold zBm;refine goQ e265 TOk.nil 0 ?_ (by simp[AV.purL,AV.pur,hpu]);simp only[push_cast,seval,↓kw2];refine FW.loopInv (fun m ts H=>∃ i:Nat,i+m=l.length/\zBd (fun i=>decide ((l.getD i default).id=id)) m i=zBd (fun i=>decide ((l.getD i default).id=id)) l.length 0/\ts 0=s/\ts 1=I id/\ts 5=I (i:Int)) l.length
  ⟨0,by omega,rfl,rfl,rfl,rfl⟩ ?_
 rintro m ih ts H ⟨i,hi,hf,t0,t1,t5⟩
 refine FW.inLoop ?_;have w2:=zAh (n:=(i:Int)+1) (by omega) (by omega)
 by_cases hlt:i < l.length
 ·have d1:decide ((i:Int) < (l.length:Int))=true:=zT (by omega);have hx:=hidx i hlt;simp only[Int.toNat_natCast]at hx;rw[zAe Jb.av l default hlt]at hx;obtain⟨m,rfl⟩:∃ m',m=m'+1:=⟨m - 1,by omega⟩;rw[zBn]at hf
  generalize l.getD i default=j at hx hf
  have hcy:=Jb.cells j;have hbb:(0<=(i:Int)/\(i:Int) < ((l.map Jb.av).length:Int)):=⟨by omega,by rw[zM]; omega⟩
  by_cases he:j.id=id
  ·have d2:decide (j.id=id)=true:=zT he;rw[if_pos d2]at hf;refine goN ?_;simp only[push_cast,seval,↓kw2,t0,t1,t5,hlen,d1,hx,hcy,d2]
   repeat (first | refine⟨hbb,?_⟩)
   exact⟨_,rfl,zAa rfl (by rw[<- hf])⟩
  ·have d2:decide (j.id=id)=false:=zF he;rw[if_neg (by rw[d2]; decide)]at hf;refine goN ?_;simp only[push_cast,seval,↓kw2,t0,t1,t5,hlen,d1,hx,hcy,d2,w2]
   repeat (first | refine⟨hbb,?_⟩)
   exact ih m (by omega) _ _ ⟨i+1,by omega,hf,t0,t1,rfl⟩
 ·have d1:decide ((i:Int) < (l.length:Int))=false:=zF (by omega);have hm:m=0:=by omega
  subst hm;refine goN ?_;simp only[push_cast,seval,↓kw2,t0,t1,t5,hlen,d1];exact⟨_,rfl,zAa rfl (by rw[<- hf]; rfl)⟩
theorem e224:Ent zP 224 Tryz.f224 [] 2:=.mk Tryz.func224 rfl
attribute [push_cast] Tryz.f224
theorem there18{s:AV}{l:List Jb}(hs:JobsS s l)(hl:l.length<=2^20){j:Jb}(hj:j.good)(hjl:j.after.length<=2^20):Pur zP GG 224 [s,j.av] (B (!oddT l j)):=by
 have hpu:=hs.pur;have hpj:=IsSl.pur hj (zAc IA _ (fun _=>rfl));obtain⟨m1,m2,m3⟩:=IsSl.cell hj;have hlen:=IsSl.len (P:=zP) hj un56;rw[zM]at hlen;have hidx:=fun(i:Nat) (hi:i < j.after.length) (H:List AO)=>IsSl.idx (P:=zP) hj un56 sz3 (i:=(i:Int)) (by rw[zM]; omega) (by omega) H
 unfold oddT;show Pur zP GG 224 [s,JB j.id j.user j.cls j.w j.wall j.prio j.held j.aft j.st j.came] _;refine goQ e224 TOk.nil 0 ?_ (by simp[AV.purL,AV.pur,hpu,hpj]);simp only[push_cast,seval,↓kw2,m1,m2,m3];refine FW.loopInv (fun m ts H=>∃ i:Nat,i+m=j.after.length/\anyN (fun i=>!isJ l (j.after.getD i 0)) m i=anyN (fun i=>!isJ l (j.after.getD i 0)) j.after.length 0/\H=[.cells [I j.id,I j.user,I j.cls,I j.w.p,I j.w.q,I j.w.r,B j.w.s,B j.w.t,B j.w.u,B j.w.v,I j.wall,I j.prio,B j.held,j.aft,.c (.int .u8 j.st),I j.came]]/\ts 0=s/\ts 3=.ptr 0 0/\ts 5=I (i:Int)) j.after.length
  ⟨0,by omega,rfl,rfl,rfl,rfl,rfl⟩ ?_
 rintro m ih ts H ⟨i,hi,hf,rfl,t0,t3,t5⟩
 refine FW.inLoop ?_;have w2:=zAh (n:=(i:Int)+1) (by omega) (by omega)
 by_cases hlt:i < j.after.length
 ·have d1:decide ((i:Int) < (j.after.length:Int))=true:=zT (by omega);have hx:=hidx i hlt;simp only[Int.toNat_natCast]at hx;rw[zAe IA j.after 0 hlt]at hx;obtain⟨m,rfl⟩:∃ m',m=m'+1:=⟨m - 1,by omega⟩;have hf':((!isJ l (j.after.getD i 0))||anyN (fun i=>!isJ l (j.after.getD i 0)) m (i+1))=anyN (fun i=>!isJ l (j.after.getD i 0)) j.after.length 0:=hf;have hA:=at18 hs hl (j.after.getD i 0);have hij:isJ l (j.after.getD i 0)=decide (0<=zBm l (j.after.getD i 0)):=rfl;rw[hij]at hf'
  generalize j.after.getD i 0=k at hx hf' hA hij
  have hbb:(0<=(i:Int)/\(i:Int) < ((j.after.map IA).length:Int)):=⟨by omega,by rw[zM]; omega⟩;refine goN ?_;simp only[push_cast,seval,↓kw2,t0,t3,t5,m1,m2,m3,hlen,d1,hx]
  repeat (first | refine⟨hbb,?_⟩)
  refine AC.pur hA ?_
  by_cases hk:zBm l k < 0
  ·have d2:=zT hk;rw[zF (by omega),Bool.not_false,Bool.true_or]at hf';rw[<- hf'];refine goN ?_;simp only[push_cast,seval,↓kw2,t0,t3,t5,d2];exact⟨_,rfl,zAa rfl rfl⟩
  ·have d2:=zF hk;rw[zT (by omega),Bool.not_true,Bool.false_or]at hf';refine goN ?_;simp only[push_cast,seval,↓kw2,t0,t3,t5,d2,w2];exact ih m (by omega) _ _ ⟨i+1,by omega,hf',rfl,t0,t3,rfl⟩
 ·have d1:decide ((i:Int) < (j.after.length:Int))=false:=zF (by omega);have hm:m=0:=by omega
  subst hm;rw[<- hf];refine goN ?_;simp only[push_cast,seval,↓kw2,t0,t3,t5,m1,m2,m3,hlen,d1];exact⟨_,rfl,zAa rfl rfl⟩
theorem e262:Ent zP 262 Tryz.f262 [] 2:=.mk Tryz.func262 rfl
attribute [push_cast] Tryz.f262
theorem plain18(x:Cfg){j:Jb}{s:AV}(hs:IsSl s (x.cls.map Cls.av))(hj:j.good):Pur zP GG 262 [x.av s,j.av] (B (j.plain x)):=by
 have hpu:=hs.pur (zAc Cls.av _ (fun _=>rfl));have hpj:=IsSl.pur hj (zAc IA _ (fun _=>rfl));obtain⟨k1,k2,k3⟩:=hs.cell;obtain⟨m1,m2,m3⟩:=IsSl.cell hj;have hlen:=hs.len un50;rw[zM]at hlen;show Pur zP GG 262 [CF x.a x.b x.c x.boot x.free x.tries x.age s,JB j.id j.user j.cls j.w j.wall j.prio j.held j.aft j.st j.came] _;cases hh:j.held
 all_goals
  refine goQ e262 TOk.nil 0 ?_ (by simp[AV.purL,AV.pur,hpu,hpj]);simp(maxSteps:=2000000)only[push_cast,seval,↓kw2,k1,k2,k3,m1,m2,m3,hlen]
  repeat' (first | apply And.intro | intro _)
  all_goals
   refine⟨_,rfl,zAa rfl (congrArg B ?_)⟩;rw[Bool.eq_iff_iff];simp[Jb.plain,witV,hh];omega
theorem e263:Ent zP 263 Tryz.f263 [] 1:=.mk Tryz.func263 rfl
attribute [push_cast] Tryz.f263
theorem after18{j:Jb}(hj:j.good):Pur zP GG 263 [j.av] (B j.rises):=by
 have hpj:=IsSl.pur hj (zAc IA _ (fun _=>rfl));obtain⟨m1,m2,m3⟩:=IsSl.cell hj;have hlen:=IsSl.len (P:=zP) hj un56;rw[zM]at hlen;have hidx:=fun(i:Nat) (hi:i < j.after.length) (H:List AO)=>IsSl.idx (P:=zP) hj un56 sz3 (i:=(i:Int)) (by rw[zM]; omega) (by omega) H
 unfold Jb.rises;show Pur zP GG 263 [JB j.id j.user j.cls j.w j.wall j.prio j.held j.aft j.st j.came] _
 by_cases h4:4 < (j.after.length:Int)
 ·have d4:=zT h4;rw[zF (by omega),Bool.false_and];refine goQ e263 TOk.nil 0 ?_ (by simp[AV.purL,AV.pur,hpj]);simp(maxSteps:=2000000)only[push_cast,seval,↓kw2,m1,m2,m3,hlen,d4];exact⟨_,rfl,zAa rfl rfl⟩
 have d40:=zF h4;rw[zT (by omega),Bool.true_and];refine goQ e263 TOk.nil 0 ?_ (by simp[AV.purL,AV.pur,hpj]);simp(maxSteps:=2000000)only[push_cast,seval,↓kw2,m1,m2,m3,hlen,d40];refine FW.loopInv (fun m ts H=>∃ i:Nat,i+m=j.after.length/\anyN (oddA j) m i=anyN (oddA j) j.after.length 0/\(0 < i->1<=j.after.getD (i - 1) 0)/\H=[.cells [I j.id,I j.user,I j.cls,I j.w.p,I j.w.q,I j.w.r,B j.w.s,B j.w.t,B j.w.u,B j.w.v,I j.wall,I j.prio,B j.held,j.aft,.c (.int .u8 j.st),I j.came]]/\ts 1=.ptr 0 0/\ts 3=I (i:Int)) j.after.length
  ⟨0,by omega,rfl,fun h=>by omega,rfl,rfl,rfl⟩ ?_
 rintro m ih ts H ⟨i,hi,hf,hp,rfl,t1,t3⟩
 refine FW.inLoop ?_;have w2:=zAh (n:=(i:Int)+1) (by omega) (by omega)
 by_cases hlt:i < j.after.length
 ·have d1:decide ((i:Int) < (j.after.length:Int))=true:=zT (by omega);have hx:=hidx i hlt;simp only[Int.toNat_natCast]at hx;rw[zAe IA j.after 0 hlt]at hx;obtain⟨m,rfl⟩:∃ m',m=m'+1:=⟨m - 1,by omega⟩;have hf':(oddA j i||anyN (oddA j) m (i+1))=anyN (oddA j) j.after.length 0:=hf;have hbb:(0<=(i:Int)/\(i:Int) < ((j.after.map IA).length:Int)):=⟨by omega,by rw[zM]; omega⟩;have hodd:oddA j i=decide (j.after.getD i 0 < 1\/j.id<=j.after.getD i 0\/(0 < i/\j.after.getD i 0<=j.after.getD (i - 1) 0)):=by
   unfold oddA;rw[Bool.eq_iff_iff];simp only[Bool.or_eq_true,decide_eq_true_eq]
   by_cases h0:i=0
   ·rw[if_pos h0]
    generalize j.after.getD i 0=k
    generalize j.after.getD (i - 1) 0=k'
    omega
   ·have:=hp (by omega);rw[if_neg h0]
    generalize j.after.getD i 0=k
    generalize j.after.getD (i - 1) 0=k' at *
    omega
  have hk':0 < i->(i - 1) < j.after.length:=fun _=>by omega
  have hy:=fun(h:0 < i)=>hidx (i - 1) (hk' h)
  have wi:0 < i->IntKind.i64.wrap ((i:Int) - 1)=((i - 1:Nat):Int):=fun h=>by rw[zAh (by omega) (by omega)]; omega
  by_cases hbad:j.after.getD i 0 < 1\/j.id<=j.after.getD i 0\/(0 < i/\j.after.getD i 0<=j.after.getD (i - 1) 0)
  ·rw[hodd,zT hbad,Bool.true_or]at hf';rw[<- hf']
   by_cases e1:j.after.getD i 0 < 1
   ·have d2:=zT e1;refine goN ?_;simp(maxSteps:=2000000)only[push_cast,seval,↓kw2,t1,t3,m1,m2,m3,hlen,d1,hx,d2]
    repeat (first | refine⟨hbb,?_⟩)
    exact⟨_,rfl,zAa rfl rfl⟩
   ·have d2:=zF e1
    by_cases e2:j.id<=j.after.getD i 0
    ·have d3:=zT e2;refine goN ?_;simp(maxSteps:=2000000)only[push_cast,seval,↓kw2,t1,t3,m1,m2,m3,hlen,d1,hx,d2,d3]
     repeat (first | refine⟨hbb,?_⟩)
     exact⟨_,rfl,zAa rfl rfl⟩
    ·have d3:=zF e2;have e3:0 < i/\j.after.getD i 0<=j.after.getD (i - 1) 0:=by omega
     have d4:decide (0 < (i:Int))=true:=zT (by omega);have d5:=zT e3.2;have hz:=hy e3.1;simp only[Int.toNat_natCast]at hz;rw[zAe IA j.after 0 (hk' e3.1)]at hz;have hb2:(0<=((i - 1:Nat):Int)/\((i - 1:Nat):Int) < ((j.after.map IA).length:Int)):=⟨by omega,by rw[zM]; omega⟩;have wi':=wi e3.1
     generalize j.after.getD (i - 1) 0=k' at hz d5
     generalize ((i - 1:Nat):Int)=i' at hz wi' hb2
     refine goN ?_;simp(maxSteps:=2000000)only[push_cast,seval,↓kw2,t1,t3,m1,m2,m3,hlen,d1,hx,d2,d3,d4,d5,wi',hz]
     repeat (first | refine⟨hbb,?_⟩ | refine⟨hb2,?_⟩)
     exact⟨_,rfl,zAa rfl rfl⟩
  ·rw[hodd,zF hbad,Bool.false_or]at hf';have d2:decide (j.after.getD i 0 < 1)=false:=zF fun h=>hbad (.inl h)
   have d3:decide (j.id<=j.after.getD i 0)=false:=zF fun h=>hbad (.inr (.inl h))
   have hnn:1<=j.after.getD i 0:=by
    have:=of_decide_eq_false d2;omega
   by_cases h0:0 < i
   ·have d4:decide (0 < (i:Int))=true:=zT (by omega);have d5:decide (j.after.getD i 0<=j.after.getD (i - 1) 0)=false:=zF fun h=>hbad (.inr (.inr ⟨h0,h⟩))
    have hz:=hy h0;simp only[Int.toNat_natCast]at hz;rw[zAe IA j.after 0 (hk' h0)]at hz;have hb2:(0<=((i - 1:Nat):Int)/\((i - 1:Nat):Int) < ((j.after.map IA).length:Int)):=⟨by omega,by rw[zM]; omega⟩;have wi':=wi h0
    generalize j.after.getD (i - 1) 0=k' at hz d5
    generalize ((i - 1:Nat):Int)=i' at hz wi' hb2
    refine goN ?_;simp(maxSteps:=2000000)only[push_cast,seval,↓kw2,t1,t3,m1,m2,m3,hlen,d1,hx,d2,d3,d4,d5,wi',hz,w2]
    repeat (first | refine⟨hbb,?_⟩ | refine⟨hb2,?_⟩)
    exact ih m (by omega) _ _ ⟨i+1,by omega,hf',fun _=>hnn,rfl,t1,rfl⟩
   ·have d4:decide (0 < (i:Int))=false:=zF (by omega);refine goN ?_;simp(maxSteps:=2000000)only[push_cast,seval,↓kw2,t1,t3,m1,m2,m3,hlen,d1,hx,d2,d3,d4,w2]
    repeat (first | refine⟨hbb,?_⟩)
    exact ih m (by omega) _ _ ⟨i+1,by omega,hf',fun _=>hnn,rfl,t1,rfl⟩
 ·have d1:decide ((i:Int) < (j.after.length:Int))=false:=zF (by omega);have hm:m=0:=by omega
  subst hm;rw[<- hf];refine goN ?_;simp(maxSteps:=2000000)only[push_cast,seval,↓kw2,t1,t3,m1,m2,m3,hlen,d1];exact⟨_,rfl,zAa rfl rfl⟩
theorem e281:Ent zP 281 Tryz.f281 [] 2:=.mk Tryz.func281 rfl
attribute [push_cast] Tryz.f281
theorem within04(a b c p q r:Int):Pur zP GG 281 [.agg [I a,I b,I c],.agg [I p,I q,I r]] (B (decide (p<=a/\q<=b/\r<=c))):=by
 refine goQ e281 Q16_ok 0 ?_;simp(maxSteps:=2000000)only[push_cast,seval,↓kw2]
 repeat' (first | apply And.intro | intro _)
 all_goals
  refine⟨_,rfl,zAa rfl (congrArg B ?_)⟩
  first | exact(zT (by omega)).symm | exact(zF (by omega)).symm | exact decide_eq_decide.2 (by omega)
theorem e264:Ent zP 264 Tryz.f264 [] 2:=.mk Tryz.func264 rfl
attribute [push_cast] Tryz.f264
theorem fits04{a b c:Int}(hd:okD a b c)(w:Wnt)(hw:okW w.p w.q w.r):Pur zP GG 264 [.agg [I a,I b,I c],w.av] (.tup [B (w.turns.any fun t=>decide (fitT a b c t)),I 0]):=by
 have hT:=turns04 w;have hLl:=turnsR_len w;have hD:=may01 a b c;have hW:=may04 w.p w.q w.r w.s w.t w.u w.v;rw[zT hd]at hD;rw[zT hw]at hW;rw[show(w.turns.any fun t=>decide (fitT a b c t))=((turnsR w).any fun t=>decide (fitT a b c t)) from Bool.eq_iff_iff.2 (by
  rw[List.any_eq_true,List.any_eq_true];exact⟨fun⟨x,h1,h2⟩=>⟨x,(turnsR_mem w x).2 h1,h2⟩,fun⟨x,h1,h2⟩=>⟨x,(turnsR_mem w x).1 h1,h2⟩⟩)]
 generalize turnsR w=L at hT hLl ⊢
 have hL:IsSl (frS (L.map Wnt.av)) (L.map Wnt.av):=IsSl.frS _
 generalize frS (L.map Wnt.av)=sl at hT hL
 have hlen:=hL.len (P:=zP) un97;rw[zM]at hlen;have hidx:=fun(i:Nat) (hi:i < L.length) (H:List AO)=>hL.idx (P:=zP) un97 sz26 (i:=(i:Int)) (by rw[zM]; omega) (by omega) H
 show Pur zP GG 264 [.agg [I a,I b,I c],WT w.p w.q w.r w.s w.t w.u w.v] _;refine goQ e264 TOk.nil 0 ?_;simp(maxSteps:=2000000)only[push_cast,seval,↓kw2];refine AC.pur hD ?_;refine goN ?_;simp(maxSteps:=2000000)only[push_cast,seval,↓kw2];refine AC.pur hW ?_;refine goN ?_;simp(maxSteps:=2000000)only[push_cast,seval,↓kw2];refine AC.pur hT ?_;refine goN ?_;simp(maxSteps:=2000000)only[push_cast,seval,↓kw2];refine FW.loopInv (fun n ts H=>∃ i:Nat,i+n=L.length/\((L.drop i).any fun t=>decide (fitT a b c t))=(L.any fun t=>decide (fitT a b c t))/\H=[.cells [I a,I b,I c],.cells [I w.p,I w.q,I w.r,B w.s,B w.t,B w.u,B w.v]]/\ts 2=.ptr 0 0/\ts 6=sl/\ts 7=I (i:Int)) L.length
  ⟨0,by omega,rfl,rfl,rfl,rfl,rfl⟩ ?_
 rintro n ih ts H ⟨i,hi,hf,rfl,t2,t6,t7⟩
 refine FW.inLoop ?_;have w2:=zAh (n:=(i:Int)+1) (by omega) (by omega)
 by_cases hlt:i < L.length
 ·have d1:decide ((i:Int) < (L.length:Int))=true:=zT (by omega);have hx:=hidx i hlt;simp only[Int.toNat_natCast]at hx;rw[zAe Wnt.av L default hlt]at hx;rw[zAr default hlt,List.any_cons]at hf
  generalize L.getD i default=τ at hx hf
  have hcy:=Wnt.cells τ;rw[hcy]at hx;have hbb:(0<=(i:Int)/\(i:Int) < ((L.map Wnt.av).length:Int)):=⟨by omega,by rw[zM]; omega⟩;have hI:=within04 a b c τ.p τ.q τ.r;have hft:decide (fitT a b c τ)=decide (τ.p<=a/\τ.q<=b/\τ.r<=c):=rfl;rw[hft]at hf;refine goN ?_;simp(maxSteps:=2000000)only[push_cast,seval,↓kw2,t2,t6,t7,hlen,d1,hx]
  repeat (first | refine⟨hbb,?_⟩)
  refine⟨_,toVP hI,?_⟩;cases hv:decide (τ.p<=a/\τ.q<=b/\τ.r<=c)
  ·rw[hv,Bool.false_or]at hf;simp(maxSteps:=2000000)only[push_cast,seval,↓kw2,t2,t6,t7,w2];exact ih (n - 1) (by omega) _ _ ⟨i+1,by omega,hf,rfl,t2,t6,rfl⟩
  ·rw[hv,Bool.true_or]at hf;rw[<- hf];simp(maxSteps:=2000000)only[push_cast,seval,↓kw2,t2,t6,t7,w2];exact⟨_,rfl,zAa rfl rfl⟩
 ·have d1:decide ((i:Int) < (L.length:Int))=false:=zF (by omega);rw[List.drop_eq_nil_of_le (by omega)]at hf;rw[<- hf];refine goN ?_;simp(maxSteps:=2000000)only[push_cast,seval,↓kw2,t2,t6,t7,hlen,d1];exact⟨_,rfl,zAa rfl rfl⟩
theorem e223:Ent zP 223 Tryz.f223 [] 2:=.mk Tryz.func223 rfl
attribute [push_cast] Tryz.f223
theorem checked18(x:Cfg)(hm:x.may=true){j:Jb}{s:AV}(hs:IsSl s (x.cls.map Cls.av))(hj:j.good):Pur zP GG 223 [x.av s,j.av] (I (j.chk x)):=by
 have hpu:=hs.pur (zAc Cls.av _ (fun _=>rfl));have hpj:=IsSl.pur hj (zAc IA _ (fun _=>rfl));obtain⟨k1,k2,k3⟩:=hs.cell;obtain⟨m1,m2,m3⟩:=IsSl.cell hj;have hd:=Cfg.may_ok hm;have hp:=plain18 x hs hj;have ha:=after18 hj;have hW:=may04 j.w.p j.w.q j.w.r j.w.s j.w.t j.w.u j.w.v;simp only[Cfg.av,Jb.av]at hp ha;unfold Jb.chk;show Pur zP GG 223 [CF x.a x.b x.c x.boot x.free x.tries x.age s,JB j.id j.user j.cls j.w j.wall j.prio j.held j.aft j.st j.came] _;cases h1:j.plain x
 ·rw[h1]at hp;rw[if_neg (by decide)];refine goQ e223 TOk.nil 0 ?_ (by simp[AV.purL,AV.pur,hpu,hpj]);simp only[push_cast,seval,↓kw2,k1,k2,k3,m1,m2,m3];refine AC.pur hp ?_;refine goN ?_;simp only[push_cast,seval,↓kw2,k1,k2,k3,m1,m2,m3];exact⟨_,rfl,zAa rfl rfl⟩
 rw[h1]at hp;rw[if_pos rfl];cases h2:j.rises
 ·rw[h2]at ha;rw[if_neg (by decide)];refine goQ e223 TOk.nil 0 ?_ (by simp[AV.purL,AV.pur,hpu,hpj]);simp only[push_cast,seval,↓kw2,k1,k2,k3,m1,m2,m3];refine AC.pur hp ?_;refine goN ?_;simp only[push_cast,seval,↓kw2,k1,k2,k3,m1,m2,m3];refine AC.pur ha ?_;refine goN ?_;simp only[push_cast,seval,↓kw2,k1,k2,k3,m1,m2,m3];exact⟨_,rfl,zAa rfl rfl⟩
 rw[h2]at ha;rw[if_pos rfl]
 by_cases h3:okW j.w.p j.w.q j.w.r
 ·rw[if_pos (show wchk j.w.p j.w.q j.w.r=0 by rw[wchk,if_pos h3])];rw[zT h3]at hW;have hF:=fits04 hd j.w h3;simp only[Wnt.av]at hF;unfold Jb.fits;cases h4:(j.w.turns.any fun t=>decide (fitT x.a x.b x.c t))
  ·rw[h4]at hF;rw[if_neg (by decide)];refine goQ e223 TOk.nil 0 ?_ (by simp[AV.purL,AV.pur,hpu,hpj]);simp only[push_cast,seval,↓kw2,k1,k2,k3,m1,m2,m3];refine AC.pur hp ?_;refine goN ?_;simp only[push_cast,seval,↓kw2,k1,k2,k3,m1,m2,m3];refine AC.pur ha ?_;refine goN ?_;simp only[push_cast,seval,↓kw2,k1,k2,k3,m1,m2,m3];refine AC.pur hW ?_;refine goN ?_;simp only[push_cast,seval,↓kw2,k1,k2,k3,m1,m2,m3];refine AC.pur hF ?_;refine goN ?_;simp only[push_cast,seval,↓kw2,k1,k2,k3,m1,m2,m3];exact⟨_,rfl,zAa rfl rfl⟩
  ·rw[h4]at hF;rw[if_pos rfl];have hcls:0<=j.cls/\j.cls < (x.cls.length:Int):=by
    have h1':=h1;simp only[Jb.plain,zA,witV_t]at h1';have:=h1'.1.1.1.1.1.2;omega
   have hlt:j.cls.toNat < x.cls.length:=by omega
   have hx:=fun H=>hs.idx (P:=zP) un50 sz72 (i:=j.cls) (by rw[zM]; exact hcls.2) hcls.1 H
   rw[zAe Cls.av x.cls default hlt]at hx;have hbb:(0<=j.cls/\j.cls < ((x.cls.map Cls.av).length:Int)):=⟨hcls.1,by rw[zM]; exact hcls.2⟩;have hcl:j.cl x=x.cls.getD j.cls.toNat default:=rfl;rw[<- hcl]at hx
   generalize j.cl x=y at hx ⊢
   have hcy:=Cls.cells y;rw[hcy]at hx;obtain⟨w1,w2,w3,w4⟩:=okW_mul h3;have e1:=zAh w1 w2;have e2:=zAh w3 w4
   by_cases h5:y.b < j.wall
   ·have d5:=zT h5;rw[if_pos (.inl h5)];refine goQ e223 TOk.nil 0 ?_ (by simp[AV.purL,AV.pur,hpu,hpj]);simp only[push_cast,seval,↓kw2,k1,k2,k3,m1,m2,m3];refine AC.pur hp ?_;refine goN ?_;simp only[push_cast,seval,↓kw2,k1,k2,k3,m1,m2,m3];refine AC.pur ha ?_;refine goN ?_;simp only[push_cast,seval,↓kw2,k1,k2,k3,m1,m2,m3];refine AC.pur hW ?_;refine goN ?_;simp only[push_cast,seval,↓kw2,k1,k2,k3,m1,m2,m3];refine AC.pur hF ?_;refine goN ?_;simp only[push_cast,seval,↓kw2,k1,k2,k3,m1,m2,m3,hx,d5]
    repeat (first | refine⟨hbb,?_⟩)
    exact⟨_,rfl,zAa rfl rfl⟩
   ·have d5:=zF h5
    by_cases h6:y.c < j.w.p*j.w.q*j.w.r
    ·have d6:=zT h6;rw[if_pos (.inr h6)];refine goQ e223 TOk.nil 0 ?_ (by simp[AV.purL,AV.pur,hpu,hpj]);simp only[push_cast,seval,↓kw2,k1,k2,k3,m1,m2,m3];refine AC.pur hp ?_;refine goN ?_;simp only[push_cast,seval,↓kw2,k1,k2,k3,m1,m2,m3];refine AC.pur ha ?_;refine goN ?_;simp only[push_cast,seval,↓kw2,k1,k2,k3,m1,m2,m3];refine AC.pur hW ?_;refine goN ?_;simp only[push_cast,seval,↓kw2,k1,k2,k3,m1,m2,m3];refine AC.pur hF ?_;refine goN ?_;simp only[push_cast,seval,↓kw2,k1,k2,k3,m1,m2,m3,hx,d5,d6,e1,e2]
     repeat (first | refine⟨hbb,?_⟩)
     exact⟨_,rfl,zAa rfl rfl⟩
    ·have d6:=zF h6;rw[if_neg (fun h=>h.elim h5 h6)];refine goQ e223 TOk.nil 0 ?_ (by simp[AV.purL,AV.pur,hpu,hpj]);simp only[push_cast,seval,↓kw2,k1,k2,k3,m1,m2,m3];refine AC.pur hp ?_;refine goN ?_;simp only[push_cast,seval,↓kw2,k1,k2,k3,m1,m2,m3];refine AC.pur ha ?_;refine goN ?_;simp only[push_cast,seval,↓kw2,k1,k2,k3,m1,m2,m3];refine AC.pur hW ?_;refine goN ?_;simp only[push_cast,seval,↓kw2,k1,k2,k3,m1,m2,m3];refine AC.pur hF ?_;refine goN ?_;simp only[push_cast,seval,↓kw2,k1,k2,k3,m1,m2,m3,hx,d5,d6,e1,e2]
     repeat (first | refine⟨hbb,?_⟩)
     exact⟨_,rfl,zAa rfl rfl⟩
 ·rw[if_neg (show ¬wchk j.w.p j.w.q j.w.r=0 by rw[wchk,if_neg h3]; decide)];rw[zF h3]at hW;refine goQ e223 TOk.nil 0 ?_ (by simp[AV.purL,AV.pur,hpu,hpj]);simp only[push_cast,seval,↓kw2,k1,k2,k3,m1,m2,m3];refine AC.pur hp ?_;refine goN ?_;simp only[push_cast,seval,↓kw2,k1,k2,k3,m1,m2,m3];refine AC.pur ha ?_;refine goN ?_;simp only[push_cast,seval,↓kw2,k1,k2,k3,m1,m2,m3];refine AC.pur hW ?_;refine goN ?_;simp only[push_cast,seval,↓kw2,k1,k2,k3,m1,m2,m3];exact⟨_,rfl,zAa rfl rfl⟩
theorem risN_le{l:List Jb}:∀ {n i:Nat},risN l n=true->i<=n->risN l i=true
 | 0,i,h,hi=>by rw[show i=0 by omega]; rfl
 | n+1,i,h,hi=>by
  by_cases e:i=n+1
  ·rw[e]; exact h
  ·have:risN l n=true:=by
    unfold risN at h;exact(zA _ _ ▸ h).1
   exact risN_le this (by omega)
theorem e174:Ent zP 174 Tryz.f174 [] 2:=.mk Tryz.func174 rfl
attribute [push_cast] Tryz.f174
theorem table18(x:Cfg){s r:AV}{l:List Jb}(hs:IsSl s (x.cls.map Cls.av))(hcl:x.cls.length<=2^20)(hr:JobsS r l)(hl:l.length<=2^20)(ha:∀ j∈l,j.after.length<=2^20):Pur zP GG 174 [x.av s,r] (I (tblE x l)):=by
 have hpu:=hs.pur (zAc Cls.av _ (fun _=>rfl));have hpr:=hr.pur;obtain⟨k1,k2,k3⟩:=hs.cell;have hM:=may16 x hs hcl;have hlen:=hr.1.len (P:=zP) un53;rw[zM]at hlen;have hidx:=fun(i:Nat) (hi:i < l.length) (H:List AO)=>hr.1.idx (P:=zP) un53 sz83 (i:=(i:Int)) (by rw[zM]; omega) (by omega) H
 unfold tblE Cfg.chk;show Pur zP GG 174 [CF x.a x.b x.c x.boot x.free x.tries x.age s,r] _;cases hm:x.may
 ·rw[hm]at hM;rw[if_neg (by decide),if_neg (by decide)];refine goQ e174 TOk.nil 0 ?_ (by simp[AV.purL,AV.pur,hpu,hpr]);simp only[push_cast,seval,↓kw2,k1,k2,k3];refine AC.pur hM ?_;refine goN ?_;simp only[push_cast,seval,↓kw2];exact⟨_,rfl,zAa rfl rfl⟩
 rw[hm]at hM;rw[if_pos rfl,if_pos rfl]
 by_cases h24:24 < (l.length:Int)
 ·have d1:=zT h24;rw[if_pos h24];refine goQ e174 TOk.nil 0 ?_ (by simp[AV.purL,AV.pur,hpu,hpr]);simp only[push_cast,seval,↓kw2,k1,k2,k3];refine AC.pur hM ?_;refine goN ?_;simp only[push_cast,seval,↓kw2,hlen,d1];exact⟨_,rfl,zAa rfl rfl⟩
 have d24:=zF h24;rw[if_neg h24];refine goQ e174 TOk.nil 0 ?_ (by simp[AV.purL,AV.pur,hpu,hpr]);simp only[push_cast,seval,↓kw2,k1,k2,k3];refine AC.pur hM ?_;refine goN ?_;simp only[push_cast,seval,↓kw2,hlen,d24];refine FW.loopInv (fun n ts H=>∃ i:Nat,i+n=l.length/\chkL x (l.drop i)=chkL x l/\H=[.cells [I x.a,I x.b,I x.c,I x.boot,I x.free,I x.tries,I x.age,s]]/\ts 1=r/\ts 2=.ptr 0 0/\ts 5=I (i:Int)) l.length
  ⟨0,by omega,rfl,rfl,rfl,rfl,rfl⟩ ?_
 rintro n ih ts H ⟨i,hi,hf,rfl,t1,t2,t5⟩
 refine FW.inLoop ?_;have w2:=zAh (n:=(i:Int)+1) (by omega) (by omega)
 by_cases hlt:i < l.length
 ·have d1:decide ((i:Int) < (l.length:Int))=true:=zT (by omega);have hx:=hidx i hlt;simp only[Int.toNat_natCast]at hx;rw[zAe Jb.av l default hlt]at hx;have hg:=hr.get i;rw[zAr default hlt,chkL]at hf
  generalize l.getD i default=j at hx hg hf
  obtain⟨m1,m2,m3⟩:=IsSl.cell hg;have hcy:=Jb.cells j;rw[hcy]at hx;have hbb:(0<=(i:Int)/\(i:Int) < ((l.map Jb.av).length:Int)):=⟨by omega,by rw[zM]; omega⟩;have hC:=checked18 x hm hs hg;refine goN ?_;simp only[push_cast,seval,↓kw2,k1,k2,k3,m1,m2,m3,t1,t2,t5,hlen,d1,hx]
  repeat (first | refine⟨hbb,?_⟩)
  refine⟨_,toVP hC,?_⟩
  by_cases h0:j.chk x=0
  ·rw[if_pos h0]at hf;rw[h0];simp only[push_cast,seval,↓kw2,t1,t2,t5,w2];exact ih (n - 1) (by omega) _ _ ⟨i+1,by omega,hf,rfl,t1,t2,rfl⟩
  ·rw[if_neg h0]at hf;have d2:decide (j.chk x≠0)=true:=zT h0;simp only[push_cast,seval,↓kw2,t1,t2,t5,d2];refine⟨fun h=>absurd h h0,fun _=>?_⟩;refine⟨_,rfl,zAa rfl (congrArg I ?_)⟩;rw[if_neg (by rw[<- hf]; exact h0),hf]
 ·have d1:decide ((i:Int) < (l.length:Int))=false:=zF (by omega);rw[List.drop_eq_nil_of_le (by omega)]at hf;have hf0:chkL x l=0:=hf.symm;rw[if_pos hf0];clear ih hf;refine goN ?_;simp only[push_cast,seval,↓kw2,t1,t2,t5,hlen,d1];refine FW.loopInv (fun n ts H=>∃ i:Nat,l.length<=i+n/\1<=i/\(i<=l.length\/i=1)/\risN l i=true/\H=[.cells [I x.a,I x.b,I x.c,I x.boot,I x.free,I x.tries,I x.age,s]]/\ts 1=r/\ts 7=I (i:Int)) l.length
   ⟨1,by omega,by omega,.inr rfl,by simp[risN],rfl,t1,rfl⟩ ?_
  clear t1 t2 t5 d1 w2 hlt hi ts
  rintro n ih ts H ⟨i,hi,hi1,hi2,hris,rfl,t1,t7⟩
  refine FW.inLoop ?_;have w2:=zAh (n:=(i:Int)+1) (by omega) (by omega);have w3:IntKind.i64.wrap ((i:Int) - 1)=((i - 1:Nat):Int):=by rw[zAh (by omega) (by omega)]; omega
  by_cases hlt:i < l.length
  ·have d1:decide ((i:Int) < (l.length:Int))=true:=zT (by omega);have hx:=hidx i hlt;have hy:=hidx (i - 1) (by omega);simp only[Int.toNat_natCast]at hx hy;rw[zAe Jb.av l default hlt]at hx;rw[zAe Jb.av l default (by omega)]at hy;have hsucc:risN l (i+1)=(risN l i&&(decide (i=0)||decide ((l.getD (i - 1) default).id < (l.getD i default).id))):=rfl;rw[hris,Bool.true_and,zF (by omega),Bool.false_or]at hsucc
   generalize l.getD i default=j at hx hsucc
   generalize l.getD (i - 1) default=k at hy hsucc
   have hcj:=Jb.cells j;have hck:=Jb.cells k;rw[hcj]at hx;rw[hck]at hy;have hb1:(0<=(i:Int)/\(i:Int) < ((l.map Jb.av).length:Int)):=⟨by omega,by rw[zM]; omega⟩;have hb2:(0<=((i - 1:Nat):Int)/\((i - 1:Nat):Int) < ((l.map Jb.av).length:Int)):=⟨by omega,by rw[zM]; omega⟩
   generalize ((i - 1:Nat):Int)=i' at hy w3 hb2
   by_cases hjk:j.id<=k.id
   ·have d2:=zT hjk;rw[zF (by omega)]at hsucc;refine goN ?_;simp only[push_cast,seval,↓kw2,t1,t7,hlen,d1,hx,hy,w3,d2]
    repeat (first | refine⟨hb1,?_⟩ | refine⟨hb2,?_⟩)
    refine⟨_,rfl,zAa rfl (congrArg I ?_)⟩;rw[if_neg (fun h=>by rw[risN_le h (by omega)]at hsucc; cases hsucc)]
   ·have d2:=zF hjk;rw[zT (by omega)]at hsucc;refine goN ?_;simp only[push_cast,seval,↓kw2,t1,t7,hlen,d1,hx,hy,w3,d2,w2]
    repeat (first | refine⟨hb1,?_⟩ | refine⟨hb2,?_⟩)
    exact ih (n - 1) (by omega) _ _ ⟨i+1,by omega,by omega,.inl (by omega),hsucc,rfl,t1,rfl⟩
  ·have d1:decide ((i:Int) < (l.length:Int))=false:=zF (by omega);rw[if_pos (risN_le hris (by omega))];clear ih;refine goN ?_;simp only[push_cast,seval,↓kw2,t1,t7,hlen,d1];refine FW.loopInv (fun n ts H=>∃ i:Nat,i+n=l.length/\(l.drop i).any (oddT l)=l.any (oddT l)/\H=[.cells [I x.a,I x.b,I x.c,I x.boot,I x.free,I x.tries,I x.age,s]]/\ts 1=r/\ts 8=I (i:Int)) l.length
    ⟨0,by omega,rfl,rfl,t1,rfl⟩ ?_
   clear t1 t7 d1 w2 w3 hlt hi hi1 hi2 hris ts
   rintro n ih ts H ⟨i,hi,hf,rfl,t1,t8⟩
   refine FW.inLoop ?_;have w2:=zAh (n:=(i:Int)+1) (by omega) (by omega)
   by_cases hlt:i < l.length
   ·have d1:decide ((i:Int) < (l.length:Int))=true:=zT (by omega);have hx:=hidx i hlt;simp only[Int.toNat_natCast]at hx;rw[zAe Jb.av l default hlt]at hx;have hg:=hr.get i;have hal:=ha (l.getD i default) (by simp[List.getD,hlt]);rw[zAr default hlt,List.any_cons]at hf
    generalize l.getD i default=j at hx hg hf hal
    obtain⟨m1,m2,m3⟩:=IsSl.cell hg;have hcy:=Jb.cells j;rw[hcy]at hx;have hbb:(0<=(i:Int)/\(i:Int) < ((l.map Jb.av).length:Int)):=⟨by omega,by rw[zM]; omega⟩;have hT:=there18 hr hl hg hal;refine goN ?_;simp only[push_cast,seval,↓kw2,m1,m2,m3,t1,t8,hlen,d1,hx]
    repeat (first | refine⟨hbb,?_⟩)
    refine AC.pur hT ?_;cases ho:oddT l j
    ·rw[ho,Bool.false_or]at hf;refine goN ?_;simp only[push_cast,seval,↓kw2,t1,t8,w2];exact ih (n - 1) (by omega) _ _ ⟨i+1,by omega,hf,rfl,t1,rfl⟩
    ·rw[ho,Bool.true_or]at hf;rw[<- hf,if_pos rfl];refine goN ?_;simp only[push_cast,seval,↓kw2,t1,t8];exact⟨_,rfl,zAa rfl rfl⟩
   ·have d1:decide ((i:Int) < (l.length:Int))=false:=zF (by omega);rw[List.drop_eq_nil_of_le (by omega)]at hf;rw[<- hf];refine goN ?_;simp only[push_cast,seval,↓kw2,t1,t8,hlen,d1];exact⟨_,rfl,zAa rfl rfl⟩
end Go.Ab.Pd
