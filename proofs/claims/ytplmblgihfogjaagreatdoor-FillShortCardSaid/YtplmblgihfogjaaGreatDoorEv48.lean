/- A text of this claim. -/
import Derived.Test.YtplmblgihfogjaaGreatDoorEv47
set_option maxHeartbeats 40000000
set_option maxRecDepth 400000
set_option linter.all false
namespace Go.Ab.Pd
open Go.Proofs
structure Wt where
 job:Int
 tm:Int
 pl:Plc
 deriving DecidableEq
def Wt.av(w:Wt):AV:=WA w.job w.tm w.pl
def zWt:Wt:=⟨0,0,zPc⟩
def Sta.rdyV(s:Sta)(j:Jb):Bool:=decide (j.st=1)&&(!j.held&&!anyN (fun i=>!decide (getM (stM s.jobs) (j.after.getD i 0)=3)) j.after.length 0)
def Sta.leftV(s:Sta)(j:Jb):Int:=(s.c.cls.getD j.cls.toNat default).d - cntR s.jobs j.user j.cls
def Sta.eligV(s:Sta)(j:Jb):Bool:=s.rdyV j&&decide (0 < s.leftV j)
def Sta.jobN(s:Sta)(id:Int):Jb:=if findN s.jobs id < 0 then default else s.jobs.getD (findN s.jobs id).toNat default
def Sta.waits(s:Sta)(id:Int):Bool:=!decide (findN s.jobs id < 0)&&decide ((s.jobN id).st=1)
def Sta.prom(s:Sta)(id:Int)(w:Wt):Bool :=
 if w.job=0 then decide (w=zWt) else s.waits w.job&&(!decide (w.job=id)&&(!decide (w.tm < s.now)&&(!decide (1099511627776 < w.tm)&&(decide (isE s.c.a s.c.b s.c.c (s.jobN w.job).w w.pl=0)&&isV s.c.a s.c.b s.c.c (s.jobN w.job).w w.pl))))
def Sta.endJ(s:Sta)(j:Jb):Int:=s.now+(s.c.boot+j.wall+s.c.free)
def Sta.avoid(s:Sta)(j:Jb)(w:Wt):Bool:=!decide (w.job=0)&&decide (w.tm < s.endJ j)
def Sta.capped(s:Sta)(j:Jb)(w:Wt):Bool:=!decide (w.job=0)&&(decide ((s.jobN w.job).user=j.user)&&(decide ((s.jobN w.job).cls=j.cls)&&decide (s.leftV j < 2)))
def Sta.freeW(s:Sta)(j:Jb)(w:Wt):List Plc:=(wholeL s.c.a s.c.b s.c.c j.w).filter fun p=>s.clear p s.now (s.endJ j)&&(!s.avoid j w||zEu s.c.a s.c.b s.c.c p w.pl)
theorem cnt_sh(u c w:Int):∀(l:List Jb) (n:Nat),cntR (shJ l n w) u c=cntR l u c
 | [],_=>rfl
 | j::l,0=>by
  show cntR (j.wth w::l) u c=_;rw[cntR_cons,cntR_cons]; rfl
 | j::l,n+1=>by
  show cntR (j::shJ l n w) u c=_;rw[cntR_cons,cntR_cons,cnt_sh]
theorem short_jobN{s:Sta}{id:Int}{w:Int}{i:Int}(hf:¬findN s.jobs id < 0)(hi:¬i=id):(s.short (findN s.jobs id).toNat w).jobN i=s.jobN i:=by
 unfold Sta.jobN;show(if findN (shJ s.jobs _ w) i < 0 then default else (shJ s.jobs _ w).getD (findN (shJ s.jobs _ w) i).toNat default)=_;rw[shJ_find]
 split
 ·rfl
 ·rename_i hq;rw[shJ_get,if_neg]
  rintro⟨e,_⟩
  have h1:=(zEm hf).2.2;have h2:=(zEm hq).2.2;rw[e,h1]at h2;exact hi h2.symm
theorem short_elig{s:Sta}{n:Nat}{w:Int}(j:Jb):(s.short n w).eligV (j.wth w)=s.eligV j:=by
 unfold Sta.eligV Sta.rdyV Sta.leftV;show((decide (j.st=1)&&(!j.held&&!anyN (fun i=>!decide (getM (stM (shJ s.jobs n w)) (j.after.getD i 0)=3)) j.after.length 0))&&decide (0 < (s.c.cls.getD j.cls.toNat default).d - cntR (shJ s.jobs n w) j.user j.cls))=_;rw[cnt_sh,show stM (shJ s.jobs n w)=stM s.jobs from stM_set w _ _ _]
theorem short_prom{s:Sta}{id:Int}{w':Int}(hf:¬findN s.jobs id < 0){w:Wt}(h:s.prom id w=true):(s.short (findN s.jobs id).toNat w').prom id w=true/\(¬w.job=0->(s.short (findN s.jobs id).toNat w').jobN w.job=s.jobN w.job):=by
 unfold Sta.prom at h ⊢
 by_cases h0:w.job=0
 ·rw[if_pos h0]at h ⊢;exact⟨h,fun e=>absurd h0 e⟩
 ·rw[if_neg h0]at h ⊢;have hne:¬w.job=id:=by
   simp only[zA,Bool.not_eq_true',decide_eq_false_iff_not]at h;exact h.2.1
  have hj:=short_jobN (w:=w') hf hne;have hw:(s.short (findN s.jobs id).toNat w').waits w.job=s.waits w.job:=by
   unfold Sta.waits;rw[hj];show(!decide (findN (shJ s.jobs _ w') w.job < 0)&&_)=_;rw[shJ_find]
  rw[hj,hw];exact⟨h,fun _=>rfl⟩
theorem short_freeW{s:Sta}(f:s.fine){id:Int}(hf:¬findN s.jobs id < 0){j:Jb}(hj:s.jobs.getD (findN s.jobs id).toNat default=j)(hst:j.st=1){w':Int}(h1:1<=w')(h2:w'<=j.wall)(w:Wt){p:Plc}(hp:p∈s.freeW j w) :
  p∈(s.short (findN s.jobs id).toNat w').freeW (j.wth w') w:=by
 have hn:(s.jobs.getD (findN s.jobs id).toNat default).st=1:=by rw[hj]; exact hst
 have xf:=short_fine f hn h1 (by rw[hj]; exact h2);obtain⟨q1,q2⟩:=List.mem_filter.1 hp;have hok:=((wholeL_mem (zFi f)).1 q1).1;have hcf:=f.cf;unfold Sta.config at hcf;simp only[zA,decide_eq_true_eq]at hcf;have hmay:=Cfg.chk_may hcf.1.1.1.1;unfold Cfg.may at hmay;simp only[zA,witV_t]at hmay;rw[zA]at q2;refine List.mem_filter.2 ⟨q1,?_⟩;rw[zA];refine⟨clear_less f xf (till:=s.endJ j) (by show s.now < s.now+(s.c.boot+w'+s.c.free); omega) (by show s.now+(s.c.boot+w'+s.c.free)<=s.now+(s.c.boot+j.wall+s.c.free); omega) rfl rfl rfl hok (fun y hy=>by rw[short_slots f hn]at hy; exact hy) (fun k hk=>hk) (fun k hk=>hk) q2.1,?_⟩;have h3:=q2.2;rw[Bool.or_eq_true,Bool.not_eq_true']at h3 ⊢
 rcases h3 with h3 | h3
 ·left;unfold Sta.avoid at h3 ⊢;rw[Bool.and_eq_false_iff]at h3 ⊢
  rcases h3 with h3 | h3
  ·exact .inl h3
  ·right;rw[decide_eq_false_iff_not]at h3 ⊢;show ¬w.tm < s.now+(s.c.boot+w'+s.c.free);have:¬w.tm < s.now+(s.c.boot+j.wall+s.c.free):=h3;omega
 ·exact .inr h3
end Go.Ab.Pd
