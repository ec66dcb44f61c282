/- A text of this claim. -/
import Derived.Test.YtplmblgihfogjaaGreatDoorEv47
set_option maxHeartbeats 40000000
set_option maxRecDepth 400000
set_option linter.all false
namespace Go.Ab.Pd
open Go.Proofs
structure Wt where
 job:Int
 tm:Int
 pl:Plc
 deriving DecidableEq
def Wt.av(w:Wt):AV:=WA w.job w.tm w.pl
def zWt:Wt:=⟨0,0,zPc⟩
def Sta.rdyV(s:Sta)(j:Jb):Bool:=decide (j.st=1)&&(!j.held&&!anyN (fun i=>!decide (getM (stM s.jobs) (j.after.getD i 0)=3)) j.after.length 0)
def Sta.leftV(s:Sta)(j:Jb):Int:=(s.c.cls.getD j.cls.toNat default).d - cntR s.jobs j.user j.cls
def Sta.eligV(s:Sta)(j:Jb):Bool:=s.rdyV j&&decide (0 < s.leftV j)
def Sta.jobN(s:Sta)(id:Int):Jb:=if findN s.jobs id < 0 then default else s.jobs.getD (findN s.jobs id).toNat default
def Sta.waits(s:Sta)(id:Int):Bool:=!decide (findN s.jobs id < 0)&&decide ((s.jobN id).st=1)
def Sta.prom(s:Sta)(id:Int)(w:Wt):Bool :=
 if w.job=0 then decide (w=zWt) else s.waits w.job&&(!decide (w.job=id)&&(!decide (w.tm < s.now)&&(!decide (1099511627776 < w.tm)&&(decide (isE s.c.a s.c.b s.c.c (s.jobN w.job).w w.pl=0)&&isV s.c.a s.c.b s.c.c (s.jobN w.job).w w.pl))))
def Sta.endJ(s:Sta)(j:Jb):Int:=s.now+(s.c.boot+j.wall+s.c.free)
def Sta.avoid(s:Sta)(j:Jb)(w:Wt):Bool:=!decide (w.job=0)&&decide (w.tm < s.endJ j)
def Sta.capped(s:Sta)(j:Jb)(w:Wt):Bool:=!decide (w.job=0)&&(decide ((s.jobN w.job).user=j.user)&&(decide ((s.jobN w.job).cls=j.cls)&&decide (s.leftV j < 2)))
def Sta.freeW(s:Sta)(j:Jb)(w:Wt):List Plc:=(wholeL s.c.a s.c.b s.c.c j.w).filter fun p=>s.clear p s.now (s.endJ j)&&(!s.avoid j w||zEu s.c.a s.c.b s.c.c p w.pl)
theorem cnt_hld(u c:Int)(b:Bool):∀(l:List Jb) (n:Nat),cntR (upJ (Jb.hld b) l n) u c=cntR l u c
 | [],_=>rfl
 | j::l,0=>by
  show cntR (j.hld b::l) u c=_;rw[cntR_cons,cntR_cons]; rfl
 | j::l,n+1=>by
  show cntR (j::upJ (Jb.hld b) l n) u c=_;rw[cntR_cons,cntR_cons,cnt_hld]
theorem held_elig{s:Sta}{n:Nat}(b:Bool)(j:Jb):(s.up (Jb.hld b) n).eligV (j.hld b)=(!b&&s.eligV (j.hld false))/\s.eligV j=(!j.held&&s.eligV (j.hld false)):=by
 have e1:stM (upJ (Jb.hld b) s.jobs n)=stM s.jobs:=stM_hld b _ _ _;unfold Sta.eligV Sta.rdyV Sta.leftV
 constructor
 ·show((decide (j.st=1)&&(!b&&!anyN (fun i=>!decide (getM (stM (upJ (Jb.hld b) s.jobs n)) (j.after.getD i 0)=3)) j.after.length 0))&&decide (0 < (s.c.cls.getD j.cls.toNat default).d - cntR (upJ (Jb.hld b) s.jobs n) j.user j.cls))=(!b&&((decide (j.st=1)&&(!false&&!anyN (fun i=>!decide (getM (stM s.jobs) (j.after.getD i 0)=3)) j.after.length 0))&&decide (0 < (s.c.cls.getD j.cls.toNat default).d - cntR s.jobs j.user j.cls)));rw[cnt_hld,e1];cases b <;> simp
 ·show((decide (j.st=1)&&(!j.held&&!anyN (fun i=>!decide (getM (stM s.jobs) (j.after.getD i 0)=3)) j.after.length 0))&&decide (0 < (s.c.cls.getD j.cls.toNat default).d - cntR s.jobs j.user j.cls))=(!j.held&&((decide (j.st=1)&&(!false&&!anyN (fun i=>!decide (getM (stM s.jobs) (j.after.getD i 0)=3)) j.after.length 0))&&decide (0 < (s.c.cls.getD j.cls.toNat default).d - cntR s.jobs j.user j.cls)));cases j.held <;> simp
end Go.Ab.Pd
