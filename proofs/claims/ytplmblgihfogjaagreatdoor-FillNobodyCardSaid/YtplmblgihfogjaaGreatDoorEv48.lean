/- A text of this claim. -/
import Derived.Test.YtplmblgihfogjaaGreatDoorEv47
set_option maxHeartbeats 40000000
set_option maxRecDepth 400000
set_option linter.all false
namespace Go.Ab.Pd
open Go.Proofs
structure Wt where
 job:Int
 tm:Int
 pl:Plc
 deriving DecidableEq
def Wt.av(w:Wt):AV:=WA w.job w.tm w.pl
def zWt:Wt:=⟨0,0,zPc⟩
def Sta.rdyV(s:Sta)(j:Jb):Bool:=decide (j.st=1)&&(!j.held&&!anyN (fun i=>!decide (getM (stM s.jobs) (j.after.getD i 0)=3)) j.after.length 0)
def Sta.leftV(s:Sta)(j:Jb):Int:=(s.c.cls.getD j.cls.toNat default).d - cntR s.jobs j.user j.cls
def Sta.eligV(s:Sta)(j:Jb):Bool:=s.rdyV j&&decide (0 < s.leftV j)
def Sta.jobN(s:Sta)(id:Int):Jb:=if findN s.jobs id < 0 then default else s.jobs.getD (findN s.jobs id).toNat default
def Sta.waits(s:Sta)(id:Int):Bool:=!decide (findN s.jobs id < 0)&&decide ((s.jobN id).st=1)
def Sta.prom(s:Sta)(id:Int)(w:Wt):Bool :=
 if w.job=0 then decide (w=zWt) else s.waits w.job&&(!decide (w.job=id)&&(!decide (w.tm < s.now)&&(!decide (1099511627776 < w.tm)&&(decide (isE s.c.a s.c.b s.c.c (s.jobN w.job).w w.pl=0)&&isV s.c.a s.c.b s.c.c (s.jobN w.job).w w.pl))))
def Sta.endJ(s:Sta)(j:Jb):Int:=s.now+(s.c.boot+j.wall+s.c.free)
def Sta.avoid(s:Sta)(j:Jb)(w:Wt):Bool:=!decide (w.job=0)&&decide (w.tm < s.endJ j)
def Sta.capped(s:Sta)(j:Jb)(w:Wt):Bool:=!decide (w.job=0)&&(decide ((s.jobN w.job).user=j.user)&&(decide ((s.jobN w.job).cls=j.cls)&&decide (s.leftV j < 2)))
def Sta.freeW(s:Sta)(j:Jb)(w:Wt):List Plc:=(wholeL s.c.a s.c.b s.c.c j.w).filter fun p=>s.clear p s.now (s.endJ j)&&(!s.avoid j w||zEu s.c.a s.c.b s.c.c p w.pl)
theorem momL_now{s:Sta}(f:s.fine):∃ L,s.momL=s.now::L/\∀ t∈L,s.now < t:=by
 have h1:=momL_sorted s;have h2:s.now∈s.momL:=momL_mem.2 (.inl rfl);have h3:=moms_rng f;cases hL:s.momL with
 | nil=>rw[hL]at h2; cases h2
 | cons x L =>
  rw[hL]at h1 h2 h3;obtain⟨q1,q2⟩:=List.pairwise_cons.1 h1;have hx:=(h3 x (by simp)).1
  rcases List.mem_cons.1 h2 with e | e
  ·exact⟨L,by rw[e],fun t ht=>by rw[e]; exact q1 t ht⟩
  ·have:=q1 _ e; omega
theorem freeW_0{s:Sta}(j:Jb):s.freeW j zWt=s.freeP j.w s.now (s.endJ j):=by
 unfold Sta.freeW Sta.freeP;refine List.filter_congr fun p _=>?_
 show(s.clear p s.now (s.endJ j)&&(!(!decide ((0:Int)=0)&&_)||_))=_;simp[Sta.clear]
end Go.Ab.Pd
