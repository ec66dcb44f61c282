/- A text of this claim. -/
import Derived.Test.YtplmblgihfogjaaGreatDoorEv46
set_option maxHeartbeats 40000000
set_option maxRecDepth 400000
set_option linter.all false
namespace Go.Ab.Pd
open Go.Proofs
theorem Jb.same_refl(j:Jb):j.same j=true:=by
 unfold Jb.same;simp
theorem sameJ_refl:∀ l:List Jb,sameJ l l=true
 | []=>rfl
 | j::l=>by rw[sameJ_cons,Jb.same_refl,sameJ_refl l]; rfl
def upJ(g:Jb->Jb):List Jb->Nat->List Jb
 | [],_=>[]
 | j::l,0=>g j::l
 | j::l,n+1=>j::upJ g l n
theorem upJ_len(g:Jb->Jb):∀(l:List Jb) (n:Nat),(upJ g l n).length=l.length
 | [],_=>rfl
 | j::l,0=>rfl
 | j::l,n+1=>congrArg (·+1) (upJ_len g l n)
theorem upJ_set(g:Jb->Jb):∀(l:List Jb) (n:Nat),upJ g l n=l.set n (g (l.getD n default))
 | [],_=>by simp[upJ]
 | j::l,0=>by simp[upJ]
 | j::l,n+1=>by simp[upJ,upJ_set g l n]
theorem upJ_get(g:Jb->Jb):∀(l:List Jb) (n i:Nat),(upJ g l n).getD i default=if i=n/\i < l.length then g (l.getD i default) else l.getD i default
 | [],n,i=>by simp[upJ]
 | j::l,0,0=>by simp[upJ]
 | j::l,0,i+1=>by simp[upJ]
 | j::l,n+1,0=>by simp[upJ]
 | j::l,n+1,i+1=>by
  have:=upJ_get g l n i;simpa[upJ]using this
theorem upJ_mem{g:Jb->Jb}:∀ {l:List Jb} {n:Nat} {j:Jb},j∈upJ g l n->j∈l\/(n < l.length/\j=g (l.getD n default))
 | [],n,j,h=>by cases h
 | x::l,0,j,h=>by
  rcases List.mem_cons.1 h with rfl | h
  ·exact .inr ⟨by simp,by simp⟩
  ·exact .inl (List.mem_cons_of_mem _ h)
 | x::l,n+1,j,h=>by
  rcases List.mem_cons.1 h with rfl | h
  ·exact .inl (by simp)
  ·rcases upJ_mem h with h | ⟨h1,h2⟩
   ·exact .inl (List.mem_cons_of_mem _ h)
   ·exact .inr ⟨by simp; omega,by simpa using h2⟩
section
variable {g:Jb->Jb} (hid:∀ j,(g j).id=j.id)
include hid
theorem upJ_id(l:List Jb)(n i:Nat):((upJ g l n).getD i default).id=(l.getD i default).id:=by
 rw[upJ_get]; split
 ·exact hid _
 ·rfl
theorem upJ_find(l:List Jb)(n:Nat)(id:Int):findN (upJ g l n) id=findN l id:=by
 unfold findN;rw[upJ_len,show(fun i=>decide (((upJ g l n).getD i default).id=id))=fun i=>decide ((l.getD i default).id=id) from funext fun i=>by rw[upJ_id hid]]
theorem risU(l:List Jb)(n:Nat):∀ i,risN (upJ g l n) i=risN l i
 | 0=>rfl
 | i+1=>by
  unfold risN;rw[risU l n i,upJ_id hid,upJ_id hid]
end
theorem anyU(g:Jb->Jb)(f:Jb->Bool)(hf:∀ j,f (g j)=f j):∀(l:List Jb) (n:Nat),(upJ g l n).any f=l.any f
 | [],_=>rfl
 | j::l,0=>by
  show(f (g j)||l.any f)=_;rw[hf]; rfl
 | j::l,n+1=>by
  show(f j||(upJ g l n).any f)=_;rw[anyU g f hf l n]; rfl
theorem settle_no:∀ {l:List Jb} {M:MS Int},sameJ (zBu M l) l=true->zBu M l=l/\∀ j∈l,lostJ M j=false
 | [],M,_=>⟨rfl,fun j hj=>by cases hj⟩
 | j::l,M,h=>by
  unfold zBu at h ⊢;cases hl:lostJ M j
  ·rw[hl,if_neg (by decide),sameJ_cons,zA]at h;rw[if_neg (by decide)];obtain⟨q1,q2⟩:=settle_no h.2;exact⟨by rw[q1],fun x hx=>by
    rcases List.mem_cons.1 hx with rfl | hx
    ·exact hl
    ·exact q2 x hx⟩
  ·rw[hl,if_pos rfl,sameJ_cons,zA]at h;have h1:=h.1;unfold lostJ at hl;simp only[zA,decide_eq_true_eq]at hl;unfold Jb.same Jb.off at h1;simp only[zA,decide_eq_true_eq]at h1;have:=h1.1.1.2;omega
theorem settle_id:∀ {l:List Jb} {M:MS Int},(∀ j∈l,lostJ M j=false)->zBu M l=l
 | [],M,_=>rfl
 | j::l,M,h=>by
  unfold zBu;rw[if_neg (by rw[h j (by simp)]; decide),settle_id fun x hx=>h x (List.mem_cons_of_mem _ hx)]
theorem jobsU{x:Cfg}{l:List Jb}{now next:Int}{n:Nat}{g:Jb->Jb}(hid:∀ j,(g j).id=j.id)(haf:∀ j,(g j).after=j.after)(hca:∀ j,(g j).came=j.came)(h:jobsV x l now next=true)(hc:n < l.length->(g (l.getD n default)).chk x=0)
  (hlo:(∀ j∈l,lostJ (stM l) j=false)->∀ j∈upJ g l n,lostJ (stM (upJ g l n)) j=false):jobsV x (upJ g l n) now next=true:=by
 have ht:=jobs_tbl h;obtain⟨t1,t2,t3,t4,t5⟩:=tbl_0 ht;have ho:oddT (upJ g l n)=oddT l:=funext fun j=>by
  unfold oddT;rw[show(fun i=>!isJ (upJ g l n) (j.after.getD i 0))=fun i=>!isJ l (j.after.getD i 0) from funext fun i=>by unfold isJ; rw[upJ_find hid]]
 have hT:tblE x (upJ g l n)=0:=by
  unfold tblE;have hk:chkL x (upJ g l n)=0:=chkL_0 fun j hj=>by
   rcases upJ_mem hj with hj | ⟨hn,rfl⟩
   ·exact tbl_chk ht j hj
   ·exact hc hn
  have ha:(upJ g l n).any (oddT (upJ g l n))=false:=by
   rw[ho,anyU g _ (fun j=>by unfold oddT; rw[haf]),t5]
  rw[if_pos t1,if_neg (by rw[upJ_len]; omega),if_pos hk,if_pos (by rw[upJ_len,risU hid]; exact t4),if_neg (by rw[ha]; decide)]
 unfold jobsV at h ⊢;simp only[zA,decide_eq_true_eq,Bool.not_eq_true']at h ⊢;obtain⟨_,q1,q2⟩:=h;obtain⟨s1,s2⟩:=settle_no q1;rw[s1]at q2;rw[settle_id (hlo s2)];refine⟨hT,sameJ_refl _,?_⟩;rw[upJ_len,show(fun i=>lateJ now next ((upJ g l n).getD i default))=fun i=>lateJ now next (l.getD i default) from funext fun i=>by
  rw[upJ_get]; split
  ·unfold lateJ; rw[hid,hca]
  ·rfl]
 exact q2
def Sta.up(s:Sta)(g:Jb->Jb)(n:Nat):Sta:={ s with jobs:=upJ g s.jobs n,js:=.isl ((upJ g s.jobs n).map Jb.av) }
theorem up_good{s:Sta}(h:s.good){g:Jb->Jb}(hg:∀ j,j.good->(g j).good)(n:Nat):(s.up g n).good:=by
 refine⟨h.cs,⟨.inl rfl,fun j hj=>?_⟩,h.ps,h.ks,h.ds,h.hs,h.us⟩
 rcases upJ_mem hj with hj | ⟨hn,rfl⟩
 ·exact h.js.2 j hj
 ·exact hg _ (h.js.get n)
theorem up_lim{s:Sta}(h:s.lim)(g:Jb->Jb)(n:Nat):(s.up g n).lim:=⟨by show(upJ g s.jobs n).length<=_; rw[upJ_len]; exact h.jl,h.pl,h.kl,h.dl,h.hl,h.ul⟩
def Jb.hld(b:Bool)(j:Jb):Jb:={ j with held:=b }
theorem hld_chk{x:Cfg}{j:Jb}(b:Bool)(hs:j.st=1)(h:j.chk x=0):(j.hld b).chk x=0:=by
 unfold Jb.chk at h
 split at h
 ·rename_i q1
  split at h
  ·rename_i q2
   split at h
   ·rename_i q3
    split at h
    ·rename_i q4
     split at h
     ·cases h
     ·rename_i q5;unfold Jb.chk;have p1:(j.hld b).plain x=true:=by
       unfold Jb.plain Jb.hld at *;simp only[zA]at *;obtain⟨⟨⟨⟨a1,a2⟩,a3⟩,a4⟩,a5⟩:=q1;refine⟨⟨⟨⟨a1,a2⟩,a3⟩,a4⟩,?_⟩;show(!b||decide (j.st=1))=true;rw[hs]; cases b <;> rfl
      rw[if_pos p1,if_pos (show(j.hld b).rises=true from q2),if_pos (show wchk (j.hld b).w.p (j.hld b).w.q (j.hld b).w.r=0 from q3),if_pos (show(j.hld b).fits x=true from q4),if_neg (show ¬(((j.hld b).cl x).b < (j.hld b).wall\/((j.hld b).cl x).c < (j.hld b).w.p*(j.hld b).w.q*(j.hld b).w.r) from q5)]
    ·cases h
   ·cases h
  ·cases h
 ·cases h
theorem stM_hld(b:Bool):∀(l:List Jb) (n:Nat) (M:MS Int),(upJ (Jb.hld b) l n).foldl (fun M j=>putM M j.id j.st) M=l.foldl (fun M j=>putM M j.id j.st) M
 | [],_,_=>rfl
 | j::l,0,M=>rfl
 | j::l,n+1,M=>stM_hld b l n _
theorem startG_hld(cls:List Cls)(P:Int->Bool)(b:Bool):∀(l:List Jb) (n:Nat) (M:MS (Int × Int)),startG cls P M (upJ (Jb.hld b) l n)=startG cls P M l
 | [],_,_=>rfl
 | j::l,0,M=>rfl
 | j::l,n+1,M=>by
  show startG cls P M (j::upJ (Jb.hld b) l n)=_;unfold startG
  split
  ·rw[startG_hld]
  ·rw[startG_hld]
theorem up_job{s:Sta}{g:Jb->Jb}(hid:∀ j,(g j).id=j.id){n:Nat}(hn:(s.jobs.getD n default).st=1){p:Prt}(hp:s.part p=true):(s.up g n).jobOf p=s.jobOf p:=by
 have h2:¬(s.jobOf p).st=1:=by
  unfold Sta.part at hp;simp only[zA]at hp;have hq:=hp.2
  intro e
  rw[e]at hq
  split at hq
  ·simp at hq
  ·simp at hq
 unfold Sta.jobOf at *;show(if findN (upJ g s.jobs n) p.job < 0 then default else (upJ g s.jobs n).getD (findN (upJ g s.jobs n) p.job).toNat default)=_;rw[upJ_find hid]
 split
 ·rfl
 ·rename_i hf;rw[if_neg hf]at h2;rw[upJ_get,if_neg]
  rintro⟨rfl,_⟩
  exact h2 hn
theorem up_ends{s:Sta}{g:Jb->Jb}(hid:∀ j,(g j).id=j.id){n:Nat}(hn:(s.jobs.getD n default).st=1){p:Prt}(hp:s.part p=true):(s.up g n).ends p=s.ends p:=by
 unfold Sta.ends;rw[up_job hid hn hp]; rfl
theorem up_part{s:Sta}{g:Jb->Jb}(hid:∀ j,(g j).id=j.id){n:Nat}(hn:(s.jobs.getD n default).st=1){p:Prt}(hp:s.part p=true):(s.up g n).part p=true:=by
 have hj:=up_job hid hn hp;rw[<- hp];have he:=up_ends hid hn hp;have hi:(s.up g n).isJob p=s.isJob p:=by
  show decide (0<=findN (upJ g s.jobs n) p.job)=_;rw[upJ_find hid]; rfl
 unfold Sta.part;rw[hj,he,hi];rfl
theorem up_fine{s:Sta}(f:s.fine){g:Jb->Jb}(hid:∀ j,(g j).id=j.id){n:Nat}(hn:(s.jobs.getD n default).st=1)(hjb:jobsV s.c (upJ g s.jobs n) s.now s.next=true)(hst:startG s.c.cls (hasPart s.parts) ([],0) (upJ g s.jobs n)=true):(s.up g n).fine:=by
 obtain⟨cf,jb,mr,pa,st,kp⟩:=f;refine⟨cf,hjb,mr,?_,hst,?_⟩
 ·rw[<- pa];unfold Sta.partsV;show(decide ((s.parts.length:Int)<=24)&&!anyN (fun i=>(s.up g n).odd1 i||(s.up g n).odd2 i) s.parts.length 0)=_;rw[anyN_congr (g:=fun i=>s.odd1 i||s.odd2 i) fun i hi=>?_];have e:(s.up g n).odd1 i=s.odd1 i:=by
   unfold Sta.odd1;show((decide (0 < i)&&decide ((s.parts.getD i default).job<=(s.parts.getD (i - 1) default).job))||!(s.up g n).part (s.parts.getD i default))=_;rw[up_part hid hn (part_at pa hi),part_at pa hi]
  show((s.up g n).odd1 i||s.odd2 i)=_;rw[e]
 ·rw[<- kp];have ht:∀ l b fr till,(s.up g n).taken l b fr till=s.taken l b fr till:=fun l b fr till=>by
   unfold Sta.taken;show(anyN (fun i=>tk1 s b fr till (l.getD i default)) l.length 0||anyN (fun i=>tk2 (s.up g n) b fr till (s.parts.getD i default)) s.parts.length 0)=_;rw[anyN_congr (f:=fun i=>tk2 (s.up g n) b fr till (s.parts.getD i default)) (g:=fun i=>tk2 s b fr till (s.parts.getD i default)) fun i hi=>by simp only[tk2]; rw[up_ends hid hn (part_at pa hi)]; rfl]
  unfold Sta.keepsV;show(decide ((s.keeps.length:Int)<=4)&&!anyN (fun i=>!(s.up g n).okK (s.keeps.getD i default) (s.last i) i) s.keeps.length 0)=_;rw[anyN_congr (g:=fun i=>!s.okK (s.keeps.getD i default) (s.last i) i) fun i hi=>by unfold Sta.okK; rw[ht]; rfl]
theorem held_fine{s:Sta}(f:s.fine){n:Nat}(b:Bool)(hn:(s.jobs.getD n default).st=1):(s.up (Jb.hld b) n).fine:=by
 have e:stM (upJ (Jb.hld b) s.jobs n)=stM s.jobs:=stM_hld b _ _ _;refine up_fine f (g:=Jb.hld b) (fun _=>rfl) hn (jobsU (g:=Jb.hld b) (fun _=>rfl) (fun _=>rfl) (fun _=>rfl) f.jb (fun hl=>hld_chk b hn (tbl_chk (jobs_tbl f.jb) _ ?_)) fun h j hj=>?_) ?_
 ·rw[show s.jobs.getD n default=s.jobs[n] by simp[List.getD,hl]];exact List.getElem_mem hl
 ·rw[e]
  rcases upJ_mem hj with hj | ⟨hl,rfl⟩
  ·exact h j hj
  ·have:=h _ (by rw[show s.jobs.getD n default=s.jobs[n] by simp[List.getD,hl]]; exact List.getElem_mem hl:s.jobs.getD n default∈s.jobs);exact this
 ·rw[startG_hld]; exact f.st
def isCnt(u c:Int)(j:Jb):Bool:=decide (j.st=2)&&(decide (j.user=u)&&decide (j.cls=c))
def cntR(l:List Jb)(u c:Int):Int:=((l.filter (isCnt u c)).length:Int)
theorem cntR_cons(j:Jb)(l:List Jb)(u c:Int):cntR (j::l) u c=(if isCnt u c j=true then 1 else 0)+cntR l u c:=by
 unfold cntR;rw[List.filter_cons]
 split
 ·rw[List.length_cons]; omega
 ·omega
theorem cntR_le(l:List Jb)(u c:Int):0<=cntR l u c/\cntR l u c<=l.length:=by
 unfold cntR;have:=List.length_filter_le (isCnt u c) l;omega
end Go.Ab.Pd
