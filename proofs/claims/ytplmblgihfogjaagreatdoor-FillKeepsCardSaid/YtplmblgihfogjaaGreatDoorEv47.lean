/- A text of this claim. -/
import Derived.Test.YtplmblgihfogjaaGreatDoorEv46
set_option maxHeartbeats 40000000
set_option maxRecDepth 400000
set_option linter.all false
namespace Go.Ab.Pd
open Go.Proofs
theorem Jb.same_refl(j:Jb):j.same j=true:=by
 unfold Jb.same;simp
theorem sameJ_refl:∀ l:List Jb,sameJ l l=true
 | []=>rfl
 | j::l=>by rw[sameJ_cons,Jb.same_refl,sameJ_refl l]; rfl
theorem rising{f:Nat->Int}{n:Nat}(h:∀ i,0 < i->i < n->f (i - 1) < f i):∀ {a b:Nat},a < b->b < n->f a < f b:=by
 intro a b hab hb
 induction b with
 | zero=>omega
 | succ b ih =>
  have h1:=h (b+1) (by omega) hb;rw[Nat.add_sub_cancel]at h1
  by_cases e:a=b
  ·subst e; exact h1
  ·have:=ih (by omega) (by omega);omega
theorem parts_rise{s:Sta}(h:s.partsV=true){a b:Nat}(hab:a < b)(hb:b < s.parts.length):(s.parts.getD a default).job < (s.parts.getD b default).job:=by
 refine rising (f:=fun i=>(s.parts.getD i default).job) (n:=s.parts.length) (fun i h0 hi=>?_) hab hb;have h1:=(parts_no h i hi).1;unfold Sta.odd1 at h1;rw[Bool.or_eq_false_iff]at h1;have h2:=h1.1;rw[zT h0,Bool.true_and,decide_eq_false_iff_not]at h2;omega
theorem jobs_rise{l:List Jb}:∀ {n:Nat},risN l n=true->∀ i,0 < i->i < n->(l.getD (i - 1) default).id < (l.getD i default).id
 | 0,_,i,_,hi=>by omega
 | n+1,h,i,h0,hi=>by
  unfold risN at h;simp only[zA,Bool.or_eq_true,decide_eq_true_eq]at h
  by_cases e:i=n
  ·subst e
   rcases h.2 with h2 | h2
   ·omega
   ·exact h2
  ·exact jobs_rise h.1 i h0 (by omega)
theorem slot_has{s:Sta}{p:Prt}(hp:p∈s.parts):(⟨p.job,p.pl,s.now,s.ends p⟩:Sl4)∈s.slots:=by
 unfold Sta.slots;exact List.mem_append_left _ (List.mem_map.2 ⟨p,hp,rfl⟩)
def upJ(g:Jb->Jb):List Jb->Nat->List Jb
 | [],_=>[]
 | j::l,0=>g j::l
 | j::l,n+1=>j::upJ g l n
theorem upJ_len(g:Jb->Jb):∀(l:List Jb) (n:Nat),(upJ g l n).length=l.length
 | [],_=>rfl
 | j::l,0=>rfl
 | j::l,n+1=>congrArg (·+1) (upJ_len g l n)
theorem upJ_get(g:Jb->Jb):∀(l:List Jb) (n i:Nat),(upJ g l n).getD i default=if i=n/\i < l.length then g (l.getD i default) else l.getD i default
 | [],n,i=>by simp[upJ]
 | j::l,0,0=>by simp[upJ]
 | j::l,0,i+1=>by simp[upJ]
 | j::l,n+1,0=>by simp[upJ]
 | j::l,n+1,i+1=>by
  have:=upJ_get g l n i;simpa[upJ]using this
theorem upJ_mem{g:Jb->Jb}:∀ {l:List Jb} {n:Nat} {j:Jb},j∈upJ g l n->j∈l\/(n < l.length/\j=g (l.getD n default))
 | [],n,j,h=>by cases h
 | x::l,0,j,h=>by
  rcases List.mem_cons.1 h with rfl | h
  ·exact .inr ⟨by simp,by simp⟩
  ·exact .inl (List.mem_cons_of_mem _ h)
 | x::l,n+1,j,h=>by
  rcases List.mem_cons.1 h with rfl | h
  ·exact .inl (by simp)
  ·rcases upJ_mem h with h | ⟨h1,h2⟩
   ·exact .inl (List.mem_cons_of_mem _ h)
   ·exact .inr ⟨by simp; omega,by simpa using h2⟩
section
variable {g:Jb->Jb} (hid:∀ j,(g j).id=j.id)
include hid
theorem upJ_id(l:List Jb)(n i:Nat):((upJ g l n).getD i default).id=(l.getD i default).id:=by
 rw[upJ_get]; split
 ·exact hid _
 ·rfl
theorem upJ_find(l:List Jb)(n:Nat)(id:Int):findN (upJ g l n) id=findN l id:=by
 unfold findN;rw[upJ_len,show(fun i=>decide (((upJ g l n).getD i default).id=id))=fun i=>decide ((l.getD i default).id=id) from funext fun i=>by rw[upJ_id hid]]
theorem risU(l:List Jb)(n:Nat):∀ i,risN (upJ g l n) i=risN l i
 | 0=>rfl
 | i+1=>by
  unfold risN;rw[risU l n i,upJ_id hid,upJ_id hid]
end
theorem anyU(g:Jb->Jb)(f:Jb->Bool)(hf:∀ j,f (g j)=f j):∀(l:List Jb) (n:Nat),(upJ g l n).any f=l.any f
 | [],_=>rfl
 | j::l,0=>by
  show(f (g j)||l.any f)=_;rw[hf]; rfl
 | j::l,n+1=>by
  show(f j||(upJ g l n).any f)=_;rw[anyU g f hf l n]; rfl
theorem settle_no:∀ {l:List Jb} {M:MS Int},sameJ (zBu M l) l=true->zBu M l=l/\∀ j∈l,lostJ M j=false
 | [],M,_=>⟨rfl,fun j hj=>by cases hj⟩
 | j::l,M,h=>by
  unfold zBu at h ⊢;cases hl:lostJ M j
  ·rw[hl,if_neg (by decide),sameJ_cons,zA]at h;rw[if_neg (by decide)];obtain⟨q1,q2⟩:=settle_no h.2;exact⟨by rw[q1],fun x hx=>by
    rcases List.mem_cons.1 hx with rfl | hx
    ·exact hl
    ·exact q2 x hx⟩
  ·rw[hl,if_pos rfl,sameJ_cons,zA]at h;have h1:=h.1;unfold lostJ at hl;simp only[zA,decide_eq_true_eq]at hl;unfold Jb.same Jb.off at h1;simp only[zA,decide_eq_true_eq]at h1;have:=h1.1.1.2;omega
theorem settle_id:∀ {l:List Jb} {M:MS Int},(∀ j∈l,lostJ M j=false)->zBu M l=l
 | [],M,_=>rfl
 | j::l,M,h=>by
  unfold zBu;rw[if_neg (by rw[h j (by simp)]; decide),settle_id fun x hx=>h x (List.mem_cons_of_mem _ hx)]
theorem jobsU{x:Cfg}{l:List Jb}{now next:Int}{n:Nat}{g:Jb->Jb}(hid:∀ j,(g j).id=j.id)(haf:∀ j,(g j).after=j.after)(hca:∀ j,(g j).came=j.came)(h:jobsV x l now next=true)(hc:n < l.length->(g (l.getD n default)).chk x=0)
  (hlo:(∀ j∈l,lostJ (stM l) j=false)->∀ j∈upJ g l n,lostJ (stM (upJ g l n)) j=false):jobsV x (upJ g l n) now next=true:=by
 have ht:=jobs_tbl h;obtain⟨t1,t2,t3,t4,t5⟩:=tbl_0 ht;have ho:oddT (upJ g l n)=oddT l:=funext fun j=>by
  unfold oddT;rw[show(fun i=>!isJ (upJ g l n) (j.after.getD i 0))=fun i=>!isJ l (j.after.getD i 0) from funext fun i=>by unfold isJ; rw[upJ_find hid]]
 have hT:tblE x (upJ g l n)=0:=by
  unfold tblE;have hk:chkL x (upJ g l n)=0:=chkL_0 fun j hj=>by
   rcases upJ_mem hj with hj | ⟨hn,rfl⟩
   ·exact tbl_chk ht j hj
   ·exact hc hn
  have ha:(upJ g l n).any (oddT (upJ g l n))=false:=by
   rw[ho,anyU g _ (fun j=>by unfold oddT; rw[haf]),t5]
  rw[if_pos t1,if_neg (by rw[upJ_len]; omega),if_pos hk,if_pos (by rw[upJ_len,risU hid]; exact t4),if_neg (by rw[ha]; decide)]
 unfold jobsV at h ⊢;simp only[zA,decide_eq_true_eq,Bool.not_eq_true']at h ⊢;obtain⟨_,q1,q2⟩:=h;obtain⟨s1,s2⟩:=settle_no q1;rw[s1]at q2;rw[settle_id (hlo s2)];refine⟨hT,sameJ_refl _,?_⟩;rw[upJ_len,show(fun i=>lateJ now next ((upJ g l n).getD i default))=fun i=>lateJ now next (l.getD i default) from funext fun i=>by
  rw[upJ_get]; split
  ·unfold lateJ; rw[hid,hca]
  ·rfl]
 exact q2
def Sta.up(s:Sta)(g:Jb->Jb)(n:Nat):Sta:={ s with jobs:=upJ g s.jobs n,js:=.isl ((upJ g s.jobs n).map Jb.av) }
theorem up_good{s:Sta}(h:s.good){g:Jb->Jb}(hg:∀ j,j.good->(g j).good)(n:Nat):(s.up g n).good:=by
 refine⟨h.cs,⟨.inl rfl,fun j hj=>?_⟩,h.ps,h.ks,h.ds,h.hs,h.us⟩
 rcases upJ_mem hj with hj | ⟨hn,rfl⟩
 ·exact h.js.2 j hj
 ·exact hg _ (h.js.get n)
theorem up_lim{s:Sta}(h:s.lim)(g:Jb->Jb)(n:Nat):(s.up g n).lim:=⟨by show(upJ g s.jobs n).length<=_; rw[upJ_len]; exact h.jl,h.pl,h.kl,h.dl,h.hl,h.ul⟩
theorem up_job{s:Sta}{g:Jb->Jb}(hid:∀ j,(g j).id=j.id){n:Nat}(hn:(s.jobs.getD n default).st=1){p:Prt}(hp:s.part p=true):(s.up g n).jobOf p=s.jobOf p:=by
 have h2:¬(s.jobOf p).st=1:=by
  unfold Sta.part at hp;simp only[zA]at hp;have hq:=hp.2
  intro e
  rw[e]at hq
  split at hq
  ·simp at hq
  ·simp at hq
 unfold Sta.jobOf at *;show(if findN (upJ g s.jobs n) p.job < 0 then default else (upJ g s.jobs n).getD (findN (upJ g s.jobs n) p.job).toNat default)=_;rw[upJ_find hid]
 split
 ·rfl
 ·rename_i hf;rw[if_neg hf]at h2;rw[upJ_get,if_neg]
  rintro⟨rfl,_⟩
  exact h2 hn
theorem up_ends{s:Sta}{g:Jb->Jb}(hid:∀ j,(g j).id=j.id){n:Nat}(hn:(s.jobs.getD n default).st=1){p:Prt}(hp:s.part p=true):(s.up g n).ends p=s.ends p:=by
 unfold Sta.ends;rw[up_job hid hn hp]; rfl
theorem up_part{s:Sta}{g:Jb->Jb}(hid:∀ j,(g j).id=j.id){n:Nat}(hn:(s.jobs.getD n default).st=1){p:Prt}(hp:s.part p=true):(s.up g n).part p=true:=by
 have hj:=up_job hid hn hp;rw[<- hp];have he:=up_ends hid hn hp;have hi:(s.up g n).isJob p=s.isJob p:=by
  show decide (0<=findN (upJ g s.jobs n) p.job)=_;rw[upJ_find hid]; rfl
 unfold Sta.part;rw[hj,he,hi];rfl
theorem get_put_ne{κ:Type}[DecidableEq κ][Inhabited κ]{M:MS κ}{k k':κ}(v:Int)(hne:¬k'=k):getM (putM M k v) k'=getM M k':=by
 have key:∀ l:List (Nat × κ × Int),(∀ i,fndM k l=some i->∀ e:Nat × κ × Int,e.2.1=k->fndM k' (l.set i e)=fndM k' l)/\(∀ e:Nat × κ × Int,e.2.1=k->fndM k' (l++[e])=fndM k' l):=by
  intro l
  induction l with
  | nil=>exact⟨fun i h=>(by cases h),fun e he=>by simp[fndM,he,hne]⟩
  | cons x l ih =>
   constructor
   ·intro i h e he
    unfold fndM at h
    split at h
    ·rename_i hx;cases h;rw[List.set_cons_zero];unfold fndM;rw[he,if_neg hne,if_neg (fun e'=>hne (e'.trans hx.symm))]
    ·cases hf:fndM k l with
     | none=>rw[hf]at h; cases h
     | some j =>
      rw[hf]at h;cases h;rw[List.set_cons_succ];unfold fndM;rw[ih.1 j hf e he]
   ·intro e he
    rw[List.cons_append];unfold fndM;rw[ih.2 e he]
 unfold putM;cases hf:fndM k M.1 with
 | none =>
  unfold getM;simp only;rw[(key M.1).2 _ rfl];cases hf':fndM k' M.1 with
  | none=>rfl
  | some i =>
   have:=(fndM_lt hf').1;simp[List.getD,zL this]
 | some i =>
  unfold getM;simp only;rw[(key M.1).1 i hf _ rfl];cases hf':fndM k' M.1 with
  | none=>rfl
  | some j =>
   have h1:=fndM_lt hf';have h2:=fndM_lt hf;have hij:i≠j:=fun e=>hne (by have a:=h1.2 default; have b:=h2.2 default; rw[<- e]at a; exact a.symm.trans b)
   simp only;rw[List.getD_eq_getElem?_getD,zQ hij,<- List.getD_eq_getElem?_getD]
def statR(l:List Jb)(id:Int):Int:=if findN l id < 0 then 0 else (l.getD (findN l id).toNat default).st
def neverR(l:List Jb)(j:Jb):Bool:=decide (j.st=1)&&anyN (fun i=>decide (3 < statR l (j.after.getD i 0))) j.after.length 0
theorem stM_not:∀ {l:List Jb} {M:MS Int} {id:Int},(∀ j∈l,¬j.id=id)->getM (l.foldl (fun M j=>putM M j.id j.st) M) id=getM M id
 | [],M,id,_=>rfl
 | j::l,M,id,h=>by
  rw[List.foldl_cons,stM_not fun x hx=>h x (by simp[hx]),get_put_ne _ (fun e=>h j (by simp) e.symm)]
theorem stM_in:∀ {l:List Jb} {M:MS Int},l.Pairwise (fun x y=>¬x.id=y.id)->∀ j∈l,getM (l.foldl (fun M j=>putM M j.id j.st) M) j.id=j.st
 | [],M,_,j,hj=>by cases hj
 | x::l,M,hp,j,hj=>by
  rw[List.pairwise_cons]at hp;rw[List.foldl_cons]
  rcases List.mem_cons.1 hj with rfl | hj
  ·rw[stM_not fun y hy e=>hp.1 y hy e.symm,get_put]
  ·exact stM_in hp.2 j hj
theorem findN_no{l:List Jb}{id:Int}(h:findN l id < 0):∀ j∈l,¬j.id=id:=by
 intro j hj e
 obtain⟨i,hi,rfl⟩:=List.getElem_of_mem hj;have h1:=zDw (fun i=>decide ((l.getD i default).id=id)) l.length 0;unfold findN at h;rw[zF (by omega)]at h1;have h2:=(anyN_iff (pr:=fun i=>decide ((l.getD i default).id=id)) (n:=l.length) (i:=0)).2 ⟨i,by omega,by omega,zT (p:=(l.getD i default).id=id) (by rw[show l.getD i default=l[i] by simp[List.getD,hi]]; exact e)⟩;rw[<- h1]at h2;cases h2
theorem stM_stat{l:List Jb}(hp:l.Pairwise fun x y=>¬x.id=y.id)(id:Int):getM (stM l) id=statR l id:=by
 unfold stM statR
 by_cases h:findN l id < 0
 ·rw[if_pos h,stM_not (findN_no h)];rfl
 ·rw[if_neg h];obtain⟨h1,h2,h3⟩:=zEm h;have hm:l.getD (findN l id).toNat default∈l:=by
   rw[show l.getD (findN l id).toNat default=l[(findN l id).toNat] by simp[List.getD,h2]];exact List.getElem_mem h2
  have:=stM_in (M:=([],0)) hp _ hm;rw[h3]at this;exact this
theorem lost_never{l:List Jb}(hp:l.Pairwise fun x y=>¬x.id=y.id)(j:Jb):lostJ (stM l) j=neverR l j:=by
 unfold lostJ neverR;simp only[stM_stat hp]
theorem ris_ne{l:List Jb}(h:risN l l.length=true):l.Pairwise fun x y=>¬x.id=y.id:=by
 rw[List.pairwise_iff_getElem]
 intro i j hi hj hij e
 have:=rising (f:=fun i=>(l.getD i default).id) (n:=l.length) (jobs_rise h) hij hj;simp only[List.getD,hi,hj,List.getElem?_eq_getElem,Option.getD_some]at this;omega
def isCnt(u c:Int)(j:Jb):Bool:=decide (j.st=2)&&(decide (j.user=u)&&decide (j.cls=c))
def cntR(l:List Jb)(u c:Int):Int:=((l.filter (isCnt u c)).length:Int)
theorem cntR_cons(j:Jb)(l:List Jb)(u c:Int):cntR (j::l) u c=(if isCnt u c j=true then 1 else 0)+cntR l u c:=by
 unfold cntR;rw[List.filter_cons]
 split
 ·rw[List.length_cons]; omega
 ·omega
theorem cntR_le(l:List Jb)(u c:Int):0<=cntR l u c/\cntR l u c<=l.length:=by
 unfold cntR;have:=List.length_filter_le (isCnt u c) l;omega
theorem cntR_0{l:List Jb}{u c:Int}(h:∀ j∈l,isCnt u c j=false):cntR l u c=0:=by
 unfold cntR;rw[List.filter_eq_nil_iff.2 fun j hj=>by rw[h j hj]; decide];rfl
theorem startG_iff{cls:List Cls}{P:Int->Bool}:∀ {l:List Jb} {M:MS (Int × Int)},(∀ k,0<=getM M k/\getM M k+l.length<=2^20) ->
  (startG cls P M l=true ↔ ∀ j∈l,j.st=2->P j.id=true/\getM M (j.user,j.cls)+cntR l j.user j.cls<=(cls.getD j.cls.toNat default).d)
 | [],M,_=>by simp[startG]
 | x::l,M,hM=>by
  unfold startG
  by_cases hx:x.st=2
  ·rw[if_pos hx];have hw:=hM (x.user,x.cls);rw[List.length_cons]at hw;have hwr:=zAl (n:=getM M (x.user,x.cls)+1) (by omega) (by omega);rw[hwr];have hM':∀ k,0<=getM (putM M (x.user,x.cls) (getM M (x.user,x.cls)+1)) k/\getM (putM M (x.user,x.cls) (getM M (x.user,x.cls)+1)) k+l.length<=2^20:=fun k=>by
    by_cases e:k=(x.user,x.cls)
    ·subst e;rw[get_put]; omega
    ·rw[get_put_ne _ e];have:=hM k;rw[List.length_cons]at this;omega
   have hval:∀ j:Jb,getM (putM M (x.user,x.cls) (getM M (x.user,x.cls)+1)) (j.user,j.cls)+cntR l j.user j.cls=getM M (j.user,j.cls)+cntR (x::l) j.user j.cls:=fun j=>by
    rw[cntR_cons]
    by_cases e:(j.user,j.cls)=(x.user,x.cls)
    ·rw[e,get_put];have h1:=congrArg Prod.fst e;have h2:=congrArg Prod.snd e;simp only at h1 h2;rw[if_pos (by unfold isCnt; simp[hx,h1,h2])];omega
    ·rw[get_put_ne _ e,if_neg]
     ·omega
     ·unfold isCnt;simp only[hx,decide_true,Bool.true_and,zA,decide_eq_true_eq]
      intro h
      exact e (by rw[h.1,h.2])
   rw[zA,startG_iff hM',Bool.not_eq_true',Bool.or_eq_false_iff,decide_eq_false_iff_not,Bool.not_eq_false'];have hc:=cntR_le l x.user x.cls;have hcx:cntR (x::l) x.user x.cls=1+cntR l x.user x.cls:=by
    rw[cntR_cons,if_pos (by unfold isCnt; simp[hx])]
   constructor
   ·rintro⟨⟨h1,h2⟩,h3⟩ j hj hst
    rcases List.mem_cons.1 hj with rfl | hj
    ·refine⟨h2,?_⟩
     by_cases he:∃ y∈l,isCnt j.user j.cls y=true
     ·obtain⟨y,hy,hyc⟩:=he;unfold isCnt at hyc;simp only[zA,decide_eq_true_eq]at hyc;have:=(h3 y hy hyc.1).2;rw[hval,hyc.2.1,hyc.2.2]at this;exact this
     ·have h0:cntR l j.user j.cls=0:=cntR_0 fun y hy=>by
       cases hb:isCnt j.user j.cls y
       ·rfl
       ·exact absurd ⟨y,hy,hb⟩ he
      omega
    ·have:=h3 j hj hst;rw[hval]at this;exact this
   ·intro h
    have h0:=h x (by simp) hx;refine⟨⟨by omega,h0.1⟩,fun j hj hst=>?_⟩;have:=h j (by simp[hj]) hst;rw[hval];exact this
  ·rw[if_neg hx,startG_iff fun k=>by have:=hM k; rw[List.length_cons]at this; omega];have hval:∀ j:Jb,cntR (x::l) j.user j.cls=cntR l j.user j.cls:=fun j=>by
    rw[cntR_cons,if_neg (by unfold isCnt; simp[hx])];omega
   constructor
   ·intro h j hj hst
    rcases List.mem_cons.1 hj with rfl | hj
    ·exact absurd hst hx
    ·rw[hval]; exact h j hj hst
   ·intro h j hj hst
    have:=h j (by simp[hj]) hst;rw[hval]at this;exact this
def oddS(cls:List Cls)(P:Int->Bool)(l:List Jb)(j:Jb):Bool:=decide (j.st=2)&&(!P j.id||decide ((cls.getD j.cls.toNat default).d < cntR l j.user j.cls))
theorem started_ref{cls:List Cls}{P:Int->Bool}{l:List Jb}(hl:l.length<=2^16):startG cls P ([],0) l=!anyN (fun i=>oddS cls P l (l.getD i default)) l.length 0:=by
 have h0:∀ k,getM (([],0):MS (Int × Int)) k=0:=fun k=>rfl
 rw[Bool.eq_iff_iff,startG_iff fun k=>by rw[h0]; omega,Bool.not_eq_true',Bool.eq_false_iff,Ne,anyN_iff]
 constructor
 ·rintro h ⟨i,_,hi,ho⟩
  have hi:i < l.length:=by omega
  rw[show l.getD i default=l[i] by simp[List.getD,hi]]at ho;unfold oddS at ho;simp only[zA,decide_eq_true_eq,Bool.or_eq_true,Bool.not_eq_true']at ho;obtain⟨h1,h2⟩:=h l[i] (List.getElem_mem hi) ho.1;rw[h0]at h2
  rcases ho.2 with h3 | h3
  ·rw[h1]at h3; cases h3
  ·omega
 ·intro h j hj hst
  obtain⟨i,hi,rfl⟩:=List.getElem_of_mem hj;have hn:oddS cls P l l[i]=false:=by
   cases ho:oddS cls P l l[i]
   ·rfl
   ·exact absurd ⟨i,by omega,by omega,by rw[show l.getD i default=l[i] by simp[List.getD,hi]]; exact ho⟩ h
  unfold oddS at hn;rw[zT hst,Bool.true_and,Bool.or_eq_false_iff,Bool.not_eq_false',decide_eq_false_iff_not]at hn;rw[h0];exact⟨hn.1,by omega⟩
end Go.Ab.Pd
