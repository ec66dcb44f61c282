/- A text of this claim. -/
import Derived.Test.YtplmblgihfogjaaGreatDoorEv45
set_option maxHeartbeats 40000000
set_option maxRecDepth 400000
set_option linter.all false
namespace Go.Ab.Pd
open Go.Proofs
abbrev WA(id t:Int)(x:Plc):AV:=.agg [I id,I t,I x.x,I x.y,I x.z,I x.p,I x.q,I x.r,B x.s,B x.t,B x.u]
def Sta.freeP(s:Sta)(w:Wnt)(fr till:Int):List Plc:=(wholeL s.c.a s.c.b s.c.c w).filter (holdV s.c.a s.c.b s.c.c (s.busN fr till) (s.busL fr till))
def Sta.bestP(s:Sta)(w:Wnt)(fr till:Int):Plc:=minF s.c.a s.c.b s.c.c (scV s.c.a s.c.b s.c.c (s.busN fr till)) (s.freeP w fr till)
def zPc:Plc:=⟨0,0,0,0,0,0,false,false,false⟩
def Sta.clear(s:Sta)(p:Plc)(fr till:Int):Bool:=holdV s.c.a s.c.b s.c.c (s.busN fr till) (s.busL fr till) p
theorem tak_bit{n:Nat}(h1:1<=n)(h2:n<=12288)(g:Nat->List Slt)(fr till:Int)(i:Nat):zAy (takN n g fr till) i=(decide (i < n)&&!zFm fr till (g i)):=by
 unfold takN;rw[zEb (by omega) (fun k hk=>thL_rng k hk),Bool.eq_iff_iff,decide_eq_true_iff,thL_mem];simp
theorem calN_hit{s:Sta}(f:s.fine){fr till:Int}(hft:fr < till)(i:Nat):zFm fr till (s.calN i)=true ↔ ∀ x∈s.slots,inN s.c.a s.c.b s.c.c x i=true->¬x.slt.hits fr till:=by
 have hok:=(slots_okG f s.slots.length (i+1)).1 i (by omega);rw[List.take_length]at hok;unfold Sta.calN;rw[free_iff hft hok.1]
 constructor
 ·intro h x hx hi
  exact h _ (calF_mem.2 ⟨x,hx,hi,rfl⟩)
 ·intro h y hy
  obtain⟨x,hx,hi,rfl⟩:=calF_mem.1 hy;exact h x hx hi
theorem calL_hit{s:Sta}(f:s.fine){fr till:Int}(hft:fr < till)(i:Nat):zFm fr till (s.calL i)=true ↔ ∀ x∈s.slots,inL s.c.a s.c.b s.c.c x i=true->¬x.slt.hits fr till:=by
 have hok:=(slots_okG f s.slots.length (i+1)).2 i (by omega);rw[List.take_length]at hok;unfold Sta.calL;rw[free_iff hft hok.1]
 constructor
 ·intro h x hx hi
  exact h _ (calF_mem.2 ⟨x,hx,hi,rfl⟩)
 ·intro h y hy
  obtain⟨x,hx,hi,rfl⟩:=calF_mem.1 hy;exact h x hx hi
theorem clear_iff{s:Sta}(f:s.fine){fr till:Int}(hft:fr < till){p:Plc}(hp:p.ok s.c.a s.c.b s.c.c):s.clear p fr till=true ↔
  ((∀ k∈zAo s.c.a s.c.b s.c.c p.x p.y p.z p.p p.q p.r,¬k∈s.down++s.shut)/\∀ k∈zBh s.c.a s.c.b s.c.c p.x p.y p.z p.p p.q p.r p.s p.t p.u,¬k∈s.cut)/\∀ x∈s.slots,x.slt.hits fr till->zEu s.c.a s.c.b s.c.c p x.pl=true:=by
 obtain⟨n1,n2⟩:=nM_rng f;have hn:=nM_eq f;obtain⟨_,_,_,_,bN,bL⟩:=bus_chk f fr till;obtain⟨dn,dc⟩:=down_in f;have tN:=fun i=>tak_bit n1 (by omega) s.calN fr till i
 have tL:=fun i=>tak_bit (n:=3*s.nM) (by omega) (by omega) s.calL fr till i
 have oN:∀ k∈zAo s.c.a s.c.b s.c.c p.x p.y p.z p.p p.q p.r,0<=k/\k < (s.nM:Int):=fun k hk=>by rw[hn]; exact(zDc hp.1 hp.2.1 hk).2
 have oL:∀ k∈zBh s.c.a s.c.b s.c.c p.x p.y p.z p.p p.q p.r p.s p.t p.u,0<=k/\k < 3*(s.nM:Int):=fun k hk=>by rw[hn]; exact zDx hp.1 hp.2.1 k hk
 have hN:∀ k∈zAo s.c.a s.c.b s.c.c p.x p.y p.z p.p p.q p.r,(zAy (s.busN fr till) k.toNat=false ↔ ¬k∈s.down++s.shut/\∀ x∈s.slots,x.slt.hits fr till->¬k∈zAo s.c.a s.c.b s.c.c x.pl.x x.pl.y x.pl.z x.pl.p x.pl.q x.pl.r):=fun k hk=>by
  obtain⟨k0,k1⟩:=oN k hk;have hkk:((k.toNat:Nat):Int)=k:=by omega
  rw[bN,Bool.or_eq_false_iff,tN,zT (by omega),Bool.true_and,Bool.not_eq_false',calN_hit f hft];unfold Sta.downW;rw[zEb (by omega) dn,hkk,decide_eq_false_iff_not]
  constructor
  ·rintro⟨h1,h2⟩
   exact⟨h2,fun x hx hh hm=>h1 x hx (by unfold inN; rw[hkk]; exact zT hm) hh⟩
  ·rintro⟨h1,h2⟩
   exact⟨fun x hx hi hh=>h2 x hx hh (by unfold inN at hi; rw[hkk]at hi; exact of_decide_eq_true hi),h1⟩
 have hL:∀ k∈zBh s.c.a s.c.b s.c.c p.x p.y p.z p.p p.q p.r p.s p.t p.u,(zAy (s.busL fr till) k.toNat=false ↔ ¬k∈s.cut/\∀ x∈s.slots,x.slt.hits fr till->¬k∈zBh s.c.a s.c.b s.c.c x.pl.x x.pl.y x.pl.z x.pl.p x.pl.q x.pl.r x.pl.s x.pl.t x.pl.u):=fun k hk=>by
  obtain⟨k0,k1⟩:=oL k hk;have hkk:((k.toNat:Nat):Int)=k:=by omega
  rw[bL,Bool.or_eq_false_iff,tL,zT (by omega),Bool.true_and,Bool.not_eq_false',calL_hit f hft];unfold Sta.cutW;rw[zEb (by omega) dc,hkk,decide_eq_false_iff_not]
  constructor
  ·rintro⟨h1,h2⟩
   exact⟨h2,fun x hx hh hm=>h1 x hx (by unfold inL; rw[hkk]; exact zT hm) hh⟩
  ·rintro⟨h1,h2⟩
   exact⟨fun x hx hi hh=>h2 x hx hh (by unfold inL at hi; rw[hkk]at hi; exact of_decide_eq_true hi),h1⟩
 unfold Sta.clear holdV;rw[zA,List.all_eq_true,List.all_eq_true]
 constructor
 ·rintro⟨h1,h2⟩
  have e1:=fun k hk=>(hN k hk).1 (by simpa using h1 k hk)
  have e2:=fun k hk=>(hL k hk).1 (by simpa using h2 k hk)
  refine⟨⟨fun k hk=>(e1 k hk).1,fun k hk=>(e2 k hk).1⟩,fun x hx hh=>apart_iff.2 ⟨fun k hk=>(e1 k hk).2 x hx hh,fun k hk=>(e2 k hk).2 x hx hh⟩⟩
 ·rintro⟨⟨h1,h2⟩,h3⟩
  refine⟨fun k hk=>?_,fun k hk=>?_⟩
  ·have:=(hN k hk).2 ⟨h1 k hk,fun x hx hh=>(apart_iff.1 (h3 x hx hh)).1 k hk⟩;simpa using this
  ·have:=(hL k hk).2 ⟨h2 k hk,fun x hx hh=>(apart_iff.1 (h3 x hx hh)).2 k hk⟩;simpa using this
def pLn:Prt:=⟨1,⟨0,0,0,2,1,1,false,false,false⟩,2,1,10⟩
theorem line_whole(x:Plc):x∈wholeL 4 1 1 wOne ↔ x∈plL 4 1 1 wOne:=by
 rw[whole_mem,rawL,show wOne.turns=[wOne] from rfl,List.mem_flatMap];simp
theorem spE_of{s:Sta}{fr till:Int}(h1:s.now<=fr)(h2:fr < till)(h3:till<=1099511627776):s.spE fr till=false:=by
 unfold Sta.spE;simp only[Bool.or_eq_false_iff,decide_eq_false_iff_not];omega
def Jb.wth(j:Jb)(w:Int):Jb:={ j with wall:=w }
def shJ:List Jb->Nat->Int->List Jb
 | [],_,_=>[]
 | j::l,0,w=>j.wth w::l
 | j::l,n+1,w=>j::shJ l n w
theorem shJ_len:∀(l:List Jb) (n:Nat) (w:Int),(shJ l n w).length=l.length
 | [],_,_=>rfl
 | j::l,0,w=>rfl
 | j::l,n+1,w=>congrArg (·+1) (shJ_len l n w)
theorem shJ_set:∀(l:List Jb) (n:Nat) (w:Int),shJ l n w=l.set n ((l.getD n default).wth w)
 | [],_,_=>by simp[shJ]
 | j::l,0,w=>by simp[shJ]
 | j::l,n+1,w=>by simp[shJ,shJ_set l n w]
theorem shJ_get(w:Int):∀(l:List Jb) (n i:Nat),(shJ l n w).getD i default=if i=n/\i < l.length then (l.getD i default).wth w else l.getD i default
 | [],n,i=>by simp[shJ]
 | j::l,0,0=>by simp[shJ]
 | j::l,0,i+1=>by simp[shJ]
 | j::l,n+1,0=>by simp[shJ]
 | j::l,n+1,i+1=>by
  have:=shJ_get w l n i;simpa[shJ]using this
theorem shJ_id(l:List Jb)(n i:Nat)(w:Int):((shJ l n w).getD i default).id=(l.getD i default).id:=by
 rw[shJ_get]; split <;> rfl
theorem shJ_find(l:List Jb)(n:Nat)(w id:Int):findN (shJ l n w) id=findN l id:=by
 unfold findN;rw[shJ_len,show(fun i=>decide (((shJ l n w).getD i default).id=id))=fun i=>decide ((l.getD i default).id=id) from funext fun i=>by rw[shJ_id]]
theorem shJ_mem{w:Int}:∀ {l:List Jb} {n:Nat} {j:Jb},j∈shJ l n w->j∈l\/(n < l.length/\j=(l.getD n default).wth w)
 | [],n,j,h=>by cases h
 | x::l,0,j,h=>by
  rcases List.mem_cons.1 h with rfl | h
  ·exact .inr ⟨by simp,by simp⟩
  ·exact .inl (List.mem_cons_of_mem _ h)
 | x::l,n+1,j,h=>by
  rcases List.mem_cons.1 h with rfl | h
  ·exact .inl (by simp)
  ·rcases shJ_mem h with h | ⟨h1,h2⟩
   ·exact .inl (List.mem_cons_of_mem _ h)
   ·exact .inr ⟨by simp; omega,by simpa using h2⟩
theorem stM_set(w:Int):∀(l:List Jb) (n:Nat) (M:MS Int),(shJ l n w).foldl (fun M j=>putM M j.id j.st) M=l.foldl (fun M j=>putM M j.id j.st) M
 | [],_,_=>rfl
 | j::l,0,M=>rfl
 | j::l,n+1,M=>stM_set w l n _
theorem settle_set(w:Int):∀(l:List Jb) (n:Nat) (M:MS Int),zBu M (shJ l n w)=shJ (zBu M l) n w
 | [],_,_=>rfl
 | j::l,0,M=>by
  show zBu M (j.wth w::l)=_;unfold zBu;rw[show lostJ M (j.wth w)=lostJ M j from rfl]
  split <;> rfl
 | j::l,n+1,M=>by
  show zBu M (j::shJ l n w)=_;unfold zBu
  split
  ·exact congrArg (j.off::·) (settle_set w l n _)
  ·exact congrArg (j::·) (settle_set w l n _)
theorem same_wth(x y:Jb)(w:Int)(h:x.same y=true):(x.wth w).same (y.wth w)=true:=by
 unfold Jb.same Jb.wth at *;simp only[zA,decide_eq_true_eq,beq_iff_eq]at *;obtain⟨⟨⟨⟨⟨⟨⟨⟨⟨h1,h2⟩,h3⟩,h4⟩,h5⟩,h6⟩,h7⟩,h8⟩,h9⟩,h10⟩:=h;exact⟨⟨⟨⟨⟨⟨⟨⟨⟨h1,h2⟩,h3⟩,h4⟩,trivial⟩,h6⟩,h7⟩,h8⟩,h9⟩,h10⟩
theorem sameJ_set(w:Int):∀(l m:List Jb) (n:Nat),sameJ l m=true->sameJ (shJ l n w) (shJ m n w)=true
 | [],[],_,_=>rfl
 | [],_::_,_,h=>by cases h
 | _::_,[],_,h=>by cases h
 | x::l,y::m,n,h=>by
  rw[sameJ_cons,zA]at h;cases n with
  | zero =>
   show((x.wth w).same (y.wth w)&&sameJ l m)=true;rw[same_wth x y w h.1,h.2]; rfl
  | succ n =>
   show(x.same y&&sameJ (shJ l n w) (shJ m n w))=true;rw[h.1,sameJ_set w l m n h.2]; rfl
theorem chkL_0{x:Cfg}:∀ {l:List Jb},(∀ j∈l,j.chk x=0)->chkL x l=0
 | [],_=>rfl
 | j::l,h=>by
  unfold chkL;rw[if_pos (h j (by simp))];exact chkL_0 fun k hk=>h k (List.mem_cons_of_mem _ hk)
theorem chk_wth{x:Cfg}{j:Jb}{w:Int}(h:j.chk x=0)(h1:1<=w)(h2:w<=j.wall):(j.wth w).chk x=0:=by
 unfold Jb.chk at h
 split at h
 ·rename_i q1
  split at h
  ·rename_i q2
   split at h
   ·rename_i q3
    split at h
    ·rename_i q4
     split at h
     ·cases h
     ·rename_i q5;unfold Jb.chk;have p1:(j.wth w).plain x=true:=by
       unfold Jb.plain Jb.wth at *;simp only[zA,witV_t]at *;obtain⟨⟨⟨⟨⟨⟨⟨a1,a2⟩,a3⟩,a4⟩,a5⟩,a6⟩,a7⟩,a8⟩:=q1;exact⟨⟨⟨⟨⟨⟨⟨a1,a2⟩,a3⟩,⟨h1,by omega⟩⟩,a5⟩,a6⟩,a7⟩,a8⟩
      have p5:¬(((j.wth w).cl x).b < (j.wth w).wall\/((j.wth w).cl x).c < (j.wth w).w.p*(j.wth w).w.q*(j.wth w).w.r):=by
       show ¬((j.cl x).b < w\/(j.cl x).c < j.w.p*j.w.q*j.w.r);omega
      rw[if_pos p1,if_pos (show(j.wth w).rises=true from q2),if_pos (show wchk (j.wth w).w.p (j.wth w).w.q (j.wth w).w.r=0 from q3),if_pos (show(j.wth w).fits x=true from q4),if_neg p5]
    ·cases h
   ·cases h
  ·cases h
 ·cases h
theorem risN_set(l:List Jb)(n:Nat)(w:Int):∀ i,risN (shJ l n w) i=risN l i
 | 0=>rfl
 | i+1=>by
  unfold risN;rw[risN_set l n w i,shJ_id,shJ_id]
theorem any_set(f:Jb->Bool)(w:Int)(hf:∀ j,f (j.wth w)=f j):∀(l:List Jb) (n:Nat),(shJ l n w).any f=l.any f
 | [],_=>rfl
 | j::l,0=>by
  show(f (j.wth w)||l.any f)=_;rw[hf]; rfl
 | j::l,n+1=>by
  show(f j||(shJ l n w).any f)=_;rw[any_set f w hf l n]; rfl
theorem tbl_set{x:Cfg}{l:List Jb}{n:Nat}{w:Int}(h:tblE x l=0)(h1:1<=w)(h2:w<=(l.getD n default).wall):tblE x (shJ l n w)=0:=by
 obtain⟨q1,q2,q3,q4,q5⟩:=tbl_0 h;unfold tblE;have hc:chkL x (shJ l n w)=0:=chkL_0 fun j hj=>by
  rcases shJ_mem hj with hj | ⟨hn,rfl⟩
  ·exact tbl_chk h j hj
  ·refine chk_wth (tbl_chk h _ ?_) h1 h2;rw[show l.getD n default=l[n] by simp[List.getD,hn]];exact List.getElem_mem hn
 have ho:oddT (shJ l n w)=oddT l:=funext fun j=>by
  unfold oddT;rw[show(fun i=>!isJ (shJ l n w) (j.after.getD i 0))=fun i=>!isJ l (j.after.getD i 0) from funext fun i=>by unfold isJ; rw[shJ_find]]
 have ha:(shJ l n w).any (oddT (shJ l n w))=false:=by
  rw[ho,any_set _ w (fun j=>rfl),q5]
 rw[if_pos q1,if_neg (by rw[shJ_len]; omega),if_pos hc,if_pos (by rw[shJ_len,risN_set]; exact q4),if_neg (by rw[ha]; decide)]
theorem late_set(now next w:Int)(l:List Jb)(n i:Nat):lateJ now next ((shJ l n w).getD i default)=lateJ now next (l.getD i default):=by
 rw[shJ_get]; split <;> rfl
theorem jobs_set{x:Cfg}{l:List Jb}{now next:Int}{n:Nat}{w:Int}(h:jobsV x l now next=true)(h1:1<=w)(h2:w<=(l.getD n default).wall):jobsV x (shJ l n w) now next=true:=by
 have ht:=tbl_set (jobs_tbl h) h1 h2;unfold jobsV at *;simp only[zA,decide_eq_true_eq,Bool.not_eq_true']at *;obtain⟨_,q1,q2⟩:=h;have e:stM (shJ l n w)=stM l:=stM_set w l n _;refine⟨ht,?_,?_⟩
 ·rw[e,settle_set]; exact sameJ_set w _ _ n q1
 ·rw[e,settle_set,shJ_len,show(fun i=>lateJ now next ((shJ (zBu (stM l) l) n w).getD i default))=fun i=>lateJ now next ((zBu (stM l) l).getD i default) from funext fun i=>late_set _ _ _ _ _ _];exact q2
theorem startG_set(cls:List Cls)(P:Int->Bool)(w:Int):∀(l:List Jb) (n:Nat) (M:MS (Int × Int)),startG cls P M (shJ l n w)=startG cls P M l
 | [],_,_=>rfl
 | j::l,0,M=>rfl
 | j::l,n+1,M=>by
  show startG cls P M (j::shJ l n w)=_;unfold startG
  split
  ·rw[startG_set]
  ·rw[startG_set]
def Sta.short(s:Sta)(n:Nat)(w:Int):Sta:={ s with jobs:=shJ s.jobs n w,js:=.isl ((shJ s.jobs n w).map Jb.av) }
theorem short_good{s:Sta}(h:s.good)(n:Nat)(w:Int):(s.short n w).good:=by
 refine⟨h.cs,⟨.inl rfl,fun j hj=>?_⟩,h.ps,h.ks,h.ds,h.hs,h.us⟩
 rcases shJ_mem hj with hj | ⟨hn,rfl⟩
 ·exact h.js.2 j hj
 ·exact h.js.get n
theorem short_lim{s:Sta}(h:s.lim)(n:Nat)(w:Int):(s.short n w).lim:=⟨by show(shJ s.jobs n w).length<=_; rw[shJ_len]; exact h.jl,h.pl,h.kl,h.dl,h.hl,h.ul⟩
theorem short_job{s:Sta}{n:Nat}{w:Int}(hn:(s.jobs.getD n default).st=1){p:Prt}(hp:s.part p=true):(s.short n w).jobOf p=s.jobOf p:=by
 have h2:¬(s.jobOf p).st=1:=by
  unfold Sta.part at hp;simp only[zA]at hp;have hq:=hp.2
  intro e
  rw[e]at hq
  split at hq
  ·simp at hq
  ·simp at hq
 unfold Sta.jobOf at *;show(if findN (shJ s.jobs n w) p.job < 0 then default else (shJ s.jobs n w).getD (findN (shJ s.jobs n w) p.job).toNat default)=_;rw[shJ_find]
 split
 ·rfl
 ·rename_i hf;rw[if_neg hf]at h2;rw[shJ_get,if_neg]
  rintro⟨rfl,_⟩
  exact h2 hn
theorem short_part{s:Sta}{n:Nat}{w:Int}(hn:(s.jobs.getD n default).st=1){p:Prt}(hp:s.part p=true):(s.short n w).part p=true:=by
 have hj:=short_job (w:=w) hn hp;rw[<- hp];have he:(s.short n w).ends p=s.ends p:=by unfold Sta.ends; rw[hj]; rfl
 have hi:(s.short n w).isJob p=s.isJob p:=by
  show decide (0<=findN (shJ s.jobs n w) p.job)=_;rw[shJ_find]; rfl
 unfold Sta.part;rw[hj,he,hi];rfl
theorem short_ends{s:Sta}{n:Nat}{w:Int}(hn:(s.jobs.getD n default).st=1){p:Prt}(hp:s.part p=true):(s.short n w).ends p=s.ends p:=by
 unfold Sta.ends;rw[short_job hn hp]; rfl
theorem anyN_congr{f g:Nat->Bool}{n:Nat}(h:∀ i,i < n->f i=g i):anyN f n 0=anyN g n 0:=by
 rw[Bool.eq_iff_iff,anyN_iff,anyN_iff];exact⟨fun⟨i,a,b,c⟩=>⟨i,a,b,(h i (by omega)).symm.trans c⟩,fun⟨i,a,b,c⟩=>⟨i,a,b,(h i (by omega)).trans c⟩⟩
theorem part_at{s:Sta}(h:s.partsV=true){i:Nat}(hi:i < s.parts.length):s.part (s.parts.getD i default)=true :=
 zFd h _ (by rw[show s.parts.getD i default=s.parts[i] by simp[List.getD,hi]]; exact List.getElem_mem hi)
theorem short_fine{s:Sta}(f:s.fine){n:Nat}{w:Int}(hn:(s.jobs.getD n default).st=1)(h1:1<=w)(h2:w<=(s.jobs.getD n default).wall):(s.short n w).fine:=by
 obtain⟨cf,jb,mr,pa,st,kp⟩:=f;refine⟨cf,jobs_set jb h1 h2,mr,?_,?_,?_⟩
 ·rw[<- pa];unfold Sta.partsV;show(decide ((s.parts.length:Int)<=24)&&!anyN (fun i=>(s.short n w).odd1 i||(s.short n w).odd2 i) s.parts.length 0)=_;rw[anyN_congr (g:=fun i=>s.odd1 i||s.odd2 i) fun i hi=>?_];have e:(s.short n w).odd1 i=s.odd1 i:=by
   unfold Sta.odd1;show((decide (0 < i)&&decide ((s.parts.getD i default).job<=(s.parts.getD (i - 1) default).job))||!(s.short n w).part (s.parts.getD i default))=_;rw[short_part hn (part_at pa hi),part_at pa hi]
  show((s.short n w).odd1 i||s.odd2 i)=_;rw[e]
 ·show startG s.c.cls (hasPart s.parts) ([],0) (shJ s.jobs n w)=true;rw[startG_set]; exact st
 ·rw[<- kp];have ht:∀ l b fr till,(s.short n w).taken l b fr till=s.taken l b fr till:=fun l b fr till=>by
   unfold Sta.taken;show(anyN (fun i=>tk1 s b fr till (l.getD i default)) l.length 0||anyN (fun i=>tk2 (s.short n w) b fr till (s.parts.getD i default)) s.parts.length 0)=_;rw[anyN_congr (f:=fun i=>tk2 (s.short n w) b fr till (s.parts.getD i default)) (g:=fun i=>tk2 s b fr till (s.parts.getD i default)) fun i hi=>by simp only[tk2]; rw[short_ends hn (part_at pa hi)]; rfl]
  unfold Sta.keepsV;show(decide ((s.keeps.length:Int)<=4)&&!anyN (fun i=>!(s.short n w).okK (s.keeps.getD i default) (s.last i) i) s.keeps.length 0)=_;rw[anyN_congr (g:=fun i=>!s.okK (s.keeps.getD i default) (s.last i) i) fun i hi=>by unfold Sta.okK; rw[ht]; rfl]
theorem short_slots{s:Sta}(f:s.fine){n:Nat}{w:Int}(hn:(s.jobs.getD n default).st=1):(s.short n w).slots=s.slots:=by
 unfold Sta.slots;show s.parts.map (fun p=>(⟨p.job,p.pl,s.now,(s.short n w).ends p⟩:Sl4))++_=_;rw[List.map_congr_left (g:=fun p=>(⟨p.job,p.pl,s.now,s.ends p⟩:Sl4)) fun p hp=>by rw[short_ends hn (zFd f.pa p hp)]];rfl
theorem clear_less{s x:Sta}(f:s.fine)(g:x.fine){fr till till':Int}(h1:fr < till')(h2:till'<=till){p:Plc}(ha:x.c.a=s.c.a)(hb:x.c.b=s.c.b)(hc:x.c.c=s.c.c)(hp:p.ok s.c.a s.c.b s.c.c)(hs:∀ y∈x.slots,y∈s.slots)
  (hd:∀ k∈x.down++x.shut,k∈s.down++s.shut) (hu:∀ k∈x.cut,k∈s.cut) (h:s.clear p fr till=true):x.clear p fr till'=true:=by
 rw[clear_iff f (by omega) hp]at h;rw[clear_iff g h1 (by rw[ha,hb,hc]; exact hp),ha,hb,hc];refine⟨⟨fun k hk hm=>h.1.1 k hk (hd k hm),fun k hk hm=>h.1.2 k hk (hu k hm)⟩,fun y hy hh=>h.2 y (hs y hy) ?_⟩;unfold Slt.hits at *;omega
theorem ST_frz7{H:List AO}{a b c p q r t now next:Int}{cs js ps ks ds hs us cs' js' ps' ks' ds' hs' us':AV}(f1:frz 2 H cs=some cs')(f2:frz 2 H js=some js')(f3:frz 2 H ps=some ps')(f4:frz 2 H ks=some ks')(f5:frz 2 H ds=some ds')(f6:frz 2 H hs=some hs')(f7:frz 2 H us=some us') :
  frz 3 H (ST a b c p q r t cs now next js ps ks ds hs us)=some (ST a b c p q r t cs' now next js' ps' ks' ds' hs' us'):=by
 have hpu:∀ {a a':AV},a.pur=true->frz 2 H a=some a'->a'=a:=fun h e=>by rw[zDr h]at e; exact(Option.some.inj e).symm
 unfold Go.Ab.frz
 split
 ·rename_i hq;simp[AV.pur,AV.purL]at hq;obtain⟨h1,h2,h3,h4,h5,h6,h7⟩:=hq;rw[hpu h1 f1,hpu h2 f2,hpu h3 f3,hpu h4 f4,hpu h5 f5,hpu h6 f6,hpu h7 f7]
 ·simp only[mapO,f1,f2,f3,f4,f5,f6,f7,zDr (a:=I a) rfl,zDr (a:=I b) rfl,zDr (a:=I c) rfl,zDr (a:=I p) rfl,zDr (a:=I q) rfl,zDr (a:=I r) rfl,zDr (a:=I t) rfl,zDr (a:=I now) rfl,zDr (a:=I next) rfl];rfl
theorem ST_le7{a b c p q r t now next:Int}{cs js ps ks ds hs us rc rj rp rk rd rh ru:AV}(x1:cs.isCell=true)(x2:js.isCell=true)(x3:ds.isCell=true)(x4:hs.isCell=true)(x5:us.isCell=true)(x6:ps.isCell=true)(x7:ks.isCell=true)(h1:Le rc cs)(h2:Le rj js)(h3:Le rp ps)(h4:Le rk ks)(h5:Le rd ds)(h6:Le rh hs)(h7:Le ru us) :
  Le (ST a b c p q r t rc now next rj rp rk rd rh ru) (ST a b c p q r t cs now next js ps ks ds hs us):=by
 refine Le.agg rfl (fun i hi=>?_) fun i hi=>?_
 ·match i,hi with
  | 0,_ | 1,_ | 2,_ | 3,_ | 4,_ | 5,_ | 6,_ | 8,_ | 9,_=>rfl
  | 7,_ | 10,_ | 11,_ | 12,_ | 13,_ | 14,_ | 15,_=>assumption
  | n+16,hi=>exact absurd hi (by simp)
 ·match i,hi with
  | 0,_ | 1,_ | 2,_ | 3,_ | 4,_ | 5,_ | 6,_ | 8,_ | 9,_=>exact Le.refl _
  | 7,_=>exact h1
  | 10,_=>exact h2
  | 11,_=>exact h3
  | 12,_=>exact h4
  | 13,_=>exact h5
  | 14,_=>exact h6
  | 15,_=>exact h7
  | n+16,hi=>exact absurd hi (by simp)
theorem live_frz{s:Sta}(hg:s.good){H:List AO}{rc rj rp rk rd rh ru:AV}(o1:LiveS 4 H s.cs rc (s.c.cls.map Cls.av))(o2:LiveS 16 H s.js rj (s.jobs.map Jb.av))(o3:LiveS 13 H s.ps rp (s.parts.map Prt.av))(o4:LiveS 9 H s.ks rk (s.keeps.map Kep.av))(o5:LiveS 1 H s.ds rd (s.down.map IA))(o6:LiveS 1 H s.hs rh (s.shut.map IA))(o7:LiveS 1 H s.us ru (s.cut.map IA)) :
  ∃ x,frz 3 H (ST s.c.a s.c.b s.c.c s.c.boot s.c.free s.c.tries s.c.age rc s.now s.next rj rp rk rd rh ru)=some x/\x.pur=true/\Le x s.av:=by
 have hZ:=hg.cell;obtain⟨⟨⟨a1,a2,a3⟩,b1,b2,b3⟩,⟨⟨c1,c2,c3⟩,d1,d2,d3⟩,⟨e1,e2,e3⟩,⟨f1,f2,f3⟩,g1,g2,g3⟩:=hg.cell;obtain⟨_,q1,q2,q3,_⟩:=o1.froz (zAi Cls.av _ (fun _=>rfl));obtain⟨_,t1,t2,t3,_⟩:=o2.froz (purL_jobs hg.js.2);obtain⟨_,u1,u2,u3,_⟩:=o3.froz (zAi Prt.av _ (fun _=>rfl));obtain⟨_,v1,v2,v3,_⟩:=o4.froz (zAi Kep.av _ (fun _=>rfl));obtain⟨_,w1,w2,w3,_⟩:=o5.froz (zAi IA _ (fun _=>rfl));obtain⟨_,x1,x2,x3,_⟩:=o6.froz (zAi IA _ (fun _=>rfl));obtain⟨_,y1,y2,y3,_⟩:=o7.froz (zAi IA _ (fun _=>rfl));exact⟨_,ST_frz7 q1 t1 u1 v1 w1 x1 y1,by simp[AV.pur,AV.purL,q2,t2,u2,v2,w2,x2,y2],ST_le7 a1 b1 e1 f1 g1 c1 d1 q3 t3 u3 v3 w3 x3 y3⟩
theorem liveA_view{f:FuncId}{s:Sta}(hg:s.good){H:List AO}{rc rj rp rk rd rh ru:AV}(o1:LiveS 4 H s.cs rc (s.c.cls.map Cls.av))(o2:LiveS 16 H s.js rj (s.jobs.map Jb.av))(o3:LiveS 13 H s.ps rp (s.parts.map Prt.av))(o4:LiveS 9 H s.ks rk (s.keeps.map Kep.av))(o5:LiveS 1 H s.ds rd (s.down.map IA))(o6:LiveS 1 H s.hs rh (s.shut.map IA))(o7:LiveS 1 H s.us ru (s.cut.map IA))
  {rest:List AV} (hr:AV.purL rest=true) {v:AV} (hv:v.scal=true) (h:Pur Tryz.prog GG f (s.av::rest) v) {K:AV->List AO->Prop} (hK:K v H):AC Tryz.prog GG f (ST s.c.a s.c.b s.c.c s.c.boot s.c.free s.c.tries s.c.age rc s.now s.next rj rp rk rd rh ru::rest) H K:=by
 obtain⟨x,hf,hx,hle⟩:=live_frz hg o1 o2 o3 o4 o5 o6 o7;refine AC.view ggp (n:=3) (args':=x::rest) ?_ ?_ hv (Pur.args (args':=s.av::rest) rfl (fun i hi=>?_) h) hK
 ·rw[show ∀ a l,mapO (frz 3 H) (a::l)=(match frz 3 H a,mapO (frz 3 H) l with | some b,some m=>some (b::m) | _,_=>none) from fun _ _=>rfl,hf,zFo hr]
 ·simp only[AV.purL,zA];exact⟨hx,hr⟩
 ·cases i with
  | zero=>exact hle
  | succ i=>exact Le.refl _
theorem LiveS.row_of{k:Nat}{H:List AO}{s r:AV}{l:List AV}(h:LiveS k H s r l)(h0:0 < l.length):∃ di,r=.sl di 0 l.length l.length/\H[di]?=some (.arr k l):=by
 cases h with
 | nil=>simp at h0
 | zs=>simp at h0
 | row h _=>exact⟨_,rfl,h⟩
end Go.Ab.Pd
