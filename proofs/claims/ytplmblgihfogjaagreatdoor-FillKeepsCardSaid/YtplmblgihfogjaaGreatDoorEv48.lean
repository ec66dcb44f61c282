/- A text of this claim. -/
import Derived.Test.YtplmblgihfogjaaGreatDoorEv47
set_option maxHeartbeats 40000000
set_option maxRecDepth 400000
set_option linter.all false
namespace Go.Ab.Pd
open Go.Proofs
theorem len_sub{P:List Int}:∀ {L:List Int},P.Pairwise (fun x y=>x≠y)->(∀ x∈P,x∈L)->P.length<=L.length:=by
 induction P with
 | nil=>intro L _ _; simp
 | cons p P ih =>
  intro L hp hs
  have hm:=hs p (by simp);obtain⟨h1,h2⟩:=List.pairwise_cons.1 hp;have:=ih (L:=L.erase p) h2 fun x hx=>(List.mem_erase_of_ne (fun e=>h1 x hx e.symm)).2 (hs x (List.mem_cons_of_mem _ hx))
  rw[List.length_erase_of_mem hm]at this;have:=List.length_pos_of_mem hm;simp only[List.length_cons];omega
theorem anyL{T:Type}(f:T->Bool)(d:T)(l:List T):anyN (fun i=>f (l.getD i d)) l.length 0=l.any f:=by
 rw[Bool.eq_iff_iff,anyN_iff,List.any_eq_true]
 constructor
 ·rintro⟨i,_,hi,h⟩
  have hi':i < l.length:=by omega
  rw[show l.getD i d=l[i] by simp[List.getD,hi']]at h;exact⟨_,List.getElem_mem hi',h⟩
 ·rintro⟨x,hx,h⟩
  obtain⟨i,hi,rfl⟩:=List.getElem_of_mem hx;exact⟨i,by omega,by omega,by rw[show l.getD i d=l[i] by simp[List.getD,hi]]; exact h⟩
theorem partsV_iff{s:Sta}:s.partsV=true ↔ s.parts.length<=24/\s.parts.Pairwise (fun x y=>x.job < y.job/\s.meet y.pl x.pl=false)/\∀ p∈s.parts,s.part p=true:=by
 constructor
 ·intro h
  refine⟨?_,?_,zFd h⟩
  ·have:=h;unfold Sta.partsV at this;simp only[zA,decide_eq_true_eq]at this;omega
  ·rw[List.pairwise_iff_getElem]
   intro i k hi hk hik
   have h1:=parts_rise h hik hk;have h2:=(parts_no h k hk).2;unfold Sta.odd2 at h2;have h3:=zFl h2 i (by rw[List.length_take]; omega);simp only[List.getD,List.getElem?_take,hik,if_true]at h3;rw[show s.parts.getD i default=s.parts[i] by simp[List.getD,hi],show s.parts.getD k default=s.parts[k] by simp[List.getD,hk]]at h1;refine⟨h1,?_⟩;simpa[hi,hk]using h3
 ·rintro⟨h1,h2,h3⟩
  rw[List.pairwise_iff_getElem]at h2;unfold Sta.partsV;rw[zA,decide_eq_true_eq,Bool.not_eq_true',Bool.eq_false_iff];refine⟨by omega,fun h=>?_⟩;obtain⟨k,_,hk,h⟩:=anyN_iff.1 h;have hk':k < s.parts.length:=by omega
  have ek:s.parts.getD k default=s.parts[k]:=by simp[List.getD,hk']
  rw[Bool.or_eq_true]at h
  rcases h with h | h
  ·unfold Sta.odd1 at h;rw[Bool.or_eq_true,zA,decide_eq_true_eq,decide_eq_true_eq,ek,h3 _ (List.getElem_mem hk')]at h
   rcases h with ⟨h0,h⟩ | h
   ·rw[show s.parts.getD (k - 1) default=s.parts[k - 1] by simp[List.getD,show k - 1 < s.parts.length by omega]]at h;have:=(h2 (k - 1) k (by omega) hk' (by omega)).1;omega
   ·cases h
  ·unfold Sta.odd2 at h;obtain⟨i,_,hi,h⟩:=anyN_iff.1 h;rw[List.length_take]at hi;have hik:i < k:=by omega
   have hi':i < s.parts.length:=by omega
   have:=(h2 i k hi' hk' hik).2;simp only[List.getD,List.getElem?_take,hik,if_true]at h;simp[hi',hk',this]at h
def Jb.std(j:Jb):Jb:={ j with st:=2 }
def insP(l:List Prt)(k:Nat)(q:Prt):List Prt:=l.take k++q::l.drop k
theorem insP_mem{l:List Prt}{k:Nat}{q p:Prt}:p∈insP l k q ↔ p∈l\/p=q:=by
 unfold insP;rw[List.mem_append,List.mem_cons]
 constructor
 ·rintro(h | h | h)
  ·exact .inl (List.mem_of_mem_take h)
  ·exact .inr h
  ·exact .inl (List.mem_of_mem_drop h)
 ·rintro(h | h)
  ·rw[<- List.take_append_drop k l,List.mem_append]at h
   rcases h with h | h
   ·exact .inl h
   ·exact .inr (.inr h)
  ·exact .inr (.inl h)
theorem insP_len{l:List Prt}{k:Nat}(hk:k<=l.length)(q:Prt):(insP l k q).length=l.length+1:=by
 unfold insP;rw[List.length_append,List.length_cons,List.length_take,List.length_drop]; omega
def Sta.begun(s:Sta)(n k:Nat)(id:Int)(p:Plc):Sta:={ s with jobs:=upJ Jb.std s.jobs n,js:=.isl ((upJ Jb.std s.jobs n).map Jb.av),parts:=insP s.parts k ⟨id,p,1,1,s.now⟩,ps:=.isl ((insP s.parts k ⟨id,p,1,1,s.now⟩).map Prt.av) }
theorem begun_good{s:Sta}(h:s.good)(n k:Nat)(id:Int)(p:Plc):(s.begun n k id p).good:=by
 have:=up_good h (g:=Jb.std) (fun _ h=>h) n;exact⟨h.cs,this.js,.inl rfl,h.ks,h.ds,h.hs,h.us⟩
theorem begun_lim{s:Sta}(h:s.lim)(f:s.parts.length+1<=2^20){n k:Nat}(hk:k<=s.parts.length)(id:Int)(p:Plc):(s.begun n k id p).lim :=
 ⟨(up_lim h Jb.std n).jl,by show(insP _ _ _).length<=_; rw[insP_len hk]; exact f,h.kl,h.dl,h.hl,h.ul⟩
theorem std_chk{x:Cfg}{j:Jb}(hh:j.held=false)(h:j.chk x=0):j.std.chk x=0:=by
 unfold Jb.chk at h
 split at h
 ·rename_i q1
  split at h
  ·rename_i q2
   split at h
   ·rename_i q3
    split at h
    ·rename_i q4
     split at h
     ·cases h
     ·rename_i q5;unfold Jb.chk;have p1:j.std.plain x=true:=by
       unfold Jb.plain Jb.std at *;simp only[zA]at *;obtain⟨⟨⟨⟨a1,a2⟩,a3⟩,a4⟩,a5⟩:=q1;refine⟨⟨⟨⟨a1,a2⟩,by show decide ((1:Int)<=2)=true; decide⟩,by show decide ((2:Int)<=6)=true; decide⟩,?_⟩;show(!j.held||_)=true;rw[hh]; rfl
      rw[if_pos p1,if_pos (show j.std.rises=true from q2),if_pos (show wchk j.std.w.p j.std.w.q j.std.w.r=0 from q3),if_pos (show j.std.fits x=true from q4),if_neg (show ¬((j.std.cl x).b < j.std.wall\/(j.std.cl x).c < j.std.w.p*j.std.w.q*j.std.w.r) from q5)]
    ·cases h
   ·cases h
  ·cases h
 ·cases h
theorem stat_std{l:List Jb}{n:Nat}(hn:n < l.length)(h1:(l.getD n default).st=1)(a:Int):(3 < statR (upJ Jb.std l n) a ↔ 3 < statR l a)/\(statR (upJ Jb.std l n) a=3 ↔ statR l a=3):=by
 unfold statR;rw[upJ_find (g:=Jb.std) (fun _=>rfl)]
 split
 ·exact⟨Iff.rfl,Iff.rfl⟩
 ·rw[upJ_get]
  split
  ·rename_i h;rw[h.1,h1];exact⟨by show 3 < (2:Int) ↔ _; omega,by show(2:Int)=3 ↔ _; omega⟩
  ·exact⟨Iff.rfl,Iff.rfl⟩
theorem jobs_std{x:Cfg}{l:List Jb}{now next:Int}{n:Nat}(hn:n < l.length)(h1:(l.getD n default).st=1)(hh:(l.getD n default).held=false)(h:jobsV x l now next=true):jobsV x (upJ Jb.std l n) now next=true:=by
 have ht:=jobs_tbl h;have hp:=ris_ne (tbl_0 ht).2.2.2.1;have hp':(upJ Jb.std l n).Pairwise fun x y=>¬x.id=y.id:=by
  refine ris_ne ?_;rw[upJ_len,risU (g:=Jb.std) (fun _=>rfl)];exact(tbl_0 ht).2.2.2.1
 have hm:l.getD n default∈l:=by rw[show l.getD n default=l[n] by simp[List.getD,hn]]; exact List.getElem_mem hn
 refine jobsU (g:=Jb.std) (fun _=>rfl) (fun _=>rfl) (fun _=>rfl) h (fun _=>std_chk hh (tbl_chk ht _ hm)) fun ho j hj=>?_
 rw[lost_never hp']
 rcases upJ_mem hj with hj | ⟨_,rfl⟩
 ·have:=ho j hj;rw[lost_never hp]at this;unfold neverR at this ⊢;rw[<- this]
  congr 1
  exact anyN_congr fun i hi=>decide_eq_decide.2 (stat_std hn h1 _).1
 ·rfl
theorem isCnt_std(u c:Int)(j:Jb):isCnt u c j.std=(decide (j.user=u)&&decide (j.cls=c)):=by
 show(decide ((2:Int)=2)&&(decide (j.user=u)&&decide (j.cls=c)))=_;rw[zT (rfl:(2:Int)=2),Bool.true_and]
theorem cnt_std(u c:Int):∀ {l:List Jb} {n:Nat},n < l.length->(l.getD n default).st=1->cntR (upJ Jb.std l n) u c=cntR l u c+if (l.getD n default).user=u/\(l.getD n default).cls=c then 1 else 0
 | [],n,h,_=>absurd h (by simp)
 | j::l,0,_,h1=>by
  have h1:j.st=1:=h1;show cntR (j.std::l) u c=cntR (j::l) u c+if j.user=u/\j.cls=c then 1 else 0
  rw[cntR_cons,cntR_cons,isCnt_std];have h0:isCnt u c j=false:=by unfold isCnt; rw[h1]; rfl
  rw[h0]
  by_cases hu:j.user=u
  ·by_cases hc:j.cls=c
   ·simp[hu,hc]; omega
   ·simp[hu,hc]
  ·simp[hu]
 | j::l,n+1,h,h1=>by
  show cntR (j::upJ Jb.std l n) u c=_;rw[cntR_cons,cntR_cons,cnt_std u c (l:=l) (n:=n) (by simpa using h) (by simpa using h1)];show _=(if isCnt u c j=true then 1 else 0)+cntR l u c+if (l.getD n default).user=u/\(l.getD n default).cls=c then 1 else 0
  omega
theorem meet_of{s:Sta}{X Y:Plc}(h:zEu s.c.a s.c.b s.c.c X Y=true):s.meet X Y=false:=by
 unfold Sta.meet;rw[h]; simp
structure Sta.mayB(s:Sta)(id:Int)(p:Plc)(j:Jb)(k:Nat):Prop where
 f:s.fine
 hf:¬findN s.jobs id < 0
 hj:s.jobs.getD (findN s.jobs id).toNat default=j
 st:j.st=1
 hh:j.held=false
 hc:cntR s.jobs j.user j.cls < (s.c.cls.getD j.cls.toNat default).d
 hp:p∈wholeL s.c.a s.c.b s.c.c j.w
 he:s.now+(s.c.boot+j.wall+s.c.free)<=1099511627776
 cl:s.clear p s.now (s.now+(s.c.boot+j.wall+s.c.free))=true
 hk:k<=s.parts.length
 k1:∀ q∈s.parts.take k,q.job < id
 k2:∀ q∈s.parts.drop k,id<=q.job
theorem part_st{s:Sta}{p:Prt}(hp:s.part p=true):¬(s.jobOf p).st=1:=by
 unfold Sta.part at hp;simp only[zA]at hp;have hq:=hp.2
 intro e
 rw[e]at hq
 split at hq
 ·simp at hq
 ·simp at hq
section
variable {s:Sta} {id:Int} {p:Plc} {j:Jb} {k:Nat} (m:s.mayB id p j k)
include m
theorem Sta.mayB.lt:(findN s.jobs id).toNat < s.jobs.length/\j.id=id/\j∈s.jobs:=by
 obtain⟨z1,z2,z3⟩:=zEm m.hf;rw[m.hj]at z3;refine⟨z2,z3,?_⟩;rw[<- m.hj,show s.jobs.getD (findN s.jobs id).toNat default=s.jobs[(findN s.jobs id).toNat] by simp[List.getD,z2]];exact List.getElem_mem z2
theorem Sta.mayB.other:∀ q∈s.parts,¬q.job=id:=fun q hq e=>by
 have hp:=zFd m.f.pa q hq;have:=part_st hp;unfold Sta.jobOf at this;rw[e,if_neg m.hf,m.hj]at this;exact this m.st
theorem Sta.mayB.after:∀ q∈s.parts.drop k,id < q.job:=fun q hq=>by
 have h1:=m.k2 q hq;have h2:=m.other q (List.mem_of_mem_drop hq);omega
theorem Sta.mayB.ends0{q:Prt}(hq:s.part q=true):(s.begun (findN s.jobs id).toNat k id p).ends q=s.ends q :=
 up_ends (s:=s) (g:=Jb.std) (fun _=>rfl) (by rw[m.hj]; exact m.st) hq
theorem Sta.mayB.part0{q:Prt}(hq:s.part q=true):(s.begun (findN s.jobs id).toNat k id p).part q=true :=
 up_part (s:=s) (g:=Jb.std) (fun _=>rfl) (by rw[m.hj]; exact m.st) hq
theorem Sta.mayB.jobN:(s.begun (findN s.jobs id).toNat k id p).jobOf ⟨id,p,1,1,s.now⟩=j.std:=by
 unfold Sta.jobOf;show(if findN (upJ Jb.std s.jobs (findN s.jobs id).toNat) id < 0 then default else (upJ Jb.std s.jobs (findN s.jobs id).toNat).getD (findN (upJ Jb.std s.jobs (findN s.jobs id).toNat) id).toNat default)=_;rw[upJ_find (g:=Jb.std) (fun _=>rfl),if_neg m.hf,upJ_get,if_pos ⟨rfl,m.lt.1⟩,m.hj]
theorem Sta.mayB.endsN:(s.begun (findN s.jobs id).toNat k id p).ends ⟨id,p,1,1,s.now⟩=s.now+(s.c.boot+j.wall+s.c.free):=by
 unfold Sta.ends;rw[m.jobN];rfl
theorem Sta.mayB.cfg:(s.c.chk=0/\s.c.may=true)/\0<=s.now/\(1<=s.c.boot/\s.c.boot<=1048576)/\(1<=s.c.free/\s.c.free<=1048576)/\1<=s.c.tries/\(1<=j.wall/\j.wall<=1048576)/\1<=id/\id<=2147483647/\okW j.w.p j.w.q j.w.r:=by
 have hcf:=m.f.cf;unfold Sta.config at hcf;simp only[zA,decide_eq_true_eq]at hcf;have hmay:=Cfg.chk_may hcf.1.1.1.1;have hmay':=hmay;unfold Cfg.may at hmay;simp only[zA,witV_t]at hmay;obtain⟨jp,_,jw,_⟩:=Jb.chk_facts (tbl_chk (jobs_tbl m.f.jb) j m.lt.2.2);unfold Jb.plain at jp;simp only[zA,witV_t]at jp;have hi:=m.lt.2.1;obtain⟨⟨⟨⟨⟨⟨⟨h1,_⟩,_⟩,h4⟩,_⟩,_⟩,_⟩,_⟩:=jp;obtain⟨⟨⟨⟨_,hb⟩,hfr⟩,⟨ht,_⟩,_⟩,_⟩:=hmay;exact⟨⟨hcf.1.1.1.1,hmay'⟩,hcf.1.1.1.2,hb,hfr,ht.1,h4,by omega,by omega,jw⟩
theorem Sta.mayB.ok:p.ok s.c.a s.c.b s.c.c:=((wholeL_mem (zFi m.f)).1 m.hp).1
theorem Sta.mayB.free:((∀ q∈zAo s.c.a s.c.b s.c.c p.x p.y p.z p.p p.q p.r,¬q∈s.down++s.shut)/\∀ q∈zBh s.c.a s.c.b s.c.c p.x p.y p.z p.p p.q p.r p.s p.t p.u,¬q∈s.cut)/\∀ x∈s.slots,x.slt.hits s.now (s.now+(s.c.boot+j.wall+s.c.free))->zEu s.c.a s.c.b s.c.c p x.pl=true:=by
 obtain⟨_,_,hb,hfr,_,hw,_⟩:=m.cfg;exact(clear_iff m.f (by omega) m.ok).1 m.cl
theorem Sta.mayB.apart{q:Prt}(hq:q∈s.parts):zEu s.c.a s.c.b s.c.c p q.pl=true:=by
 obtain⟨_,_,hb,hfr,_,hw,_⟩:=m.cfg;have h3:=(part_facts (zFd m.f.pa q hq)).2.2.2.1;have h:=m.free.2 (⟨q.job,q.pl,s.now,s.ends q⟩:Sl4) (slot_has hq) (by
  unfold Slt.hits Sl4.slt;simp only;omega)
 exact h
theorem Sta.mayB.sound:s.sound p=true:=by
 have h:=m.free.1;unfold Sta.sound;rw[zA,Bool.not_eq_true',Bool.not_eq_true',Bool.eq_false_iff,Bool.eq_false_iff];refine⟨fun e=>?_,fun e=>?_⟩
 ·obtain⟨i,_,hi,e⟩:=anyN_iff.1 e;have hi':i < s.down.length:=by omega
  rw[show s.down.getD i 0=s.down[i] by simp[List.getD,hi']]at e;unfold Sta.hit at e
  split at e
  ·unfold hitV at e;simp only[Bool.or_eq_true,zA,decide_eq_true_eq]at e
   rcases e with ⟨_,e⟩ | ⟨e,_⟩
   ·exact h.1 _ e (List.mem_append_left _ (List.getElem_mem hi'))
   ·omega
  ·cases e
 ·obtain⟨i,_,hi,e⟩:=anyN_iff.1 e;have hi':i < s.cut.length:=by omega
  rw[show s.cut.getD i 0=s.cut[i] by simp[List.getD,hi']]at e;unfold Sta.hit at e
  split at e
  ·unfold hitV at e;simp only[Bool.or_eq_true,zA,decide_eq_true_eq]at e
   rcases e with ⟨e,_⟩ | ⟨_,e⟩
   ·omega
   ·exact h.2 _ e (List.getElem_mem hi')
  ·cases e
theorem Sta.mayB.partN:(s.begun (findN s.jobs id).toNat k id p).part ⟨id,p,1,1,s.now⟩=true:=by
 obtain⟨⟨hc,hmay⟩,hn,hb,hfr,ht,hw,i1,i2,jw⟩:=m.cfg;obtain⟨w1,w2⟩:=whole_is m.f jw m.hp;have hx:=m.endsN;have he:=m.he;unfold Sta.part;rw[m.jobN,hx];have e1:(s.begun (findN s.jobs id).toNat k id p).isJob ⟨id,p,1,1,s.now⟩=true:=by
  show decide (0<=findN (upJ Jb.std s.jobs (findN s.jobs id).toNat) id)=true;rw[upJ_find (g:=Jb.std) (fun _=>rfl)];have:=m.hf;exact zT (by omega)
 have e2:s.c.part ⟨id,p,1,1,s.now⟩=true:=by
  unfold Cfg.part;simp only[zA,witV_t,Bool.not_eq_true',decide_eq_false_iff_not];omega
 have e3:s.c.spE ⟨id,p,1,1,s.now⟩ j.std.wall=0:=by
  unfold Cfg.spE Cfg.pchk;rw[if_pos hc,if_pos e2,if_pos rfl];exact if_pos (witV_t.2 hw)
 have e4:¬s.c.turn ⟨id,p,1,1,s.now⟩ j.std.wall<=s.now:=by
  unfold Cfg.turn;show ¬min (s.now+s.c.boot) 1099511627776<=s.now;omega
 rw[e1];show((((((true&&decide (s.c.spE ⟨id,p,1,1,s.now⟩ j.std.wall=0))&&!decide (s.now < s.now))&&!decide (1099511627776 < s.now+(s.c.boot+j.wall+s.c.free)))&&!decide (s.c.turn ⟨id,p,1,1,s.now⟩ j.std.wall<=s.now))&&decide (isE s.c.a s.c.b s.c.c j.w p=0))&&isV s.c.a s.c.b s.c.c j.w p&&(decide ((2:Int)=2)&&s.sound p))=true;rw[zT e3,zF (show ¬s.now < s.now by omega),zF (show ¬1099511627776 < s.now+(s.c.boot+j.wall+s.c.free) by omega),zF e4,zT w1,w2,m.sound];rfl
theorem Sta.mayB.len:s.parts.length+1<=s.jobs.length:=by
 obtain⟨_,h2,h3⟩:=partsV_iff.1 m.f.pa;have key:=len_sub (P:=id::s.parts.map (·.job)) (L:=s.jobs.map (·.id)) ?_ ?_
 ·simpa using key
 ·refine List.pairwise_cons.2 ⟨fun x hx e=>?_,List.pairwise_map.2 (h2.imp fun h e=>by have:=h.1; omega)⟩;obtain⟨q,hq,rfl⟩:=List.mem_map.1 hx;exact m.other q hq e.symm
 ·intro x hx
  rcases List.mem_cons.1 hx with rfl | hx
  ·exact List.mem_map.2 ⟨j,m.lt.2.2,m.lt.2.1⟩
  ·obtain⟨q,hq,rfl⟩:=List.mem_map.1 hx;have hn:=(part_facts (h3 q hq)).1;obtain⟨z1,z2,z3⟩:=zEm hn;refine List.mem_map.2 ⟨s.jobs.getD (findN s.jobs q.job).toNat default,?_,z3⟩;rw[show s.jobs.getD (findN s.jobs q.job).toNat default=s.jobs[(findN s.jobs q.job).toNat] by simp[List.getD,z2]];exact List.getElem_mem z2
theorem Sta.mayB.fine:(s.begun (findN s.jobs id).toNat k id p).fine:=by
 have f:=m.f;have hlt:=m.lt;have hst:(s.jobs.getD (findN s.jobs id).toNat default).st=1:=by rw[m.hj]; exact m.st
 obtain⟨_,_,hb,hfr,_,hw,_⟩:=m.cfg;have hlen:=m.len;have h24:=tbl_len (jobs_tbl f.jb);obtain⟨q1,q2,q3⟩:=partsV_iff.1 f.pa;have hpl:∀ q∈s.parts,q.pl.ok s.c.a s.c.b s.c.c:=fun q hq=>(part_facts (q3 q hq)).2.2.2.2.1
 refine⟨f.cf,jobs_std hlt.1 hst (by rw[m.hj]; exact m.hh) f.jb,f.mr,?_,?_,?_⟩
 ·refine partsV_iff.2 ⟨?_,?_,fun q hq=>?_⟩
  ·show(insP s.parts k _).length<=24;rw[insP_len m.hk]; omega
  ·show(insP s.parts k ⟨id,p,1,1,s.now⟩).Pairwise (fun x y=>x.job < y.job/\s.meet y.pl x.pl=false);have hsp:=q2;rw[<- List.take_append_drop k s.parts,List.pairwise_append]at hsp;unfold insP;rw[List.pairwise_append,List.pairwise_cons];refine⟨hsp.1,⟨fun y hy=>⟨m.after y hy,meet_of (apart_symm (m.apart (List.mem_of_mem_drop hy)))⟩,hsp.2.1⟩,fun x hx y hy=>?_⟩
   rcases List.mem_cons.1 hy with rfl | hy
   ·exact⟨m.k1 x hx,meet_of (m.apart (List.mem_of_mem_take hx))⟩
   ·exact hsp.2.2 x hx y hy
  ·rcases insP_mem.1 hq with hq | rfl
   ·exact m.part0 (q3 q hq)
   ·exact m.partN
 ·show startG s.c.cls (hasPart (insP s.parts k ⟨id,p,1,1,s.now⟩)) ([],0) (upJ Jb.std s.jobs (findN s.jobs id).toNat)=true;rw[started_ref (by rw[upJ_len]; omega),anyL (oddS s.c.cls (hasPart (insP s.parts k ⟨id,p,1,1,s.now⟩)) (upJ Jb.std s.jobs (findN s.jobs id).toNat)),Bool.not_eq_true',List.any_eq_false];have hs:=f.st;rw[started_ref (by omega),anyL (oddS s.c.cls (hasPart s.parts) s.jobs),Bool.not_eq_true',List.any_eq_false]at hs;have hhas:∀ i,hasPart (insP s.parts k ⟨id,p,1,1,s.now⟩) i=(hasPart s.parts i||decide (id=i)):=fun i=>by
   unfold hasPart;rw[anyL (fun q:Prt=>decide (q.job=i)),anyL (fun q:Prt=>decide (q.job=i)),Bool.eq_iff_iff,Bool.or_eq_true,List.any_eq_true,List.any_eq_true]
   constructor
   ·rintro⟨q,hq,h⟩
    rcases insP_mem.1 hq with hq | rfl
    ·exact .inl ⟨q,hq,h⟩
    ·exact .inr h
   ·rintro(⟨q,hq,h⟩ | h)
    ·exact⟨q,insP_mem.2 (.inl hq),h⟩
    ·exact⟨_,insP_mem.2 (.inr rfl),h⟩
  intro y hy
  unfold oddS;rw[hhas,cnt_std _ _ hlt.1 hst,m.hj]
  rcases upJ_mem hy with hy | ⟨_,rfl⟩
  ·have:=hs y hy;unfold oddS at this;simp only[zA,Bool.or_eq_true,Bool.not_eq_true',decide_eq_true_eq,not_and,not_or]at this ⊢
   intro h2
   obtain⟨t1,t2⟩:=this h2;refine⟨fun e=>?_,?_⟩
   ·rw[Bool.or_eq_false_iff]at e;exact t1 e.1
   ·split
    ·rename_i hu;have hc:=m.hc;rw[hu.1,hu.2]at hc;omega
    ·omega
  ·rw[m.hj];have hc:=m.hc;simp only[zA,Bool.or_eq_true,Bool.not_eq_true',decide_eq_true_eq,not_and,not_or]
   intro _
   refine⟨fun e=>?_,?_⟩
   ·rw[Bool.or_eq_false_iff,decide_eq_false_iff_not]at e;exact e.2 hlt.2.1.symm
   ·show ¬(s.c.cls.getD j.cls.toNat default).d < cntR s.jobs j.user j.cls+if j.user=j.user/\j.cls=j.cls then 1 else 0
    rw[if_pos ⟨rfl,rfl⟩];omega
 ·rw[<- f.kp];unfold Sta.keepsV;show(decide ((s.keeps.length:Int)<=4)&&!anyN (fun i=>!(s.begun (findN s.jobs id).toNat k id p).okK (s.keeps.getD i default) (s.last i) i) s.keeps.length 0)=_;rw[anyN_congr (g:=fun i=>!s.okK (s.keeps.getD i default) (s.last i) i) fun i hi=>?_];have hok:=keeps_ok f.kp hi;have hmay:=keep_may f hi;have hkm:s.keeps.getD i default∈s.keeps:=by rw[show s.keeps.getD i default=s.keeps[i] by simp[List.getD,hi]]; exact List.getElem_mem hi
  generalize s.keeps.getD i default=kk at hok hmay hkm
  have ht:∀ l,(s.begun (findN s.jobs id).toNat k id p).taken l kk.bx kk.fr kk.till=s.taken l kk.bx kk.fr kk.till:=fun l=>by
   unfold Sta.taken;show(anyN (fun i'=>tk1 s kk.bx kk.fr kk.till (l.getD i' default)) l.length 0||anyN (fun i=>tk2 (s.begun (findN s.jobs id).toNat k id p) kk.bx kk.fr kk.till ((insP s.parts k ⟨id,p,1,1,s.now⟩).getD i default)) (insP s.parts k ⟨id,p,1,1,s.now⟩).length 0)=_
   congr 1
   rw[anyL (tk2 (s.begun (findN s.jobs id).toNat k id p) kk.bx kk.fr kk.till),anyL (tk2 s kk.bx kk.fr kk.till),Bool.eq_iff_iff,List.any_eq_true,List.any_eq_true]
   constructor
   ·rintro⟨q,hq,h⟩
    rcases insP_mem.1 hq with hq | rfl
    ·unfold tk2 at h;rw[m.ends0 (q3 q hq)]at h;exact⟨q,hq,h⟩
    ·exfalso
     unfold tk2 at h;rw[m.endsN,zA,decide_eq_true_eq]at h;have ha:=m.free.2 ⟨kk.id,kk.bx.pl,max kk.fr s.now,kk.till⟩ (by
      unfold Sta.slots;exact List.mem_append_right _ (List.mem_map.2 ⟨kk,hkm,rfl⟩)) (by
      have:=h.1;unfold Slt.hits Sl4.slt;simp only;omega)
     have h2:=h.2;have h3:s.meet p kk.bx.pl=false:=meet_of ha;have h4:s.meet p kk.bx.pl=true:=h2;rw[h3]at h4;cases h4
   ·rintro⟨q,hq,h⟩
    refine⟨q,insP_mem.2 (.inl hq),?_⟩;unfold tk2 at h ⊢;rw[m.ends0 (q3 q hq)];exact h
  unfold Sta.okK;rw[ht];rfl
theorem Sta.mayB.slots(y:Sl4):y∈(s.begun (findN s.jobs id).toNat k id p).slots ↔ y∈s.slots\/y=⟨id,p,s.now,s.now+(s.c.boot+j.wall+s.c.free)⟩:=by
 have q3:=(partsV_iff.1 m.f.pa).2.2;unfold Sta.slots;rw[List.mem_append,List.mem_append]
 constructor
 ·rintro(h | h)
  ·obtain⟨q,hq,rfl⟩:=List.mem_map.1 h
   rcases insP_mem.1 hq with hq | rfl
   ·refine .inl (.inl (List.mem_map.2 ⟨q,hq,?_⟩));show(⟨q.job,q.pl,s.now,s.ends q⟩:Sl4)=⟨q.job,q.pl,s.now,(s.begun (findN s.jobs id).toNat k id p).ends q⟩;rw[m.ends0 (q3 q hq)]
   ·right;show(⟨id,p,s.now,(s.begun (findN s.jobs id).toNat k id p).ends ⟨id,p,1,1,s.now⟩⟩:Sl4)=_;rw[m.endsN]
  ·exact .inl (.inr h)
 ·rintro((h | h) | rfl)
  ·obtain⟨q,hq,rfl⟩:=List.mem_map.1 h;refine .inl (List.mem_map.2 ⟨q,insP_mem.2 (.inl hq),?_⟩);show(⟨q.job,q.pl,s.now,(s.begun (findN s.jobs id).toNat k id p).ends q⟩:Sl4)=⟨q.job,q.pl,s.now,s.ends q⟩;rw[m.ends0 (q3 q hq)]
  ·exact .inr h
  ·refine .inl (List.mem_map.2 ⟨⟨id,p,1,1,s.now⟩,insP_mem.2 (.inr rfl),?_⟩);show(⟨id,p,s.now,(s.begun (findN s.jobs id).toNat k id p).ends ⟨id,p,1,1,s.now⟩⟩:Sl4)=_;rw[m.endsN]
end
structure Wt where
 job:Int
 tm:Int
 pl:Plc
 deriving DecidableEq
def Wt.av(w:Wt):AV:=WA w.job w.tm w.pl
def zWt:Wt:=⟨0,0,zPc⟩
def Sta.rdyV(s:Sta)(j:Jb):Bool:=decide (j.st=1)&&(!j.held&&!anyN (fun i=>!decide (getM (stM s.jobs) (j.after.getD i 0)=3)) j.after.length 0)
def Sta.leftV(s:Sta)(j:Jb):Int:=(s.c.cls.getD j.cls.toNat default).d - cntR s.jobs j.user j.cls
def Sta.eligV(s:Sta)(j:Jb):Bool:=s.rdyV j&&decide (0 < s.leftV j)
def Sta.jobN(s:Sta)(id:Int):Jb:=if findN s.jobs id < 0 then default else s.jobs.getD (findN s.jobs id).toNat default
def Sta.waits(s:Sta)(id:Int):Bool:=!decide (findN s.jobs id < 0)&&decide ((s.jobN id).st=1)
def Sta.prom(s:Sta)(id:Int)(w:Wt):Bool :=
 if w.job=0 then decide (w=zWt) else s.waits w.job&&(!decide (w.job=id)&&(!decide (w.tm < s.now)&&(!decide (1099511627776 < w.tm)&&(decide (isE s.c.a s.c.b s.c.c (s.jobN w.job).w w.pl=0)&&isV s.c.a s.c.b s.c.c (s.jobN w.job).w w.pl))))
def Sta.endJ(s:Sta)(j:Jb):Int:=s.now+(s.c.boot+j.wall+s.c.free)
def Sta.avoid(s:Sta)(j:Jb)(w:Wt):Bool:=!decide (w.job=0)&&decide (w.tm < s.endJ j)
def Sta.capped(s:Sta)(j:Jb)(w:Wt):Bool:=!decide (w.job=0)&&(decide ((s.jobN w.job).user=j.user)&&(decide ((s.jobN w.job).cls=j.cls)&&decide (s.leftV j < 2)))
def Sta.freeW(s:Sta)(j:Jb)(w:Wt):List Plc:=(wholeL s.c.a s.c.b s.c.c j.w).filter fun p=>s.clear p s.now (s.endJ j)&&(!s.avoid j w||zEu s.c.a s.c.b s.c.c p w.pl)
end Go.Ab.Pd
