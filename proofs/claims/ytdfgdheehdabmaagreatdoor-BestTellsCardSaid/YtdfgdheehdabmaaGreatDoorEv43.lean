/- One of the texts that this claim stands on. -/
import Derived.Test.YtdfgdheehdabmaaGreatDoorEv34
set_option maxHeartbeats 40000000
set_option maxRecDepth 400000
set_option linter.all false
namespace Go.Ab
section
variable (P:Program) (G:Gl)
def symH(ops:Array Oper)(M:Nat→Nat→Bool)(imp:Nat→Bool)(K:Bool→(Nat→AV)→List AO→Prop)(g:Bool):List (Nat × Bool)→Wch→(Nat→AV)→List AO→Prop
 | [],W,ts,H=>K true ts H
 | (i,true)::l,W,ts,H=>opJ ops[i]? (fun _ o=>guK o.guard
   (fun g0=>roK (rog P G g0 Tab.nil o.op (ev ts) H) (fun g v H'=>symH ops M imp K g l (wAdd P G M W i o ts v) (put ts o.dst v) H) (fun _ _ _=>False) False)
   (fun _ j want=>tmK ((ops[j]?).bind (·.dst)) (fun g1 d=>gsK (look g1 ts d) (fun _ b=>biK (b==want)
    (fun g0=>roK (rog P G g0 Tab.nil o.op (ev ts) H) (fun g v H'=>symH ops M imp K g l (wAdd P G M W i o ts v) (put ts o.dst v) H) (fun _ _ _=>False) False)
    (fun g=>symH ops M imp K g l W (put ts o.dst .un) H)) (fun g=>symH ops M imp K g l W (put ts o.dst .un) H) False) False)) False
 | (i,false)::l,W,ts,H=>opJ ops[i]? (fun _ o=>guK o.guard
   (fun g0=>roK (rog P G g0 Tab.nil o.op (ev ts) H) (fun g v H'=>(imp i=true→W i H')∧symH ops M imp K g l W (put ts o.dst v) H')
    (fun g f a=>imp i=true∧ACV P G f a H fun v H'=>W i H'∧symH ops M imp K true l W (put ts o.dst v) H') False)
   (fun _ j want=>tmK ((ops[j]?).bind (·.dst)) (fun g1 d=>gsK (look g1 ts d) (fun _ b=>biK (b==want)
    (fun g0=>roK (rog P G g0 Tab.nil o.op (ev ts) H) (fun g v H'=>(imp i=true→W i H')∧symH ops M imp K g l W (put ts o.dst v) H')
     (fun g f a=>imp i=true∧ACV P G f a H fun v H'=>W i H'∧symH ops M imp K true l W (put ts o.dst v) H') False)
    (fun g=>(imp i=true→W i H)∧symH ops M imp K g l W (put ts o.dst .un) H)) (fun g=>(imp i=true→W i H)∧symH ops M imp K g l W (put ts o.dst .un) H) False) False)) False
variable {P G}
variable {ops:Array Oper} {M:Nat→Nat→Bool} {imp:Nat→Bool} {K:Bool→(Nat→AV)→List AO→Prop}
theorem zAh{W:Wch}{ts:Nat→AV}{H:List AO}:symH P G ops M imp K true [] W ts H=K true ts H:=(rfl)
theorem zAo{i:Nat}{l:List (Nat × Bool)}{W:Wch}{ts:Nat→AV}{H:List AO} :
  symH P G ops M imp K true ((i,true)::l) W ts H=opJ ops[i]? (fun _ o=>guK o.guard
   (fun g0=>roK (rog P G g0 Tab.nil o.op (ev ts) H) (fun g v H'=>symH P G ops M imp K g l (wAdd P G M W i o ts v) (put ts o.dst v) H) (fun _ _ _=>False) False)
   (fun _ j want=>tmK ((ops[j]?).bind (·.dst)) (fun g1 d=>gsK (look g1 ts d) (fun _ b=>biK (b==want)
    (fun g0=>roK (rog P G g0 Tab.nil o.op (ev ts) H) (fun g v H'=>symH P G ops M imp K g l (wAdd P G M W i o ts v) (put ts o.dst v) H) (fun _ _ _=>False) False)
    (fun g=>symH P G ops M imp K g l W (put ts o.dst .un) H)) (fun g=>symH P G ops M imp K g l W (put ts o.dst .un) H) False) False)) False:=(rfl)
theorem zAn{i:Nat}{l:List (Nat × Bool)}{W:Wch}{ts:Nat→AV}{H:List AO} :
  symH P G ops M imp K true ((i,false)::l) W ts H=opJ ops[i]? (fun _ o=>guK o.guard
   (fun g0=>roK (rog P G g0 Tab.nil o.op (ev ts) H) (fun g v H'=>(imp i=true→W i H')∧symH P G ops M imp K g l W (put ts o.dst v) H')
    (fun g f a=>imp i=true∧ACV P G f a H fun v H'=>W i H'∧symH P G ops M imp K true l W (put ts o.dst v) H') False)
   (fun _ j want=>tmK ((ops[j]?).bind (·.dst)) (fun g1 d=>gsK (look g1 ts d) (fun _ b=>biK (b==want)
    (fun g0=>roK (rog P G g0 Tab.nil o.op (ev ts) H) (fun g v H'=>(imp i=true→W i H')∧symH P G ops M imp K g l W (put ts o.dst v) H')
     (fun g f a=>imp i=true∧ACV P G f a H fun v H'=>W i H'∧symH P G ops M imp K true l W (put ts o.dst v) H') False)
    (fun g=>(imp i=true→W i H)∧symH P G ops M imp K g l W (put ts o.dst .un) H)) (fun g=>(imp i=true→W i H)∧symH P G ops M imp K g l W (put ts o.dst .un) H) False) False)) False:=(rfl)
theorem early{i:Nat}{o:Oper}{ts:Nat→AV}{H:List AO}{K2:AV→Prop}(hq:quietC (clOf o.op)=true)(h:roK (rog P G true Tab.nil o.op (ev ts) H) (fun _ v _=>K2 v) (fun _ _ _=>False) False):∃ v,aop P G o.op (ev ts) H=some ⟨True,v,H⟩∧K2 v:=by
 cases hr:rog P G true Tab.nil o.op (ev ts) H with
 | call f a=>rw[hr]at h; exact h.elim
 | bad=>rw[hr]at h; exact h.elim
 | ok r =>
  rw[hr]at h;have hr2:aop P G o.op (ev ts) H=some r:=by
   have hnc:∀ f args tys,o.op≠.call { callee:=.value f,args:=args,argTypes:=tys }:=fun f args tys e=>by
    rw[e]at hr;rw[rog_nil_call]at hr;cases hr
   unfold rog roOf at hr
   split at hr
   ·rename_i hop; exact absurd hop (hnc _ _ _)
   ·split at hr
    ·rename_i hh;cases hr; exact hh
    ·cases hr
  obtain⟨e1,e2⟩:=aop_read1 hq hr2 h.1;exact⟨r.v,e1,h.2⟩
theorem late{i:Nat}{o:Oper}{ts:Nat→AV}{H:List AO}{K2:(Nat→AV)→List AO→Prop}{W:List AO→Prop}(ho:ops[i]?=some o)(hw:zAp ops ts o=true)
  (h:roK (rog P G true Tab.nil o.op (ev ts) H) (fun _ v H'=>(imp i=true→W H')∧K2 (put ts o.dst v) H') (fun _ f a=>imp i=true∧ACV P G f a H fun v H'=>W H'∧K2 (put ts o.dst v) H') False) :
  zCv P G ops imp i ts H fun ts' H'=>(imp i=true→W H')∧K2 ts' H':=by
 unfold zCv;simp only[ho];rw[if_pos hw]
 split
 ·rename_i f args tys hop;rw[hop,rog_nil_call]at h;obtain⟨hi,h⟩:=h;rw[if_pos hi];exact ACV.mono h fun v H' h'=>⟨fun _=>h'.1,h'.2⟩
 ·rename_i hop;cases hr:rog P G true Tab.nil o.op (ev ts) H with
  | call f a =>
   exfalso
   unfold rog roOf at hr
   split at hr
   ·rename_i hop'; exact hop _ _ _ hop'
   ·split at hr <;> cases hr
  | bad=>rw[hr]at h; exact h.elim
  | ok r =>
   rw[hr]at h;unfold rog roOf at hr
   split at hr
   ·rename_i hop'; exact absurd hop' (hop _ _ _)
   ·split at hr
    ·rename_i hh;cases hr;exact⟨r,hh,h.1,h.2.1,h.2.2⟩
    ·cases hr
theorem stepR_skip{i:Nat}{o:Oper}{ts:Nat→AV}{H:List AO}{K2:(Nat→AV)→List AO→Prop}(ho:ops[i]?=some o)(hw:¬zAp ops ts o=true)(h:K2 (put ts o.dst .un) H):zCv P G ops imp i ts H K2:=by
 unfold zCv;simp only[ho];rw[if_neg hw];exact h
theorem zDf{K':(Nat→AV)→List AO→Prop}(hk:∀ ts H,K true ts H→K' ts H){g:Bool} :
  ∀(l:List (Nat × Bool)) (W:Wch) (ts:Nat→AV) (H:List AO),qtB ops l=true→symH P G ops M imp K g l W ts H→runG P G ops M imp (fun _=>K') l W ts H
 | [],W,ts,H,_,h=>hk _ _ h
 | (i,true)::l,W,ts,H,hq,h=>by
  unfold symH at h;simp only[qtB,Bool.and_eq_true]at hq;cases ho:ops[i]? with
  | none=>rw[ho]at h; exact h.elim
  | some o =>
   rw[ho]at h hq;simp only[opJ]at h;refine⟨o,ho,?_⟩;cases hg:o.guard with
   | none =>
    rw[hg]at h;simp only[guK]at h;obtain⟨v,e1,e2⟩:=early (i:=i) hq.1 (zFc h (fun v H' h'=>h') (fun _ _ h'=>h') id);exact .inl ⟨by simp[zAp,hg],v,e1,zDf (g:=true) hk l _ _ _ hq.2 e2⟩
   | some q =>
    obtain⟨j,want⟩:=q;rw[hg]at h;simp only[guK]at h;cases hdd:(ops[j]?).bind (·.dst)with
    | none=>rw[hdd]at h; exact h.elim
    | some d =>
     rw[hdd]at h;simp only[tmK]at h;unfold gsK look at h
     split at h
     ·rename_i b hb;have hgv:gval ops ts j=some b:=by simp[gval,hdd,hb]
      by_cases e:b=want
      ·subst e;rw[show(b==b)=true by simp]at h;simp only[biK_t]at h;obtain⟨v,e1,e2⟩:=early (i:=i) hq.1 (zFc h (fun v H' h'=>h') (fun _ _ h'=>h') id);exact .inl ⟨by simp[zAp,hg,hgv],v,e1,zDf (g:=true) hk l _ _ _ hq.2 e2⟩
      ·rw[show(b==want)=false by simp[e]]at h;exact .inr ⟨by simp[zAp,hg,hgv,e],zDf (g:=true) hk l _ _ _ hq.2 h⟩
     ·rename_i hb;have hgv:gval ops ts j=none:=by simp[gval,hdd,hb]
      exact .inr ⟨by simp[zAp,hg,hgv],zDf (g:=true) hk l _ _ _ hq.2 h⟩
     ·exact h.elim
 | (i,false)::l,W,ts,H,hq,h=>by
  unfold symH at h;simp only[qtB]at hq;show zCv P G ops imp i ts H fun ts' H'=>(imp i=true→W i H')∧runG P G ops M imp (fun _=>K') l W ts' H'
  cases ho:ops[i]? with
  | none=>rw[ho]at h; exact h.elim
  | some o =>
   rw[ho]at h;simp only[opJ]at h;cases hg:o.guard with
   | none =>
    rw[hg]at h;simp only[guK]at h;exact late ho (by simp[zAp,hg]) (zFc h (fun v H' h'=>⟨h'.1,zDf (g:=true) hk l _ _ _ hq h'.2⟩) (fun _ _ h'=>⟨h'.1,ACV.mono h'.2 fun v H' h''=>⟨h''.1,zDf (g:=true) hk l _ _ _ hq h''.2⟩⟩) id)
   | some q =>
    obtain⟨j,want⟩:=q;rw[hg]at h;simp only[guK]at h;cases hdd:(ops[j]?).bind (·.dst)with
    | none=>rw[hdd]at h; exact h.elim
    | some d =>
     rw[hdd]at h;simp only[tmK]at h;unfold gsK look at h
     split at h
     ·rename_i b hb;have hgv:gval ops ts j=some b:=by simp[gval,hdd,hb]
      by_cases e:b=want
      ·subst e;rw[show(b==b)=true by simp]at h;simp only[biK_t]at h;exact late ho (by simp[zAp,hg,hgv]) (zFc h (fun v H' h'=>⟨h'.1,zDf (g:=true) hk l _ _ _ hq h'.2⟩) (fun _ _ h'=>⟨h'.1,ACV.mono h'.2 fun v H' h''=>⟨h''.1,zDf (g:=true) hk l _ _ _ hq h''.2⟩⟩) id)
      ·rw[show(b==want)=false by simp[e]]at h;exact stepR_skip ho (by simp[zAp,hg,hgv,e]) ⟨h.1,zDf (g:=true) hk l _ _ _ hq h.2⟩
     ·rename_i hb;have hgv:gval ops ts j=none:=by simp[gval,hdd,hb]
      exact stepR_skip ho (by simp[zAp,hg,hgv]) ⟨h.1,zDf (g:=true) hk l _ _ _ hq h.2⟩
     ·exact h.elim
theorem FW.walkH(hm:P.follows .mixedOrders=true){ops:Array Oper}{imp:Nat→Bool}{l:List (Nat × Bool)}(hB:ordGB ops imp l=true)(hq:qtB ops l=true){rd:Option Nat}{n id:Nat}{k:List Item}{Q:Lv→(Nat→AV)→List AO→Prop}{ts:Nat→AV}{H:List AO}
  (h:symH P G ops (wt ops) imp (fun _ ts H=>FW P G rd n k ts H Q) true l WT ts H):FW P G rd n (.code (.region id ops true)::k) ts H Q :=
 FW.drawG hm hB (zDf (fun _ _ h=>h) l _ _ _ hq h)
end
end Go.Ab
