/- A text of this claim. -/
import Derived.Test.YtplmblgihfogjaaGreatDoorEv5
import Derived.Laws.StructEq
import Derived.WalkSpells
set_option maxHeartbeats 40000000
set_option maxRecDepth 400000
set_option linter.all false
namespace Go.Ab
section
variable {P:Program}
theorem aEqF_sound{w:World}{E:En}{d:Nat}(ih:∀ {t:TypeId} {x y:AV} {b:Bool} {r s:Value},aEq P d t x y=some b->RepV w E x r->RepV w E y s->(Op.equalIn d t r s).run P w=.ok b w)
  {xs ys:List AV} {vs us:Array Value} (hx:RepV w E (.agg xs) (.agg vs)) (hy:RepV w E (.agg ys) (.agg us)) :
  ∀(fs:List Field) {b:Bool},aEqF P (aEq P d) xs ys fs=some b->(Op.eqFields d vs us fs).run P w=.ok b w
 | [],b,h=>by cases h; rfl
 | f::fs,b,h=>by
  simp only[aEqF]at h
  split at h
  ·cases h
  ·rename_i hn
   split at h
   ·rename_i a c ha hc
    split at h
    ·rename_i r s hr hs;cases h;obtain⟨ra,e1,e2⟩:=zDg ha hx;obtain⟨rc,e3,e4⟩:=zDg hc hy;have e5:=ih hr e2 e4;have e6:=aEqF_sound ih hx hy fs hs;simp only[Op.eqFields,ne_eq,hn,not_false_eq_true,if_true,Sem.run_bind,e1,e3,e5,Result.andThen_ok];cases r
     ·simp
     ·simp[e6]
    ·cases h
   ·cases h
theorem aEqA_sound{w:World}{E:En}{d:Nat}{elem:TypeId}{n:Nat}(ih:∀ {x y:AV} {b:Bool} {r s:Value},aEq P d elem x y=some b->RepV w E x r->RepV w E y s->(Op.equalIn d elem r s).run P w=.ok b w)
  {xs ys:List AV} {vs us:Array Value} (hx:RepV w E (.agg xs) (.agg vs)) (hy:RepV w E (.agg ys) (.agg us)) :
  ∀(m i:Nat) {b:Bool},aEqA P (aEq P d elem) elem n xs ys i m=some b ->
  (forIn (List.range' i m) ((none:Option Bool),PUnit.unit) fun(k:Nat) (q:Option Bool × PUnit)=>(do
   let a <- part elem vs (k*n)
   let c <- part elem us (k*n)
   let r <- Op.equalIn d elem a c
   if (!r)=true then pure (ForInStep.done (some false,PUnit.unit)) else pure (ForInStep.yield (none,PUnit.unit)):Sem _)).run P w=.ok (if b=true then none else some false,PUnit.unit) w
 | 0,i,b,h=>by cases h; simp
 | m+1,i,b,h=>by
  simp only[aEqA]at h
  split at h
  ·rename_i a c ha hc
   split at h
   ·rename_i r s hr hs;cases h;obtain⟨ra,e1,e2⟩:=zDg ha hx;obtain⟨rc,e3,e4⟩:=zDg hc hy;have e5:=ih hr e2 e4;have e6:=aEqA_sound ih hx hy m (i+1) hs;rw[List.range'_succ,List.forIn_cons];simp only[Sem.run_bind,e1,e3,e5,Result.andThen_ok];cases r
    ·simp
    ·simp only[Bool.not_true,Bool.false_eq_true,if_false,Sem.run_pure,Result.andThen_ok,Bool.true_and];exact e6
   ·cases h
  ·cases h
theorem aEq_sound{w:World}{E:En}:∀(d:Nat) {t:TypeId} {x y:AV} {b:Bool} {r s:Value},aEq P d t x y=some b->RepV w E x r->RepV w E y s->(Op.equalIn d t r s).run P w=.ok b w
 | 0,t,x,y,b,r,s,h,_,_=>by cases h
 | d+1,t,x,y,b,r,s,h,hx,hy=>by
  simp only[aEq]at h
  split at h
  ·rename_i hu;cases h;rw[hx.c_inv,hy.c_inv];exact run_equalIn_bool' w d t _ _ hu
  ·rename_i hu
   split at h
   ·rename_i hk;subst hk;cases h;rw[hx.c_inv,hy.c_inv];exact run_equalIn_int w d t _ _ _ _ hu
   ·cases h
  ·rename_i hu;cases h;rw[hx.c_inv,hy.c_inv];simp[Op.equalIn,run_underlying hu]
  ·rename_i fs xs ys hu
   split at h
   ·rename_i hp;obtain⟨vs,rfl,_⟩:=agg_inv hx;obtain⟨us,rfl,_⟩:=agg_inv hy;have hf:P.fieldsOf t=fs:=by simp[Program.fieldsOf,hu]
    rw[run_equalIn_struct w d t vs us (by rw[hf]; exact hu) hp,hf];exact aEqF_sound (fun h=>aEq_sound d h) hx hy _ h
   ·cases h
  ·rename_i len elem xs ys hu
   split at h
   ·rename_i n hn;obtain⟨vs,rfl,_⟩:=agg_inv hx;obtain⟨us,rfl,_⟩:=agg_inv hy;simp only[Op.equalIn,Sem.run_bind,run_underlying hu,Result.andThen_ok,zBd hn];have:=aEqA_sound (fun h=>aEq_sound d h) hx hy len 0 h;have hr:(forIn [:len] ((none:Option Bool),()) fun(k:Nat) (q:Option Bool × Unit)=>(do
      let a <- part elem vs (k*n)
      let c <- part elem us (k*n)
      let r <- Op.equalIn d elem a c
      if (!r)=true then pure (ForInStep.done (some false,())) else pure (ForInStep.yield (none,())):Sem _)).run P w=.ok (if b=true then none else some false,()) w:=by
     rw[Std.Legacy.Range.forIn_eq_forIn_range'];simpa[Std.Legacy.Range.size]using this
    rw[hr];cases b <;> simp
   ·cases h
  ·cases h
theorem isNilS_rep{a:AV}{b:Bool}(h:zDd a=some b){w:World}{E:En}{r:Value}(hr:RepV w E a r):∃(ad:Option Addr) (m c:Nat),r=.slice ad m c/\ad.isNone=b/\(b=true->m=0/\c=0):=by
 unfold zDd at h
 split at h <;> first
  | (cases h; done)
  | (cases h
     cases hr
     first
      | exact⟨_,_,_,rfl,rfl,fun _=>⟨rfl,rfl⟩⟩
      | exact⟨_,_,_,rfl,rfl,fun h=>by cases h⟩)
theorem isNilI_rep{a:AV}{b:Bool}(h:isNilI a=some b){w:World}{E:En}{r:Value}(hr:RepV w E a r):(b=true/\r=.nilIface)\/(b=false/\∃ t v,r=.iface t v):=by
 unfold isNilI at h
 split at h
 ·cases h; cases hr; exact .inl ⟨rfl,rfl⟩
 ·cases h; cases hr; exact .inr ⟨rfl,_,_,rfl⟩
 ·cases h
theorem run_equalIn_I{w:World}{t:TypeId}{ms:Array (String × TypeId)}(hu:P.underlying t=some (.interface ms))(d:Nat){r s:Value}{b:Bool}
  (h:(r=.nilIface/\s=.nilIface/\b=true)\/(r=.nilIface/\(∃ t v,s=.iface t v)/\b=false)\/((∃ t v,r=.iface t v)/\s=.nilIface/\b=false)):(Op.equalIn (d+1) t r s).run P w=.ok b w:=by
 unfold Op.equalIn
 rcases h with ⟨rfl,rfl,rfl⟩ | ⟨rfl,⟨t',v',rfl⟩,rfl⟩ | ⟨⟨t',v',rfl⟩,rfl,rfl⟩ <;> simp only[Sem.run_bind,run_underlying hu,Result.andThen_ok,Sem.run_pure]
theorem run_eqGuardIn_I{w:World}{t:TypeId}{ms:Array (String × TypeId)}(hu:P.underlying t=some (.interface ms))(hm:ms.isEmpty=true)(d:Nat):(Op.eqGuardIn (d+1) t .nilIface .nilIface).run P w=.ok false w:=by
 unfold Op.eqGuardIn;simp only[Sem.run_bind,run_underlying hu,Result.andThen_ok,Sem.run_pure,hm,Bool.not_true]
theorem run_eqI{w:World}{t:TypeId}{ms:Array (String × TypeId)}(hu:P.underlying t=some (.interface ms))(hm:ms.isEmpty=true)(x y:Operand){r s:Value}{b:Bool}
  (h:(r=.nilIface/\s=.nilIface/\b=true)\/(r=.nilIface/\(∃ t v,s=.iface t v)/\b=false)\/((∃ t v,r=.iface t v)/\s=.nilIface/\b=false)) :
  (eqGuard .eql t x y r s).run P w=.ok () w/\(eqGuard .neq t x y r s).run P w=.ok () w/\(binOp .eql t r s).run P w=.ok (.bool b) w/\(binOp .neq t r s).run P w=.ok (.bool !b) w:=by
 have hgi:(Op.eqGuardIn Op.maxDepth t .nilIface .nilIface).run P w=.ok false w:=run_eqGuardIn_I hu hm 9999;have hg:∀ op,(op=.eql\/op=.neq)->(eqGuard op t x y r s).run P w=.ok () w:=fun op ho=>by
  rcases h with ⟨rfl,rfl,rfl⟩ | ⟨rfl,⟨t',v',rfl⟩,rfl⟩ | ⟨⟨t',v',rfl⟩,rfl,rfl⟩
  ·rcases ho with rfl | rfl <;>
   ·simp only[eqGuard];cases x <;> cases y <;> simp[hgi,Sem.run_bind,Result.andThen]
  ·rcases ho with rfl | rfl <;> simp[eqGuard]
  ·rcases ho with rfl | rfl <;> simp[eqGuard]
 have he:(Op.equal t r s).run P w=.ok b w:=run_equalIn_I hu 9999 h;refine⟨hg _ (.inl rfl),hg _ (.inr rfl),?_,?_⟩
 ·rcases h with ⟨rfl,rfl,rfl⟩ | ⟨rfl,⟨t',v',rfl⟩,rfl⟩ | ⟨⟨t',v',rfl⟩,rfl,rfl⟩ <;> (simp only[binOp]; simp[he])
 ·rcases h with ⟨rfl,rfl,rfl⟩ | ⟨rfl,⟨t',v',rfl⟩,rfl⟩ | ⟨⟨t',v',rfl⟩,rfl,rfl⟩ <;> (simp only[binOp]; simp[he])
theorem eqGuard_slice{w:World}{op:BinOp}{t:TypeId}{x y:Operand}{a b:Option Addr}{m c m' c':Nat}:(eqGuard op t x y (.slice a m c) (.slice b m' c')).run P w=.ok () w:=by
 cases op <;> simp[eqGuard]
theorem aEqS_sound{t:TypeId}{a c:AV}{b:Bool}(h:aEqS P t a c=some b){w:World}{E:En}{r s:Value}(hr:RepV w E a r)(hs:RepV w E c s)(x y:Operand) :
  (eqGuard .eql t x y r s).run P w=.ok () w/\(eqGuard .neq t x y r s).run P w=.ok () w/\(binOp .eql t r s).run P w=.ok (.bool b) w/\(binOp .neq t r s).run P w=.ok (.bool !b) w:=by
 unfold aEqS at h
 split at h
 ·split at h
  ·rename_i hg;obtain⟨vs,rfl,_⟩:=agg_inv hr;obtain⟨us,rfl,_⟩:=agg_inv hs;have:=aEq_sound 10000 h hr hs;exact⟨run_eqGuard_agg w _ t x y vs us hg,run_eqGuard_agg w _ t x y vs us hg,by rw[run_eql_struct,this]; rfl,by rw[run_neq_struct,this]; rfl⟩
  ·cases h
 ·split at h
  ·rename_i elem hu
   split at h
   ·rename_i b' h1 h2;cases h;obtain⟨ad,m,c,rfl,e1,e2⟩:=isNilS_rep h1 hr;obtain⟨ad',m',c',rfl,e3,_⟩:=isNilS_rep h2 hs;have:ad=none:=by cases ad <;> simp_all
    subst this;exact⟨eqGuard_slice,eqGuard_slice,by rw[run_eql_nil_slice w t elem ad' m' c' m c hu,e3],by rw[run_neq_nil_slice w t elem ad' m' c' m c hu,e3]⟩
   ·rename_i b' hne h1 h2;cases h;obtain⟨ad,m,c,rfl,e1,_⟩:=isNilS_rep h1 hr;obtain⟨ad',m',c',rfl,e3,e2⟩:=isNilS_rep h2 hs;have:ad'=none:=by cases ad' <;> simp_all
    subst this;obtain⟨rfl,rfl⟩:=e2 rfl;exact⟨eqGuard_slice,eqGuard_slice,by rw[Lib.run_eql_slice_nil w t elem ad m c 0 0 hu,e1],by rw[run_neq_slice_nil_any w t elem ad m c 0 0 hu,e1]⟩
   ·cases h
  ·rename_i ms hu
   split at h
   ·rename_i hm
    split at h
    ·rename_i b' h1 h2;cases h
     rcases isNilI_rep h1 hr with ⟨_,rfl⟩ | ⟨e,_⟩
     ·rcases isNilI_rep h2 hs with ⟨rfl,rfl⟩ | ⟨rfl,q⟩
      ·exact run_eqI hu hm x y (.inl ⟨rfl,rfl,rfl⟩)
      ·exact run_eqI hu hm x y (.inr (.inl ⟨rfl,q,rfl⟩))
     ·cases e
    ·rename_i b' hne h1 h2;cases h
     rcases isNilI_rep h2 hs with ⟨_,rfl⟩ | ⟨e,_⟩
     ·rcases isNilI_rep h1 hr with ⟨rfl,rfl⟩ | ⟨rfl,q⟩
      ·exact run_eqI hu hm x y (.inl ⟨rfl,rfl,rfl⟩)
      ·exact run_eqI hu hm x y (.inr (.inr ⟨q,rfl,rfl⟩))
     ·cases e
    ·cases h
   ·cases h
  ·cases h
end
section
variable {P:Program} {G:Gl} {n:Nat} {o:Oper} {ts:Nat->AV} {H H':List AO} {v:AV} {C:Prop}
theorem opv_bin{op:BinOp}{t yt:TypeId}{x y:Operand}(ho:o.op=.binOp op t x y yt)(h:aBin P op t (ev ts x) (ev ts y)=some (C,v))(hC:C):OpV P G n o ts H v H :=
 OpV.pure fun E w tmps hH hT hok D=>by
  obtain⟨q1,q2⟩:=opd2 (by rw[ho]; rfl) hok;have hx:=zAv hT q1 D;have hy:=zAv hT q2 D;unfold aBin at h
  split at h
  ·rename_i k a yk b e1 e2;rw[e1]at hx; rw[e2]at hy;have hx':=hx.c_inv;have hy':=hy.c_inv;cases hb:aBinI op k a yk b with
   | none=>rw[hb]at h; cases h
   | some p =>
    obtain⟨C',v'⟩:=p;rw[hb]at h; simp only[Option.map_some,Option.some.injEq,Prod.mk.injEq]at h;obtain⟨rfl,rfl⟩:=h;obtain⟨h1,h2⟩:=aBinI_sound (P:=P) (t:=t) hb hC w;refine⟨v',.c h2,?_⟩;simp only[execOp,ho,hx',hy',eqGuard_at_int,Sem.run_bind,Sem.run_pure,Result.andThen_ok,h1]
  ·rename_i a b e1 e2;rw[e1]at hx; rw[e2]at hy;have hx':=hx.c_inv;have hy':=hy.c_inv
   split at h <;> first | (cases h; done) | skip
   ·rename_i hu;cases h;refine⟨.bool (a==b),.c rfl,?_⟩;simp only[execOp,ho,hx',hy',eqGuard_at_bool,Sem.run_bind,Sem.run_pure,Result.andThen_ok,(run_bool_eq hu a b w).1]
   ·rename_i hu;cases h;refine⟨.bool (a != b),.c rfl,?_⟩;simp only[execOp,ho,hx',hy',eqGuard_at_bool,Sem.run_bind,Sem.run_pure,Result.andThen_ok,(run_bool_eq hu a b w).2]
  ·rename_i ha hb;have key:∀ b,aEqS P t (ev ts x) (ev ts y)=some b->∀(r s:Value),RepV w E (ev ts x) r->RepV w E (ev ts y) s ->
     (eqGuard .eql t x y r s).run P w=.ok () w/\(eqGuard .neq t x y r s).run P w=.ok () w/\(binOp .eql t r s).run P w=.ok (.bool b) w/\(binOp .neq t r s).run P w=.ok (.bool !b) w:=by
    intro b hb r s hr hs
    exact aEqS_sound hb hr hs x y
   unfold zAn at h
   split at h
   ·cases hq:aEqS P t (ev ts x) (ev ts y)with
    | none=>rw[hq]at h; cases h
    | some b =>
     rw[hq]at h; cases h;have:=key b hq _ _ hx hy;refine⟨.bool b,.c rfl,?_⟩;simp only[execOp,ho,Sem.run_bind,this.1,this.2.2.1,Sem.run_pure,Result.andThen_ok]
   ·cases hq:aEqS P t (ev ts x) (ev ts y)with
    | none=>rw[hq]at h; cases h
    | some b =>
     rw[hq]at h; cases h;have:=key b hq _ _ hx hy;refine⟨.bool !b,.c rfl,?_⟩;simp only[execOp,ho,Sem.run_bind,this.2.1,this.2.2.2,Sem.run_pure,Result.andThen_ok]
   ·cases h
end
end Go.Ab
