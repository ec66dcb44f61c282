/- A text of this claim. -/
import Derived.Test.YtplmblgihfogjaaGreatDoorEv7
import Derived.Maps.RangeRun
import Derived.WideKeyRuns
set_option maxHeartbeats 40000000
set_option maxRecDepth 400000
set_option linter.all false
namespace Go.Ab
section
variable {P:Program} {G:Gl} {n:Nat} {o:Oper} {ts:Nat->AV} {H H':List AO} {v:AV} {C:Prop}
theorem ckF_sound{b:Bool}{w:World}{E:En}{d:Nat}(ih:∀ {t:TypeId} {x:AV} {r:Value},ckOk P d t x=true->RepV w E x r->(Instr.checkKey b d t r).run P w=.ok () w)
  {xs:List AV} {vs:Array Value} (hx:RepV w E (.agg xs) (.agg vs)) :
  ∀(fs:List Field),ckF P (ckOk P d) xs fs=true ->
   (forIn fs PUnit.unit fun(f:Field) (_:PUnit)=>(do
    if f.name≠ "_" then do
     let a <- part f.type vs f.offset
     Instr.checkKey b d f.type a
     pure (ForInStep.yield PUnit.unit)
    else pure (ForInStep.yield PUnit.unit):Sem _)).run P w=.ok PUnit.unit w
 | [],h=>by simp
 | f::fs,h=>by
  simp only[ckF,zA]at h;have e6:=ckF_sound ih hx fs h.2;rw[List.forIn_cons]
  by_cases hn:f.name= "_"
  ·simp only[hn,ne_eq,not_true_eq_false,if_false,Sem.run_bind,Sem.run_pure,Result.andThen_ok];exact e6
  ·have h1:=h.1;simp only[Bool.or_eq_true,beq_iff_eq,hn,false_or]at h1
   split at h1
   ·rename_i a ha;obtain⟨ra,e1,e2⟩:=zDg ha hx;have e5:=ih h1 e2;simp only[hn,ne_eq,not_false_eq_true,if_true,Sem.run_bind,Sem.run_pure,Result.andThen_ok,e1,e5];exact e6
   ·cases h1
theorem ckA_sound{b:Bool}{w:World}{E:En}{d:Nat}{elem:TypeId}{n:Nat}(hn:szT P elem=some n)(ih:∀ {x:AV} {r:Value},ckOk P d elem x=true->RepV w E x r->(Instr.checkKey b d elem r).run P w=.ok () w)
  {xs:List AV} {vs:Array Value} (hx:RepV w E (.agg xs) (.agg vs)) :
  ∀(m i:Nat),ckA P (ckOk P d elem) elem n xs i m=true ->
   (forIn (List.range' i m) PUnit.unit fun(k:Nat) (_:PUnit)=>(do
    let s <- sizeOf elem
    let a <- part elem vs (k*s)
    Instr.checkKey b d elem a
    pure (ForInStep.yield PUnit.unit):Sem _)).run P w=.ok PUnit.unit w
 | 0,i,h=>by simp
 | m+1,i,h=>by
  simp only[ckA,zA]at h;have e6:=ckA_sound hn ih hx m (i+1) h.2;have h1:=h.1
  split at h1
  ·rename_i a ha;obtain⟨ra,e1,e2⟩:=zDg ha hx;have e5:=ih h1 e2;rw[List.range'_succ,List.forIn_cons];simp only[Sem.run_bind,Sem.run_pure,Result.andThen_ok,zBd hn,e1,e5];exact e6
  ·cases h1
theorem ck_sound{b:Bool}{w:World}{E:En}:∀(d:Nat) {t:TypeId} {x:AV} {r:Value},ckOk P d t x=true->RepV w E x r->(Instr.checkKey b d t r).run P w=.ok () w
 | 0,t,x,r,h,_=>by cases h
 | d+1,t,x,r,h,hx=>by
  simp only[ckOk]at h
  split at h
  ·rename_i len elem cs hu
   split at h
   ·rename_i n hn;obtain⟨vs,rfl,_⟩:=agg_inv hx;have:=ckA_sound (b:=b) hn (fun h=>ck_sound d h) hx len 0 h;simp only[Instr.checkKey,Sem.run_bind,run_underlying hu,Result.andThen_ok];rw[Std.Legacy.Range.forIn_eq_forIn_range'];have e:=this;simp[Std.Legacy.Range.size]at e ⊢;rw[e]; rfl
   ·cases h
  ·rename_i fs cs hu;obtain⟨vs,rfl,_⟩:=agg_inv hx;have:=ckF_sound (b:=b) (fun h=>ck_sound d h) hx fs.toList h;simp only[Instr.checkKey,Sem.run_bind,run_underlying hu,Result.andThen_ok];rw[<- Array.forIn_toList];rw[this]; rfl
  ·rename_i hu;rw[hx.c_inv];simp[Instr.checkKey,run_underlying hu]
  ·rename_i hu;rw[hx.c_inv];simp[Instr.checkKey,run_underlying hu]
  ·rename_i hu;rw[hx.c_inv];simp[Instr.checkKey,run_underlying hu]
  ·cases h
theorem findAsking_sound{w:World}{E:En}{kt:TypeId}{k:AV}{kv:Value}(hk:RepV w E k kv):∀ {es:List (Nat × AV × AV)} {cs:List MapEntry} {q:Option Nat} (i:Nat),AlE w E es cs->zEk P kt k es=some q ->
  (Instr.findAsking kt kv cs i).run P w=.ok (q.map fun j=>(i+j,(cs.getD j default).val)) w/\∀ j,q=some j->j < es.length
 | [],[],q,i,_,h=>by cases h; exact⟨rfl,fun j hj=>by cases hj⟩
 | e::es,c::cs,q,i,ha,h=>by
  simp only[zEk]at h
  split at h
  ·rename_i hq;cases h;have:=aEq_sound 10000 hq hk ha.2.1;refine⟨?_,fun j hj=>by cases hj; simp⟩;simp[Instr.findAsking,Op.equal,Op.maxDepth,this]
  ·rename_i hq;cases hf:zEk P kt k es with
   | none=>rw[hf]at h; cases h
   | some o =>
    rw[hf]at h; cases h;have:=aEq_sound 10000 hq hk ha.2.1;obtain⟨ih1,ih2⟩:=findAsking_sound hk (i+1) ha.2.2.2 hf;refine⟨?_,fun j hj=>?_⟩
    ·simp[Instr.findAsking,Op.equal,Op.maxDepth,this,ih1];cases o <;> simp
     omega
    ·cases o with
     | none=>cases hj
     | some o=>simp at hj; have:=ih2 o rfl; simp; omega
  ·cases h
 | [],_::_,_,_,h,_=>h.elim
 | _::_,[],_,_,h,_=>h.elim
theorem run_equalIn_string9{w:World}{kt:TypeId}{d:Nat}(hd:P.underlying kt=some .string){a b:ByteArray}:(Op.equalIn (d+1) kt (.string a) (.string b)).run P w=.ok (a==b) w:=by
 simp[Op.equalIn,run_underlying hd]
theorem sameNow_sound{w:World}{E:En}{kt:TypeId}{d:TypeDesc}(hd:P.underlying kt=some d){k k2:AV}{kv kv2:Value}(hk:RepV w E k kv)(hk2:RepV w E k2 kv2){b b':Bool}
  (h:aEq P 10000 kt k k2=some b) (h':Instr.sameNow d kv kv2=some b'):b=b':=by
 have h1:=aEq_sound 10000 h hk hk2;have h2:(Op.equalIn 10000 kt kv kv2).run P w=.ok b' w:=by
  unfold Instr.sameNow at h'
  split at h'
  ·split at h'
   ·rename_i e; subst e; cases h';exact run_equalIn_int w 9999 kt _ _ _ _ hd
   ·cases h'
  ·cases h'; exact run_equalIn_string9 hd
  ·cases h'; exact run_equalIn_bool' w 9999 kt _ _ hd
  ·cases h'
 rw[h1]at h2
 injection h2
theorem findNow_sound{w:World}{E:En}{kt:TypeId}{d:TypeDesc}(hd:P.underlying kt=some d){k:AV}{kv:Value}(hk:RepV w E k kv):∀ {es:List (Nat × AV × AV)} {cs:List MapEntry} {q:Option Nat} (i:Nat) {a:Option (Nat × Value)},AlE w E es cs->zEk P kt k es=some q ->
  Instr.findNow d kv cs i=some a->a=q.map fun j=>(i+j,(cs.getD j default).val)
 | [],[],q,i,a,_,h,h'=>by cases h; cases h'; rfl
 | e::es,c::cs,q,i,a,ha,h,h'=>by
  simp only[zEk]at h;simp only[Instr.findNow]at h'
  split at h'
  ·rename_i hs;cases h'
   split at h
   ·cases h; simp
   ·rename_i hq; have:=sameNow_sound hd hk ha.2.1 hq hs; cases this
   ·cases h
  ·rename_i hs
   split at h
   ·rename_i hq; have:=sameNow_sound hd hk ha.2.1 hq hs; cases this
   ·cases hf:zEk P kt k es with
    | none=>rw[hf]at h; cases h
    | some o =>
     rw[hf]at h; cases h;rw[findNow_sound hd hk (i+1) ha.2.2.2 hf h'];cases o <;> simp
     omega
   ·cases h
  ·cases h'
 | [],_::_,_,_,_,h,_,_=>h.elim
 | _::_,[],_,_,_,h,_,_=>h.elim
theorem zDm{w:World}{E:En}{kt:TypeId}{d:TypeDesc}(hd:P.underlying kt=some d){k:AV}{kv:Value}(hk:RepV w E k kv){es:List (Nat × AV × AV)}{cs:List MapEntry}{q:Option Nat}(ha:AlE w E es cs)(h:zEk P kt k es=some q) :
  (Instr.findKey kt kv cs).run P w=.ok (q.map fun j=>(j,(cs.getD j default).val)) w/\∀ j,q=some j->j < es.length:=by
 obtain⟨h1,h2⟩:=findAsking_sound hk 0 ha h;refine⟨?_,h2⟩;simp only[Nat.zero_add]at h1;simp only[Instr.findKey,Sem.run_bind,run_underlying hd,Result.andThen_ok];cases hn:Instr.findNow d kv cs 0 with
 | some a =>
  have:=findNow_sound hd hk 0 ha h hn;simp only[Nat.zero_add]at this;simp[this]
 | none=>simp[h1]
theorem agg_inv2{w:World}{E:En}{cs:List AV}{r:Value}(h:RepV w E (.agg cs) r):∃ vs,r=.agg vs/\vs.size=cs.length/\∀ i,i < cs.length->(cs.getD i .un).isCell=true/\RepV w E (cs.getD i .un) (vs.getD i undef):=by
 cases h with
 | agg hl hc h=>exact⟨_,rfl,hl,fun i hi=>⟨hc i hi,h i hi⟩⟩
theorem flatC_inv{a:AV}(h:flatC a=true):(∃ k q,a=.c (.int k q))\/∃ b,a=.c (.bool b):=by
 unfold flatC at h
 split at h
 ·exact .inl ⟨_,_,rfl⟩
 ·exact .inr ⟨_,rfl⟩
 ·cases h
theorem flatC_eq{w w':World}{E E':En}{a:AV}(h:flatC a=true){r s:Value}(hr:RepV w E a r)(hs:RepV w' E' a s):r=s/\∀ n,Instr.sameBits n r r=true:=by
 rcases flatC_inv h with ⟨k,q,rfl⟩ | ⟨b,rfl⟩
 ·rw[hr.c_inv,hs.c_inv]; exact⟨rfl,fun n=>by cases n <;> simp[Instr.sameBits]⟩
 ·rw[hr.c_inv,hs.c_inv]; exact⟨rfl,fun n=>by cases n <;> simp[Instr.sameBits]⟩
theorem flat_eq{w:World}{E:En}{a:AV}(hf:flatA a=true){r s:Value}(hr:RepV w E a r)(hs:RepV w E a s):r=s/\Instr.sameBits 10000 r r=true:=by
 by_cases hagg:∃ cs,a=.agg cs
 ·obtain⟨cs,rfl⟩:=hagg;obtain⟨vs,rfl,hv1,hv2⟩:=agg_inv2 hr;obtain⟨us,rfl,hu1,hu2⟩:=agg_inv2 hs;simp only[flatA,List.all_eq_true]at hf;have key:∀ i,i < cs.length->vs.getD i undef=us.getD i undef/\∀ n,Instr.sameBits n (vs.getD i undef) (vs.getD i undef)=true:=fun i hi=>by
   have hg:cs.getD i .un=cs[i]:=by simp[List.getD,hi]
   exact flatC_eq (hf (cs.getD i .un) (by rw[hg]; exact List.getElem_mem hi)) (hv2 i hi).2 (hu2 i hi).2
  refine⟨?_,?_⟩
  ·congr 1
   refine Array.ext (by omega) (fun i h1 h2=>?_);have:=(key i (by omega)).1;simpa[Array.getD,h1,h2]using this
  ·show(vs.size==vs.size&&(vs.toList.zip vs.toList).all fun p=>Instr.sameBits 9999 p.1 p.2)=true;simp only[beq_self_eq_true,Bool.true_and,List.all_eq_true]
   rintro⟨x,y⟩ hxy
   obtain⟨i,hi,he⟩:=List.getElem_of_mem hxy;have hi':i < vs.size:=by simp at hi; exact hi
   simp only[List.getElem_zip,Array.getElem_toList,Prod.mk.injEq]at he;obtain⟨rfl,rfl⟩:=he;have:=(key i (by omega)).2 9999;simpa[Array.getD,hi']using this
 ·have:flatC a=true:=by cases a <;> first | exact hf | exact absurd ⟨_,rfl⟩ hagg
  have:=flatC_eq this hr hs;exact⟨this.1,this.2 10000⟩
theorem opv_makeMap{t:TypeId}(ho:o.op=.makeMap t none):OpV P G n o ts H (.mp H.length) (H++[.map [] 0]):=by
 intro E w tmps hH hT hok D
 have hr:=zFq hH (.map #[] 0) (.map [] 0) ⟨w.heap.size,0,1⟩ rfl (fun E' hm _=>⟨#[],getElem?_alloc_new w _,trivial⟩);exact⟨_,_,.map (some w.heap.size),hr.1,hr.2.1,.mp hr.2.2,.inl (by simp[execOp,ho,Instr.makeMap,newObj,Sem.run_bind,Sem.run])⟩
theorem AlE.length{w:World}{E:En}:∀ {es:List (Nat × AV × AV)} {cs:List MapEntry},AlE w E es cs->es.length=cs.length
 | [],[],_=>rfl
 | e::es,c::cs,h=>by simp[AlE.length h.2.2.2]
 | [],_::_,h=>h.elim
 | _::_,[],h=>h.elim
theorem AlE.get{w:World}{E:En}:∀ {es:List (Nat × AV × AV)} {cs:List MapEntry} (i:Nat),AlE w E es cs->i < es.length ->
  (cs.getD i default).born=(es.getD i default).1/\RepV w E (es.getD i default).2.1 (cs.getD i default).key/\RepV w E (es.getD i default).2.2 (cs.getD i default).val
 | [],[],i,_,hi=>by simp at hi
 | e::es,c::cs,0,h,_=>⟨h.1,h.2.1,h.2.2.1⟩
 | e::es,c::cs,i+1,h,hi=>by simpa using AlE.get i h.2.2.2 (by simpa using hi)
 | [],_::_,_,h,_=>h.elim
 | _::_,[],_,h,_=>h.elim
theorem AlE.modify{w:World}{E:En}:∀ {es:List (Nat × AV × AV)} {cs:List MapEntry} (i:Nat) {k v:AV} {kr vr:Value},AlE w E es cs->i < es.length->RepV w E k kr->RepV w E v vr ->
  AlE w E (es.set i ((es.getD i default).1,k,v)) (cs.modify i fun e=>{ e with key:=kr,val:=vr })
 | [],[],i,_,_,_,_,h,hi,_,_=>by simp at hi
 | e::es,c::cs,0,_,_,_,_,h,_,h1,h2=>⟨h.1,h1,h2,h.2.2.2⟩
 | e::es,c::cs,i+1,_,_,_,_,h,hi,h1,h2=>by
  have:=AlE.modify i h.2.2.2 (by simpa using hi) h1 h2;simp only[List.set_cons_succ,List.getD_cons_succ,List.modify_succ_cons];exact⟨h.1,h.2.1,h.2.2.1,this⟩
 | [],_::_,_,_,_,_,_,h,_,_,_=>h.elim
 | _::_,[],_,_,_,_,_,h,_,_,_=>h.elim
theorem AlE.push{w:World}{E:En}:∀ {es:List (Nat × AV × AV)} {cs:List MapEntry} {b:Nat} {k v:AV} {c:MapEntry},AlE w E es cs->c.born=b->RepV w E k c.key->RepV w E v c.val->AlE w E (es++[(b,k,v)]) (cs++[c])
 | [],[],_,_,_,_,h,h1,h2,h3=>⟨h1,h2,h3,trivial⟩
 | e::es,c::cs,_,_,_,_,h,h1,h2,h3=>⟨h.1,h.2.1,h.2.2.1,AlE.push h.2.2.2 h1 h2 h3⟩
 | [],_::_,_,_,_,_,h,_,_,_=>h.elim
 | _::_,[],_,_,_,_,h,_,_,_=>h.elim
theorem AlE.find{w:World}{E:En}{s:Nat}:∀ {es:List (Nat × AV × AV)} {cs:List MapEntry},AlE w E es cs->∀ {e:Nat × AV × AV},es.find? (fun e=>e.1==s)=some e ->
  ∃ c,cs.find? (fun c=>c.born==s)=some c/\RepV w E e.2.1 c.key/\RepV w E e.2.2 c.val
 | [],[],_,e,h=>by cases h
 | e0::es,c::cs,h,e,hf=>by
  simp only[List.find?_cons]at hf ⊢;rw[h.1]
  split at hf
  ·rename_i hs;cases hf;exact⟨c,rfl,h.2.1,h.2.2.1⟩
  ·exact AlE.find h.2.2.2 hf
 | [],_::_,h,_,_=>h.elim
 | _::_,[],h,_,_=>h.elim
theorem AlE.filter{w:World}{E:En}{p:Nat->Bool}:∀ {es:List (Nat × AV × AV)} {cs:List MapEntry},AlE w E es cs->AlE w E (es.filter fun e=>p e.1) (cs.filter fun c=>p c.born)
 | [],[],_=>trivial
 | e::es,c::cs,h=>by
  simp only[List.filter_cons,h.1];cases p e.1
  ·exact AlE.filter h.2.2.2
  ·exact⟨h.1,h.2.1,h.2.2.1,AlE.filter h.2.2.2⟩
 | [],_::_,h=>h.elim
 | _::_,[],h=>h.elim
theorem AlE.mem{w:World}{E:En}:∀ {es:List (Nat × AV × AV)} {cs:List MapEntry},AlE w E es cs->∀ {c:MapEntry},c∈cs->∃ e∈es,c.born=e.1/\RepV w E e.2.1 c.key/\RepV w E e.2.2 c.val
 | [],[],_,c,h=>by cases h
 | e::es,c0::cs,h,c,hc=>by
  rcases List.mem_cons.1 hc with rfl | hc
  ·exact⟨e,by simp,h.1,h.2.1,h.2.2.1⟩
  ·obtain⟨e',h1,h2⟩:=AlE.mem h.2.2.2 hc;exact⟨e',by simp[h1],h2⟩
 | [],_::_,h,_,_=>h.elim
 | _::_,[],h,_,_=>h.elim
theorem opv_mapUpdate{t:TypeId}{m k x:Operand}(ho:o.op=.mapUpdate t m k x){r:AR}(h:zDa P t (ev ts m) (ev ts k) (ev ts x) H=some r)(hC:r.c):OpV P G n o ts H r.v r.H:=by
 intro E w tmps hH hT hok D
 have hall:∀ y,y∈(#[m,k,x]:Array Operand)->zDi n y=true:=fun y hy=>by
  simp only[zBj,ho,Op.operands,zA]at hok;exact(Array.all_eq_true'.1 hok.2) y hy
 have hm:=zAv hT (hall m (by simp)) D;have hk:=zAv hT (hall k (by simp)) D;have hx:=zAv hT (hall x (by simp)) D;have hexec:execOp (Act.eval ⟨tmps,D⟩) o=(do Instr.mapUpdate t (Act.eval ⟨tmps,D⟩ m) (Act.eval ⟨tmps,D⟩ k) (Act.eval ⟨tmps,D⟩ x); pure .skip):=by
  simp[execOp,ho]
 rw[hexec]
 generalize Act.eval ⟨tmps,D⟩ m=rm at hm
 generalize Act.eval ⟨tmps,D⟩ k=rk at hk
 generalize Act.eval ⟨tmps,D⟩ x=rx at hx
 generalize ev ts m=am at hm h
 generalize ev ts k=ak at hk h
 generalize ev ts x=ax at hx h
 unfold zDa at h
 split at h
 ·rename_i kt et id hu
  split at h
  ·rename_i es clock hid
   split at h
   ·rename_i hcnd;obtain⟨hck,hfl⟩:=hcnd;cases hm with | @mp _ l hl =>
    obtain⟨l',hl',ces,hces,hal⟩:=hH.obj id _ hid rfl;rw[hl]at hl'; cases hl';have hckr:=ck_sound (b:=false) 10000 hck hk;have hkt:∃ d,P.underlying kt=some d:=by
     cases hd:P.underlying kt with
     | some d=>exact⟨d,rfl⟩
     | none=>simp[ckOk,hd]at hck
    obtain⟨d,hd⟩:=hkt;have hget:(getObj l.b).run P w=.ok (.map ces clock) w:=by simp[getObj,Sem.run,hces]
    split at h
    ·rename_i i hf;cases h;obtain⟨hfk,hlt⟩:=zDm hd hk hal hf;have hi:=hlt i rfl;have hic:i < ces.size:=by have:=hal.length; simp at this; omega
     obtain⟨q1,q2,q3⟩:=hal.get i hi;have hC':(es.getD i default).2.1=ak:=hC;rw[hC']at q2;have hsame:=flat_eq hfl hk q2;have hcg:ces.toList.getD i default=ces[i]:=by simp[List.getD,hic]
     have hset:(setObj l.b (.map (ces.modify i fun e=>{ e with key:=rk,val:=rx }) clock)).run P w=.ok () { w with heap:=w.heap.setIfInBounds l.b (.map (ces.modify i fun e=>{ e with key:=rk,val:=rx }) clock) }:=by
      simp[setObj,Sem.run,hces]
     have hw:=zBw hH (w':={ w with heap:=w.heap.setIfInBounds l.b (.map (ces.modify i fun e=>{ e with key:=rk,val:=rx }) clock) }) hid rfl hl
      (.map (es.set i ((es.getD i default).1,ak,ax)) clock) (by simp) (fun c hcne=>Array.getElem?_setIfInBounds_ne (fun e=>hcne e.symm)) (fun q hq=>by simp[zAu,hces]at hq) rfl rfl ⟨rfl,Nat.le_refl _⟩
      (fun hmn=>⟨ces.modify i fun e=>{ e with key:=rk,val:=rx },by simp[zBg hces],by
       rw[Array.toList_modify];exact(hal.mono hmn).modify i hi (hk.mono hmn) (hx.mono hmn)⟩)
     refine⟨E,_,undef,hw.1,hw.2,.tup (vs:=#[]) rfl (fun i hi=>by simp at hi),.inr ⟨?_,rfl⟩⟩;have hkey:(ces[i]?.map (·.key)).getD rk=rk:=by
      rw[hcg]at hsame;simp[hic,<- hsame.1]
     have hstay:(Instr.keyThatStays rk rk).run P w=.ok rk w:=by simp[Instr.keyThatStays,hsame.2]
     simp only[Instr.mapUpdate,Sem.run_bind,run_underlying hu,Result.andThen_ok,hget,hckr,hfk,Option.map_some,hkey,hstay,hset,Sem.run_pure]
    ·rename_i hf;cases h;obtain⟨hfk,_⟩:=zDm hd hk hal hf;have hset:(setObj l.b (.map (ces.push { key:=rk,val:=rx,born:=clock }) (clock+1))).run P w=.ok () { w with heap:=w.heap.setIfInBounds l.b (.map (ces.push { key:=rk,val:=rx,born:=clock }) (clock+1)) }:=by
      simp[setObj,Sem.run,hces]
     have hw:=zBw hH (w':={ w with heap:=w.heap.setIfInBounds l.b (.map (ces.push { key:=rk,val:=rx,born:=clock }) (clock+1)) }) hid rfl hl
      (.map (es++[(clock,ak,ax)]) (clock+1)) (by simp) (fun c hcne=>Array.getElem?_setIfInBounds_ne (fun e=>hcne e.symm)) (fun q hq=>by simp[zAu,hces]at hq) rfl rfl ⟨rfl,Nat.le_refl _⟩
      (fun hmn=>⟨ces.push { key:=rk,val:=rx,born:=clock },by simp[zBg hces],by
       rw[Array.toList_push];exact(hal.mono hmn).push rfl (hk.mono hmn) (hx.mono hmn)⟩)
     refine⟨E,_,undef,hw.1,hw.2,.tup (vs:=#[]) rfl (fun i hi=>by simp at hi),.inr ⟨?_,rfl⟩⟩;simp only[Instr.mapUpdate,Sem.run_bind,run_underlying hu,Result.andThen_ok,hget,hckr,hfk,Option.map_none,hset,Sem.run_pure]
    ·cases h
   ·cases h
  ·cases h
 ·cases h
theorem opv_lookup{t:TypeId}{m k:Operand}{cm:Bool}(ho:o.op=.lookup t m k cm){r:AR}(h:aLookup P t (ev ts m) (ev ts k) cm H=some r)(hC:r.c):OpV P G n o ts H r.v r.H:=by
 intro E w tmps hH hT hok D
 have hall:∀ y,y∈(#[m,k]:Array Operand)->zDi n y=true:=fun y hy=>by
  simp only[zBj,ho,Op.operands,zA]at hok;exact(Array.all_eq_true'.1 hok.2) y hy
 have hm:=zAv hT (hall m (by simp)) D;have hk:=zAv hT (hall k (by simp)) D;have hexec:execOp (Act.eval ⟨tmps,D⟩) o=(do pure (.value (<- Instr.lookup t (Act.eval ⟨tmps,D⟩ m) (Act.eval ⟨tmps,D⟩ k) cm))):=by
  simp[execOp,ho]
 rw[hexec]
 generalize Act.eval ⟨tmps,D⟩ m=rm at hm
 generalize Act.eval ⟨tmps,D⟩ k=rk at hk
 generalize ev ts m=am at hm h
 generalize ev ts k=ak at hk h
 have hlk:∀ {av:AV} {rv:Value} (b:Bool),RepV w E av rv->RepV w E (lkRes cm av b) (if cm=true then .tuple #[rv,.bool b] else rv):=fun {av rv} b hv=>by
  cases cm with
  | true =>
   refine .tup (by simp) (fun i hi=>?_)
   match i with
   | 0=>exact hv
   | 1=>exact .c rfl
   | i+2=>simp at hi; omega
  | false=>exact hv
 have hz0:∀ {et:TypeId} {r:AR},lkZero P et cm H=some r->∃ zv,(zeroValue et).run P w=.ok zv w/\r.H=H/\RepV w E r.v (if cm=true then .tuple #[zv,.bool false] else zv):=fun {et r} h=>by
  unfold lkZero at h
  split at h
  ·rename_i z hz;obtain⟨zv,h1,⟨h2,h3⟩,rfl,_⟩:=zDb hz;cases h;exact⟨zv,zCe h1 w,rfl,hlk false (rep_const h2 w E)⟩
  ·cases h
 unfold aLookup at h
 split at h
 ·rename_i kt et hu
  split at h
  ·rename_i hck;have hckr:=fun b=>ck_sound (b:=b) 10000 hck hk
   have hkt:∃ d,P.underlying kt=some d:=by
    cases hd:P.underlying kt with
    | some d=>exact⟨d,rfl⟩
    | none=>simp[ckOk,hd]at hck
   obtain⟨d,hd⟩:=hkt
   split at h
   ·rename_i id
    split at h
    ·rename_i es clock hid;cases hm with | @mp _ l hl =>
     obtain⟨l',hl',ces,hces,hal⟩:=hH.obj id _ hid rfl;rw[hl]at hl'; cases hl';have hget:(getObj l.b).run P w=.ok (.map ces clock) w:=by simp[getObj,Sem.run,hces]
     split at h
     ·rename_i i hf;cases h;obtain⟨hfk,hlt⟩:=zDm hd hk hal hf;obtain⟨q1,q2,q3⟩:=hal.get i (hlt i rfl);refine⟨E,w,_,hH,Grow.refl _ _ _,hlk true q3,.inl ?_⟩;simp only[Instr.lookup,Sem.run_bind,run_underlying hu,Result.andThen_ok,hget,hckr,hfk,Option.map_some,Sem.run_pure]
     ·rename_i hf;obtain⟨hfk,_⟩:=zDm hd hk hal hf;obtain⟨zv,z1,z2,z3⟩:=hz0 h;rw[z2];refine⟨E,w,_,hH,Grow.refl _ _ _,z3,.inl ?_⟩;simp only[Instr.lookup,Sem.run_bind,run_underlying hu,Result.andThen_ok,hget,hckr,hfk,Option.map_none,z1,Sem.run_pure]
     ·cases h
    ·cases h
   ·have hmn:=hm.c_inv;subst hmn;obtain⟨zv,z1,z2,z3⟩:=hz0 h;rw[z2];refine⟨E,w,_,hH,Grow.refl _ _ _,z3,.inl ?_⟩;have hfk:(Instr.findKey kt rk []).run P w=.ok none w:=by simp[Instr.findKey,Sem.run_bind,run_underlying hd,Instr.findNow]
    simp only[Instr.lookup,Sem.run_bind,run_underlying hu,Result.andThen_ok,hckr,hfk,z1,Sem.run_pure]
   ·cases h
  ·cases h
 ·cases h
theorem opv_range{t:TypeId}{x:Operand}(ho:o.op=.range t x){r:AR}(h:aRange P t (ev ts x) H=some r)(hC:r.c):OpV P G n o ts H r.v r.H:=by
 intro E w tmps hH hT hok D
 have hx:=zAv hT (opd1 (by rw[ho]; rfl) hok) D;have hexec:execOp (Act.eval ⟨tmps,D⟩) o=(do pure (.value (<- Instr.range t (Act.eval ⟨tmps,D⟩ x)))):=by simp[execOp,ho]
 rw[hexec]
 generalize Act.eval ⟨tmps,D⟩ x=rx at hx
 generalize ev ts x=ax at hx h
 unfold aRange at h
 split at h
 ·rename_i kt et id hu
  split at h
  ·rename_i es clock hid;cases h;cases hx with | @mp _ l hl =>
   obtain⟨l',hl',ces,hces,hal⟩:=hH.obj id _ hid rfl;rw[hl]at hl'; cases hl';have hr:=zFq hH (.mapIter (some l.b) clock #[] clock) (.mit id clock [] clock) ⟨w.heap.size,0,1⟩ rfl (fun E' hm _=>⟨l,rfl,hm.loc _ _ hl,getElem?_alloc_new w _⟩);exact⟨_,_,_,hr.1,hr.2.1,.ptr hr.2.2,.inl (by
    simp only[Sem.run_bind,run_range_map w t kt et l.b ces clock hu hces,Result.andThen_ok,Sem.run_pure])⟩
  ·cases h
 ·cases h
theorem opv_entry{x:Operand}(ho:o.op=.entry x){r:AR}(h:aEntry (ev ts x) H=some r)(hC:r.c):OpV P G n o ts H r.v r.H:=by
 intro E w tmps hH hT hok D
 have hx:=zAv hT (opd1 (by rw[ho]; rfl) hok) D;have hexec:execOp (Act.eval ⟨tmps,D⟩) o=(do pure (.value (<- Instr.entry (Act.eval ⟨tmps,D⟩ x)))):=by simp[execOp,ho]
 rw[hexec]
 generalize Act.eval ⟨tmps,D⟩ x=rx at hx
 generalize ev ts x=ax at hx h
 unfold aEntry at h
 split at h
 ·rename_i id
  split at h
  ·rename_i mid since seen stepped hid
   split at h
   ·rename_i stamp es clock hlast hmid
    split at h
    ·rename_i hcl
     split at h
     ·rename_i e he;cases h;cases hx with | @ptr _ _ l hl =>
      obtain⟨l',hl',lm,hb0,hlm,hit⟩:=hH.obj id _ hid rfl;rw[hl]at hl'; cases hl';obtain⟨lm',hlm',ces,hces,hal⟩:=hH.obj mid _ hmid rfl;rw[hlm]at hlm'; cases hlm';obtain⟨c,hc,hk,hv⟩:=hal.find he;have hback:seen.toArray.back?=some stamp:=by simpa using hlast
      have hfind:ces.find? (fun c=>c.born==stamp)=some c:=by rw[<- Array.find?_toList]; exact hc
      refine⟨E,w,.tuple #[c.key,c.val],hH,Grow.refl _ _ _,.tup (by simp) (fun i hi=>?_),.inl ?_⟩
      ·rcases i with _ | _ | i
       ·exact hk
       ·exact hv
       ·exact absurd hi (by simp)
      ·simp only[hb0,Nat.zero_add,Instr.entry,getObj,Sem.run_bind,Sem.run,hit,hces,hback,Result.andThen,hcl,bne_self_eq_false,Bool.false_eq_true,if_false,hfind];rfl
     ·cases h
    ·cases h
   ·cases h
  ·cases h
 ·cases h
theorem OpS.next{x:Operand}(ho:o.op=.next x false){id mid since clock:Nat}{seen:List Nat}{cands:List (Nat × AV × AV)}(h:aNext (ev ts x) H=some (id,mid,since,seen,clock,cands)){K:AV->List AO->Prop}
  (h0:cands=[]->K (.tup [.c (.bool false)]) H) (h1:∀ e∈cands,K (.tup [.c (.bool true),e.2.1,e.2.2]) (H.set id (.mit mid since (seen++[e.1]) clock))):OpS P G n o ts H K:=by
 intro E w tmps hH hT hok D c cs
 have hx:=zAv hT (opd1 (by rw[ho]; rfl) hok) D;have hexec:execOp (Act.eval ⟨tmps,D⟩) o=(do pure (.value (<- Instr.next (Act.eval ⟨tmps,D⟩ x) false o.type))):=by simp[execOp,ho]
 generalize Act.eval ⟨tmps,D⟩ x=rx at hx hexec
 generalize ev ts x=ax at hx h
 unfold aNext at h
 split at h
 ·rename_i id'
  split at h
  ·rename_i mid' since' seen' stepped hid
   split at h
   ·rename_i es clock' hmid
    split at h
    ·rename_i hcnd;cases h;cases hx with | @ptr _ _ l hl =>
     obtain⟨l',hl',lm,hb0,hlm,hit⟩:=hH.obj id _ hid rfl;rw[hl]at hl'; cases hl';obtain⟨lm',hlm',ces,hces,hal⟩:=hH.obj mid _ hmid rfl;rw[hlm]at hlm'; cases hlm';have hold:∀ x∈ces.toList,x.born < since:=fun x hx=>by
      obtain⟨e,he,hbe,_⟩:=hal.mem hx;have:=List.all_eq_true.1 hcnd.1 e he;rw[hbe]; simpa using this
     have hcand:AlE w E (zDs es seen) (leftOf ces seen.toArray).toList:=by
      have:=hal.filter (p:=fun b=>!seen.contains b);unfold leftOf zDs;rw[Array.toList_filter];simpa using this
     have hadd:l.base+0=0:=by omega
     rw[hadd]at hexec
     rcases run_next_at (P:=P) w o.type l.b lm.b since stepped seen.toArray ces clock hit hces hold hcnd.2 with ⟨hz,hrun⟩ | ⟨e,he,w1,hw1,hrun⟩
     ·have hc0:zDs es seen=[]:=by
       have h9:(zDs es seen).length=(leftOf ces seen.toArray).toList.length:=hcand.length;rw[show(leftOf ces seen.toArray).toList.length=(leftOf ces seen.toArray).size from Array.length_toList,hz]at h9;exact List.eq_nil_of_length_eq_zero h9
      exact⟨_,H,E,w,_,h0 hc0,hH,Grow.refl _ _ _,.tup (vs:=#[.bool false]) rfl (fun i hi=>by
       have hi0:i=0:=by simp at hi; omega
       subst hi0; exact .c rfl),.inl (by rw[hexec]; simp only[Sem.run_bind,hrun,Result.andThen_ok,Sem.run_pure])⟩
     ·obtain⟨e',he',hbe,hke,hve⟩:=hcand.mem he;have hR1:RelH G w1 E H/\Mono w E w1 E/\Grow H E w H E w1:=by
       rcases hw1 with rfl | rfl
       ·exact⟨hH,Mono.refl _ _,Grow.refl _ _ _⟩
       ·have:=zFk hH (w':=w.drew) rfl;exact⟨this.1,this.2,⟨this.2,Nat.le_refl _,fun _ _ _=>rfl,fun _ h=>.inl h,fun _ h=>.inl h,rfl,rfl,⟨rfl,by first | exact Nat.le_refl _ | exact Nat.le_add_right _ _⟩⟩⟩
      obtain⟨hH1,hm1,hg1⟩:=hR1;have hit1:w1.heap[l.b]?=some (.mapIter (some lm.b) since seen.toArray stepped):=by rcases hw1 with rfl | rfl <;> exact hit
      have hsb:ChangeMaps.setBlock w1 l.b (.mapIter (some lm.b) since (seen.toArray.push e.born) clock)={ w1 with heap:=w1.heap.setIfInBounds l.b (.mapIter (some lm.b) since (seen.toArray.push e.born) clock) }:=rfl;have hw:=zBw hH1 (w':=ChangeMaps.setBlock w1 l.b (.mapIter (some lm.b) since (seen.toArray.push e.born) clock)) hid rfl hl
       (.mit mid since (seen++[e'.1]) clock) (by rw[hsb]; simp) (fun c hcne=>by rw[hsb]; exact Array.getElem?_setIfInBounds_ne (fun e=>hcne e.symm)) (fun q hq=>by simp[zAu,hit1]at hq) (by rw[hsb]) (by rw[hsb]) (by rw[hsb]; exact⟨rfl,Nat.le_refl _⟩)
       (fun hmn=>⟨lm,hb0,hlm,by rw[hsb]; simp[zBg hit1,hbe]⟩)
      exact⟨_,_,E,_,_,h1 e' he',hw.1,hg1.trans hw.2,.tup (vs:=#[.bool true,e.key,e.val]) rfl (fun i hi=>by
       rcases i with _ | _ | _ | i
       ·exact .c rfl
       ·exact(hke.mono hm1).mono hw.2.mono
       ·exact(hve.mono hm1).mono hw.2.mono
       ·exact absurd hi (by simp)),.inl (by rw[hexec]; simp only[Sem.run_bind,hrun,Result.andThen_ok,Sem.run_pure])⟩
    ·cases h
   ·cases h
  ·cases h
 ·cases h
theorem opv_typeAssert{x:Operand}{xt t:TypeId}{cm:Bool}(ho:o.op=.typeAssert x xt t cm)(h:aTA P (ev ts x) t cm=some v):OpV P G n o ts H v H :=
 OpV.pure fun E w tmps hH hT hok D=>by
  have hx:=zAv hT (opd1 (by rw[ho]; rfl) hok) D;have hpair:∀ {a:AV} {ra:Value} {b:Bool},RepV w E a ra->RepV w E (.tup [a,.c (.bool b)]) (.tuple #[ra,.bool b]):=fun {a ra b} hr=>by
   refine .tup (by simp) (fun i hi=>?_)
   match i with
   | 0=>exact hr
   | 1=>exact .c rfl
   | i+2=>simp at hi; omega
  have hz:∀ {v:AV},(zBo P t).map (fun z=>AV.tup [z,.c (.bool false)])=some v->∃ zv,(zeroValue t).run P w=.ok zv w/\RepV w E v (.tuple #[zv,.bool false]):=fun {v} hv=>by
   cases hz:zBo P t with
   | none=>rw[hz]at hv; cases hv
   | some z =>
    rw[hz]at hv; cases hv;obtain⟨zv,h1,⟨h2,h3⟩,rfl,_⟩:=zDb hz;exact⟨zv,zCe h1 w,hpair (rep_const h2 w E)⟩
  unfold aTA at h
  split at h
  ·cases h
  ·cases h
  ·rename_i d hne hu;have hI:∀(t':TypeId) (q:Value),(Instr.typeAssert (.iface t' q) xt t cm).run P w=(if t'=t then (pure (if cm then .tuple #[q,.bool true] else q)) else if cm then (do pure (.tuple #[<- zeroValue t,.bool false])) else runtimePanic (.typeAssertion (some xt) (some t') t ""):Sem Value).run P w:=fun t' q=>by
    unfold Instr.typeAssert;simp only[Sem.run_bind,run_underlying hu,Result.andThen_ok]
   have hN:(Instr.typeAssert .nilIface xt t cm).run P w=(if cm then (do pure (.tuple #[<- zeroValue t,.bool false])) else runtimePanic (.typeAssertion (some xt) none t ""):Sem Value).run P w:=by
    unfold Instr.typeAssert;simp only[Sem.run_bind,run_underlying hu,Result.andThen_ok]
   have hex:∀ r,(Instr.typeAssert (Act.eval ⟨tmps,D⟩ x) xt t cm).run P w=.ok r w->(execOp (Act.eval ⟨tmps,D⟩) o).run P w=.ok (.value r) w:=fun r hr=>by
    simp[execOp,ho,Sem.run_bind,hr,Result.andThen]
   generalize ev ts x=a at h hx
   generalize hq:Act.eval ⟨tmps,D⟩ x=q0 at hx hex
   have hfail:∀ {q0:Value},cm=true->(zBo P t).map (fun z=>AV.tup [z,.c (.bool false)])=some v->(Instr.typeAssert q0 xt t cm).run P w=(do pure (.tuple #[<- zeroValue t,.bool false]):Sem Value).run P w ->
     ∃ r,RepV w E v r/\(Instr.typeAssert q0 xt t cm).run P w=.ok r w:=fun {q0} _ hv he=>by
    obtain⟨zv,h1,h2⟩:=hz hv;exact⟨_,h2,by rw[he]; simp[Sem.run_bind,h1,Result.andThen]⟩
   split at h
   ·rename_i t' u;cases hx;rename_i q hq2
    split at h
    ·rename_i hb;have e:=Nat.eq_of_beq_eq_true hb;subst e;cases h;refine⟨if cm=true then .tuple #[q,.bool true] else q,?_,hex _ (by rw[hI,if_pos rfl]; rfl)⟩;cases cm with
     | true=>exact hpair hq2
     | false=>exact hq2
    ·rename_i hb;have hne2:¬ t'=t:=fun e=>by subst e; rw[Nat.beq_refl]at hb; cases hb
     split at h
     ·rename_i hcm;obtain⟨r,h1,h2⟩:=hfail hcm h (q0:=.iface t' q) (by rw[hI,if_neg hne2,if_pos hcm]);exact⟨r,h1,hex _ h2⟩
     ·simp at h
   ·cases hx
    split at h
    ·rename_i hcm;obtain⟨r,h1,h2⟩:=hfail hcm h (q0:=.nilIface) (by rw[hN,if_pos hcm]);exact⟨r,h1,hex _ h2⟩
    ·simp at h
   ·simp at h
end
section
variable {P:Program} {G:Gl} {n:Nat} {o:Oper} {ts:Nat->AV} {H:List AO}
theorem opv_mm{mx:Bool}{args:Array Operand}{tys:Array TypeId}(ho:o.op=.call { callee:=.builtin (match mx with | true=>.max | false=>.min),args:=args,argTypes:=tys }){a b:Operand}(hargs:args.toList=[a,b])
  {v:AV} (h:aMM mx (ev ts a) (ev ts b)=some v):OpV P G n o ts H v H :=
 OpV.pure fun E w tmps hH hT hok D=>by
  have hall:∀ y,y∈args->zDi n y=true:=fun y hy=>by
   simp only[zBj,ho,Op.operands,Call.operands,zA]at hok;have:=(Array.all_eq_true'.1 hok.2) y;cases mx <;> exact this (by simp; exact hy)
  have hma:a∈args:=by rw[<- Array.mem_toList_iff,hargs]; simp
  have hmb:b∈args:=by rw[<- Array.mem_toList_iff,hargs]; simp
  unfold aMM at h
  split at h
  ·rename_i k x k' y hx hy;have h1:=zFf (zAv hT (hall a hma) D) hx;have h2:=zFf (zAv hT (hall b hmb) D) hy;cases h;have hl:(args.map (Act.eval ⟨tmps,D⟩)).toList=[.int k x,.int k' y]:=by rw[Array.toList_map,hargs]; simp[h1,h2]
   cases mx with
   | true =>
    refine⟨.int k (if x < y then y else x),.c rfl,?_⟩;have hexec:execOp (Act.eval ⟨tmps,D⟩) o=(do pure (.value (<- Builtin.max_ tys o.type (args.map (Act.eval ⟨tmps,D⟩))))):=by
     simp[execOp,ho,resolve,invoke,builtin]
    rw[hexec];simp only[Builtin.max_,hl,List.foldlM,Builtin.max2,Sem.run_bind,Sem.run_pure,Result.andThen_ok]
   | false =>
    refine⟨.int k (if y < x then y else x),.c rfl,?_⟩;have hexec:execOp (Act.eval ⟨tmps,D⟩) o=(do pure (.value (<- Builtin.min_ tys o.type (args.map (Act.eval ⟨tmps,D⟩))))):=by
     simp[execOp,ho,resolve,invoke,builtin]
    rw[hexec];simp only[Builtin.min_,hl,List.foldlM,Builtin.min2,Sem.run_bind,Sem.run_pure,Result.andThen_ok]
  ·cases h
theorem opv_cap{args:Array Operand}{tys:Array TypeId}(ho:o.op=.call { callee:=.builtin .cap,args:=args,argTypes:=tys }){t:TypeId}{x:Operand}(ht0:tys[0]?=some t)(h0:args[0]?=some x){m:Int}
  (h:aCap P t (ev ts x)=some m):OpV P G n o ts H (.c (.int .i64 m)) H :=
 OpV.pure fun E w tmps hH hT hok D=>by
  have hall:∀ y,y∈args->zDi n y=true:=fun y hy=>by
   simp only[zBj,ho,Op.operands,Call.operands,zA]at hok;exact(Array.all_eq_true'.1 hok.2) y (by simp; exact hy)
  have hx:=zAv hT (hall x (Array.mem_of_getElem? h0)) D;have ha0:(args.map (Act.eval ⟨tmps,D⟩))[0]?=some (Act.eval ⟨tmps,D⟩ x):=by simp[h0]
  have hexec:execOp (Act.eval ⟨tmps,D⟩) o=(do pure (.value (<- Builtin.cap_ tys o.type (args.map (Act.eval ⟨tmps,D⟩))))):=by
   simp[execOp,ho,resolve,invoke,builtin]
  generalize Act.eval ⟨tmps,D⟩ x=rx at hx ha0
  generalize ev ts x=ax at hx h
  unfold aCap at h;refine⟨.int .i64 m,.c rfl,?_⟩;rw[hexec]
  split at h
  ·rename_i e hu;cases h;have:=hx.c_inv;subst this;simp[Builtin.cap_,ht0,ha0,Sem.run_bind,run_underlying hu,goInt]
  ·rename_i e hu;cases h;cases hx;simp[Builtin.cap_,ht0,ha0,Sem.run_bind,run_underlying hu,goInt]
  ·rename_i e id off len cap sz hu;cases h;cases hx;simp[Builtin.cap_,ht0,ha0,Sem.run_bind,run_underlying hu,goInt]
  ·cases h
theorem row_splice{w:World}{E:En}(hH:RelH G w E H){id st:Nat}{sz:Nat}{es nw:List AV}{vs:List Value}(hid:H[id]?=some (.arr sz es)){l:Loc}(hl:E.loc id=some l)(hpos:0 < sz)(hr0:RepR w E sz nw vs.toArray)
  (hfit0:st+nw.length<=es.length) :
  ∃ w',(storeCells ⟨l.b,l.base+st*sz,none⟩ vs:Sem Unit).run P w=.ok () w'/\RelH G w' E (H.set id (.arr sz (es.take st++(nw++es.drop (st+nw.length)))))/\Grow H E w (H.set id (.arr sz (es.take st++(nw++es.drop (st+nw.length))))) E w':=by
 obtain⟨l',hl',hsz,cs,tt,hcs,hbd,hr⟩:=hH.obj id _ hid rfl;rw[hl]at hl'; cases hl';have hvl:vs.length=nw.length*sz:=by simpa using hr0.1
 have hfit:l.base+st*sz+0+vs.length<=cs.size:=by
  rw[hvl];have:st*sz+nw.length*sz<=es.length*sz:=by rw[<- Nat.add_mul]; exact Nat.mul_le_mul_right _ hfit0
  omega
 obtain⟨w',c',g2,g3,g4,g5,g6,g7,g8,g9,g10⟩:=zBy (P:=P) l.b tt vs (l.base+st*sz) 0 w cs hcs hfit (isEl_one hr0 hpos);have hlen3:(es.take st++(nw++es.drop (st+nw.length))).length=es.length:=by simp; omega
 have hres:=zBw hH hid rfl hl (.arr sz (es.take st++(nw++es.drop (st+nw.length)))) g5 g6
  (fun k hk=>by simp only[zAu,hcs,g3]at *; rw[g4]; exact hk) g7 g8 g9 (fun hm=>⟨hsz,c',tt,g3,by rw[hlen3,g4]; exact hbd,fun i hi=>by
   rw[hlen3]at hi;have hpos2:(i+1)*sz=i*sz+sz:=by rw[Nat.add_mul]; omega
   by_cases hlt:i < st
   ·have e:(es.take st++(nw++es.drop (st+nw.length))).getD i .un=es.getD i .un:=by
     simp only[List.getD];rw[zL (by simp; omega),List.getElem?_take,if_pos hlt]
    rw[e];obtain⟨a1,a2,a3⟩:=hr i hi;refine⟨a1,a2,fun j hj=>⟨(a3 j hj).1,?_⟩⟩;have hp:i*sz+j < st*sz:=by
     have:(i+1)*sz<=st*sz:=Nat.mul_le_mul_right _ hlt;omega
    rw[g10,if_neg (by omega)];exact(a3 j hj).2.mono hm
   ·by_cases hlt2:i < st+nw.length
    ·have e:(es.take st++(nw++es.drop (st+nw.length))).getD i .un=nw.getD (i - st) .un:=by
      simp only[List.getD];rw[List.getElem?_append_right (by simp; omega),zL (by simp; omega)]
      congr 2; simp; omega
     rw[e];have h5:=hr0.2 (i - st) (by omega);refine⟨h5.1,h5.2.1,fun j hj=>⟨(h5.2.2 j hj).1,?_⟩⟩;have hsp:i*sz=st*sz+(i - st)*sz:=by rw[<- Nat.add_mul]; congr 1; omega
     have hp:(i - st)*sz+j < nw.length*sz:=by
      have:(i - st+1)*sz<=nw.length*sz:=Nat.mul_le_mul_right _ (by omega);rw[Nat.add_mul]at this; omega
     rw[g10,if_pos (by rw[hvl]; omega)];have h7:=(h5.2.2 j hj).2.mono hm;rw[zCt]at h7;rw[show l.base+i*sz+j - (l.base+st*sz+0)=(i - st)*sz+j by omega];exact h7
    ·have e:(es.take st++(nw++es.drop (st+nw.length))).getD i .un=es.getD i .un:=by
      simp only[List.getD];rw[List.getElem?_append_right (by simp; omega),List.getElem?_append_right (by simp; omega),List.getElem?_drop]
      congr 2; simp; omega
     rw[e];obtain⟨a1,a2,a3⟩:=hr i hi;refine⟨a1,a2,fun j hj=>⟨(a3 j hj).1,?_⟩⟩;have hp:(st+nw.length)*sz<=i*sz:=Nat.mul_le_mul_right _ (by omega);rw[Nat.add_mul]at hp;rw[g10,if_neg (by rw[hvl]; omega)];exact(a3 j hj).2.mono hm⟩)
 exact⟨w',g2,hres.1,hres.2⟩
theorem isl_inv{w:World}{E:En}{es:List AV}{r:Value}(h:RepV w E (.isl es) r):∃(ad:Addr) (cc sz:Nat) (f:Nat->Nat->Value),r=.slice (some ad) es.length cc/\(0 < es.length->E.fro ad.block/\ad.spot=none)/\es.length<=cc /\
  (∀ i,i < es.length->(es.getD i .un).isEl=true/\(es.getD i .un).cells.length=sz)/\(∀ i j,i < es.length->j < sz->w.cell? ⟨ad.block,ad.off+i*sz+j,none⟩=some (f i j)) /\
  (∀ i j,i < es.length->j < sz->((es.getD i .un).cells.getD j .un).isCell=true)/\(∀ i j,i < es.length->j < sz->RepV w E ((es.getD i .un).cells.getD j .un) (f i j)):=by
 cases h;exact⟨_,_,_,_,rfl,by assumption,by assumption,by assumption,by assumption,by assumption,by assumption⟩
def takeA(q:Nat):AV->AV
 | .sl id st len cap=>.sl id st (min q len) cap
 | .isl es=>.isl (es.take q)
 | a=>a
theorem takeA_rep{w:World}{E:En}{x:AV}{r:Value}(h:RepV w E x r){sz:Nat}{c:Prop}{els:List AV}(he:elsOf H sz x=some (c,els))(hc:c)(q:Nat) :
  ∃ r',RepV w E (takeA q x) r'/\(∀(size m:Nat),Builtin.firstCells size m r'=Builtin.firstCells size m r)/\∃ c',elsOf H sz (takeA q x)=some (c',els.take q)/\c':=by
 unfold elsOf at he
 split at he
 ·rename_i id st len cap
  split at he
  ·rename_i sz' es ho
   split at he
   ·rename_i hcnd;cases he;cases h with | @sl _ _ _ _ l ad cc hl h1 h2 h3 =>
    refine⟨.slice (some ad) (min q len) cc,.sl hl (Nat.le_trans (Nat.min_le_right _ _) h1) h2 h3,fun size m=>rfl,True,?_,trivial⟩;simp only[takeA,elsOf,ho];rw[if_pos ⟨hcnd.1,by have:=Nat.min_le_right q len; omega⟩,List.take_take]
   ·cases he
  ·cases he
 ·rename_i es;cases he;obtain⟨ad,cc,sz0,f,rfl,hf,hcc,he1,hcell,hc1,h1⟩:=isl_inv h;have hlen:(els.take q).length<=els.length:=by rw[List.length_take]; omega
  have hget:∀ i,i < (els.take q).length->(els.take q).getD i .un=els.getD i .un:=fun i hi=>by
   simp only[List.getD];rw[List.getElem?_take,if_pos (by rw[List.length_take]at hi; omega)]
  refine⟨.slice (some ad) (els.take q).length cc,.isl (f:=f) (sz:=sz0) (fun h0=>hf (by omega)) (by omega) (fun i hi=>by rw[hget i hi]; exact he1 i (by omega)) (fun i j hi hj=>hcell i j (by omega) hj)
   (fun i j hi hj=>by rw[hget i hi]; exact hc1 i j (by omega) hj) (fun i j hi hj=>by rw[hget i hi]; exact h1 i j (by omega) hj),fun size m=>rfl,_,rfl,fun h0=>?_⟩
  rw[hget 0 h0];exact hc (by omega)
 ·cases he;exact⟨r,h,fun _ _=>rfl,True,by simp[takeA,elsOf],trivial⟩
 ·cases he;exact⟨r,h,fun _ _=>rfl,True,by simp[takeA,elsOf],trivial⟩
 ·cases he
theorem opv_copy{args:Array Operand}{tys:Array TypeId}(ho:o.op=.call { callee:=.builtin .copy,args:=args,argTypes:=tys }){t:TypeId}{d x:Operand}(ht0:tys[0]?=some t)(h0:args[0]?=some d)(h1:args[1]?=some x){r:AR}
  (h:aCopy P t (ev ts d) (ev ts x) H=some r) (hC:r.c):OpV P G n o ts H r.v r.H:=by
 intro E w tmps hH hT hok D
 have hall:∀ y,y∈args->zDi n y=true:=fun y hy=>by
  simp only[zBj,ho,Op.operands,Call.operands,zA]at hok;exact(Array.all_eq_true'.1 hok.2) y (by simp; exact hy)
 have hd:=zAv hT (hall d (Array.mem_of_getElem? h0)) D;have hx:=zAv hT (hall x (Array.mem_of_getElem? h1)) D;have ha0:(args.map (Act.eval ⟨tmps,D⟩))[0]?=some (Act.eval ⟨tmps,D⟩ d):=by simp[h0]
 have ha1:(args.map (Act.eval ⟨tmps,D⟩))[1]?=some (Act.eval ⟨tmps,D⟩ x):=by simp[h1]
 have hexec:execOp (Act.eval ⟨tmps,D⟩) o=(do pure (.value (<- Builtin.copy_ tys o.type (args.map (Act.eval ⟨tmps,D⟩))))):=by
  simp[execOp,ho,resolve,invoke,builtin]
 rw[hexec]
 generalize args.map (Act.eval ⟨tmps,D⟩)=vargs at ha0 ha1
 generalize Act.eval ⟨tmps,D⟩ d=rd at hd ha0
 generalize Act.eval ⟨tmps,D⟩ x=rx at hx ha1
 generalize ev ts d=ad at hd h
 generalize ev ts x=ax at hx h
 unfold aCopy at h
 split at h
 ·rename_i elem hu
  split at h
  ·rename_i sz hs
   split at h
   ·rename_i c els hels;have hzero:∀(ba:Option Addr) (cc:Nat),c->rd=.slice ba 0 cc->(Builtin.copy_ tys o.type vargs).run P w=.ok (.int .i64 0) w:=fun ba cc hc e=>by
     subst e;obtain⟨vs,g1,g2,g3⟩:=elsOf_sound (P:=P) hH hx hels hc (Nat.succ_pos _);obtain⟨r',k1,k2,c',k3,k4⟩:=takeA_rep hx hels hc 0;obtain⟨vs',g1',g2',g3'⟩:=elsOf_sound (P:=P) hH k1 k3 k4 (Nat.succ_pos _);have hv:vs'=[]:=List.eq_nil_of_length_eq_zero (by have:=g1'.1; simpa using this);have hf:=g3' w rfl;rw[k2,hv]at hf;have hf':(Builtin.firstCells (sz+1) 0 rx).run P w=.ok #[] w:=by simpa using hf
     cases ba <;> simp[Builtin.copy_,ht0,ha0,ha1,Sem.run_bind,run_underlying hu,g2,zBd hs,hf',goInt,storeCells]
    split at h
    ·rename_i id st len cap
     split at h
     ·rename_i sz' es hid
      split at h
      ·rename_i hcnd;obtain⟨rfl,hle,hcap⟩:=hcnd;cases h;have hc:c:=hC;obtain⟨vs,g1,g2,g3⟩:=elsOf_sound (P:=P) hH hx hels hc (Nat.succ_pos _);obtain⟨r',k1,k2,c',k3,k4⟩:=takeA_rep hx hels hc (min els.length len);obtain⟨vs',g1',g2',g3'⟩:=elsOf_sound (P:=P) hH k1 k3 k4 (Nat.succ_pos _);have hlt:(els.take (min els.length len)).length=min els.length len:=by rw[List.length_take]; omega
       have hf:=g3' w rfl;rw[k2,hlt]at hf;cases hd with | @sl _ _ _ _ l ad cc hl q1 q2 q3 =>
       obtain⟨rfl,m,hm1,hm2⟩:=q3 hcap;obtain⟨l',hl',hsz,_⟩:=hH.obj id _ hid rfl;rw[hl]at hl'; cases hl';obtain⟨w',s1,s2,s3⟩:=row_splice (P:=P) (st:=st) hH hid hl (Nat.succ_pos _) g1' (by rw[hlt]; omega);rw[hlt]at s2 s3;refine⟨E,w',_,s2,s3,.c rfl,.inl ?_⟩;rw[<- hsz]at s1;have hmin:Nat.min els.length len=min els.length len:=rfl;simp only[Builtin.copy_,ht0,ha0,ha1,Sem.run_bind,run_underlying hu,Result.andThen_ok,g2,zBd hs,hmin,hf,s1,Sem.run_pure,goInt]
      ·cases h
     ·cases h
    ·cases h;have:=hd.c_inv;subst this;exact⟨E,w,_,hH,Grow.refl _ _ _,.c rfl,.inl (by simp only[Sem.run_bind,hzero none 0 hC rfl,Result.andThen_ok,Sem.run_pure])⟩
    ·cases h;cases hd;exact⟨E,w,_,hH,Grow.refl _ _ _,.c rfl,.inl (by simp only[Sem.run_bind,hzero _ 0 hC rfl,Result.andThen_ok,Sem.run_pure])⟩
    ·cases h
   ·cases h
  ·cases h
 ·cases h
theorem run_append_mk{t u ty e:TypeId}{kd:IntKind}{i:TypeInfo}{z:Value}(ht:P.underlying t=some (.slice e))(hu:P.underlying u=some (.int kd))(hi:P.info? e=some i)(hz:i.zero=some z)
  {tys:Array TypeId} {args:Array Value} (ht0:tys[0]?=some t) (ht1:tys[1]?=some u) {base:Option Addr} {k:IntKind} {m:Nat} (h0:args[0]?=some (.slice base 0 0)) (h1:args[1]?=some (.int k ((m+1:Nat):Int))) {w:World}
  (hs:0 < i.size) (h63:m+1<=2^40) (hby:(m+1)*i.bytes<=2^40) :
  (Builtin.append_ tys ty args).run P w=.ok (.slice (some ⟨w.heap.size,0,none⟩) (m+1) (grownCap w (m+1) 0 e))
   (w.drew.alloc (.cells ((Builtin.zeroCells z.cells (m+1)).toList++(Builtin.zeroCells z.cells (grownCap w (m+1) 0 e - (m+1))).toList).toArray e)):=by
 have hw:IntKind.i64.wrap (((m+1:Nat):Int))=((m+1:Nat):Int):=wrap_i64 (by omega) (by omega);have hn:¬ (((m+1:Nat):Int) < 0):=by omega
 have hbig:¬ (((m+1:Nat):Int)*(i.bytes:Int) > 2^48):=by
  have:(((m+1)*i.bytes:Nat):Int)=((m+1:Nat):Int)*(i.bytes:Int):=by push_cast; rfl
  omega
 have hne:¬ ((m+1)*i.size=0):=Nat.ne_of_gt (Nat.mul_pos (Nat.succ_pos m) hs);have h63':¬ (9223372036854775807 < ((m+1:Nat):Int)):=by omega
 have hfit:=growslice_fits (need:=m+1) (old:=0) (bytes:=i.bytes) (by omega) (by omega);have h48':¬ (281474976710656 < Builtin.nextslicecap (m+1) 0*i.bytes):=by omega
 have hold:∀ w':World,(Builtin.firstCells i.size 0 (.slice base 0 0)).run P w'=.ok #[] w':=fun w'=>by cases base <;> simp[Builtin.firstCells,loadCells,loadCellsFrom]
 have htn:(((m+1:Nat):Int)).toNat=m+1:=rfl;have hgt:¬ (0+(m+1)<=0):=by omega
 have hti:∀ w':World,(typeInfo e).run P w'=.ok i w':=fun w'=>by simp[typeInfo,hi]
 have hso:∀ w':World,(sizeOf e).run P w'=.ok i.size w':=fun w'=>by simp[sizeOf,typeInfo,hi]
 have hzv:∀ w':World,(zeroValue e).run P w'=.ok z w':=fun w'=>by simp[zeroValue,typeInfo,hi,hz]
 have h1':¬ ((((0+(m+1):Nat):Int) > IntKind.i64.max)/\(True\/i.bytes=0)):=by
  rintro⟨h,_⟩
  have:IntKind.i64.max=9223372036854775807:=by decide
  omega
 have h48'':¬ (Builtin.nextslicecap (0+(m+1)) 0*i.bytes > 2^48):=by rw[Nat.zero_add]; omega
 have hap:∀ w':World,((if (m+1)*i.size=0 then pure #[] else do pure (Builtin.zeroCells (<- zeroValue e).cells (m+1)):Sem (Array Value))).run P w'=.ok (Builtin.zeroCells z.cells (m+1)) w':=fun w'=>by
  rw[if_neg hne]; simp only[Sem.run_bind,hzv,Result.andThen_ok,Sem.run_pure]
 simp only[Builtin.append_,ht0,ht1,h0,h1,run_underlying ht,run_underlying hu,hti,hso,hzv,Sem.run_bind,Result.andThen_ok,Sem.run_pure,asInt,asIntOf,hw,if_true,if_neg hn,if_neg hbig,htn,if_neg hgt,if_neg h1',if_neg h48'',ite_true,Bool.not_true,Bool.false_eq_true,if_false,true_or,hap,hold];have h63s:¬ (9223372036854775807 < (m:Int)+1):=by omega
 have hm0:¬ (i.size=0):=by omega
 simp[Question.forced,newRow,grownCap,h63s,h48',hti,hzv,hold,hm0];rw[if_neg hne]
 congr 3
 apply Array.ext';simp
theorem opv_appMake{args:Array Operand}{tys:Array TypeId}(ho:o.op=.call { callee:=.builtin .append,args:=args,argTypes:=tys }){t u:TypeId}{s x:Operand}(ht0:tys[0]?=some t)(ht1:tys[1]?=some u)(h0:args[0]?=some s)(h1:args[1]?=some x)
  {kd:IntKind} (huu:P.underlying u=some (.int kd)) {r:AR} (h:aAppMake P t (ev ts s) (ev ts x) H=some r) (hC:r.c):OpV P G n o ts H r.v r.H:=by
 intro E w tmps hH hT hok D
 have hall:∀ y,y∈args->zDi n y=true:=fun y hy=>by
  simp only[zBj,ho,Op.operands,Call.operands,zA]at hok;exact(Array.all_eq_true'.1 hok.2) y (by simp; exact hy)
 have hs:=zAv hT (hall s (Array.mem_of_getElem? h0)) D;have hx:=zAv hT (hall x (Array.mem_of_getElem? h1)) D;have ha0:(args.map (Act.eval ⟨tmps,D⟩))[0]?=some (Act.eval ⟨tmps,D⟩ s):=by simp[h0]
 have ha1:(args.map (Act.eval ⟨tmps,D⟩))[1]?=some (Act.eval ⟨tmps,D⟩ x):=by simp[h1]
 have hexec:execOp (Act.eval ⟨tmps,D⟩) o=(do pure (.value (<- Builtin.append_ tys o.type (args.map (Act.eval ⟨tmps,D⟩))))):=by
  simp[execOp,ho,resolve,invoke,builtin]
 rw[hexec]
 generalize args.map (Act.eval ⟨tmps,D⟩)=vargs at ha0 ha1
 generalize Act.eval ⟨tmps,D⟩ s=rs at hs ha0
 generalize Act.eval ⟨tmps,D⟩ x=rx at hx ha1
 generalize ev ts s=as at hs h
 generalize ev ts x=ax at hx h
 unfold aAppMake at h
 split at h
 ·rename_i elem hut
  split at h
  ·rename_i z by' k m hz hb hm;have hx':=zFf hx hm;subst hx';obtain⟨i,zv,hi,hiz,hib,his,hpos,hzs⟩:=info_of_zeroEl hz hb
   split at h
   ·rename_i hemp;obtain⟨a,rfl⟩:=emptyS_rep hemp hs
    split at h
    ·cases h;refine⟨E,w,_,hH,Grow.refl _ _ _,hs,.inl ?_⟩;have:(Builtin.append_ tys o.type vargs).run P w=.ok (.slice a 0 0) w:=by
      have hw0:IntKind.i64.wrap (Int.ofNat 0)=0:=wrap_i64 (by simp) (by simp);cases a <;> simp[Builtin.append_,ht0,ht1,ha0,ha1,run_underlying hut,run_underlying huu,sizeOf,typeInfo,hi,asInt,asIntOf,storeCells,IntKind.wrap,IntKind.bits,IntKind.signed]
     simp only[Sem.run_bind,this,Result.andThen_ok,Sem.run_pure]
    ·rename_i q;cases h;obtain⟨hb1,hb2⟩:=hC;have hrun:=run_append_mk (ty:=o.type) (m:=q) hut huu hi hiz ht0 ht1 ha0 ha1 (by rw[his]; exact hpos) hb2 (by rw[hib]; exact hb1) (w:=w);have hdrew:RelH G w.drew E H/\Mono w E w.drew E:=zFk hH rfl;have gdrew:Grow H E w H E w.drew:=⟨hdrew.2,Nat.le_refl _,fun _ _ _=>rfl,fun _ h=>.inl h,fun _ h=>.inl h,rfl,rfl,⟨rfl,by first | exact Nat.le_refl _ | exact Nat.le_add_right _ _⟩⟩;obtain⟨zv',hzv',hzc,hzof,_,_⟩:=zDb hz;have hzz:zv'=zv:=by rw[hi]at hzv'; simp only[Option.bind_some,hiz]at hzv'; cases hzv'; rfl
     subst hzz;have hrz:=repR_zero hzc w.drew E (q+1);have hzcells:Builtin.zeroCells zv'.cells (q+1)=(Array.range ((q+1)*zv'.cells.size)).map (fun q=>zv'.cells[q % zv'.cells.size]!):=rfl;rw[<- hzcells,<- hzof]at hrz;have hge:=grownCap_ge w (q+1) 0 elem;obtain⟨E',g1,g2,g3⟩:=grown_rep (e:=elem) (es:=[]) (olds:=[]) hdrew.1 hpos ⟨by simp,fun i hi=>by simp at hi⟩ (els:=List.replicate (q+1) z) (news:=(Builtin.zeroCells zv'.cells (q+1)).toList) (by simpa using hrz) hzs (cap:=grownCap w (q+1) 0 elem) (by simpa using hge);simp only[List.length_nil,Nat.zero_add,List.length_replicate,List.nil_append]at g1 g2 g3;exact⟨E',_,_,g1,gdrew.trans g2,g3,.inl (by simp only[Sem.run_bind,hrun,Result.andThen_ok,Sem.run_pure]; rfl)⟩
    ·cases h
   ·cases h
  ·cases h
 ·cases h
theorem opv_insert{t:TypeId}{m k x:Operand}(ho:o.op=.insert t m k x){r:AR}(h:zDa P t (ev ts m) (ev ts k) (ev ts x) H=some r)(hC:r.c):OpV P G n o ts H r.v r.H:=by
 have h1:=opv_mapUpdate (P:=P) (G:=G) (n:=n) (ts:=ts) (H:=H) (o:={ o with op:=.mapUpdate t m k x }) rfl h hC
 intro E w tmps hH hT hok D
 have hok':zBj n { o with op:=.mapUpdate t m k x }=true:=by
  simp only[zBj,ho,Op.operands]at hok ⊢;exact hok
 obtain⟨E',w',q,g1,g2,g3,g4⟩:=h1 E w tmps hH hT hok' D;refine⟨E',w',q,g1,g2,g3,?_⟩;have e:execOp (Act.eval ⟨tmps,D⟩) { o with op:=.mapUpdate t m k x }=execOp (Act.eval ⟨tmps,D⟩) o:=by simp[execOp,ho]
 rw[<- e]; exact g4
theorem rep_pair{w:World}{E:En}{a b:AV}{x y:Value}(h1:RepV w E a x)(h2:RepV w E b y):RepV w E (.tup [a,b]) (.tuple #[x,y]):=by
 refine .tup (by simp) (fun i hi=>?_)
 match i with
 | 0=>exact h1
 | 1=>exact h2
 | i+2=>simp at hi; omega
theorem opv_mapEntry{t:TypeId}{m k:Operand}(ho:o.op=.mapEntry t m k){r:AR}(h:aMapEntry P t (ev ts m) (ev ts k) H=some r)(hC:r.c):OpV P G n o ts H r.v r.H:=by
 intro E w tmps hH hT hok D
 have hall:∀ y,y∈(#[m,k]:Array Operand)->zDi n y=true:=fun y hy=>by
  simp only[zBj,ho,Op.operands,zA]at hok;exact(Array.all_eq_true'.1 hok.2) y hy
 have hm:=zAv hT (hall m (by simp)) D;have hk:=zAv hT (hall k (by simp)) D;have hexec:execOp (Act.eval ⟨tmps,D⟩) o=(do pure (.value (<- Instr.mapEntry t (Act.eval ⟨tmps,D⟩ m) (Act.eval ⟨tmps,D⟩ k)))):=by
  simp[execOp,ho]
 rw[hexec]
 generalize Act.eval ⟨tmps,D⟩ m=rm at hm
 generalize Act.eval ⟨tmps,D⟩ k=rk at hk
 generalize ev ts m=am at hm h
 generalize ev ts k=ak at hk h
 unfold aMapEntry at h
 split at h
 ·rename_i kt et id hu
  split at h
  ·rename_i es clock hid
   split at h
   ·rename_i hcnd;obtain⟨hck,hfl⟩:=hcnd;cases hm with | @mp _ l hl =>
    obtain⟨l',hl',ces,hces,hal⟩:=hH.obj id _ hid rfl;rw[hl]at hl'; cases hl';have hckr:=ck_sound (b:=false) 10000 hck hk;have hkt:∃ d,P.underlying kt=some d:=by
     cases hd:P.underlying kt with
     | some d=>exact⟨d,rfl⟩
     | none=>simp[ckOk,hd]at hck
    obtain⟨d,hd⟩:=hkt;have hget:(getObj l.b).run P w=.ok (.map ces clock) w:=by simp[getObj,Sem.run,hces]
    split at h
    ·rename_i i hf;cases h;obtain⟨hfk,hlt⟩:=zDm hd hk hal hf;have hi:=hlt i rfl;have hic:i < ces.size:=by have:=hal.length; simp at this; omega
     obtain⟨q1,q2,q3⟩:=hal.get i hi;have hC':(es.getD i default).2.1=ak:=hC;rw[hC']at q2;have hsame:=flat_eq hfl hk q2;have hcg:ces.toList.getD i default=ces[i]:=by simp[List.getD,hic]
     have hset:(setObj l.b (.map (ces.modify i fun e=>{ e with key:=rk }) clock)).run P w=.ok () { w with heap:=w.heap.setIfInBounds l.b (.map (ces.modify i fun e=>{ e with key:=rk }) clock) }:=by
      simp[setObj,Sem.run,hces]
     have hmod:ces.modify i (fun e=>{ e with key:=rk })=ces.modify i (fun e=>{ e with key:=rk,val:=ces[i].val }):=by
      apply Array.ext (by simp)
      intro j h1 h2
      simp only[Array.getElem_modify]
      split
      ·rename_i e; subst e; rfl
      ·rfl
     have hw:=zBw hH (w':={ w with heap:=w.heap.setIfInBounds l.b (.map (ces.modify i fun e=>{ e with key:=rk }) clock) }) hid rfl hl
      (.map (es.set i ((es.getD i default).1,ak,(es.getD i default).2.2)) clock) (by simp) (fun c hcne=>Array.getElem?_setIfInBounds_ne (fun e=>hcne e.symm)) (fun q hq=>by simp[zAu,hces]at hq) rfl rfl ⟨rfl,Nat.le_refl _⟩
      (fun hmn=>⟨ces.modify i fun e=>{ e with key:=rk },by simp[zBg hces],by
       rw[hmod,Array.toList_modify];rw[hcg]at q3;exact(hal.mono hmn).modify i hi (hk.mono hmn) (q3.mono hmn)⟩)
     refine⟨E,_,.tuple #[ces[i].val,goInt ces[i].born],hw.1,hw.2,rep_pair ?_ ?_,.inl ?_⟩
     ·rw[hcg]at q3; exact q3.mono hw.2.mono
     ·rw[hcg]at q1;rw[<- q1]; exact .c rfl
     ·have hkey:(ces[i]?.map (·.key)).getD rk=rk:=by
       rw[hcg]at hsame;simp[hic,<- hsame.1]
      have hstay:(Instr.keyThatStays rk rk).run P w=.ok rk w:=by simp[Instr.keyThatStays,hsame.2]
      have hbn:(ces[i]?.map (·.born)).getD 0=ces[i].born:=by simp[hic]
      simp only[Instr.mapEntry,Sem.run_bind,run_underlying hu,Result.andThen_ok,hget,hckr,hfk,Option.map_some,hkey,hstay,hset,Sem.run_pure,hcg,hbn];simp[hic]
    ·rename_i hf
     split at h
     ·rename_i z hz;cases h;obtain⟨zv,z1,⟨z2,z3⟩,rfl,_⟩:=zDb hz;have hzr:=zCe (P:=P) z1 w;obtain⟨hfk,_⟩:=zDm hd hk hal hf;have hset:(setObj l.b (.map (ces.push { key:=rk,val:=zv,born:=clock }) (clock+1))).run P w=.ok () { w with heap:=w.heap.setIfInBounds l.b (.map (ces.push { key:=rk,val:=zv,born:=clock }) (clock+1)) }:=by
       simp[setObj,Sem.run,hces]
      have hw:=zBw hH (w':={ w with heap:=w.heap.setIfInBounds l.b (.map (ces.push { key:=rk,val:=zv,born:=clock }) (clock+1)) }) hid rfl hl
       (.map (es++[(clock,ak,ofV zv)]) (clock+1)) (by simp) (fun c hcne=>Array.getElem?_setIfInBounds_ne (fun e=>hcne e.symm)) (fun q hq=>by simp[zAu,hces]at hq) rfl rfl ⟨rfl,Nat.le_refl _⟩
       (fun hmn=>⟨ces.push { key:=rk,val:=zv,born:=clock },by simp[zBg hces],by
        rw[Array.toList_push];exact(hal.mono hmn).push rfl (hk.mono hmn) (rep_const z2 _ _)⟩)
      refine⟨E,_,.tuple #[zv,goInt clock],hw.1,hw.2,rep_pair (rep_const z2 _ _) (.c rfl),.inl ?_⟩;simp only[Instr.mapEntry,Sem.run_bind,run_underlying hu,Result.andThen_ok,hget,hckr,hfk,Option.map_none,hset,hzr,Sem.run_pure]
     ·cases h
    ·cases h
   ·cases h
  ·cases h
 ·cases h
theorem AlE.findIdx{w:World}{E:En}{n:Int}:∀ {es:List (Nat × AV × AV)} {cs:List MapEntry},AlE w E es cs->cs.findIdx? (fun e=>(e.born:Int)==n)=es.findIdx? (fun e=>(e.1:Int)==n)
 | [],[],_=>rfl
 | e::es,c::cs,h=>by
  simp only[List.findIdx?_cons];rw[h.1,AlE.findIdx h.2.2.2]
 | [],_::_,h=>h.elim
 | _::_,[],h=>h.elim
theorem opv_entryStore{t:TypeId}{m s x:Operand}(ho:o.op=.entryStore t m s x){r:AR}(h:zEp (ev ts m) (ev ts s) (ev ts x) H=some r)(hC:r.c):OpV P G n o ts H r.v r.H:=by
 intro E w tmps hH hT hok D
 have hall:∀ y,y∈(#[m,s,x]:Array Operand)->zDi n y=true:=fun y hy=>by
  simp only[zBj,ho,Op.operands,zA]at hok;exact(Array.all_eq_true'.1 hok.2) y hy
 have hm:=zAv hT (hall m (by simp)) D;have hs:=zAv hT (hall s (by simp)) D;have hx:=zAv hT (hall x (by simp)) D;have hexec:execOp (Act.eval ⟨tmps,D⟩) o=(do Instr.entryStore t (Act.eval ⟨tmps,D⟩ m) (Act.eval ⟨tmps,D⟩ s) (Act.eval ⟨tmps,D⟩ x); pure .skip):=by
  simp[execOp,ho]
 rw[hexec]
 generalize Act.eval ⟨tmps,D⟩ m=rm at hm
 generalize Act.eval ⟨tmps,D⟩ s=rs at hs
 generalize Act.eval ⟨tmps,D⟩ x=rx at hx
 generalize ev ts m=am at hm h
 generalize ev ts s=as at hs h
 generalize ev ts x=ax at hx h
 unfold zEp at h
 split at h
 ·rename_i id k n hn;have:=zFf hs hn;subst this
  split at h
  ·rename_i es clock hid
   split at h
   ·rename_i i hf;cases h;cases hm with | @mp _ l hl =>
    obtain⟨l',hl',ces,hces,hal⟩:=hH.obj id _ hid rfl;rw[hl]at hl'; cases hl';have hi:i < es.length:=by
     have:=List.findIdx?_eq_some_iff_findIdx_eq.1 hf;exact this.1
    have hic:i < ces.size:=by have:=hal.length; simp at this; omega
    have hfc:ces.findIdx? (fun e=>(e.born:Int)==n)=some i:=by
     have e0:ces=ces.toList.toArray:=by simp
     rw[e0,List.findIdx?_toArray,hal.findIdx]; exact hf
    have hget:(getObj l.b).run P w=.ok (.map ces clock) w:=by simp[getObj,Sem.run,hces]
    obtain⟨q1,q2,q3⟩:=hal.get i hi;have hcg:ces.toList.getD i default=ces[i]:=by simp[List.getD,hic]
    have hset:(setObj l.b (.map (ces.modify i fun e=>{ e with val:=rx }) clock)).run P w=.ok () { w with heap:=w.heap.setIfInBounds l.b (.map (ces.modify i fun e=>{ e with val:=rx }) clock) }:=by
     simp[setObj,Sem.run,hces]
    have hmod:ces.modify i (fun e=>{ e with val:=rx })=ces.modify i (fun e=>{ e with key:=ces[i].key,val:=rx }):=by
     apply Array.ext (by simp)
     intro j h1 h2
     simp only[Array.getElem_modify]
     split
     ·rename_i e; subst e; rfl
     ·rfl
    have hw:=zBw hH (w':={ w with heap:=w.heap.setIfInBounds l.b (.map (ces.modify i fun e=>{ e with val:=rx }) clock) }) hid rfl hl
     (.map (es.set i ((es.getD i default).1,(es.getD i default).2.1,ax)) clock) (by simp) (fun c hcne=>Array.getElem?_setIfInBounds_ne (fun e=>hcne e.symm)) (fun q hq=>by simp[zAu,hces]at hq) rfl rfl ⟨rfl,Nat.le_refl _⟩
     (fun hmn=>⟨ces.modify i fun e=>{ e with val:=rx },by simp[zBg hces],by
      rw[hmod,Array.toList_modify];rw[hcg]at q2;exact(hal.mono hmn).modify i hi (q2.mono hmn) (hx.mono hmn)⟩)
    refine⟨E,_,undef,hw.1,hw.2,.tup (vs:=#[]) rfl (fun i hi=>by simp at hi),.inr ⟨?_,rfl⟩⟩;simp only[Instr.entryStore,Sem.run_bind,hget,Result.andThen_ok,asInt,asIntOf,Sem.run_pure,hfc,hset]
   ·cases h
  ·cases h
 ·cases h
end
section
variable {P:Program} {G:Gl} {n:Nat} {o:Oper} {ts:Nat->AV} {H:List AO}
theorem aop_sound{r:AR}(h:aop P G o.op (ev ts) H=some r)(hC:r.c):OpV P G n o ts H r.v r.H:=by
 unfold aop at h
 split at h
 ·cases h; exact opv_move (by assumption)
 ·cases h; exact opv_assign (by assumption)
 ·split at h
  ·cases h; exact opv_pick (by assumption) (by assumption)
  ·cases h
 ·split at h
  ·cases h; exact opv_alloc (by assumption) (by assumption)
  ·cases h
 ·split at h
  ·cases h; exact opv_box (by assumption) (by assumption)
  ·cases h
 ·rename_i t a ho;cases hl:aload P G t (ev ts a) H with
  | none=>rw[hl]at h; cases h
  | some v=>rw[hl]at h; cases h; exact opv_load ho hl
 ·rename_i t a x ho;cases hl:astore P t (ev ts a) (ev ts x) H with
  | none=>rw[hl]at h; cases h
  | some v=>rw[hl]at h; cases h; exact opv_store ho hl
 ·split at h
  ·cases h; exact opv_nilCheck (by assumption) (by assumption)
  ·cases h
 ·rename_i op t x y yt ho;cases hl:aBin P op t (ev ts x) (ev ts y)with
  | none=>rw[hl]at h; cases h
  | some p=>rw[hl]at h; cases h; exact opv_bin (C:=p.1) ho hl hC
 ·split at h
  ·cases h; exact opv_not (by assumption) (by assumption)
  ·cases h
 ·split at h
  ·cases h; exact opv_neg (by assumption) (by assumption)
  ·cases h
 ·split at h
  ·rename_i d e1 e2 e3; cases h; exact opv_convert (by assumption) e1 e3 ⟨_,e2⟩
  ·cases h
 ·split at h
  ·cases h
  ·rename_i hne hd; cases h; exact opv_iface (by assumption) (by assumption) (fun ms e=>hne ms e)
  ·cases h
 ·cases h; exact opv_func (by assumption)
 ·rename_i s x f ho
  split at h
  ·rename_i k hk;cases hl:zCy (ev ts x) k with
   | none=>rw[hl]at h; cases h
   | some v=>rw[hl]at h; cases h; exact opv_fieldAddr ho hk hl
  ·cases h
 ·rename_i t x i ho
  split at h
  ·rename_i k q hi;cases hl:zAk P t (ev ts x) q H with
   | none=>rw[hl]at h; cases h
   | some p=>rw[hl]at h; cases h; exact opv_indexAddr (C:=p.1) ho hi hl hC
  ·cases h
 ·rename_i t x i ho
  split at h
  ·rename_i k q hi;cases hl:aIdx P t (ev ts x) q with
   | none=>rw[hl]at h; cases h
   | some p=>rw[hl]at h; cases h; exact opv_index (C:=p.1) ho hi hl hC
  ·cases h
 ·rename_i t x f ho;cases hl:aField P t (ev ts x) f with
  | none=>rw[hl]at h; cases h
  | some v=>rw[hl]at h; cases h; exact opv_field ho hl
 ·rename_i x i ho
  split at h
  ·rename_i vs hv;cases hl:vs[i]? with
   | none=>rw[hl]at h; cases h
   | some v=>rw[hl]at h; cases h; exact opv_extract ho hv hl
  ·cases h
 ·rename_i t parts ho;cases hl:aBuild P t (parts.toList.map fun p=>(p.1,ev ts p.2))with
  | none=>rw[hl]at h; cases h
  | some v=>rw[hl]at h; cases h; exact opv_build ho hl
 ·rename_i t len parts ho
  split at h
  ·rename_i elem hu
   split at h
   ·rename_i z hz
    split at h
    ·rename_i hle;cases hl:aFillEs len z.cells.length (List.replicate len z) (parts.toList.map fun p=>(p.1,ev ts p.2))with
     | none=>rw[hl]at h; cases h
     | some es=>rw[hl]at h; cases h; exact opv_buildSlice ho hu hz hle hl
    ·cases h
   ·cases h
  ·cases h
 ·rename_i t l c ho
  split at h
  ·rename_i elem k1 m k2 q hu hl hc
   split at h
   ·rename_i z by' hz hb;cases h;exact opv_makeSlice ho hu hl hc hz hb hC
   ·cases h
  ·cases h
 ·rename_i t x lo hi mx ho;cases hl:zCm P t (ev ts x) H (lo.map (ev ts)) (hi.map (ev ts)) (mx.map (ev ts))with
  | none=>rw[hl]at h; cases h
  | some p=>rw[hl]at h; cases h; exact opv_slice (C:=p.1) ho hl hC
 ·rename_i args tys ho
  split at h
  ·rename_i t x ht hx;cases hl:aLen P t (ev ts x)with
   | none=>rw[hl]at h; cases h
   | some q=>rw[hl]at h; cases h; exact opv_len ho ht hx hl
  ·cases h
 ·unfold aop2 at h
  split at h
  ·rename_i args tys ho
   split at h
   ·rename_i t u s x h1 h2 h3 h4
    split at h
    ·rename_i kd huu;exact opv_appMake ho h1 h2 h3 h4 huu h hC
    ·exact opv_append ho h1 h2 h3 h4 h hC
   ·cases h
  ·rename_i args tys ho
   split at h
   ·rename_i t x h1 h2;exact opv_clear ho h1 h2 h hC
   ·cases h
  ·rename_i t ho;cases h; exact opv_makeMap ho
  ·rename_i t m k x ho;exact opv_mapUpdate ho h hC
  ·rename_i t x ho;exact opv_range ho h hC
  ·rename_i x ho;exact opv_entry ho h hC
  ·rename_i t m k cm ho;exact opv_lookup ho h hC
  ·unfold aop3 at h
   split at h
   ·rename_i args tys ho
    split at h
    ·rename_i a b hab;cases hv:aMM false (ev ts a) (ev ts b)with
     | none=>rw[hv]at h; cases h
     | some v=>rw[hv]at h; cases h; exact opv_mm (mx:=false) ho hab hv
    ·cases h
   ·rename_i args tys ho
    split at h
    ·rename_i a b hab;cases hv:aMM true (ev ts a) (ev ts b)with
     | none=>rw[hv]at h; cases h
     | some v=>rw[hv]at h; cases h; exact opv_mm (mx:=true) ho hab hv
    ·cases h
   ·rename_i args tys ho
    split at h
    ·rename_i t x h1 h2;cases hv:aCap P t (ev ts x)with
     | none=>rw[hv]at h; cases h
     | some v=>rw[hv]at h; cases h; exact opv_cap ho h1 h2 hv
    ·cases h
   ·rename_i args tys ho
    split at h
    ·rename_i t d x h1 h2 h3;exact opv_copy ho h1 h2 h3 h hC
    ·cases h
   ·rename_i t m k x ho;exact opv_insert ho h hC
   ·rename_i t m k ho;exact opv_mapEntry ho h hC
   ·rename_i t m s x ho;exact opv_entryStore ho h hC
   ·rename_i x xt t cm ho;cases hv:aTA P (ev ts x) t cm with
    | none=>rw[hv]at h; cases h
    | some v=>rw[hv]at h; cases h; exact opv_typeAssert ho hv
   ·cases h
theorem aop_defer{r:AR}(h:aop P G o.op (ev ts) H=some r):isDefer o.op=false:=by
 cases ho:o.op <;> first | rfl | (rw[ho]at h; simp[aop,aop2,aop3]at h)
variable (P G)
variable {P G}
theorem upd_self{d:Nat}{v:AV}(h:ts d=v):upd ts d v=ts:=by
 funext i; unfold upd; split
 ·rename_i e; rw[e,h]
 ·rfl
end
mutual
def AV.pur:AV->Bool
 | .c _=>true
 | .agg cs=>AV.purL cs
 | .tup cs=>AV.purL cs
 | .ptr _ _=>false
 | .eptr _ _ _=>false
 | .sl _ _ _ _=>false
 | .zs=>true
 | .isl es=>AV.purL es
 | .iptr cs _=>AV.purL cs
 | .fn _ fs cs=>AV.purL fs&&AV.purL cs
 | .yld _=>false
 | .ifc _ v=>AV.pur v
 | .mp _=>false
 | .gp _ _=>true
 | .bs _ _ _ _ _=>false
 | .any=>false
def AV.purL:List AV->Bool
 | []=>true
 | a::l=>AV.pur a&&AV.purL l
end
theorem purL_eq:∀ l:List AV,AV.purL l=l.all AV.pur
 | []=>rfl
 | a::l=>by simp[AV.purL,purL_eq l]
theorem zDt{l:List AV}(h:AV.purL l=true)(i:Nat):(l.getD i .un).pur=true:=by
 rw[purL_eq,List.all_eq_true]at h
 rcases Nat.lt_or_ge i l.length with hi | hi
 ·have e:l.getD i .un=l[i]:=by simp[List.getD,hi]
  rw[e]; exact h _ (List.getElem_mem hi)
 ·have e:l.getD i .un=.un:=by simp[List.getD,List.getElem?_eq_none hi]
  rw[e]; rfl
theorem pur_cells{a:AV}(h:a.pur=true)(j:Nat):(a.cells.getD j .un).pur=true:=by
 by_cases hc:∃ cs,a=.agg cs
 ·obtain⟨cs,rfl⟩:=hc;exact zDt (l:=cs) (by simpa only[AV.pur]using h) j
 ·have e:a.cells=[a]:=by
   cases a <;> first | rfl | (exact absurd ⟨_,rfl⟩ hc)
  rw[e];exact zDt (by simp only[AV.purL,h,Bool.and_self]) j
theorem RepV.pure{w:World}{E E':En}(hf:∀ b,E.fro b->E'.fro b){a:AV}{v:Value}(h:RepV w E a v)(hp:a.pur=true):RepV w E' a v:=by
 induction h with
 | c h=>exact .c h
 | agg hl hc _ ih=>exact .agg hl hc (fun i hi=>ih i hi (zDt (by simpa[AV.pur]using hp) i))
 | tup hl _ ih=>exact .tup hl (fun i hi=>ih i hi (zDt (by simpa[AV.pur]using hp) i))
 | ptr h=>simp[AV.pur]at hp
 | eptr h=>simp[AV.pur]at hp
 | sl=>simp[AV.pur]at hp
 | zs=>exact .zs
 | isl h1 hcc he hcell hc _ ih =>
  exact .isl (fun h0=>⟨hf _ (h1 h0).1,(h1 h0).2⟩) hcc he hcell hc (fun i j hi hj=>ih i j hi hj (pur_cells (zDt (by simpa[AV.pur]using hp) i) j))
 | iptr h1 hcell hc _ ih=>exact .iptr (hf _ h1) hcell hc (fun j hj=>ih j hj (zDt (by simpa[AV.pur]using hp) j))
 | fn hl hl2 _ _ ih1 ih2 =>
  simp only[AV.pur,zA]at hp;exact .fn hl hl2 (fun i hi=>ih1 i hi (zDt hp.1 i)) (fun i hi=>ih2 i hi (zDt hp.2 i))
 | yld h=>simp[AV.pur]at hp
 | ifc _ ih=>exact .ifc (ih (by simpa[AV.pur]using hp))
 | mp h=>simp[AV.pur]at hp
 | gp=>exact .gp
 | bs=>simp[AV.pur]at hp
 | any=>simp[AV.pur]at hp
def mapO(f:AV->Option AV):List AV->Option (List AV)
 | []=>some []
 | a::l=>match f a,mapO f l with
  | some b,some m=>some (b::m)
  | _,_=>none
theorem zEf{f:AV->Option AV}:∀ {l m:List AV},mapO f l=some m->m.length=l.length/\∀ i,i < l.length->f (l.getD i .un)=some (m.getD i .un)
 | [],m,h=>by simp only[mapO]at h; cases h; exact⟨rfl,fun i hi=>by simp at hi⟩
 | a::l,m,h=>by
  simp only[mapO]at h
  split at h
  ·rename_i b m' hb hm;cases h;obtain⟨h1,h2⟩:=zEf hm;refine⟨by simp[h1],fun i hi=>?_⟩;cases i with
   | zero=>simpa[List.getD]using hb
   | succ i=>simpa[List.getD]using h2 i (by simpa using hi)
  ·cases h
def frz:Nat->List AO->AV->Option AV
 | 0,_,_=>none
 | n+1,H,a=>if a.pur=true then some a else match a with
  | .agg cs=>(mapO (frz n H) cs).map .agg
  | .tup cs=>(mapO (frz n H) cs).map .tup
  | .fn f fs cs=>match mapO (frz n H) fs,mapO (frz n H) cs with
   | some fs',some cs'=>some (.fn f fs' cs')
   | _,_=>none
  | .ifc t v=>(frz n H v).map (.ifc t)
  | .ptr id off=>match H[id]? with
   | some (.cells cs)=>(mapO (frz n H) cs).map fun cs'=>.iptr cs' off
   | _=>none
  | .sl id st len _=>match H[id]? with
   | some (.arr sz es)=>if st+len<=es.length then (mapO (frz n H) ((es.drop st).take len)).map .isl else none
   | _=>none
  | _=>none
def AO.isRow:AO->Bool
 | .cells _=>true
 | .arr _ _=>true
 | _=>false
def LiveC(H:List AO)(E:En)(b:Nat):Prop:=∃ id o l,H[id]?=some o/\o.isRow=true/\E.loc id=some l/\l.b=b
theorem frz_cells{n:Nat}{H:List AO}{a v:AV}(h:frz (n+1) H a=some v)(he:a.isEl=true):v.isEl=true/\v.cells.length=a.cells.length /\
  (a.isCell=true->v.isCell=true)/\∀ cs,a=.agg cs->a.pur=false->∃ cs',v=.agg cs'/\mapO (frz n H) cs=some cs':=by
 unfold frz at h
 split at h
 ·rename_i hp;cases h;exact⟨he,rfl,fun h=>h,fun cs hcs hf=>by rw[hp]at hf; cases hf⟩
 ·rename_i hp
  split at h
  ·rename_i cs;cases hm:mapO (frz n H) cs with
   | none=>rw[hm]at h; cases h
   | some cs' =>
    rw[hm]at h; cases h;refine⟨rfl,(zEf hm).1,fun h=>by simp[AV.isCell]at h,fun ds hds _=>?_⟩;cases hds;exact⟨cs',rfl,hm⟩
  ·simp[AV.isEl]at he
  ·split at h
   ·cases h; exact⟨rfl,rfl,fun _=>rfl,fun cs hcs=>by cases hcs⟩
   ·cases h
  ·rename_i t u;cases hm:frz n H u with
   | none=>rw[hm]at h; cases h
   | some v'=>rw[hm]at h; cases h; exact⟨rfl,rfl,fun _=>rfl,fun cs hcs=>by cases hcs⟩
  ·rename_i id off
   split at h
   ·rename_i cs _;cases hm:mapO (frz n H) cs with
    | none=>rw[hm]at h; cases h
    | some cs'=>rw[hm]at h; cases h; exact⟨rfl,rfl,fun _=>rfl,fun cs hcs=>by cases hcs⟩
   ·cases h
  ·split at h
   ·rename_i st len _ _ sz es _
    split at h
    ·cases hm:mapO (frz n H) ((es.drop st).take len)with
     | none=>simp only[hm]at h; cases h
     | some cs'=>simp only[hm]at h; cases h; exact⟨rfl,rfl,fun _=>rfl,fun cs hcs=>by cases hcs⟩
    ·cases h
   ·cases h
  ·cases h
theorem zDh{G:Gl}{w:World}{E E':En}{H:List AO}(hH:RelH G w E H)(hf:∀ b,E.fro b->E'.fro b)(hl:∀ b,LiveC H E b->E'.fro b) :
  ∀(n:Nat) {a v:AV} {r:Value},RepV w E a r->frz n H a=some v->RepV w E' v r
 | 0,a,v,r,_,h=>by simp[frz]at h
 | n+1,a,v,r,hr,h=>by
  have h0:=h;unfold frz at h
  split at h
  ·rename_i hp;cases h;exact hr.pure hf hp
  ·rename_i hp;have hcell:∀ {a v:AV},frz n H a=some v->a.isCell=true->v.isCell=true:=by
    intro a v h1 h2
    cases n with
    | zero=>simp[frz]at h1
    | succ m=>exact(frz_cells h1 (zEt h2)).2.2.1 h2
   split at h
   ·rename_i cs;cases hm:mapO (frz n H) cs with
    | none=>rw[hm]at h; cases h
    | some cs' =>
     rw[hm]at h; cases h;obtain⟨h1,h2⟩:=zEf hm;cases hr with
     | agg hl' hc hr =>
      exact .agg (by rw[h1]; exact hl') (fun i hi=>hcell (h2 i (by omega)) (hc i (by omega))) (fun i hi=>zDh hH hf hl n (hr i (by omega)) (h2 i (by omega)))
   ·rename_i cs;cases hm:mapO (frz n H) cs with
    | none=>rw[hm]at h; cases h
    | some cs' =>
     rw[hm]at h; cases h;obtain⟨h1,h2⟩:=zEf hm;cases hr with
     | tup hl' hr=>exact .tup (by rw[h1]; exact hl') (fun i hi=>zDh hH hf hl n (hr i (by omega)) (h2 i (by omega)))
   ·rename_i f fs cs
    split at h
    ·rename_i fs' cs' hm1 hm2;cases h;obtain⟨h1,h2⟩:=zEf hm1;obtain⟨h3,h4⟩:=zEf hm2;cases hr with
     | fn hl1 hl2 hr1 hr2 =>
      exact .fn (by rw[h1]; exact hl1) (by rw[h3]; exact hl2) (fun i hi=>zDh hH hf hl n (hr1 i (by omega)) (h2 i (by omega))) (fun i hi=>zDh hH hf hl n (hr2 i (by omega)) (h4 i (by omega)))
    ·cases h
   ·rename_i t u;cases hm:frz n H u with
    | none=>rw[hm]at h; cases h
    | some v' =>
     rw[hm]at h; cases h;cases hr with
     | ifc hr=>exact .ifc (zDh hH hf hl n hr hm)
   ·rename_i id off
    split at h
    ·rename_i cs ho;cases hm:mapO (frz n H) cs with
     | none=>rw[hm]at h; cases h
     | some cs' =>
      rw[hm]at h; cases h;obtain⟨h1,h2⟩:=zEf hm;cases hr with
      | ptr hloc =>
       rename_i l;obtain⟨l',hl',c,t,hc,hs,hrr⟩:=hH.obj id _ ho rfl;rw[hloc]at hl'; cases hl';refine .iptr (f:=fun j=>c.getD (l.base+j) undef) (hl _ ⟨id,_,l,ho,rfl,hloc,rfl⟩) (fun j hj=>cell?_row' hc (by omega)) (fun j hj=>hcell (h2 j (by omega)) (hrr j (by omega)).1) (fun j hj=>zDh hH hf hl n (hrr j (by omega)).2 (h2 j (by omega)))
    ·cases h
   ·rename_i id st len cap
    split at h
    ·rename_i sz es ho
     split at h
     ·rename_i hle;cases hm:mapO (frz n H) ((es.drop st).take len)with
      | none=>simp only[hm]at h; cases h
      | some es' =>
       simp only[hm]at h; cases h;obtain⟨h1,h2⟩:=zEf hm;have hlen:((es.drop st).take len).length=len:=by simp; omega
       rw[hlen]at h1 h2;cases hr with
       | sl hloc g1 g2 g3 =>
        rename_i l ad cc;obtain⟨l',hl',hsz,c,t,hc,hs,hrr⟩:=hH.obj id _ ho rfl;rw[hloc]at hl'; cases hl';have hg:∀ i,i < len->((es.drop st).take len).getD i .un=es.getD (st+i) .un:=fun i hi=>zBq es .un st len i hi (by omega)
        have had:0 < len->ad=⟨l.b,l.base+st*l.sz,none⟩:=fun h0=>(g3 (by omega)).1
        have hn:0 < len->∃ m,n=m+1:=fun h0=>by
         cases n with
         | zero=>have:=h2 0 (by assumption); simp[frz]at this
         | succ m=>exact⟨m,rfl⟩
        have hb:∀ i,i < len->(st+i)*sz+sz<=es.length*sz:=fun i hi=>by
         have:=Nat.mul_le_mul_right sz (show st+i+1<=es.length by omega);rw[Nat.succ_mul]at this; exact this
        have hel:∀ i j,i < len->j < sz->((es'.getD i .un).cells.getD j .un).isCell=true/\RepV w E' ((es'.getD i .un).cells.getD j .un) (c.getD (l.base+(st+i)*sz+j) undef):=by
         intro i j hi hj
         obtain⟨m,rfl⟩:=hn (by omega);have hfr:=h2 i hi;rw[hg i hi]at hfr;obtain⟨k1,k2,k3⟩:=hrr (st+i) (by omega);obtain⟨q1,q2,q3,q4⟩:=frz_cells hfr k1
         rcases el_cases k1 with hcc | ⟨cs,hcs⟩
         ·have hj0:j=0:=by rw[zBc hcc]at k2; simp at k2; omega
          subst hj0;rw[zBc (q3 hcc)];refine⟨q3 hcc,?_⟩;have:=(k3 0 hj).2;rw[zBc hcc]at this;exact zDh hH hf hl (m+1) this hfr
         ·by_cases hpp:(es.getD (st+i) .un).pur=true
          ·have:es'.getD i .un=es.getD (st+i) .un:=by
            have:=hfr;unfold frz at this;rw[if_pos hpp]at this;exact(Option.some.inj this).symm
           rw[this];exact⟨(k3 j hj).1,(k3 j hj).2.pure hf (pur_cells hpp j)⟩
          ·obtain⟨cs',e1,e2⟩:=q4 cs hcs (by simpa using hpp);obtain⟨m1,m2⟩:=zEf e2;rw[e1];rw[hcs]at k2 k3;have hj2:j < cs.length:=by simp only[AV.cells]at k2; omega
           have hmm:=m2 j hj2;have hcj:=(k3 j hj).1;refine⟨?_,?_⟩
           ·cases m with
            | zero=>simp[frz]at hmm
            | succ m'=>exact(frz_cells hmm (zEt hcj)).2.2.1 hcj
           ·have:=(k3 j hj).2;exact zDh hH hf hl m this hmm
        have hse:∀ i,i < len->(es'.getD i .un).isEl=true/\(es'.getD i .un).cells.length=sz:=by
         intro i hi
         obtain⟨m,rfl⟩:=hn (by omega);have hfr:=h2 i hi;rw[hg i hi]at hfr;obtain⟨k1,k2,k3⟩:=hrr (st+i) (by omega);obtain⟨q1,q2,q3,q4⟩:=frz_cells hfr k1;exact⟨q1,by rw[q2,k2]⟩
        have key:=RepV.isl (w:=w) (E:=E') (es:=es') (ad:=ad) (cc:=cc) (sz:=sz) (f:=fun i j=>c.getD (l.base+(st+i)*sz+j) undef)
         (fun h0=>by rw[had (by omega)]; exact⟨hl _ ⟨id,_,l,ho,rfl,hloc,rfl⟩,rfl⟩) (by omega)
         (fun i hi=>hse i (by omega))
         (fun i j hi hj=>by
          have hi':i < len:=by omega
          rw[had (by omega)];have:=hb i hi';rw[hsz,show l.base+st*sz+i*sz+j=l.base+(st+i)*sz+j by rw[Nat.add_mul]; omega];exact cell?_row' hc (by omega))
         (fun i j hi hj=>(hel i j (by omega) hj).1) (fun i j hi hj=>(hel i j (by omega) hj).2)
        rw[h1]at key;exact key
     ·cases h
    ·cases h
   ·cases h
 termination_by n=>n
def GPure(G:Gl):Prop:=∀ g cs,G g=some cs->AV.purL cs=true
def Pur(P:Program)(G:Gl)(f:FuncId)(args:List AV)(v:AV):Prop:=∀(H:List AO) (K:AV->List AO->Prop),K v H->AC P G f args H K
theorem RepL.pure{w:World}{E E':En}(hf:∀ b,E.fro b->E'.fro b){l:List AV}{vs:Array Value}(h:RepL w E l vs)(hp:AV.purL l=true):RepL w E' l vs :=
 ⟨h.1,fun i hi=>(h.2 i hi).pure hf (zDt hp i)⟩
theorem AC.alone{P:Program}{G:Gl}(hG:GPure G){f:FuncId}{args:List AV}(hp:AV.purL args=true){K0:AV->Prop}(h:AC P G f args [] fun v0 H0=>∃ n v,frz n H0 v0=some v/\K0 v)
  (H:List AO) (K:AV->List AO->Prop) (hK:∀ v,K0 v->K v H):AC P G f args H K:=by
 refine⟨h.1,fun E w vargs hH hA cs=>?_⟩
 let E0:En:={ loc:=fun _=>none,fro:=E.fro }
 have hH0:RelH G w E0 []:=⟨fun id o ho=>by simp at ho,fun id id' o o' l l' ho=>by simp at ho,hH.frob,fun b hb hl=>by
  obtain⟨id,o,l,ho,_⟩:=hl;simp at ho,fun id l hl=>by simp[E0]at hl,fun g cs hg=>RepV.pure (E:=E) (E':=E0) (fun _ h=>h) (hH.gl g cs hg) (by simpa[AV.pur]using hG g cs hg)⟩
 obtain⟨v0,H0,E',w',r,fr,⟨n,v,hfz,hv⟩,g1,g2,g3,g4,g5,g6⟩:=h.2 E0 w vargs hH0 (RepL.pure (E:=E) (E':=E0) (fun _ h=>h) hA hp) cs;have hnl:∀ b,¬ Live [] E0 b:=by rintro b ⟨id,o,l,ho,_⟩; simp at ho
 let E2:En:={ loc:=E.loc,fro:=fun b=>E'.fro b\/LiveC H0 E' b }
 have hlc:∀ b,LiveC H0 E' b->w.heap.size<=b:=by
  rintro b ⟨id,o,l,ho,hr,hl,rfl⟩
  rcases g2.newlive l.b ⟨id,o,l,ho,by cases o <;> first | rfl | (simp[AO.isRow]at hr),hl,rfl⟩with h1 | h1
  ·exact absurd h1 (hnl _)
  ·exact h1
 have hsame:∀ b,b < w.heap.size->w'.heap[b]?=w.heap[b]?:=fun b hb=>g2.same b hb (hnl b)
 have hm:Mono w E w' E2:=⟨fun b hb=>.inl (g2.mono.fro b hb),fun b hb=>by
  obtain⟨c,t,fz,hc⟩:=hH.frob b hb;exact hsame b (zBg hc),fun id l hl=>hl,g2.mono.row⟩
 have hf2:∀ b,E2.fro b->E.fro b\/w.heap.size<=b:=by
  rintro b (hb | hb)
  ·rcases g2.newfro b hb with h1 | h1 | h1
   ·exact .inl h1
   ·exact .inr h1
   ·exact absurd h1 (hnl b)
  ·exact .inr (hlc b hb)
 have hR:RelH G w' E2 H:=by
  refine⟨fun id o ho hlv=>?_,hH.inj,fun b hb=>?_,fun b hb hl=>?_,hH.dom,fun g cs hg=>(hH.gl g cs hg).mono hm⟩
  ·obtain⟨l,hl,hr⟩:=hH.obj id o ho hlv;exact⟨l,hl,hr.mono hm (hsame _ (Live.lt hH ⟨id,o,l,ho,hlv,hl,rfl⟩))⟩
  ·rcases hb with hb | hb
   ·exact g1.frob b hb
   ·obtain⟨id,o,l,ho,hr,hl,rfl⟩:=hb;obtain⟨l',hl',hrel⟩:=g1.obj id o ho (by cases o <;> first | rfl | (simp[AO.isRow]at hr));rw[hl]at hl'; cases hl';cases o with
    | cells cs=>obtain⟨c,t,hc,_⟩:=hrel; exact⟨c,t,_,hc⟩
    | arr sz es=>obtain⟨_,c,t,hc,_⟩:=hrel; exact⟨c,t,_,hc⟩
    | map es clock=>simp[AO.isRow]at hr
    | mit mid since seen stepped=>simp[AO.isRow]at hr
    | loop al=>simp[AO.isRow]at hr
    | dead=>simp[AO.isRow]at hr
  ·rcases hf2 b hb with h1 | h1
   ·exact hH.sep b h1 hl
   ·have:=Live.lt hH hl; omega
 refine⟨v,H,E2,w',r,fr,hK v hv,hR,⟨hm,g2.size,fun b hb _=>hsame b hb,fun b hb=>(hf2 b hb).imp id .inl,fun b hb=>.inl hb,g2.os,g2.tape,g2.output⟩,?_,g4,g5,g6⟩;exact zDh (E':=E2) g1 (fun b hb=>Or.inl hb) (fun b hb=>Or.inr hb) n g3 hfz
theorem Pur.of_alone{P:Program}{G:Gl}(hG:GPure G){f:FuncId}{args:List AV}(hp:AV.purL args=true){v:AV}(h:AC P G f args [] fun v0 H0=>∃ n,frz n H0 v0=some v):Pur P G f args v :=
 fun H K hK=>AC.alone hG hp (K0:=fun u=>u=v) (h.mono fun v0 H0 ⟨n,hn⟩=>⟨n,v,hn,rfl⟩) H K (fun u hu=>hu ▸ hK)
end Go.Ab
