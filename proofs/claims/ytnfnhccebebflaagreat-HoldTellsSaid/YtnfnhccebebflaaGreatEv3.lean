/- One of the texts that this claim stands on. -/
import Derived.Test.YtnfnhccebebflaaGreatEv2
import Derived.RangeFuncRecord
import Derived.Tactics
set_option maxHeartbeats 40000000
set_option maxRecDepth 400000
set_option linter.all false
namespace Go.Ab
def zDl(P:Program)(f:FuncId):Prop:=∃ fn,P.funcs[f]?=some fn∧fn.body.isSome=true∧(fn.name== "runtime.NumGoroutine")=false
def RepL(w:World)(E:En)(l:List AV)(vs:Array Value):Prop:=vs.size=l.length∧∀ i,i < l.length→RepV w E (l.getD i .un) (vs.getD i undef)
theorem RepL.mono{w w':World}{E E':En}(hm:Mono w E w' E'){l:List AV}{vs:Array Value}(h:RepL w E l vs):RepL w' E' l vs:=⟨h.1,fun i hi=>(h.2 i hi).mono hm⟩
section
variable (P:Program) (G:Gl)
def AC(f:FuncId)(args:List AV)(H:List AO)(K:AV→List AO→Prop):Prop :=
 zDl P f∧∀(E:En) (w:World) (vargs:Array Value),RelH G w E H→RepL w E args vargs→∀ cs:List Frame,
  ∃ v H' E' w' r fr,K v H'∧RelH G w' E' H'∧Grow H E w H' E' w'∧RepV w' E' v r ∧
   Steps P (lone (Frame.enter P f vargs .normal) cs w) (lone fr cs w')∧fr.fn=f∧fr.leaving P w' (.returned r)
def resVar(ts:Nat→AV)(H:List AO):ResultVar→Option AV
 | .tmp t=>some (ts t)
 | .cell a t=>aload P G t (ts a) H
def resL(ts:Nat→AV)(H:List AO):List ResultVar→Option (List AV)
 | []=>some []
 | r::l=>match resVar P G ts H r,resL ts H l with
  | some v,some vs=>some (v::vs)
  | _,_=>none
def resA(rs:Array ResultVar)(ts:Nat→AV)(H:List AO):Option AV :=
 match resL P G ts H rs.toList with
 | some [v]=>some v
 | some vs=>some (.tup vs)
 | none=>none
end
def resVOk(n:Nat):ResultVar→Bool
 | .tmp t=>decide (t < n)
 | .cell a _=>decide (a < n)
def resOk(n:Nat)(rs:Array ResultVar):Bool:=rs.all (resVOk n)
section
variable {P:Program} {G:Gl}
def resRun(tmps:Array Value):ResultVar→Sem Value
 | .tmp t=>pure (tmps.getD t undef)
 | .cell a t=>do loadVar t (← asAddr (tmps.getD a undef))
theorem resVar_run{n:Nat}{ts:Nat→AV}{H:List AO}{w:World}{E:En}{tmps:Array Value}(hH:RelH G w E H)(hT:RepT w E n ts tmps){r:ResultVar}{v:AV}
  (hok:resVOk n r=true) (h:resVar P G ts H r=some v) :
  ∃ x,(resRun tmps r).run P w=.ok x w∧RepV w E v x:=by
 cases r with
 | tmp t =>
  simp only[resVar]at h; cases h;exact⟨_,rfl,hT.2 t (by simpa[resVOk]using hok)⟩
 | cell a t =>
  simp only[resVar]at h;obtain⟨ad,x,hp,hl,hx⟩:=aload_sound (P:=P) h hH (hT.2 a (by simpa[resVOk]using hok));refine⟨x,?_,hx⟩;simp only[resRun,hp,asAddr,Sem.run_bind,Sem.run_pure,Result.andThen_ok,hl]
theorem resL_run{n:Nat}{ts:Nat→AV}{H:List AO}{w:World}{E:En}{tmps:Array Value}(hH:RelH G w E H)(hT:RepT w E n ts tmps) :
  ∀ {rs:List ResultVar} {vs:List AV},(∀ r,r∈rs→resVOk n r=true)→resL P G ts H rs=some vs →
  ∃ xs:List Value,(rs.mapM (resRun tmps)).run P w=Result.ok xs w∧xs.length=vs.length ∧
   ∀ i,i < vs.length→RepV w E (vs.getD i .un) (xs.getD i undef)
 | [],vs,_,h=>by simp only[resL]at h; cases h; exact⟨[],rfl,rfl,fun i hi=>by simp at hi⟩
 | r::rs,vs,hok,h=>by
  simp only[resL]at h
  split at h
  ·rename_i v vs' hv hvs;cases h;obtain⟨x,hx,hrx⟩:=resVar_run hH hT (hok r (by simp)) hv;obtain⟨xs,hxs,hl,hr⟩:=resL_run hH hT (fun q hq=>hok q (by simp[hq])) hvs;refine⟨x::xs,?_,by simp[hl],fun i hi=>?_⟩
   ·simp only[List.mapM_cons,Sem.run_bind,hx,Result.andThen_ok,hxs,Sem.run_pure]
   ·cases i with
    | zero=>simpa[List.getD]using hrx
    | succ i=>simpa[List.getD]using hr i (by simpa using hi)
  ·cases h
theorem resA_run{n:Nat}{ts:Nat→AV}{H:List AO}{w:World}{E:En}{tmps:Array Value}(hH:RelH G w E H)(hT:RepT w E n ts tmps){fn:Func}(hok:resOk n fn.results=true){v:AV}
  (h:resA P G fn.results ts H=some v):∃ x,(results fn tmps).run P w=.ok x w∧RepV w E v x:=by
 have hok':∀ r,r∈fn.results.toList→resVOk n r=true:=fun r hr=>(Array.all_eq_true'.1 hok) r (by simpa using hr)
 unfold resA at h;cases hl:resL P G ts H fn.results.toList with
 | none=>rw[hl]at h; cases h
 | some vs =>
  obtain⟨xs,hxs,hlen,hr⟩:=resL_run hH hT hok' hl;have hres:(results fn tmps).run P w=.ok (if h:xs.toArray.size=1 then xs.toArray[0] else .tuple xs.toArray) w:=by
   have e:results fn tmps=(do
     let vs ← fn.results.mapM (resRun tmps)
     pure (if h:vs.size=1 then vs[0] else .tuple vs)):=by
    unfold results
    congr 1
   rw[e,Array.mapM_eq_mapM_toList];simp only[Sem.run_bind,hxs,Result.andThen_ok,Sem.run_pure,map_eq_pure_bind]
  rw[hl]at h
  rcases vs with _ | ⟨v0,_ | ⟨v1,l⟩⟩ <;> rcases xs with _ | ⟨x0,_ | ⟨x1,m⟩⟩ <;> simp at hlen
  ·cases h;exact⟨_,by rw[hres]; rfl,.tup (by simp) (fun i hi=>by simp at hi)⟩
  ·cases h;exact⟨x0,by rw[hres]; simp,by simpa using hr 0 (by simp)⟩
  ·cases h;refine⟨.tuple (x0::x1::m).toArray,by rw[hres,dif_neg (by simp)],.tup (by simpa using hlen) (fun i hi=>?_)⟩;have:=hr i hi;rw[show(x0::x1::m).toArray.getD i undef=(x0::x1::m).getD i undef by simp[List.getD,Array.getD_eq_getD_getElem?]];exact this
theorem step_unwind_mark{b:Frame}{r:Nat}{ds:List Deferred}{cs:List Frame}{w:World}(hr:w.heap[r]?=some (Obj.deferred (some []))) :
  step P (lone { b with mode:=.returning,defers:=zCy r::ds } cs w)=.next (lone { b with mode:=.returning,defers:=ds } cs { w with heap:=w.heap.setIfInBounds r (.deferred none) }):=by
 refine step_lone_go ?_;have:=run_takeDeferred (P:=P) (w:=w) hr;simp[stepG,unwind,zCy,this,World.putObj]
theorem unwind_marks{E:En}{H:List AO}(b:Frame)(cs:List Frame):∀(rs:List Nat) (w:World),RelH G w E H→rs.Nodup→(∀ r,r∈rs→w.heap[r]?=some (Obj.deferred (some []))) →
  ∃ w',Steps P (lone { b with mode:=.returning,defers:=rs.map zCy } cs w) (lone { b with mode:=.returning,defers:=[] } cs w')∧RelH G w' E H∧Mono w E w' E∧w'.heap.size=w.heap.size ∧
   (∀ c,c ∉ rs→w'.heap[c]?=w.heap[c]?)∧w'.os=w.os∧w'.tape=w.tape∧OutOk w w'
 | [],w,h,_,_=>⟨w,.refl _ _,h,Mono.refl _ _,rfl,fun _ _=>rfl,rfl,rfl,OutOk.refl _⟩
 | r::rs,w,h,hn,hd=>by
  have hs:=rel_set_plain h (hd r (by simp)) (ds':=none);rw[List.nodup_cons]at hn;obtain⟨w',h1,h2,h3,h4,h5,h6,h7,h8⟩:=unwind_marks b cs rs _ hs.1 hn.2 (fun q hq=>by
   show(w.heap.setIfInBounds r (.deferred none))[q]?=_;rw[Array.getElem?_setIfInBounds_ne (fun e=>hn.1 (by rw[e]; exact hq))];exact hd q (by simp[hq]))
  refine⟨w',.head (step_unwind_mark (hd r (by simp))) h1,h2,hs.2.trans h3,by simpa using h4,fun c hc=>?_,h6,h7,⟨h8.out,h8.drawn⟩⟩;rw[h5 c (fun hc'=>hc (by simp[hc']))];show(w.heap.setIfInBounds r (.deferred none))[c]?=_;rw[Array.getElem?_setIfInBounds_ne (fun e=>hc (by simp[e]))]
theorem step_leave_nor{b:Frame}{tmps:Array Value}{D:List Deferred}{cs:List Frame}{w:World}(hb:b.roundOf=none) :
  step P (lone (frm b tmps [] D) cs w)=.next (lone { frm b tmps [] D with mode:=.returning } cs w) :=
 step_lone_go (by simp[stepG,stepG.exec,frm,hb])
theorem step_leave_ret{b:Frame}{tmps:Array Value}{k:List Item}{D:List Deferred}{cs:List Frame}{w:World}(hb:b.roundOf=none) :
  step P (lone (frm b tmps (.code .ret::k) D) cs w)=.next (lone { frm b tmps (.code .ret::k) D with mode:=.returning } cs w) :=
 step_lone_go (by simp[stepG,stepG.exec,frm,hb])
def argTs(args:List AV):Nat→AV:=fun i=>args.getD i .un
theorem AC.of_body{f:FuncId}{fn:Func}{c:Code}(hf:P.funcs[f]?=some fn)(hb:fn.body=some c)(hnm:(fn.name== "runtime.NumGoroutine")=false)(hok:zBo fn.ntmps c=true)
  (hro:resOk fn.ntmps fn.results=true) {args:List AV} (hn:args.length≤fn.ntmps) {H:List AO} {K:AV→List AO→Prop}
  (h:FW P G none fn.ntmps [.code c] (argTs args) H fun L ts' H'=>(L=.nor∨L=.ret)∧∃ v,resA P G fn.results ts' H'=some v∧K v H') :
  AC P G f args H K:=by
 refine⟨⟨fn,hf,by simp[hb],hnm⟩,fun E w vargs hH hA cs=>?_⟩;have hT:RepT w E fn.ntmps (argTs args) (vargs++Array.replicate (fn.ntmps - vargs.size) undef):=by
  refine⟨by simp[hA.1]; omega,fun i hi=>?_⟩;unfold argTs
  by_cases hi2:i < args.length
  ·have e:(vargs++Array.replicate (fn.ntmps - vargs.size) undef).getD i undef=vargs.getD i undef:=by
    rw[Array.getD_eq_getD_getElem?,Array.getD_eq_getD_getElem?,Array.getElem?_append_left (by rw[hA.1]; exact hi2)]
   rw[e]; exact hA.2 i hi2
  ·have e:(vargs++Array.replicate (fn.ntmps - vargs.size) undef).getD i undef=undef:=by
    rw[Array.getD_eq_getD_getElem?,Array.getElem?_append_right (by rw[hA.1]; omega)];simp only[Array.getElem?_replicate]
    split <;> rfl
   have e2:args.getD i .un=.un:=by simp[List.getD,List.getElem?_eq_none (Nat.le_of_not_lt hi2)]
   rw[e,e2];exact .tup rfl (fun i hi=>by simp at hi)
 let b:Frame:={ (default:Frame)with fn:=f,kind:=.normal }
 have henter:Frame.enter P f vargs .normal=frm b (vargs++Array.replicate (fn.ntmps - vargs.size) undef) [.code c] []:=by
  simp[Frame.enter,frm,hf,hb,b]; rfl
 obtain⟨L,ts',H',E',w',tmps',D',todo',⟨hL,v,hv,hK⟩,h2,h3,h4,h6,⟨_,rs',hD',hnd,hrs0⟩,h8⟩ :=
  h (by simpa[zAk,zDp,zCe]using hok) E w _ hH hT b [] cs ⟨rfl,by simp[b]⟩
 rw[List.append_nil]at hD';subst hD';have hdd:=fun r hr=>(hrs0 r hr).2
 have hrs:=fun r hr=>(hrs0 r hr).1
 replace h8:=h8.steps P (by rcases hL with rfl | rfl <;> intro v hv <;> cases hv)
 have hret:Steps P (lone (frm b tmps' todo' (rs'.map zCy)) cs w') (lone { frm b tmps' todo' (rs'.map zCy)with mode:=.returning } cs w'):=by
  rcases hL with rfl | rfl
  ·have h6':todo'=[]:=h6;subst h6'; exact .one (step_leave_nor rfl)
  ·obtain⟨k,rfl⟩:∃ k,todo'=.code .ret::k:=h6;exact .one (step_leave_ret rfl)
 obtain⟨w2,g1,g2,g3,g4,g5,g6,g7,g8⟩:=unwind_marks (P:=P) (frm b tmps' todo' []) cs rs' w' h2 hnd hdd;obtain⟨x,hx,hrx⟩:=resA_run (P:=P) g2 (h4.mono g3) hro hv;refine⟨v,H',E',w2,x,{ frm b tmps' todo' []with mode:=.returning,defers:=[] },hK,g2,?_,hrx,?_,rfl,rfl,rfl,rfl,fn,hf,hx⟩
 ·exact⟨h3.mono.trans g3,by rw[g4]; exact h3.size,fun c hc hl=>by
   rw[g5 c (fun hc'=>by have:=hrs c hc'; omega)]; exact h3.same c hc hl,h3.newfro,h3.newlive,by rw[g6,h3.os],by rw[g7,h3.tape],h3.output.trans g8⟩
 ·rw[henter];exact h8.trans (hret.trans g1)
theorem AC.mono{f:FuncId}{args:List AV}{H:List AO}{K K':AV→List AO→Prop}(h:AC P G f args H K)(hk:∀ v H',K v H'→K' v H'):AC P G f args H K' :=
 ⟨h.1,fun E w vargs hH hA cs=>let ⟨v,H',E',w',r,fr,h1,h2⟩:=h.2 E w vargs hH hA cs; ⟨v,H',E',w',r,fr,hk _ _ h1,h2⟩⟩
def zBq:Lv→Option Code
 | .nor=>none
 | .ret=>some .ret
 | .exit id=>some (.exit id)
 | .goto l=>some (.goto l)
 | _=>none
def AY(P:Program)(G:Gl)(id:Nat)(args:List AV)(H:List AO)(K:AV→List AO→Prop):Prop :=
 ∀(E:En) (w:World) (vargs:Array Value),RelH G w E H→RepL w E args vargs→∃ l,E.loc id=some l ∧
  ∃ f tm a b,(Instr.yield l.b vargs).run P w=.ok (.round l.b f tm a b) w∧∀(c:Frame) (cs:List Frame),
   ∃ v H' E' w' r,K v H'∧RelH G w' E' H'∧Grow H E w H' E' w'∧RepV w' E' v r∧Steps P (lone (Frame.round l.b f tm a b .normal) (c::cs) w) (lone (c.finish r) cs w')
def ACV(P:Program)(G:Gl):AV→List AV→List AO→(AV→List AO→Prop)→Prop
 | .fn f first caps,args,H,K=>AC P G f (first++(args++caps)) H K
 | .yld id,args,H,K=>AY P G id args H K
 | _,_,_,_=>False
theorem RepL.append{w:World}{E:En}{l m:List AV}{vs us:Array Value}(h:RepL w E l vs)(k:RepL w E m us):RepL w E (l++m) (vs++us):=by
 refine⟨by simp[h.1,k.1],fun i hi=>?_⟩;rw[Array.getD_eq_getD_getElem?];simp only[List.getD]
 by_cases hl:i < l.length
 ·rw[List.getElem?_append_left hl,Array.getElem?_append_left (by rw[h.1]; exact hl)];have:=h.2 i hl;rw[Array.getD_eq_getD_getElem?]at this;exact this
 ·rw[List.getElem?_append_right (by omega),Array.getElem?_append_right (by rw[h.1]; omega),h.1];have:=k.2 (i - l.length) (by simp at hi; omega);rw[Array.getD_eq_getD_getElem?]at this;exact this
theorem repL_map{w:World}{E:En}{n:Nat}{ts:Nat→AV}{tmps:Array Value}(hT:RepT w E n ts tmps){xs:Array Operand}(hx:xs.all (zCs n)=true)(D:List Deferred) :
  RepL w E (xs.toList.map (ev ts)) (xs.map (Act.eval ⟨tmps,D⟩)):=by
 refine⟨by simp,fun i hi=>?_⟩;have hi':i < xs.size:=by simpa using hi
 have e1:(xs.toList.map (ev ts)).getD i .un=ev ts xs[i]:=by simp[List.getD,hi']
 have e2:(xs.map (Act.eval ⟨tmps,D⟩)).getD i undef=Act.eval ⟨tmps,D⟩ xs[i]:=by simp[Array.getD,hi']
 rw[e1,e2];exact zAr hT ((Array.all_eq_true'.1 hx) _ (by simp)) D
theorem run_callFunc{f:FuncId}(h:zDl P f)(args:Array Value)(w:World):(callFunc f args).run P w=.ok (.enter f args) w:=by
 obtain⟨fn,h1,h2,h3⟩:=h;have h4:fn.body≠none:=by intro e; rw[e]at h2; cases h2
 have h3':¬ fn.name= "runtime.NumGoroutine":=by simpa using h3
 simp[callFunc,program,Sem.run_bind,Sem.run,Result.andThen,h1,h3',h4]
theorem ACV.run{callee:AV}{args:List AV}{H:List AO}{K:AV→List AO→Prop}(h:ACV P G callee args H K){E:En}{w:World}{fv:Value}{vargs:Array Value}
  (hH:RelH G w E H) (hc:RepV w E callee fv) (hA:RepL w E args vargs) (c:Frame) (cs:List Frame) :
  ∃ v H' E' w' r,K v H'∧RelH G w' E' H'∧Grow H E w H' E' w'∧RepV w' E' v r∧OpRun P (do let d ← Deferred.ofValue fv vargs; invoke d.target d.args) c cs w r w':=by
 cases hc <;> first | exact h.elim | skip
 case fn f fs us vs us' hl1 hl2 h1 h2 =>
  obtain⟨hcal,h⟩:=h;obtain⟨v,H',E',w',r,fr,g1,g2,g3,g4,g5,g6,g7⟩:=h E w (vs++(vargs++us')) hH (RepL.append ⟨hl1,h1⟩ (hA.append ⟨hl2,h2⟩)) (c::cs);refine⟨v,H',E',w',r,g1,g2,g3,g4,.inr (.inr (.inl ⟨f,vs++(vargs++us'),w,?_,g5.trans (.one (step_leave_returned g7))⟩))⟩;simp only[Deferred.ofValue,pure_bind,invoke];rw[run_callFunc hcal];rw[Array.append_assoc]
 case yld id l hl =>
  obtain⟨l',hl',f,tm,a,b,hy,h⟩:=h E w vargs hH hA;rw[hl]at hl'; cases hl';obtain⟨v,H',E',w',r,g1,g2,g3,g4,g5⟩:=h c cs;refine⟨v,H',E',w',r,g1,g2,g3,g4,.inr (.inr (.inr ⟨l.b,f,tm,a,b,w,?_,g5⟩))⟩;simp only[Deferred.ofValue,pure_bind,invoke];simpa using hy
theorem OpS.call{n:Nat}{o:Oper}{ts:Nat→AV}{H:List AO}{K:AV→List AO→Prop}{f:Operand}{args:Array Operand}{tys:Array TypeId}(ho:o.op=.call { callee:=.value f,args:=args,argTypes:=tys })
  (h:ACV P G (ev ts f) (args.toList.map (ev ts)) H K):OpS P G n o ts H K:=by
 intro E w tmps hH hT hok D c cs
 simp only[zBb,ho,Op.operands,Call.operands,Bool.and_eq_true,Array.all_append]at hok;have hf:zCs n f=true:=by simpa using hok.2.1
 obtain⟨v,H',E',w',r,g1,g2,g3,g4,g5⟩:=h.run hH (zAr hT hf D) (repL_map hT hok.2.2 D) c cs;refine⟨v,H',E',w',r,g1,g2,g3,g4,?_⟩;have e:execOp (Act.eval ⟨tmps,D⟩) o=(do let d ← Deferred.ofValue (Act.eval ⟨tmps,D⟩ f) (args.map (Act.eval ⟨tmps,D⟩)); invoke d.target d.args):=by
  simp[execOp,ho,resolve]
 rw[e]; exact g5
def zFt(ts:Nat→AV):List Tmp→List AV→Nat→AV
 | p::ps,a::as=>zFt (upd ts p a) ps as
 | _,_=>ts
theorem parTs_rep{w:World}{E:En}{n:Nat}:∀(ps:List Tmp) (as:List AV) (vs:List Value) (ts:Nat→AV) (tmps:Array Value),RepT w E n ts tmps→as.length=vs.length→(∀ i,i < as.length→RepV w E (as.getD i .un) (vs.getD i undef)) →
  RepT w E n (zFt ts ps as) ((ps.zip vs).foldl (fun tmps (x:Tmp × Value)=>tmps.setIfInBounds x.1 x.2) tmps)
 | [],as,vs,ts,tmps,hT,hl,h=>by simpa[zFt]using hT
 | p::ps,[],vs,ts,tmps,hT,hl,h=>by
  have:vs=[]:=by cases vs <;> simp_all
  subst this;simpa[zFt]using hT
 | p::ps,a::as,[],ts,tmps,hT,hl,h=>by simp at hl
 | p::ps,a::as,v::vs,ts,tmps,hT,hl,h=>by
  simp only[zFt,List.zip_cons_cons,List.foldl_cons];refine parTs_rep ps as vs _ _ (hT.put (by simpa[List.getD]using h 0 (by simp)) (some p)) (by simpa using hl) (fun i hi=>?_);simpa[List.getD]using h (i+1) (by simpa using hi)
theorem resolve_one(ρ:Operand→Value)(f x:Operand):resolve ρ { callee:=.value f,args:=#[x],argTypes:=#[] } 0=Deferred.ofValue (ρ f) #[ρ x]:=by
 simp[resolve]
theorem FW.beginRound{id n:Nat}{k:List Item}{ts:Nat→AV}{H:List AO}{Q:Lv→(Nat→AV)→List AO→Prop}{al:ALoop}(hid:H[id]?=some (.loop al))(hst:al.st=.ready)
  (h:FW P G (some id) n k ts (H.set id (.loop { al with st:=.busy })) Q):FW P G (some id) n (.beginRound::k) ts H Q:=by
 intro hk E w tmps hH hT b D cs hrd
 have hk':=hk;rw[zAk,Bool.and_eq_true]at hk';obtain⟨l,hl,hb,hkd⟩:=hrd;obtain⟨l',hl',fn,tm,d,hc,hs,hr,hok⟩:=hH.obj id _ hid rfl;rw[hl]at hl'; cases hl';have hw:=zBr hH (w':={ w with heap:=w.heap.setIfInBounds l.b (.loop { state:=.busy,pending:=al.pending,fn,tmps:=tm,params:=al.params,assign:=al.assign,body:=al.body,defers:=d }) })
  hid rfl hl (.loop { al with st:=.busy }) (by simp) (fun c hcne=>Array.getElem?_setIfInBounds_ne (fun e=>hcne e.symm)) (fun m hm=>by simp[zAt,hc]at hm) rfl rfl ⟨rfl,Nat.le_refl _⟩
  (fun hm=>⟨fn,tm,d,by simp[zAu hc],hs,fun i hi=>(hr i hi).mono hm,hok⟩)
 obtain⟨L,ts',H',E',w',tmps',D',todo',h1,h2,h3,h4,h6,h7,h8⟩:=h hk'.2 E _ tmps hw.1 (hT.mono hw.2.mono) b D cs ⟨l,hl,hb,hkd⟩;refine⟨L,ts',H',E',w',tmps',D',todo',h1,h2,hw.2.trans h3,h4,h6,⟨h7.1,h7.2.le hw.2.size⟩,h8.pre P (.one (step_lone_go ?_))⟩;simp[stepG,stepG.exec,frm,hb,stepG.apply,Instr.beginRound,Instr.getLoop,getObj,setObj,Sem.run_bind,Sem.run,hc,Result.andThen,hst,Frame.finish]
theorem step_end_round{b:Frame}{l:Nat}{lp:Loop}{L:Lv}{tmps:Array Value}{todo:List Item}{D:List Deferred}{c:Frame}{cs:List Frame}{w:World}(hb:b.roundOf=some l)(hkd:b.kind=.normal)
  (hl:w.heap[l]?=some (.loop lp)) (hL:zFe todo L) (hp:L.plain=true) :
  step P (lone (frm b tmps todo D) (c::cs) w)=.next (lone (c.finish (.bool (zBq L).isNone)) cs
   { w with heap:=w.heap.setIfInBounds l (.loop { lp with state:=if (zBq L).isNone then .ready else .done,pending:=zBq L }) }):=by
 refine step_lone_go ?_;have he:∀ j,(Instr.endRound l j).run P w=.ok (.bool j.isNone) { w with heap:=w.heap.setIfInBounds l (.loop { lp with state:=if j.isNone then .ready else .done,pending:=j }) }:=by
  intro j
  simp[Instr.endRound,Instr.getLoop,getObj,setObj,Sem.run_bind,Sem.run,hl,Result.andThen]
 cases L with
 | nor =>
  obtain rfl:todo=[]:=hL;simp[stepG,stepG.exec,frm,hb,he,doReturn,hkd,zBq]
 | ret =>
  obtain⟨k,rfl⟩:=hL;simp[stepG,stepG.exec,frm,hb,he,doReturn,hkd,zBq]
 | exit i =>
  obtain⟨k,rfl,hk⟩:=hL;simp[stepG,stepG.exec,frm,hb,he,doReturn,hkd,zBq,hk]
 | goto i =>
  obtain⟨k,rfl,hk⟩:=hL;simp[stepG,stepG.exec,frm,hb,he,doReturn,hkd,zBq,hk]
 | stop t=>cases hp
 | pan v=>cases hp
theorem AY.of_loop{id:Nat}{args:List AV}{H:List AO}{K:AV→List AO→Prop}{al:ALoop}(hid:H[id]?=some (.loop al))(hlen:al.params.size=args.length)
  (h:FW P G (some id) al.n [.code al.assign,.beginRound,.code al.body] (zFt al.tmps al.params.toList args) H fun L ts' H'=>L.plain=true ∧
   ∃ al',H'[id]?=some (.loop al')∧K (.c (.bool (zBq L).isNone)) (H'.set id (.loop { al' with st:=if (zBq L).isNone then .ready else .done,pending:=zBq L }))) :
  AY P G id args H K:=by
 intro E w vargs hH hA
 obtain⟨l,hl,fn,tm,d,hc,hs,hr,hok⟩:=hH.obj id _ hid rfl;simp only[Bool.and_eq_true]at hok;refine⟨l,hl,fn,(al.params.zip vargs).foldl (fun tmps (x:Tmp × Value)=>tmps.setIfInBounds x.1 x.2) tm,al.assign,al.body,?_,fun c cs=>?_⟩
 ·simp[Instr.yield,Instr.getLoop,getObj,Sem.run_bind,Sem.run,hc,Result.andThen,hA.1,hlen]
 ·let b:Frame:={ (default:Frame)with fn:=fn,kind:=.normal,roundOf:=some l.b }
  have hT:RepT w E al.n (zFt al.tmps al.params.toList args) ((al.params.zip vargs).foldl (fun tmps (x:Tmp × Value)=>tmps.setIfInBounds x.1 x.2) tm):=by
   have:=parTs_rep (w:=w) (E:=E) (n:=al.n) al.params.toList args vargs.toList al.tmps tm ⟨hs,hr⟩ (by simpa using hA.1.symm) (fun i hi=>by
    have:=hA.2 i hi
    rwa [Array.getD_eq_getD_getElem?,← Array.getElem?_toList]at this)
   rw[← Array.foldl_toList,Array.toList_zip];exact this
  have henter:Frame.round l.b fn ((al.params.zip vargs).foldl (fun tmps (x:Tmp × Value)=>tmps.setIfInBounds x.1 x.2) tm) al.assign al.body .normal =
    frm b ((al.params.zip vargs).foldl (fun tmps (x:Tmp × Value)=>tmps.setIfInBounds x.1 x.2) tm) [.code al.assign,.beginRound,.code al.body] []:=rfl
  obtain⟨L,ts',H',E',w',tmps',D',todo',⟨hp,al',hal',hK⟩,h2,h3,h4,h6,h7,h8⟩:=h (by simp[zCe,zDp,hok]) E w _ hH hT b [] (c::cs) ⟨l,hl,rfl,rfl⟩
  replace h8:=h8.steps P (by intro v hv; subst hv; cases hp)
  have hl':=h3.mono.loc _ _ hl;obtain⟨l2,hl2,fn',tm',d',hc',hs',hr',hok'⟩:=h2.obj id _ hal' rfl;rw[hl']at hl2; cases hl2;have hw:=zBr h2 (w':={ w' with heap:=w'.heap.setIfInBounds l.b (.loop { state:=if (zBq L).isNone then .ready else .done,pending:=zBq L,fn:=fn',tmps:=tm',params:=al'.params,assign:=al'.assign,body:=al'.body,defers:=d' }) })
   hal' rfl hl' (.loop { al' with st:=if (zBq L).isNone then .ready else .done,pending:=zBq L }) (by simp) (fun c hcne=>Array.getElem?_setIfInBounds_ne (fun e=>hcne e.symm)) (fun m hm=>by simp[zAt,hc']at hm) rfl rfl ⟨rfl,Nat.le_refl _⟩
   (fun hm=>⟨fn',tm',d',by simp[zAu hc'],hs',fun i hi=>(hr' i hi).mono hm,by
    simp only[Bool.and_eq_true]at hok' ⊢;exact⟨hok'.1,by cases L <;> rfl⟩⟩)
  refine⟨_,_,E',_,_,hK,hw.1,h3.trans hw.2,.c rfl,?_⟩;rw[henter];exact h8.trans (.one (step_end_round rfl rfl hc' h6 hp))
theorem FW.rangeFunc{n:Nat}{k:List Item}{ts:Nat→AV}{H:List AO}{Q:Lv→(Nat→AV)→List AO→Prop}{f:Operand}{ps:Array Tmp}{a bd:Code}
  (h:ACV P G (ev ts f) [.yld H.length] (H++[.loop { st:=.ready,pending:=none,n,tmps:=ts,params:=ps,assign:=a,body:=bd }]) fun _ H1 =>
   ∃ al,H1[H.length]?=some (.loop al)∧al.st≠.busy∧FW P G none n ((al.pending.map Item.code).toList++k) ts (H1.set H.length .dead) Q) :
  FW P G none n (.code (.rangeFunc f ps a bd)::k) ts H Q:=by
 intro hk E w tmps hH hT b D cs hrd
 have hk':=hk;rw[zAk,Bool.and_eq_true]at hk';simp only[zDp,zBo,Bool.and_eq_true]at hk';obtain⟨⟨⟨⟨hf,hps⟩,ha⟩,hbd⟩,hkk⟩:=hk';have h0:=rel_alloc_plain hH (Obj.deferred (some []));have hnew:=getElem?_alloc_new w (Obj.deferred (some []))
 generalize hw0:w.alloc (Obj.deferred (some []))=w0 at h0 hnew
 have hsz0:w0.heap.size=w.heap.size+1:=by rw[← hw0]; simp
 have h1:=rel_alloc h0.1 (.loop { state:=.ready,pending:=none,fn:=b.fn,tmps,params:=ps,assign:=a,body:=bd,defers:=w.heap.size })
  (.loop { st:=.ready,pending:=none,n,tmps:=ts,params:=ps,assign:=a,body:=bd }) ⟨w0.heap.size,0,0⟩ rfl
  (fun E' hm hl=>⟨b.fn,tmps,w.heap.size,getElem?_alloc_new w0 _,hT.1,fun i hi=>((hT.mono h0.2.mono).2 i hi).mono hm,by simp only[Bool.and_eq_true,Option.all_none]; exact⟨⟨⟨ha,hbd⟩,hps⟩,trivial⟩⟩)
 obtain⟨hR1,hG1,hloc1⟩:=h1
 generalize hw1:w0.alloc (.loop { state:=.ready,pending:=none,fn:=b.fn,tmps,params:=ps,assign:=a,body:=bd,defers:=w.heap.size })=w1 at hR1 hG1
 have hsz1:w1.heap.size=w.heap.size+2:=by rw[← hw1]; simp[hsz0]
 have hT1:=(hT.mono h0.2.mono).mono hG1.mono;have hcallee:=zAr hT1 hf (zCy w.heap.size::D)
 let c:Frame:=frm b tmps (.inRangeFunc w0.heap.size::k) (zCy w.heap.size::D)
 obtain⟨v,H1,E1,w2,r,⟨al,hal,hbusy,hF⟩,g2,g3,g4,g5⟩:=h.run hR1 hcallee (vargs:=#[.func (.yield w0.heap.size) #[] #[]]) ⟨rfl,fun i hi=>by
  simp at hi; subst hi;exact .yld (l:=⟨w0.heap.size,0,0⟩) hloc1⟩ c cs
 have hl2:=g3.mono.loc _ _ hloc1;obtain⟨l',hl',fn',tm',d',hc',hs',hr',hok'⟩:=g2.obj H.length _ hal rfl;rw[hl2]at hl'; cases hl';have hdrop:=rel_drop g2 H.length;have hpl:=zBr g2 (w':={ w2 with heap:=w2.heap.setIfInBounds w0.heap.size (.loop { state:=.exhausted,pending:=al.pending,fn:=fn',tmps:=tm',params:=al.params,assign:=al.assign,body:=al.body,defers:=d' }) })
   hal rfl hl2 .dead (by simp) (fun c hcne=>Array.getElem?_setIfInBounds_ne (fun e=>hcne e.symm)) (fun m hm=>by simp[zAt,hc']at hm) rfl rfl ⟨rfl,Nat.le_refl _⟩ (fun hm=>trivial)
 have hGall:=(h0.2.trans hG1).trans (g3.trans hpl.2);have hmark:w2.heap[w.heap.size]?=some (Obj.deferred (some [])):=by
  have hlt:w.heap.size < w0.heap.size:=by omega
  have e1:w1.heap[w.heap.size]?=some (Obj.deferred (some [])):=by rw[← hw1,getElem?_alloc_lt hlt]; exact hnew
  rw[g3.same _ (by omega) (hR1.not_live_def e1)]; exact e1
 have hmark3:(w2.heap.setIfInBounds w0.heap.size (.loop { state:=.exhausted,pending:=al.pending,fn:=fn',tmps:=tm',params:=al.params,assign:=al.assign,body:=al.body,defers:=d' }))[w.heap.size]?=some (Obj.deferred (some [])):=by
  rw[Array.getElem?_setIfInBounds_ne (by omega)]; exact hmark
 have hpendok:zCe n ((al.pending.map Item.code).toList++k)=true:=by
  have:zCe n (al.pending.map Item.code).toList=true:=by
   cases hp:al.pending with
   | none=>rfl
   | some j =>
    simp only[Bool.and_eq_true]at hok';have hj:isJump j=true:=by have:=hok'.2; rw[hp]at this; exact this
    simp[zCe,zDp,isJump_ok hj n]
  simp only[zCe,List.all_append,Bool.and_eq_true]at *;exact⟨this,hkk⟩
 obtain⟨L,ts',H',E',w',tmps',D',todo',q1,q2,q3,q4,q6,⟨q7,rs,q8,q8n,q9⟩,q10⟩:=hF hpendok E1 _ tmps hpl.1 (hT1.mono (g3.mono.trans hpl.2.mono)) b (zCy w.heap.size::D) cs hrd;have hmark4:w'.heap[w.heap.size]?=some (Obj.deferred (some [])):=by
  rw[q3.same _ (zAu hmark3) (hpl.1.not_live_def hmark3)]; exact hmark3
 refine⟨L,ts',H',E',w',tmps',D',todo',q1,q2,hGall.trans q3,q4,q6,⟨fun h=>absurd rfl h,rs++[w.heap.size],by simp[q8],?_,fun r hr=>?_⟩,q10.pre P ?_⟩
 ·rw[List.nodup_append];refine⟨q8n,by simp,fun a ha b hb=>?_⟩;simp at hb; subst hb;have:=(q9 a ha).1;have hsz:=hGall.size
  intro e; subst e
  have h5:=hpl.2.size;have h6:=g3.size;omega
 ·rcases List.mem_append.1 hr with h | h
  ·exact⟨Nat.le_trans hGall.size (q9 r h).1,(q9 r h).2⟩
  ·simp at h; subst h; exact⟨Nat.le_refl _,hmark4⟩
 ·have hev:(frm b tmps (.code (.rangeFunc f ps a bd)::k) D).eval f=Act.eval ⟨tmps,zCy w.heap.size::D⟩ f:=frm_eval b tmps _ D f;have hent:(Instr.enterLoop b.fn tmps ps a bd none).run P w=.ok (w0.heap.size,[zCy w.heap.size]) w1:=by
   rw[← hw1,← hw0]; rfl
  have hstep:∀ s:Sem Next,s=(do let d ← Deferred.ofValue (Act.eval ⟨tmps,zCy w.heap.size::D⟩ f) #[.func (.yield w0.heap.size) #[] #[]]; invoke d.target d.args) →
    stepG P true { frame:=frm b tmps (.code (.rangeFunc f ps a bd)::k) D,callers:=cs,status:=.running,dying:=none } w =
     GStep.after (seen P b.fn ((Instr.enterLoop b.fn tmps ps a bd none).runT P w #[]).2) (stepG.apply P true c cs none s w1):=by
   intro s hs
   subst hs;have hrT:(Instr.enterLoop b.fn tmps ps a bd none).runT P w #[]=(.ok (w0.heap.size,[zCy w.heap.size]) w1,((Instr.enterLoop b.fn tmps ps a bd none).runT P w #[]).2):=by
    rw[← hent,← Sem.runT_fst P _ w #[]]
   have hcf:∀ l,frm b tmps (.inRangeFunc l::k) (zCy w.heap.size::D)={ fn:=b.fn,tmps:=tmps,todo:=.inRangeFunc l::k,defers:=[zCy w.heap.size]++D,mode:=.run,kind:=b.kind }:=by
    intro l; simp[frm,hrd.1]
   have hev2:(frm b tmps (.inRangeFunc w0.heap.size::k) (zCy w.heap.size::D)).eval f=Act.eval ⟨tmps,zCy w.heap.size::D⟩ f:=frm_eval b tmps _ _ f;have hres:resolve (frm b tmps (.inRangeFunc w0.heap.size::k) (zCy w.heap.size::D)).eval { callee:=.value f,args:=#[.const (.func (.yield w0.heap.size) #[] #[])],argTypes:=#[] } 0 =
     Deferred.ofValue (Act.eval ⟨tmps,zCy w.heap.size::D⟩ f) #[.func (.yield w0.heap.size) #[] #[]]:=by
    rw[resolve_one,hev2]; rfl
   rw[← hres];simp only[stepG,stepG.exec,frm,hrd.1];rw[hrT];simp only[c,hcf];rfl
  have hfin:c.finish r=frm b tmps (.endRangeFunc w0.heap.size::k) (zCy w.heap.size::D):=rfl;have hend:Go.step P (lone (frm b tmps (.endRangeFunc w0.heap.size::k) (zCy w.heap.size::D)) cs w2) =
    .next (lone (frm b tmps ((al.pending.map Item.code).toList++k) (zCy w.heap.size::D)) cs { w2 with heap:=w2.heap.setIfInBounds w0.heap.size (.loop { state:=.exhausted,pending:=al.pending,fn:=fn',tmps:=tm',params:=al.params,assign:=al.assign,body:=al.body,defers:=d' }) }):=by
   refine step_lone_go ?_;have he:(Instr.endLoop w0.heap.size).run P w2=.ok al.pending { w2 with heap:=w2.heap.setIfInBounds w0.heap.size (.loop { state:=.exhausted,pending:=al.pending,fn:=fn',tmps:=tm',params:=al.params,assign:=al.assign,body:=al.body,defers:=d' }) }:=by
    have hb':(al.st==LoopState.busy)=false:=by cases hq:al.st <;> first | rfl | (exact absurd hq hbusy)
    simp[Instr.endLoop,Instr.getLoop,getObj,setObj,Sem.run_bind,Sem.run,hc',Result.andThen,hb']
    intro h; exact absurd h hbusy
   simp[stepG,stepG.exec,frm,he]
  refine Steps.trans ?_ (.one hend);rw[← hfin]
  rcases g5 with hr | ⟨hr,rfl⟩ | ⟨f',args,w0',hr,hsteps⟩ | ⟨l,f',tm,a',bb,w0',hr,hsteps⟩
  ·refine .one (step_lone_go ?_);rw[hstep _ rfl,GStep.bare_after]; simp[stepG.apply,hr]
  ·refine .one (step_lone_go ?_);rw[hstep _ rfl,GStep.bare_after]; simp[stepG.apply,hr]
  ·refine .head (step_lone_go ?_) hsteps;rw[hstep _ rfl,GStep.bare_after]; simp[stepG.apply,hr,c,frm]
  ·refine .head (step_lone_go ?_) hsteps;rw[hstep _ rfl,GStep.bare_after]; simp[stepG.apply,hr,c,frm]
end
end Go.Ab
