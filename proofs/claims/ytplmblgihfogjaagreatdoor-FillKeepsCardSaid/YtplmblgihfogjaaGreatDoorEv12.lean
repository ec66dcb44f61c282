/- A text of this claim. -/
import Derived.Test.YtplmblgihfogjaaGreatDoorEv9
set_option maxHeartbeats 40000000
set_option maxRecDepth 400000
set_option linter.all false
namespace Go.Ab
section
variable {P:Program} {G:Gl} {ops:Array Oper}
def wat(P:Program)(G:Gl)(o:Oper)(ts:Nat->AV)(v:AV):List AO->Prop :=
 if clOf o.op=.scal then fun _=>True else fun H'=>aop P G o.op (ev ts) H'=some ⟨True,v,H'⟩
def wt(ops:Array Oper)(j i:Nat):Bool:=((masks [] ops.toList).getD j 0).testBit i
variable (P G ops)
def runG(M:Nat->Nat->Bool)(imp:Nat->Bool)(K:(Nat->List AO->Prop)->(Nat->AV)->List AO->Prop):List (Nat × Bool)->(Nat->List AO->Prop)->(Nat->AV)->List AO->Prop
 | [],W,ts,H=>K W ts H
 | (i,true)::l,W,ts,H=>∃ o,ops[i]?=some o /\
   ((zAp ops ts o=true/\∃ v,aop P G o.op (ev ts) H=some ⟨True,v,H⟩/\runG M imp K l (fun j H'=>W j H'/\(M j i=false->wat P G o ts v H')) (put ts o.dst v) H) \/
    (zAp ops ts o=false/\runG M imp K l W (put ts o.dst .un) H))
 | (i,false)::l,W,ts,H=>zCn P G ops imp i ts H fun ts' H'=>(imp i=true->W i H')/\runG M imp K l W ts' H'
def anyG(imp:Nat->Bool)(K:(Nat->AV)->List AO->Prop):Nat->(Nat->List AO->Prop)->Array Bool->(Nat->AV)->List AO->Prop
 | 0,W,listed,ts,H=>Region.ready .any ops listed=[]/\K ts H
 | f+1,W,listed,ts,H=>(Region.ready .any ops listed=[]->K ts H)/\∀ i∈Region.ready .any ops listed,zCn P G ops imp i ts H fun ts' H'=>(imp i=true->W i H')/\anyG imp K f W (listed.setIfInBounds i true) ts' H'
variable {P G ops}
theorem anyG_mono{imp:Nat->Bool}{K:(Nat->AV)->List AO->Prop}{W W':Nat->List AO->Prop}(hW:∀ j H,W j H->W' j H):∀(f:Nat) {listed:Array Bool} {ts:Nat->AV} {H:List AO},anyG P G ops imp K f W listed ts H->anyG P G ops imp K f W' listed ts H
 | 0,listed,ts,H,h=>h
 | f+1,listed,ts,H,h=>⟨h.1,fun i hi=>zDp (h.2 i hi) fun ts' H' h=>⟨fun e=>hW _ _ (h.1 e),anyG_mono hW f h.2⟩⟩
theorem anyG_any{imp:Nat->Bool}{K:(Nat->AV)->List AO->Prop}{W:Nat->List AO->Prop}:∀(f:Nat) {listed:Array Bool} {ts:Nat->AV} {H:List AO},anyG P G ops imp K f W listed ts H->anyR P G ops imp K f listed ts H
 | 0,listed,ts,H,h=>h
 | f+1,listed,ts,H,h=>⟨h.1,fun i hi=>zDp (h.2 i hi) fun ts' H' h=>anyG_any f h.2⟩
theorem stepG_put{imp:Nat->Bool}{C Wt:List AO->Prop}{i j:Nat}{oi oj:Oper}{ts:Nat->AV}{v:AV}{H:List AO}{K:(Nat->AV)->List AO->Prop}(hj:ops[j]?=some oj)(hap:oi.apart ops oj=true)
  (hk:imp j=false->∀(ρ:Operand->AV) (H:List AO) (r:AR),aop P G oj.op ρ H=some r->C H->C r.H) (hC:C H) (hy:YR P G ops imp C i oi ts v)
  (h:zCn P G ops imp j (put ts oi.dst v) H fun ts' H'=>(imp j=true->Wt H'/\C H')/\K ts' H') :
  zCn P G ops imp j ts H fun ts' H'=>(YR P G ops imp C i oi ts' v/\C H')/\(imp j=true->Wt H')/\K (put ts' oi.dst v) H':=by
 obtain⟨h1,h2,h3⟩:=Oper.apart_spec hap;unfold zCn at *;simp only[hj]at *;rw[wantedA_put h1]at h;have he:=ev_put_op (ts:=ts) (v:=v) h1
 split
 ·rename_i hw;simp only[hw,if_true]at h
  split
  ·rename_i f args tys hop;rw[hop]at he;have e1:ev (put ts oi.dst v) f=ev ts f:=he f (by simp[Op.operands,Call.operands]);have e2:args.toList.map (ev (put ts oi.dst v))=args.toList.map (ev ts):=List.map_congr_left fun x hx=>he x (by simp only[Op.operands,Call.operands]; simp at hx ⊢; exact .inr hx)
   simp only[hop,e1,e2]at h
   split
   ·rename_i hi;rw[if_pos hi]at h;refine ACV.mono h fun u H' hK=>?_
    refine⟨⟨hy.put u h3,(hK.1 hi).2⟩,fun _=>(hK.1 hi).1,?_⟩;rw[<- put_comm h2]; exact hK.2
   ·rename_i hi;rw[if_neg hi]at h;obtain⟨u,g1,g2⟩:=h;exact⟨u,g1,⟨hy.put u h3,hC⟩,fun e=>absurd e hi,by rw[<- put_comm h2]; exact g2.2⟩
  ·rename_i hop
   split at h
   ·rename_i hop'; exact absurd hop' (hop _ _ _)
   ·obtain⟨r,g1,g2,g3,g4⟩:=h;rw[zFn he]at g1;refine⟨r,g1,g2,⟨hy.put r.v h3,?_⟩,fun e=>(g3 e).1,by rw[<- put_comm h2]; exact g4⟩;cases hij:imp j with
    | true=>exact(g3 hij).2
    | false=>exact hk hij _ _ _ g1 hC
 ·rename_i hw;rw[if_neg hw]at h;exact⟨⟨hy.put _ h3,hC⟩,fun e=>(h.1 e).1,by rw[<- put_comm h2]; exact h.2⟩
theorem anyG_first{imp:Nat->Bool}{K:(Nat->AV)->List AO->Prop}{C:List AO->Prop}{M:Nat->Bool}{i:Nat}{oi:Oper}{v:AV}(hi:ops[i]?=some oi)(himp:imp i=false)
  (hM:∀ listed j,Closed ops listed->j∈Region.ready .any ops listed->listed.getD i true=false->M j=false) :
  ∀(fuel:Nat) (Wt:Nat->List AO->Prop) (listed:Array Bool) (ts:Nat->AV) (H:List AO),
   (∀ j oj,ops[j]?=some oj->j≠i->listed.getD j true=false->M j=false->oi.apart ops oj=true/\(imp j=false->∀(ρ:Operand->AV) (H:List AO) (r:AR),aop P G oj.op ρ H=some r->C H->C r.H)) ->
   Closed ops listed->i∈Region.ready .any ops listed->YR P G ops imp C i oi ts v->C H ->
   anyG P G ops imp K fuel (fun j H=>Wt j H/\(M j=false->C H)) (listed.setIfInBounds i true) (put ts oi.dst v) H->anyG P G ops imp K (fuel+1) Wt listed ts H:=by
 intro fuel
 induction fuel with
 | zero =>
  intro Wt listed ts H _ _ hr hy hC h
  refine⟨fun h=>(by rw[h]at hr; cases hr),fun j hj=>?_⟩
  by_cases hji:j=i
  ·subst hji; exact hy.step hi hC ⟨fun e=>(by rw[himp]at e; cases e),h⟩
  ·have:=ready_mono hj hji;rw[h.1]at this;cases this
 | succ fuel ih =>
  intro Wt listed ts H hfree hcl hr hy hC h
  refine⟨fun h=>(by rw[h]at hr; cases hr),fun j hj=>?_⟩
  by_cases hji:j=i
  ·subst hji; exact hy.step hi hC ⟨fun e=>(by rw[himp]at e; cases e),anyG_mono (fun _ H h=>h.1) _ h⟩
  ·have h1:=h.2 j (ready_mono hj hji);obtain⟨hjun,oj,hoj,hall⟩:=mem_ready.1 hj;have hMj:=hM listed j hcl hj (mem_ready.1 hr).1;obtain⟨hap,hkp⟩:=hfree j oj hoj hji hjun hMj;have h1:=zDp (K':=fun ts' H'=>(imp j=true->Wt j H'/\C H')/\anyG P G ops imp K fuel (fun j H=>Wt j H/\(M j=false->C H)) ((listed.setIfInBounds i true).setIfInBounds j true) ts' H') h1 fun ts' H' h=>⟨fun e=>⟨(h.1 e).1,(h.1 e).2 hMj⟩,h.2⟩
   have h2:=stepG_put hoj hap hkp hC hy h1;have hfree':∀ k ok,ops[k]?=some ok->k≠i->(listed.setIfInBounds j true).getD k true=false->M k=false->oi.apart ops ok=true/\(imp k=false->∀(ρ:Operand->AV) (H:List AO) (r:AR),aop P G ok.op ρ H=some r->C H->C r.H):=fun k ok hk hki hun hno=>by
    refine hfree k ok hk hki ?_ hno
    by_cases hjk:j=k
    ·subst hjk; exact hjun
    ·rw[getD_set_ne true hjk]at hun; exact hun
   refine zDp h2 fun ts' H' h3=>⟨h3.2.1,ih Wt (listed.setIfInBounds j true) ts' H' hfree' (hcl.set hj) (ready_mono hr (Ne.symm hji)) h3.1.1 h3.1.2 ?_⟩
   rw[Array.setIfInBounds_comm _ _ hji];exact h3.2.2
def quiet1:Cl->Bool
 | .scal=>true
 | .addr=>true
 | .read=>true
 | _=>false
def ordG(ops:Array Oper)(imp:Nat->Bool)(ms:List Nat):List (Nat × Bool)->Array Bool->Bool
 | [],listed=>(Region.ready .any ops listed).isEmpty
 | (i,false)::l,listed=>Region.ready .any ops listed==[i]&&ordG ops imp ms l (listed.setIfInBounds i true)
 | (i,true)::l,listed=>(Region.ready .any ops listed).contains i&&!imp i&&(match ops[i]? with
   | some oi=>quiet1 (clOf oi.op)&&(List.range ops.size).all fun j=>j==i||listed.getD j true||(ms.getD j 0).testBit i||(match ops[j]? with
    | some oj=>oi.apart ops oj&&(imp j||compat (clOf oi.op) (clOf oj.op) false)
    | none=>true)
   | none=>false)&&ordG ops imp ms l (listed.setIfInBounds i true)
theorem wat_keeps{oi oj:Oper}(hq:quiet1 (clOf oi.op)=true)(hc:compat (clOf oi.op) (clOf oj.op) false=true){ts:Nat->AV}{v:AV}(ρ:Operand->AV)(H:List AO)(r:AR)(hr:aop P G oj.op ρ H=some r)
  (h:wat P G oi ts v H):wat P G oi ts v r.H:=by
 unfold wat at *
 split
 ·trivial
 ·rename_i hs;rw[if_neg hs]at h;cases e:clOf oi.op <;> rw[e]at hq hs hc <;> first
   | (cases hq; done)
   | exact absurd rfl hs
   | skip
  ·have h1:=(keeps_shp (P:=P) (G:=G) (imp:=fun _=>false) (H0:=H) (j:=0) hc).2 ρ H r hr (Shp.refl H);exact(aop_addr e h).2 _ h1
  ·have h1:=(keeps_ext (P:=P) (G:=G) (imp:=fun _=>false) (H0:=H) (j:=0) hc).2 ρ H r hr (Ext.refl H);exact(aop_read e h).2 _ h1
theorem clOf_value{f:Operand}{args:Array Operand}{tys:Array TypeId}:clOf (.call { callee:=.value f,args:=args,argTypes:=tys })=.call:=rfl
theorem wat_yr{imp:Nat->Bool}{i:Nat}{o:Oper}{ts:Nat->AV}{v:AV}{H:List AO}(hq:quiet1 (clOf o.op)=true)(hw:zAp ops ts o=true)(h:aop P G o.op (ev ts) H=some ⟨True,v,H⟩) :
  YR P G ops imp (wat P G o ts v) i o ts v/\wat P G o ts v H:=by
 refine⟨.inl ⟨hw,?_⟩,?_⟩
 ·split
  ·rename_i f args tys hop;rw[hop,clOf_value]at hq;cases hq
  ·refine⟨True,trivial,fun H' hC=>?_⟩;unfold wat at hC
   split at hC
   ·rename_i hs;exact(aop_scal hs h).2 H'
   ·exact hC
 ·unfold wat
  split
  ·trivial
  ·exact h
theorem ordG_sound{imp:Nat->Bool}{K:(Nat->AV)->List AO->Prop}:∀(l:List (Nat × Bool)) (W:Nat->List AO->Prop) (listed:Array Bool) (ts:Nat->AV) (H:List AO),Closed ops listed->ordG ops imp (masks [] ops.toList) l listed=true ->
  runG P G ops (wt ops) imp (fun _=>K) l W ts H->anyG P G ops imp K l.length W listed ts H
 | [],W,listed,ts,H,hcl,ho,h=>⟨by simpa[ordG]using ho,h⟩
 | (i,false)::l,W,listed,ts,H,hcl,ho,h=>by
  simp only[ordG,zA,beq_iff_eq]at ho;refine⟨fun e=>(by rw[ho.1]at e; cases e),fun j hj=>?_⟩;have hj':=hj;rw[ho.1,List.mem_singleton]at hj';subst hj';have h:zCn P G ops imp j ts H fun ts' H'=>(imp j=true->W j H')/\runG P G ops (wt ops) imp (fun _=>K) l W ts' H':=h
  exact zDp h fun ts' H' h=>⟨h.1,ordG_sound l W _ ts' H' (hcl.set hj) ho.2 h.2⟩
 | (i,true)::l,W,listed,ts,H,hcl,ho,h=>by
  simp only[ordG,zA,Bool.not_eq_true']at ho;obtain⟨⟨⟨hr,himp⟩,hc⟩,hl⟩:=ho;have hr':i∈Region.ready .any ops listed:=by simpa using hr
  obtain⟨o,ho,h⟩:=h;rw[ho]at hc;simp only[zA,List.all_eq_true]at hc;obtain⟨hq,hall⟩:=hc;have hM:=fun listed j hcl hj hi=>masks_wait (ops:=ops) (listed:=listed) (i:=i) (j:=j) hcl hj hi
  have hfr:∀ j oj,ops[j]?=some oj->j≠i->listed.getD j true=false->((masks [] ops.toList).getD j 0).testBit i=false->o.apart ops oj=true/\(imp j=false->compat (clOf o.op) (clOf oj.op) false=true):=fun j oj hoj hji hun hw=>by
   have hlt:j < ops.size:=(Array.getElem?_eq_some_iff.1 hoj).1;have:=hall j (by simpa using hlt);simp only[Bool.or_eq_true,hoj,zA,hun,hw,beq_iff_eq,hji,Bool.false_eq_true,false_or,or_false]at this;exact⟨this.1,fun e=>by simpa[e]using this.2⟩
  rcases h with ⟨hw,v,h1,h2⟩ | ⟨hw,h2⟩
  ·obtain⟨hy,hC⟩:=wat_yr (imp:=imp) (i:=i) hq hw h1;refine anyG_first (M:=fun j=>((masks [] ops.toList).getD j 0).testBit i) ho himp hM l.length W listed ts H (fun j oj hoj hji hun hm=>?_) hcl hr' hy hC (ordG_sound l _ _ _ H (hcl.set hr') hl h2);obtain⟨a,b⟩:=hfr j oj hoj hji hun hm;exact⟨a,fun e ρ H r hr hC=>wat_keeps hq (b e) ρ H r hr hC⟩
  ·refine anyG_first (C:=fun _=>True) (v:=.un) (M:=fun j=>((masks [] ops.toList).getD j 0).testBit i) ho himp hM l.length W listed ts H (fun j oj hoj hji hun hm=>⟨(hfr j oj hoj hji hun hm).1,fun _ _ _ _ _ _=>trivial⟩) hcl hr' (.inr ⟨hw,rfl⟩) trivial
    (anyG_mono (fun _ H h=>⟨h,fun _=>trivial⟩) _ (ordG_sound l _ _ _ H (hcl.set hr') hl h2))
def ordGB(ops:Array Oper)(imp:Nat->Bool)(l:List (Nat × Bool)):Bool:=l.length==ops.size&&ordG ops imp (masks [] ops.toList) l (Array.replicate ops.size false)
theorem FW.drawG(hm:P.follows .mixedOrders=true){imp:Nat->Bool}{l:List (Nat × Bool)}(hB:ordGB ops imp l=true){rd:Option Nat}{n id:Nat}{k:List Item}{Q:Lv->(Nat->AV)->List AO->Prop}{ts:Nat->AV}{H:List AO}
  (h:runG P G ops (wt ops) imp (fun _ ts H=>FW P G rd n k ts H Q) l (fun _ _=>True) ts H):FW P G rd n (.code (.region id ops true)::k) ts H Q:=by
 simp only[ordGB,zA,beq_iff_eq]at hB;refine FW.draw hm (imp:=imp) ?_;rw[<- hB.1];refine anyG_any _ (ordG_sound l _ _ ts H (fun j o ho hl=>?_) (by rw[hB.1]; exact hB.2) h)
 exfalso
 rcases Nat.lt_or_ge j l.length with h1 | h1 <;> simp[Array.getD,h1]at hl
theorem aop_read1{op:Op}(hq:quietC (clOf op)=true){ρ:Operand->AV}{H:List AO}{ar:AR}(h:aop P G op ρ H=some ar)(hc:ar.c):aop P G op ρ H=some ⟨True,ar.v,H⟩/\ar.H=H:=by
 have h1:=aop_quiet hq h;refine⟨?_,h1⟩;rw[h];obtain⟨c,v,H1⟩:=ar;simp only at h1 hc;subst h1;rw[eq_true hc]
end
section
variable {P:Program} {G:Gl} {ops:Array Oper}
theorem stepR_op{imp:Nat->Bool}{i:Nat}{ts:Nat->AV}{H:List AO}{K:(Nat->AV)->List AO->Prop}(h:zCn P G ops imp i ts H K):∃ o,ops[i]?=some o /\
  ((zAp ops ts o=true/\isDefer o.op=false/\∀ n,OpS P G n o ts H (fun v H'=>K (put ts o.dst v) H'))\/(zAp ops ts o=false/\K (put ts o.dst .un) H)):=by
 unfold zCn at h
 split at h
 ·exact h.elim
 ·rename_i o ho;refine⟨o,ho,?_⟩
  split at h
  ·rename_i hw
   split at h
   ·rename_i f args tys hop;refine .inl ⟨hw,by rw[hop]; rfl,fun n=>OpS.call hop ?_⟩
    split at h
    ·exact h
    ·obtain⟨v,h1,h2⟩:=h; exact h1 _ _ h2
   ·obtain⟨r,h1,h2,h3⟩:=h;exact .inl ⟨hw,aop_defer h1,fun n=>(aop_sound h1 h2).toS h3⟩
  ·rename_i hw;exact .inr ⟨by simpa using hw,h⟩
def ZOk(cs:List AV)(z:Array Value):Prop:=z.size=cs.length/\∀(w:World) (E:En) (i:Nat),i < cs.length->(cs.getD i .un).isCell=true/\RepV w E (cs.getD i .un) (z.getD i undef)
theorem alloc_run{o:Oper}{t:TypeId}(ho:o.op=.alloc t){cs:List AV}(h:zeroCells P t=some cs) :
  ∃ z,ZOk cs z/\∀(ρ:Operand->Value) (w:World),(execOp ρ o).run P w=.ok (.value (.pointer (some ⟨w.heap.size,0,none⟩))) (w.alloc (.cells z t)):=by
 unfold zeroCells at h;cases hi:P.info? t with
 | none=>rw[hi]at h; cases h
 | some i =>
  cases hz:i.zero with
  | none=>rw[hi]at h; simp[hz]at h
  | some z =>
   rw[hi]at h;simp only[Option.bind_some,hz]at h
   split at h
   ·rename_i hc;cases h;refine⟨z.cells,⟨(zEj hc default ⟨fun _=>none,fun _=>False⟩).1,fun w E=>(zEj hc w E).2⟩,fun ρ w=>?_⟩;have g1':(newRow t z.cells).run P w=.ok ⟨w.heap.size,0,none⟩ (w.alloc (.cells z.cells t)):=rfl;simp only[execOp,ho,Instr.alloc,zeroValue,typeInfo,program,Sem.run_bind,newVar,Sem.run,Result.andThen_ok,hi,hz,Sem.run_pure,g1']
   ·cases h
theorem rel_track{w:World}{E:En}{H:List AO}(h:RelH G w E H)(ao:AO)(l:Loc)(hr:∀ E',Mono w E w E'->E'.loc H.length=some l->RelO w E' ao l)
  (hnl:¬ Live H E l.b) (hnf:¬ E.fro l.b) :
  RelH G w (E.put H.length l) (H++[ao])/\Mono w E w (E.put H.length l)/\(∀ b,Live (H++[ao]) (E.put H.length l) b->Live H E b\/b=l.b)/\(E.put H.length l).loc H.length=some l:=by
 have hm:Mono w E w (E.put H.length l):=mono_put h l;have hnew:(E.put H.length l).loc H.length=some l:=by simp[En.put]
 have hloc:∀ id,id < H.length->(E.put H.length l).loc id=E.loc id:=fun id hid=>by
  show(if id=H.length then some l else E.loc id)=E.loc id;rw[if_neg (by omega)]
 have hget:∀ id o',(H++[ao])[id]?=some o'->(id < H.length/\H[id]?=some o')\/(id=H.length/\o'=ao):=by
  intro id o' hH
  rcases Nat.lt_trichotomy id H.length with h1 | h1 | h1
  ·rw[zL h1]at hH; exact .inl ⟨h1,hH⟩
  ·subst h1; simp at hH; exact .inr ⟨rfl,hH.symm⟩
  ·rw[List.getElem?_append_right (by omega)]at hH;simp[List.getElem?_eq_none (show([ao]:List AO).length<=id - H.length by simp; omega)]at hH
 have hlive:∀ b,Live (H++[ao]) (E.put H.length l) b->Live H E b\/b=l.b:=by
  rintro b ⟨id,o',l',hH,ho,hl',rfl⟩
  rcases hget id o' hH with ⟨h1,h2⟩ | ⟨h1,h2⟩
  ·rw[hloc id h1]at hl';exact .inl ⟨id,o',l',h2,ho,hl',rfl⟩
  ·subst h1;rw[hnew]at hl'; cases hl';exact .inr rfl
 refine⟨⟨fun id o' hH ho=>?_,?_,h.frob,fun b hb hlv=>?_,fun id l' hl'=>?_,fun g cs hg=>(h.gl g cs hg).mono hm⟩,hm,hlive,hnew⟩
 ·rcases hget id o' hH with ⟨h1,h2⟩ | ⟨h1,h2⟩
  ·obtain⟨l',hl',hr'⟩:=h.obj id o' h2 ho;exact⟨l',by rw[hloc id h1]; exact hl',hr'.mono hm rfl⟩
  ·subst h1; subst h2;exact⟨l,hnew,hr _ hm hnew⟩
 ·intro id id' o1 o2 l1 l2 hH1 ho1 hH2 ho2 hl1 hl2 hb
  rcases hget id o1 hH1 with ⟨h1,h1'⟩ | ⟨h1,h1'⟩ <;> rcases hget id' o2 hH2 with ⟨h2,h2'⟩ | ⟨h2,h2'⟩
  ·rw[hloc id h1]at hl1; rw[hloc id' h2]at hl2;exact h.inj id id' o1 o2 l1 l2 h1' ho1 h2' ho2 hl1 hl2 hb
  ·rw[hloc id h1]at hl1; subst h2; rw[hnew]at hl2; cases hl2;exact absurd ⟨id,o1,l1,h1',ho1,hl1,hb⟩ hnl
  ·rw[hloc id' h2]at hl2; subst h1; rw[hnew]at hl1; cases hl1;exact absurd ⟨id',o2,l2,h2',ho2,hl2,hb.symm⟩ hnl
  ·omega
 ·rcases hlive b hlv with h1 | h1
  ·exact h.sep b hb h1
  ·subst h1; exact hnf hb
 ·rw[List.length_append]
  by_cases h1:id=H.length
  ·simp[h1]
  ·have:E.loc id=some l':=by
    have h2:(if id=H.length then some l else E.loc id)=some l':=hl'
    rwa [if_neg h1]at h2
   have:=h.dom id l' this;simp; omega
theorem getD_cput{tmps:Array Value}{dst:Option Nat}{r:Value}{i:Nat}(h:dst≠some i):(cput tmps dst r).getD i undef=tmps.getD i undef:=by
 cases dst with
 | none=>rfl
 | some d =>
  show(tmps.setIfInBounds d r).getD i undef=_;rw[Array.getD_eq_getD_getElem?,Array.getD_eq_getD_getElem?,Array.getElem?_setIfInBounds_ne (fun e=>h (by rw[e]))]
theorem zFr{tmps:Array Value}{dst:Option Nat}{r:Value}:(cput tmps dst r).size=tmps.size:=by cases dst <;> simp[cput]
theorem zEs{tmps:Array Value}{d:Nat}{r:Value}(h:d < tmps.size):(cput tmps (some d) r).getD d undef=r:=by
 show(tmps.setIfInBounds d r).getD d undef=_;simp[Array.getD,h]
def isSelect:Op->Bool
 | .select _ _=>true
 | _=>false
def noD(ops:Array Oper)(o:Oper)(d:Nat):Bool:=(o.looksAt ops).all (fun e=>!(Nat.beq e d))&&(match o.dst with | some e=>!(Nat.beq e d) | none=>true)
def FWc(P:Program)(G:Gl)(rd:Option Nat)(n:Nat)(Q:Lv->(Nat->AV)->List AO->Prop)(b:Frame)(D:List Deferred)(cs:List Frame)(H0:List AO)(E0:En)(w0:World)(st:Machine):Prop :=
 ∃(L:Lv) (ts':Nat->AV) (H':List AO) (E':En) (w':World) (tmps':Array Value) (D':List Deferred) (todo':List Item),
  Q L ts' H'/\RelH G w' E' H'/\Grow H0 E0 w0 H' E' w'/\RepT w' E' n ts' tmps'/\AtLeave todo' L/\((rd≠none->D'=D)/\MarksOn w0 w' D D') /\
  Lands P b cs E' w' tmps' D' todo' st L
theorem FWc.head{rd:Option Nat}{n:Nat}{Q:Lv->(Nat->AV)->List AO->Prop}{b:Frame}{D:List Deferred}{cs:List Frame}{H0:List AO}{E0:En}{w0:World}{s s':Machine}(h:Steps P s s')(k:FWc P G rd n Q b D cs H0 E0 w0 s'):FWc P G rd n Q b D cs H0 E0 w0 s:=by
 obtain⟨L,ts',H',E',w',tmps',D',todo',h1,h2,h3,h4,h6,h7,h8⟩:=k;exact⟨L,ts',H',E',w',tmps',D',todo',h1,h2,h3,h4,h6,h7,h8.pre P h⟩
theorem FW.toc{rd:Option Nat}{n:Nat}{todo:List Item}{ts:Nat->AV}{H:List AO}{Q:Lv->(Nat->AV)->List AO->Prop}(h:FW P G rd n todo ts H Q)(hk:zDu n todo=true){E:En}{w:World}{tmps:Array Value}(hH:RelH G w E H)(hT:RepT w E n ts tmps)
  {b:Frame} {D:List Deferred} {cs:List Frame} (hrd:RoundRel E b rd) (hD:MarksOk w D) {H0:List AO} {E0:En} {w0:World} (hG:Grow H0 E0 w0 H E w):FWc P G rd n Q b D cs H0 E0 w0 (lone (frm b tmps todo D) cs w):=by
 obtain⟨L,ts',H',E',w',tmps',D',todo',h1,h2,h3,h4,h6,h7,h8⟩:=h hk E w tmps hH hT b D cs hrd;exact⟨L,ts',H',E',w',tmps',D',todo',h1,h2,hG.trans h3,h4,h6,⟨h7.1,h7.2.le hG.size⟩,h8⟩
theorem array_ext_getD{a b:Array Value}(hs:a.size=b.size)(h:∀ i,a.getD i undef=b.getD i undef):a=b:=by
 apply Array.ext hs
 intro i h1 h2
 have:=h i;simpa[Array.getD,h1,h2]using this
section
variable {rd:Option Nat} {n:Nat} {k:List Item} {Q:Lv->(Nat->AV)->List AO->Prop} {imp:Nat->Bool} {p q:Nat}
theorem noD_spec{o:Oper}{d:Nat}(h:noD ops o d=true):d ∉ o.looksAt ops/\o.dst≠some d:=by
 unfold noD at h;rw[zA]at h;refine⟨fun hm=>?_,fun hd=>?_⟩
 ·have:=h.1;simp only[List.all_eq_true,Array.all_eq_true']at this;have:=this d hm;simp at this
 ·rw[hd]at h;simp at h
theorem zDn{listed:Array Bool}{i:Nat}(d:Bool)(h:i < listed.size):(listed.setIfInBounds i true).getD i d=true:=by
 simp[Array.getD,h]
def ones(A:List Nat):List (Nat × Bool):=A.map fun a=>(a,false)
end
end
section
variable {P:Program} {G:Gl} {ops:Array Oper}
def unl(p:Nat)(listed:Array Bool):Nat:=((List.range p).filter fun i=>!listed.getD i true).length
theorem count_one{f g:Nat->Bool}{i:Nat}(hfi:f i=true)(hgi:g i=false)(h:∀ j,j≠i->f j=g j):∀(l:List Nat),l.Nodup->i∈l->(l.filter f).length=(l.filter g).length+1
 | [],_,hi=>by cases hi
 | a::l,hn,hi=>by
  rw[List.nodup_cons]at hn
  by_cases e:a=i
  ·subst e;rw[List.filter_cons_of_pos hfi,List.filter_cons_of_neg (by simp[hgi])];have:l.filter f=l.filter g:=List.filter_congr fun j hj=>h j fun e=>hn.1 (by rw[<- e]; exact hj)
   rw[this]; rfl
  ·have hil:i∈l:=by
    rcases List.mem_cons.1 hi with h | h
    ·exact absurd h.symm e
    ·exact h
   have ih:=count_one hfi hgi h l hn.2 hil;have hfa:=h a e;cases hf:f a with
   | true=>rw[List.filter_cons_of_pos hf,List.filter_cons_of_pos (by rw[<- hfa]; exact hf),List.length_cons,List.length_cons,ih]
   | false=>rw[List.filter_cons_of_neg (by simp[hf]),List.filter_cons_of_neg (by simp[<- hfa,hf]),ih]
theorem unl_set{p:Nat}{listed:Array Bool}{i:Nat}(hi:i < p)(hsz:listed.size=p)(hu:listed.getD i true=false):unl p listed=unl p (listed.setIfInBounds i true)+1 :=
 count_one (i:=i) (by simp[hu]) (by simp[zDn true (show i < listed.size by omega)]) (fun j hj=>by rw[getD_set_ne true (Ne.symm hj)]) _ List.nodup_range (List.mem_range.2 hi)
end
section
variable {P:Program} {G:Gl} {n:Nat} {o:Oper} {ts:Nat->AV} {H:List AO}
theorem aop_fresh{op:Op}(hc:clOf op=.alloc){ρ:Operand->AV}{H:List AO}{r:AR}(h:aop P G op ρ H=some r):∃(ao:AO) (mk:Nat->AV),r.v=mk H.length/\r.H=H++[ao] /\
  ∀(ρ':Operand->AV) (H':List AO),(∀ x∈op.operands,ρ' x=ρ x)->aop P G op ρ' H'=some ⟨r.c,mk H'.length,H'++[ao]⟩:=by
 have key:∀(ao:AO) (mk:Nat->AV),r.v=mk H.length->r.H=H++[ao]->(∀ H',aop P G op ρ H'=some ⟨r.c,mk H'.length,H'++[ao]⟩)->∃(ao:AO) (mk:Nat->AV),r.v=mk H.length/\r.H=H++[ao] /\
   ∀(ρ':Operand->AV) (H':List AO),(∀ x∈op.operands,ρ' x=ρ x)->aop P G op ρ' H'=some ⟨r.c,mk H'.length,H'++[ao]⟩:=fun ao mk h1 h2 h3 =>
  ⟨ao,mk,h1,h2,fun ρ' H' he=>by rw[zFn he]; exact h3 H'⟩
 cases op <;> first
  | (exfalso; simp only[clOf]at hc; cases hc; done)
  | (exfalso; rename_i c; rcases clOf_call c with e | e | e <;> rw[e]at hc <;> cases hc; done)
  | skip
 case alloc t =>
  simp only[aop]at h
  split at h
  ·rename_i cs hz;cases h;exact key (.cells cs) (fun id=>.ptr id 0) rfl rfl fun H'=>by simp only[aop,hz]
  ·cases h
 case box t x =>
  simp only[aop]at h
  split at h
  ·rename_i he;cases h;exact key _ (fun id=>.ptr id 0) rfl rfl fun H'=>by simp only[aop]; rw[if_pos he]
  ·cases h
 case buildSlice t m ps =>
  simp only[aop]at h
  split at h
  ·rename_i elem hu
   split at h
   ·rename_i z hz
    split at h
    ·rename_i hle;simp only[Option.map_eq_some_iff]at h;obtain⟨es,he,rfl⟩:=h;exact key _ (fun id=>slv id m) rfl rfl fun H'=>by simp only[aop,hu,hz]; rw[if_pos hle,he]; rfl
    ·cases h
   ·cases h
  ·cases h
 case makeSlice t l c =>
  simp only[aop]at h
  split at h
  ·rename_i elem k1 m k2 q hu hl hc'
   split at h
   ·rename_i z by' hz hb;cases h;exact key _ (fun id=>slv id m.toNat) rfl rfl fun H'=>by simp only[aop,hu,hl,hc',hz,hb]
   ·cases h
  ·cases h
def MadeAt(w:World)(E:En)(ao:AO)(mk:Nat->AV)(obj:Obj)(sz:Nat)(q:Value):Prop :=
 ∀(w':World) (E':En) (id:Nat),Mono w E w' E'->w'.heap[w.heap.size]?=some obj->E'.loc id=some ⟨w.heap.size,0,sz⟩->RelO w' E' ao ⟨w.heap.size,0,sz⟩/\RepV w' E' (mk id) q
theorem made_cells{w:World}{E:En}{t:TypeId}{cs:List AV}{vs:Array Value}(hl:vs.size=cs.length)(hcs:∀ j,j < cs.length->(cs.getD j .un).isCell=true/\RepV w E (cs.getD j .un) (vs.getD j undef)) :
  MadeAt w E (.cells cs) (fun id=>.ptr id 0) (.cells vs t (0,0)) 1 (.pointer (some ⟨w.heap.size,0,none⟩)):=fun w' E' id hm hb hloc =>
 ⟨⟨vs,t,hb,by simp[hl],fun i hi=>⟨(hcs i hi).1,by
  simp only[Nat.zero_add];exact(hcs i hi).2.mono hm⟩⟩,.ptr hloc⟩
theorem made_row{w:World}{E:En}{t:TypeId}{sz:Nat}{es:List AV}{vs:Array Value}(h:RepR w E sz es vs)(m:Nat)(hm0:m=es.length) :
  MadeAt w E (.arr sz es) (fun id=>slv id m) (.cells vs t (0,0)) sz (.slice (some ⟨w.heap.size,0,none⟩) m m):=fun w' E' id hm hb hloc=>by
 subst hm0;refine⟨⟨rfl,vs,t,hb,by simp only[Nat.zero_add]; rw[h.1]; exact Nat.le_refl _,fun i hi=>⟨(h.2 i hi).1,(h.2 i hi).2.1,fun j hj=>⟨((h.2 i hi).2.2 j hj).1,by
  simp only[Nat.zero_add];exact((h.2 i hi).2.2 j hj).2.mono hm⟩⟩⟩,?_⟩
 cases hes:es.length with
 | zero=>exact .zs
 | succ k =>
  have hr:zAu w' w.heap.size=some vs.size:=by unfold zAu; rw[hb]
  exact .sl hloc (Nat.le_refl _) (Nat.le_refl _) (fun _=>⟨by simp,vs.size,hr,by rw[h.1,hes]; simp⟩)
theorem fresh_run(hc:clOf o.op=.alloc){r:AR}(h:aop P G o.op (ev ts) H=some r)(hC:r.c){E:En}{w:World}{told:Array Value}(hH:RelH G w E H)(hT:RepT w E n ts told)(hok:zBj n o=true)(D:List Deferred) :
  ∃(ao:AO) (mk:Nat->AV) (vs:Array Value) (t:TypeId) (sz:Nat) (q:Value),r.v=mk H.length/\r.H=H++[ao]/\(∀(ρ':Operand->AV) (H':List AO),(∀ x∈o.op.operands,ρ' x=ev ts x)->aop P G o.op ρ' H'=some ⟨r.c,mk H'.length,H'++[ao]⟩) /\
   (execOp (Act.eval ⟨told,D⟩) o).run P w=.ok (.value q) (w.alloc (.cells vs t))/\MadeAt w E ao mk (.cells vs t (0,0)) sz q:=by
 have key:∀(ao:AO) (mk:Nat->AV) (vs:Array Value) (t:TypeId) (sz:Nat) (q:Value),r.v=mk H.length->r.H=H++[ao]->(∀ H',aop P G o.op (ev ts) H'=some ⟨r.c,mk H'.length,H'++[ao]⟩) ->
   (execOp (Act.eval ⟨told,D⟩) o).run P w=.ok (.value q) (w.alloc (.cells vs t))->MadeAt w E ao mk (.cells vs t (0,0)) sz q ->
   ∃(ao:AO) (mk:Nat->AV) (vs:Array Value) (t:TypeId) (sz:Nat) (q:Value),r.v=mk H.length/\r.H=H++[ao]/\(∀(ρ':Operand->AV) (H':List AO),(∀ x∈o.op.operands,ρ' x=ev ts x)->aop P G o.op ρ' H'=some ⟨r.c,mk H'.length,H'++[ao]⟩) /\
   (execOp (Act.eval ⟨told,D⟩) o).run P w=.ok (.value q) (w.alloc (.cells vs t))/\MadeAt w E ao mk (.cells vs t (0,0)) sz q:=fun ao mk vs t sz q h1 h2 h3 h4 h5 =>
  ⟨ao,mk,vs,t,sz,q,h1,h2,fun ρ' H' he=>by rw[zFn he]; exact h3 H',h4,h5⟩
 cases ho:o.op <;> rw[ho]at hc h key <;> first
  | (exfalso; simp only[clOf]at hc; cases hc; done)
  | (exfalso; rename_i c; rcases clOf_call c with e | e | e <;> rw[e]at hc <;> cases hc; done)
  | skip
 case alloc t =>
  simp only[aop]at h
  split at h
  ·rename_i cs hz;cases h;obtain⟨z,hzo,hrun⟩:=alloc_run (P:=P) ho hz;exact key (.cells cs) (fun id=>.ptr id 0) z t 1 _ rfl rfl (fun H'=>by simp only[aop,hz]) (hrun _ w) (made_cells hzo.1 (hzo.2 w E))
  ·cases h
 case box t x =>
  simp only[aop]at h
  split at h
  ·rename_i he;cases h;have hx:=zAv hT (opd1 (by rw[ho]; rfl) hok) D;obtain⟨h1,h2⟩:=zEz hx he;refine key _ (fun id=>.ptr id 0) (Act.eval ⟨told,D⟩ x).cells t 1 _ rfl rfl (fun H'=>by simp only[aop]; rw[if_pos he]) ?_ (made_cells h1 (fun j hj=>by
    have:=h2 j hj
    rwa [show(Act.eval ⟨told,D⟩ x).cells.toList.getD j undef=(Act.eval ⟨told,D⟩ x).cells.getD j undef by simp[List.getD,Array.getD_eq_getD_getElem?]]at this))
   have g1:(newRow t (Act.eval ⟨told,D⟩ x).cells).run P w=.ok ⟨w.heap.size,0,none⟩ (w.alloc (.cells (Act.eval ⟨told,D⟩ x).cells t)):=rfl;simp only[execOp,ho,Instr.box,newVar,Sem.run_bind,g1,Result.andThen_ok,Sem.run_pure]
  ·cases h
 case buildSlice t m ps =>
  simp only[aop]at h
  split at h
  ·rename_i elem hu
   split at h
   ·rename_i z hz
    split at h
    ·rename_i hle;simp only[Option.map_eq_some_iff]at h;obtain⟨es,he,rfl⟩:=h;obtain⟨p1,p2,p3⟩:=parts_rep hT (parts_ok (by rw[ho]; rfl) hok) D;have hz0:=hz;obtain⟨zv,hzv,hzc,rfl,hs,hpos⟩:=zDb hz;obtain⟨h1,_⟩:=zEj hzc w E;obtain⟨vs',g1,g2,g3⟩:=aFillEs_sound _ _ _ _ _ (by simp) p1 p2 p3 (repR_zero hzc w E m) he;refine key _ (fun id=>slv id m) vs' elem _ _ rfl rfl (fun H'=>by simp only[aop,hu,hz0]; rw[if_pos hle,he]; rfl) ?_ (made_row g2 m g3.symm);have q1:(newRow elem vs').run P w=.ok ⟨w.heap.size,0,none⟩ (w.alloc (.cells vs' elem)):=rfl;rw[h1]at g1;have hzr:=zCe (P:=P) hzv w;have hnot:¬ m*(ofV zv).cells.length > 2^24:=by omega
     by_cases h0:m=0
     ·subst h0;have e0:((Array.range (0*(ofV zv).cells.length)).map (fun q=>zv.cells[q % (ofV zv).cells.length]!))=#[]:=by simp
      simp only[execOp,ho,Instr.buildSlice,Sem.run_bind,run_underlying hu,Result.andThen_ok,zBd hs,if_neg hnot];rw[e0]at g1;simp only[Nat.zero_mul,if_true,Sem.run_pure,Result.andThen_ok,Array.range_zero',List.size_toArray,List.length_nil,Array.map_empty];rw[g1];simp only[Sem.run_bind,q1,Result.andThen_ok,Sem.run_pure]
     ·have hne:¬ m*(ofV zv).cells.length=0:=by
       have:=Nat.mul_pos (Nat.pos_of_ne_zero h0) hpos; omega
      simp only[execOp,ho,Instr.buildSlice,Sem.run_bind,run_underlying hu,Result.andThen_ok,zBd hs,if_neg hnot,if_neg hne,hzr,Sem.run_pure];rw[h1,g1];simp only[Sem.run_bind,q1,Result.andThen_ok,Sem.run_pure]
    ·cases h
   ·cases h
  ·cases h
 case makeSlice t l c =>
  simp only[aop]at h
  split at h
  ·rename_i elem k1 m k2 q hu hl hc'
   split at h
   ·rename_i z by' hz hb;cases h;obtain⟨q1,q2⟩:=opd2 (by rw[ho]; rfl) hok;have hlv:=zFf (zAv hT q1 D) hl;have hcv:=zFf (zAv hT q2 D) hc';obtain⟨h0,rfl,hb1,hb2⟩:=hC;have hz0:=hz;obtain⟨zv,hzv,hzc,rfl,hs,hpos⟩:=zDb hz;obtain⟨h1,_⟩:=zEj hzc w E;refine key _ (fun id=>slv id m.toNat) _ elem _ _ rfl rfl (fun H'=>by simp only[aop,hu,hl,hc',hz0,hb]) ?_ (made_row (repR_zero hzc w E m.toNat) m.toNat (by simp));have g1:(newRow elem ((Array.range (m.toNat*zv.cells.size)).map (fun q=>zv.cells[q % zv.cells.size]!))).run P w=.ok ⟨w.heap.size,0,none⟩ (w.alloc (.cells ((Array.range (m.toNat*zv.cells.size)).map (fun q=>zv.cells[q % zv.cells.size]!)) elem)):=rfl;obtain⟨info,hi,hib⟩:=bytesT_run (P:=P) hb w;have hw:IntKind.i64.wrap m=m:=wrap_i64 (by omega) (by omega);have hzr:=zCe (P:=P) hzv w;have hbig:¬ ((by':Int)*m > 2^48):=by omega
    rw[h1]at g1 ⊢
    by_cases h00:m.toNat=0
    ·have e:((Array.range (m.toNat*(ofV zv).cells.length)).map (fun q=>zv.cells[q % (ofV zv).cells.length]!))=#[]:=by simp[h00]
     rw[e]at g1 ⊢;simp only[execOp,ho,hlv,hcv,Instr.makeSlice,Sem.run_bind,run_underlying hu,Result.andThen_ok,asInt,asIntOf,Sem.run_pure,hi,hib,hw];rw[if_neg (by simp[hbig]; omega)];simp only[Sem.run_bind,askRoom_run,Result.andThen_ok,zBd hs];rw[if_pos (by simp[h00])];simp only[Sem.run_pure,Result.andThen_ok,h00,Nat.zero_mul];have e2:∀ z:Array Value,((Array.range 0).map (fun q=>z[q % z.size]!))=#[]:=fun z=>by simp
     simp only[Sem.run_bind,Sem.run_pure,Result.andThen_ok,e2,g1]
    ·have hne:¬ m.toNat*(ofV zv).cells.length=0:=by
      have:=Nat.mul_pos (Nat.pos_of_ne_zero h00) hpos; omega
     simp only[execOp,ho,hlv,hcv,Instr.makeSlice,Sem.run_bind,run_underlying hu,Result.andThen_ok,asInt,asIntOf,Sem.run_pure,hi,hib,hw];rw[if_neg (by simp[hbig]; omega)];simp only[Sem.run_bind,askRoom_run,Result.andThen_ok,zBd hs];rw[if_neg hne];simp only[Sem.run_bind,hzr,Result.andThen_ok,Sem.run_pure,h1,g1]
   ·cases h
  ·cases h
end
section
variable {P:Program} {G:Gl} {ops:Array Oper} {n:Nat}
def FrAt(P:Program)(G:Gl)(o:Oper)(ts:Nat->AV)(d:Nat)(ao:AO)(mk:Nat->AV):Prop :=
 o.dst=some d/\o.guard=none/\clOf o.op=.alloc/\∃ c:Prop,c/\∀ H',aop P G o.op (ev ts) H'=some ⟨c,mk H'.length,H'++[ao]⟩
theorem FrAt.congr{o:Oper}{ts ts':Nat->AV}{d:Nat}{ao:AO}{mk:Nat->AV}(h:FrAt P G o ts d ao mk)(he:∀ x∈o.op.operands,ev ts' x=ev ts x):FrAt P G o ts' d ao mk:=by
 obtain⟨h1,h2,h3,c,hc,h4⟩:=h;exact⟨h1,h2,h3,c,hc,fun H'=>by rw[zFn he]; exact h4 H'⟩
def MadeB(w:World)(E:En)(b:Nat)(ao:AO)(mk:Nat->AV)(obj:Obj)(sz:Nat)(q:Value):Prop :=
 ∀(w':World) (E':En) (id:Nat),Mono w E w' E'->w'.heap[b]?=some obj->E'.loc id=some ⟨b,0,sz⟩->RelO w' E' ao ⟨b,0,sz⟩/\RepV w' E' (mk id) q
structure PendF(P:Program)(G:Gl)(ops:Array Oper)(lo:Nat)(B:Nat->Option Nat)(ts:Nat->AV)(H:List AO)(E:En)(w:World)(tmps told:Array Value):Prop where
 blk:∀ a b,B a=some b->∃ o d ao mk vs t sz q,ops[a]?=some o/\FrAt P G o ts d ao mk/\w.heap[b]?=some (.cells vs t (0,0))/\lo<=b/\¬ Live H E b/\¬ E.fro b /\
  tmps.getD d undef=q/\d < tmps.size/\MadeB w E b ao mk (.cells vs t (0,0)) sz q
 inj:∀ a a' b,B a=some b->B a'=some b->a=a'
 size:told.size=tmps.size
 same:∀ i,(∀ a b o,B a=some b->ops[a]?=some o->o.dst≠some i)->tmps.getD i undef=told.getD i undef
theorem PendF.grow{lo:Nat}{B:Nat->Option Nat}{ts:Nat->AV}{H H':List AO}{E E':En}{w w':World}{tmps told:Array Value}(h:PendF P G ops lo B ts H E w tmps told)(g:Grow H E w H' E' w'):PendF P G ops lo B ts H' E' w' tmps told :=
 ⟨fun a b hb=>by
  obtain⟨o,d,ao,mk,vs,t,sz,q,h1,h2,h4,h5,h6,h7,h8,h9,h10⟩:=h.blk a b hb;have hlt:=zBg h4;refine⟨o,d,ao,mk,vs,t,sz,q,h1,h2,by rw[g.same b hlt h6]; exact h4,h5,fun hl=>?_,fun hf=>?_,h8,h9,fun w2 E2 id hm=>h10 w2 E2 id (g.mono.trans hm)⟩
  ·rcases g.newlive b hl with h | h
   ·exact h6 h
   ·omega
  ·rcases g.newfro b hf with h | h | h
   ·exact h7 h
   ·omega
   ·exact h6 h,h.inj,h.size,h.same⟩
theorem PendF.put{lo:Nat}{B:Nat->Option Nat}{ts:Nat->AV}{H:List AO}{E:En}{w:World}{tmps told:Array Value}(h:PendF P G ops lo B ts H E w tmps told){dst:Option Nat}{v:AV}
  (hd:∀ a b o,B a=some b->ops[a]?=some o->(∀ e,o.dst=some e->dst≠some e)/\∀ x∈o.op.operands,ev (Go.Ab.put ts dst v) x=ev ts x) (r:Value):PendF P G ops lo B (Go.Ab.put ts dst v) H E w (cput tmps dst r) (cput told dst r) :=
 ⟨fun a b hb=>by
  obtain⟨o,d,ao,mk,vs,t,sz,q,h1,h2,h4,h5,h6,h7,h8,h9,h10⟩:=h.blk a b hb;obtain⟨k1,k2⟩:=hd a b o hb h1;exact⟨o,d,ao,mk,vs,t,sz,q,h1,h2.congr k2,h4,h5,h6,h7,by rw[getD_cput (k1 d h2.1)]; exact h8,by rw[zFr]; exact h9,h10⟩,h.inj,by rw[zFr,zFr]; exact h.size,fun i hi=>by
  by_cases e:dst=some i
  ·subst e
   by_cases hl:i < tmps.size
   ·rw[zEs hl,zEs (by rw[h.size]; exact hl)]
   ·show(tmps.setIfInBounds i r).getD i undef=(told.setIfInBounds i r).getD i undef;have hl2:¬ i < told.size:=by rw[h.size]; exact hl
    simp[Array.getD,hl,hl2]
  ·rw[getD_cput e,getD_cput e]; exact h.same i hi⟩
theorem PendF.more{lo:Nat}{B:Nat->Option Nat}{ts:Nat->AV}{H:List AO}{E:En}{w:World}{tmps told:Array Value}(hR:RelH G w E H)(h:PendF P G ops lo B ts H E w tmps told)(hlo:lo<=w.heap.size){a d:Nat}{o:Oper}{ao:AO}{mk:Nat->AV}
  {vs:Array Value} {t:TypeId} {sz:Nat} {q:Value} (ha:ops[a]?=some o) (hfr:FrAt P G o ts d ao mk) (hBa:B a=none) (hd:d < tmps.size) (hmade:MadeAt w E ao mk (.cells vs t (0,0)) sz q)
  (hdis:∀ a' b' o',B a'=some b'->ops[a']?=some o'->o'.dst≠some d) :
  PendF P G ops lo (fun j=>if j=a then some w.heap.size else B j) ts H E (w.alloc (.cells vs t)) (cput tmps (some d) q) told:=by
 have hg:=(zEg hR (Obj.cells vs t (0,0))).2;have hg':=h.grow hg;have hnl:¬ Live H E w.heap.size:=fun hl=>by have:=Live.lt hR hl; omega
 have hnf:¬ E.fro w.heap.size:=fun hf=>by
  obtain⟨c,t,f,hc⟩:=hR.frob _ hf;have:=zBg hc;omega
 refine⟨fun j b hb=>?_,fun j j' b hb hb'=>?_,by rw[zFr]; exact h.size,fun i hi=>?_⟩
 ·by_cases e:j=a
  ·subst e;simp only[if_true]at hb;cases hb;exact⟨o,d,ao,mk,vs,t,sz,q,ha,hfr,getElem?_alloc_new w _,hlo,hnl,hnf,zEs hd,by rw[zFr]; exact hd,fun w2 E2 id hm=>hmade w2 E2 id (hg.mono.trans hm)⟩
  ·simp only[if_neg e]at hb;obtain⟨o',d',ao',mk',vs',t',sz',q',h1,h2,h4,h5,h6,h7,h8,h9,h10⟩:=hg'.blk j b hb;refine⟨o',d',ao',mk',vs',t',sz',q',h1,h2,h4,h5,h6,h7,?_,by rw[zFr]; exact h9,h10⟩;rw[getD_cput (fun e2=>?_)]; exact h8;cases e2;exact hdis j b o' hb h1 h2.1
 ·by_cases e:j=a <;> by_cases e':j'=a
  ·rw[e,e']
  ·simp only[if_pos e,if_neg e']at hb hb';cases hb;obtain⟨_,_,_,_,_,_,_,_,_,_,h4,_⟩:=h.blk j' _ hb';have:=zBg h4;omega
  ·simp only[if_neg e,if_pos e']at hb hb';cases hb';obtain⟨_,_,_,_,_,_,_,_,_,_,h4,_⟩:=h.blk j _ hb;have:=zBg h4;omega
  ·simp only[if_neg e,if_neg e']at hb hb';exact h.inj j j' b hb hb'
 ·have hid:i≠d:=fun e=>hi a w.heap.size o (by simp) ha (by rw[e]; exact hfr.1)
  rw[getD_cput (fun e=>hid (by cases e; rfl))];refine h.same i fun a' b' o' hb' h1=>?_
  by_cases e:a'=a
  ·subst e; rw[hBa]at hb'; cases hb'
  ·exact hi a' b' o' (by simp[e,hb']) h1
theorem PendF.flush{lo:Nat}{B:Nat->Option Nat}{ts:Nat->AV}{H:List AO}{E:En}{w:World}{tmps told:Array Value}(hR:RelH G w E H)(hT:RepT w E n ts told)(h:PendF P G ops lo B ts H E w tmps told){a b d:Nat}{o:Oper}{ao:AO}{mk:Nat->AV}
  (hB:B a=some b) (ha:ops[a]?=some o) (hfr:FrAt P G o ts d ao mk) (hsep:∀ a' b' o',a'≠a->B a'=some b'->ops[a']?=some o'->o'.dst≠some d/\∀ x∈o'.op.operands,x≠.tmp d)
  {H0:List AO} {E0:En} {w0:World} (hG:Grow H0 E0 w0 H E w) (hlo:w0.heap.size<=lo) :
  ∃ E' told',RelH G w E' (H++[ao])/\RepT w E' n (Go.Ab.put ts (some d) (mk H.length)) told'/\PendF P G ops lo (fun j=>if j=a then none else B j) (Go.Ab.put ts (some d) (mk H.length)) (H++[ao]) E' w tmps told'/\Grow H0 E0 w0 (H++[ao]) E' w/\Mono w E w E':=by
 obtain⟨o1,d1,ao1,mk1,vs,t,sz,q,h1,h2,h4,h5,h6,h7,h8,h9,h10⟩:=h.blk a b hB;rw[ha]at h1; cases h1;have e1:d1=d:=by have:=h2.1; rw[hfr.1]at this; cases this; rfl
 subst e1;have e2:ao1=ao/\∀ H':List AO,mk1 H'.length=mk H'.length:=by
  obtain⟨_,_,_,c1,_,k1⟩:=h2;obtain⟨_,_,_,c2,_,k2⟩:=hfr;refine⟨?_,fun H'=>?_⟩
  ·have:=(k1 []).symm.trans (k2 []);simp only[Option.some.injEq,AR.mk.injEq,List.nil_append,List.cons.injEq,and_true]at this;exact this.2.2
  ·have:=(k1 H').symm.trans (k2 H');simp only[Option.some.injEq,AR.mk.injEq]at this;exact this.2.1
 obtain⟨rfl,e3⟩:=e2;obtain⟨g1,g2,g3,g4⟩:=rel_track hR ao1 ⟨b,0,sz⟩ (fun E' hm hl=>(h10 w E' H.length hm h4 hl).1) h6 h7;have hrep:RepV w (E.put H.length ⟨b,0,sz⟩) (mk H.length) q:=by rw[<- e3 H]; exact(h10 w _ H.length g2 h4 g4).2
 refine⟨_,cput told (some d1) q,g1,(hT.mono g2).put hrep (some d1),⟨fun j b' hb'=>?_,fun j j' b' hb hb'=>?_,by rw[zFr]; exact h.size,fun i hi=>?_⟩,?_,g2⟩
 ·by_cases e:j=a
  ·subst e; simp at hb'
  ·simp only[if_neg e]at hb';obtain⟨o',d',ao',mk',vs',t',sz',q',k1,k2,k4,k5,k6,k7,k8,k9,k10⟩:=h.blk j b' hb';refine⟨o',d',ao',mk',vs',t',sz',q',k1,k2.congr (fun x hx=>ev_put fun e' he'=>by cases he'; exact(hsep j b' o' e hb' k1).2 x hx),k4,k5,fun hl=>?_,k7,k8,k9,fun w2 E2 id hm=>k10 w2 E2 id (g2.trans hm)⟩
   rcases g3 b' hl with hl | hl
   ·exact k6 hl
   ·subst hl; exact e (h.inj j a _ hb' hB)
 ·by_cases e:j=a
  ·subst e; simp at hb
  ·by_cases e':j'=a
   ·subst e'; simp at hb'
   ·simp only[if_neg e,if_neg e']at hb hb';exact h.inj j j' b' hb hb'
 ·by_cases e:i=d1
  ·subst e;rw[zEs (by rw[h.size]; exact h9)]; exact h8
  ·rw[getD_cput (fun e2=>e (by cases e2; rfl))];refine h.same i fun a' b' o' hb' q1=>?_
   by_cases e':a'=a
   ·subst e'; rw[ha]at q1; cases q1; rw[hfr.1]; intro e2; cases e2; exact e rfl
   ·exact hi a' b' o' (by simp[e',hb']) q1
 ·refine⟨hG.mono.trans g2,hG.size,hG.same,fun b' hf=>hG.newfro b' hf,fun b' hl=>?_,hG.os,hG.tape,hG.output⟩
  rcases g3 b' hl with hl | hl
  ·exact hG.newlive b' hl
  ·exact .inr (by rw[hl]; show w0.heap.size<=b; omega)
end
section
variable {P:Program} {G:Gl} {ops ops':Array Oper}
theorem ev_op_congr{o:Oper}{ts1 ts2:Nat->AV}(he:∀ e∈o.looksAt ops,ts1 e=ts2 e):(∀ x∈o.op.operands,ev ts1 x=ev ts2 x)/\zAp ops ts1 o=zAp ops ts2 o:=by
 refine⟨fun x hx=>?_,?_⟩
 ·cases x with
  | tmp e =>
   refine he e ?_;simp only[Oper.looksAt,List.mem_append]
   first
    | exact .inl (by simpa using⟨_,hx,rfl⟩)
    | (left; simp; exact⟨_,hx,rfl⟩)
  | const v=>rfl
  | global g=>rfl
  | func g=>rfl
 ·unfold zAp;cases hg:o.guard with
  | none=>rfl
  | some g =>
   obtain⟨j,want⟩:=g;have:gval ops ts1 j=gval ops ts2 j:=by
    unfold gval;cases hj:(ops[j]?).bind (·.dst)with
    | none=>rfl
    | some e =>
     have h3:ts1 e=ts2 e:=he e (by simp[Oper.looksAt,hg,hj]);simp only[h3]
   simp only[this]
theorem ev_put_looks{o:Oper}{ts:Nat->AV}{dst:Option Nat}{v:AV}(h:∀ d,dst=some d->d ∉ o.looksAt ops):∀ x∈o.op.operands,ev (put ts dst v) x=ev ts x :=
 (ev_op_congr (ops:=ops) fun e he=>by
  cases dst with
  | none=>rfl
  | some d =>
   show(if e=d then v else ts e)=ts e;rw[if_neg (fun e2=>h d rfl (by rw[<- e2]; exact he))]).1
theorem mem_looks{o:Oper}{e:Nat}(h:Operand.tmp e∈o.op.operands):e∈o.looksAt ops:=by
 simp only[Oper.looksAt,List.mem_append]
 first
  | exact .inl (by simpa using⟨_,h,rfl⟩)
  | (left; simp; exact⟨_,h,rfl⟩)
structure DelayOk(ops ops':Array Oper)(A:Nat->Bool):Prop where
 sz:ops'.size=ops.size
 same:∀ i,A i=false->ops'[i]?=ops[i]?
 al:∀ a,A a=true->∃ o o' d,ops[a]?=some o/\ops'[a]?=some o'/\o'.op=o.op/\o'.dst=o.dst/\o'.guard=none/\o.dst=some d/\o.guard=none/\clOf o.op=.alloc /\
  (∀ e∈o.after,Region.binds .any e=true->A e.on=false)/\(∀ e∈o'.after,Region.binds .any e=true->e.on < ops.size/\(A e.on=true->e.on < a))
 ed:∀ i o,ops[i]?=some o->∀ e∈o.after,Region.binds .any e=true->e.on < i/\(A e.on=true->wt ops i e.on=true)
 mw:∀ i a o',A i=false->A a=true->wt ops i a=true->ops'[a]?=some o'->∀ e∈o'.after,Region.binds .any e=true->wt ops i e.on=true
 lo:∀ i e,A i=false->i < ops.size->wt ops i e=true->e < i
 hd:∀ i o,A i=false->ops[i]?=some o->isSelect o.op=false/\∀ a,A a=true->∀ oa d,ops[a]?=some oa->oa.dst=some d->wt ops i a=true\/(d ∉ o.looksAt ops/\o.dst≠some d)
 dep:∀ i o,A i=false->ops[i]?=some o->∀ a,A a=true->∀ oa,ops[a]?=some oa->(∃ e∈oa.after,Region.binds .any e=true/\e.on=i)\/∀ d,o.dst=some d->d ∉ oa.looksAt ops
 sep:∀ a a',A a=true->A a'=true->a≠a'->∀ o o' d,ops[a]?=some o->ops[a']?=some o'->o.dst=some d->o'.dst≠some d/\d ∉ o'.looksAt ops
theorem gd{l:Array Bool}{j:Nat}(h:j < l.size):l.getD j false=l.getD j true:=by simp[Array.getD,h]
variable {A:Nat->Bool}
theorem DelayOk.mt(hS:DelayOk ops ops' A)(i:Nat):(ops'[i]?).map (fun o=>(o.op,o.dst,o.guard))=(ops[i]?).map (fun o=>(o.op,o.dst,o.guard)):=by
 cases h:A i with
 | false=>rw[hS.same i h]
 | true =>
  obtain⟨o,o',d,h1,h2,h3,h4,h5,h6,h7,_⟩:=hS.al i h;rw[h1,h2]; simp[h3,h4,h5,h7]
theorem DelayOk.gval(hS:DelayOk ops ops' A)(ts:Nat->AV)(j:Nat):gval ops' ts j=gval ops ts j:=by
 unfold Go.Ab.gval;have:(ops'[j]?).bind (·.dst)=(ops[j]?).bind (·.dst):=by
  have h:=hS.mt j;cases h1:ops'[j]? <;> cases h2:ops[j]? <;> rw[h1,h2]at h <;> simp at h ⊢
  exact h.2.1
 rw[this]
theorem DelayOk.wanted(hS:DelayOk ops ops' A)(ts:Nat->AV)(o:Oper):zAp ops' ts o=zAp ops ts o:=by
 unfold zAp;cases h:o.guard with
 | none=>rfl
 | some g =>
  obtain⟨j,w⟩:=g;simp only[hS.gval ts j]
theorem DelayOk.prog(hS:DelayOk ops ops' A){listed:Array Bool}(hsz:listed.size=ops.size)(h:∃ j,j < ops.size/\listed.getD j true=false):∃ i,i∈Region.ready .any ops' listed:=by
 have key:∀ i,i < ops.size->A i=false->listed.getD i true=false->∃ i,i∈Region.ready .any ops' listed:=by
  intro i
  induction i using Nat.strongRecOn with
  | ind i ih =>
   intro hi hA hu
   by_cases hex:∃ j,j < i/\A j=false/\listed.getD j true=false
   ·obtain⟨j,h1,h2,h3⟩:=hex;exact ih j h1 (by omega) h2 h3
   have hl:∀ j,j < i->A j=false->listed.getD j true=true:=fun j h1 h2=>by
    cases e:listed.getD j true with
    | true=>rfl
    | false=>exact absurd ⟨j,h1,h2,e⟩ hex
   have sub:∀ a,A a=true->wt ops i a=true->listed.getD a true=false->∃ i,i∈Region.ready .any ops' listed:=by
    intro a
    induction a using Nat.strongRecOn with
    | ind a iha =>
     intro hAa hw hua
     obtain⟨o,o',d,h1,h2,h3,h4,h5,h6,h7,h8,h9,h10⟩:=hS.al a hAa
     by_cases hex:∃ e∈o'.after,Region.binds .any e=true/\listed.getD e.on true=false
     ·obtain⟨e,he,hb,hue⟩:=hex;have hwe:=hS.mw i a o' hA hAa hw h2 e he hb;cases hAe:A e.on with
      | true=>exact iha e.on ((h10 e he hb).2 hAe) hAe hwe hue
      | false =>
       have:=hl e.on (hS.lo i e.on hA hi hwe) hAe;rw[hue]at this; cases this
     ·refine⟨a,mem_ready.2 ⟨hua,o',h2,fun e he hb=>?_⟩⟩;rw[gd (by rw[hsz]; exact(h10 e he hb).1)];cases e1:listed.getD e.on true with
      | true=>rfl
      | false=>exact absurd ⟨e,he,hb,e1⟩ hex
   obtain⟨o,ho⟩:∃ o,ops[i]?=some o:=⟨ops[i],by simp[hi]⟩
   by_cases hex2:∃ e∈o.after,Region.binds .any e=true/\listed.getD e.on true=false
   ·obtain⟨e,he,hb,hue⟩:=hex2;obtain⟨h1,h2⟩:=hS.ed i o ho e he hb;cases hAe:A e.on with
    | true=>exact sub e.on hAe (h2 hAe) hue
    | false=>have:=hl e.on h1 hAe; rw[hue]at this; cases this
   ·refine⟨i,mem_ready.2 ⟨hu,o,by rw[hS.same i hA]; exact ho,fun e he hb=>?_⟩⟩;rw[gd (by rw[hsz]; have:=(hS.ed i o ho e he hb).1; omega)];cases e1:listed.getD e.on true with
    | true=>rfl
    | false=>exact absurd ⟨e,he,hb,e1⟩ hex2
 obtain⟨j,hj,hu⟩:=h
 by_cases hex:∃ i,i < ops.size/\A i=false/\listed.getD i true=false
 ·obtain⟨i,h1,h2,h3⟩:=hex; exact key i h1 h2 h3
 induction j using Nat.strongRecOn with
 | ind j ih =>
  cases hAj:A j with
  | false=>exact absurd ⟨j,hj,hAj,hu⟩ hex
  | true =>
   obtain⟨o,o',d,h1,h2,h3,h4,h5,h6,h7,h8,h9,h10⟩:=hS.al j hAj
   by_cases hex2:∃ e∈o'.after,Region.binds .any e=true/\listed.getD e.on true=false
   ·obtain⟨e,he,hb,hue⟩:=hex2;obtain⟨q1,q2⟩:=h10 e he hb;cases hAe:A e.on with
    | true=>exact ih e.on (q2 hAe) q1 hue
    | false=>exact absurd ⟨e.on,q1,hAe,hue⟩ hex
   ·refine⟨j,mem_ready.2 ⟨hu,o',h2,fun e he hb=>?_⟩⟩;rw[gd (by rw[hsz]; exact(h10 e he hb).1)];cases e1:listed.getD e.on true with
    | true=>rfl
    | false=>exact absurd ⟨e,he,hb,e1⟩ hex2
theorem stepR_alloc{imp:Nat->Bool}{a:Nat}{ts:Nat->AV}{H:List AO}{K:(Nat->AV)->List AO->Prop}{o:Oper}(ho:ops[a]?=some o)(hg:o.guard=none)(hc:clOf o.op=.alloc)(h:zCn P G ops imp a ts H K) :
  ∃ r,aop P G o.op (ev ts) H=some r/\r.c/\K (put ts o.dst r.v) r.H:=by
 unfold zCn at h;have hw:zAp ops ts o=true:=by simp[zAp,hg]
 simp only[ho,hw,if_true]at h
 split at h
 ·rename_i f args tys hop;rw[hop,clOf_value]at hc; cases hc
 ·exact h
theorem unl_pos{p:Nat}{listed:Array Bool}{i:Nat}(hi:i < p)(hu:listed.getD i true=false):0 < unl p listed:=by
 unfold unl;exact List.length_pos_of_mem (List.mem_filter.2 ⟨List.mem_range.2 hi,by rw[hu]; rfl⟩)
theorem unl_zero{p:Nat}{listed:Array Bool}(h:unl p listed=0){i:Nat}(hi:i < p):listed.getD i true=true:=by
 cases e:listed.getD i true with
 | true=>rfl
 | false=>have:=unl_pos hi e; omega
section
variable {n:Nat} {imp:Nat->Bool} {K:(Nat->AV)->List AO->Prop}
theorem DelayOk.look(hS:DelayOk ops ops' A)(hops:ops.all (zBj n)=true)(D:List Deferred)(b:Frame)(cs:List Frame){a:Nat}(hA:A a=true){oa:Oper}(hoa:ops[a]?=some oa) :
  ∀(f:Nat) (listed:Array Bool) (ts:Nat->AV) (H:List AO) (E:En) (w:World) (told:Array Value),f=unl ops.size listed->listed.size=ops.size->listed.getD a true=false ->
   (∀ e∈oa.after,Region.binds .any e=true->listed.getD e.on true=true)->anyR P G ops' imp K f listed ts H->RelH G w E H->RepT w E n ts told ->
   ∃ r H',aop P G oa.op (ev ts) H'=some r/\r.c:=by
 intro f
 have has:a < ops.size:=(Array.getElem?_eq_some_iff.1 hoa).1
 induction f with
 | zero=>intro listed ts H E w told hf hsz hu _ _ _ _; have:=unl_pos has hu; omega
 | succ f ih =>
  intro listed ts H E w told hf hsz hu hdp h hR hT
  obtain⟨o,o',d,h1,h2,h3,h4,h5,h6,h7,h8,h9,h10⟩:=hS.al a hA;rw[hoa]at h1; cases h1
  by_cases har:a∈Region.ready .any ops' listed
  ·obtain⟨r,q1,q2,_⟩:=stepR_alloc h2 h5 (by rw[h3]; exact h8) (h.2 a har);rw[h3]at q1;exact⟨r,H,q1,q2⟩
  ·obtain⟨i,hi⟩:=hS.prog hsz ⟨a,has,hu⟩;have hia:i≠a:=fun e=>har (by rw[<- e]; exact hi)
   obtain⟨hiu,oi',hoi',_⟩:=mem_ready.1 hi;have his:i < ops.size:=by rw[<- hS.sz]; exact(Array.getElem?_eq_some_iff.1 hoi').1
   obtain⟨oi,hoi⟩:∃ o,ops[i]?=some o:=⟨ops[i],by simp[his]⟩;have hmt:=hS.mt i;rw[hoi,hoi']at hmt;simp only[Option.map_some,Option.some.injEq,Prod.mk.injEq]at hmt;have hev:∀ v,∀ x∈oa.op.operands,ev (put ts oi'.dst v) x=ev ts x:=fun v=>ev_put_looks (ops:=ops) fun d' hd'=>by
    rw[hmt.2.1]at hd';cases hAi:A i with
    | true=>exact(hS.sep i a hAi hA hia oi oa d' hoi hoa hd').2
    | false =>
     rcases hS.dep i oi hAi hoi a hA oa hoa with ⟨e,he,hb,rfl⟩ | hd
     ·rw[hdp e he hb]at hiu; cases hiu
     ·exact hd d' hd'
   have hoo:zBj n oi'=true:=by
    have:=(Array.all_eq_true'.1 hops) oi (Array.mem_of_getElem? hoi);unfold zBj at this ⊢;rw[hmt.1,hmt.2.1]; exact this
   have hf':f=unl ops.size (listed.setIfInBounds i true):=by
    have:=unl_set his hsz hiu; omega
   have next:∀(v:AV) (H1:List AO) (E1:En) (w1:World) (told1:Array Value),anyR P G ops' imp K f (listed.setIfInBounds i true) (put ts oi'.dst v) H1->RelH G w1 E1 H1->RepT w1 E1 n (put ts oi'.dst v) told1->∃ r H',aop P G oa.op (ev ts) H'=some r/\r.c:=fun v H1 E1 w1 told1 hK hR1 hT1=>by
    obtain⟨r,H',q1,q2⟩:=ih (listed.setIfInBounds i true) (put ts oi'.dst v) H1 E1 w1 told1 hf' (by simp[hsz]) (by rw[getD_set_ne true hia]; exact hu) (fun e he hb=>by
     by_cases e2:i=e.on
     ·rw[e2,zDn true (by rw[hsz]; have:=(hS.ed a oa hoa e he hb).1; omega)]
     ·rw[getD_set_ne true e2]; exact hdp e he hb) hK hR1 hT1
    rw[zFn (hev v)]at q1;exact⟨r,H',q1,q2⟩
   obtain⟨o2,ho2,hcase⟩:=stepR_op (h.2 i hi);rw[hoi']at ho2; cases ho2
   rcases hcase with ⟨hw,hdf,hop⟩ | ⟨hw,hop⟩
   ·obtain⟨v,H1,E1,w1,r,hK1,hH1,hg1,hr1,_⟩:=hop n E w told hR hT hoo D b cs;exact next v H1 E1 w1 _ hK1 hH1 ((hT.mono hg1.mono).put hr1 oi'.dst)
   ·exact next .un H E w _ hop hR (hT.put (v:=.un) (r:=undef) (.tup (by rfl) (fun i hi=>by simp at hi)) oi'.dst)
end
end
section
variable {P:Program} {G:Gl} {ops ops':Array Oper} {A:Nat->Bool} {rd:Option Nat} {n:Nat} {imp:Nat->Bool} {K:(Nat->AV)->List AO->Prop} {b:Frame} {H0:List AO} {E0:En} {w0:World}
structure StD(P:Program)(G:Gl)(ops ops':Array Oper)(A:Nat->Bool)(rd:Option Nat)(n:Nat)(imp:Nat->Bool)(K:(Nat->AV)->List AO->Prop)(b:Frame)(H0:List AO)(E0:En)(w0:World)(listed:Array Bool)(tmps:Array Value)(D:List Deferred)(w:World)
  (B:Nat->Option Nat) (listed1:Array Bool) (ts:Nat->AV) (H:List AO) (E:En) (told:Array Value):Prop where
 s0:listed.size=ops.size
 s1:listed1.size=ops.size
 c1:Closed ops' listed1
 r1:∀ j,j < ops.size->listed1.getD j true=(listed.getD j true&&!(B j).isSome)
 ba:∀ a bk,B a=some bk->A a=true/\listed.getD a true=true
 gm:anyR P G ops' imp K (unl ops.size listed1) listed1 ts H
 hR:RelH G w E H
 hT:RepT w E n ts told
 pd:PendF P G ops w0.heap.size B ts H E w tmps told
 hG:Grow H0 E0 w0 H E w
 rr:RoundRel E b rd
 hD:MarksOk w D
variable {listed:Array Bool} {tmps:Array Value} {D:List Deferred} {w:World}
theorem StD.flushOne(hS:DelayOk ops ops' A){B:Nat->Option Nat}{listed1:Array Bool}{ts:Nat->AV}{H:List AO}{E:En}{told:Array Value}(h:StD P G ops ops' A rd n imp K b H0 E0 w0 listed tmps D w B listed1 ts H E told)
  {a bk:Nat} (hB:B a=some bk) (hdp:∀ o',ops'[a]?=some o'->∀ e∈o'.after,Region.binds .any e=true->listed1.getD e.on true=true) :
  ∃ listed2 ts' H' E' told',StD P G ops ops' A rd n imp K b H0 E0 w0 listed tmps D w (fun j=>if j=a then none else B j) listed2 ts' H' E' told':=by
 obtain⟨hA,hla⟩:=h.ba a bk hB;obtain⟨o,o',d,h1,h2,h3,h4,h5,h6,h7,h8,h9,h10⟩:=hS.al a hA;have has:a < ops.size:=(Array.getElem?_eq_some_iff.1 h1).1;have hu:listed1.getD a true=false:=by rw[h.r1 a has,hB]; simp
 have har:a∈Region.ready .any ops' listed1:=mem_ready.2 ⟨hu,o',h2,fun e he hb=>by rw[gd (by rw[h.s1]; exact(h10 e he hb).1)]; exact hdp o' h2 e he hb⟩;have hg:=h.gm;rw[unl_set has h.s1 hu]at hg;obtain⟨r,q1,q2,q3⟩:=stepR_alloc h2 h5 (by rw[h3]; exact h8) (hg.2 a har);rw[h3]at q1;rw[h4,h6]at q3;obtain⟨o1,d1,ao,mk,_,_,_,_,k1,k2,_⟩:=h.pd.blk a bk hB;rw[h1]at k1; cases k1;have ed:d1=d:=by have:=k2.1; rw[h6]at this; cases this; rfl
 subst ed;obtain⟨_,_,_,c,hc,k3⟩:=id k2;rw[k3 H]at q1;cases q1;obtain⟨E',told',g1,g2,g3,g4,g5⟩:=h.pd.flush h.hR h.hT hB h1 k2 (fun a' b' oa' hne hB' hoa'=>by
  obtain⟨hA',_⟩:=h.ba a' b' hB';obtain⟨s1,s2⟩:=hS.sep a a' hA hA' (Ne.symm hne) o oa' d1 h1 hoa' h6;exact⟨s1,fun x hx e=>s2 (mem_looks (by rw[<- e]; exact hx))⟩) h.hG (Nat.le_refl _)
 refine⟨listed1.setIfInBounds a true,_,_,E',told',h.s0,by simp[h.s1],h.c1.set har,fun j hj=>?_,fun a' b' hb'=>?_,q3,g1,g2,g3,g4,h.rr.mono g5,h.hD⟩
 ·by_cases e:j=a
  ·subst e; rw[zDn true (by rw[h.s1]; exact hj)]; simp[hla]
  ·rw[getD_set_ne true (Ne.symm e),h.r1 j hj]; simp[e]
 ·by_cases e:a'=a
  ·subst e; simp at hb'
  ·simp only[if_neg e]at hb'; exact h.ba a' b' hb'
theorem StD.flushTo(hS:DelayOk ops ops' A){F:Nat->Bool}(hF:∀ a o',A a=true->F a=true->ops'[a]?=some o'->∀ e∈o'.after,Region.binds .any e=true->listed.getD e.on true=true/\(A e.on=true->F e.on=true)) :
  ∀(m:Nat) (B:Nat->Option Nat) (listed1:Array Bool) (ts:Nat->AV) (H:List AO) (E:En) (told:Array Value),StD P G ops ops' A rd n imp K b H0 E0 w0 listed tmps D w B listed1 ts H E told ->
  ∃ B' listed2 ts' H' E' told',StD P G ops ops' A rd n imp K b H0 E0 w0 listed tmps D w B' listed2 ts' H' E' told'/\(∀ a,B' a=if F a=true/\a < m then none else B a)
 | 0,B,listed1,ts,H,E,told,h=>⟨B,listed1,ts,H,E,told,h,fun a=>by simp⟩
 | m+1,B,listed1,ts,H,E,told,h=>by
  obtain⟨B1,l1,ts1,H1,E1,t1,h1,hb1⟩:=StD.flushTo hS hF m B listed1 ts H E told h;have skip:(F m=false\/B1 m=none)->∃ B' listed2 ts' H' E' told',StD P G ops ops' A rd n imp K b H0 E0 w0 listed tmps D w B' listed2 ts' H' E' told'/\(∀ a,B' a=if F a=true/\a < m+1 then none else B a):=fun hh =>
   ⟨B1,l1,ts1,H1,E1,t1,h1,fun a=>by
    by_cases e:a=m
    ·subst e
     rcases hh with hh | hh
     ·rw[hb1 a]; simp[hh]
     ·cases hf:F a with
      | false=>rw[hb1 a]; simp[hf]
      | true=>rw[hh]; simp
    ·rw[hb1 a];have:(a < m+1)=(a < m):=by apply propext; omega
     simp only[this]⟩
  cases hf:F m with
  | false=>exact skip (.inl hf)
  | true =>
   cases hbm:B1 m with
   | none=>exact skip (.inr hbm)
   | some bk =>
    obtain⟨hA,hla⟩:=h1.ba m bk hbm;obtain⟨o,o',d,q1,q2,q3,q4,q5,q6,q7,q8,q9,q10⟩:=hS.al m hA;obtain⟨l2,ts2,H2,E2,t2,h2⟩:=h1.flushOne hS hbm (fun oo hoo e he hb=>by
     rw[q2]at hoo; cases hoo;obtain⟨p1,p2⟩:=hF m o' hA hf q2 e he hb;obtain⟨p3,p4⟩:=q10 e he hb;rw[h1.r1 e.on p3,p1];cases hAe:A e.on with
     | true =>
      have:B1 e.on=none:=by rw[hb1 e.on,if_pos ⟨p2 hAe,p4 hAe⟩]
      rw[this]; rfl
     | false =>
      have:B1 e.on=none:=by
       cases hx:B1 e.on with
       | none=>rfl
       | some y=>have:=(h1.ba _ _ hx).1; rw[hAe]at this; cases this
      rw[this]; rfl)
    refine⟨_,l2,ts2,H2,E2,t2,h2,fun a=>?_⟩
    by_cases e:a=m
    ·subst e; simp[hf]
    ·simp only[if_neg e];rw[hb1 a];have:(a < m+1)=(a < m):=by apply propext; omega
     simp only[this]
variable {k:List Item} {Q:Lv->(Nat->AV)->List AO->Prop}
theorem StD.run(hS:DelayOk ops ops' A)(hops:ops.all (zBj n)=true)(hkk:zDu n k=true){cs:List Frame} :
  ∀(fuel t:Nat) (listed:Array Bool) (tmps:Array Value) (w:World) (B:Nat->Option Nat) (listed1:Array Bool) (ts:Nat->AV) (H:List AO) (E:En) (told:Array Value),fuel=unl ops.size listed->Closed ops listed ->
   StD P G ops ops' A rd n imp (fun ts H=>FW P G rd n k ts H Q) b H0 E0 w0 listed tmps D w B listed1 ts H E told ->
   FWc P G rd n Q b D cs H0 E0 w0 (lone (frm b tmps (.inRegion ops (Region.linearise.go .any ops fuel t listed [])::k) D) cs w):=by
 intro fuel
 induction fuel with
 | zero =>
  intro t listed tmps w B listed1 ts H E told hf hcl h
  simp only[Region.linearise.go,List.reverse_nil];obtain⟨B1,l1,ts1,H1,E1,t1,h1,hb1⟩:=h.flushTo hS (F:=fun _=>true) (fun a o' hA _ ho' e he hb=>by
   obtain⟨o,o2,d,q1,q2,q3,q4,q5,q6,q7,q8,q9,q10⟩:=hS.al a hA;rw[q2]at ho'; cases ho';exact⟨unl_zero hf.symm (q10 e he hb).1,fun _=>rfl⟩) ops.size
  have hn:∀ a,B1 a=none:=fun a=>by
   by_cases ha:a < ops.size
   ·rw[hb1 a,if_pos ⟨rfl,ha⟩]
   ·cases hx:B1 a with
    | none=>rfl
    | some y =>
     obtain⟨o,_,_,q1,_⟩:=hS.al a (h1.ba _ _ hx).1;exact absurd (Array.getElem?_eq_some_iff.1 q1).1 ha
  have hz:unl ops.size l1=0:=by
   unfold unl;rw[List.length_eq_zero_iff,List.filter_eq_nil_iff]
   intro i hi
   rw[List.mem_range]at hi;rw[h1.r1 i hi,hn i,unl_zero hf.symm hi]; simp
  have hg:=h1.gm;rw[hz]at hg;have e:tmps=t1:=array_ext_getD h1.pd.size.symm fun i=>h1.pd.same i fun a b o hb _=>by rw[hn a]at hb; cases hb
  subst e;exact FW.toc (FW.regionEnd hg.2) (by rw[zAm,zA]; exact⟨hops,hkk⟩) h1.hR h1.hT h1.rr h1.hD h1.hG
 | succ fuel ih =>
  intro t listed tmps w B listed1 ts H E told hf hcl h
  simp only[Region.linearise.go]
  change FWc P G rd n Q b D cs H0 E0 w0 (lone (frm b tmps (.inRegion ops (match (Region.ready .any ops listed)[t % (Region.ready .any ops listed).length]? with
   | some i=>Region.linearise.go .any ops fuel (t / (Region.ready .any ops listed).length) (listed.setIfInBounds i true) [i]
   | none=>[].reverse)::k) D) cs w)
  have hex:∃ i,i∈Region.ready .any ops listed:=by
   have:∃ j,j < ops.size/\listed.getD j true=false:=by
    have:0 < ((List.range ops.size).filter fun i=>!listed.getD i true).length:=by
     have:unl ops.size listed=fuel+1:=hf.symm;unfold unl at this; omega
    obtain⟨j,hj⟩:=List.exists_mem_of_length_pos this;rw[List.mem_filter,List.mem_range]at hj;exact⟨j,hj.1,by simpa using hj.2⟩
   obtain⟨j,hj,hu⟩:=this
   induction j using Nat.strongRecOn with
   | ind j ihj =>
    obtain⟨o,ho⟩:∃ o,ops[j]?=some o:=⟨ops[j],by simp[hj]⟩
    by_cases hex2:∃ e∈o.after,Region.binds .any e=true/\listed.getD e.on true=false
    ·obtain⟨e,he,hb,hue⟩:=hex2;have:=(hS.ed j o ho e he hb).1;exact ihj e.on this (by omega) hue
    ·refine⟨j,mem_ready.2 ⟨hu,o,ho,fun e he hb=>?_⟩⟩;rw[gd (by rw[h.s0]; have:=(hS.ed j o ho e he hb).1; omega)];cases e1:listed.getD e.on true with
     | true=>rfl
     | false=>exact absurd ⟨e,he,hb,e1⟩ hex2
  cases hi:(Region.ready .any ops listed)[t % (Region.ready .any ops listed).length]? with
  | none =>
   exfalso
   obtain⟨j,hj⟩:=hex;cases hr:Region.ready .any ops listed with
   | nil=>rw[hr]at hj; cases hj
   | cons x xs =>
    rw[hr]at hi;have hlt:t % (x::xs).length < (x::xs).length:=Nat.mod_lt _ (by simp);simp at hi;simp at hlt;omega
  | some i =>
   simp only[];rw[linearise_go_acc,List.reverse_singleton,List.singleton_append];have hir:i∈Region.ready .any ops listed:=List.mem_of_getElem? hi;obtain⟨hiu,o,ho,haft⟩:=mem_ready.1 hir;have his:i < ops.size:=(Array.getElem?_eq_some_iff.1 ho).1;have hf':fuel=unl ops.size (listed.setIfInBounds i true):=by
    have:=unl_set his h.s0 hiu; omega
   have hoo:zBj n o=true:=(Array.all_eq_true'.1 hops) o (Array.mem_of_getElem? ho)
   generalize hrest:Region.linearise.go .any ops fuel (t / (Region.ready .any ops listed).length) (listed.setIfInBounds i true) []=rest
   have hwait:∀ e,wt ops i e=true->listed.getD e true=true:=fun e hw=>by
    cases e1:listed.getD e true with
    | true=>rfl
    | false=>have:=masks_wait (ops:=ops) hcl hir (i:=e) e1; unfold wt at hw; rw[this]at hw; cases hw
   cases hAi:A i with
   | false =>
    obtain⟨B1,l1,ts1,H1,E1,t1,h1,hb1⟩:=h.flushTo hS (F:=fun a=>wt ops i a) (fun a o' hA hw ho' e he hb=>by
     have hwe:=hS.mw i a o' hAi hA hw ho' e he hb;exact⟨hwait e.on hwe,fun _=>hwe⟩) ops.size
    have hBi:∀ j,A j=false->B1 j=none:=fun j hj=>by
     cases hx:B1 j with
     | none=>rfl
     | some y=>have:=(h1.ba _ _ hx).1; rw[hj]at this; cases this
    have hi1:l1.getD i true=false:=by rw[h1.r1 i his,hiu]; rfl
    have hir1:i∈Region.ready .any ops' l1:=mem_ready.2 ⟨hi1,o,by rw[hS.same i hAi]; exact ho,fun e he hb=>by
     obtain⟨p1,p2⟩:=hS.ed i o ho e he hb;rw[gd (by rw[h1.s1]; omega),h1.r1 e.on (by omega)];have p3:=haft e he hb;rw[gd (by rw[h.s0]; omega)]at p3;rw[p3];cases hAe:A e.on with
     | false=>rw[hBi _ hAe]; rfl
     | true=>rw[hb1 e.on,if_pos ⟨p2 hAe,by omega⟩]; rfl⟩
    have hg:=h1.gm;rw[unl_set his h1.s1 hi1]at hg;obtain⟨hsel,hap⟩:=hS.hd i o hAi ho;have hap':∀ a bk oa d,B1 a=some bk->ops[a]?=some oa->oa.dst=some d->d ∉ o.looksAt ops/\o.dst≠some d:=fun a bk oa d hb hoa hd=>by
     rcases hap a (h1.ba a bk hb).1 oa d hoa hd with hw | hn
     ·rw[hb1 a,if_pos ⟨hw,(Array.getElem?_eq_some_iff.1 hoa).1⟩]at hb; cases hb
     ·exact hn
    have hev:∀ x,(∀ e,x=Operand.tmp e->e∈o.looksAt ops)->Act.eval ⟨tmps,D⟩ x=Act.eval ⟨t1,D⟩ x:=fun x hx=>by
     cases x with
     | tmp e =>
      exact h1.pd.same e fun a bk oa hb hoa hed=>by
       exact(hap' a bk oa e hb hoa hed).1 (hx e rfl)
     | const v=>rfl
     | global g=>rfl
     | func g=>rfl
    have hopx:∀ x∈o.op.operands,Act.eval ⟨tmps,D⟩ x=Act.eval ⟨t1,D⟩ x:=fun x hx=>hev x fun e he=>by subst he; exact mem_looks hx
    have hex2:execOp (Act.eval ⟨tmps,D⟩) o=execOp (Act.eval ⟨t1,D⟩) o:=execOp_congr o (fun cs b e=>by rw[e]at hsel; cases hsel) hopx;have hwt:Region.wanted o (yielded ops tmps)=Region.wanted o (yielded ops t1):=by
     unfold Region.wanted;cases hg:o.guard with
     | none=>rfl
     | some g =>
      obtain⟨j,want⟩:=g;have:yielded ops tmps j=yielded ops t1 j:=by
       unfold yielded;cases hj:(ops[j]?).bind (·.dst)with
       | none=>rfl
       | some e =>
        have he:e∈o.looksAt ops:=by simp[Oper.looksAt,hg,hj]
        have hs:tmps.getD e undef=t1.getD e undef:=h1.pd.same e fun a bk oa hb hoa hed=>(hap' a bk oa e hb hoa hed).1 he
        have hz:t1.size=tmps.size:=h1.pd.size
        by_cases hl:e < tmps.size
        ·have e1:tmps[e]?=some (tmps.getD e undef):=by simp[Array.getD,hl]
         have e2:t1[e]?=some (t1.getD e undef):=by simp[Array.getD,hz,hl]
         simp only[Option.bind_some,e1,e2,hs]
        ·have e1:tmps[e]?=none:=Array.getElem?_eq_none (Nat.le_of_not_lt hl);have e2:t1[e]?=none:=Array.getElem?_eq_none (by rw[hz]; exact Nat.le_of_not_lt hl);simp only[Option.bind_some,e1,e2]
      simp only[this]
    have hdn:∀ v a bk oa,B1 a=some bk->ops[a]?=some oa->(∀ e,oa.dst=some e->o.dst≠some e)/\∀ x∈oa.op.operands,ev (put ts1 o.dst v) x=ev ts1 x:=fun v a bk oa hb hoa=>by
     obtain⟨hAa,hla⟩:=h1.ba a bk hb;refine⟨fun e he=>(hap' a bk oa e hb hoa he).2,ev_put_looks (ops:=ops) fun d hd=>?_⟩
     rcases hS.dep i o hAi ho a hAa oa hoa with ⟨e,he,hbd,rfl⟩ | hdd
     ·have has:a < ops.size:=(Array.getElem?_eq_some_iff.1 hoa).1;have:=hcl a oa hoa (by rw[gd (by rw[h.s0]; exact has)]; exact hla) e he hbd;rw[gd (by rw[h.s0]; exact his)]at this;rw[hiu]at this; cases this
     ·exact hdd d hd
    have next:∀(v:AV) (H':List AO) (E':En) (w':World) (r:Value),anyR P G ops' imp (fun ts H=>FW P G rd n k ts H Q) (unl ops.size (l1.setIfInBounds i true)) (l1.setIfInBounds i true) (put ts1 o.dst v) H'->RelH G w' E' H'->Grow H1 E1 w H' E' w' ->
      RepT w' E' n (put ts1 o.dst v) (cput t1 o.dst r)->FWc P G rd n Q b D cs H0 E0 w0 (lone (frm b (cput tmps o.dst r) (.inRegion ops rest::k) D) cs w'):=fun v H' E' w' r hA hR' hG' hT'=>by
     rw[<- hrest];refine ih _ (listed.setIfInBounds i true) _ w' B1 (l1.setIfInBounds i true) _ H' E' _ hf' (hcl.set hir) ⟨by simp[h.s0],by simp[h1.s1],h1.c1.set hir1,fun j hj=>?_,fun a bk hb=>?_,hA,hR',hT',(h1.pd.grow hG').put (hdn v) r,h1.hG.trans hG',h1.rr.mono hG'.mono,h1.hD.grow h1.hR hG'⟩
     ·by_cases e:j=i
      ·subst e; rw[zDn true (by rw[h1.s1]; exact hj),zDn true (by rw[h.s0]; exact hj),hBi j hAi]; rfl
      ·rw[getD_set_ne true (Ne.symm e),getD_set_ne true (Ne.symm e)]; exact h1.r1 j hj
     ·obtain⟨q1,q2⟩:=h1.ba a bk hb;refine⟨q1,?_⟩
      by_cases e:i=a
      ·subst e; rw[hAi]at q1; cases q1
      ·rw[getD_set_ne true e]; exact q2
    have hstep:=hg.2 i hir1;obtain⟨o',ho',hcase⟩:=stepR_op hstep;rw[hS.same i hAi,ho]at ho'; cases ho';rw[hS.wanted ts1 o]at hcase
    rcases hcase with ⟨hw,hdf,hop⟩ | ⟨hw,hop⟩
    ·have hwr:Region.wanted o (yielded ops tmps)=true:=by rw[hwt,wanted_eq hops h1.hT]; exact hw
     obtain⟨v,H2,E2,w2,r,hK1,hH1,hg1,hr1,hrun⟩:=hop n E1 w t1 h1.hR h1.hT hoo D (frm b tmps (.inRegion ops (i::rest)::k) D) cs;have hT1:=(h1.hT.mono hg1.mono).put hr1 o.dst;refine FWc.head ?_ (next v H2 E2 w2 r hK1 hH1 hg1 hT1);have hst:=stepG_frm_op (P:=P) (b:=b) (tmps:=tmps) (rest:=rest) (k:=k) (D:=D) (cs:=cs) (w:=w) ho hwr hdf;have hfin:=finish_frm b tmps ops i rest k D r o ho;rw[hex2]at hst
     rcases hrun with hr | ⟨hr,rfl⟩ | ⟨f,args,w3,hr,hsteps⟩ | ⟨l,f,tm,a,bb,w3,hr,hsteps⟩
     ·refine .one (step_lone_go ?_);rw[hst,<- hfin]; simp[stepG.apply,hr]
     ·refine .one (step_lone_go ?_);rw[hst,<- hfin]; simp[stepG.apply,hr]
     ·refine .head (step_lone_go ?_) (hfin ▸ hsteps);rw[hst]; simp[stepG.apply,hr,frm]
     ·refine .head (step_lone_go ?_) (hfin ▸ hsteps);rw[hst]; simp[stepG.apply,hr,frm]
    ·have hwr:Region.wanted o (yielded ops tmps)=false:=by rw[hwt,wanted_eq hops h1.hT]; exact hw
     have hT1:=h1.hT.put (v:=.un) (r:=undef) (.tup (by rfl) (fun i hi=>by simp at hi)) o.dst;refine FWc.head (.one (step_lone_go ?_)) (next .un H1 E1 w undef hop h1.hR (Grow.refl _ _ _) hT1);rw[<- finish_frm b tmps ops i rest k D undef o ho];simp[stepG,stepG.exec,frm,ho,hwr]
   | true =>
    obtain⟨o1,o',d,q1,q2,q3,q4,q5,q6,q7,q8,q9,q10⟩:=hS.al i hAi;rw[ho]at q1; cases q1;have hBi:B i=none:=by
     cases hx:B i with
     | none=>rfl
     | some y=>have:=(h.ba _ _ hx).2; rw[hiu]at this; cases this
    have hi1:listed1.getD i true=false:=by rw[h.r1 i his,hiu]; rfl
    obtain⟨r,H',k1,k2⟩:=hS.look hops D b cs hAi ho _ listed1 ts H E w told rfl h.s1 hi1 (fun e he hb=>by
     have p1:=(hS.ed i o ho e he hb).1;have p2:=haft e he hb;rw[gd (by rw[h.s0]; omega)]at p2;rw[h.r1 e.on (by omega),p2];cases hx:B e.on with
     | none=>rfl
     | some y=>have:=(h.ba _ _ hx).1; rw[q9 e he hb]at this; cases this) h.gm h.hR h.hT
    obtain⟨ao0,mk0,_,_,k3⟩:=aop_fresh q8 k1;have k4:=k3 (ev ts) H (fun _ _=>rfl);obtain⟨ao,mk,vs,ty,sz,q,_,_,k5,k6,k7⟩:=fresh_run (n:=n) (o:=o) (ts:=ts) q8 k4 k2 h.hR h.hT hoo D;have hfr:FrAt P G o ts d ao mk:=⟨q6,q7,q8,_,k2,fun H'=>k5 (ev ts) H' (fun _ _=>rfl)⟩;have hdn:d < tmps.size:=by
     rw[<- h.pd.size,h.hT.1];have hoo:=hoo;simp only[zBj,q6,zA,decide_eq_true_eq]at hoo;exact hoo.1
    have hsepB:∀ a bk oa,B a=some bk->ops[a]?=some oa->∀ e,oa.dst=some e->o.dst≠some e/\e ∉ o.looksAt ops:=fun a bk oa hb hoa e he=>by
     obtain⟨hAa,hla⟩:=h.ba a bk hb;exact hS.sep a i hAa hAi (fun e=>by subst e; rw[hBi]at hb; cases hb) oa o e hoa ho he
    have hopx:∀ x∈o.op.operands,Act.eval ⟨tmps,D⟩ x=Act.eval ⟨told,D⟩ x:=fun x hx=>by
     cases x with
     | tmp e =>
      exact h.pd.same e fun a bk oa hb hoa hed=>(hsepB a bk oa hb hoa e hed).2 (mem_looks hx)
     | const v=>rfl
     | global g=>rfl
     | func g=>rfl
    have hex2:execOp (Act.eval ⟨tmps,D⟩) o=execOp (Act.eval ⟨told,D⟩) o:=execOp_congr o (fun cs b e=>by rw[e]at q8; cases q8) hopx;have hwr:Region.wanted o (yielded ops tmps)=true:=by simp[Region.wanted,q7]
    have hdf:isDefer o.op=false:=aop_defer k4;have hst:=stepG_frm_op (P:=P) (b:=b) (tmps:=tmps) (rest:=rest) (k:=k) (D:=D) (cs:=cs) (w:=w) ho hwr hdf;have hfin:=finish_frm b tmps ops i rest k D q o ho;have hal:=zEg h.hR (Obj.cells vs ty (0,0));have hp':=h.pd.more h.hR h.hG.size ho hfr hBi hdn k7 (fun a' b' oa' hb' hoa' e=>(hsepB a' b' oa' hb' hoa' d e).1 q6);refine FWc.head (.one (step_lone_go ?_)) (s':=lone (frm b (cput tmps (some d) q) (.inRegion ops rest::k) D) cs (w.alloc (.cells vs ty))) ?_
    ·rw[q6]at hfin;rw[hst,hex2,<- hfin]; simp[stepG.apply,k6]
    ·rw[<- hrest];refine ih _ (listed.setIfInBounds i true) _ (w.alloc (.cells vs ty)) _ listed1 ts H E told hf' (hcl.set hir) ⟨by simp[h.s0],h.s1,h.c1,fun j hj=>?_,fun a bk hb=>?_,h.gm,hal.1,h.hT.mono hal.2.mono,hp',h.hG.trans hal.2,h.rr.mono hal.2.mono,h.hD.grow h.hR hal.2⟩
     ·by_cases e:j=i
      ·subst e; rw[hi1]; simp
      ·rw[getD_set_ne true (Ne.symm e)]; simp only[if_neg e]; exact h.r1 j hj
     ·by_cases e:a=i
      ·subst e; exact⟨hAi,zDn true (by rw[h.s0]; exact his)⟩
      ·simp only[if_neg e]at hb;rw[getD_set_ne true (Ne.symm e)]; exact h.ba a bk hb
theorem FW.delay(hm:P.follows .mixedOrders=true)(hS:DelayOk ops ops' A){id:Nat}{ts:Nat->AV}{H:List AO}
  (h:anyR P G ops' imp (fun ts H=>FW P G rd n k ts H Q) ops.size (Array.replicate ops.size false) ts H):FW P G rd n (.code (.region id ops true)::k) ts H Q:=by
 intro hk E w tmps hH hT b D cs hrd
 have hD:MarksOk w D:=trivial;have hk':=hk;rw[zAm,zA]at hk';have hops:ops.all (zBj n)=true:=by simpa[zEn,zCc]using hk'.1
 have hH1:=zFk hH (w':={ w with drawn:=w.drawn+1 }) rfl;have hG:Grow H E w H E { w with drawn:=w.drawn+1 }:=⟨hH1.2,Nat.le_refl _,fun _ _ _=>rfl,fun _ h=>.inl h,fun _ h=>.inl h,rfl,rfl,⟨rfl,by first | exact Nat.le_refl _ | exact Nat.le_add_right _ _⟩⟩;have hcl0:∀(o:Array Oper) (m:Nat),Closed o (Array.replicate m false):=fun o m j oj ho hl=>by
  exfalso
  rcases Nat.lt_or_ge j m with h1 | h1 <;> simp[Array.getD,h1]at hl
 have hun:unl ops.size (Array.replicate ops.size false)=ops.size:=by
  unfold unl;rw[List.filter_eq_self.2,List.length_range]
  intro i hi
  rw[List.mem_range]at hi;simp[Array.getD,hi]
 have:=StD.run (rd:=rd) (n:=n) (k:=k) (Q:=Q) (imp:=imp) (b:=b) (H0:=H) (E0:=E) (w0:=w) (D:=D) (cs:=cs) hS hops hk'.2 ops.size (w.tape w.drawn (.order b.fn id)) (Array.replicate ops.size false) tmps { w with drawn:=w.drawn+1 } (fun _=>none) (Array.replicate ops.size false) ts H E tmps hun.symm (hcl0 _ _)
  ⟨by simp,by simp,hcl0 _ _,fun j hj=>by simp[Array.getD,hj],fun a bk h=>(by cases h),by rw[hun]; exact h,hH1.1,hT.mono hH1.2,⟨fun a bk h=>(by cases h),fun a a' bk h=>(by cases h),rfl,fun i _=>rfl⟩,hG,hrd,hD⟩
 obtain⟨L,ts',H',E',w',tmps',D',todo',q1,h2,h3,h4,h6,h7,h8⟩:=this;refine⟨L,ts',H',E',w',tmps',D',todo',q1,h2,h3,h4,h6,h7,h8.pre P (.one (step_lone_go ?_))⟩;simp[stepG,stepG.exec,frm,Region.schedule,Region.linearise,hm,choose,Sem.run,Question.forced,Question.cut]
end
section
variable {P:Program} {G:Gl} {ops:Array Oper}
def dlO(ex:List Nat)(o:Oper):Oper:=⟨o.dst,o.op,o.type,o.pos,(o.after.toList++ex.map fun e=>(Edge.mk e .data)).toArray,o.guard⟩
def dlGo(A:Nat->Bool)(ex:Nat->List Nat):List Oper->Nat->List Oper
 | [],_=>[]
 | o::l,i=>(match A i with | true=>dlO (ex i) o | false=>o)::dlGo A ex l (Nat.succ i)
def dl(A:Nat->Bool)(ex:Nat->List Nat)(ops:Array Oper):Array Oper:=(dlGo A ex ops.toList 0).toArray
theorem dlGo_get{A:Nat->Bool}{ex:Nat->List Nat}:∀(l:List Oper) (i j:Nat),(dlGo A ex l i)[j]?=(l[j]?).map fun o=>match A (i+j)with | true=>dlO (ex (i+j)) o | false=>o
 | [],i,j=>by simp[dlGo]
 | o::l,i,0=>by simp[dlGo]
 | o::l,i,j+1=>by
  simp only[dlGo,List.getElem?_cons_succ];rw[dlGo_get l (Nat.succ i) j,show i.succ+j=i+(j+1) by omega]
theorem dlGo_length{A:Nat->Bool}{ex:Nat->List Nat}:∀(l:List Oper) (i:Nat),(dlGo A ex l i).length=l.length
 | [],i=>rfl
 | o::l,i=>by simp[dlGo,dlGo_length l]
theorem zFh{A:Nat->Bool}{ex:Nat->List Nat}(j:Nat):(dl A ex ops)[j]?=(ops[j]?).map fun o=>match A j with | true=>dlO (ex j) o | false=>o:=by
 unfold dl;rw[List.getElem?_toArray,dlGo_get];simp
def frB(o:Oper):Bool:=match clOf o.op with
 | .alloc=>match o.guard with
  | none=>match o.dst with
   | some _=>true
   | none=>false
  | some _=>false
 | _=>false
theorem frB_inv{o:Oper}(h:frB o=true):∃ d,o.dst=some d/\o.guard=none/\clOf o.op=.alloc:=by
 unfold frB at h
 split at h
 ·rename_i hc
  split at h
  ·rename_i hg
   split at h
   ·rename_i d hd; exact⟨d,hd,hg,hc⟩
   ·cases h
  ·cases h
 ·cases h
def notIn(ops:Array Oper)(o:Oper)(d:Nat):Bool:=(o.looksAt ops).all (fun e=>!(Nat.beq e d))
theorem notIn_spec{o:Oper}{d:Nat}(h:notIn ops o d=true):d ∉ o.looksAt ops:=fun hm=>by
 unfold notIn at h;simp only[List.all_eq_true,Array.all_eq_true']at h;have:=h d hm;simp at this
def dSep(ops:Array Oper)(oa o':Oper):Bool:=match oa.dst with
 | some d=>noD ops o' d
 | none=>true
def dDep(ops:Array Oper)(i:Nat)(o oa:Oper):Bool:=oa.after.any (fun e=>Region.binds .any e&&Nat.beq e.on i)||(match o.dst with | some d=>notIn ops oa d | none=>true)
def dA(ops:Array Oper)(A:Nat->Bool)(ex:List Nat)(i:Nat)(o:Oper):Bool :=
 frB o&&o.after.all (fun e=>!Region.binds .any e||!A e.on)&&ex.all (fun e=>Nat.blt e ops.size&&(!A e||Nat.blt e i)) &&
  (List.range ops.size).all fun a=>Nat.beq a i||!A a||(match ops[a]? with | some oa=>dSep ops o oa | none=>true)
def dH(ops:Array Oper)(A:Nat->Bool)(ex:Nat->List Nat)(i:Nat)(o:Oper):Bool :=
 !isSelect o.op&&Nat.blt ((masks [] ops.toList).getD i 0) (2^i)&&(List.range ops.size).all fun a=>!A a||(match ops[a]? with
  | some oa=>dDep ops i o oa&&(match wt ops i a with
   | true=>oa.after.all (fun e=>!Region.binds .any e||wt ops i e.on)&&(ex a).all (fun e=>wt ops i e)
   | false=>dSep ops oa o)
  | none=>true)
def dOne(ops:Array Oper)(A:Nat->Bool)(ex:Nat->List Nat)(i:Nat)(o:Oper):Bool :=
 o.after.all (fun e=>!Region.binds .any e||(Nat.blt e.on i&&(!A e.on||wt ops i e.on)))&&(match A i with
  | true=>dA ops A (ex i) i o
  | false=>dH ops A ex i o)
def delayB(ops:Array Oper)(A:Nat->Bool)(ex:Nat->List Nat):Bool:=(List.range ops.size).all fun i=>match ops[i]? with
 | some o=>dOne ops A ex i o
 | none=>true
theorem delayB_ok{A:Nat->Bool}{ex:Nat->List Nat}(hA:∀ a,A a=true->a < ops.size)(h:delayB ops A ex=true):DelayOk ops (dl A ex ops) A:=by
 have key:∀ i o,ops[i]?=some o->dOne ops A ex i o=true:=fun i o ho=>by
  have:=(List.all_eq_true.1 h) i (List.mem_range.2 (Array.getElem?_eq_some_iff.1 ho).1)
  rwa [ho]at this
 have ked:∀ i o,ops[i]?=some o->∀ e∈o.after,Region.binds .any e=true->e.on < i/\(A e.on=true->wt ops i e.on=true):=fun i o ho e he hb=>by
  have:=key i o ho;unfold dOne at this;rw[zA]at this;have:=(Array.all_eq_true'.1 this.1) e he;simp only[hb,Bool.not_true,Bool.false_or,zA,Bool.or_eq_true,Bool.not_eq_true']at this;refine⟨by simpa using this.1,fun hA=>?_⟩
  rcases this.2 with h | h
  ·rw[hA]at h; cases h
  ·exact h
 have kA:∀ a,A a=true->∃ o,ops[a]?=some o/\dA ops A (ex a) a o=true:=fun a ha=>by
  have hl:=hA a ha;refine⟨ops[a],by simp[hl],?_⟩;have:=key a ops[a] (by simp[hl]);unfold dOne at this;rw[ha,zA]at this;exact this.2
 have kH:∀ i o,A i=false->ops[i]?=some o->dH ops A ex i o=true:=fun i o hi ho=>by
  have:=key i o ho;unfold dOne at this;rw[hi,zA]at this;exact this.2
 have kH2:∀ i o a oa,A i=false->ops[i]?=some o->A a=true->ops[a]?=some oa->dDep ops i o oa=true/\(wt ops i a=true->(∀ e∈oa.after,Region.binds .any e=true->wt ops i e.on=true)/\∀ e∈ex a,wt ops i e=true)/\(wt ops i a=false->dSep ops oa o=true):=fun i o a oa hi ho ha hoa=>by
  have:=kH i o hi ho;unfold dH at this;simp only[zA,List.all_eq_true,List.mem_range]at this;have:=this.2 a (hA a ha);simp only[ha,hoa,Bool.not_true,Bool.false_or,zA]at this;refine⟨this.1,fun hw=>?_,fun hw=>?_⟩
  ·have h2:=this.2;rw[hw]at h2;simp only[zA,List.all_eq_true,Array.all_eq_true']at h2;exact⟨fun e he hb=>by simpa[hb]using h2.1 e he,h2.2⟩
  ·have h2:=this.2;rw[hw]at h2;exact h2
 have afters:∀ a o (e:Edge),ops[a]?=some o->e∈(dlO (ex a) o).after->e∈o.after\/e.on∈ex a:=fun a o e ho he=>by
  simp only[dlO,List.mem_toArray,List.mem_append,List.mem_map]at he
  rcases he with he | ⟨x,hx,rfl⟩
  ·exact .inl (by simpa using he)
  ·exact .inr hx
 have sepOf:∀ oa o' d,dSep ops oa o'=true->oa.dst=some d->d ∉ o'.looksAt ops/\o'.dst≠some d:=fun oa o' d hs hd=>by
  unfold dSep at hs;rw[hd]at hs;exact noD_spec hs
 refine⟨by unfold dl; rw[List.size_toArray,dlGo_length]; simp,fun i hi=>?_,fun a ha=>?_,ked,fun i a o' hi ha hw ho' e he hb=>?_,fun i e hi hs hw=>?_,fun i o hi ho=>?_,fun i o hi ho a ha oa hoa=>?_,fun a a' ha ha' hne o o' d ho ho' hd=>?_⟩
 ·rw[zFh,hi]; simp
 ·obtain⟨o,ho,hd⟩:=kA a ha;unfold dA at hd;simp only[zA]at hd;obtain⟨⟨⟨h1,h2⟩,h3⟩,h4⟩:=hd;obtain⟨d,q1,q2,q3⟩:=frB_inv h1;refine⟨o,dlO (ex a) o,d,ho,by rw[zFh,ho,ha]; rfl,rfl,rfl,q2,q1,q2,q3,fun e he hb=>?_,fun e he hb=>?_⟩
  ·have:=(Array.all_eq_true'.1 h2) e he;simpa[hb]using this
  ·rcases afters a o e ho he with he | he
   ·have p1:=ked a o ho e he hb;have p2:=(Array.all_eq_true'.1 h2) e he;refine⟨by have:=hA a ha; omega,fun hAe=>?_⟩;rw[hAe,hb]at p2; cases p2
   ·have:=(List.all_eq_true.1 h3) e.on he;simp only[zA,Bool.or_eq_true,Bool.not_eq_true']at this;refine⟨by simpa using this.1,fun hAe=>?_⟩
    rcases this.2 with h | h
    ·rw[hAe]at h; cases h
    ·simpa using h
 ·obtain⟨oa,hoa,_⟩:=kA a ha;obtain⟨o,ho⟩:∃ o,ops[i]?=some o:=by
   by_cases hs:i < ops.size
   ·exact⟨ops[i],by simp[hs]⟩
   ·exfalso
    have:(masks [] ops.toList).getD i 0=0:=by
     have:=masks_length ops.toList [];simp[List.getD,List.getElem?_eq_none (show(masks [] ops.toList).length<=i by rw[this]; simp; omega)]
    unfold wt at hw;rw[this]at hw; simp at hw
  rw[zFh,hoa,ha]at ho';simp only[Option.map_some,Option.some.injEq]at ho';subst ho';obtain⟨_,h2,_⟩:=kH2 i o a oa hi ho ha hoa;obtain⟨h3,h4⟩:=h2 hw
  rcases afters a oa e hoa he with he | he
  ·exact h3 e he hb
  ·exact h4 _ he
 ·have:=kH i ops[i] hi (by simp[hs]);unfold dH at this;simp only[zA]at this;have h2:=this.1.2;rw[show Nat.blt ((masks [] ops.toList).getD i 0) (2^i)=decide ((masks [] ops.toList).getD i 0 < 2^i) by
   rw[Bool.eq_iff_iff]; simp,decide_eq_true_eq]at h2
  by_cases he:e < i
  ·exact he
  ·exfalso
   have:=Nat.testBit_lt_two_pow (Nat.lt_of_lt_of_le h2 (Nat.pow_le_pow_right (by omega) (Nat.le_of_not_lt he)));unfold wt at hw;rw[this]at hw; cases hw
 ·have:=kH i o hi ho;unfold dH at this;simp only[zA,Bool.not_eq_true']at this;refine⟨this.1.1,fun a ha oa d hoa hd=>?_⟩;obtain⟨_,_,h3⟩:=kH2 i o a oa hi ho ha hoa;cases hw:wt ops i a with
  | true=>exact .inl rfl
  | false=>exact .inr (sepOf oa o d (h3 hw) hd)
 ·obtain⟨h1,_⟩:=kH2 i o a oa hi ho ha hoa;unfold dDep at h1;rw[Bool.or_eq_true]at h1
  rcases h1 with h1 | h1
  ·simp only[Array.any_eq_true',zA]at h1;obtain⟨e,he,hb,hn⟩:=h1;exact .inl ⟨e,he,hb,by simpa using hn⟩
  ·refine .inr fun d hd=>?_
   rw[hd]at h1;exact notIn_spec h1
 ·obtain⟨o1,ho1,h1⟩:=kA a ha;rw[ho]at ho1; cases ho1;unfold dA at h1;simp only[zA,List.all_eq_true,List.mem_range,Bool.or_eq_true,Bool.not_eq_true']at h1;have:=h1.2 a' (hA a' ha');rw[ho']at this
  rcases this with (h | h) | h
  ·simp at h; exact absurd h.symm hne
  ·rw[ha']at h; cases h
  ·obtain⟨p1,p2⟩:=sepOf o o' d h hd;exact⟨p2,p1⟩
theorem FW.drawD(hm:P.follows .mixedOrders=true){imp:Nat->Bool}{A:Nat->Bool}{ex:Nat->List Nat}(hA:∀ a,A a=true->a < ops.size)(hD:delayB ops A ex=true){l:List (Nat × Bool)}(hB:ordGB (dl A ex ops) imp l=true){rd:Option Nat}{n id:Nat}{k:List Item}{Q:Lv->(Nat->AV)->List AO->Prop}{ts:Nat->AV}{H:List AO}
  (h:runG P G (dl A ex ops) (wt (dl A ex ops)) imp (fun _ ts H=>FW P G rd n k ts H Q) l (fun _ _=>True) ts H):FW P G rd n (.code (.region id ops true)::k) ts H Q:=by
 have hS:=delayB_ok hA hD;simp only[ordGB,zA,beq_iff_eq]at hB;refine FW.delay hm hS (imp:=imp) ?_;rw[<- hS.sz,<- hB.1];refine anyG_any _ (ordG_sound l _ _ ts H (fun j o ho hl=>?_) (by rw[hB.1]; exact hB.2) h)
 exfalso
 rcases Nat.lt_or_ge j l.length with h1 | h1 <;> simp[Array.getD,h1]at hl
end
end Go.Ab
