/- A text of this claim. -/
import Derived.Test.YtplmblgihfogjaaGreatDoorEv8
import Derived.Orders
set_option maxHeartbeats 40000000
set_option maxRecDepth 400000
set_option linter.all false
namespace Go.Ab
def PurV(P:Program)(G:Gl)(callee:AV)(args:List AV)(v:AV):Prop:=∀(H:List AO) (K:AV->List AO->Prop),K v H->ACV P G callee args H K
theorem Pur.toV{P:Program}{G:Gl}{f:FuncId}{first args caps:List AV}{v:AV}(h:Pur P G f (first++(args++caps)) v):PurV P G (.fn f first caps) args v:=fun H K hK=>h H K hK
inductive Cl where
 | scal | addr | read | alloc | store | call | any
 deriving DecidableEq
def clOf:Op->Cl
 | .move _ | .assign _ | .pick .. | .nilCheck _ | .binOp .. | .unOp .. | .convert .. | .makeInterface .. | .makeFunc .. | .fieldAddr .. | .index .. | .field .. | .extract .. | .build ..=>.scal
 | .indexAddr .. | .slice ..=>.addr
 | .load .. | .lookup ..=>.read
 | .alloc _ | .box .. | .buildSlice .. | .makeSlice ..=>.alloc
 | .store ..=>.store
 | .call { callee:=.builtin .len,.. }=>.scal
 | .call { callee:=.value _,.. }=>.call
 | _=>.any
section
variable {P:Program} {G:Gl}
theorem aop3_congr{op:Op}{ρ ρ':Operand->AV}{H:List AO}(h:∀ x∈op.operands,ρ x=ρ' x):aop3 P op ρ H=aop3 P op ρ' H:=by
 unfold aop3
 split
 ·rename_i args tys;have ha:∀ x,x∈args.toList->ρ x=ρ' x:=fun x hx=>h x (by simp[Op.operands,Call.operands]; exact Array.mem_toList_iff.1 hx)
  split
  ·rename_i a b hab;rw[ha a (by rw[hab]; simp),ha b (by rw[hab]; simp)]
  ·rfl
 ·rename_i args tys;have ha:∀ x,x∈args.toList->ρ x=ρ' x:=fun x hx=>h x (by simp[Op.operands,Call.operands]; exact Array.mem_toList_iff.1 hx)
  split
  ·rename_i a b hab;rw[ha a (by rw[hab]; simp),ha b (by rw[hab]; simp)]
  ·rfl
 ·rename_i args tys;have ha:∀(i:Nat) x,args[i]?=some x->ρ x=ρ' x:=fun i x hx=>h x (by simp[Op.operands,Call.operands,Array.mem_of_getElem? hx])
  cases h0:args[0]? <;> cases tys[0]? <;> first
   | rfl
   | (simp only[]; rw[ha 0 _ h0])
 ·rename_i args tys;have ha:∀(i:Nat) x,args[i]?=some x->ρ x=ρ' x:=fun i x hx=>h x (by simp[Op.operands,Call.operands,Array.mem_of_getElem? hx])
  cases h0:args[0]? <;> cases h1:args[1]? <;> cases tys[0]? <;> first
   | rfl
   | (simp only[]; rw[ha 0 _ h0,ha 1 _ h1])
 ·rename_i t m k x;rw[h m (by simp[Op.operands]),h k (by simp[Op.operands]),h x (by simp[Op.operands])]
 ·rename_i t m k;rw[h m (by simp[Op.operands]),h k (by simp[Op.operands])]
 ·rename_i t m s x;rw[h m (by simp[Op.operands]),h s (by simp[Op.operands]),h x (by simp[Op.operands])]
 ·rename_i x xt t cm;rw[h x (by simp[Op.operands])]
 ·rfl
theorem aop3_any{op:Op}{ρ:Operand->AV}{H:List AO}{r:AR}(h:aop3 P op ρ H=some r):clOf op=.any:=by
 unfold aop3 at h
 split at h <;> first
  | rfl
  | (cases h; done)
theorem aop2_congr{op:Op}{ρ ρ':Operand->AV}{H:List AO}(h:∀ x∈op.operands,ρ x=ρ' x):aop2 P op ρ H=aop2 P op ρ' H:=by
 unfold aop2
 split
 ·rename_i args tys;have ha:∀(i:Nat) x,args[i]?=some x->ρ x=ρ' x:=fun i x hx=>h x (by simp[Op.operands,Call.operands,Array.mem_of_getElem? hx])
  cases h0:args[0]? <;> cases h1:args[1]? <;> cases tys[0]? <;> cases tys[1]? <;> first
   | rfl
   | (simp only[]; rw[ha 0 _ h0,ha 1 _ h1])
 ·rename_i args tys;have ha:∀(i:Nat) x,args[i]?=some x->ρ x=ρ' x:=fun i x hx=>h x (by simp[Op.operands,Call.operands,Array.mem_of_getElem? hx])
  cases h0:args[0]? <;> cases tys[0]? <;> first
   | rfl
   | (simp only[]; rw[ha 0 _ h0])
 ·rfl
 ·rename_i t m k x;rw[h m (by simp[Op.operands]),h k (by simp[Op.operands]),h x (by simp[Op.operands])]
 ·rename_i t x;rw[h x (by simp[Op.operands])]
 ·rename_i x;rw[h x (by simp[Op.operands])]
 ·rename_i t m k cm;rw[h m (by simp[Op.operands]),h k (by simp[Op.operands])]
 ·exact aop3_congr h
theorem aop2_any{op:Op}{ρ:Operand->AV}{H:List AO}{r:AR}(h:aop2 P op ρ H=some r):clOf op=.any\/clOf op=.read:=by
 unfold aop2 at h
 split at h <;> first
  | exact .inl rfl
  | exact .inr rfl
  | (cases h; done)
  | exact .inl (aop3_any h)
theorem zFn{op:Op}{ρ ρ':Operand->AV}{H:List AO}(h:∀ x∈op.operands,ρ x=ρ' x):aop P G op ρ H=aop P G op ρ' H:=by
 have pairs:∀ ps:Array (Nat × Operand),(∀ x∈ps.map (·.2),ρ x=ρ' x)->(ps.toList.map fun p=>(p.1,ρ p.2))=(ps.toList.map fun p=>(p.1,ρ' p.2)):=fun ps hp =>
  List.map_congr_left fun p hm=>by
   obtain⟨i,x⟩:=p;simp only[hp x (Array.mem_map.2 ⟨(i,x),by simpa using hm,rfl⟩)]
 have lists:∀ xs:Array Operand,(∀ x∈xs,ρ x=ρ' x)->xs.toList.map ρ=xs.toList.map ρ':=fun xs hx=>List.map_congr_left fun x hm=>hx x (by simpa using hm)
 cases op <;> simp only[Op.operands]at h <;> simp only[aop]
 case build t ps=>rw[pairs ps fun x hx=>h x (by simpa using hx)]
 case buildSlice t n ps=>rw[pairs ps fun x hx=>h x (by simpa using hx)]
 case makeFunc fn first captured =>
  cases fn <;> first
   | rfl
   | (simp only[]
      rw[lists first fun x hx=>h x (by simp[hx]),lists captured fun x hx=>h x (by simp[hx])])
 case unOp u t x=>cases u <;> first | rfl | (simp_all; done)
 case slice t x lo hi mx=>cases lo <;> cases hi <;> cases mx <;> simp_all
 case call c =>
  obtain⟨callee,args,tys⟩:=c;cases callee with
  | builtin b =>
   cases b <;> first
    | rfl
    | exact aop2_congr (op:=.call { callee:=.builtin _,args:=args,argTypes:=tys }) h
    | (simp only[]
       cases h1:args[0]? with
       | none=>cases tys[0]? <;> rfl
       | some x =>
        have:=h x (by simp[Call.operands,Array.mem_of_getElem? h1]);cases tys[0]? <;> simp[this])
  | value f=>rfl
  | invoke r m=>rfl
 all_goals (first | rfl | (simp_all; done) | (refine aop2_congr ?_; simpa[Op.operands]using h))
theorem aop_scal{op:Op}(hc:clOf op=.scal){ρ:Operand->AV}{H:List AO}{r:AR}(h:aop P G op ρ H=some r):r.H=H/\∀ H',aop P G op ρ H'=some ⟨r.c,r.v,H'⟩:=by
 unfold aop at h ⊢
 split at h <;> first
  | (cases h; done)
  | (exfalso; have hx:=aop2_any h; rw[hc]at hx; rcases hx with hx | hx <;> cases hx; done)
  | (exfalso; simp only[clOf]at hc; cases hc; done)
  | (exfalso; simp[clOf]at hc; done)
  | (cases h; exact⟨rfl,fun H'=>rfl⟩)
  | (split at h <;> first
    | (cases h; done)
    | (cases h; refine⟨rfl,fun H'=>?_⟩; simp_all; done))
  | (simp only[Option.map_eq_some_iff]at h
     obtain⟨p,hp,rfl⟩:=h;refine⟨rfl,fun H'=>?_⟩;simp[hp]; done)
  | (split at h <;> first
    | (cases h; done)
    | (simp only[Option.map_eq_some_iff]at h
       obtain⟨p,hp,rfl⟩:=h;refine⟨rfl,fun H'=>?_⟩
       simp_all; done)
    | (split at h <;> first
      | (cases h; done)
      | (cases h; refine⟨rfl,fun H'=>?_⟩; simp_all; done)))
theorem clOf_call(c:Call):clOf (.call c)=.scal\/clOf (.call c)=.call\/clOf (.call c)=.any:=by
 obtain⟨callee,args,tys⟩:=c;cases callee with
 | builtin b=>cases b <;> first | exact .inl rfl | exact .inr (.inr rfl)
 | value f=>exact .inr (.inl rfl)
 | invoke r m=>exact .inr (.inr rfl)
def Ext(H H':List AO):Prop:=∃ X,H'=H++X
def Shp(H H':List AO):Prop:=∀(id sz:Nat) (es:List AV),H[id]?=some (AO.arr sz es)->∃ es':List AV,H'[id]?=some (AO.arr sz es')
theorem Ext.refl(H:List AO):Ext H H:=⟨[],by simp⟩
theorem Shp.refl(H:List AO):Shp H H:=fun id sz es h=>⟨es,h⟩
theorem Ext.trans{A B C:List AO}(h:Ext A B)(k:Ext B C):Ext A C:=by
 obtain⟨X,rfl⟩:=h; obtain⟨Y,rfl⟩:=k; exact⟨X++Y,by simp⟩
theorem Shp.trans{A B C:List AO}(h:Shp A B)(k:Shp B C):Shp A C:=fun id sz es he=>by
 obtain⟨es',h1⟩:=h id sz es he; exact k id sz es' h1
theorem Ext.get{H H':List AO}(h:Ext H H'){id:Nat}{o:AO}(ho:H[id]?=some o):H'[id]?=some o:=by
 obtain⟨X,rfl⟩:=h;rw[zL (List.getElem?_eq_some_iff.1 ho).1]; exact ho
theorem Ext.shp{H H':List AO}(h:Ext H H'):Shp H H':=fun id sz es he=>⟨es,h.get he⟩
theorem rdCells_ext{H H':List AO}(h:Ext H H'){a:AV}{m:Nat}{cs:List AV}(hr:rdCells G H a m=some cs):rdCells G H' a m=some cs:=by
 unfold rdCells at hr ⊢;cases a <;> first
  | exact hr
  | (simp only at hr ⊢
     split at hr <;> first
      | (rename_i ho; rw[h.get ho]; exact hr)
      | (cases hr; done))
theorem aop_read{op:Op}(hc:clOf op=.read){ρ:Operand->AV}{H:List AO}{r:AR}(h:aop P G op ρ H=some r):r.H=H/\∀ H',Ext H H'->aop P G op ρ H'=some ⟨r.c,r.v,H'⟩:=by
 cases op <;> first
  | (exfalso; simp only[clOf]at hc; cases hc; done)
  | (exfalso; rename_i c; rcases clOf_call c with e | e | e <;> rw[e]at hc <;> cases hc; done)
  | skip
 rotate_left
 ·rename_i t m k cm;simp only[aop,aop2]at h ⊢;unfold aLookup at h ⊢
  split at h
  ·rename_i kt et hu
   split at h
   ·rename_i hck;simp only[if_pos hck];have hz:∀ {r:AR} {et:TypeId},lkZero P et cm H=some r->r.H=H/\∀ H',Ext H H'->lkZero P et cm H'=some ⟨r.c,r.v,H'⟩:=fun {r et} h=>by
     unfold lkZero at h ⊢
     split at h
     ·cases h; exact⟨rfl,fun H' _=>rfl⟩
     ·cases h
    split at h
    ·rename_i id hm
     split at h
     ·rename_i es clock hid
      split at h
      ·rename_i i hf;cases h;refine⟨rfl,fun H' hx=>?_⟩;rw[hx.get hid];simp only[hf]
      ·rename_i hf;obtain⟨h1,h2⟩:=hz h;refine⟨h1,fun H' hx=>?_⟩;rw[hx.get hid];simp only[hf];exact h2 H' hx
      ·cases h
     ·cases h
    ·exact hz h
    ·cases h
   ·cases h
  ·cases h
 rename_i t a;simp only[aop,Option.map_eq_some_iff]at h ⊢;obtain⟨v,hv,rfl⟩:=h;refine⟨rfl,fun H' hx=>⟨v,?_,rfl⟩⟩;unfold aload at hv ⊢
 split at hv
 ·simp only[Option.map_eq_some_iff]at hv ⊢;obtain⟨cs,h1,h2⟩:=hv;exact⟨cs,rdCells_ext hx h1,h2⟩
 ·split at hv
  ·rename_i h1; rw[rdCells_ext hx h1]; exact hv
  ·cases hv
 ·cases hv
theorem aop_addr{op:Op}(hc:clOf op=.addr){ρ:Operand->AV}{H:List AO}{r:AR}(h:aop P G op ρ H=some r):r.H=H/\∀ H',Shp H H'->aop P G op ρ H'=some ⟨r.c,r.v,H'⟩:=by
 cases op <;> first
  | (exfalso; simp only[clOf]at hc; cases hc; done)
  | (exfalso; rename_i c; rcases clOf_call c with e | e | e <;> rw[e]at hc <;> cases hc; done)
  | skip
 case slice t x lo hi mx =>
  simp only[aop,Option.map_eq_some_iff]at h ⊢;obtain⟨p,hp,rfl⟩:=h;refine⟨rfl,fun H' hx=>⟨p,?_,rfl⟩⟩;unfold zCm at hp ⊢
  split at hp <;> first
   | exact hp
   | (cases hp; done)
   | skip
  ·split at hp
   ·rename_i h1 h2 h3 h4;obtain⟨es',he⟩:=hx _ _ _ h2;simp only[h1,he,h3,h4]; exact hp
   ·cases hp
  ·split at hp
   ·split at hp
    ·rename_i hq;rw[if_pos hq]; exact hp
    ·rename_i hq;rw[if_neg hq]
     split at hp
     ·rename_i ho;obtain⟨es',he⟩:=hx _ _ _ ho;simp only[he]; exact hp
     ·cases hp
   ·cases hp
 case indexAddr t x i =>
  simp only[aop]at h ⊢
  split at h
  ·simp only[Option.map_eq_some_iff]at h ⊢;obtain⟨p,hp,rfl⟩:=h;refine⟨rfl,fun H' hx=>⟨p,?_,rfl⟩⟩;unfold zAk at hp ⊢
   split at hp
   ·exact hp
   ·split at hp
    ·rename_i h1 h2
     split at hp
     ·rename_i h3;obtain⟨es',he⟩:=hx _ _ _ h3;simp only[he]; exact hp
     ·cases hp
    ·exact hp
    ·exact hp
    ·cases hp
   ·cases hp
  ·cases h
theorem aop_alloc{op:Op}(hc:clOf op=.alloc){ρ:Operand->AV}{H:List AO}{r:AR}(h:aop P G op ρ H=some r):Ext H r.H:=by
 cases op <;> first
  | (exfalso; simp only[clOf]at hc; cases hc; done)
  | (exfalso; rename_i c; rcases clOf_call c with e | e | e <;> rw[e]at hc <;> cases hc; done)
  | skip
 all_goals simp only[aop]at h
 case alloc t=>split at h <;> cases h; exact⟨_,rfl⟩
 case box t x=>split at h <;> cases h; exact⟨_,rfl⟩
 case buildSlice t n ps =>
  split at h
  ·split at h
   ·split at h
    ·simp only[Option.map_eq_some_iff]at h;obtain⟨es,_,rfl⟩:=h;exact⟨_,rfl⟩
    ·cases h
   ·cases h
  ·cases h
 case makeSlice t l c =>
  split at h
  ·split at h <;> cases h; exact⟨_,rfl⟩
  ·cases h
theorem wrCells_shp{H H':List AO}{a:AV}{cs:List AV}(h:wrCells H a cs=some H'):Shp H H':=by
 unfold wrCells at h
 intro id sz es he
 split at h <;> first | (cases h; done) | skip
 all_goals (split at h <;> first | (cases h; done) | skip)
 all_goals (split at h <;> first | (cases h; done) | skip)
 all_goals cases h
 ·rename_i id' off _ cs' hcs _
  by_cases e:id'=id
  ·subst e; rw[he]at hcs; cases hcs
  ·exact⟨es,by rw[zQ e]; exact he⟩
 ·rename_i id' i off _ sz' es' hcs _
  by_cases e:id'=id
  ·subst e; rw[he]at hcs; cases hcs;exact⟨_,by rw[zS (List.getElem?_eq_some_iff.1 he).1]⟩
  ·exact⟨es,by rw[zQ e]; exact he⟩
theorem aop_store{op:Op}(hc:clOf op=.store){ρ:Operand->AV}{H:List AO}{r:AR}(h:aop P G op ρ H=some r):Shp H r.H:=by
 cases op <;> first
  | (exfalso; simp only[clOf]at hc; cases hc; done)
  | (exfalso; rename_i c; rcases clOf_call c with e | e | e <;> rw[e]at hc <;> cases hc; done)
  | skip
 simp only[aop,Option.map_eq_some_iff]at h;obtain⟨H',h1,rfl⟩:=h;unfold astore at h1
 split at h1
 ·exact wrCells_shp h1
 ·cases h1
def quietC:Cl->Bool
 | .scal | .addr | .read=>true
 | _=>false
theorem aop_quiet{op:Op}(hc:quietC (clOf op)=true){ρ:Operand->AV}{H:List AO}{r:AR}(h:aop P G op ρ H=some r):r.H=H:=by
 cases e:clOf op <;> rw[e]at hc <;> first
  | (cases hc; done)
  | exact(aop_scal e h).1
  | exact(aop_addr e h).1
  | exact(aop_read e h).1
theorem put_comm{ts:Nat->AV}{x y:Option Nat}{v u:AV}(h:∀ d,x=some d->y≠some d):put (put ts x v) y u=put (put ts y u) x v:=by
 cases x with
 | none=>rfl
 | some d =>
  cases y with
  | none=>rfl
  | some e =>
   have hne:d≠e:=fun he=>h d rfl (he ▸ rfl)
   funext i
   simp only[put,upd]
   split <;> split <;> first | rfl | (exfalso; omega)
theorem ev_put{ts:Nat->AV}{d:Option Nat}{v:AV}{x:Operand}(h:∀ e,d=some e->x≠.tmp e):ev (put ts d v) x=ev ts x:=by
 cases d with
 | none=>rfl
 | some d =>
  cases x with
  | tmp t =>
   have hne:t≠d:=fun e=>h d rfl (e ▸ rfl)
   simp[ev,put,upd,hne]
  | _=>rfl
variable {ops:Array Oper}
theorem ev_put_op{o:Oper}{ts:Nat->AV}{d:Option Nat}{v:AV}(h:∀ e,d=some e->e ∉ o.looksAt ops):∀ x∈o.op.operands,ev (put ts d v) x=ev ts x:=fun x hx =>
 ev_put fun e he hxe=>h e he (by
  subst hxe;exact List.mem_append_left _ (List.mem_filterMap.2 ⟨.tmp e,by simpa using hx,rfl⟩))
theorem wantedA_put{o:Oper}{ts:Nat->AV}{d:Option Nat}{v:AV}(h:∀ e,d=some e->e ∉ o.looksAt ops):zAp ops (put ts d v) o=zAp ops ts o:=by
 cases d with
 | none=>rfl
 | some d =>
  unfold zAp;cases hg:o.guard with
  | none=>rfl
  | some gw =>
   obtain⟨g,want⟩:=gw;have hy:gval ops (put ts (some d) v) g=gval ops ts g:=by
    unfold gval;cases ht:(ops[g]?).bind (·.dst)with
    | none=>rfl
    | some t =>
     have hne:t≠d:=fun e=>h d rfl (by subst e; simp[Oper.looksAt,hg,ht])
     simp[put,upd,hne]
   simp only[hy]
variable (P G ops)
def zCn(imp:Nat->Bool)(i:Nat)(ts:Nat->AV)(H:List AO)(K:(Nat->AV)->List AO->Prop):Prop :=
 match ops[i]? with
 | none=>False
 | some o =>
  if zAp ops ts o=true then
   match o.op with
   | .call { callee:=.value f,args:=args,argTypes:=_ } =>
    if imp i=true then ACV P G (ev ts f) (args.toList.map (ev ts)) H fun v H'=>K (put ts o.dst v) H'
    else ∃ v,PurV P G (ev ts f) (args.toList.map (ev ts)) v/\K (put ts o.dst v) H
   | op=>∃ r,aop P G op (ev ts) H=some r/\r.c/\K (put ts o.dst r.v) r.H
  else K (put ts o.dst .un) H
def runR(imp:Nat->Bool)(K:(Nat->AV)->List AO->Prop):List Nat->(Nat->AV)->List AO->Prop
 | [],ts,H=>K ts H
 | i::l,ts,H=>zCn P G ops imp i ts H (runR imp K l)
def anyR(imp:Nat->Bool)(K:(Nat->AV)->List AO->Prop):Nat->Array Bool->(Nat->AV)->List AO->Prop
 | 0,listed,ts,H=>Region.ready .any ops listed=[]/\K ts H
 | f+1,listed,ts,H=>(Region.ready .any ops listed=[]->K ts H)/\∀ i∈Region.ready .any ops listed,zCn P G ops imp i ts H (anyR imp K f (listed.setIfInBounds i true))
variable {P G ops}
theorem AY.mono{id:Nat}{args:List AV}{H:List AO}{K K':AV->List AO->Prop}(h:AY P G id args H K)(hk:∀ v H',K v H'->K' v H'):AY P G id args H K':=by
 intro E w vargs hH hA
 obtain⟨l,h1,f,tm,a,b,h2,h3⟩:=h E w vargs hH hA;refine⟨l,h1,f,tm,a,b,h2,fun c cs=>?_⟩;obtain⟨v,H',E',w',r,g1,g2⟩:=h3 c cs;exact⟨v,H',E',w',r,hk _ _ g1,g2⟩
theorem ACV.mono{callee:AV}{args:List AV}{H:List AO}{K K':AV->List AO->Prop}(h:ACV P G callee args H K)(hk:∀ v H',K v H'->K' v H'):ACV P G callee args H K':=by
 cases callee <;> first
  | exact AC.mono h hk
  | exact AY.mono h hk
  | exact h.elim
theorem zDp{imp:Nat->Bool}{i:Nat}{ts:Nat->AV}{H:List AO}{K K':(Nat->AV)->List AO->Prop}(h:zCn P G ops imp i ts H K)(hk:∀ ts H,K ts H->K' ts H):zCn P G ops imp i ts H K':=by
 unfold zCn at *
 split at h
 ·exact h
 ·rename_i o ho;simp only[ho]at *
  split at h
  ·rename_i hw;simp only[hw,if_true]
   split at h
   ·rename_i f args tys hop
    split at h
    ·rename_i hi; simp only[hi,if_true]; exact h.mono fun v H'=>hk _ _
    ·rename_i hi; simp only[hi]; obtain⟨v,h1,h2⟩:=h; exact⟨v,h1,hk _ _ h2⟩
   ·obtain⟨r,h1,h2,h3⟩:=h;exact⟨r,h1,h2,hk _ _ h3⟩
  ·rename_i hw; rw[if_neg hw]; exact hk _ _ h
theorem step_FW{rd:Option Nat}{n:Nat}{k:List Item}{Q:Lv->(Nat->AV)->List AO->Prop}{imp:Nat->Bool}{i:Nat}{rest:List Nat}{ts:Nat->AV}{H:List AO}
  (h:zCn P G ops imp i ts H fun ts' H'=>FW P G rd n (.inRegion ops rest::k) ts' H' Q):FW P G rd n (.inRegion ops (i::rest)::k) ts H Q:=by
 unfold zCn at h
 split at h
 ·exact h.elim
 ·rename_i o ho
  split at h
  ·rename_i hw
   split at h
   ·rename_i f args tys hop;refine FW.op ho hw (by rw[hop]; rfl) (OpS.call hop ?_)
    split at h
    ·exact h
    ·obtain⟨v,h1,h2⟩:=h; exact h1 _ _ h2
   ·obtain⟨r,h1,h2,h3⟩:=h;exact FW.op ho hw (aop_defer h1) ((aop_sound h1 h2).toS h3)
  ·rename_i hw;exact FW.opSkip ho (by simpa using hw) h
theorem anyR_sound{rd:Option Nat}{n:Nat}{k:List Item}{Q:Lv->(Nat->AV)->List AO->Prop}{imp:Nat->Bool}:∀(fuel t:Nat) (listed:Array Bool) (ts:Nat->AV) (H:List AO),
  anyR P G ops imp (fun ts H=>FW P G rd n k ts H Q) fuel listed ts H->FW P G rd n (.inRegion ops (Region.linearise.go .any ops fuel t listed [])::k) ts H Q:=by
 intro fuel
 induction fuel with
 | zero=>intro t listed ts H h; simp only[Region.linearise.go,List.reverse_nil]; exact .regionEnd h.2
 | succ fuel ih =>
  intro t listed ts H h
  obtain⟨h₀,h₁⟩:=h;simp only[Region.linearise.go]
  change FW P G rd n (.inRegion ops (match (Region.ready .any ops listed)[t % (Region.ready .any ops listed).length]? with
   | some i=>Region.linearise.go .any ops fuel (t / (Region.ready .any ops listed).length) (listed.setIfInBounds i true) [i]
   | none=>[].reverse)::k) ts H Q
  cases hi:(Region.ready .any ops listed)[t % (Region.ready .any ops listed).length]? with
  | none =>
   have hnil:Region.ready .any ops listed=[]:=by
    cases hr:Region.ready .any ops listed with
    | nil=>rfl
    | cons x xs =>
     rw[hr]at hi;have hlt:t % (x::xs).length < (x::xs).length:=Nat.mod_lt _ (by simp);simp at hi;simp at hlt;omega
   simp only[List.reverse_nil]; exact .regionEnd (h₀ hnil)
  | some i =>
   simp only[];rw[linearise_go_acc,List.reverse_singleton,List.singleton_append];exact step_FW (zDp (h₁ i (List.mem_of_getElem? hi)) fun ts' H' h=>ih _ _ _ _ h)
theorem FW.draw(hm:P.follows .mixedOrders=true){rd:Option Nat}{n id:Nat}{k:List Item}{Q:Lv->(Nat->AV)->List AO->Prop}{imp:Nat->Bool}{ts:Nat->AV}{H:List AO}
  (h:anyR P G ops imp (fun ts H=>FW P G rd n k ts H Q) ops.size (Array.replicate ops.size false) ts H):FW P G rd n (.code (.region id ops true)::k) ts H Q:=by
 intro hk E w tmps hH hT b D cs hrd
 have hD:MarksOk w D:=trivial;have hk':=hk;rw[zAm,zA]at hk';have h1:=anyR_sound (rd:=rd) (n:=n) (k:=k) (Q:=Q) ops.size (w.tape w.drawn (.order b.fn id)) _ ts H h;have hH1:=zFk hH (w':={ w with drawn:=w.drawn+1 }) rfl;obtain⟨L,ts',H',E',w',tmps',D',todo',q1,h2,h3,h4,h6,h7,h8⟩:=h1 (by rw[zAm,zA]; exact⟨by simpa[zEn,zCc]using hk'.1,hk'.2⟩) E { w with drawn:=w.drawn+1 } tmps hH1.1 (hT.mono hH1.2) b D cs
  hrd
 have hG:Grow H E w H E { w with drawn:=w.drawn+1 }:=⟨hH1.2,Nat.le_refl _,fun _ _ _=>rfl,fun _ h=>.inl h,fun _ h=>.inl h,rfl,rfl,⟨rfl,by first | exact Nat.le_refl _ | exact Nat.le_add_right _ _⟩⟩;refine⟨L,ts',H',E',w',tmps',D',todo',q1,h2,hG.trans h3,h4,h6,h7,h8.pre P (.one (step_lone_go ?_))⟩;simp[stepG,stepG.exec,frm,Region.schedule,Region.linearise,hm,choose,Sem.run,Question.forced,Question.cut]
def YR(P:Program)(G:Gl)(ops:Array Oper)(imp:Nat->Bool)(C:List AO->Prop)(i:Nat)(o:Oper)(ts:Nat->AV)(v:AV):Prop :=
 (zAp ops ts o=true/\match o.op with
  | .call { callee:=.value f,args:=args,argTypes:=_ }=>imp i=false/\PurV P G (ev ts f) (args.toList.map (ev ts)) v
  | op=>∃ c:Prop,c/\∀ H,C H->aop P G op (ev ts) H=some ⟨c,v,H⟩)\/(zAp ops ts o=false/\v=.un)
theorem YR.step{imp:Nat->Bool}{C:List AO->Prop}{i:Nat}{o:Oper}{ts:Nat->AV}{v:AV}(hi:ops[i]?=some o)(hy:YR P G ops imp C i o ts v){K:(Nat->AV)->List AO->Prop}{H:List AO}(hC:C H)
  (h:K (put ts o.dst v) H):zCn P G ops imp i ts H K:=by
 unfold zCn;simp only[hi]
 rcases hy with ⟨hw,hv⟩ | ⟨hw,rfl⟩
 ·simp only[hw,if_true]
  split at hv
  ·rename_i hop;obtain⟨h1,h2⟩:=hv;simp only[h1];exact⟨v,h2,h⟩
  ·obtain⟨c,h1,h2⟩:=hv;exact⟨_,h2 _ hC,h1,h⟩
 ·rw[if_neg (by simp[hw])]; exact h
theorem YR.put{imp:Nat->Bool}{C:List AO->Prop}{i:Nat}{o:Oper}{ts:Nat->AV}{v:AV}(hy:YR P G ops imp C i o ts v){d:Option Nat}(u:AV)(h:∀ e,d=some e->e ∉ o.looksAt ops) :
  YR P G ops imp C i o (put ts d u) v:=by
 unfold YR at *;rw[wantedA_put h];have he:=ev_put_op (ts:=ts) (v:=u) h;refine hy.imp (fun⟨hw,hv⟩=>⟨hw,?_⟩) id
 split at hv
 ·rename_i f args tys hop;rw[hop]at he;have e1:ev (Go.Ab.put ts d u) f=ev ts f:=he f (by simp[Op.operands,Call.operands]);have e2:args.toList.map (ev (Go.Ab.put ts d u))=args.toList.map (ev ts):=List.map_congr_left fun x hx=>he x (by simp only[Op.operands,Call.operands]; simp at hx ⊢; exact .inr hx)
  simp only[e1,e2]; exact hv
 ·obtain⟨c,h1,h2⟩:=hv;exact⟨c,h1,fun H hC=>by rw[zFn he]; exact h2 H hC⟩
def Keeps(P:Program)(G:Gl)(imp:Nat->Bool)(C:List AO->Prop)(j:Nat)(o:Oper):Prop :=
 ((∃ f args tys,o.op=.call { callee:=.value f,args:=args,argTypes:=tys })->imp j=true->∀ H,C H) /\
 ∀(ρ:Operand->AV) (H:List AO) (r:AR),aop P G o.op ρ H=some r->C H->C r.H
theorem stepR_put{imp:Nat->Bool}{C:List AO->Prop}{i j:Nat}{oi oj:Oper}{ts:Nat->AV}{v:AV}{H:List AO}{K:(Nat->AV)->List AO->Prop}(hj:ops[j]?=some oj)(hap:oi.apart ops oj=true)
  (hk:Keeps P G imp C j oj) (hC:C H) (hy:YR P G ops imp C i oi ts v) (h:zCn P G ops imp j (put ts oi.dst v) H K) :
  zCn P G ops imp j ts H fun ts' H'=>(YR P G ops imp C i oi ts' v/\C H')/\K (put ts' oi.dst v) H':=by
 obtain⟨h1,h2,h3⟩:=Oper.apart_spec hap;unfold zCn at *;simp only[hj]at *;rw[wantedA_put h1]at h;have he:=ev_put_op (ts:=ts) (v:=v) h1
 split
 ·rename_i hw;simp only[hw,if_true]at h
  split
  ·rename_i f args tys hop;rw[hop]at he;have e1:ev (put ts oi.dst v) f=ev ts f:=he f (by simp[Op.operands,Call.operands]);have e2:args.toList.map (ev (put ts oi.dst v))=args.toList.map (ev ts):=List.map_congr_left fun x hx=>he x (by simp only[Op.operands,Call.operands]; simp at hx ⊢; exact .inr hx)
   simp only[hop,e1,e2]at h
   split
   ·rename_i hi;rw[if_pos hi]at h;refine h.mono fun u H' hK=>⟨⟨hy.put u h3,hk.1 ⟨_,_,_,hop⟩ hi H'⟩,?_⟩
    rw[<- put_comm h2]; exact hK
   ·rename_i hi;rw[if_neg hi]at h;obtain⟨u,g1,g2⟩:=h;exact⟨u,g1,⟨hy.put u h3,hC⟩,by rw[<- put_comm h2]; exact g2⟩
  ·rename_i hop
   split at h
   ·rename_i hop'; exact absurd hop' (hop _ _ _)
   ·obtain⟨r,g1,g2,g3⟩:=h;rw[zFn he]at g1;exact⟨r,g1,g2,⟨hy.put r.v h3,hk.2 _ _ _ g1 hC⟩,by rw[<- put_comm h2]; exact g3⟩
 ·rename_i hw;rw[if_neg hw]at h;exact⟨⟨hy.put _ h3,hC⟩,by rw[<- put_comm h2]; exact h⟩
def Closed(ops:Array Oper)(listed:Array Bool):Prop:=∀(j:Nat) (o:Oper),ops[j]?=some o->listed.getD j false=true->∀ e∈o.after,Region.binds .any e=true->listed.getD e.on false=true
theorem Closed.set{listed:Array Bool}(h:Closed ops listed){i:Nat}(hi:i∈Region.ready .any ops listed):Closed ops (listed.setIfInBounds i true):=by
 intro j o ho hl e he hb
 by_cases hij:i=j
 ·subst hij;obtain⟨_,o',ho',hall⟩:=mem_ready.1 hi;rw[ho]at ho'; cases ho';exact getD_set_true (hall e he hb)
 ·rw[getD_set_ne false hij]at hl;exact getD_set_true (h j o ho hl e he hb)
theorem anyR_first{imp:Nat->Bool}{K:(Nat->AV)->List AO->Prop}{C:List AO->Prop}{W:Nat->Bool}{i:Nat}{oi:Oper}{v:AV}(hi:ops[i]?=some oi)
  (hW:∀ listed j,Closed ops listed->j∈Region.ready .any ops listed->listed.getD i true=false->W j=false) :
  ∀(fuel:Nat) (listed:Array Bool) (ts:Nat->AV) (H:List AO),
   (∀ j oj,ops[j]?=some oj->j≠i->listed.getD j true=false->W j=false->oi.apart ops oj=true/\Keeps P G imp C j oj) ->
   Closed ops listed->i∈Region.ready .any ops listed->YR P G ops imp C i oi ts v->C H ->
   anyR P G ops imp K fuel (listed.setIfInBounds i true) (put ts oi.dst v) H->anyR P G ops imp K (fuel+1) listed ts H:=by
 intro fuel
 induction fuel with
 | zero =>
  intro listed ts H _ _ hr hy hC h
  refine⟨fun h=>(by rw[h]at hr; cases hr),fun j hj=>?_⟩
  by_cases hji:j=i
  ·subst hji; exact hy.step hi hC h
  ·have:=ready_mono hj hji;rw[h.1]at this;cases this
 | succ fuel ih =>
  intro listed ts H hfree hcl hr hy hC h
  refine⟨fun h=>(by rw[h]at hr; cases hr),fun j hj=>?_⟩
  by_cases hji:j=i
  ·subst hji; exact hy.step hi hC h
  ·have h1:=h.2 j (ready_mono hj hji);obtain⟨hjun,oj,hoj,hall⟩:=mem_ready.1 hj;obtain⟨hap,hkp⟩:=hfree j oj hoj hji hjun (hW listed j hcl hj (mem_ready.1 hr).1);have h2:=stepR_put hoj hap hkp hC hy h1;have hfree':∀ k ok,ops[k]?=some ok->k≠i->(listed.setIfInBounds j true).getD k true=false->W k=false->oi.apart ops ok=true/\Keeps P G imp C k ok:=fun k ok hk hki hun hno=>by
    refine hfree k ok hk hki ?_ hno
    by_cases hjk:j=k
    ·subst hjk; exact hjun
    ·rw[getD_set_ne true hjk]at hun; exact hun
   refine zDp h2 fun ts' H' h3=>ih (listed.setIfInBounds j true) ts' H' hfree' (hcl.set hj) (ready_mono hr (Ne.symm hji)) h3.1.1 h3.1.2 ?_
   rw[Array.setIfInBounds_comm _ _ hji];exact h3.2
theorem anyR_single{imp:Nat->Bool}{K:(Nat->AV)->List AO->Prop}{i fuel:Nat}{listed:Array Bool}{ts:Nat->AV}{H:List AO}(hr:Region.ready .any ops listed=[i])
  (h:zCn P G ops imp i ts H (anyR P G ops imp K fuel (listed.setIfInBounds i true))):anyR P G ops imp K (fuel+1) listed ts H:=by
 unfold anyR;refine⟨fun e=>(by rw[hr]at e; cases e),fun j hj=>?_⟩;rw[hr,List.mem_singleton]at hj; subst hj; exact h
def mk(acc:List Nat)(o:Oper):Nat:=o.after.toList.foldl (fun s e=>if Region.binds .any e=true then s ||| (2^e.on ||| acc.getD e.on 0) else s) 0
def masks(acc:List Nat):List Oper->List Nat
 | []=>acc
 | o::l=>masks (acc++[mk acc o]) l
theorem mk_bits{acc:List Nat}{i:Nat}:∀(l:List Edge) (s:Nat),(l.foldl (fun s e=>if Region.binds .any e=true then s ||| (2^e.on ||| acc.getD e.on 0) else s) s).testBit i=true ->
  s.testBit i=true\/∃ e∈l,Region.binds .any e=true/\(i=e.on\/(acc.getD e.on 0).testBit i=true)
 | [],s,h=>.inl h
 | e::l,s,h=>by
  rcases mk_bits l _ h with h1 | ⟨e',h1,h2,h3⟩
  ·simp only[]at h1
   split at h1
   ·rename_i hb;rw[Nat.testBit_or,Nat.testBit_or,Bool.or_eq_true,Bool.or_eq_true]at h1
    rcases h1 with h1 | h1 | h1
    ·exact .inl h1
    ·rw[Nat.testBit_two_pow]at h1;exact .inr ⟨e,by simp,hb,.inl (by simpa[eq_comm]using h1)⟩
    ·exact .inr ⟨e,by simp,hb,.inr h1⟩
   ·exact .inl h1
  ·exact .inr ⟨e',by simp[h1],h2,h3⟩
def MaskOk(ops:Array Oper)(m j:Nat):Prop:=∀ listed,Closed ops listed->∀ o,ops[j]?=some o->(∀ e∈o.after,Region.binds .any e=true->listed.getD e.on false=true)->∀ i,m.testBit i=true->listed.getD i false=true
theorem mk_ok{acc:List Nat}(h:∀ j,MaskOk ops (acc.getD j 0) j)(hlen:acc.length < ops.size):MaskOk ops (mk acc (ops[acc.length]'hlen)) acc.length:=by
 intro listed hcl o ho hall i hi
 rw[Array.getElem?_eq_getElem hlen]at ho;cases ho;unfold mk at hi
 rcases mk_bits _ _ hi with h1 | ⟨e,h1,h2,h3⟩
 ·simp at h1
 ·have he:=hall e (by simpa using h1) h2
  rcases h3 with rfl | h3
  ·exact he
  ·rcases Nat.lt_or_ge e.on ops.size with hlt | hge
   ·have ho':ops[e.on]?=some ops[e.on]:=Array.getElem?_eq_getElem hlt;exact h e.on listed hcl _ ho' (hcl _ _ ho' he) i h3
   ·exfalso
    have:acc.getD e.on 0=0:=by simp[List.getD,List.getElem?_eq_none (show acc.length<=e.on by omega)]
    rw[this]at h3; simp at h3
theorem masks_ok:∀(l:List Oper) (acc:List Nat),(∀ j,MaskOk ops (acc.getD j 0) j)->ops.toList=(ops.toList.take acc.length)++l->acc.length+l.length=ops.size->∀ j,MaskOk ops ((masks acc l).getD j 0) j
 | [],acc,h,_,_=>h
 | o::l,acc,h,hl,hs=>by
  have hlt:acc.length < ops.size:=by simp at hs; omega
  have ho:ops[acc.length]=o:=by
   have:ops.toList[acc.length]?=some o:=by
    rw[hl,List.getElem?_append_right (by simp; omega)];simp[Nat.min_eq_left (Nat.le_of_lt hlt)]
   simpa[hlt]using this
  refine masks_ok l _ (fun j=>?_) ?_ (by simp at hs ⊢; omega)
  ·rcases Nat.lt_trichotomy j acc.length with hj | hj | hj
   ·rw[show(acc++[mk acc o]).getD j 0=acc.getD j 0 by simp[List.getD,zL hj]];exact h j
   ·subst hj;rw[show(acc++[mk acc o]).getD acc.length 0=mk acc o by simp[List.getD]];have:=mk_ok h hlt
    rwa [ho]at this
   ·rw[show(acc++[mk acc o]).getD j 0=0 by simp[List.getD,List.getElem?_eq_none (show(acc++[mk acc o]).length<=j by simp; omega)]]
    intro listed _ o _ _ i hi
    simp at hi
  ·have e1:ops.toList.take (acc++[mk acc o]).length=ops.toList.take acc.length++[o]:=by
    rw[List.length_append,List.length_singleton,List.take_add_one];simp[hlt,ho]
   rw[e1,List.append_assoc,List.singleton_append]; exact hl
theorem masks_wait{listed:Array Bool}{i j:Nat}(hcl:Closed ops listed)(hj:j∈Region.ready .any ops listed)(hi:listed.getD i true=false):((masks [] ops.toList).getD j 0).testBit i=false:=by
 obtain⟨_,o,ho,hall⟩:=mem_ready.1 hj;have h:=masks_ok (ops:=ops) ops.toList [] (fun j=>by intro listed _ o _ _ i hi; simp at hi) (by simp) (by simp) j listed hcl o ho hall i;cases e:((masks [] ops.toList).getD j 0).testBit i with
 | false=>rfl
 | true =>
  have h1:=h e
  rcases Nat.lt_or_ge i listed.size with h' | h'
  ·simp[h']at h1 hi; rw[hi]at h1; cases h1
  ·simp[Array.getElem?_eq_none h']at hi
def compat(a:Cl)(b:Cl)(imp:Bool):Bool :=
 match a with
 | .scal | .call=>true
 | .addr=>match b with
  | .scal | .addr | .read | .alloc | .store=>true
  | .call=>!imp
  | .any=>false
 | .read=>match b with
  | .scal | .addr | .read | .alloc=>true
  | .call=>!imp
  | _=>false
 | _=>false
def ordOk(ops:Array Oper)(imp:Nat->Bool)(ms:List Nat):List Nat->Array Bool->Bool
 | [],listed=>(Region.ready .any ops listed).isEmpty
 | i::l,listed=>(Region.ready .any ops listed).contains i &&
  ((Region.ready .any ops listed==[i])||(match ops[i]? with
   | some oi=>!(clOf oi.op==.call&&imp i)&&compat (clOf oi.op) .scal false&&(List.range ops.size).all fun j=>j==i||listed.getD j true||(ms.getD j 0).testBit i||(match ops[j]? with
    | some oj=>oi.apart ops oj&&compat (clOf oi.op) (clOf oj.op) (imp j)
    | none=>true)
   | none=>false))&&ordOk ops imp ms l (listed.setIfInBounds i true)
def ordB(ops:Array Oper)(imp:Nat->Bool)(ord:List Nat):Bool:=ord.length==ops.size&&ordOk ops imp (masks [] ops.toList) ord (Array.replicate ops.size false)
theorem keeps_ext{imp:Nat->Bool}{H0:List AO}{j:Nat}{o:Oper}(h:compat .read (clOf o.op) (imp j)=true):Keeps P G imp (Ext H0) j o:=by
 refine⟨fun⟨f,args,tys,ho⟩ hi=>?_,fun ρ H r hr hC=>?_⟩
 ·rw[ho,show clOf (.call { callee:=.value f,args:=args,argTypes:=tys })=.call from rfl]at h;simp[compat,hi]at h
 ·refine hC.trans ?_;cases e:clOf o.op <;> rw[e]at h
  ·rw[(aop_scal e hr).1]; exact .refl _
  ·rw[(aop_addr e hr).1]; exact .refl _
  ·rw[(aop_read e hr).1]; exact .refl _
  ·exact aop_alloc e hr
  ·cases h
  ·cases ho:o.op <;> rw[ho]at e hr <;> first
    | (exfalso; simp only[clOf]at e; cases e; done)
    | skip
   rename_i c;obtain⟨callee,args,tys⟩:=c;cases callee with
   | builtin b=>cases b <;> cases e
   | value f=>simp[aop,aop2,aop3]at hr
   | invoke r m=>cases e
  ·cases h
theorem keeps_shp{imp:Nat->Bool}{H0:List AO}{j:Nat}{o:Oper}(h:compat .addr (clOf o.op) (imp j)=true):Keeps P G imp (Shp H0) j o:=by
 refine⟨fun⟨f,args,tys,ho⟩ hi=>?_,fun ρ H r hr hC=>?_⟩
 ·rw[ho,show clOf (.call { callee:=.value f,args:=args,argTypes:=tys })=.call from rfl]at h;simp[compat,hi]at h
 ·refine hC.trans ?_;cases e:clOf o.op <;> rw[e]at h
  ·rw[(aop_scal e hr).1]; exact .refl _
  ·rw[(aop_addr e hr).1]; exact .refl _
  ·rw[(aop_read e hr).1]; exact .refl _
  ·exact(aop_alloc e hr).shp
  ·exact aop_store e hr
  ·cases ho:o.op <;> rw[ho]at e hr <;> first
    | (exfalso; simp only[clOf]at e; cases e; done)
    | skip
   rename_i c;obtain⟨callee,args,tys⟩:=c;cases callee with
   | builtin b=>cases b <;> cases e
   | value f=>simp[aop,aop2,aop3]at hr
   | invoke r m=>cases e
  ·cases h
def clsC(c:Cl)(H0:List AO):List AO->Prop :=
 match c with
 | .addr=>Shp H0
 | .read=>Ext H0
 | _=>fun _=>True
theorem keeps_cls{imp:Nat->Bool}{H0:List AO}{j:Nat}{o:Oper}{a:Cl}(h:compat a (clOf o.op) (imp j)=true):Keeps P G imp (clsC a H0) j o:=by
 cases a <;> first
  | exact keeps_ext h
  | exact keeps_shp h
  | exact⟨fun _ _ _=>trivial,fun _ _ _ _ _=>trivial⟩
theorem YR.of_step{imp:Nat->Bool}{i:Nat}{o:Oper}(hi:ops[i]?=some o){b:Cl}{bi:Bool}(hc:compat (clOf o.op) b bi=true)(hci:(clOf o.op==.call&&imp i)=false){ts:Nat->AV}{H:List AO}
  {K:(Nat->AV)->List AO->Prop} (h:zCn P G ops imp i ts H K):∃ v,YR P G ops imp (clsC (clOf o.op) H) i o ts v/\K (Go.Ab.put ts o.dst v) H:=by
 unfold zCn at h;simp only[hi]at h
 split at h
 ·rename_i hw
  split at h
  ·rename_i f args tys hop;have e:clOf o.op=.call:=by rw[hop]; rfl
   rw[e]at hci;have hii:imp i=false:=by simpa using hci
   rw[if_neg (by simp[hii])]at h;obtain⟨v,h1,h2⟩:=h;exact⟨v,.inl ⟨hw,by rw[hop]; exact⟨hii,h1⟩⟩,h2⟩
  ·rename_i hop;obtain⟨r,h1,h2,h3⟩:=h;have key:r.H=H/\∀ H',clsC (clOf o.op) H H'->aop P G o.op (ev ts) H'=some ⟨r.c,r.v,H'⟩:=by
    cases e:clOf o.op <;> rw[e]at hc <;> first
     | (cases hc; done)
     | exact⟨(aop_scal e h1).1,fun H' _=>(aop_scal e h1).2 H'⟩
     | exact aop_addr e h1
     | exact aop_read e h1
     | skip
    exfalso
    cases ho:o.op <;> rw[ho]at e h1 <;> first
     | (simp only[clOf]at e; cases e; done)
     | skip
    rename_i c;obtain⟨callee,args,tys⟩:=c;cases callee with
    | builtin b=>cases b <;> cases e
    | value f=>exact hop _ _ _ ho
    | invoke r m=>cases e
   refine⟨r.v,.inl ⟨hw,?_⟩,by rw[key.1]at h3; exact h3⟩
   split
   ·rename_i hop'; exact absurd hop' (hop _ _ _)
   ·exact⟨r.c,h2,key.2⟩
 ·rename_i hw;exact⟨.un,.inr ⟨by simpa using hw,rfl⟩,h⟩
theorem clsC_refl(c:Cl)(H:List AO):clsC c H H:=by
 cases c <;> first
  | exact Ext.refl H
  | exact Shp.refl H
  | trivial
theorem ordOk_sound{imp:Nat->Bool}{K:(Nat->AV)->List AO->Prop}:∀(l:List Nat) (listed:Array Bool) (ts:Nat->AV) (H:List AO),Closed ops listed->ordOk ops imp (masks [] ops.toList) l listed=true ->
  runR P G ops imp K l ts H->anyR P G ops imp K l.length listed ts H
 | [],listed,ts,H,hcl,ho,h=>⟨by simpa[ordOk]using ho,h⟩
 | i::l,listed,ts,H,hcl,ho,h=>by
  simp only[ordOk,zA,Bool.or_eq_true]at ho;obtain⟨⟨hr,hc⟩,hl⟩:=ho;have hr':i∈Region.ready .any ops listed:=by simpa using hr
  have hrc:∀ ts' H',runR P G ops imp K l ts' H'->anyR P G ops imp K l.length (listed.setIfInBounds i true) ts' H':=fun ts' H' h'=>ordOk_sound l _ ts' H' (hcl.set hr') hl h'
  have h':zCn P G ops imp i ts H (runR P G ops imp K l):=h
  rcases hc with hc | hc
  ·exact anyR_single (by simpa using hc) (zDp h' hrc)
  ·split at hc
   ·rename_i oi hi;rw[zA,zA,Bool.not_eq_true',List.all_eq_true]at hc;obtain⟨⟨hci,hcs⟩,hall⟩:=hc;obtain⟨v,hy,hK⟩:=YR.of_step hi hcs hci h';refine anyR_first (C:=clsC (clOf oi.op) H) (W:=fun j=>((masks [] ops.toList).getD j 0).testBit i) hi (fun listed j hcl hj hi=>masks_wait hcl hj hi) l.length listed ts H (fun j oj hoj hji hun hw=>?_) hcl hr' hy (clsC_refl _ _) (hrc _ _ hK);have hlt:j < ops.size:=(Array.getElem?_eq_some_iff.1 hoj).1;have:=hall j (by simpa using hlt);simp only[Bool.or_eq_true,hoj,zA,hun,hw,beq_iff_eq,hji,Bool.false_eq_true,false_or,or_false]at this;exact⟨this.1,keeps_cls this.2⟩
   ·cases hc
theorem FW.drawOrd(hm:P.follows .mixedOrders=true){imp:Nat->Bool}{ord:List Nat}(hB:ordB ops imp ord=true){rd:Option Nat}{n id:Nat}{k:List Item}{Q:Lv->(Nat->AV)->List AO->Prop}{ts:Nat->AV}{H:List AO}
  (h:runR P G ops imp (fun ts H=>FW P G rd n k ts H Q) ord ts H):FW P G rd n (.code (.region id ops true)::k) ts H Q:=by
 simp only[ordB,zA,beq_iff_eq]at hB;refine FW.draw hm (imp:=imp) ?_;rw[<- hB.1];refine ordOk_sound ord _ ts H (fun j o ho hl=>?_) (by rw[hB.1]; exact hB.2) h
 exfalso
 rcases Nat.lt_or_ge j ord.length with h1 | h1 <;> simp[Array.getD,h1]at hl
end
section
variable {P:Program} {G:Gl} {ops:Array Oper}
def len2:List (Nat × Option Nat)->Nat
 | []=>0
 | (_,none)::l=>len2 l+1
 | (_,some _)::l=>len2 l+2
variable (P G ops)
variable {P G ops}
end
section
variable {ops:Array Oper}
def zAy(m i:Nat):Bool:=match Nat.land 1 (Nat.shiftRight m i)with
 | 0=>false
 | _+1=>true
theorem masks_length(l:List Oper):∀ acc,(masks acc l).length=acc.length+l.length:=by
 induction l with
 | nil=>intro acc; rfl
 | cons o l ih=>intro acc; simp only[masks,ih,List.length_append,List.length_cons,List.length_nil]; omega
end
inductive Tr(α:Type) where
 | lf
 | nd (v:Option α) (l r:Tr α)
 | ov (t:Tr α) (i:Nat) (v:α)
inductive D8 where
 | d0 | d1 | d2 | d3 | d4 | d5 | d6 | d7
 deriving DecidableEq
def d8:Nat->D8
 | 0=>.d0 | 1=>.d1 | 2=>.d2 | 3=>.d3 | 4=>.d4 | 5=>.d5 | 6=>.d6 | _=>.d7
end Go.Ab
