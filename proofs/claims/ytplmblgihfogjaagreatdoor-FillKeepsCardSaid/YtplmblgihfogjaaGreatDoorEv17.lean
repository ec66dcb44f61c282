/- A text of this claim. -/
import Derived.Test.YtplmblgihfogjaaGreatDoorEv9
set_option maxHeartbeats 40000000
set_option maxRecDepth 400000
set_option linter.all false
namespace Go.Ab
abbrev Tab:=FuncId->List AV->Option (Prop × AV)
def TOk(P:Program)(G:Gl)(T:Tab):Prop:=∀ f args p,T f args=some p->p.1->Pur P G f args p.2
def Tab.nil:Tab:=fun _ _=>none
def Tab.ext(T:Tab)(n:Nat)(g:List AV->Option (Prop × AV)):Tab:=fun f args=>if f=n then g args else T f args
theorem TOk.nil{P:Program}{G:Gl}:TOk P G Tab.nil:=fun f args p h=>by cases h
theorem TOk.ext{P:Program}{G:Gl}{T:Tab}(h:TOk P G T){n:Nat}{g:List AV->Option (Prop × AV)}(hg:∀ args p,g args=some p->p.1->Pur P G n args p.2):TOk P G (T.ext n g):=by
 intro f args p hp hc
 unfold Tab.ext at hp
 split at hp
 ·rename_i e; subst e; exact hg args p hp hc
 ·exact h f args p hp hc
section
variable {P:Program} {G:Gl}
theorem AC.pur{f:FuncId}{args:List AV}{v:AV}(h:Pur P G f args v){H:List AO}{K:AV->List AO->Prop}(hK:K v H):AC P G f args H K:=h H K hK
def tcall(T:Tab)(callee:AV)(args:List AV):Option (Prop × AV) :=
 match callee with
 | .fn f first caps=>T f (first++(args++caps))
 | _=>none
theorem tcall_sound{T:Tab}(hT:TOk P G T){callee:AV}{args:List AV}{p:Prop × AV}(h:tcall T callee args=some p)(hc:p.1):PurV P G callee args p.2:=by
 cases callee <;> simp only[tcall]at h <;> first
  | (cases h; done)
  | exact Pur.toV (hT _ _ _ h hc)
inductive RO where
 | ok (r:AR)
 | call (f:AV) (args:List AV)
 | bad
def roK(r:RO)(k:Bool->AV->List AO->Prop)(kc:Bool->AV->List AV->Prop)(e:Prop):Prop :=
 match r with
 | .ok r=>r.c/\k true r.v r.H
 | .call f a=>kc true f a
 | .bad=>e
def opK(o:Option Oper)(k:Bool->Option Nat->Op->Option (Nat × Bool)->Prop)(e:Prop):Prop :=
 match o with
 | some o=>k true o.dst o.op o.guard
 | none=>e
def guK(o:Option (Nat × Bool))(e:Bool->Prop)(k:Bool->Nat->Bool->Prop):Prop :=
 match o with
 | some (j,want)=>k true j want
 | none=>e true
def gdK(a:AV)(k:Bool->Bool->Prop)(e:Prop):Prop :=
 match a with
 | .c (.bool b)=>k true b
 | _=>e
def gsK(a:AV)(k:Bool->Bool->Prop)(sk:Bool->Prop)(e:Prop):Prop :=
 match a with
 | .c (.bool b)=>k true b
 | .tup []=>sk true
 | _=>e
def biK(b:Bool)(x y:Bool->Prop):Prop:=if b=true then x true else y true
def exK(o:Option (List Item))(k:Bool->List Item->Prop)(e:Prop):Prop :=
 match o with
 | some o=>k true o
 | none=>e
def tmK(o:Option Nat)(k:Bool->Nat->Prop)(e:Prop):Prop :=
 match o with
 | some o=>k true o
 | none=>e
theorem roK_ok{c:Prop}{v:AV}{H:List AO}{k:Bool->AV->List AO->Prop}{kc:Bool->AV->List AV->Prop}{e:Prop}:roK (.ok ⟨c,v,H⟩) k kc e=(c/\k true v H):=(rfl)
theorem roK_call{f:AV}{a:List AV}{k:Bool->AV->List AO->Prop}{kc:Bool->AV->List AV->Prop}{e:Prop}:roK (.call f a) k kc e=kc true f a:=(rfl)
theorem roK_bad{k:Bool->AV->List AO->Prop}{kc:Bool->AV->List AV->Prop}{e:Prop}:roK .bad k kc e=e:=(rfl)
theorem opK_some{d:Option Nat}{op:Op}{t:TypeId}{p:String}{a:Array Edge}{g:Option (Nat × Bool)}{k:Bool->Option Nat->Op->Option (Nat × Bool)->Prop}{e:Prop} :
  opK (some { dst:=d,op:=op,type:=t,pos:=p,after:=a,guard:=g }) k e=k true d op g:=(rfl)
theorem guK_some{j:Nat}{b:Bool}{e:Bool->Prop}{k:Bool->Nat->Bool->Prop}:guK (some (j,b)) e k=k true j b:=(rfl)
theorem guK_none{e:Bool->Prop}{k:Bool->Nat->Bool->Prop}:guK none e k=e true:=(rfl)
theorem exK_some{o:List Item}{k:Bool->List Item->Prop}{e:Prop}:exK (some o) k e=k true o:=(rfl)
theorem exK_none{k:Bool->List Item->Prop}{e:Prop}:exK none k e=e:=(rfl)
theorem tmK_some{o:Nat}{k:Bool->Nat->Prop}{e:Prop}:tmK (some o) k e=k true o:=(rfl)
theorem gdK_true{k:Bool->Bool->Prop}{e:Prop}:gdK (.c (.bool true)) k e=k true true:=(rfl)
theorem gdK_false{k:Bool->Bool->Prop}{e:Prop}:gdK (.c (.bool false)) k e=k true false:=(rfl)
theorem gdK_dec{p:Prop}[Decidable p]{k:Bool->Bool->Prop}{e:Prop}:gdK (.c (.bool (decide p))) k e=((p->k true true)/\(¬p->k true false)):=by
 by_cases h:p <;> simp[gdK,h]
theorem gdK_not{b:Bool}{k:Bool->Bool->Prop}{e:Prop}:gdK (.c (.bool !b)) k e=gdK (.c (.bool b)) (fun g b=>k g !b) e:=(rfl)
theorem gsK_true{k:Bool->Bool->Prop}{sk:Bool->Prop}{e:Prop}:gsK (.c (.bool true)) k sk e=k true true:=(rfl)
theorem gsK_false{k:Bool->Bool->Prop}{sk:Bool->Prop}{e:Prop}:gsK (.c (.bool false)) k sk e=k true false:=(rfl)
theorem gsK_un{k:Bool->Bool->Prop}{sk:Bool->Prop}{e:Prop}:gsK .un k sk e=sk true:=(rfl)
theorem gsK_dec{p:Prop}[Decidable p]{k:Bool->Bool->Prop}{sk:Bool->Prop}{e:Prop}:gsK (.c (.bool (decide p))) k sk e=((p->k true true)/\(¬p->k true false)):=by
 by_cases h:p <;> simp[gsK,h]
theorem gsK_not{b:Bool}{k:Bool->Bool->Prop}{sk:Bool->Prop}{e:Prop}:gsK (.c (.bool !b)) k sk e=gsK (.c (.bool b)) (fun g b=>k g !b) sk e:=(rfl)
theorem biK_tt{x y:Bool->Prop}:biK (true==true) x y=x true:=(rfl)
theorem biK_ff{x y:Bool->Prop}:biK (false==false) x y=x true:=(rfl)
theorem biK_tf{x y:Bool->Prop}:biK (true==false) x y=y true:=(rfl)
theorem biK_ft{x y:Bool->Prop}:biK (false==true) x y=y true:=(rfl)
theorem biK_t{x y:Bool->Prop}:biK true x y=x true:=(rfl)
theorem biK_f{x y:Bool->Prop}:biK false x y=y true:=(rfl)
variable (P G)
def roOf(T:Tab)(op:Op)(ρ:Operand->AV)(H:List AO):RO :=
 match op with
 | .call { callee:=.value f,args:=args,argTypes:=_ }=>match tcall T (ρ f) (args.toList.map ρ)with
  | some p=>.ok ⟨p.1,p.2,H⟩
  | none=>.call (ρ f) (args.toList.map ρ)
 | op=>match aop P G op ρ H with
  | some r=>.ok r
  | none=>.bad
variable {P G}
def rog(P:Program)(G:Gl)(_:Bool)(T:Tab)(op:Op)(ρ:Operand->AV)(H:List AO):RO:=roOf P G T op ρ H
theorem rog_true{T:Tab}{op:Op}{ρ:Operand->AV}{H:List AO}:rog P G true T op ρ H=roOf P G T op ρ H:=(rfl)
def look(_:Bool)(ts:Nat->AV)(d:Nat):AV:=ts d
theorem look_true{ts:Nat->AV}{d:Nat}:look true ts d=ts d:=(rfl)
theorem ro_step{T:Tab}(hT:TOk P G T){ops:Array Oper}{i:Nat}{o:Oper}{ts:Nat->AV}{H:List AO}(ho:ops[i]?=some o)(hw:zAp ops ts o=true){K:(Nat->AV)->List AO->Prop}
  (h:roK (roOf P G T o.op (ev ts) H) (fun _ v H'=>K (put ts o.dst v) H') (fun _ f a=>∃ v,PurV P G f a v/\K (put ts o.dst v) H) False):zCn P G ops (fun _=>false) i ts H K:=by
 unfold zCn;simp only[ho];rw[if_pos hw];unfold roOf at h
 split at h
 ·rename_i f args tys hop;simp only[hop,Bool.false_eq_true,if_false]
  split at h
  ·rename_i p hp;exact⟨_,tcall_sound hT hp h.1,h.2⟩
  ·exact h
 ·rename_i hop
  split at h
  ·rename_i r hr
   split
   ·rename_i hop'; exact absurd hop' (hop _ _ _)
   ·exact⟨r,hr,h.1,h.2⟩
  ·exact h.elim
theorem ro_FW{T:Tab}(hT:TOk P G T){ops:Array Oper}{i:Nat}{rest:List Nat}{o:Oper}{ts:Nat->AV}{H:List AO}{rd:Option Nat}{n:Nat}{k:List Item}{Q:Lv->(Nat->AV)->List AO->Prop}
  (ho:ops[i]?=some o) (hw:zAp ops ts o=true)
  (h:roK (roOf P G T o.op (ev ts) H) (fun _ v H'=>FW P G rd n (.inRegion ops rest::k) (put ts o.dst v) H' Q) (fun _ f a=>ACV P G f a H fun v H'=>FW P G rd n (.inRegion ops rest::k) (put ts o.dst v) H' Q)
   (FW P G rd n (.inRegion ops (i::rest)::k) ts H Q)):FW P G rd n (.inRegion ops (i::rest)::k) ts H Q:=by
 unfold roOf at h
 split at h
 ·rename_i f args tys hop
  split at h
  ·rename_i p hp;exact FW.op ho hw (by rw[hop]; rfl) (OpS.call hop (tcall_sound hT hp h.1 _ _ h.2))
  ·exact FW.op ho hw (by rw[hop]; rfl) (OpS.call hop h)
 ·split at h
  ·rename_i r hr;exact FW.op ho hw (aop_defer hr) ((aop_sound hr h.1).toS h.2)
  ·exact h
theorem roK_mono{r:RO}{k k':Bool->AV->List AO->Prop}{kc kc':Bool->AV->List AV->Prop}{e e':Prop}(h:roK r k kc e)(hk:∀ v H,k true v H->k' true v H)(hc:∀ f a,kc true f a->kc' true f a)(he:e->e'):roK r k' kc' e':=by
 cases r with
 | ok r=>exact⟨h.1,hk _ _ h.2⟩
 | call f a=>exact hc _ _ h
 | bad=>exact he h
variable (P G)
def symR(T:Tab)(ops:Array Oper)(K:Bool->(Nat->AV)->List AO->Prop)(g:Bool):List Nat->(Nat->AV)->List AO->Prop
 | [],ts,H=>K true ts H
 | i::l,ts,H=>opK ops[i]? (fun _ dst op gd=>guK gd
   (fun g0=>roK (rog P G g0 T op (ev ts) H) (fun g v H'=>symR T ops K g l (put ts dst v) H') (fun g f a=>∃ v,PurV P G f a v/\symR T ops K g l (put ts dst v) H) False)
   (fun _ j want=>tmK ((ops[j]?).bind (·.dst)) (fun g1 d=>gsK (look g1 ts d) (fun _ b=>biK (b==want)
     (fun g0=>roK (rog P G g0 T op (ev (upd ts d (.c (.bool b)))) H) (fun g v H'=>symR T ops K g l (put (upd ts d (.c (.bool b))) dst v) H') (fun g f a=>∃ v,PurV P G f a v/\symR T ops K g l (put (upd ts d (.c (.bool b))) dst v) H) False)
     (fun g=>symR T ops K g l (put (upd ts d (.c (.bool b))) dst .un) H)) (fun g=>symR T ops K g l (put ts dst .un) H) False) False)) False
theorem symR_nil{T:Tab}{ops:Array Oper}{K:Bool->(Nat->AV)->List AO->Prop}{ts:Nat->AV}{H:List AO}:symR P G T ops K true [] ts H=K true ts H:=(rfl)
theorem symR_cons{T:Tab}{ops:Array Oper}{K:Bool->(Nat->AV)->List AO->Prop}{i:Nat}{l:List Nat}{ts:Nat->AV}{H:List AO}:symR P G T ops K true (i::l) ts H =
  opK ops[i]? (fun _ dst op gd=>guK gd
   (fun g0=>roK (rog P G g0 T op (ev ts) H) (fun g v H'=>symR P G T ops K g l (put ts dst v) H') (fun g f a=>∃ v,PurV P G f a v/\symR P G T ops K g l (put ts dst v) H) False)
   (fun _ j want=>tmK ((ops[j]?).bind (·.dst)) (fun g1 d=>gsK (look g1 ts d) (fun _ b=>biK (b==want)
     (fun g0=>roK (rog P G g0 T op (ev (upd ts d (.c (.bool b)))) H) (fun g v H'=>symR P G T ops K g l (put (upd ts d (.c (.bool b))) dst v) H') (fun g f a=>∃ v,PurV P G f a v/\symR P G T ops K g l (put (upd ts d (.c (.bool b))) dst v) H) False)
     (fun g=>symR P G T ops K g l (put (upd ts d (.c (.bool b))) dst .un) H)) (fun g=>symR P G T ops K g l (put ts dst .un) H) False) False)) False:=(rfl)
variable {P G}
theorem zFb{T:Tab}(hT:TOk P G T){ops:Array Oper}{K:Bool->(Nat->AV)->List AO->Prop}{K':(Nat->AV)->List AO->Prop}(hk:∀ ts H,K true ts H->K' ts H){g:Bool}:∀(l:List Nat) (ts:Nat->AV) (H:List AO),symR P G T ops K g l ts H->runR P G ops (fun _=>false) K' l ts H
 | [],ts,H,h=>hk _ _ h
 | i::l,ts,H,h=>by
  unfold symR at h;show zCn P G ops (fun _=>false) i ts H (runR P G ops (fun _=>false) K' l);cases ho:ops[i]? with
  | none=>rw[ho]at h; exact h.elim
  | some o =>
   rw[ho]at h;simp only[opK]at h;cases hg:o.guard with
   | none =>
    rw[hg]at h;simp only[guK]at h;have hw:zAp ops ts o=true:=by simp[zAp,hg]
    exact ro_step hT ho hw (roK_mono h (fun v H' h'=>zFb (g:=true) hT hk l _ _ h') (fun f a ⟨v,h1,h2⟩=>⟨v,h1,zFb (g:=true) hT hk l _ _ h2⟩) id)
   | some q =>
    obtain⟨j,want⟩:=q;rw[hg]at h;simp only[guK]at h;cases hd:(ops[j]?).bind (·.dst)with
    | none=>rw[hd]at h; exact h.elim
    | some d =>
     rw[hd]at h;simp only[tmK]at h;unfold gsK look at h
     split at h
     ·rename_i b hb;have hgv:gval ops ts j=some b:=by simp[gval,hd,hb]
      rw[upd_self hb]at h
      by_cases e:b=want
      ·subst e;rw[show(b==b)=true by simp]at h;simp only[biK_t]at h;have hw:zAp ops ts o=true:=by simp[zAp,hg,hgv]
       exact ro_step hT ho hw (roK_mono h (fun v H' h'=>zFb (g:=true) hT hk l _ _ h') (fun f a ⟨v,h1,h2⟩=>⟨v,h1,zFb (g:=true) hT hk l _ _ h2⟩) id)
      ·rw[show(b==want)=false by simp[e]]at h;have hw:zAp ops ts o=false:=by simp[zAp,hg,hgv,e]
       unfold zCn;simp only[ho];rw[if_neg (by simp[hw])];exact zFb (g:=true) hT hk l _ _ h
     ·rename_i hb;have hgv:gval ops ts j=none:=by simp[gval,hd,hb]
      have hw:zAp ops ts o=false:=by simp[zAp,hg,hgv]
      unfold zCn;simp only[ho];rw[if_neg (by simp[hw])];exact zFb (g:=true) hT hk l _ _ h
     ·exact h.elim
end
def drOk(dl:List Nat):Code->Bool
 | .region id ops true=>dl.contains id||ordB ops (fun _=>false) (List.range ops.size)
 | .seq a b=>drOk dl a&&drOk dl b
 | .cond _ a b=>drOk dl a&&drOk dl b
 | .block _ c=>drOk dl c
 | .loop c=>drOk dl c
 | .scope c=>drOk dl c
 | .rangeFunc _ _ a b=>drOk dl a&&drOk dl b
 | _=>true
def zEw(dl:List Nat):Item->Bool
 | .code c=>drOk dl c
 | .inLoop c=>drOk dl c
 | .inScope c=>drOk dl c
 | _=>true
def todoDr(dl:List Nat)(k:List Item):Bool:=k.all (zEw dl)
theorem zAz(dl:List Nat)(i:Item)(k:List Item):todoDr dl (i::k)=(zEw dl i&&todoDr dl k):=by simp[todoDr]
theorem todoDr_exitTo{dl:List Nat}{id:Nat}:∀ {k k':List Item},exitTo id k=some k'->todoDr dl k=true->todoDr dl k'=true
 | [],_,h,_=>by simp[exitTo]at h
 | i::k,k',h,hk=>by
  rw[zAz,zA]at hk;cases i <;> simp only[exitTo]at h <;> first
   | exact todoDr_exitTo h hk.2
   | (split at h
      ·cases h; exact hk.2
      ·exact todoDr_exitTo h hk.2)
section
variable (P:Program) (G:Gl)
def sy(T:Tab)(dl:List Nat)(f0:Nat)(g:Bool)(u:Nat)(rd:Option Nat)(n:Nat)(k0:List Item)(ts:Nat->AV)(H:List AO)(Q:Lv->(Nat->AV)->List AO->Prop):Prop :=
 match f0 with
 | 0=>FW P G rd n k0 ts H Q
 | f+1=>match k0 with
  | []=>Q .nor ts H
  | .code .skip::k=>sy T dl f true u rd n k ts H Q
  | .code (.label _)::k=>sy T dl f true u rd n k ts H Q
  | .code .ret::k=>Q .ret ts H
  | .code (.seq a b)::k=>sy T dl f true u rd n (.code a::.code b::k) ts H Q
  | .code (.block id c)::k=>sy T dl f true u rd n (.code c::.inBlock id::k) ts H Q
  | .code (.scope c)::k=>sy T dl f true u rd n (.code c::.inScope c::k) ts H Q
  | .code (.exit id)::k=>exK (exitTo id k) (fun g k'=>sy T dl f g u rd n k' ts H Q) (Q (.exit id) ts H)
  | .code (.cond c a b)::k=>gdK (ev ts c) (fun _ t=>biK t (fun g=>sy T dl f g u rd n (.code a::k) ts H Q) (fun g=>sy T dl f g u rd n (.code b::k) ts H Q)) (FW P G rd n (.code (.cond c a b)::k) ts H Q)
  | .code (.loop c)::k=>match u with
   | 0=>FW P G rd n (.inLoop c::k) ts H Q
   | u+1=>sy T dl f true u rd n (.code c::.inLoop c::k) ts H Q
  | .inLoop c::k=>match u with
   | 0=>FW P G rd n (.inLoop c::k) ts H Q
   | u+1=>sy T dl f true u rd n (.code c::.inLoop c::k) ts H Q
  | .code (.region id ops true)::k=>biK (dl.contains id) (fun _=>FW P G rd n (.code (.region id ops true)::k) ts H Q)
   (fun g=>symR P G T ops (fun g ts' H'=>sy T dl f g u rd n k ts' H' Q) g (List.range ops.size) ts H)
  | .code (.region id ops false)::k=>sy T dl f true u rd n (.inRegion ops (List.range ops.size)::k) ts H Q
  | .inBlock _::k=>sy T dl f true u rd n k ts H Q
  | .inScope _::k=>sy T dl f true u rd n k ts H Q
  | .inRegion ops []::k=>sy T dl f true u rd n k ts H Q
  | .inRegion ops (i::rest)::k=>opK ops[i]? (fun _ dst op gd=>guK gd
    (fun g0=>roK (rog P G g0 T op (ev ts) H) (fun g v H'=>sy T dl f g u rd n (.inRegion ops rest::k) (put ts dst v) H' Q) (fun _ g a=>ACV P G g a H fun v H'=>FW P G rd n (.inRegion ops rest::k) (put ts dst v) H' Q)
     (FW P G rd n (.inRegion ops (i::rest)::k) ts H Q))
    (fun _ j want=>tmK ((ops[j]?).bind (·.dst)) (fun g1 d=>gsK (look g1 ts d) (fun _ b=>biK (b==want)
      (fun g0=>roK (rog P G g0 T op (ev (upd ts d (.c (.bool b)))) H) (fun g v H'=>sy T dl f g u rd n (.inRegion ops rest::k) (put (upd ts d (.c (.bool b))) dst v) H' Q)
       (fun _ g a=>ACV P G g a H fun v H'=>FW P G rd n (.inRegion ops rest::k) (put (upd ts d (.c (.bool b))) dst v) H' Q) (FW P G rd n (.inRegion ops (i::rest)::k) ts H Q))
      (fun g=>sy T dl f g u rd n (.inRegion ops rest::k) (put (upd ts d (.c (.bool b))) dst .un) H Q)) (fun g=>sy T dl f g u rd n (.inRegion ops rest::k) (put ts dst .un) H Q) (FW P G rd n (.inRegion ops (i::rest)::k) ts H Q)) (FW P G rd n (.inRegion ops (i::rest)::k) ts H Q)))
   (FW P G rd n (.inRegion ops (i::rest)::k) ts H Q)
  | k=>FW P G rd n k ts H Q
variable {P G}
theorem sy_nil{T:Tab}{dl:List Nat}{f u:Nat}{rd:Option Nat}{n:Nat}{ts:Nat->AV}{H:List AO}{Q:Lv->(Nat->AV)->List AO->Prop} :sy P G T dl (f+1) true u rd n ([]) ts H Q=Q .nor ts H:=(rfl)
theorem sy_skip{T:Tab}{dl:List Nat}{f u:Nat}{rd:Option Nat}{n:Nat}{k:List Item}{ts:Nat->AV}{H:List AO}{Q:Lv->(Nat->AV)->List AO->Prop} :sy P G T dl (f+1) true u rd n (.code .skip::k) ts H Q=sy P G T dl f true u rd n (k) ts H Q:=(rfl)
theorem sy_label{T:Tab}{dl:List Nat}{f u:Nat}{rd:Option Nat}{n:Nat}{k:List Item}{ts:Nat->AV}{H:List AO}{Q:Lv->(Nat->AV)->List AO->Prop}{l:Nat}:sy P G T dl (f+1) true u rd n (.code (.label l)::k) ts H Q=sy P G T dl f true u rd n (k) ts H Q:=(rfl)
theorem sy_ret{T:Tab}{dl:List Nat}{f u:Nat}{rd:Option Nat}{n:Nat}{k:List Item}{ts:Nat->AV}{H:List AO}{Q:Lv->(Nat->AV)->List AO->Prop} :sy P G T dl (f+1) true u rd n (.code .ret::k) ts H Q=Q .ret ts H:=(rfl)
theorem sy_seq{T:Tab}{dl:List Nat}{f u:Nat}{rd:Option Nat}{n:Nat}{k:List Item}{ts:Nat->AV}{H:List AO}{Q:Lv->(Nat->AV)->List AO->Prop}{a b:Code}:sy P G T dl (f+1) true u rd n (.code (.seq a b)::k) ts H Q=sy P G T dl f true u rd n (.code a::.code b::k) ts H Q:=(rfl)
theorem sy_block{T:Tab}{dl:List Nat}{f u:Nat}{rd:Option Nat}{n:Nat}{k:List Item}{ts:Nat->AV}{H:List AO}{Q:Lv->(Nat->AV)->List AO->Prop}{id:Nat}{c:Code}:sy P G T dl (f+1) true u rd n (.code (.block id c)::k) ts H Q=sy P G T dl f true u rd n (.code c::.inBlock id::k) ts H Q:=(rfl)
theorem sy_scope{T:Tab}{dl:List Nat}{f u:Nat}{rd:Option Nat}{n:Nat}{k:List Item}{ts:Nat->AV}{H:List AO}{Q:Lv->(Nat->AV)->List AO->Prop}{c:Code}:sy P G T dl (f+1) true u rd n (.code (.scope c)::k) ts H Q=sy P G T dl f true u rd n (.code c::.inScope c::k) ts H Q:=(rfl)
theorem sy_exit{T:Tab}{dl:List Nat}{f u:Nat}{rd:Option Nat}{n:Nat}{k:List Item}{ts:Nat->AV}{H:List AO}{Q:Lv->(Nat->AV)->List AO->Prop}{id:Nat}:sy P G T dl (f+1) true u rd n (.code (.exit id)::k) ts H Q=exK (exitTo id k) (fun g k'=>sy P G T dl f g u rd n k' ts H Q) (Q (.exit id) ts H):=(rfl)
theorem sy_cond{T:Tab}{dl:List Nat}{f u:Nat}{rd:Option Nat}{n:Nat}{k:List Item}{ts:Nat->AV}{H:List AO}{Q:Lv->(Nat->AV)->List AO->Prop}{c:Operand}{a b:Code}:sy P G T dl (f+1) true u rd n (.code (.cond c a b)::k) ts H Q=gdK (ev ts c) (fun _ t=>biK t (fun g=>sy P G T dl f g u rd n (.code a::k) ts H Q) (fun g=>sy P G T dl f g u rd n (.code b::k) ts H Q)) (FW P G rd n (.code (.cond c a b)::k) ts H Q):=(rfl)
theorem sy_loop0{T:Tab}{dl:List Nat}{f:Nat}{rd:Option Nat}{n:Nat}{k:List Item}{ts:Nat->AV}{H:List AO}{Q:Lv->(Nat->AV)->List AO->Prop}{c:Code}:sy P G T dl (f+1) true 0 rd n (.code (.loop c)::k) ts H Q=FW P G rd n (.inLoop c::k) ts H Q:=(rfl)
theorem sy_loop{T:Tab}{dl:List Nat}{f u:Nat}{rd:Option Nat}{n:Nat}{k:List Item}{ts:Nat->AV}{H:List AO}{Q:Lv->(Nat->AV)->List AO->Prop}{c:Code}:sy P G T dl (f+1) true (u+1) rd n (.code (.loop c)::k) ts H Q=sy P G T dl f true u rd n (.code c::.inLoop c::k) ts H Q:=(rfl)
theorem sy_inLoop0{T:Tab}{dl:List Nat}{f:Nat}{rd:Option Nat}{n:Nat}{k:List Item}{ts:Nat->AV}{H:List AO}{Q:Lv->(Nat->AV)->List AO->Prop}{c:Code}:sy P G T dl (f+1) true 0 rd n (.inLoop c::k) ts H Q=FW P G rd n (.inLoop c::k) ts H Q:=(rfl)
theorem sy_inLoop{T:Tab}{dl:List Nat}{f u:Nat}{rd:Option Nat}{n:Nat}{k:List Item}{ts:Nat->AV}{H:List AO}{Q:Lv->(Nat->AV)->List AO->Prop}{c:Code}:sy P G T dl (f+1) true (u+1) rd n (.inLoop c::k) ts H Q=sy P G T dl f true u rd n (.code c::.inLoop c::k) ts H Q:=(rfl)
theorem sy_draw{T:Tab}{dl:List Nat}{f u:Nat}{rd:Option Nat}{n:Nat}{k:List Item}{ts:Nat->AV}{H:List AO}{Q:Lv->(Nat->AV)->List AO->Prop}{id:Nat}{ops:Array Oper}:sy P G T dl (f+1) true u rd n (.code (.region id ops true)::k) ts H Q=biK (dl.contains id) (fun _=>FW P G rd n (.code (.region id ops true)::k) ts H Q) (fun g=>symR P G T ops (fun g ts' H'=>sy P G T dl f g u rd n k ts' H' Q) g (List.range ops.size) ts H):=(rfl)
theorem sy_region{T:Tab}{dl:List Nat}{f u:Nat}{rd:Option Nat}{n:Nat}{k:List Item}{ts:Nat->AV}{H:List AO}{Q:Lv->(Nat->AV)->List AO->Prop}{id:Nat}{ops:Array Oper}:sy P G T dl (f+1) true u rd n (.code (.region id ops false)::k) ts H Q=sy P G T dl f true u rd n (.inRegion ops (List.range ops.size)::k) ts H Q:=(rfl)
theorem sy_inBlock{T:Tab}{dl:List Nat}{f u:Nat}{rd:Option Nat}{n:Nat}{k:List Item}{ts:Nat->AV}{H:List AO}{Q:Lv->(Nat->AV)->List AO->Prop}{id:Nat}:sy P G T dl (f+1) true u rd n (.inBlock id::k) ts H Q=sy P G T dl f true u rd n (k) ts H Q:=(rfl)
theorem sy_inScope{T:Tab}{dl:List Nat}{f u:Nat}{rd:Option Nat}{n:Nat}{k:List Item}{ts:Nat->AV}{H:List AO}{Q:Lv->(Nat->AV)->List AO->Prop}{c:Code}:sy P G T dl (f+1) true u rd n (.inScope c::k) ts H Q=sy P G T dl f true u rd n (k) ts H Q:=(rfl)
theorem sy_opsNil{T:Tab}{dl:List Nat}{f u:Nat}{rd:Option Nat}{n:Nat}{k:List Item}{ts:Nat->AV}{H:List AO}{Q:Lv->(Nat->AV)->List AO->Prop}{ops:Array Oper}:sy P G T dl (f+1) true u rd n (.inRegion ops []::k) ts H Q=sy P G T dl f true u rd n (k) ts H Q:=(rfl)
theorem sy_ops{T:Tab}{dl:List Nat}{f u:Nat}{rd:Option Nat}{n:Nat}{k:List Item}{ts:Nat->AV}{H:List AO}{Q:Lv->(Nat->AV)->List AO->Prop}{ops:Array Oper}{i:Nat}{rest:List Nat}:sy P G T dl (f+1) true u rd n (.inRegion ops (i::rest)::k) ts H Q=opK ops[i]? (fun _ dst op gd=>guK gd
    (fun g0=>roK (rog P G g0 T op (ev ts) H) (fun g v H'=>sy P G T dl f g u rd n (.inRegion ops rest::k) (put ts dst v) H' Q) (fun _ g a=>ACV P G g a H fun v H'=>FW P G rd n (.inRegion ops rest::k) (put ts dst v) H' Q)
     (FW P G rd n (.inRegion ops (i::rest)::k) ts H Q))
    (fun _ j want=>tmK ((ops[j]?).bind (·.dst)) (fun g1 d=>gsK (look g1 ts d) (fun _ b=>biK (b==want)
      (fun g0=>roK (rog P G g0 T op (ev (upd ts d (.c (.bool b)))) H) (fun g v H'=>sy P G T dl f g u rd n (.inRegion ops rest::k) (put (upd ts d (.c (.bool b))) dst v) H' Q)
       (fun _ g a=>ACV P G g a H fun v H'=>FW P G rd n (.inRegion ops rest::k) (put (upd ts d (.c (.bool b))) dst v) H' Q) (FW P G rd n (.inRegion ops (i::rest)::k) ts H Q))
      (fun g=>sy P G T dl f g u rd n (.inRegion ops rest::k) (put (upd ts d (.c (.bool b))) dst .un) H Q)) (fun g=>sy P G T dl f g u rd n (.inRegion ops rest::k) (put ts dst .un) H Q) (FW P G rd n (.inRegion ops (i::rest)::k) ts H Q)) (FW P G rd n (.inRegion ops (i::rest)::k) ts H Q)))
   (FW P G rd n (.inRegion ops (i::rest)::k) ts H Q):=(rfl)
theorem sy_rangeFunc{T:Tab}{dl:List Nat}{f u:Nat}{rd:Option Nat}{n:Nat}{k:List Item}{ts:Nat->AV}{H:List AO}{Q:Lv->(Nat->AV)->List AO->Prop}{g:Operand}{ps:Array Tmp}{a b:Code}:sy P G T dl (f+1) true u rd n (.code (.rangeFunc g ps a b)::k) ts H Q=FW P G rd n (.code (.rangeFunc g ps a b)::k) ts H Q:=(rfl)
theorem sy_beginRound{T:Tab}{dl:List Nat}{f u:Nat}{rd:Option Nat}{n:Nat}{k:List Item}{ts:Nat->AV}{H:List AO}{Q:Lv->(Nat->AV)->List AO->Prop}:sy P G T dl (f+1) true u rd n (.beginRound::k) ts H Q=FW P G rd n (.beginRound::k) ts H Q:=(rfl)
theorem zCb(hm:P.follows .mixedOrders=true){T:Tab}(hT:TOk P G T){dl:List Nat}:∀(f:Nat) {g:Bool} {u:Nat} {rd:Option Nat} {n:Nat} {k:List Item} {ts:Nat->AV} {H:List AO} {Q:Lv->(Nat->AV)->List AO->Prop},
  todoDr dl k=true->sy P G T dl f g u rd n k ts H Q->FW P G rd n k ts H Q
 | 0,g,u,rd,n,k,ts,H,Q,hd,h=>by unfold sy at h; exact h
 | f+1,g,u,rd,n,k,ts,H,Q,hd,h=>by
  unfold sy at h;simp only at h
  split at h
  ·exact .nil h
  ·exact .skip (zCb hm hT f (by simpa[zAz,zEw,drOk]using hd) h)
  ·exact .label (zCb hm hT f (by simpa[zAz,zEw,drOk]using hd) h)
  ·exact .ret h
  ·exact .seq (zCb hm hT f (by simpa[zAz,zEw,drOk,and_assoc]using hd) h)
  ·exact .block (zCb hm hT f (by simpa[zAz,zEw,drOk]using hd) h)
  ·exact .scope (zCb hm hT f (by simpa[zAz,zEw,drOk]using hd) h)
  ·rw[zAz,zA]at hd;unfold exK at h
   split at h
   ·rename_i hx;exact .exit hx (zCb hm hT f (todoDr_exitTo hx hd.2) h)
   ·exact .exitOut (by assumption) h
  ·have hd':=hd;simp only[zAz,zEw,drOk,zA]at hd';unfold gdK at h
   split at h
   ·exact .cond (by assumption) (fun e=>zCb (dl:=dl) hm hT f (by simp[zAz,zEw,hd'.1.1,hd'.2]) (by rw[e]at h; exact h)) (fun e=>zCb (dl:=dl) hm hT f (by simp[zAz,zEw,hd'.1.2,hd'.2]) (by rw[e]at h; exact h))
   ·exact h
  ·split at h
   ·exact .loop' h
   ·exact .loop (zCb hm hT f (by simpa[zAz,zEw,drOk]using hd) h)
  ·split at h
   ·exact h
   ·exact .inLoop (zCb hm hT f (by simpa[zAz,zEw,drOk]using hd) h)
  ·rename_i id ops k;cases hc:dl.contains id with
   | true=>rw[hc]at h; exact h
   | false =>
    rw[hc]at h;have hd':=hd;simp only[zAz,zEw,drOk,zA,Bool.or_eq_true]at hd';exact FW.drawOrd hm (hd'.1.resolve_left (by rw[hc]; simp)) (zFb (g:=true) hT (fun ts' H' h'=>zCb (g:=true) hm hT f hd'.2 h') _ _ _ h)
  ·exact .region (zCb hm hT f (by simpa[zAz,zEw,drOk]using hd) h)
  ·exact .inBlock (zCb hm hT f (by simpa[zAz,zEw,drOk]using hd) h)
  ·exact .inScope (zCb hm hT f (by rw[zAz,zA]at hd; exact hd.2) h)
  ·exact .regionEnd (zCb hm hT f (by simpa[zAz,zEw,drOk]using hd) h)
  ·rename_i ops i rest k;have hd':∀ r,todoDr dl (.inRegion ops r::k)=true:=fun r=>by simpa[zAz,zEw,drOk]using hd
   cases ho:ops[i]? with
   | none=>rw[ho]at h; exact h
   | some o =>
    rw[ho]at h;simp only[opK]at h;cases hg:o.guard with
    | none =>
     rw[hg]at h;simp only[guK]at h;have hw:zAp ops ts o=true:=by simp[zAp,hg]
     exact ro_FW hT ho hw (roK_mono h (fun v H' h'=>zCb (g:=true) hm hT f (hd' _) h') (fun _ _ h'=>h') id)
    | some q =>
     obtain⟨j,want⟩:=q;rw[hg]at h;simp only[guK]at h;cases hdd:(ops[j]?).bind (·.dst)with
     | none=>rw[hdd]at h; exact h
     | some d =>
      rw[hdd]at h;simp only[tmK]at h;unfold gsK look at h
      split at h
      ·rename_i b hb;have hgv:gval ops ts j=some b:=by simp[gval,hdd,hb]
       rw[upd_self hb]at h
       by_cases e:b=want
       ·subst e;rw[show(b==b)=true by simp]at h;simp only[biK_t]at h;have hw:zAp ops ts o=true:=by simp[zAp,hg,hgv]
        exact ro_FW hT ho hw (roK_mono h (fun v H' h'=>zCb (g:=true) hm hT f (hd' _) h') (fun _ _ h'=>h') id)
       ·rw[show(b==want)=false by simp[e]]at h;exact FW.opSkip ho (by simp[zAp,hg,hgv,e]) (zCb (g:=true) hm hT f (hd' _) h)
      ·rename_i hb;have hgv:gval ops ts j=none:=by simp[gval,hdd,hb]
       exact FW.opSkip ho (by simp[zAp,hg,hgv]) (zCb (g:=true) hm hT f (hd' _) h)
      ·exact h
  ·exact h
theorem walk(hm:P.follows .mixedOrders=true){T:Tab}(hT:TOk P G T)(dl:List Nat)(f u:Nat){rd:Option Nat}{n:Nat}{k:List Item}{ts:Nat->AV}{H:List AO}{Q:Lv->(Nat->AV)->List AO->Prop}
  (hd:todoDr dl k=true) (h:sy P G T dl f true u rd n k ts H Q):FW P G rd n k ts H Q:=zCb hm hT f hd h
end
theorem kw0:(∀ {P:Program} {G:Gl} {T:Tab} {dl:List Nat} {f u:Nat} {rd:Option Nat} {n:Nat} {k:List Item} {ts:Nat->AV} {H:List AO} {Q:Lv->(Nat->AV)->List AO->Prop},sy P G T dl (f+1) true u rd n (.code .skip::k) ts H Q=sy P G T dl f true u rd n (k) ts H Q) /\
 (∀ {P:Program} {G:Gl} {T:Tab} {dl:List Nat} {f u:Nat} {rd:Option Nat} {n:Nat} {k:List Item} {ts:Nat->AV} {H:List AO} {Q:Lv->(Nat->AV)->List AO->Prop} {l:Nat},sy P G T dl (f+1) true u rd n (.code (.label l)::k) ts H Q=sy P G T dl f true u rd n (k) ts H Q) /\
 (∀ {P:Program} {G:Gl} {T:Tab} {dl:List Nat} {f u:Nat} {rd:Option Nat} {n:Nat} {k:List Item} {ts:Nat->AV} {H:List AO} {Q:Lv->(Nat->AV)->List AO->Prop},sy P G T dl (f+1) true u rd n (.code .ret::k) ts H Q=Q .ret ts H) /\
 (∀ {P:Program} {G:Gl} {T:Tab} {dl:List Nat} {f u:Nat} {rd:Option Nat} {n:Nat} {k:List Item} {ts:Nat->AV} {H:List AO} {Q:Lv->(Nat->AV)->List AO->Prop} {a b:Code},sy P G T dl (f+1) true u rd n (.code (.seq a b)::k) ts H Q=sy P G T dl f true u rd n (.code a::.code b::k) ts H Q) /\
 (∀ {P:Program} {G:Gl} {T:Tab} {dl:List Nat} {f u:Nat} {rd:Option Nat} {n:Nat} {k:List Item} {ts:Nat->AV} {H:List AO} {Q:Lv->(Nat->AV)->List AO->Prop} {id:Nat} {c:Code},sy P G T dl (f+1) true u rd n (.code (.block id c)::k) ts H Q=sy P G T dl f true u rd n (.code c::.inBlock id::k) ts H Q) /\
 (∀ {P:Program} {G:Gl} {T:Tab} {dl:List Nat} {f u:Nat} {rd:Option Nat} {n:Nat} {k:List Item} {ts:Nat->AV} {H:List AO} {Q:Lv->(Nat->AV)->List AO->Prop} {c:Code},sy P G T dl (f+1) true u rd n (.code (.scope c)::k) ts H Q=sy P G T dl f true u rd n (.code c::.inScope c::k) ts H Q) /\
 (∀ {P:Program} {G:Gl} {T:Tab} {dl:List Nat} {f u:Nat} {rd:Option Nat} {n:Nat} {k:List Item} {ts:Nat->AV} {H:List AO} {Q:Lv->(Nat->AV)->List AO->Prop} {id:Nat},sy P G T dl (f+1) true u rd n (.code (.exit id)::k) ts H Q=exK (exitTo id k) (fun g k'=>sy P G T dl f g u rd n k' ts H Q) (Q (.exit id) ts H)) /\
 (∀ {P:Program} {G:Gl} {T:Tab} {dl:List Nat} {f u:Nat} {rd:Option Nat} {n:Nat} {k:List Item} {ts:Nat->AV} {H:List AO} {Q:Lv->(Nat->AV)->List AO->Prop} {c:Operand} {a b:Code},sy P G T dl (f+1) true u rd n (.code (.cond c a b)::k) ts H Q=gdK (ev ts c) (fun _ t=>biK t (fun g=>sy P G T dl f g u rd n (.code a::k) ts H Q) (fun g=>sy P G T dl f g u rd n (.code b::k) ts H Q)) (FW P G rd n (.code (.cond c a b)::k) ts H Q)) /\
 (∀ {P:Program} {G:Gl} {T:Tab} {dl:List Nat} {f:Nat} {rd:Option Nat} {n:Nat} {k:List Item} {ts:Nat->AV} {H:List AO} {Q:Lv->(Nat->AV)->List AO->Prop} {c:Code},sy P G T dl (f+1) true 0 rd n (.code (.loop c)::k) ts H Q=FW P G rd n (.inLoop c::k) ts H Q) /\
 (∀ {P:Program} {G:Gl} {T:Tab} {dl:List Nat} {f u:Nat} {rd:Option Nat} {n:Nat} {k:List Item} {ts:Nat->AV} {H:List AO} {Q:Lv->(Nat->AV)->List AO->Prop} {c:Code},sy P G T dl (f+1) true (u+1) rd n (.code (.loop c)::k) ts H Q=sy P G T dl f true u rd n (.code c::.inLoop c::k) ts H Q) /\
 (∀ {P:Program} {G:Gl} {T:Tab} {dl:List Nat} {f:Nat} {rd:Option Nat} {n:Nat} {k:List Item} {ts:Nat->AV} {H:List AO} {Q:Lv->(Nat->AV)->List AO->Prop} {c:Code},sy P G T dl (f+1) true 0 rd n (.inLoop c::k) ts H Q=FW P G rd n (.inLoop c::k) ts H Q) /\
 (∀ {P:Program} {G:Gl} {T:Tab} {dl:List Nat} {f u:Nat} {rd:Option Nat} {n:Nat} {k:List Item} {ts:Nat->AV} {H:List AO} {Q:Lv->(Nat->AV)->List AO->Prop} {c:Code},sy P G T dl (f+1) true (u+1) rd n (.inLoop c::k) ts H Q=sy P G T dl f true u rd n (.code c::.inLoop c::k) ts H Q) /\
 (∀ {P:Program} {G:Gl} {T:Tab} {dl:List Nat} {f u:Nat} {rd:Option Nat} {n:Nat} {k:List Item} {ts:Nat->AV} {H:List AO} {Q:Lv->(Nat->AV)->List AO->Prop} {id:Nat} {ops:Array Oper},sy P G T dl (f+1) true u rd n (.code (.region id ops true)::k) ts H Q=biK (dl.contains id) (fun _=>FW P G rd n (.code (.region id ops true)::k) ts H Q) (fun g=>symR P G T ops (fun g ts' H'=>sy P G T dl f g u rd n k ts' H' Q) g (List.range ops.size) ts H)) /\
 (∀ {P:Program} {G:Gl} {T:Tab} {dl:List Nat} {f u:Nat} {rd:Option Nat} {n:Nat} {k:List Item} {ts:Nat->AV} {H:List AO} {Q:Lv->(Nat->AV)->List AO->Prop} {id:Nat} {ops:Array Oper},sy P G T dl (f+1) true u rd n (.code (.region id ops false)::k) ts H Q=sy P G T dl f true u rd n (.inRegion ops (List.range ops.size)::k) ts H Q) /\
 (∀ {P:Program} {G:Gl} {T:Tab} {dl:List Nat} {f u:Nat} {rd:Option Nat} {n:Nat} {k:List Item} {ts:Nat->AV} {H:List AO} {Q:Lv->(Nat->AV)->List AO->Prop} {id:Nat},sy P G T dl (f+1) true u rd n (.inBlock id::k) ts H Q=sy P G T dl f true u rd n (k) ts H Q) /\
 (∀ {P:Program} {G:Gl} {T:Tab} {dl:List Nat} {f u:Nat} {rd:Option Nat} {n:Nat} {k:List Item} {ts:Nat->AV} {H:List AO} {Q:Lv->(Nat->AV)->List AO->Prop} {c:Code},sy P G T dl (f+1) true u rd n (.inScope c::k) ts H Q=sy P G T dl f true u rd n (k) ts H Q) /\
 (∀ {P:Program} {G:Gl} {T:Tab} {dl:List Nat} {f u:Nat} {rd:Option Nat} {n:Nat} {k:List Item} {ts:Nat->AV} {H:List AO} {Q:Lv->(Nat->AV)->List AO->Prop} {ops:Array Oper},sy P G T dl (f+1) true u rd n (.inRegion ops []::k) ts H Q=sy P G T dl f true u rd n (k) ts H Q) /\
 (∀ {P:Program} {G:Gl} {T:Tab} {dl:List Nat} {f u:Nat} {rd:Option Nat} {n:Nat} {k:List Item} {ts:Nat->AV} {H:List AO} {Q:Lv->(Nat->AV)->List AO->Prop} {ops:Array Oper} {i:Nat} {rest:List Nat},sy P G T dl (f+1) true u rd n (.inRegion ops (i::rest)::k) ts H Q=opK ops[i]? (fun _ dst op gd=>guK gd (fun g0=>roK (rog P G g0 T op (ev ts) H) (fun g v H'=>sy P G T dl f g u rd n (.inRegion ops rest::k) (put ts dst v) H' Q) (fun _ g a=>ACV P G g a H fun v H'=>FW P G rd n (.inRegion ops rest::k) (put ts dst v) H' Q) (FW P G rd n (.inRegion ops (i::rest)::k) ts H Q)) (fun _ j want=>tmK ((ops[j]?).bind (·.dst)) (fun g1 d=>gsK (look g1 ts d) (fun _ b=>biK (b==want) (fun g0=>roK (rog P G g0 T op (ev (upd ts d (.c (.bool b)))) H) (fun g v H'=>sy P G T dl f g u rd n (.inRegion ops rest::k) (put (upd ts d (.c (.bool b))) dst v) H' Q) (fun _ g a=>ACV P G g a H fun v H'=>FW P G rd n (.inRegion ops rest::k) (put (upd ts d (.c (.bool b))) dst v) H' Q) (FW P G rd n (.inRegion ops (i::rest)::k) ts H Q)) (fun g=>sy P G T dl f g u rd n (.inRegion ops rest::k) (put (upd ts d (.c (.bool b))) dst .un) H Q)) (fun g=>sy P G T dl f g u rd n (.inRegion ops rest::k) (put ts dst .un) H Q) (FW P G rd n (.inRegion ops (i::rest)::k) ts H Q)) (FW P G rd n (.inRegion ops (i::rest)::k) ts H Q))) (FW P G rd n (.inRegion ops (i::rest)::k) ts H Q)) /\
 (∀ {P:Program} {G:Gl} {T:Tab} {dl:List Nat} {f u:Nat} {rd:Option Nat} {n:Nat} {k:List Item} {ts:Nat->AV} {H:List AO} {Q:Lv->(Nat->AV)->List AO->Prop} {g:Operand} {ps:Array Tmp} {a b:Code},sy P G T dl (f+1) true u rd n (.code (.rangeFunc g ps a b)::k) ts H Q=FW P G rd n (.code (.rangeFunc g ps a b)::k) ts H Q) /\
 (∀ {P:Program} {G:Gl} {T:Tab} {dl:List Nat} {f u:Nat} {rd:Option Nat} {n:Nat} {k:List Item} {ts:Nat->AV} {H:List AO} {Q:Lv->(Nat->AV)->List AO->Prop},sy P G T dl (f+1) true u rd n (.beginRound::k) ts H Q=FW P G rd n (.beginRound::k) ts H Q) :=
 ⟨@sy_skip,@sy_label,@sy_ret,@sy_seq,@sy_block,@sy_scope,@sy_exit,@sy_cond,@sy_loop0,@sy_loop,@sy_inLoop0,@sy_inLoop,@sy_draw,@sy_region,@sy_inBlock,@sy_inScope,@sy_opsNil,@sy_ops,@sy_rangeFunc,@sy_beginRound⟩
theorem kw1:(∀ {P:Program} {G:Gl} {T:Tab} {ops:Array Oper} {K:Bool->(Nat->AV)->List AO->Prop} {i:Nat} {l:List Nat} {ts:Nat->AV} {H:List AO},symR P G T ops K true (i::l) ts H=opK ops[i]? (fun _ dst op gd=>guK gd (fun g0=>roK (rog P G g0 T op (ev ts) H) (fun g v H'=>symR P G T ops K g l (put ts dst v) H') (fun g f a=>∃ v,PurV P G f a v/\symR P G T ops K g l (put ts dst v) H) False) (fun _ j want=>tmK ((ops[j]?).bind (·.dst)) (fun g1 d=>gsK (look g1 ts d) (fun _ b=>biK (b==want) (fun g0=>roK (rog P G g0 T op (ev (upd ts d (.c (.bool b)))) H) (fun g v H'=>symR P G T ops K g l (put (upd ts d (.c (.bool b))) dst v) H') (fun g f a=>∃ v,PurV P G f a v/\symR P G T ops K g l (put (upd ts d (.c (.bool b))) dst v) H) False) (fun g=>symR P G T ops K g l (put (upd ts d (.c (.bool b))) dst .un) H)) (fun g=>symR P G T ops K g l (put ts dst .un) H) False) False)) False) /\
 (∀ {x y:Bool->Prop},biK (true==true) x y=x true) /\
 (∀ {x y:Bool->Prop},biK (false==false) x y=x true) /\
 (∀ {x y:Bool->Prop},biK (true==false) x y=y true) /\
 (∀ {x y:Bool->Prop},biK (false==true) x y=y true) /\
 (∀ {x y:Bool->Prop},biK true x y=x true) /\
 (∀ {x y:Bool->Prop},biK false x y=y true) /\
 (∀ {ts:Nat->AV} {d:Nat},look true ts d=ts d) /\
 (∀ {P:Program} {G:Gl} {T:Tab} {op:Op} {ρ:Operand->AV} {H:List AO},rog P G true T op ρ H=roOf P G T op ρ H) :=
 ⟨@symR_cons,@biK_tt,@biK_ff,@biK_tf,@biK_ft,@biK_t,@biK_f,@look_true,@rog_true⟩
end Go.Ab
