/- A text of this claim. -/
import Derived.Test.YtplmblgihfogjaaGreatDoorEv17
import Derived.Test.YtplmblgihfogjaaGreatDoorEv12
set_option maxHeartbeats 40000000
set_option maxRecDepth 400000
set_option linter.all false
namespace Go.Ab
abbrev Wch:=Nat->List AO->Prop
def WT:Wch:=fun _ _=>True
def opJ(o:Option Oper)(k:Bool->Oper->Prop)(e:Prop):Prop :=
 match o with
 | some o=>k true o
 | none=>e
theorem zAq{o:Oper}{k:Bool->Oper->Prop}{e:Prop}:opJ (some o) k e=k true o:=(rfl)
section
variable (P:Program) (G:Gl)
def wAdd(M:Nat->Nat->Bool)(W:Wch)(i:Nat)(o:Oper)(ts:Nat->AV)(v:AV):Wch:=fun j H'=>W j H'/\(M j i=false->wat P G o ts v H')
theorem zAx{P:Program}{G:Gl}{M:Nat->Nat->Bool}{W:Wch}{i:Nat}{o:Oper}{ts:Nat->AV}{v:AV}{j:Nat}{H':List AO}:wAdd P G M W i o ts v j H'=(W j H'/\(M j i=false->wat P G o ts v H')):=(rfl)
theorem zCq{j:Nat}{H:List AO}:WT j H=True:=(rfl)
def symG(T:Tab)(ops:Array Oper)(M:Nat->Nat->Bool)(imp:Nat->Bool)(K:Bool->(Nat->AV)->List AO->Prop)(g:Bool):List (Nat × Bool)->Wch->(Nat->AV)->List AO->Prop
 | [],W,ts,H=>K true ts H
 | (i,true)::l,W,ts,H=>opJ ops[i]? (fun _ o=>guK o.guard
   (fun g0=>roK (rog P G g0 Tab.nil o.op (ev ts) H) (fun g v H'=>symG T ops M imp K g l (wAdd P G M W i o ts v) (put ts o.dst v) H) (fun _ _ _=>False) False)
   (fun _ _ _=>False)) False
 | (i,false)::l,W,ts,H=>opJ ops[i]? (fun _ o=>guK o.guard
   (fun g0=>roK (rog P G g0 Tab.nil o.op (ev ts) H) (fun g v H'=>(imp i=true->W i H')/\symG T ops M imp K g l W (put ts o.dst v) H')
    (fun g f a=>imp i=true/\ACV P G f a H fun v H'=>W i H'/\symG T ops M imp K true l W (put ts o.dst v) H') False)
   (fun _ _ _=>False)) False
variable {P G}
theorem zAr{T:Tab}{ops:Array Oper}{M:Nat->Nat->Bool}{imp:Nat->Bool}{K:Bool->(Nat->AV)->List AO->Prop}{W:Wch}{ts:Nat->AV}{H:List AO}:symG P G T ops M imp K true [] W ts H=K true ts H:=(rfl)
theorem zBn{T:Tab}{ops:Array Oper}{M:Nat->Nat->Bool}{imp:Nat->Bool}{K:Bool->(Nat->AV)->List AO->Prop}{i:Nat}{l:List (Nat × Bool)}{W:Wch}{ts:Nat->AV}{H:List AO} :
  symG P G T ops M imp K true ((i,true)::l) W ts H=opJ ops[i]? (fun _ o=>guK o.guard
   (fun g0=>roK (rog P G g0 Tab.nil o.op (ev ts) H) (fun g v H'=>symG P G T ops M imp K g l (wAdd P G M W i o ts v) (put ts o.dst v) H) (fun _ _ _=>False) False)
   (fun _ _ _=>False)) False:=(rfl)
theorem zBm{T:Tab}{ops:Array Oper}{M:Nat->Nat->Bool}{imp:Nat->Bool}{K:Bool->(Nat->AV)->List AO->Prop}{i:Nat}{l:List (Nat × Bool)}{W:Wch}{ts:Nat->AV}{H:List AO} :
  symG P G T ops M imp K true ((i,false)::l) W ts H=opJ ops[i]? (fun _ o=>guK o.guard
   (fun g0=>roK (rog P G g0 Tab.nil o.op (ev ts) H) (fun g v H'=>(imp i=true->W i H')/\symG P G T ops M imp K g l W (put ts o.dst v) H')
    (fun g f a=>imp i=true/\ACV P G f a H fun v H'=>W i H'/\symG P G T ops M imp K true l W (put ts o.dst v) H') False)
   (fun _ _ _=>False)) False:=(rfl)
def qtB(ops:Array Oper):List (Nat × Bool)->Bool
 | []=>true
 | (i,true)::l=>(match ops[i]? with
  | some o=>quietC (clOf o.op)
  | none=>false)&&qtB ops l
 | (_,false)::l=>qtB ops l
theorem rog_nil_call{g0:Bool}{f:Operand}{args:Array Operand}{tys:Array TypeId}{ρ:Operand->AV}{H:List AO}:rog P G g0 Tab.nil (.call { callee:=.value f,args:=args,argTypes:=tys }) ρ H=.call (ρ f) (args.toList.map ρ):=by
 show(match tcall Tab.nil (ρ f) (args.toList.map ρ)with
  | some p=>RO.ok ⟨p.1,p.2,H⟩
  | none=>.call (ρ f) (args.toList.map ρ))=_
 have:tcall Tab.nil (ρ f) (args.toList.map ρ)=none:=by unfold tcall; split <;> rfl
 rw[this]
theorem symG_runG{T:Tab}{ops:Array Oper}{M:Nat->Nat->Bool}{imp:Nat->Bool}{K:Bool->(Nat->AV)->List AO->Prop}{K':(Nat->AV)->List AO->Prop}(hk:∀ ts H,K true ts H->K' ts H){g:Bool} :
  ∀(l:List (Nat × Bool)) (W:Wch) (ts:Nat->AV) (H:List AO),qtB ops l=true->symG P G T ops M imp K g l W ts H->runG P G ops M imp (fun _=>K') l W ts H
 | [],W,ts,H,_,h=>hk _ _ h
 | (i,true)::l,W,ts,H,hq,h=>by
  unfold symG at h;simp only[qtB,zA]at hq;cases ho:ops[i]? with
  | none=>rw[ho]at h; exact h.elim
  | some o =>
   rw[ho]at h hq;simp only[opJ]at h;refine⟨o,ho,?_⟩;cases hg:o.guard with
   | some q=>rw[hg]at h; exact h.elim
   | none =>
    rw[hg]at h;simp only[guK]at h;have hw:zAp ops ts o=true:=by simp[zAp,hg]
    refine .inl ⟨hw,?_⟩;cases hr:rog P G true Tab.nil o.op (ev ts) H with
    | call f a=>rw[hr]at h; exact h.elim
    | bad=>rw[hr]at h; exact h.elim
    | ok r =>
     rw[hr]at h;have hr2:aop P G o.op (ev ts) H=some r:=by
      have hnc:∀ f args tys,o.op≠.call { callee:=.value f,args:=args,argTypes:=tys }:=fun f args tys e=>by
       rw[e]at hr;rw[rog_nil_call]at hr;cases hr
      unfold rog roOf at hr
      split at hr
      ·rename_i hop; exact absurd hop (hnc _ _ _)
      ·split at hr
       ·rename_i hh;cases hr; exact hh
       ·cases hr
     obtain⟨e1,e2⟩:=aop_read1 hq.1 hr2 h.1;exact⟨r.v,e1,symG_runG (g:=true) hk l _ _ _ hq.2 h.2⟩
 | (i,false)::l,W,ts,H,hq,h=>by
  unfold symG at h;simp only[qtB]at hq;show zCn P G ops imp i ts H fun ts' H'=>(imp i=true->W i H')/\runG P G ops M imp (fun _=>K') l W ts' H'
  cases ho:ops[i]? with
  | none=>rw[ho]at h; exact h.elim
  | some o =>
   rw[ho]at h;simp only[opJ]at h;cases hg:o.guard with
   | some q=>rw[hg]at h; exact h.elim
   | none =>
    rw[hg]at h;simp only[guK]at h;have hw:zAp ops ts o=true:=by simp[zAp,hg]
    unfold zCn;simp only[ho];rw[if_pos hw]
    split
    ·rename_i f args tys hop;rw[hop,rog_nil_call]at h;obtain⟨hi,h⟩:=h;rw[if_pos hi];exact ACV.mono h fun v H' h'=>⟨fun _=>h'.1,symG_runG (g:=true) hk l _ _ _ hq h'.2⟩
    ·rename_i hop;cases hr:rog P G true Tab.nil o.op (ev ts) H with
     | call f a =>
      exfalso
      unfold rog roOf at hr
      split at hr
      ·rename_i hop'; exact hop _ _ _ hop'
      ·split at hr <;> cases hr
     | bad=>rw[hr]at h; exact h.elim
     | ok r =>
      rw[hr]at h;unfold rog roOf at hr
      split at hr
      ·rename_i hop'; exact absurd hop' (hop _ _ _)
      ·split at hr
       ·rename_i hh;cases hr;exact⟨r,hh,h.1,h.2.1,symG_runG (g:=true) hk l _ _ _ hq h.2.2⟩
       ·cases hr
theorem FW.walkG(hm:P.follows .mixedOrders=true){ops:Array Oper}{imp:Nat->Bool}{l:List (Nat × Bool)}(hB:ordGB ops imp l=true)(hq:qtB ops l=true){rd:Option Nat}{n id:Nat}{k:List Item}{Q:Lv->(Nat->AV)->List AO->Prop}{ts:Nat->AV}{H:List AO}
  (h:symG P G Tab.nil ops (wt ops) imp (fun _ ts H=>FW P G rd n k ts H Q) true l WT ts H):FW P G rd n (.code (.region id ops true)::k) ts H Q :=
 FW.drawG hm hB (symG_runG (fun _ _ h=>h) l _ _ _ hq h)
end
end Go.Ab
