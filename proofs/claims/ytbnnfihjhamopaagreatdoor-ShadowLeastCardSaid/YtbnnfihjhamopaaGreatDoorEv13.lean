/- One of the texts that this claim stands on. -/
import Derived.Test.YtbnnfihjhamopaaGreatDoorEv3
import Derived.Recover
set_option maxHeartbeats 40000000
set_option maxRecDepth 400000
set_option linter.all false
namespace Go.Ab
section
variable (P:Program) (G:Gl)
def ACP(f:FuncId)(args:List AV)(H:List AO)(K Kp:AV->List AO->Prop):Prop :=
 zDb P f/\∀(E:En) (w:World) (vargs:Array Value),RelH G w E H->RepL w E args vargs->∀ cs:List Frame,
  ∃ v H' E' w',RelH G w' E' H'/\Grow H E w H' E' w'/\∃(r:Value) (fr:Frame),RepV w' E' v r/\Steps P (lone (Frame.enter P f vargs .normal) cs w) (lone fr cs w')/\fr.fn=f /\
   ((K v H'/\fr.leaving P w' (.returned r))\/(Kp v H'/\fr.leaving P w' (.panicked [{ v:=r,recovered:=false }])))
def ACD(f:FuncId)(args:List AV)(H:List AO)(pv:Option AV)(K:Bool->List AO->Prop):Prop :=
 zDb P f/\∀(E:En) (w:World) (vargs:Array Value),RelH G w E H->RepL w E args vargs->∀(c:Frame) (cs:List Frame) (r:Value),
  (match pv with
   | none=>c.mode=.returning
   | some a=>c.mode=.panicking [{ v:=r,recovered:=false }]/\RepV w E a r) ->
  ∃ b H' E' w',K b H'/\RelH G w' E' H'/\Grow H E w H' E' w'/\Steps P (lone (Frame.enter P f vargs .deferred) (c::cs) w) (lone { c with mode:=(match b with | true=>.returning | false=>c.mode) } cs w')
end
section
variable {P:Program} {G:Gl}
theorem ACP.mono{f:FuncId}{args:List AV}{H:List AO}{K Kp K' Kp':AV->List AO->Prop}(h:ACP P G f args H K Kp)(hk:∀ v H',K v H'->K' v H')(hp:∀ v H',Kp v H'->Kp' v H'):ACP P G f args H K' Kp':=by
 refine⟨h.1,fun E w vargs hH hA cs=>?_⟩;obtain⟨v,H',E',w',h1,h2,r,fr,h3,h4,h5,h6⟩:=h.2 E w vargs hH hA cs;refine⟨v,H',E',w',h1,h2,r,fr,h3,h4,h5,?_⟩
 rcases h6 with ⟨h6,h7⟩ | ⟨h6,h7⟩
 ·exact .inl ⟨hk _ _ h6,h7⟩
 ·exact .inr ⟨hp _ _ h6,h7⟩
end
section
variable {P:Program} {G:Gl}
def isRecover:Op->Bool
 | .call ⟨.builtin .recover,as,_⟩=>as.isEmpty
 | _=>false
def StopAt(n:Nat)(ts:Nat->AV)(t:List Item)(o:Oper)(t':List Item):Prop:=∃ ops i rest k,t=.inRegion ops (i::rest)::k/\ops[i]?=some o/\zAo ops ts o=true/\t'=.inRegion ops rest::k/\zDc n t=true
def DAft(P:Program)(G:Gl)(rs:Array ResultVar)(K:List AO->Prop):Lv->(Nat->AV)->List AO->Prop :=
 fun L ts H=>(L=.nor\/L=.ret)/\(∃ u,resA P G rs ts H=some u)/\K H
def DBef(P:Program)(G:Gl)(rs:Array ResultVar)(n:Nat)(pv:Option AV)(K:Bool->List AO->Prop):Lv->(Nat->AV)->List AO->Prop :=
 fun L ts H=>DAft P G rs (K false) L ts H \/
  ∃ t o t',L=.stop t/\StopAt n ts t o t'/\isRecover o.op=true/\FW P G none n t' (put ts o.dst (pv.getD (.c .nilIface))) H (DAft P G rs (K pv.isSome))
theorem StopAt.ok{n:Nat}{ts:Nat->AV}{t t':List Item}{o:Oper}(h:StopAt n ts t o t'):zDc n t'=true:=by
 obtain⟨ops,i,rest,k,rfl,ho,hw,rfl,hk⟩:=h;rw[zAl,zA]at hk ⊢;exact⟨hk.1,hk.2⟩
theorem FW.stop{rd:Option Nat}{n:Nat}{todo:List Item}{ts:Nat->AV}{H:List AO}{Q:Lv->(Nat->AV)->List AO->Prop}(hs:∃ ops i rest k,todo=.inRegion ops (i::rest)::k)(hQ:zDc n todo=true->Q (.stop todo) ts H):FW P G rd n todo ts H Q:=by
 intro hk
 exact FW.leave (P:=P) (G:=G) (rd:=rd) (n:=n) (.stop todo) ⟨rfl,hs⟩ trivial (hQ hk) hk
end
section
variable (P:Program) (G:Gl)
def PQ(rs:Array ResultVar)(K Kp:AV->List AO->Prop):Lv->(Nat->AV)->List AO->Prop:=fun L ts H =>
 ((L=.nor\/L=.ret)/\∃ v,resA P G rs ts H=some v/\K v H)\/∃ v,L=.pan v/\Kp v H
def DQ(rs:Array ResultVar)(g:FuncId)(as:List AV)(K Kp:AV->List AO->Prop):Lv->(Nat->AV)->List AO->Prop:=fun L ts H =>
 ((L=.nor\/L=.ret)/\ACD P G g as H none fun _ H'=>∃ v,resA P G rs ts H'=some v/\K v H') \/
 ∃ pv,L=.pan pv/\ACD P G g as H (some pv) fun b H'=>match b with
  | true=>∃ v,resA P G rs ts H'=some v/\K v H'
  | false=>Kp pv H'
def BQ(rs:Array ResultVar)(n:Nat)(K Kp:AV->List AO->Prop):Lv->(Nat->AV)->List AO->Prop:=fun L ts H=>PQ P G rs K Kp L ts H \/
 ∃ t o t' f args tys g first caps,L=.stop t/\StopAt n ts t o t'/\o.op=.defer { callee:=.value f,args:=args,argTypes:=tys }/\ev ts f=.fn g first caps /\
  FW P G none n t' (put ts o.dst .un) H (DQ P G rs g (first++(args.toList.map (ev ts)++caps)) K Kp)
end
end Go.Ab
