/- One of the texts that this claim stands on. -/
import Derived.Test.YtnfnhccebebflaaGreatEv17
import Derived.KernelRfl
set_option maxHeartbeats 40000000
set_option maxRecDepth 400000
set_option linter.all false
namespace Go.Ab
theorem kw2:(∀ {c:Prop} {v:AV} {H:List AO} {k:Bool→AV→List AO→Prop} {kc:Bool→AV→List AV→Prop} {e:Prop},roK (.ok ⟨c,v,H⟩) k kc e=(c∧k true v H)) ∧
 (∀ {f:AV} {a:List AV} {k:Bool→AV→List AO→Prop} {kc:Bool→AV→List AV→Prop} {e:Prop},roK (.call f a) k kc e=kc true f a) ∧
 (∀ {k:Bool→AV→List AO→Prop} {kc:Bool→AV→List AV→Prop} {e:Prop},roK .bad k kc e=e) ∧
 (∀ {d:Option Nat} {op:Op} {t:TypeId} {p:String} {a:Array Edge} {g:Option (Nat × Bool)} {k:Bool→Option Nat→Op→Option (Nat × Bool)→Prop} {e:Prop}, opK (some { dst:=d,op:=op,type:=t,pos:=p,after:=a,guard:=g }) k e=k true d op g) ∧
 (∀ {j:Nat} {b:Bool} {e:Bool→Prop} {k:Bool→Nat→Bool→Prop},guK (some (j,b)) e k=k true j b) ∧
 (∀ {e:Bool→Prop} {k:Bool→Nat→Bool→Prop},guK none e k=e true) ∧
 (∀ {o:List Item} {k:Bool→List Item→Prop} {e:Prop},exK (some o) k e=k true o) ∧
 (∀ {k:Bool→List Item→Prop} {e:Prop},exK none k e=e) ∧
 (∀ {o:Nat} {k:Bool→Nat→Prop} {e:Prop},tmK (some o) k e=k true o) ∧
 (∀ {k:Bool→Bool→Prop} {e:Prop},gdK (.c (.bool true)) k e=k true true) ∧
 (∀ {k:Bool→Bool→Prop} {e:Prop},gdK (.c (.bool false)) k e=k true false) ∧
 (∀ {p:Prop} [Decidable p] {k:Bool→Bool→Prop} {e:Prop},gdK (.c (.bool (decide p))) k e=((p→k true true)∧(¬p→k true false))) ∧
 (∀ {b:Bool} {k:Bool→Bool→Prop} {e:Prop},gdK (.c (.bool !b)) k e=gdK (.c (.bool b)) (fun g b=>k g !b) e) ∧
 (∀ {k:Bool→Bool→Prop} {sk:Bool→Prop} {e:Prop},gsK (.c (.bool true)) k sk e=k true true) ∧
 (∀ {k:Bool→Bool→Prop} {sk:Bool→Prop} {e:Prop},gsK (.c (.bool false)) k sk e=k true false) ∧
 (∀ {k:Bool→Bool→Prop} {sk:Bool→Prop} {e:Prop},gsK .un k sk e=sk true) ∧
 (∀ {p:Prop} [Decidable p] {k:Bool→Bool→Prop} {sk:Bool→Prop} {e:Prop},gsK (.c (.bool (decide p))) k sk e=((p→k true true)∧(¬p→k true false))) ∧
 (∀ {b:Bool} {k:Bool→Bool→Prop} {sk:Bool→Prop} {e:Prop},gsK (.c (.bool !b)) k sk e=gsK (.c (.bool b)) (fun g b=>k g !b) sk e) :=
 ⟨@roK_ok,@roK_call,@roK_bad,@opK_some,@guK_some,@guK_none,@exK_some,@exK_none,@tmK_some,@gdK_true,@gdK_false,@gdK_dec,@gdK_not,@gsK_true,@gsK_false,@gsK_un,@gsK_dec,@gsK_not⟩
attribute [push_cast] sy_nil symR_nil beq_self_eq_true Int.cast_ofNat_Int false_or true_or or_true or_false tcall roOf decide_not List.range_succ List.range_zero List.nil_append List.cons_append List.append_nil List.size_toArray List.length_cons List.length_nil List.length_append Nat.zero_add List.getElem?_toArray List.getElem?_cons_zero List.getElem?_cons_succ List.getElem?_nil aop ev upd Go.Ab.put aload astore zFb wrCells zDq argTs List.getD_cons_zero List.getD_cons_succ List.getD_nil AV.isEl.eq_1 AV.isEl.eq_2 AV.cells.eq_1 AV.cells.eq_2 AV.isCell.eq_1 AV.isCell.eq_2 AV.isCell.eq_3 if_true if_false Option.bind_some Option.map_some Option.some.injEq true_and and_true ofV List.append_assoc List.drop_zero List.drop_succ_cons List.drop_nil List.take_succ_cons List.take_zero List.take_nil List.set_cons_zero List.set_cons_succ aBin aBinI aInt aIdx aPart aField zEj reEl pickA aBuild aFill slv Nat.le_refl ne_eq not_true_eq_false not_false_eq_true Int.toNat_zero Int.toNat_one Int.zero_add decide_true decide_false Bool.not_true Bool.not_false cond_true cond_false forall_const true_implies false_implies implies_true exitTo List.map_cons List.map_nil Option.map_none Option.toList_some Option.toList_none eq_self Bool.true_eq_false Bool.false_eq_true List.contains_nil Nat.add_zero and_self Tab.ext Tab.nil resA resL resVar aop2 zFh kw0 kw1 Option.getD_some
structure Ent(P:Program)(f:FuncId)(fn:Func)(dl:List Nat)(a:Nat):Prop where
 hf:P.funcs[f]?=some fn
 hb:fn.body=some (fn.body.getD .skip)
 hn:(fn.name== "runtime.NumGoroutine")=false:=by decide
 ho:zBo fn.ntmps (fn.body.getD .skip)=true:=by kernel_rfl
 hr:resOk fn.ntmps fn.results=true:=by kernel_rfl
 ha:a≤fn.ntmps:=by decide
 hd:zFk dl [.code (fn.body.getD .skip)]=true:=by kernel_rfl
theorem Ent.go{P:Program}{G:Gl}{f:FuncId}{fn:Func}{dl:List Nat}{a:Nat}(e:Ent P f fn dl a)(hm:P.follows .mixedOrders=true){T:Tab}(hT:TOk P G T)(u:Nat){args:List AV}(hl:args.length=a){H:List AO}{K:AV→List AO→Prop}
  (h:sy P G T dl 3000 true u none fn.ntmps [.code (fn.body.getD .skip)] (argTs args) H fun L ts' H'=>(L=.nor∨L=.ret)∧∃ v,resA P G fn.results ts' H'=some v∧K v H'):AC P G f args H K :=
 AC.of_body e.hf e.hb e.hn e.ho e.hr (hl ▸ e.ha) (walk hm hT dl 3000 u e.hd h)
end Go.Ab
