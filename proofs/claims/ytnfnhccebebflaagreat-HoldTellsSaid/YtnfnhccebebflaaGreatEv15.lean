/- One of the texts that this claim stands on. -/
import Derived.Test.YtnfnhccebebflaaGreatEv10
import Derived.Test.YtnfnhccebebflaaGreatEv11
import Derived.Test.YtnfnhccebebflaaGreatEv12
import Derived.Test.YtnfnhccebebflaaGreatEv13
import Derived.Test.YtnfnhccebebflaaGreatEv14
set_option maxHeartbeats 40000000
set_option maxRecDepth 400000
set_option linter.all false
namespace Go.Ab
inductive FI where
 | fn (rs:Array ResultVar)
 | rnd (id:Nat)
 | fnD (rs:Array ResultVar) (g:FuncId) (as:List AV)
 | df (rs:Array ResultVar) (pv:Option AV)
 | da (rs:Array ResultVar) (pv:Option AV)
def FI.rd:FI→Option Nat
 | .rnd id=>some id
 | _=>none
structure WE where
 i:Nat
 op:Op
 ts:TT
 v:AV
abbrev Nx:=Option (Array Oper × List (Nat × Bool))
inductive XI where
 | code (c:Code)
 | inBlock (id:Nat)
 | inLoop (c:Code)
 | inScope (c:Code)
 | beginRound
 | reg (ops:Array Oper) (i:Nat) (l:List Oper)
 | dreg (ops:Array Oper) (nx:Nx) (l:List (Nat × Bool)) (W:List WE) (c:Option Nat)
inductive SF where
 | val (fi:FI) (n:Nat) (dst:Option Nat) (todo:List XI) (ts:TT)
 | lp (fi:FI) (n:Nat) (id:Nat) (todo:List XI) (ts:TT)
 | dr (fi:FI) (n:Nat) (dst:Option Nat) (j:Nat) (ops:Array Oper) (nx:Nx) (l:List (Nat × Bool)) (W:List WE) (todo:List XI) (ts:TT)
 | dfr (rs:Array ResultVar) (ts:TT) (md:Option AV)
structure Fr where
 fi:FI
 n:Nat
 st:List SF
abbrev Rec:=Fr→List XI→TT→Hp→Option AV
abbrev Tb:=FuncId→List AV→Option AV
structure XE where
 te:Tr TI
 G:Gl
 ft:Tr Func
 tb:Tb
 sb:Tr Unit
 fz:Tr Unit
 im:Array Oper→Bool
 mz:Option FuncId
def impOf(ops:Array Oper)(i:Nat):Bool:=match ops[i]? with
 | some o=>match clOf o.op with
  | .call=>true
  | .store=>true
  | .any=>true
  | _=>false
 | none=>false
def mfull(ops:Array Oper)(nx:Nx):Array Oper:=match nx with
 | some (o,_)=>o
 | none=>ops
def Tr.mapI{α:Type}(f:Nat→α):Tr α→(Nat→Nat)→Tr α
 | .lf,_=>.lf
 | .nd v l r,ix=>.nd (match v with | some _=>some (f (ix 0)) | none=>none) (l.mapI f fun i=>ix (2*i+1)) (r.mapI f fun i=>ix (2*i+2))
 | .ov t i v,ix=>.ov (t.mapI f ix) i (f (ix i))
def Tr.allI{α:Type}(p:Nat→α→Bool):Tr α→(Nat→Nat)→Bool
 | .lf,_=>true
 | .nd v l r,ix=>(match v with | some a=>p (ix 0) a | none=>true)&&(l.allI p fun i=>ix (2*i+1))&&(r.allI p fun i=>ix (2*i+2))
 | .ov _ _ _,_=>false
theorem Tr.get_mapI{α:Type}{f:Nat→α}:∀ {t:Tr α} {ix:Nat→Nat} {i:Nat} {a:α},(t.mapI f ix).get i=some a→t.allI (fun _ _=>true) ix=true→a=f (ix i)
 | .lf,ix,i,a,h,_=>by rw[Tr.mapI,Tr.get_lf]at h; cases h
 | .nd v l r,ix,i,a,h,ha=>by
  simp only[Tr.allI,Bool.and_eq_true]at ha;cases i with
  | zero =>
   simp only[Tr.mapI]at h; first | rw[Tr.get_nd0]at h | rw[Tr.get_ndS]at h
   cases v <;> simp at h
   exact h.symm
  | succ k =>
   simp only[Tr.mapI]at h; first | rw[Tr.get_nd0]at h | rw[Tr.get_ndS]at h
   split at h
   ·rename_i hk;rw[Tr.get_mapI h ha.1.2];have h1:k % 2=0:=hk;have h2:2*Nat.div k 2+1=k+1:=by show 2*(k / 2)+1=k+1; omega
    rw[h2]
   ·rename_i m hk;rw[Tr.get_mapI h ha.2];have h1:k % 2=m+1:=hk;have h2:2*Nat.div k 2+2=k+1:=by show 2*(k / 2)+2=k+1; omega
    rw[h2]
 | .ov t j v,ix,i,a,h,ha=>by cases ha
theorem Tr.get_allI{α:Type}{p:Nat→α→Bool}:∀ {t:Tr α} {ix:Nat→Nat} {i:Nat} {a:α},t.get i=some a→t.allI p ix=true→p (ix i) a=true
 | .lf,ix,i,a,h,_=>by rw[Tr.get_lf]at h; cases h
 | .nd v l r,ix,i,a,h,ha=>by
  simp only[Tr.allI,Bool.and_eq_true]at ha;cases i with
  | zero =>
   first | rw[Tr.get_nd0]at h | rw[Tr.get_ndS]at h
   have:=ha.1.1;rw[h]at this;exact this
  | succ k =>
   first | rw[Tr.get_nd0]at h | rw[Tr.get_ndS]at h
   split at h
   ·rename_i hk;have h3:=Tr.get_allI h ha.1.2;have h1:k % 2=0:=hk;have h2:2*Nat.div k 2+1=k+1:=by show 2*(k / 2)+1=k+1; omega
    rwa [h2]at h3
   ·rename_i m hk;have h3:=Tr.get_allI h ha.2;have h1:k % 2=m+1:=hk;have h2:2*Nat.div k 2+2=k+1:=by show 2*(k / 2)+2=k+1; omega
    rwa [h2]at h3
 | .ov t j v,ix,i,a,h,ha=>by cases ha
def mkTI(P:Program)(t:TypeId):TI :=
 { und:=(P.underlying t).getD .invalid,agg:=(aggT P t).getD false,sz:=(szT P t).getD 0,byt:=(zCc P t).getD 0,zc:=zeroCells P t,ze:=zBj P t,eqg:=P.eqGuardType P.depth t,held:=P.stoodInHeld t }
def someTI(P:Program)(t:TypeId):Bool:=(P.underlying t).isSome&&(aggT P t).isSome&&(szT P t).isSome&&(zCc P t).isSome
theorem Tr.allI_mono{α:Type}{p q:Nat→α→Bool}(h:∀ i a,p i a=true→q i a=true):∀ {t:Tr α} {ix:Nat→Nat},t.allI p ix=true→t.allI q ix=true
 | .lf,ix,_=>rfl
 | .nd v l r,ix,ha=>by
  simp only[Tr.allI,Bool.and_eq_true]at ha ⊢;refine⟨⟨?_,Tr.allI_mono h ha.1.2⟩,Tr.allI_mono h ha.2⟩;cases v with
  | none=>rfl
  | some a=>exact h _ _ ha.1.1
 | .ov t j v,ix,ha=>by cases ha
theorem TEok.of{P:Program}{te:Tr TI}(h:te.mapI (mkTI P) id=te)(h2:te.allI (fun t _=>someTI P t) id=true):TEok P te:=by
 intro t i hi
 have h3:=Tr.get_allI hi h2;have h4:te.allI (fun _ _=>true) id=true:=Tr.allI_mono (fun _ _ _=>rfl) h2;rw[← h]at hi;have h5:=Tr.get_mapI hi h4;simp only[id]at h3 h5;subst h5;simp only[someTI,Bool.and_eq_true]at h3;obtain⟨⟨⟨a,b⟩,c⟩,d⟩:=h3;obtain⟨x1,e1⟩:=Option.isSome_iff_exists.1 a;obtain⟨x2,e2⟩:=Option.isSome_iff_exists.1 b;obtain⟨x3,e3⟩:=Option.isSome_iff_exists.1 c;obtain⟨x4,e4⟩:=Option.isSome_iff_exists.1 d;simp[mkTI,e1,e2,e3,e4]
def feOk(fn:Func):Bool:=(match fn.body with | some c=>zBo fn.ntmps c | none=>false)&&resOk fn.ntmps fn.results&&!(fn.name== "runtime.NumGoroutine")
def FTok(P:Program)(ft:Tr Func):Prop:=∀ f fn,ft.get f=some fn→P.funcs[f]?=some fn∧feOk fn=true
theorem FTok.of{P:Program}{ft:Tr Func}(h:ft.mapI (fun i=>(P.funcs[i]?).getD default) id=ft)(h2:ft.allI (fun i fn=>(P.funcs[i]?).isSome&&feOk fn) id=true):FTok P ft:=by
 intro f fn hi
 have h3:=Tr.get_allI hi h2;have h4:ft.allI (fun _ _=>true) id=true:=Tr.allI_mono (fun _ _ _=>rfl) h2;rw[← h]at hi;have h5:=Tr.get_mapI hi h4;simp only[id,Bool.and_eq_true]at h3 h5;obtain⟨x1,e1⟩:=Option.isSome_iff_exists.1 h3.1;rw[e1]at h5;simp only[Option.getD_some]at h5;subst h5;exact⟨e1,h3.2⟩
def XI.abs:XI→Item
 | .code c=>.code c
 | .inBlock id=>.inBlock id
 | .inLoop c=>.inLoop c
 | .inScope c=>.inScope c
 | .beginRound=>.beginRound
 | .reg ops i l=>.inRegion ops (List.range' i l.length)
 | .dreg _ _ _ _ _=>.beginRound
def okX:XI→Prop
 | .reg ops i l=>l=ops.toList.drop i
 | .dreg _ _ _ _ _=>False
 | _=>True
def okT(todo:List XI):Prop:=∀ it∈todo,okX it
theorem okT.cons{it:XI}{k:List XI}(h:okX it)(hk:okT k):okT (it::k):=fun x hx=>by
 rcases List.mem_cons.1 hx with rfl | h1
 ·exact h
 ·exact hk x h1
def okF:SF→Prop
 | .val _ _ _ todo _=>okT todo
 | .lp _ _ _ todo _=>okT todo
 | .dr _ _ _ _ _ _ _ _ todo _=>okT todo
 | .dfr _ _ _=>True
def okS(st:List SF):Prop:=∀ f∈st,okF f
theorem okS.cons{f:SF}{st:List SF}(h:okF f)(hk:okS st):okS (f::st):=fun x hx=>by
 rcases List.mem_cons.1 hx with rfl | h1
 ·exact h
 ·exact hk x h1
section
variable (P:Program) (G:Gl)
structure QQ where
 r:AV→List AO→Prop
 p:AV→List AO→Prop
 d:Bool→List AO→Prop
def LeaveQ(fi:FI)(n:Nat)(q:QQ):Lv→(Nat→AV)→List AO→Prop :=
 match fi with
 | .fn rs=>BQ P G rs n q.r q.p
 | .rnd id=>fun L ts' H'=>L.plain=true∧∃ al':ALoop,H'[id]?=some (.loop al')∧q.r (.c (.bool (zBq L).isNone)) (H'.set id (.loop { al' with st:=if (zBq L).isNone then .ready else .done,pending:=zBq L }))
 | .fnD rs g as=>DQ P G rs g as q.r q.p
 | .df rs pv=>DBef P G rs n pv q.d
 | .da rs pv=>DAft P G rs (q.d pv.isSome)
def WP(ops:Array Oper)(W:List WE)(j:Nat):List AO→Prop:=fun H=>∀ e∈W,wt ops j e.i=false→aop P G e.op (ev e.ts.get) H=some ⟨True,e.v,H⟩
def NxK(K:(Nat→AV)→List AO→Prop):Nx→(Nat→List AO→Prop)→(Nat→AV)→List AO→Prop
 | none=>fun _=>K
 | some (ops,l)=>fun W ts H=>runG P G ops (wt ops) (impOf ops) (fun _=>K) l W ts H
def QS(goal:AV):List SF→QQ
 | []=>⟨fun v H=>∃ m,frz m H v=some goal,fun _ _=>False,fun _ _=>False⟩
 | .val fi n dst todo ts::st=>⟨fun v H=>FW P G fi.rd n (todo.map XI.abs) (put ts.get dst v) H (LeaveQ P G fi n (QS goal st)),fun v H=>LeaveQ P G fi n (QS goal st) (.pan v) ts.get H,fun _ _=>False⟩
 | .lp fi n id todo ts::st=>⟨fun v H1=>∃ al:ALoop,H1[id]?=some (.loop al)∧al.st≠.busy ∧
   FW P G fi.rd n ((al.pending.map Item.code).toList++todo.map XI.abs) ts.get (H1.set id .dead) (LeaveQ P G fi n (QS goal st)),fun _ _=>False,fun _ _=>False⟩
 | .dr fi n dst j ops nx l W todo ts::st=>⟨fun v H=>WP P G (mfull ops nx) W j H ∧
   runG P G ops (wt (mfull ops nx)) (impOf ops) (NxK P G (fun ts H=>FW P G fi.rd n (todo.map XI.abs) ts H (LeaveQ P G fi n (QS goal st))) nx) l (WP P G (mfull ops nx) W) (put ts.get dst v) H,fun _ _=>False,fun _ _=>False⟩
 | .dfr rs ts md::st=>⟨fun _ _=>False,fun _ _=>False,fun b H=>match md with
   | none=>∃ v,resA P G rs ts.get H=some v∧(QS goal st).r v H
   | some pv=>match b with
    | true=>∃ v,resA P G rs ts.get H=some v∧(QS goal st).r v H
    | false=>(QS goal st).p pv H⟩
def Owe(fr:Fr)(todo:List XI)(ts:TT)(H:Hp)(goal:AV):Prop:=FW P G fr.fi.rd fr.n (todo.map XI.abs) ts.get H.abs (LeaveQ P G fr.fi fr.n (QS P G goal fr.st))
def OweD(fr:Fr)(ops:Array Oper)(nx:Nx)(l:List (Nat × Bool))(W:List WE)(k:List XI)(ts:TT)(H:Hp)(goal:AV):Prop :=
 runG P G ops (wt (mfull ops nx)) (impOf ops) (NxK P G (fun ts H=>FW P G fr.fi.rd fr.n (k.map XI.abs) ts H (LeaveQ P G fr.fi fr.n (QS P G goal fr.st))) nx) l (WP P G (mfull ops nx) W) ts.get H.abs
def RecOk(rec:Rec):Prop:=(∀ fr todo ts H goal,okT todo→okS fr.st→rec fr todo ts H=some goal→Owe P G fr todo ts H goal) ∧
 ∀ fr ops nx l W c k ts H goal,okT k→okS fr.st→rec fr (.dreg ops nx l W c::k) ts H=some goal→(∀ j,c=some j→WP P G (mfull ops nx) W j H.abs)∧OweD P G fr ops nx l W k ts H goal
end
structure EOk(P:Program)(E:XE):Prop where
 mix:P.follows .mixedOrders=true
 te:TEok P E.te
 ft:FTok P E.ft
 gp:GPure E.G
 tb:∀ f args v,E.tb f args=some v→Pur P E.G f args v
 mz:∀ f,E.mz=some f→MZ P f
def chk(o:Option AV)(v:AV):Bool:=match o with
 | some u=>aeq u v
 | none=>false
end Go.Ab
