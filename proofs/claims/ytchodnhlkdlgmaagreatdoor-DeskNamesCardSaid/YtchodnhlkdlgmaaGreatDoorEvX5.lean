/-
  The evaluator: a program's code carried out on abstract values by the kernel; what it hands back is what a call hands back.
-/
import Derived.Test.YtchodnhlkdlgmaaGreatDoorEvX4
import Derived.Test.YtchodnhlkdlgmaaGreatDoorEvFg
import Derived.Test.YtchodnhlkdlgmaaGreatDoorEvR6
import Derived.Test.YtchodnhlkdlgmaaGreatDoorEvR13
import Derived.Test.YtchodnhlkdlgmaaGreatDoorEvDr
import Derived.Test.YtchodnhlkdlgmaaGreatDoorEvFi
set_option linter.unusedVariables false
set_option linter.unusedSimpArgs false
namespace Go.Ab

/-- What a frame is of: a function (with a deferred call, or none); a round; a deferred call that has not asked what was thrown, or has. -/
inductive FI where
  | fn (rs : Array ResultVar)
  | rnd (id : Nat)
  | fnD (rs : Array ResultVar) (g : FuncId) (as : List AV)
  | df (rs : Array ResultVar) (pv : Option AV)
  | da (rs : Array ResultVar) (pv : Option AV)
def FI.rd : FI → Option Nat
  | .rnd id => some id
  | _ => none

/-- What was read early, and is to read the same behind a call. -/
structure WE where
  i : Nat
  op : Op
  ts : TT
  v : AV

/-- What stands behind the barrier of a region: all its operations, and their order. -/
abbrev Nx := Option (Array Oper × List (Nat × Bool))
/-- What is left to do in a frame. -/
inductive XI where
  | code (c : Code)
  | inBlock (id : Nat)
  | inLoop (c : Code)
  | inScope (c : Code)
  | beginRound
  | reg (ops : Array Oper) (i : Nat) (l : List Oper)
  | dreg (ops : Array Oper) (nx : Nx) (l : List (Nat × Bool)) (W : List WE) (c : Option Nat)

inductive SF where
  | val (fi : FI) (n : Nat) (dst : Option Nat) (todo : List XI) (ts : TT)
  | lp (fi : FI) (n : Nat) (id : Nat) (todo : List XI) (ts : TT)
  | dr (fi : FI) (n : Nat) (dst : Option Nat) (j : Nat) (ops : Array Oper) (nx : Nx) (l : List (Nat × Bool)) (W : List WE) (todo : List XI) (ts : TT)
  | dfr (rs : Array ResultVar) (ts : TT) (md : Option AV)

structure Fr where
  fi : FI
  n : Nat
  st : List SF

abbrev Rec := Fr → List XI → TT → Hp → Option AV

noncomputable def xfrz (H : Hp) (v : AV) : Option AV := match AV.pur v with
  | true => some v
  | false => match frz 30 H.abs v with
    | some u => fcA u some
    | none => none
theorem xfrz_sound {H : Hp} {v u : AV} (h : xfrz H v = some u) : ∃ m, frz m H.abs v = some u := by
  unfold xfrz at h
  split at h
  · rename_i hp
    cases h
    exact ⟨1, by simp [frz, hp]⟩
  · split at h
    · rename_i u' hu
      rw [fcA_eq] at h
      cases h
      exact ⟨30, hu⟩
    · cases h

noncomputable def xretV (fi : FI) (n : Nat) (dst : Option Nat) (todo : List XI) (ts : TT) (rec : Rec) (st : List SF) (v : AV) (H : Hp) : Option AV := ts.putK dst v fun ts => rec ⟨fi, n, st⟩ todo ts H
noncomputable def xretL (fi : FI) (n : Nat) (id : Nat) (todo : List XI) (ts : TT) (rec : Rec) (st : List SF) (v : AV) (H : Hp) : Option AV := match H.get id with
      | some (.loop al) => match al.st with
        | .busy => none
        | _ => match al.pending with
          | none => H.setK id .dead fun H => rec ⟨fi, n, st⟩ todo ts H
          | some c => H.setK id .dead fun H => rec ⟨fi, n, st⟩ (.code c :: todo) ts H
      | _ => none
noncomputable def xretD (fi : FI) (n : Nat) (dst : Option Nat) (j : Nat) (ops : Array Oper) (nx : Nx) (l : List (Nat × Bool)) (W : List WE) (todo : List XI) (ts : TT) (rec : Rec) (st : List SF) (v : AV) (H : Hp) : Option AV :=
  ts.putK dst v fun ts => rec ⟨fi, n, st⟩ (.dreg ops nx l W (some j) :: todo) ts H
noncomputable def xret (rec : Rec) (st : List SF) (v : AV) (H : Hp) : Option AV := match st with
  | [] => xfrz H v
  | f :: st => (match f with
    | .val fi n dst todo ts => xretV fi n dst todo ts
    | .lp fi n id todo ts => xretL fi n id todo ts
    | .dr fi n dst j ops nx l W todo ts => xretD fi n dst j ops nx l W todo ts
    | .dfr _ _ _ => fun _ _ _ _ => none) rec st v H

noncomputable def xresL (te : Tr TI) (G : Gl) (ts : TT) (H : Hp) : List ResultVar → (List AV → Option AV) → Option AV
  | [], k => k []
  | r :: l, k => match r with
    | .tmp t => fcT (ts.get t) fun v => xresL te G ts H l fun vs => k (v :: vs)
    | .cell a t => fcT (ts.get a) fun a => xload te G t a H fun v => xresL te G ts H l fun vs => k (v :: vs)
noncomputable def xres (te : Tr TI) (G : Gl) (rs : Array ResultVar) (ts : TT) (H : Hp) (k : AV → Option AV) : Option AV := xresL te G ts H rs.toList fun vs => match vs with
  | [v] => k v
  | vs => k (.tup vs)

noncomputable def xleaveF (rs : Array ResultVar) (te : Tr TI) (G : Gl) (rec : Rec) (L : Lv) (ts : TT) (H : Hp) (st : List SF) : Option AV := match L with
    | .nor => xres te G rs ts H fun v => xret rec st v H
    | .ret => xres te G rs ts H fun v => xret rec st v H
    | _ => none
noncomputable def xleaveR (id : Nat) (te : Tr TI) (G : Gl) (rec : Rec) (L : Lv) (ts : TT) (H : Hp) (st : List SF) : Option AV := match H.get id with
    | some (.loop al) => match al with
      | ⟨_, _, n, tmps, ps, a, b⟩ => match jumpOf L with
        | none => H.setK id (.loop ⟨.ready, none, n, tmps, ps, a, b⟩) fun H => xret rec st (.c (.bool true)) H
        | some j => H.setK id (.loop ⟨.done, some j, n, tmps, ps, a, b⟩) fun H => xret rec st (.c (.bool false)) H
    | _ => none
noncomputable def xargs {β : Type} (l : List AV) : Nat → TT → (TT → β) → β :=
  List.rec (motive := fun _ => Nat → TT → (TT → β) → β) (fun _ t k => k t) (fun a _ ih i t k => t.setK i a fun t => fcN (Nat.succ i) fun i => ih i t k) l
noncomputable def xpars {β : Type} : List Tmp → List AV → TT → (TT → β) → β
  | [], _, t, k => k t
  | p :: ps, as, t, k => match as with
    | [] => k t
    | a :: as => t.setK p a fun t => xpars ps as t k

theorem xargs_sound {β : Type} {k : TT → Option β} {r : β} : ∀ {l m : List AV} {t : TT}, t.get = argTs m → xargs l m.length t k = some r → ∃ t' : TT, t'.get = argTs (m ++ l) ∧ k t' = some r
  | [], m, t, ht, h => ⟨t, by simpa using ht, h⟩
  | a :: l, m, t, ht, h => by
    have h0 : (t.setK m.length a fun t => fcN (Nat.succ m.length) fun i => xargs l i t k) = some r := h
    simp only [TT.setK_eq, fcN_eq] at h0
    have e : (t.set m.length a).get = argTs (m ++ [a]) := by
      rw [TT.get_set, ht]
      funext i
      unfold upd argTs
      by_cases hi : i = m.length
      · subst hi; simp [List.getD]
      · rw [if_neg hi]
        by_cases h2 : i < m.length
        · simp [List.getD, List.getElem?_append_left h2]
        · have h3 : m.length < i := by omega
          simp only [List.getD]
          rw [List.getElem?_append_right (by omega), List.getElem?_eq_none (show m.length ≤ i by omega), List.getElem?_eq_none (by simp; omega)]
    have h' : xargs l (m ++ [a]).length (t.set m.length a) k = some r := by simpa using h0
    obtain ⟨t', h1, h2⟩ := xargs_sound e h'
    exact ⟨t', by simpa using h1, h2⟩

theorem xpars_sound {β : Type} {k : TT → Option β} {r : β} : ∀ {ps : List Tmp} {as : List AV} {t : TT}, xpars ps as t k = some r → ∃ t' : TT, t'.get = parTs t.get ps as ∧ k t' = some r
  | [], as, t, h => ⟨t, by simp [parTs], h⟩
  | p :: ps, [], t, h => ⟨t, by simp [parTs], h⟩
  | p :: ps, a :: as, t, h => by
    simp only [xpars, TT.setK_eq] at h
    obtain ⟨t', h1, h2⟩ := xpars_sound h
    exact ⟨t', by rw [h1, TT.get_set]; rfl, h2⟩

def tt0 : TT := ⟨fun _ => .un, .lf⟩
theorem tt0_get : tt0.get = argTs [] := by
  funext i
  show (match (PT.lf : PT AV).get (way i) with | some v => v | none => AV.un) = _
  rw [PT.get_lf]; rfl

noncomputable def xenter (rec : Rec) (fn : Func) (as : List AV) (H : Hp) (st : List SF) : Option AV := match fn.body with
  | some c => lenK as 0 fun m => match Nat.ble m fn.ntmps with
    | true => xargs as 0 tt0 fun ts => rec ⟨.fn fn.results, fn.ntmps, st⟩ [.code c] ts H
    | false => none
  | none => none

abbrev Tb := FuncId → List AV → Option AV

structure XE where
  te : Tr TI
  G : Gl
  ft : Tr Func
  tb : Tb
  sb : Tr Unit
  fz : Tr Unit
  im : Array Oper → Bool
  mz : Option FuncId

noncomputable def xenterD (rec : Rec) (fn : Func) (as : List AV) (pv : Option AV) (H : Hp) (st : List SF) : Option AV := match fn.body with
  | some c => lenK as 0 fun m => match Nat.ble m fn.ntmps with
    | true => xargs as 0 tt0 fun ts => rec ⟨.df fn.results pv, fn.ntmps, st⟩ [.code c] ts H
    | false => none
  | none => none
/-- A deferred call, behind which a frame returns (none), or panics on. -/
noncomputable def xdefer (E : XE) (rec : Rec) (rs : Array ResultVar) (g : FuncId) (as : List AV) (md : Option AV) (ts : TT) (H : Hp) (st : List SF) : Option AV := match E.ft.get g with
  | some fn => xenterD rec fn as md H (.dfr rs ts md :: st)
  | none => none
noncomputable def xpan (E : XE) (rec : Rec) (v : AV) (H : Hp) : List SF → Option AV
  | [] => none
  | f :: st => match f with
    | .val fi _ _ _ ts => match fi with
      | .fn _ => xpan E rec v H st
      | .fnD rs g as => xdefer E rec rs g as (some v) ts H st
      | _ => none
    | _ => none
noncomputable def xpanL (E : XE) (rec : Rec) (fi : FI) (v : AV) (ts : TT) (H : Hp) (st : List SF) : Option AV := match fi with
  | .fn _ => xpan E rec v H st
  | .fnD rs g as => xdefer E rec rs g as (some v) ts H st
  | _ => none
noncomputable def xdone (E : XE) (rec : Rec) (b : Bool) (H : Hp) (st : List SF) : Option AV := match st with
  | .dfr rs ts md :: st => match md with
    | none => xres E.te E.G rs ts H fun v => xret rec st v H
    | some pv => match b with
      | true => xres E.te E.G rs ts H fun v => xret rec st v H
      | false => xpan E rec pv H st
  | _ => none
noncomputable def isNR (L : Lv) : Bool := match L with
  | .nor => true
  | .ret => true
  | _ => false
noncomputable def xleave (E : XE) (rec : Rec) (fr : Fr) (L : Lv) (ts : TT) (H : Hp) : Option AV := match fr with
  | ⟨fi, _, st⟩ => match fi with
    | .fn rs => xleaveF rs E.te E.G rec L ts H st
    | .rnd id => xleaveR id E.te E.G rec L ts H st
    | .fnD rs g as => match isNR L with
      | true => xdefer E rec rs g as none ts H st
      | false => none
    | .df rs _ => match isNR L with
      | true => xres E.te E.G rs ts H fun _ => xdone E rec false H st
      | false => none
    | .da rs pv => match isNR L with
      | true => xres E.te E.G rs ts H fun _ => xdone E rec pv.isSome H st
      | false => none

/-- A call that leaves memory alone, carried out on a memory of its own. -/
noncomputable def xpureF (f : FuncId) (as : List AV) (E : XE) (rec : Rec) (k : AV → Option AV) : Option AV := match AV.purL as with
      | true => match E.ft.get f with
        | some fn => match xenter rec fn as ⟨0, .lf⟩ [] with
          | some v => fcT v k
          | none => none
        | none => none
      | false => none
noncomputable def xpureA (f : FuncId) (as : List AV) (E : XE) (rec : Rec) (k : AV → Option AV) : Option AV := match E.tb f as with
    | some v => k v
    | none => xpureF f as E rec k
noncomputable def xpure (E : XE) (rec : Rec) (callee : AV) (args : List AV) (k : AV → Option AV) : Option AV := match callee with
  | .fn f first caps => fcL (first ++ (args ++ caps)) fun as => xpureA f as E rec k
  | _ => none

def isVal : List SF → Bool
  | .val _ _ _ _ _ :: _ => true
  | _ => false
/-- The library's maker of bytes. -/
noncomputable def xmz (f : FuncId) (as : List AV) (E : XE) (rec : Rec) (H : Hp) (st : List SF) : Option AV := match E.mz with
  | some g => match Nat.beq g f with
    | true => match isVal st with
      | true => match as with
        | [.c (.int .i64 n)] => toNatK n fun n => match n with
          | 0 => none
          | n' + 1 => match Nat.ble (n' + 1) 1099511627776 with
            | true => repK .any (n' + 1) fun es => fcN H.n fun id => H.pushK (.arr 1 es) fun H' => fcT (slv id (n' + 1)) fun v => xret rec st v H'
            | false => none
        | _ => none
      | false => none
    | false => none
  | none => none
noncomputable def xcallA (f : FuncId) (as : List AV) (E : XE) (rec : Rec) (H : Hp) (st : List SF) : Option AV := match E.tb f as with
      | some v => xret rec st v H
      | none => match E.ft.get f with
        | some fn => xenter rec fn as H st
        | none => xmz f as E rec H st
noncomputable def xcallF (f : FuncId) (first caps : List AV) (E : XE) (rec : Rec) (args : List AV) (H : Hp) (st : List SF) : Option AV := match E.sb.get f with
    | some _ => fcL (first ++ (args ++ caps)) fun as => match AV.purL as with
      | true => xpureA f as E rec fun v => xret rec st v H
      | false => xcallA f as E rec H st
    | none => fcL (first ++ (args ++ caps)) fun as => xcallA f as E rec H st
noncomputable def xcallY (id : Nat) (E : XE) (rec : Rec) (args : List AV) (H : Hp) (st : List SF) : Option AV := match H.get id with
    | some (.loop al) => match al with
      | ⟨_, _, n, tmps, ps, a, b⟩ => lenK args 0 fun m => lenK ps.toList 0 fun m' => match Nat.beq m' m with
        | true => xpars ps.toList args ⟨tmps, .lf⟩ fun ts => rec ⟨.rnd id, n, st⟩ [.code a, .beginRound, .code b] ts H
        | false => none
    | _ => none
noncomputable def xcall (E : XE) (rec : Rec) (callee : AV) (args : List AV) (H : Hp) (st : List SF) : Option AV := (match callee with
  | .fn f first caps => xcallF f first caps
  | .yld id => xcallY id
  | _ => fun _ _ _ _ _ => none) E rec args H st

noncomputable def xgval (d : Option Nat) (want : Bool) (ts : TT) : Bool := match d with
  | some d => match ts.get d with
    | .c (.bool b) => xbeq b want
    | _ => false
  | none => false
noncomputable def xguard (j : Nat) (want : Bool) (ops : Array Oper) (ts : TT) : Bool := match lget ops.toList j with
  | some o => xgval o.dst want ts
  | none => false
noncomputable def xwanted (ops : Array Oper) (ts : TT) (o : Oper) : Bool := match o.guard with
  | none => true
  | some g => match g with
    | (j, want) => xguard j want ops ts

theorem xwanted_eq (ops : Array Oper) (ts : TT) (o : Oper) : xwanted ops ts o = wantedA ops ts.get o := by
  unfold xwanted wantedA
  cases hg : o.guard with
  | none => rfl
  | some g =>
    obtain ⟨j, want⟩ := g
    simp only [xguard, lget_eq, Array.getElem?_toList]
    unfold gval
    cases hj : ops[j]? with
    | none => simp
    | some oj =>
      simp only [Option.bind_some, xgval]
      cases hd : oj.dst with
      | none => simp
      | some d =>
        simp only []
        split
        · rename_i b hb
          rw [hb, xbeq_eq]
          simp
        · rename_i hb
          split
          · rename_i b hb'; exact absurd hb' (hb b)
          · simp

/-- Operations of a region that draws its order. -/
abbrev DK := TT → Hp → (TT → Hp → Option AV) → Option AV
abbrev DA := Option Nat → XE → Rec → DK → TT → Hp → (TT → Hp → Option AV) → Option AV
noncomputable def dCall (fo : Operand) (args : Array Operand) : DA := fun dst E rec ih ts H K =>
  xev ts fo fun fv => xevs ts args.toList fun as => xpure E rec fv as fun v => ts.putK dst v fun ts => ih ts H K
noncomputable def dOp (g : XA AV) : DA := fun dst E rec ih ts H K =>
  g E.te E.G ts H fun v H => ts.putK dst v fun ts => ih ts H K
noncomputable def dArm (op : Op) : Bx DA := match op with
  | .call ⟨.value fo, args, _⟩ => .bx (dCall fo args)
  | op => Bx.casesOn (motive := fun _ => Bx DA) (xopB (β := AV) op) (fun g => .bx (dOp g))
noncomputable def dOper (ops : Array Oper) (o : Oper) (E : XE) (rec : Rec) (ih : DK) (ts : TT) (H : Hp) (K : TT → Hp → Option AV) : Option AV :=
  match xwanted ops ts o with
  | false => ts.putK o.dst .un fun ts => ih ts H K
  | true => Bx.casesOn (motive := fun _ => Option AV) (dArm o.op) (fun g => g o.dst E rec ih ts H K)
noncomputable def xdraw (E : XE) (rec : Rec) (ops : Array Oper) (l : List Oper) : DK :=
  List.rec (motive := fun _ => DK) (fun ts H K => K ts H) (fun o _ ih ts H K => dOper ops o E rec ih ts H K) l

noncomputable def xdraw2 (E : XE) (rec : Rec) (ops : Array Oper) (l : List (Nat × Option Nat)) : DK :=
  List.rec (motive := fun _ => DK) (fun ts H K => K ts H) (fun p _ ih ts H K => match p with
    | (i, none) => match lget ops.toList i with
      | some o => dOper ops o E rec ih ts H K
      | none => none
    | (i, some j) => match sepAt ops ts.get i j with
      | true => match lget ops.toList i with
        | some oi => match lget ops.toList j with
          | some oj => dOper ops oi E rec (fun ts H K => dOper ops oj E rec ih ts H K) ts H K
          | none => none
        | none => none
      | false => none) l

def xexit (id : Nat) : List XI → Option (List XI)
  | [] => none
  | it :: k => match it with
    | .inBlock id' => match Nat.beq id' id with
      | true => some k
      | false => xexit id k
    | _ => xexit id k
def xgoto (l : Nat) : List XI → Option (List XI)
  | [] => none
  | it :: k => match it with
    | .inScope body => match findLabel body l with
      | some rest => some (.code rest :: .inScope body :: k)
      | none => xgoto l k
    | _ => xgoto l k

abbrev Arm := XE → Rec → Fr → List XI → TT → Hp → Option AV
noncomputable def oNone : Arm := fun _ _ _ _ _ _ => none
noncomputable def oSkip : Arm := fun _ rec fr k ts H => rec fr k ts H
noncomputable def oSeq (a b : Code) : Arm := fun _ rec fr k ts H => rec fr (.code a :: .code b :: k) ts H
noncomputable def oBlock (id : Nat) (c : Code) : Arm := fun _ rec fr k ts H => rec fr (.code c :: .inBlock id :: k) ts H
noncomputable def oLoop (c : Code) : Arm := fun _ rec fr k ts H => rec fr (.code c :: .inLoop c :: k) ts H
noncomputable def oScope (c : Code) : Arm := fun _ rec fr k ts H => rec fr (.code c :: .inScope c :: k) ts H
noncomputable def oCond (o : Operand) (a b : Code) : Arm := fun _ rec fr k ts H => match ev ts.get o with
  | .c (.bool t) => match t with
    | true => rec fr (.code a :: k) ts H
    | false => rec fr (.code b :: k) ts H
  | _ => none
noncomputable def oRet : Arm := fun E rec fr _ ts H => xleave E rec fr .ret ts H
noncomputable def oExit (id : Nat) : Arm := fun E rec fr k ts H => match xexit id k with
  | some k' => rec fr k' ts H
  | none => xleave E rec fr (.exit id) ts H
noncomputable def oGoto (l : Nat) : Arm := fun E rec fr k ts H => match xgoto l k with
  | some k' => rec fr k' ts H
  | none => xleave E rec fr (.goto l) ts H
/-- An operation that may change memory. -/
def impOf (ops : Array Oper) (i : Nat) : Bool := match ops[i]? with
  | some o => match clOf o.op with
    | .call => true
    | .store => true
    | .any => true
    | _ => false
  | none => false
def isAl (o : Oper) : Bool := match o.op with
  | .alloc _ => match o.guard with
    | none => o.after.all fun e => !(Region.binds .any e)
    | some _ => false
  | _ => false
/-- The first run of variables made aside. -/
def findAl : List Oper → Nat → Nat × Nat
  | [], i => (i, i)
  | o :: l, i => match isAl o with
    | true => (i, goAl l (Nat.succ i))
    | false => findAl l (Nat.succ i)
where goAl : List Oper → Nat → Nat
  | [], i => i
  | o :: l, i => match isAl o with
    | true => goAl l (Nat.succ i)
    | false => i
noncomputable def zcOk (te : Tr TI) (ops : Array Oper) : List Nat → Bool
  | [] => true
  | a :: l => match alOf ops a with
    | some (_, t) => match te.get t with
      | some i => match i.zc with
        | some _ => zcOk te ops l
        | none => false
      | none => false
    | none => zcOk te ops l
def ordGAt (ops : Array Oper) (imp : Nat → Bool) (q : Nat) : List (Nat × Bool) := ordGFind ops imp (masks [] ops.toList) (Nat.sub ops.size q) (listQ ops q)
structure Plan where
  hd : Array Oper
  nx : Nx
  l : List (Nat × Bool)
noncomputable def planA (te : Tr TI) (ops : Array Oper) (p q : Nat) : Option Plan :=
  match splitXB ops p q && ((ordGGood (headOps ops p) (impOf (headOps ops p))).all fun x => x.2 || (reqOf ops p q).contains x.1) && zcOk te ops (List.range' p (Nat.sub q p)) && ordGB (headOps ops p) (impOf (headOps ops p)) (ordGGood (headOps ops p) (impOf (headOps ops p))) && ordG ops (impOf ops) (masks [] ops.toList) (ordGAt ops (impOf ops) q) (listQ ops q) &&
    Nat.beq (ordGAt ops (impOf ops) q).length (Nat.sub ops.size q) with
  | true => some ⟨headOps ops p, some (ops, ones (List.range' p (Nat.sub q p)) ++ ordGAt ops (impOf ops) q), ordGGood (headOps ops p) (impOf (headOps ops p))⟩
  | false => none
def planG (ops : Array Oper) : Option Plan := match ordGB ops (impOf ops) (ordGGood ops (impOf ops)) with
  | true => some ⟨ops, none, ordGGood ops (impOf ops)⟩
  | false => none
/-- What only makes a block is told as late as it is waited for. -/
def frAt (ops : Array Oper) (i : Nat) : Bool := match ops[i]? with
  | some o => frB o
  | none => false
def isA (ops : Array Oper) (i : Nat) : Bool := match ops[i]? with
  | some o => frB o && o.after.all fun e => !Region.binds .any e || !frAt ops e.on
  | none => false
def exA (ops : Array Oper) (a : Nat) : List Nat := (List.range ops.size).filter fun i =>
  !Nat.beq i a && !wt ops a i && !wt ops i a && (impOf ops i || (isA ops i && Nat.blt i a)) && (List.range ops.size).all fun j => isA ops j || !wt ops j a || wt ops j i
noncomputable def planD (ops : Array Oper) : Option Plan :=
  match delayB ops (isA ops) (exA ops) && ordGB (dl (isA ops) (exA ops) ops) (impOf (dl (isA ops) (exA ops) ops)) (ordGGood (dl (isA ops) (exA ops) ops) (impOf (dl (isA ops) (exA ops) ops))) with
  | true => some ⟨dl (isA ops) (exA ops) ops, none, ordGGood (dl (isA ops) (exA ops) ops) (impOf (dl (isA ops) (exA ops) ops))⟩
  | false => none
noncomputable def planAD (te : Tr TI) (ops : Array Oper) : Option Plan := match findAl ops.toList 0 with
    | (p, q) => planA te ops p q
noncomputable def plan (te : Tr TI) (ops : Array Oper) : Option Plan := match planG ops with
  | some p => some p
  | none => match planAD te ops with
    | some p => some p
    | none => planD ops
noncomputable def oDrawP (p : Plan) : Arm := fun _ rec fr k ts H => match p with
  | ⟨hd, nx, l⟩ => rec fr (.dreg hd nx l [] none :: k) ts H
noncomputable def oDrawF (ops : Array Oper) : Arm := fun E rec fr k ts H => xdraw E rec ops ops.toList ts H fun ts H => rec fr k ts H
noncomputable def oDrawI (ops : Array Oper) : Arm := fun E rec fr k ts H => match plan E.te ops with
  | some p => oDrawP p E rec fr k ts H
  | none => match fastB ops with
    | true => oDrawF ops E rec fr k ts H
    | false => none
noncomputable def oDraw0 (ops : Array Oper) : Arm := fun E rec fr k ts H => match fastB ops with
  | true => oDrawF ops E rec fr k ts H
  | false => match plan E.te ops with
    | some p => oDrawP p E rec fr k ts H
    | none => none
noncomputable def oDraw (ops : Array Oper) : Arm := fun E rec fr k ts H => match E.im ops with
  | true => oDrawI ops E rec fr k ts H
  | false => oDraw0 ops E rec fr k ts H
noncomputable def oText (ops : Array Oper) : Arm := fun _ rec fr k ts H => rec fr (.reg ops 0 ops.toList :: k) ts H
noncomputable def oRegion (ops : Array Oper) (draw : Bool) : Arm := match draw with
  | true => oDraw ops
  | false => oText ops
noncomputable def oRange (fo : Operand) (ps : Array Tmp) (a b : Code) : Arm := fun E rec fr k ts H => match fr with
  | ⟨fi, n, st⟩ => match fi with
    | .rnd _ => none
    | fi => xev ts fo fun fv => fcN H.n fun id => H.pushK (.loop ⟨.ready, none, n, ts.get, ps, a, b⟩) fun H => xcall E rec fv [.yld id] H (.lp fi n id k ts :: st)
noncomputable def oCode (c : Code) : Arm := match c with
  | .skip => oSkip
  | .label _ => oSkip
  | .seq a b => oSeq a b
  | .block id c => oBlock id c
  | .loop c => oLoop c
  | .scope c => oScope c
  | .cond o a b => oCond o a b
  | .ret => oRet
  | .exit id => oExit id
  | .goto l => oGoto l
  | .region _ ops draw => oRegion ops draw
  | .rangeFunc fo ps a b => oRange fo ps a b
  | .refuse _ => oNone
noncomputable def oBegin : Arm := fun _ rec fr k ts H => match fr with
  | ⟨fi, n, st⟩ => match fi with
    | .rnd id => match H.get id with
      | some (.loop al) => match al with
        | ⟨s, pd, n', tmps, ps, a, b⟩ => match s with
          | .ready => H.setK id (.loop ⟨.busy, pd, n', tmps, ps, a, b⟩) fun H => rec ⟨.rnd id, n, st⟩ k ts H
          | _ => none
      | _ => none
    | _ => none
noncomputable def oCall (fo : Operand) (args : Array Operand) : Option Nat → XI → Arm := fun dst it E rec fr k ts H =>
  xev ts fo fun fv => xevs ts args.toList fun as => match fr with
    | ⟨fi, n, st⟩ => xcall E rec fv as H (.val fi n dst (it :: k) ts :: st)
noncomputable def oOp (g : XA AV) : Option Nat → XI → Arm := fun dst it E rec fr k ts H =>
  g E.te E.G ts H fun v H => ts.putK dst v fun ts => rec fr (it :: k) ts H
/-- Whichever entry comes up, what is handed back in the end is the same. -/
noncomputable def xfork (f : Nat × AV × AV → Option AV) (v : AV) : List (Nat × AV × AV) → Option AV
  | [] => some v
  | e :: l => match f e with
    | some u => match aeq u v with
      | true => xfork f v l
      | false => none
    | none => none
noncomputable def oNextE (id mid since : Nat) (seen : List Nat) (clock : Nat) (dst : Option Nat) (it : XI) (rec : Rec) (fr : Fr) (k : List XI) (ts : TT) (H : Hp) (e : Nat × AV × AV) : Option AV := match e with
  | (b, key, val) => fcL (seen ++ [b]) fun seen' => H.setK id (.mit mid since seen' clock) fun H => ts.putK dst (.tup [.c (.bool true), key, val]) fun ts => rec fr (it :: k) ts H
noncomputable def oNext (x : Operand) : Option Nat → XI → Arm := fun dst it E rec fr k ts H =>
  xev ts x fun x => xnext x H fun id mid since seen clock cands => match cands with
    | [] => ts.putK dst (.tup [.c (.bool false)]) fun ts => rec fr (it :: k) ts H
    | e :: l => match oNextE id mid since seen clock dst it rec fr k ts H e with
      | some v => xfork (oNextE id mid since seen clock dst it rec fr k ts H) v l
      | none => none
noncomputable def xfrzCap {β : Type} (a : AV) (H : Hp) (k : AV → Hp → β) : β := match a with
  | .ptr id 0 => match H.get id with
    | some (.cells cs) => match AV.purL cs with
      | true => H.setK id .dead fun H => k (.iptr cs 0) H
      | false => k (.ptr id 0) H
    | _ => k (.ptr id 0) H
  | a => fcT a fun a => k a H
noncomputable def xfrzCaps {β : Type} : List AV → Hp → (List AV → Hp → β) → β
  | [], H, k => k [] H
  | a :: l, H, k => xfrzCap a H fun b H => xfrzCaps l H fun m H => k (b :: m) H
theorem xfrzCap_eq {β : Type} (a : AV) (H : Hp) (k : AV → Hp → β) : ∃ H' : Hp, H'.abs = (frzCap a H.abs).2 ∧ xfrzCap a H k = k (frzCap a H.abs).1 H' := by
  unfold xfrzCap frzCap
  simp only [Hp.get_eq, fcT_eq, Hp.setK_eq]
  split
  · rename_i id
    simp only
    split
    · rename_i cs hcs
      split
      · rename_i hp
        exact ⟨H.set id .dead, by simp only [hcs, hp, if_true, Hp.abs_set], by simp only [hcs, hp, if_true]⟩
      · rename_i hp
        exact ⟨H, by simp only [hcs, hp, Bool.false_eq_true, if_false], by simp only [hcs, hp, Bool.false_eq_true, if_false]⟩
    · rename_i hne
      refine ⟨H, rfl, ?_⟩
      split
      · rename_i cs hcs; exact absurd hcs (hne cs)
      · rfl
  · rename_i hne
    refine ⟨H, rfl, ?_⟩
    split
    · rename_i id; exact absurd rfl (hne id)
    · rfl
theorem xfrzCaps_eq {β : Type} : ∀ (l : List AV) (H : Hp) (k : List AV → Hp → β), ∃ H' : Hp, H'.abs = (frzCaps l H.abs).2 ∧ xfrzCaps l H k = k (frzCaps l H.abs).1 H'
  | [], H, k => ⟨H, rfl, rfl⟩
  | a :: l, H, k => by
    obtain ⟨H1, h1, e1⟩ := xfrzCap_eq a H fun b H => xfrzCaps l H fun m H => k (b :: m) H
    obtain ⟨H2, h2, e2⟩ := xfrzCaps_eq l H1 fun m H => k ((frzCap a H.abs).1 :: m) H
    obtain ⟨H3, h3, e3⟩ := xfrzCaps_eq l H1 fun m H2 => k ((frzCap a H.abs).1 :: m) H2
    refine ⟨H3, ?_, ?_⟩
    · rw [h3, h1]; rfl
    · show xfrzCap a H (fun b H => xfrzCaps l H fun m H => k (b :: m) H) = _
      rw [e1, e3, h1]; rfl
noncomputable def oFunc (f : FuncId) (first caps : Array Operand) : Option Nat → XI → Arm := fun dst it E rec fr k ts H => xevs ts first.toList fun fs => xevs ts caps.toList fun cs => match E.fz.get f with
  | none => ts.putK dst (.fn f fs cs) fun ts => rec fr (it :: k) ts H
  | some _ => xfrzCaps cs H fun cs H => ts.putK dst (.fn f fs cs) fun ts => rec fr (it :: k) ts H
noncomputable def oRecover : Option Nat → XI → Arm := fun dst it _ rec fr k ts H => match fr with
  | ⟨fi, n, st⟩ => match fi with
    | .df rs pv => match pv with
      | none => ts.putK dst (.c .nilIface) fun ts => rec ⟨.da rs pv, n, st⟩ (it :: k) ts H
      | some v => ts.putK dst v fun ts => rec ⟨.da rs pv, n, st⟩ (it :: k) ts H
    | _ => none
noncomputable def oDefer (fo : Operand) (args : Array Operand) : Option Nat → XI → Arm := fun dst it _ rec fr k ts H =>
  xev ts fo fun fv => xevs ts args.toList fun as => match fr with
    | ⟨fi, n, st⟩ => match fi with
      | .fn rs => match fv with
        | .fn g first caps => fcL (first ++ (as ++ caps)) fun as => ts.putK dst .un fun ts => rec ⟨.fnD rs g as, n, st⟩ (it :: k) ts H
        | _ => none
      | _ => none
noncomputable def oPanic (x : Operand) : Option Nat → XI → Arm := fun _ _ E rec fr _ ts H => xev ts x fun v => match isIfc v with
  | true => match fr with
    | ⟨fi, _, st⟩ => xpanL E rec fi v ts H st
  | false => none
noncomputable def oRecoverA (as : Array Operand) : Option Nat → XI → Arm := match as.isEmpty with
  | true => oRecover
  | false => fun _ _ _ _ _ _ _ _ => none
noncomputable def oArm (op : Op) : Bx (Option Nat → XI → Arm) := match op with
  | .call ⟨.builtin .recover, as, _⟩ => .bx (oRecoverA as)
  | .defer ⟨.value fo, args, _⟩ => .bx (oDefer fo args)
  | .panic x => .bx (oPanic x)
  | .call ⟨.value fo, args, _⟩ => .bx (oCall fo args)
  | .next x false => .bx (oNext x)
  | .makeFunc (.func f) first caps => .bx (oFunc f first caps)
  | op => Bx.casesOn (motive := fun _ => Bx (Option Nat → XI → Arm)) (xopB (β := AV) op) (fun g => .bx (oOp g))
noncomputable def oOper (ops : Array Oper) (o : Oper) (it : XI) : Arm := fun E rec fr k ts H =>
  match xwanted ops ts o with
  | false => ts.putK o.dst .un fun ts => rec fr (it :: k) ts H
  | true => Bx.casesOn (motive := fun _ => Option AV) (oArm o.op) (fun g => g o.dst it E rec fr k ts H)
noncomputable def oReg (ops : Array Oper) (i : Nat) (l : List Oper) : Arm := match l with
  | [] => oSkip
  | o :: rest => oOper ops o (.reg ops (Nat.succ i) rest)
noncomputable def xchk (te : Tr TI) (G : Gl) (H : Hp) (m : Nat) : List WE → Option AV → Option AV
  | [], k => k
  | e :: W, k => match e with
    | ⟨i, op, ts, v⟩ => match bitAt m i with
      | true => xchk te G H m W k
      | false => match quiet1 (clOf op) with
        | true => xop te G op ts H fun u _ => match aeq u v with
          | true => xchk te G H m W k
          | false => none
        | false => none
noncomputable def gRead (ops : Array Oper) (nx : Nx) (i : Nat) (l : List (Nat × Bool)) (W : List WE) (o : Oper) : Arm := fun E rec fr k ts H => match clOf o.op with
  | .scal => xop E.te E.G o.op ts H fun v H' => ts.putK o.dst v fun ts => rec fr (.dreg ops nx l W none :: k) ts H'
  | .addr => xop E.te E.G o.op ts H fun v H' => ts.putK o.dst v fun ts' => rec fr (.dreg ops nx l (⟨i, o.op, ts, v⟩ :: W) none :: k) ts' H'
  | .read => xop E.te E.G o.op ts H fun v H' => ts.putK o.dst v fun ts' => rec fr (.dreg ops nx l (⟨i, o.op, ts, v⟩ :: W) none :: k) ts' H'
  | _ => none
noncomputable def gCall (fo : Operand) (args : Array Operand) (ops : Array Oper) (nx : Nx) (i : Nat) (l : List (Nat × Bool)) (W : List WE) (dst : Option Nat) : Arm := fun E rec fr k ts H =>
  xev ts fo fun fv => xevs ts args.toList fun as => match impOf ops i with
    | true => match fr with
      | ⟨fi, n, st⟩ => xcall E rec fv as H (.dr fi n dst i ops nx l W k ts :: st)
    | false => xpure E rec fv as fun v => ts.putK dst v fun ts => rec fr (.dreg ops nx l W none :: k) ts H
noncomputable def gOp (g : XA AV) (ops : Array Oper) (nx : Nx) (i : Nat) (l : List (Nat × Bool)) (W : List WE) (dst : Option Nat) : Arm := fun E rec fr k ts H => match impOf ops i with
    | true => g E.te E.G ts H fun v H => ts.putK dst v fun ts => rec fr (.dreg ops nx l W (some i) :: k) ts H
    | false => g E.te E.G ts H fun v H => ts.putK dst v fun ts => rec fr (.dreg ops nx l W none :: k) ts H
noncomputable def gArm (op : Op) : Bx (Array Oper → Nx → Nat → List (Nat × Bool) → List WE → Option Nat → Arm) := match op with
  | .call ⟨.value fo, args, _⟩ => .bx (gCall fo args)
  | op => Bx.casesOn (motive := fun _ => Bx (Array Oper → Nx → Nat → List (Nat × Bool) → List WE → Option Nat → Arm)) (xopB (β := AV) op) (fun g => .bx (gOp g))
noncomputable def gStep (ops : Array Oper) (nx : Nx) (i : Nat) (b : Bool) (l : List (Nat × Bool)) (W : List WE) : Arm := fun E rec fr k ts H => match lget ops.toList i with
  | some o => match b with
    | true => match xwanted ops ts o with
      | true => gRead ops nx i l W o E rec fr k ts H
      | false => ts.putK o.dst .un fun ts => rec fr (.dreg ops nx l W none :: k) ts H
    | false => match xwanted ops ts o with
      | true => Bx.casesOn (motive := fun _ => Option AV) (gArm o.op) (fun g => g ops nx i l W o.dst E rec fr k ts H)
      | false => match impOf ops i with
        | true => ts.putK o.dst .un fun ts => rec fr (.dreg ops nx l W (some i) :: k) ts H
        | false => ts.putK o.dst .un fun ts => rec fr (.dreg ops nx l W none :: k) ts H
  | none => none
noncomputable def oDreg1 (ops : Array Oper) (nx : Nx) (l : List (Nat × Bool)) (W : List WE) : Arm := fun E rec fr k ts H => match l with
  | [] => match nx with
    | none => rec fr k ts H
    | some x => match x with
      | (ops', l') => rec fr (.dreg ops' none l' W none :: k) ts H
  | p :: l => match p with
    | (i, b) => gStep ops nx i b l W E rec fr k ts H
/-- The whole region. -/
def mfull (ops : Array Oper) (nx : Nx) : Array Oper := match nx with
  | some (o, _) => o
  | none => ops
noncomputable def oDreg (ops : Array Oper) (nx : Nx) (l : List (Nat × Bool)) (W : List WE) (c : Option Nat) : Arm := fun E rec fr k ts H => match c with
  | some j => xchk E.te E.G H ((masks [] (mfull ops nx).toList).getD j 0) W (oDreg1 ops nx l W E rec fr k ts H)
  | none => oDreg1 ops nx l W E rec fr k ts H
noncomputable def oItem (it : XI) : Arm := match it with
  | .code c => oCode c
  | .inBlock _ => oSkip
  | .inScope _ => oSkip
  | .inLoop c => oLoop c
  | .beginRound => oBegin
  | .reg ops i l => oReg ops i l
  | .dreg ops nx l W c => oDreg ops nx l W c
noncomputable def oEnd : Arm := fun E rec fr _ ts H => xleave E rec fr .nor ts H
noncomputable def oStep (E : XE) (rec : Rec) : Rec := fun fr todo ts H => (match todo with
  | [] => oEnd E rec fr []
  | it :: k => oItem it E rec fr k) ts H
noncomputable def outs (E : XE) (f : Nat) : Rec := Nat.rec (motive := fun _ => Rec) (fun _ _ _ _ => none) (fun _ ih => oStep E ih) f
end Go.Ab
