/- One of the texts that this claim stands on. -/
import Derived.Test.YtfahngokbdndmaaGreatDoorEv10
import Derived.Test.YtfahngokbdndmaaGreatDoorEv11
import Derived.Test.YtfahngokbdndmaaGreatDoorEv12
import Derived.Test.YtfahngokbdndmaaGreatDoorEv13
import Derived.Test.YtfahngokbdndmaaGreatDoorEv14
set_option linter.unusedVariables false
set_option linter.unusedSimpArgs false
namespace Go.Ab
inductive FI where
  | fn (rs : Array ResultVar)
  | rnd (id : Nat)
  | fnD (rs : Array ResultVar) (g : FuncId) (as : List AV)
  | df (rs : Array ResultVar) (pv : Option AV)
  | da (rs : Array ResultVar) (pv : Option AV)
def FI.rd : FI → Option Nat
  | .rnd id => some id
  | _ => none
structure WE where
  i : Nat
  op : Op
  ts : TT
  v : AV
abbrev Nx := Option (Array Oper × List (Nat × Bool))
inductive XI where
  | code (c : Code)
  | inBlock (id : Nat)
  | inLoop (c : Code)
  | inScope (c : Code)
  | beginRound
  | reg (ops : Array Oper) (i : Nat) (l : List Oper)
  | dreg (ops : Array Oper) (nx : Nx) (l : List (Nat × Bool)) (W : List WE) (c : Option Nat)
inductive SF where
  | val (fi : FI) (n : Nat) (dst : Option Nat) (todo : List XI) (ts : TT)
  | lp (fi : FI) (n : Nat) (id : Nat) (todo : List XI) (ts : TT)
  | dr (fi : FI) (n : Nat) (dst : Option Nat) (j : Nat) (ops : Array Oper) (nx : Nx) (l : List (Nat × Bool)) (W : List WE) (todo : List XI) (ts : TT)
  | dfr (rs : Array ResultVar) (ts : TT) (md : Option AV)
structure Fr where
  fi : FI
  n : Nat
  st : List SF
abbrev Rec := Fr → List XI → TT → Hp → Option AV
noncomputable def xfrz (H : Hp) (v : AV) : Option AV := match AV.pur v with
  | true => some v
  | false => match frz 30 H.abs v with
    | some u => fcA u some
    | none => none
theorem xfrz_sound {H : Hp} {v u : AV} (h : xfrz H v = some u) : ∃ m, frz m H.abs v = some u := by
  unfold xfrz at h
  split at h
  · rename_i hp
    cases h
    exact ⟨1, by simp [frz, hp]⟩
  · split at h
    · rename_i u' hu
      rw [fcA_eq] at h
      cases h
      exact ⟨30, hu⟩
    · cases h
noncomputable def xretV (fi : FI) (n : Nat) (dst : Option Nat) (todo : List XI) (ts : TT) (rec : Rec) (st : List SF) (v : AV) (H : Hp) : Option AV := ts.putK dst v fun ts => rec ⟨fi, n, st⟩ todo ts H
noncomputable def xretL (fi : FI) (n : Nat) (id : Nat) (todo : List XI) (ts : TT) (rec : Rec) (st : List SF) (v : AV) (H : Hp) : Option AV := match H.get id with
      | some (.loop al) => match al.st with
        | .busy => none
        | _ => match al.pending with
          | none => H.setK id .dead fun H => rec ⟨fi, n, st⟩ todo ts H
          | some c => H.setK id .dead fun H => rec ⟨fi, n, st⟩ (.code c :: todo) ts H
      | _ => none
noncomputable def xretD (fi : FI) (n : Nat) (dst : Option Nat) (j : Nat) (ops : Array Oper) (nx : Nx) (l : List (Nat × Bool)) (W : List WE) (todo : List XI) (ts : TT) (rec : Rec) (st : List SF) (v : AV) (H : Hp) : Option AV :=
  ts.putK dst v fun ts => rec ⟨fi, n, st⟩ (.dreg ops nx l W (some j) :: todo) ts H
noncomputable def xret (rec : Rec) (st : List SF) (v : AV) (H : Hp) : Option AV := match st with
  | [] => xfrz H v
  | f :: st => (match f with
    | .val fi n dst todo ts => xretV fi n dst todo ts
    | .lp fi n id todo ts => xretL fi n id todo ts
    | .dr fi n dst j ops nx l W todo ts => xretD fi n dst j ops nx l W todo ts
    | .dfr _ _ _ => fun _ _ _ _ => none) rec st v H
noncomputable def xresL (te : Tr TI) (G : Gl) (ts : TT) (H : Hp) : List ResultVar → (List AV → Option AV) → Option AV
  | [], k => k []
  | r :: l, k => match r with
    | .tmp t => fcT (ts.get t) fun v => xresL te G ts H l fun vs => k (v :: vs)
    | .cell a t => fcT (ts.get a) fun a => xload te G t a H fun v => xresL te G ts H l fun vs => k (v :: vs)
noncomputable def xres (te : Tr TI) (G : Gl) (rs : Array ResultVar) (ts : TT) (H : Hp) (k : AV → Option AV) : Option AV := xresL te G ts H rs.toList fun vs => match vs with
  | [v] => k v
  | vs => k (.tup vs)
noncomputable def xleaveF (rs : Array ResultVar) (te : Tr TI) (G : Gl) (rec : Rec) (L : Lv) (ts : TT) (H : Hp) (st : List SF) : Option AV := match L with
    | .nor => xres te G rs ts H fun v => xret rec st v H
    | .ret => xres te G rs ts H fun v => xret rec st v H
    | _ => none
noncomputable def xleaveR (id : Nat) (te : Tr TI) (G : Gl) (rec : Rec) (L : Lv) (ts : TT) (H : Hp) (st : List SF) : Option AV := match H.get id with
    | some (.loop al) => match al with
      | ⟨_, _, n, tmps, ps, a, b⟩ => match jumpOf L with
        | none => H.setK id (.loop ⟨.ready, none, n, tmps, ps, a, b⟩) fun H => xret rec st (.c (.bool true)) H
        | some j => H.setK id (.loop ⟨.done, some j, n, tmps, ps, a, b⟩) fun H => xret rec st (.c (.bool false)) H
    | _ => none
noncomputable def xargs {β : Type} (l : List AV) : Nat → TT → (TT → β) → β :=
  List.rec (motive := fun _ => Nat → TT → (TT → β) → β) (fun _ t k => k t) (fun a _ ih i t k => t.setK i a fun t => fcN (Nat.succ i) fun i => ih i t k) l
noncomputable def xpars {β : Type} : List Tmp → List AV → TT → (TT → β) → β
  | [], _, t, k => k t
  | p :: ps, as, t, k => match as with
    | [] => k t
    | a :: as => t.setK p a fun t => xpars ps as t k
theorem xargs_sound {β : Type} {k : TT → Option β} {r : β} : ∀ {l m : List AV} {t : TT}, t.get = argTs m → xargs l m.length t k = some r → ∃ t' : TT, t'.get = argTs (m ++ l) ∧ k t' = some r
  | [], m, t, ht, h => ⟨t, by simpa using ht, h⟩
  | a :: l, m, t, ht, h => by
    have h0 : (t.setK m.length a fun t => fcN (Nat.succ m.length) fun i => xargs l i t k) = some r := h
    simp only [TT.setK_eq, fcN_eq] at h0
    have e : (t.set m.length a).get = argTs (m ++ [a]) := by
      rw [TT.get_set, ht]
      funext i
      unfold upd argTs
      by_cases hi : i = m.length
      · subst hi; simp [List.getD]
      · rw [if_neg hi]
        by_cases h2 : i < m.length
        · simp [List.getD, List.getElem?_append_left h2]
        · have h3 : m.length < i := by omega
          simp only [List.getD]
          rw [List.getElem?_append_right (by omega), List.getElem?_eq_none (show m.length ≤ i by omega), List.getElem?_eq_none (by simp; omega)]
    have h' : xargs l (m ++ [a]).length (t.set m.length a) k = some r := by simpa using h0
    obtain ⟨t', h1, h2⟩ := xargs_sound e h'
    exact ⟨t', by simpa using h1, h2⟩
theorem xpars_sound {β : Type} {k : TT → Option β} {r : β} : ∀ {ps : List Tmp} {as : List AV} {t : TT}, xpars ps as t k = some r → ∃ t' : TT, t'.get = parTs t.get ps as ∧ k t' = some r
  | [], as, t, h => ⟨t, by simp [parTs], h⟩
  | p :: ps, [], t, h => ⟨t, by simp [parTs], h⟩
  | p :: ps, a :: as, t, h => by
    simp only [xpars, TT.setK_eq] at h
    obtain ⟨t', h1, h2⟩ := xpars_sound h
    exact ⟨t', by rw [h1, TT.get_set]; rfl, h2⟩
def tt0 : TT := ⟨fun _ => .un, .lf⟩
theorem tt0_get : tt0.get = argTs [] := by
  funext i
  show (match (PT.lf : PT AV).get (way i) with | some v => v | none => AV.un) = _
  rw [PT.get_lf]; rfl
noncomputable def xenter (rec : Rec) (fn : Func) (as : List AV) (H : Hp) (st : List SF) : Option AV := match fn.body with
  | some c => lenK as 0 fun m => match Nat.ble m fn.ntmps with
    | true => xargs as 0 tt0 fun ts => rec ⟨.fn fn.results, fn.ntmps, st⟩ [.code c] ts H
    | false => none
  | none => none
abbrev Tb := FuncId → List AV → Option AV
structure XE where
  te : Tr TI
  G : Gl
  ft : Tr Func
  tb : Tb
  sb : Tr Unit
  fz : Tr Unit
  im : Array Oper → Bool
  mz : Option FuncId
noncomputable def xenterD (rec : Rec) (fn : Func) (as : List AV) (pv : Option AV) (H : Hp) (st : List SF) : Option AV := match fn.body with
  | some c => lenK as 0 fun m => match Nat.ble m fn.ntmps with
    | true => xargs as 0 tt0 fun ts => rec ⟨.df fn.results pv, fn.ntmps, st⟩ [.code c] ts H
    | false => none
  | none => none
noncomputable def xdefer (E : XE) (rec : Rec) (rs : Array ResultVar) (g : FuncId) (as : List AV) (md : Option AV) (ts : TT) (H : Hp) (st : List SF) : Option AV := match E.ft.get g with
  | some fn => xenterD rec fn as md H (.dfr rs ts md :: st)
  | none => none
noncomputable def xpan (E : XE) (rec : Rec) (v : AV) (H : Hp) : List SF → Option AV
  | [] => none
  | f :: st => match f with
    | .val fi _ _ _ ts => match fi with
      | .fn _ => xpan E rec v H st
      | .fnD rs g as => xdefer E rec rs g as (some v) ts H st
      | _ => none
    | _ => none
noncomputable def xpanL (E : XE) (rec : Rec) (fi : FI) (v : AV) (ts : TT) (H : Hp) (st : List SF) : Option AV := match fi with
  | .fn _ => xpan E rec v H st
  | .fnD rs g as => xdefer E rec rs g as (some v) ts H st
  | _ => none
noncomputable def xdone (E : XE) (rec : Rec) (b : Bool) (H : Hp) (st : List SF) : Option AV := match st with
  | .dfr rs ts md :: st => match md with
    | none => xres E.te E.G rs ts H fun v => xret rec st v H
    | some pv => match b with
      | true => xres E.te E.G rs ts H fun v => xret rec st v H
      | false => xpan E rec pv H st
  | _ => none
noncomputable def isNR (L : Lv) : Bool := match L with
  | .nor => true
  | .ret => true
  | _ => false
noncomputable def xleave (E : XE) (rec : Rec) (fr : Fr) (L : Lv) (ts : TT) (H : Hp) : Option AV := match fr with
  | ⟨fi, _, st⟩ => match fi with
    | .fn rs => xleaveF rs E.te E.G rec L ts H st
    | .rnd id => xleaveR id E.te E.G rec L ts H st
    | .fnD rs g as => match isNR L with
      | true => xdefer E rec rs g as none ts H st
      | false => none
    | .df rs _ => match isNR L with
      | true => xres E.te E.G rs ts H fun _ => xdone E rec false H st
      | false => none
    | .da rs pv => match isNR L with
      | true => xres E.te E.G rs ts H fun _ => xdone E rec pv.isSome H st
      | false => none
noncomputable def xpureF (f : FuncId) (as : List AV) (E : XE) (rec : Rec) (k : AV → Option AV) : Option AV := match AV.purL as with
      | true => match E.ft.get f with
        | some fn => match xenter rec fn as ⟨0, .lf⟩ [] with
          | some v => fcT v k
          | none => none
        | none => none
      | false => none
noncomputable def xpureA (f : FuncId) (as : List AV) (E : XE) (rec : Rec) (k : AV → Option AV) : Option AV := match E.tb f as with
    | some v => k v
    | none => xpureF f as E rec k
noncomputable def xpure (E : XE) (rec : Rec) (callee : AV) (args : List AV) (k : AV → Option AV) : Option AV := match callee with
  | .fn f first caps => fcL (first ++ (args ++ caps)) fun as => xpureA f as E rec k
  | _ => none
def isVal : List SF → Bool
  | .val _ _ _ _ _ :: _ => true
  | _ => false
noncomputable def xmz (f : FuncId) (as : List AV) (E : XE) (rec : Rec) (H : Hp) (st : List SF) : Option AV := match E.mz with
  | some g => match Nat.beq g f with
    | true => match isVal st with
      | true => match as with
        | [.c (.int .i64 n)] => toNatK n fun n => match n with
          | 0 => none
          | n' + 1 => match Nat.ble (n' + 1) 1099511627776 with
            | true => repK .any (n' + 1) fun es => fcN H.n fun id => H.pushK (.arr 1 es) fun H' => fcT (slv id (n' + 1)) fun v => xret rec st v H'
            | false => none
        | _ => none
      | false => none
    | false => none
  | none => none
noncomputable def xcallA (f : FuncId) (as : List AV) (E : XE) (rec : Rec) (H : Hp) (st : List SF) : Option AV := match E.tb f as with
      | some v => xret rec st v H
      | none => match E.ft.get f with
        | some fn => xenter rec fn as H st
        | none => xmz f as E rec H st
noncomputable def xcallF (f : FuncId) (first caps : List AV) (E : XE) (rec : Rec) (args : List AV) (H : Hp) (st : List SF) : Option AV := match E.sb.get f with
    | some _ => fcL (first ++ (args ++ caps)) fun as => match AV.purL as with
      | true => xpureA f as E rec fun v => xret rec st v H
      | false => xcallA f as E rec H st
    | none => fcL (first ++ (args ++ caps)) fun as => xcallA f as E rec H st
noncomputable def xcallY (id : Nat) (E : XE) (rec : Rec) (args : List AV) (H : Hp) (st : List SF) : Option AV := match H.get id with
    | some (.loop al) => match al with
      | ⟨_, _, n, tmps, ps, a, b⟩ => lenK args 0 fun m => lenK ps.toList 0 fun m' => match Nat.beq m' m with
        | true => xpars ps.toList args ⟨tmps, .lf⟩ fun ts => rec ⟨.rnd id, n, st⟩ [.code a, .beginRound, .code b] ts H
        | false => none
    | _ => none
noncomputable def xcall (E : XE) (rec : Rec) (callee : AV) (args : List AV) (H : Hp) (st : List SF) : Option AV := (match callee with
  | .fn f first caps => xcallF f first caps
  | .yld id => xcallY id
  | _ => fun _ _ _ _ _ => none) E rec args H st
noncomputable def xgval (d : Option Nat) (want : Bool) (ts : TT) : Bool := match d with
  | some d => match ts.get d with
    | .c (.bool b) => xbeq b want
    | _ => false
  | none => false
noncomputable def xguard (j : Nat) (want : Bool) (ops : Array Oper) (ts : TT) : Bool := match lget ops.toList j with
  | some o => xgval o.dst want ts
  | none => false
noncomputable def xwanted (ops : Array Oper) (ts : TT) (o : Oper) : Bool := match o.guard with
  | none => true
  | some g => match g with
    | (j, want) => xguard j want ops ts
theorem xwanted_eq (ops : Array Oper) (ts : TT) (o : Oper) : xwanted ops ts o = wantedA ops ts.get o := by
  unfold xwanted wantedA
  cases hg : o.guard with
  | none => rfl
  | some g =>
    obtain ⟨j, want⟩ := g
    simp only [xguard, lget_eq, Array.getElem?_toList]
    unfold gval
    cases hj : ops[j]? with
    | none => simp
    | some oj =>
      simp only [Option.bind_some, xgval]
      cases hd : oj.dst with
      | none => simp
      | some d =>
        simp only []
        split
        · rename_i b hb
          rw [hb, xbeq_eq]
          simp
        · rename_i hb
          split
          · rename_i b hb'; exact absurd hb' (hb b)
          · simp
abbrev DK := TT → Hp → (TT → Hp → Option AV) → Option AV
abbrev DA := Option Nat → XE → Rec → DK → TT → Hp → (TT → Hp → Option AV) → Option AV
noncomputable def dCall (fo : Operand) (args : Array Operand) : DA := fun dst E rec ih ts H K =>
  xev ts fo fun fv => xevs ts args.toList fun as => xpure E rec fv as fun v => ts.putK dst v fun ts => ih ts H K
noncomputable def dOp (g : XA AV) : DA := fun dst E rec ih ts H K =>
  g E.te E.G ts H fun v H => ts.putK dst v fun ts => ih ts H K
noncomputable def dArm (op : Op) : Bx DA := match op with
  | .call ⟨.value fo, args, _⟩ => .bx (dCall fo args)
  | op => Bx.casesOn (motive := fun _ => Bx DA) (xopB (β := AV) op) (fun g => .bx (dOp g))
noncomputable def dOper (ops : Array Oper) (o : Oper) (E : XE) (rec : Rec) (ih : DK) (ts : TT) (H : Hp) (K : TT → Hp → Option AV) : Option AV :=
  match xwanted ops ts o with
  | false => ts.putK o.dst .un fun ts => ih ts H K
  | true => Bx.casesOn (motive := fun _ => Option AV) (dArm o.op) (fun g => g o.dst E rec ih ts H K)
noncomputable def xdraw (E : XE) (rec : Rec) (ops : Array Oper) (l : List Oper) : DK :=
  List.rec (motive := fun _ => DK) (fun ts H K => K ts H) (fun o _ ih ts H K => dOper ops o E rec ih ts H K) l
def xexit (id : Nat) : List XI → Option (List XI)
  | [] => none
  | it :: k => match it with
    | .inBlock id' => match Nat.beq id' id with
      | true => some k
      | false => xexit id k
    | _ => xexit id k
def xgoto (l : Nat) : List XI → Option (List XI)
  | [] => none
  | it :: k => match it with
    | .inScope body => match findLabel body l with
      | some rest => some (.code rest :: .inScope body :: k)
      | none => xgoto l k
    | _ => xgoto l k
abbrev Arm := XE → Rec → Fr → List XI → TT → Hp → Option AV
noncomputable def oNone : Arm := fun _ _ _ _ _ _ => none
noncomputable def oSkip : Arm := fun _ rec fr k ts H => rec fr k ts H
noncomputable def oSeq (a b : Code) : Arm := fun _ rec fr k ts H => rec fr (.code a :: .code b :: k) ts H
noncomputable def oBlock (id : Nat) (c : Code) : Arm := fun _ rec fr k ts H => rec fr (.code c :: .inBlock id :: k) ts H
noncomputable def oLoop (c : Code) : Arm := fun _ rec fr k ts H => rec fr (.code c :: .inLoop c :: k) ts H
noncomputable def oScope (c : Code) : Arm := fun _ rec fr k ts H => rec fr (.code c :: .inScope c :: k) ts H
noncomputable def oCond (o : Operand) (a b : Code) : Arm := fun _ rec fr k ts H => match ev ts.get o with
  | .c (.bool t) => match t with
    | true => rec fr (.code a :: k) ts H
    | false => rec fr (.code b :: k) ts H
  | _ => none
noncomputable def oRet : Arm := fun E rec fr _ ts H => xleave E rec fr .ret ts H
noncomputable def oExit (id : Nat) : Arm := fun E rec fr k ts H => match xexit id k with
  | some k' => rec fr k' ts H
  | none => xleave E rec fr (.exit id) ts H
noncomputable def oGoto (l : Nat) : Arm := fun E rec fr k ts H => match xgoto l k with
  | some k' => rec fr k' ts H
  | none => xleave E rec fr (.goto l) ts H
def impOf (ops : Array Oper) (i : Nat) : Bool := match ops[i]? with
  | some o => match clOf o.op with
    | .call => true
    | .store => true
    | .any => true
    | _ => false
  | none => false
def isAl (o : Oper) : Bool := match o.op with
  | .alloc _ => match o.guard with
    | none => o.after.all fun e => !(Region.binds .any e)
    | some _ => false
  | _ => false
def findAl : List Oper → Nat → Nat × Nat
  | [], i => (i, i)
  | o :: l, i => match isAl o with
    | true => (i, goAl l (Nat.succ i))
    | false => findAl l (Nat.succ i)
where goAl : List Oper → Nat → Nat
  | [], i => i
  | o :: l, i => match isAl o with
    | true => goAl l (Nat.succ i)
    | false => i
noncomputable def zcOk (te : Tr TI) (ops : Array Oper) : List Nat → Bool
  | [] => true
  | a :: l => match alOf ops a with
    | some (_, t) => match te.get t with
      | some i => match i.zc with
        | some _ => zcOk te ops l
        | none => false
      | none => false
    | none => zcOk te ops l
def ordGAt (ops : Array Oper) (imp : Nat → Bool) (q : Nat) : List (Nat × Bool) := ordGFind ops imp (masks [] ops.toList) (Nat.sub ops.size q) (listQ ops q)
structure Plan where
  hd : Array Oper
  nx : Nx
  l : List (Nat × Bool)
noncomputable def planA (te : Tr TI) (ops : Array Oper) (p q : Nat) : Option Plan :=
  match splitXB ops p q && ((ordGGood (headOps ops p) (impOf (headOps ops p))).all fun x => x.2 || (reqOf ops p q).contains x.1) && zcOk te ops (List.range' p (Nat.sub q p)) && ordGB (headOps ops p) (impOf (headOps ops p)) (ordGGood (headOps ops p) (impOf (headOps ops p))) && ordG ops (impOf ops) (masks [] ops.toList) (ordGAt ops (impOf ops) q) (listQ ops q) &&
    Nat.beq (ordGAt ops (impOf ops) q).length (Nat.sub ops.size q) with
  | true => some ⟨headOps ops p, some (ops, ones (List.range' p (Nat.sub q p)) ++ ordGAt ops (impOf ops) q), ordGGood (headOps ops p) (impOf (headOps ops p))⟩
  | false => none
def planG (ops : Array Oper) : Option Plan := match ordGB ops (impOf ops) (ordGGood ops (impOf ops)) with
  | true => some ⟨ops, none, ordGGood ops (impOf ops)⟩
  | false => none
def frAt (ops : Array Oper) (i : Nat) : Bool := match ops[i]? with
  | some o => frB o
  | none => false
def isA (ops : Array Oper) (i : Nat) : Bool := match ops[i]? with
  | some o => frB o && o.after.all fun e => !Region.binds .any e || !frAt ops e.on
  | none => false
def exA (ops : Array Oper) (a : Nat) : List Nat := (List.range ops.size).filter fun i =>
  !Nat.beq i a && !wt ops a i && !wt ops i a && (impOf ops i || (isA ops i && Nat.blt i a)) && (List.range ops.size).all fun j => isA ops j || !wt ops j a || wt ops j i
noncomputable def planD (ops : Array Oper) : Option Plan :=
  match delayB ops (isA ops) (exA ops) && ordGB (dl (isA ops) (exA ops) ops) (impOf (dl (isA ops) (exA ops) ops)) (ordGGood (dl (isA ops) (exA ops) ops) (impOf (dl (isA ops) (exA ops) ops))) with
  | true => some ⟨dl (isA ops) (exA ops) ops, none, ordGGood (dl (isA ops) (exA ops) ops) (impOf (dl (isA ops) (exA ops) ops))⟩
  | false => none
noncomputable def planAD (te : Tr TI) (ops : Array Oper) : Option Plan := match findAl ops.toList 0 with
    | (p, q) => planA te ops p q
noncomputable def plan (te : Tr TI) (ops : Array Oper) : Option Plan := match planG ops with
  | some p => some p
  | none => match planAD te ops with
    | some p => some p
    | none => planD ops
noncomputable def oDrawP (p : Plan) : Arm := fun _ rec fr k ts H => match p with
  | ⟨hd, nx, l⟩ => rec fr (.dreg hd nx l [] none :: k) ts H
noncomputable def oDrawF (ops : Array Oper) : Arm := fun E rec fr k ts H => xdraw E rec ops ops.toList ts H fun ts H => rec fr k ts H
noncomputable def oDrawI (ops : Array Oper) : Arm := fun E rec fr k ts H => match plan E.te ops with
  | some p => oDrawP p E rec fr k ts H
  | none => match fastB ops with
    | true => oDrawF ops E rec fr k ts H
    | false => none
noncomputable def oDraw0 (ops : Array Oper) : Arm := fun E rec fr k ts H => match fastB ops with
  | true => oDrawF ops E rec fr k ts H
  | false => match plan E.te ops with
    | some p => oDrawP p E rec fr k ts H
    | none => none
noncomputable def oDraw (ops : Array Oper) : Arm := fun E rec fr k ts H => match E.im ops with
  | true => oDrawI ops E rec fr k ts H
  | false => oDraw0 ops E rec fr k ts H
noncomputable def oText (ops : Array Oper) : Arm := fun _ rec fr k ts H => rec fr (.reg ops 0 ops.toList :: k) ts H
noncomputable def oRegion (ops : Array Oper) (draw : Bool) : Arm := match draw with
  | true => oDraw ops
  | false => oText ops
noncomputable def oRange (fo : Operand) (ps : Array Tmp) (a b : Code) : Arm := fun E rec fr k ts H => match fr with
  | ⟨fi, n, st⟩ => match fi with
    | .rnd _ => none
    | fi => xev ts fo fun fv => fcN H.n fun id => H.pushK (.loop ⟨.ready, none, n, ts.get, ps, a, b⟩) fun H => xcall E rec fv [.yld id] H (.lp fi n id k ts :: st)
noncomputable def oCode (c : Code) : Arm := match c with
  | .skip => oSkip
  | .label _ => oSkip
  | .seq a b => oSeq a b
  | .block id c => oBlock id c
  | .loop c => oLoop c
  | .scope c => oScope c
  | .cond o a b => oCond o a b
  | .ret => oRet
  | .exit id => oExit id
  | .goto l => oGoto l
  | .region _ ops draw => oRegion ops draw
  | .rangeFunc fo ps a b => oRange fo ps a b
  | .refuse _ => oNone
noncomputable def oBegin : Arm := fun _ rec fr k ts H => match fr with
  | ⟨fi, n, st⟩ => match fi with
    | .rnd id => match H.get id with
      | some (.loop al) => match al with
        | ⟨s, pd, n', tmps, ps, a, b⟩ => match s with
          | .ready => H.setK id (.loop ⟨.busy, pd, n', tmps, ps, a, b⟩) fun H => rec ⟨.rnd id, n, st⟩ k ts H
          | _ => none
      | _ => none
    | _ => none
noncomputable def oCall (fo : Operand) (args : Array Operand) : Option Nat → XI → Arm := fun dst it E rec fr k ts H =>
  xev ts fo fun fv => xevs ts args.toList fun as => match fr with
    | ⟨fi, n, st⟩ => xcall E rec fv as H (.val fi n dst (it :: k) ts :: st)
noncomputable def oOp (g : XA AV) : Option Nat → XI → Arm := fun dst it E rec fr k ts H =>
  g E.te E.G ts H fun v H => ts.putK dst v fun ts => rec fr (it :: k) ts H
noncomputable def xfork (f : Nat × AV × AV → Option AV) (v : AV) : List (Nat × AV × AV) → Option AV
  | [] => some v
  | e :: l => match f e with
    | some u => match aeq u v with
      | true => xfork f v l
      | false => none
    | none => none
noncomputable def oNextE (id mid since : Nat) (seen : List Nat) (clock : Nat) (dst : Option Nat) (it : XI) (rec : Rec) (fr : Fr) (k : List XI) (ts : TT) (H : Hp) (e : Nat × AV × AV) : Option AV := match e with
  | (b, key, val) => fcL (seen ++ [b]) fun seen' => H.setK id (.mit mid since seen' clock) fun H => ts.putK dst (.tup [.c (.bool true), key, val]) fun ts => rec fr (it :: k) ts H
noncomputable def oNext (x : Operand) : Option Nat → XI → Arm := fun dst it E rec fr k ts H =>
  xev ts x fun x => xnext x H fun id mid since seen clock cands => match cands with
    | [] => ts.putK dst (.tup [.c (.bool false)]) fun ts => rec fr (it :: k) ts H
    | e :: l => match oNextE id mid since seen clock dst it rec fr k ts H e with
      | some v => xfork (oNextE id mid since seen clock dst it rec fr k ts H) v l
      | none => none
noncomputable def xfrzCap {β : Type} (a : AV) (H : Hp) (k : AV → Hp → β) : β := match a with
  | .ptr id 0 => match H.get id with
    | some (.cells cs) => match AV.purL cs with
      | true => H.setK id .dead fun H => k (.iptr cs 0) H
      | false => k (.ptr id 0) H
    | _ => k (.ptr id 0) H
  | a => fcT a fun a => k a H
noncomputable def xfrzCaps {β : Type} : List AV → Hp → (List AV → Hp → β) → β
  | [], H, k => k [] H
  | a :: l, H, k => xfrzCap a H fun b H => xfrzCaps l H fun m H => k (b :: m) H
theorem xfrzCap_eq {β : Type} (a : AV) (H : Hp) (k : AV → Hp → β) : ∃ H' : Hp, H'.abs = (frzCap a H.abs).2 ∧ xfrzCap a H k = k (frzCap a H.abs).1 H' := by
  unfold xfrzCap frzCap
  simp only [Hp.get_eq, fcT_eq, Hp.setK_eq]
  split
  · rename_i id
    simp only
    split
    · rename_i cs hcs
      split
      · rename_i hp
        exact ⟨H.set id .dead, by simp only [hcs, hp, if_true, Hp.abs_set], by simp only [hcs, hp, if_true]⟩
      · rename_i hp
        exact ⟨H, by simp only [hcs, hp, Bool.false_eq_true, if_false], by simp only [hcs, hp, Bool.false_eq_true, if_false]⟩
    · rename_i hne
      refine ⟨H, rfl, ?_⟩
      split
      · rename_i cs hcs; exact absurd hcs (hne cs)
      · rfl
  · rename_i hne
    refine ⟨H, rfl, ?_⟩
    split
    · rename_i id; exact absurd rfl (hne id)
    · rfl
theorem xfrzCaps_eq {β : Type} : ∀ (l : List AV) (H : Hp) (k : List AV → Hp → β), ∃ H' : Hp, H'.abs = (frzCaps l H.abs).2 ∧ xfrzCaps l H k = k (frzCaps l H.abs).1 H'
  | [], H, k => ⟨H, rfl, rfl⟩
  | a :: l, H, k => by
    obtain ⟨H1, h1, e1⟩ := xfrzCap_eq a H fun b H => xfrzCaps l H fun m H => k (b :: m) H
    obtain ⟨H2, h2, e2⟩ := xfrzCaps_eq l H1 fun m H => k ((frzCap a H.abs).1 :: m) H
    obtain ⟨H3, h3, e3⟩ := xfrzCaps_eq l H1 fun m H2 => k ((frzCap a H.abs).1 :: m) H2
    refine ⟨H3, ?_, ?_⟩
    · rw [h3, h1]; rfl
    · show xfrzCap a H (fun b H => xfrzCaps l H fun m H => k (b :: m) H) = _
      rw [e1, e3, h1]; rfl
noncomputable def oFunc (f : FuncId) (first caps : Array Operand) : Option Nat → XI → Arm := fun dst it E rec fr k ts H => xevs ts first.toList fun fs => xevs ts caps.toList fun cs => match E.fz.get f with
  | none => ts.putK dst (.fn f fs cs) fun ts => rec fr (it :: k) ts H
  | some _ => xfrzCaps cs H fun cs H => ts.putK dst (.fn f fs cs) fun ts => rec fr (it :: k) ts H
noncomputable def oRecover : Option Nat → XI → Arm := fun dst it _ rec fr k ts H => match fr with
  | ⟨fi, n, st⟩ => match fi with
    | .df rs pv => match pv with
      | none => ts.putK dst (.c .nilIface) fun ts => rec ⟨.da rs pv, n, st⟩ (it :: k) ts H
      | some v => ts.putK dst v fun ts => rec ⟨.da rs pv, n, st⟩ (it :: k) ts H
    | _ => none
noncomputable def oDefer (fo : Operand) (args : Array Operand) : Option Nat → XI → Arm := fun dst it _ rec fr k ts H =>
  xev ts fo fun fv => xevs ts args.toList fun as => match fr with
    | ⟨fi, n, st⟩ => match fi with
      | .fn rs => match fv with
        | .fn g first caps => fcL (first ++ (as ++ caps)) fun as => ts.putK dst .un fun ts => rec ⟨.fnD rs g as, n, st⟩ (it :: k) ts H
        | _ => none
      | _ => none
noncomputable def oPanic (x : Operand) : Option Nat → XI → Arm := fun _ _ E rec fr _ ts H => xev ts x fun v => match isIfc v with
  | true => match fr with
    | ⟨fi, _, st⟩ => xpanL E rec fi v ts H st
  | false => none
noncomputable def oRecoverA (as : Array Operand) : Option Nat → XI → Arm := match as.isEmpty with
  | true => oRecover
  | false => fun _ _ _ _ _ _ _ _ => none
noncomputable def oArm (op : Op) : Bx (Option Nat → XI → Arm) := match op with
  | .call ⟨.builtin .recover, as, _⟩ => .bx (oRecoverA as)
  | .defer ⟨.value fo, args, _⟩ => .bx (oDefer fo args)
  | .panic x => .bx (oPanic x)
  | .call ⟨.value fo, args, _⟩ => .bx (oCall fo args)
  | .next x false => .bx (oNext x)
  | .makeFunc (.func f) first caps => .bx (oFunc f first caps)
  | op => Bx.casesOn (motive := fun _ => Bx (Option Nat → XI → Arm)) (xopB (β := AV) op) (fun g => .bx (oOp g))
noncomputable def oOper (ops : Array Oper) (o : Oper) (it : XI) : Arm := fun E rec fr k ts H =>
  match xwanted ops ts o with
  | false => ts.putK o.dst .un fun ts => rec fr (it :: k) ts H
  | true => Bx.casesOn (motive := fun _ => Option AV) (oArm o.op) (fun g => g o.dst it E rec fr k ts H)
noncomputable def oReg (ops : Array Oper) (i : Nat) (l : List Oper) : Arm := match l with
  | [] => oSkip
  | o :: rest => oOper ops o (.reg ops (Nat.succ i) rest)
noncomputable def xchk (te : Tr TI) (G : Gl) (H : Hp) (m : Nat) : List WE → Option AV → Option AV
  | [], k => k
  | e :: W, k => match e with
    | ⟨i, op, ts, v⟩ => match bitAt m i with
      | true => xchk te G H m W k
      | false => match quiet1 (clOf op) with
        | true => xop te G op ts H fun u _ => match aeq u v with
          | true => xchk te G H m W k
          | false => none
        | false => none
noncomputable def gRead (ops : Array Oper) (nx : Nx) (i : Nat) (l : List (Nat × Bool)) (W : List WE) (o : Oper) : Arm := fun E rec fr k ts H => match clOf o.op with
  | .scal => xop E.te E.G o.op ts H fun v H' => ts.putK o.dst v fun ts => rec fr (.dreg ops nx l W none :: k) ts H'
  | .addr => xop E.te E.G o.op ts H fun v H' => ts.putK o.dst v fun ts' => rec fr (.dreg ops nx l (⟨i, o.op, ts, v⟩ :: W) none :: k) ts' H'
  | .read => xop E.te E.G o.op ts H fun v H' => ts.putK o.dst v fun ts' => rec fr (.dreg ops nx l (⟨i, o.op, ts, v⟩ :: W) none :: k) ts' H'
  | _ => none
noncomputable def gCall (fo : Operand) (args : Array Operand) (ops : Array Oper) (nx : Nx) (i : Nat) (l : List (Nat × Bool)) (W : List WE) (dst : Option Nat) : Arm := fun E rec fr k ts H =>
  xev ts fo fun fv => xevs ts args.toList fun as => match impOf ops i with
    | true => match fr with
      | ⟨fi, n, st⟩ => xcall E rec fv as H (.dr fi n dst i ops nx l W k ts :: st)
    | false => xpure E rec fv as fun v => ts.putK dst v fun ts => rec fr (.dreg ops nx l W none :: k) ts H
noncomputable def gOp (g : XA AV) (ops : Array Oper) (nx : Nx) (i : Nat) (l : List (Nat × Bool)) (W : List WE) (dst : Option Nat) : Arm := fun E rec fr k ts H => match impOf ops i with
    | true => g E.te E.G ts H fun v H => ts.putK dst v fun ts => rec fr (.dreg ops nx l W (some i) :: k) ts H
    | false => g E.te E.G ts H fun v H => ts.putK dst v fun ts => rec fr (.dreg ops nx l W none :: k) ts H
noncomputable def gArm (op : Op) : Bx (Array Oper → Nx → Nat → List (Nat × Bool) → List WE → Option Nat → Arm) := match op with
  | .call ⟨.value fo, args, _⟩ => .bx (gCall fo args)
  | op => Bx.casesOn (motive := fun _ => Bx (Array Oper → Nx → Nat → List (Nat × Bool) → List WE → Option Nat → Arm)) (xopB (β := AV) op) (fun g => .bx (gOp g))
noncomputable def gStep (ops : Array Oper) (nx : Nx) (i : Nat) (b : Bool) (l : List (Nat × Bool)) (W : List WE) : Arm := fun E rec fr k ts H => match lget ops.toList i with
  | some o => match b with
    | true => match xwanted ops ts o with
      | true => gRead ops nx i l W o E rec fr k ts H
      | false => ts.putK o.dst .un fun ts => rec fr (.dreg ops nx l W none :: k) ts H
    | false => match xwanted ops ts o with
      | true => Bx.casesOn (motive := fun _ => Option AV) (gArm o.op) (fun g => g ops nx i l W o.dst E rec fr k ts H)
      | false => match impOf ops i with
        | true => ts.putK o.dst .un fun ts => rec fr (.dreg ops nx l W (some i) :: k) ts H
        | false => ts.putK o.dst .un fun ts => rec fr (.dreg ops nx l W none :: k) ts H
  | none => none
noncomputable def oDreg1 (ops : Array Oper) (nx : Nx) (l : List (Nat × Bool)) (W : List WE) : Arm := fun E rec fr k ts H => match l with
  | [] => match nx with
    | none => rec fr k ts H
    | some x => match x with
      | (ops', l') => rec fr (.dreg ops' none l' W none :: k) ts H
  | p :: l => match p with
    | (i, b) => gStep ops nx i b l W E rec fr k ts H
def mfull (ops : Array Oper) (nx : Nx) : Array Oper := match nx with
  | some (o, _) => o
  | none => ops
noncomputable def oDreg (ops : Array Oper) (nx : Nx) (l : List (Nat × Bool)) (W : List WE) (c : Option Nat) : Arm := fun E rec fr k ts H => match c with
  | some j => xchk E.te E.G H ((masks [] (mfull ops nx).toList).getD j 0) W (oDreg1 ops nx l W E rec fr k ts H)
  | none => oDreg1 ops nx l W E rec fr k ts H
noncomputable def oItem (it : XI) : Arm := match it with
  | .code c => oCode c
  | .inBlock _ => oSkip
  | .inScope _ => oSkip
  | .inLoop c => oLoop c
  | .beginRound => oBegin
  | .reg ops i l => oReg ops i l
  | .dreg ops nx l W c => oDreg ops nx l W c
noncomputable def oEnd : Arm := fun E rec fr _ ts H => xleave E rec fr .nor ts H
noncomputable def oStep (E : XE) (rec : Rec) : Rec := fun fr todo ts H => (match todo with
  | [] => oEnd E rec fr []
  | it :: k => oItem it E rec fr k) ts H
noncomputable def outs (E : XE) (f : Nat) : Rec := Nat.rec (motive := fun _ => Rec) (fun _ _ _ _ => none) (fun _ ih => oStep E ih) f
end Go.Ab

set_option linter.unusedVariables false
set_option linter.unusedSimpArgs false
namespace Go.Ab
def Tr.mapI {α : Type} (f : Nat → α) : Tr α → (Nat → Nat) → Tr α
  | .lf, _ => .lf
  | .nd v l r, ix => .nd (match v with | some _ => some (f (ix 0)) | none => none) (l.mapI f fun i => ix (2 * i + 1)) (r.mapI f fun i => ix (2 * i + 2))
  | .ov t i v, ix => .ov (t.mapI f ix) i (f (ix i))
def Tr.allI {α : Type} (p : Nat → α → Bool) : Tr α → (Nat → Nat) → Bool
  | .lf, _ => true
  | .nd v l r, ix => (match v with | some a => p (ix 0) a | none => true) && (l.allI p fun i => ix (2 * i + 1)) && (r.allI p fun i => ix (2 * i + 2))
  | .ov _ _ _, _ => false
theorem Tr.get_mapI {α : Type} {f : Nat → α} : ∀ {t : Tr α} {ix : Nat → Nat} {i : Nat} {a : α}, (t.mapI f ix).get i = some a → t.allI (fun _ _ => true) ix = true → a = f (ix i)
  | .lf, ix, i, a, h, _ => by rw [Tr.mapI, Tr.get_lf] at h; cases h
  | .nd v l r, ix, i, a, h, ha => by
    simp only [Tr.allI, Bool.and_eq_true] at ha
    cases i with
    | zero =>
      simp only [Tr.mapI] at h; first | rw [Tr.get_nd0] at h | rw [Tr.get_ndS] at h
      cases v <;> simp at h
      exact h.symm
    | succ k =>
      simp only [Tr.mapI] at h; first | rw [Tr.get_nd0] at h | rw [Tr.get_ndS] at h
      split at h
      · rename_i hk
        rw [Tr.get_mapI h ha.1.2]
        have h1 : k % 2 = 0 := hk
        have h2 : 2 * Nat.div k 2 + 1 = k + 1 := by show 2 * (k / 2) + 1 = k + 1; omega
        rw [h2]
      · rename_i m hk
        rw [Tr.get_mapI h ha.2]
        have h1 : k % 2 = m + 1 := hk
        have h2 : 2 * Nat.div k 2 + 2 = k + 1 := by show 2 * (k / 2) + 2 = k + 1; omega
        rw [h2]
  | .ov t j v, ix, i, a, h, ha => by cases ha
theorem Tr.get_allI {α : Type} {p : Nat → α → Bool} : ∀ {t : Tr α} {ix : Nat → Nat} {i : Nat} {a : α}, t.get i = some a → t.allI p ix = true → p (ix i) a = true
  | .lf, ix, i, a, h, _ => by rw [Tr.get_lf] at h; cases h
  | .nd v l r, ix, i, a, h, ha => by
    simp only [Tr.allI, Bool.and_eq_true] at ha
    cases i with
    | zero =>
      first | rw [Tr.get_nd0] at h | rw [Tr.get_ndS] at h
      have := ha.1.1
      rw [h] at this
      exact this
    | succ k =>
      first | rw [Tr.get_nd0] at h | rw [Tr.get_ndS] at h
      split at h
      · rename_i hk
        have h3 := Tr.get_allI h ha.1.2
        have h1 : k % 2 = 0 := hk
        have h2 : 2 * Nat.div k 2 + 1 = k + 1 := by show 2 * (k / 2) + 1 = k + 1; omega
        rwa [h2] at h3
      · rename_i m hk
        have h3 := Tr.get_allI h ha.2
        have h1 : k % 2 = m + 1 := hk
        have h2 : 2 * Nat.div k 2 + 2 = k + 1 := by show 2 * (k / 2) + 2 = k + 1; omega
        rwa [h2] at h3
  | .ov t j v, ix, i, a, h, ha => by cases ha
def mkTI (P : Program) (t : TypeId) : TI :=
  { und := (P.underlying t).getD .invalid, agg := (aggT P t).getD false, sz := (szT P t).getD 0, byt := (bytesT P t).getD 0, zc := zeroCells P t, ze := zeroEl P t, eqg := P.eqGuardType P.depth t, held := P.stoodInHeld t }
def someTI (P : Program) (t : TypeId) : Bool := (P.underlying t).isSome && (aggT P t).isSome && (szT P t).isSome && (bytesT P t).isSome
theorem Tr.allI_mono {α : Type} {p q : Nat → α → Bool} (h : ∀ i a, p i a = true → q i a = true) : ∀ {t : Tr α} {ix : Nat → Nat}, t.allI p ix = true → t.allI q ix = true
  | .lf, ix, _ => rfl
  | .nd v l r, ix, ha => by
    simp only [Tr.allI, Bool.and_eq_true] at ha ⊢
    refine ⟨⟨?_, Tr.allI_mono h ha.1.2⟩, Tr.allI_mono h ha.2⟩
    cases v with
    | none => rfl
    | some a => exact h _ _ ha.1.1
  | .ov t j v, ix, ha => by cases ha
theorem TEok.of {P : Program} {te : Tr TI} (h : te.mapI (mkTI P) id = te) (h2 : te.allI (fun t _ => someTI P t) id = true) : TEok P te := by
  intro t i hi
  have h3 := Tr.get_allI hi h2
  have h4 : te.allI (fun _ _ => true) id = true := Tr.allI_mono (fun _ _ _ => rfl) h2
  rw [← h] at hi
  have h5 := Tr.get_mapI hi h4
  simp only [id] at h3 h5
  subst h5
  simp only [someTI, Bool.and_eq_true] at h3
  obtain ⟨⟨⟨a, b⟩, c⟩, d⟩ := h3
  obtain ⟨x1, e1⟩ := Option.isSome_iff_exists.1 a
  obtain ⟨x2, e2⟩ := Option.isSome_iff_exists.1 b
  obtain ⟨x3, e3⟩ := Option.isSome_iff_exists.1 c
  obtain ⟨x4, e4⟩ := Option.isSome_iff_exists.1 d
  simp [mkTI, e1, e2, e3, e4]
def feOk (fn : Func) : Bool := (match fn.body with | some c => codeOk fn.ntmps c | none => false) && resOk fn.ntmps fn.results && !(fn.name == "runtime.NumGoroutine")
def FTok (P : Program) (ft : Tr Func) : Prop := ∀ f fn, ft.get f = some fn → P.funcs[f]? = some fn ∧ feOk fn = true
theorem FTok.of {P : Program} {ft : Tr Func} (h : ft.mapI (fun i => (P.funcs[i]?).getD default) id = ft) (h2 : ft.allI (fun i fn => (P.funcs[i]?).isSome && feOk fn) id = true) : FTok P ft := by
  intro f fn hi
  have h3 := Tr.get_allI hi h2
  have h4 : ft.allI (fun _ _ => true) id = true := Tr.allI_mono (fun _ _ _ => rfl) h2
  rw [← h] at hi
  have h5 := Tr.get_mapI hi h4
  simp only [id, Bool.and_eq_true] at h3 h5
  obtain ⟨x1, e1⟩ := Option.isSome_iff_exists.1 h3.1
  rw [e1] at h5
  simp only [Option.getD_some] at h5
  subst h5
  exact ⟨e1, h3.2⟩
end Go.Ab

set_option linter.unusedVariables false
set_option linter.unusedSimpArgs false
namespace Go.Ab
def XI.abs : XI → Item
  | .code c => .code c
  | .inBlock id => .inBlock id
  | .inLoop c => .inLoop c
  | .inScope c => .inScope c
  | .beginRound => .beginRound
  | .reg ops i l => .inRegion ops (List.range' i l.length)
  | .dreg _ _ _ _ _ => .beginRound
def okX : XI → Prop
  | .reg ops i l => l = ops.toList.drop i
  | .dreg _ _ _ _ _ => False
  | _ => True
def okT (todo : List XI) : Prop := ∀ it ∈ todo, okX it
theorem okT.cons {it : XI} {k : List XI} (h : okX it) (hk : okT k) : okT (it :: k) := fun x hx => by
  rcases List.mem_cons.1 hx with rfl | h1
  · exact h
  · exact hk x h1
theorem okT.tail {it : XI} {k : List XI} (h : okT (it :: k)) : okT k := fun x hx => h x (by simp [hx])
theorem okT.head {it : XI} {k : List XI} (h : okT (it :: k)) : okX it := h it (by simp)
def okF : SF → Prop
  | .val _ _ _ todo _ => okT todo
  | .lp _ _ _ todo _ => okT todo
  | .dr _ _ _ _ _ _ _ _ todo _ => okT todo
  | .dfr _ _ _ => True
def okS (st : List SF) : Prop := ∀ f ∈ st, okF f
theorem okS.cons {f : SF} {st : List SF} (h : okF f) (hk : okS st) : okS (f :: st) := fun x hx => by
  rcases List.mem_cons.1 hx with rfl | h1
  · exact h
  · exact hk x h1
theorem okS.tail {f : SF} {st : List SF} (h : okS (f :: st)) : okS st := fun x hx => h x (by simp [hx])
theorem okS.head {f : SF} {st : List SF} (h : okS (f :: st)) : okF f := h f (by simp)
section
variable (P : Program) (G : Gl)
structure QQ where
  r : AV → List AO → Prop
  p : AV → List AO → Prop
  d : Bool → List AO → Prop
def LeaveQ (fi : FI) (n : Nat) (q : QQ) : Lv → (Nat → AV) → List AO → Prop :=
  match fi with
  | .fn rs => BQ P G rs n q.r q.p
  | .rnd id => fun L ts' H' => L.plain = true ∧ ∃ al' : ALoop, H'[id]? = some (.loop al') ∧ q.r (.c (.bool (jumpOf L).isNone)) (H'.set id (.loop { al' with st := if (jumpOf L).isNone then .ready else .done, pending := jumpOf L }))
  | .fnD rs g as => DQ P G rs g as q.r q.p
  | .df rs pv => DBef P G rs n pv q.d
  | .da rs pv => DAft P G rs (q.d pv.isSome)
def WP (ops : Array Oper) (W : List WE) (j : Nat) : List AO → Prop := fun H => ∀ e ∈ W, wt ops j e.i = false → aop P G e.op (ev e.ts.get) H = some ⟨True, e.v, H⟩
def NxK (K : (Nat → AV) → List AO → Prop) : Nx → (Nat → List AO → Prop) → (Nat → AV) → List AO → Prop
  | none => fun _ => K
  | some (ops, l) => fun W ts H => runG P G ops (wt ops) (impOf ops) (fun _ => K) l W ts H
theorem NxK_mono (K : (Nat → AV) → List AO → Prop) (nx : Nx) (W W' : Nat → List AO → Prop) (ts : Nat → AV) (H : List AO) (hW : ∀ j H, W j H → W' j H) (h : NxK P G K nx W ts H) : NxK P G K nx W' ts H := by
  cases nx with
  | none => exact h
  | some x => obtain ⟨o, l⟩ := x; exact runG_mono (fun _ _ _ _ _ h => h) hW h
def QS (goal : AV) : List SF → QQ
  | [] => ⟨fun v H => ∃ m, frz m H v = some goal, fun _ _ => False, fun _ _ => False⟩
  | .val fi n dst todo ts :: st => ⟨fun v H => FW P G fi.rd n (todo.map XI.abs) (put ts.get dst v) H (LeaveQ P G fi n (QS goal st)), fun v H => LeaveQ P G fi n (QS goal st) (.pan v) ts.get H, fun _ _ => False⟩
  | .lp fi n id todo ts :: st => ⟨fun v H1 => ∃ al : ALoop, H1[id]? = some (.loop al) ∧ al.st ≠ .busy ∧
      FW P G fi.rd n ((al.pending.map Item.code).toList ++ todo.map XI.abs) ts.get (H1.set id .dead) (LeaveQ P G fi n (QS goal st)), fun _ _ => False, fun _ _ => False⟩
  | .dr fi n dst j ops nx l W todo ts :: st => ⟨fun v H => WP P G (mfull ops nx) W j H ∧
      runG P G ops (wt (mfull ops nx)) (impOf ops) (NxK P G (fun ts H => FW P G fi.rd n (todo.map XI.abs) ts H (LeaveQ P G fi n (QS goal st))) nx) l (WP P G (mfull ops nx) W) (put ts.get dst v) H, fun _ _ => False, fun _ _ => False⟩
  | .dfr rs ts md :: st => ⟨fun _ _ => False, fun _ _ => False, fun b H => match md with
      | none => ∃ v, resA P G rs ts.get H = some v ∧ (QS goal st).r v H
      | some pv => match b with
        | true => ∃ v, resA P G rs ts.get H = some v ∧ (QS goal st).r v H
        | false => (QS goal st).p pv H⟩
abbrev RetQ (goal : AV) (st : List SF) : AV → List AO → Prop := (QS P G goal st).r
def Owe (fr : Fr) (todo : List XI) (ts : TT) (H : Hp) (goal : AV) : Prop := FW P G fr.fi.rd fr.n (todo.map XI.abs) ts.get H.abs (LeaveQ P G fr.fi fr.n (QS P G goal fr.st))
def OweD (fr : Fr) (ops : Array Oper) (nx : Nx) (l : List (Nat × Bool)) (W : List WE) (k : List XI) (ts : TT) (H : Hp) (goal : AV) : Prop :=
  runG P G ops (wt (mfull ops nx)) (impOf ops) (NxK P G (fun ts H => FW P G fr.fi.rd fr.n (k.map XI.abs) ts H (LeaveQ P G fr.fi fr.n (QS P G goal fr.st))) nx) l (WP P G (mfull ops nx) W) ts.get H.abs
def RecOk (rec : Rec) : Prop := (∀ fr todo ts H goal, okT todo → okS fr.st → rec fr todo ts H = some goal → Owe P G fr todo ts H goal) ∧
  ∀ fr ops nx l W c k ts H goal, okT k → okS fr.st → rec fr (.dreg ops nx l W c :: k) ts H = some goal → (∀ j, c = some j → WP P G (mfull ops nx) W j H.abs) ∧ OweD P G fr ops nx l W k ts H goal
end
structure EOk (P : Program) (E : XE) : Prop where
  mix : P.follows .mixedOrders = true
  te : TEok P E.te
  ft : FTok P E.ft
  gp : GPure E.G
  tb : ∀ f args v, E.tb f args = some v → Pur P E.G f args v
  mz : ∀ f, E.mz = some f → MZ P f
theorem tt_base (tmps : Nat → AV) : (⟨tmps, .lf⟩ : TT).get = tmps := by
  funext i
  unfold TT.get
  rw [PT.get_lf]
theorem drop_get {ops : Array Oper} {i : Nat} {o : Oper} {l : List Oper} (h : o :: l = ops.toList.drop i) : ops[i]? = some o ∧ l = ops.toList.drop (i + 1) := by
  have hi : i < ops.toList.length := by
    rcases Nat.lt_or_ge i ops.toList.length with h1 | h1
    · exact h1
    · rw [List.drop_eq_nil_of_le h1] at h; cases h
  rw [List.drop_eq_getElem_cons hi] at h
  injection h with h1 h2
  refine ⟨?_, h2⟩
  rw [h1]
  simp
theorem xexit_abs {id : Nat} : ∀ (k : List XI), okT k → (∀ k', xexit id k = some k' → exitTo id (k.map XI.abs) = some (k'.map XI.abs) ∧ okT k') ∧ (xexit id k = none → exitTo id (k.map XI.abs) = none)
  | [], _ => ⟨fun k' h => (by cases h), fun _ => rfl⟩
  | it :: k, hk => by
    have ih := xexit_abs (id := id) k hk.tail
    cases it with
    | inBlock id' =>
      simp only [xexit, List.map_cons, XI.abs, exitTo]
      cases hb : Nat.beq id' id with
      | true =>
        have e := Nat.eq_of_beq_eq_true hb
        subst e
        simp only [beq_self_eq_true, if_true]
        exact ⟨fun k' h => (by cases h; exact ⟨rfl, hk.tail⟩), fun h => (by cases h)⟩
      | false =>
        have e : (id' == id) = false := by
          rw [beq_eq_false_iff_ne]
          intro e; subst e; simp at hb
        simp only [e, Bool.false_eq_true, if_false]
        exact ih
    | _ => exact ih
theorem xgoto_abs {l : Nat} : ∀ (k : List XI), okT k → (∀ k', xgoto l k = some k' → gotoIn l (k.map XI.abs) = some (k'.map XI.abs) ∧ okT k') ∧ (xgoto l k = none → gotoIn l (k.map XI.abs) = none)
  | [], _ => ⟨fun k' h => (by cases h), fun _ => rfl⟩
  | it :: k, hk => by
    have ih := xgoto_abs (l := l) k hk.tail
    cases it with
    | inScope body =>
      simp only [xgoto, List.map_cons, XI.abs, gotoIn]
      cases hb : findLabel body l with
      | some rest =>
        exact ⟨fun k' h => (by cases h; exact ⟨rfl, okT.cons (it := .code rest) trivial hk⟩), fun h => (by cases h)⟩
      | none => exact ih
    | _ => exact ih
section
variable {P : Program} {E : XE} {rec : Rec} (hrec : RecOk P E.G rec)
include hrec
theorem xret_sound {st : List SF} {v : AV} {H : Hp} {goal : AV} (hs : okS st) (h : xret rec st v H = some goal) : RetQ P E.G goal st v H.abs := by
  unfold xret at h
  split at h
  · exact xfrz_sound h
  · rename_i f st
    split at h
    · rename_i fi n dst todo ts
      simp only [xretV, TT.putK_eq] at h
      have := hrec.1 _ _ _ _ _ hs.head hs.tail h
      unfold Owe at this
      rw [TT.get_put] at this
      exact this
    · rename_i fi n id todo ts
      simp only [xretL, Hp.get_eq, Hp.setK_eq] at h
      split at h
      · rename_i al hal
        have key : al.st ≠ .busy → (match al.pending with
            | none => rec ⟨fi, n, st⟩ todo ts (H.set id .dead)
            | some c => rec ⟨fi, n, st⟩ (.code c :: todo) ts (H.set id .dead)) = some goal → RetQ P E.G goal (.lp fi n id todo ts :: st) v H.abs := by
          intro hb h
          refine ⟨al, hal, hb, ?_⟩
          split at h
          · rename_i hp
            have := hrec.1 _ _ _ _ _ hs.head hs.tail h
            unfold Owe at this
            rw [Hp.abs_set] at this
            rw [hp]; exact this
          · rename_i c hp
            have := hrec.1 _ _ _ _ _ (okT.cons (it := .code c) trivial hs.head) hs.tail h
            unfold Owe at this
            rw [Hp.abs_set] at this
            rw [hp]; exact this
        cases hst : al.st <;> rw [hst] at h
        · exact key (by rw [hst]; intro h; cases h) h
        · cases h
        · exact key (by rw [hst]; intro h; cases h) h
        · exact key (by rw [hst]; intro h; cases h) h
      · cases h
    · rename_i fi n dst j ops nx l W todo ts
      simp only [xretD, TT.putK_eq] at h
      have := hrec.2 _ _ _ _ _ _ _ _ _ _ hs.head hs.tail h
      unfold OweD at this
      rw [TT.get_put] at this
      exact ⟨this.1 j rfl, this.2⟩
    · cases h
end
section
variable {P : Program} {E : XE} {rec : Rec} (hE : EOk P E)
include hE
theorem xresL_sound {ts : TT} {H : Hp} {k : List AV → Option AV} {r : AV} : ∀ {l : List ResultVar}, xresL E.te E.G ts H l k = some r → ∃ vs, resL P E.G ts.get H.abs l = some vs ∧ k vs = some r := by
  intro l
  induction l generalizing k with
  | nil => intro h; exact ⟨[], rfl, h⟩
  | cons q l ih =>
    intro h
    unfold xresL at h
    split at h
    · rw [fcT_eq] at h
      obtain ⟨vs, h1, h2⟩ := ih h
      exact ⟨_, by simp only [resL, resVar, h1], h2⟩
    · rw [fcT_eq] at h
      obtain ⟨v, h0, h⟩ := xload_sound hE.te h
      obtain ⟨vs, h1, h2⟩ := ih h
      exact ⟨_, by simp only [resL, resVar, h0, h1], h2⟩
theorem xres_sound {rs : Array ResultVar} {ts : TT} {H : Hp} {k : AV → Option AV} {r : AV} (h : xres E.te E.G rs ts H k = some r) : ∃ v, resA P E.G rs ts.get H.abs = some v ∧ k v = some r := by
  unfold xres at h
  obtain ⟨vs, h1, h2⟩ := xresL_sound hE h
  unfold resA
  rw [h1]
  split at h2
  · exact ⟨_, rfl, h2⟩
  · rename_i hne
    refine ⟨.tup vs, ?_, h2⟩
    split
    · rename_i v hv; cases hv; exact absurd rfl (hne v)
    · rename_i vs' _ hv; cases hv; rfl
    · rename_i hv; cases hv
theorem oArm_sound {op : Op} {dst : Option Nat} {it : XI} {fr : Fr} {k : List XI} {ts : TT} {H : Hp} {r : AV}
    (h : Bx.casesOn (motive := fun _ => Option AV) (oArm op) (fun g => g dst it E rec fr k ts H) = some r) :
    (∃ fo args tys, op = .call ⟨.value fo, args, tys⟩ ∧ xcall E rec (ev ts.get fo) (args.toList.map (ev ts.get)) H (.val fr.fi fr.n dst (it :: k) ts :: fr.st) = some r) ∨
    (∃ x, op = .next x false ∧ oNext x dst it E rec fr k ts H = some r) ∨
    (∃ f first caps, op = .makeFunc (.func f) first caps ∧ ∃ H' : Hp, H'.abs = (frzCaps (caps.toList.map (ev ts.get)) H.abs).2 ∧ rec fr (it :: k) (ts.put dst (.fn f (first.toList.map (ev ts.get)) (frzCaps (caps.toList.map (ev ts.get)) H.abs).1)) H' = some r) ∨
    (∃ ar H', aop P E.G op (ev ts.get) H.abs = some ar ∧ ar.c ∧ ar.H = H'.abs ∧ rec fr (it :: k) (ts.put dst ar.v) H' = some r) ∨
    (isRecover op = true ∧ ∃ rs pv, fr.fi = .df rs pv ∧ rec ⟨.da rs pv, fr.n, fr.st⟩ (it :: k) (ts.put dst (pv.getD (.c .nilIface))) H = some r) ∨
    (∃ fo args tys rs g first caps, op = .defer ⟨.value fo, args, tys⟩ ∧ fr.fi = .fn rs ∧ ev ts.get fo = .fn g first caps ∧
      rec ⟨.fnD rs g (first ++ (args.toList.map (ev ts.get) ++ caps)), fr.n, fr.st⟩ (it :: k) (ts.put dst .un) H = some r) ∨
    (∃ x, op = .panic x ∧ isIfc (ev ts.get x) = true ∧ xpanL E rec fr.fi (ev ts.get x) ts H fr.st = some r) := by
  unfold oArm at h
  split at h
  · rename_i as tys
    have h : oRecoverA as dst it E rec fr k ts H = some r := h
    unfold oRecoverA at h
    cases has : as.isEmpty with
    | false => rw [has] at h; cases h
    | true =>
    rw [has] at h
    refine .inr (.inr (.inr (.inr (.inl ⟨has, ?_⟩))))
    have h : oRecover dst it E rec fr k ts H = some r := h
    unfold oRecover at h
    obtain ⟨fi, n, st⟩ := fr
    cases fi with
    | df rs pv =>
      refine ⟨rs, pv, rfl, ?_⟩
      cases pv with
      | none =>
        have h : ts.putK dst (.c .nilIface) (fun ts => rec ⟨.da rs none, n, st⟩ (it :: k) ts H) = some r := h
        rw [TT.putK_eq] at h
        exact h
      | some v =>
        have h : ts.putK dst v (fun ts => rec ⟨.da rs (some v), n, st⟩ (it :: k) ts H) = some r := h
        rw [TT.putK_eq] at h
        exact h
    | _ => cases h
  · rename_i fo args tys
    refine .inr (.inr (.inr (.inr (.inr (.inl ?_)))))
    simp only [oDefer, xev_eq, xevs_eq] at h
    obtain ⟨fi, n, st⟩ := fr
    simp only at h
    split at h
    · rename_i rs
      split at h
      · rename_i g first caps hf
        rw [fcL_eq, TT.putK_eq] at h
        exact ⟨fo, args, tys, rs, g, first, caps, rfl, rfl, hf, h⟩
      · cases h
    · cases h
  · rename_i x
    refine .inr (.inr (.inr (.inr (.inr (.inr ?_)))))
    simp only [oPanic, xev_eq] at h
    obtain ⟨fi, n, st⟩ := fr
    split at h
    · rename_i hx
      exact ⟨x, rfl, hx, h⟩
    · cases h
  · rename_i fo args tys
    simp only [oCall, xev_eq, xevs_eq] at h
    exact .inl ⟨fo, args, tys, rfl, h⟩
  · rename_i x
    exact .inr (.inl ⟨x, rfl, h⟩)
  · rename_i f first caps
    simp only [oFunc, xevs_eq] at h
    split at h
    · rw [TT.putK_eq] at h
      exact .inr (.inr (.inr (.inl ⟨⟨True, .fn f (first.toList.map (ev ts.get)) (caps.toList.map (ev ts.get)), H.abs⟩, H, rfl, trivial, rfl, h⟩)))
    · obtain ⟨H', h1, h2⟩ := xfrzCaps_eq (caps.toList.map (ev ts.get)) H fun cs H => ts.putK dst (.fn f (first.toList.map (ev ts.get)) cs) fun ts => rec fr (it :: k) ts H
      rw [h2, TT.putK_eq] at h
      exact .inr (.inr (.inl ⟨f, first, caps, rfl, H', h1, h⟩))
  · refine .inr (.inr (.inr (.inl ?_)))
    have h' : xop E.te E.G op ts H (fun v H => ts.putK dst v fun ts => rec fr (it :: k) ts H) = some r := by
      unfold xop
      cases hb : xopB (β := AV) op with
      | bx g => rw [hb] at h; exact h
    obtain ⟨ar, H', h1, h2, h3, h4⟩ := xop_sound hE.te h'
    rw [TT.putK_eq] at h4
    exact ⟨ar, H', h1, h2, h3, h4⟩
omit hE in
theorem xfork_sound {f : Nat × AV × AV → Option AV} {v r : AV} : ∀ {l : List (Nat × AV × AV)}, xfork f v l = some r → r = v ∧ ∀ e ∈ l, f e = some v
  | [], h => by cases h; exact ⟨rfl, fun e he => by cases he⟩
  | e :: l, h => by
    simp only [xfork] at h
    split at h
    · rename_i u hu
      split at h
      · rename_i hq
        have := aeq_sound hq
        subst this
        obtain ⟨h1, h2⟩ := xfork_sound h
        exact ⟨h1, fun x hx => by
          rcases List.mem_cons.1 hx with rfl | hx
          · exact hu
          · exact h2 x hx⟩
      · cases h
    · cases h
variable (hrec : RecOk P E.G rec)
include hrec
theorem xenterD_sound {f : FuncId} {fn : Func} (hf : E.ft.get f = some fn) {as : List AV} {pv : Option AV} {H : Hp} {st : List SF} {goal : AV} (hs : okS st) (h : xenterD rec fn as pv H st = some goal) :
    ACD P E.G f as H.abs pv (QS P E.G goal st).d := by
  obtain ⟨hfn, hok⟩ := hE.ft f fn hf
  unfold feOk at hok
  rw [Bool.and_eq_true, Bool.and_eq_true] at hok
  obtain ⟨⟨hok1, hok2⟩, hok3⟩ := hok
  unfold xenterD at h
  split at h
  · rename_i c hb
    rw [hb] at hok1
    simp only [lenK_eq, Nat.zero_add] at h
    split at h
    · rename_i hle
      obtain ⟨t, h1, h2⟩ := xargs_sound (m := []) tt0_get h
      have h3 := hrec.1 _ _ _ _ _ (okT.cons (it := .code c) trivial (fun x hx => by cases hx)) hs h2
      unfold Owe at h3
      rw [h1] at h3
      exact ACD.of_body hfn hb (by simpa using hok3) hok1 hok2 (Nat.le_of_ble_eq_true hle) h3
    · cases h
  · cases h
theorem xdefer_sound {rs : Array ResultVar} {g : FuncId} {as : List AV} {md : Option AV} {ts : TT} {H : Hp} {st : List SF} {goal : AV} (hs : okS st) (h : xdefer E rec rs g as md ts H st = some goal) :
    ACD P E.G g as H.abs md (QS P E.G goal (.dfr rs ts md :: st)).d := by
  unfold xdefer at h
  split at h
  · rename_i fn hf
    exact xenterD_sound hE hrec hf (okS.cons (f := .dfr rs ts md) trivial hs) h
  · cases h
omit hE hrec in
theorem ACD.mono' {G : Gl} {f : FuncId} {args : List AV} {H : List AO} {pv : Option AV} {K K' : Bool → List AO → Prop} (h : ACD P G f args H pv K) (hk : ∀ b H', K b H' → K' b H') : ACD P G f args H pv K' :=
  ⟨h.1, fun E w vargs hH hA c cs r hm => let ⟨b, H', E', w', h1, h2⟩ := h.2 E w vargs hH hA c cs r hm; ⟨b, H', E', w', hk _ _ h1, h2⟩⟩
theorem leave_pan {rs : Array ResultVar} {g : FuncId} {as : List AV} {ts : TT} {H : Hp} {st : List SF} {goal v : AV} (hs : okS st) (h : xdefer E rec rs g as (some v) ts H st = some goal) :
    DQ P E.G rs g as (QS P E.G goal st).r (QS P E.G goal st).p (.pan v) ts.get H.abs := by
  refine .inr ⟨v, rfl, ACD.mono' (xdefer_sound hE hrec hs h) fun b H' hq => ?_⟩
  cases b <;> exact hq
theorem xpan_sound {v : AV} {H : Hp} {goal : AV} : ∀ {st : List SF}, okS st → xpan E rec v H st = some goal → (QS P E.G goal st).p v H.abs
  | [], _, h => by cases h
  | f :: st, hs, h => by
    unfold xpan at h
    split at h
    · rename_i fi n dst todo ts
      split at h
      · exact .inl (.inr ⟨v, rfl, xpan_sound hs.tail h⟩)
      · exact leave_pan hE hrec hs.tail h
      · cases h
    · cases h
theorem xpanL_sound {fi : FI} {n : Nat} {v : AV} {ts : TT} {H : Hp} {st : List SF} {goal : AV} (hs : okS st) (h : xpanL E rec fi v ts H st = some goal) : LeaveQ P E.G fi n (QS P E.G goal st) (.pan v) ts.get H.abs := by
  unfold xpanL at h
  split at h
  · exact .inl (.inr ⟨v, rfl, xpan_sound hE hrec hs h⟩)
  · exact leave_pan hE hrec hs h
  · cases h
theorem xdone_sound {b : Bool} {H : Hp} {st : List SF} {goal : AV} (hs : okS st) (h : xdone E rec b H st = some goal) : (QS P E.G goal st).d b H.abs := by
  unfold xdone at h
  split at h
  · rename_i rs ts md st
    split at h
    · obtain ⟨v, h1, h2⟩ := xres_sound hE h
      exact ⟨v, h1, xret_sound hrec hs.tail h2⟩
    · split at h
      · obtain ⟨v, h1, h2⟩ := xres_sound hE h
        exact ⟨v, h1, xret_sound hrec hs.tail h2⟩
      · exact xpan_sound hE hrec hs.tail h
  · cases h
omit hE hrec in
theorem isNR_spec {L : Lv} (h : isNR L = true) : L = .nor ∨ L = .ret := by
  cases L <;> first | exact .inl rfl | exact .inr rfl | cases h
theorem xleave_sound {fr : Fr} {L : Lv} {ts : TT} {H : Hp} {goal : AV} (hpl : L.plain = true) (hs : okS fr.st) (h : xleave E rec fr L ts H = some goal) : LeaveQ P E.G fr.fi fr.n (QS P E.G goal fr.st) L ts.get H.abs := by
  obtain ⟨fi, n, st⟩ := fr
  unfold xleave at h
  simp only at h
  cases fi with
  | fn rs =>
    simp only [xleaveF] at h
    unfold LeaveQ
    simp only
    refine .inl (.inl ?_)
    split at h
    · obtain ⟨v, h1, h2⟩ := xres_sound hE h
      exact ⟨.inl rfl, v, h1, xret_sound hrec hs h2⟩
    · obtain ⟨v, h1, h2⟩ := xres_sound hE h
      exact ⟨.inr rfl, v, h1, xret_sound hrec hs h2⟩
    · cases h
  | rnd id =>
    simp only [xleaveR, Hp.get_eq, Hp.setK_eq] at h
    unfold LeaveQ
    simp only
    refine ⟨hpl, ?_⟩
    split at h
    · rename_i al hal
      obtain ⟨s, pd, n', tmps, ps, a, b⟩ := al
      refine ⟨_, hal, ?_⟩
      simp only at h
      split at h
      · rename_i hj
        have := xret_sound hrec hs h
        rw [Hp.abs_set] at this
        simp only [hj, Option.isNone_none, if_true]
        exact this
      · rename_i j hj
        have := xret_sound hrec hs h
        rw [Hp.abs_set] at this
        simp only [hj, Option.isNone_some, Bool.false_eq_true, if_false]
        exact this
    · cases h
  | fnD rs g as =>
    simp only at h
    split at h
    · rename_i hL
      exact .inl ⟨isNR_spec hL, ACD.mono' (xdefer_sound hE hrec hs h) fun b H' hq => hq⟩
    · cases h
  | df rs pv =>
    simp only at h
    split at h
    · rename_i hL
      obtain ⟨v, h1, h2⟩ := xres_sound hE h
      exact .inl ⟨isNR_spec hL, ⟨v, h1⟩, xdone_sound hE hrec hs h2⟩
    · cases h
  | da rs pv =>
    simp only at h
    split at h
    · rename_i hL
      obtain ⟨v, h1, h2⟩ := xres_sound hE h
      exact ⟨isNR_spec hL, ⟨v, h1⟩, xdone_sound hE hrec hs h2⟩
    · cases h
theorem xenter_sound {f : FuncId} {fn : Func} (hf : E.ft.get f = some fn) {as : List AV} {H : Hp} {st : List SF} {goal : AV} (hs : okS st) (h : xenter rec fn as H st = some goal) :
    ACP P E.G f as H.abs (QS P E.G goal st).r (QS P E.G goal st).p := by
  obtain ⟨hfn, hok⟩ := hE.ft f fn hf
  unfold feOk at hok
  rw [Bool.and_eq_true, Bool.and_eq_true] at hok
  obtain ⟨⟨hok1, hok2⟩, hok3⟩ := hok
  unfold xenter at h
  split at h
  · rename_i c hb
    rw [hb] at hok1
    simp only [lenK_eq, Nat.zero_add] at h
    split at h
    · rename_i hle
      obtain ⟨t, h1, h2⟩ := xargs_sound (m := []) tt0_get h
      have h3 := hrec.1 _ _ _ _ _ (okT.cons (it := .code c) trivial (fun x hx => by cases hx)) hs h2
      unfold Owe at h3
      rw [h1] at h3
      exact ACP.of_body hfn hb (by simpa using hok3) hok1 hok2 (Nat.le_of_ble_eq_true hle) h3
    · cases h
  · cases h
theorem xpureA_sound {f : FuncId} {as : List AV} {k : AV → Option AV} {r : AV} (h : xpureA f as E rec k = some r) : ∃ v, Pur P E.G f as v ∧ k v = some r := by
  unfold xpureA at h
  split at h
  · rename_i v hv
    exact ⟨v, hE.tb f as v hv, h⟩
  · unfold xpureF at h
    split at h
    · rename_i hp
      split at h
      · rename_i fn hfn
        split at h
        · rename_i v hv
          rw [fcT_eq] at h
          have := (xenter_sound hE hrec hfn (H := ⟨0, .lf⟩) (st := []) (fun x hx => by cases hx) hv).toAC (fun _ _ h => h)
          exact ⟨v, Pur.of_alone hE.gp hp this, h⟩
        · cases h
      · cases h
    · cases h
theorem xpure_sound {callee : AV} {args : List AV} {k : AV → Option AV} {r : AV} (h : xpure E rec callee args k = some r) : ∃ v, PurV P E.G callee args v ∧ k v = some r := by
  unfold xpure at h
  split at h
  · rw [fcL_eq] at h
    obtain ⟨v, h1, h2⟩ := xpureA_sound hE hrec h
    exact ⟨v, Pur.toV h1, h2⟩
  · cases h
def MzR (P : Program) (f : FuncId) (as : List AV) (H : List AO) (r : AV → List AO → Prop) : Prop := MZ P f ∧ ∃ m : Nat, 0 < m ∧ m ≤ 1099511627776 ∧ as = [.c (.int .i64 m)] ∧ r (slv H.length m) (H ++ [.arr 1 (List.replicate m .any)])
theorem xmz_sound {f : FuncId} {as : List AV} {H : Hp} {st : List SF} {goal : AV} (hs : okS st) (h : xmz f as E rec H st = some goal) : isVal st = true ∧ MzR P f as H.abs (QS P E.G goal st).r := by
  unfold xmz at h
  split at h
  · rename_i g hg
    split at h
    · rename_i hb
      have e := Nat.eq_of_beq_eq_true hb
      subst e
      split at h
      · rename_i hv
        split at h
        · rename_i n
          obtain ⟨_, m, rfl, _, h⟩ := toNatK_sound h
          cases m with
          | zero => cases h
          | succ m' =>
            simp only at h
            split at h
            · rename_i hle
              simp only [repK_eq, fcN_eq, Hp.pushK_eq, fcT_eq] at h
              have := xret_sound hrec hs h
              rw [Hp.abs_push] at this
              exact ⟨hv, hE.mz g hg, m' + 1, by omega, Nat.le_of_ble_eq_true hle, rfl, by rw [Hp.abs_length]; exact this⟩
            · cases h
        · cases h
      · cases h
    · cases h
  · cases h
theorem xcallF_sound {f : FuncId} {first caps args : List AV} {H : Hp} {st : List SF} {goal : AV} (hs : okS st) (h : xcallF f first caps E rec args H st = some goal) :
    ACP P E.G f (first ++ (args ++ caps)) H.abs (QS P E.G goal st).r (QS P E.G goal st).p ∨ (isVal st = true ∧ MzR P f (first ++ (args ++ caps)) H.abs (QS P E.G goal st).r) := by
  unfold xcallF at h
  simp only [fcL_eq] at h
  have key : ∀ as, xcallA f as E rec H st = some goal → ACP P E.G f as H.abs (QS P E.G goal st).r (QS P E.G goal st).p ∨ (isVal st = true ∧ MzR P f as H.abs (QS P E.G goal st).r) := by
    intro as h
    unfold xcallA at h
    split at h
    · rename_i v hv
      exact .inl (hE.tb _ _ _ hv _ _ (xret_sound hrec hs h)).toACP
    · split at h
      · rename_i fn hfn
        exact .inl (xenter_sound hE hrec hfn hs h)
      · exact .inr (xmz_sound hE hrec hs h)
  split at h
  · split at h
    · obtain ⟨v, h1, h2⟩ := xpureA_sound hE hrec h
      exact .inl (h1 _ _ (xret_sound hrec hs h2)).toACP
    · exact key _ h
  · exact key _ h
theorem xcall_sound {callee : AV} {args : List AV} {H : Hp} {st : List SF} {goal : AV} (hp : (∃ f first caps, callee = .fn f first caps) → (∀ v H', ¬ (QS P E.G goal st).p v H') ∧ isVal st = false) (hs : okS st) (h : xcall E rec callee args H st = some goal) : ACV P E.G callee args H.abs (RetQ P E.G goal st) := by
  unfold xcall at h
  split at h
  · rename_i f first caps
    obtain ⟨hp1, hp2⟩ := hp ⟨_, _, _, rfl⟩
    rcases xcallF_sound hE hrec hs h with h1 | ⟨h1, _⟩
    · exact h1.toAC hp1
    · rw [hp2] at h1; cases h1
  · rename_i id
    unfold xcallY at h
    simp only [Hp.get_eq, lenK_eq, Nat.zero_add] at h
    show AY P E.G id args H.abs _
    split at h
    · rename_i al hal
      obtain ⟨s, pd, n', tmps, ps, a, b⟩ := al
      simp only at h
      split at h
      · rename_i hl
        obtain ⟨t, h1, h2⟩ := xpars_sound h
        have h3 := hrec.1 _ _ _ _ _ (okT.cons (it := .code a) trivial (okT.cons (it := .beginRound) trivial (okT.cons (it := .code b) trivial (fun x hx => by cases hx)))) hs h2
        unfold Owe at h3
        rw [h1, tt_base] at h3
        exact AY.of_loop hal (by simpa using Nat.eq_of_beq_eq_true hl) h3
      · cases h
    · cases h
  · cases h
theorem dArm_sound {op : Op} {dst : Option Nat} {ih : DK} {ts : TT} {H : Hp} {K : TT → Hp → Option AV} {r : AV}
    (h : Bx.casesOn (motive := fun _ => Option AV) (dArm op) (fun g => g dst E rec ih ts H K) = some r) :
    (∃ fo args tys, op = .call ⟨.value fo, args, tys⟩ ∧ ∃ v, PurV P E.G (ev ts.get fo) (args.toList.map (ev ts.get)) v ∧ ih (ts.put dst v) H K = some r) ∨
    ((∀ fo args tys, op ≠ .call ⟨.value fo, args, tys⟩) ∧ ∃ ar H', aop P E.G op (ev ts.get) H.abs = some ar ∧ ar.c ∧ ar.H = H'.abs ∧ ih (ts.put dst ar.v) H' K = some r) := by
  unfold dArm at h
  split at h
  · rename_i fo args tys
    simp only [dCall, xev_eq, xevs_eq, TT.putK_eq] at h
    obtain ⟨v, h1, h2⟩ := xpure_sound hE hrec h
    exact .inl ⟨fo, args, tys, rfl, v, h1, h2⟩
  · rename_i hne
    refine .inr ⟨fun fo args tys e => hne fo args tys e, ?_⟩
    have h' : xop E.te E.G op ts H (fun v H => ts.putK dst v fun ts => ih ts H K) = some r := by
      unfold xop
      cases hb : xopB (β := AV) op with
      | bx g => rw [hb] at h; exact h
    obtain ⟨ar, H', h1, h2, h3, h4⟩ := xop_sound hE.te h'
    rw [TT.putK_eq] at h4
    exact ⟨ar, H', h1, h2, h3, h4⟩
theorem dOper_sound {ops : Array Oper} {i : Nat} {o : Oper} (ho : ops[i]? = some o) {ih : DK} {K : TT → Hp → Option AV} {K' : (Nat → AV) → List AO → Prop} {goal : AV} {ts : TT} {H : Hp}
    (hih : ∀ ts H, ih ts H K = some goal → K' ts.get H.abs) (h : dOper ops o E rec ih ts H K = some goal) : stepR P E.G ops (fun _ => false) i ts.get H.abs K' := by
  unfold dOper at h
  rw [xwanted_eq] at h
  unfold stepR
  simp only [ho]
  split at h
  · rename_i hw
    rw [if_neg (by rw [hw]; simp)]
    rw [TT.putK_eq] at h
    have := hih _ _ h
    rwa [TT.get_put] at this
  · rename_i hw
    rw [if_pos hw]
    rcases dArm_sound hE hrec h with ⟨fo, args, tys, hop, v, h1, h2⟩ | ⟨hne, ar, H', h1, h2, h3, h4⟩
    · simp only [hop, Bool.false_eq_true, if_false]
      have := hih _ _ h2
      rw [TT.get_put] at this
      exact ⟨v, h1, this⟩
    · split
      · rename_i hop; exact absurd hop (hne _ _ _)
      · have := hih _ _ h4
        rw [TT.get_put, ← h3] at this
        exact ⟨ar, h1, h2, this⟩
theorem xdraw_sound {ops : Array Oper} {K : TT → Hp → Option AV} {K' : (Nat → AV) → List AO → Prop} {goal : AV} (hK : ∀ ts H, K ts H = some goal → K' ts.get H.abs) :
    ∀ (l : List Oper) (i : Nat) (ts : TT) (H : Hp), l = ops.toList.drop i → xdraw E rec ops l ts H K = some goal → runR P E.G ops (fun _ => false) K' (List.range' i l.length) ts.get H.abs
  | [], i, ts, H, hl, h => hK ts H h
  | o :: l, i, ts, H, hl, h => by
    obtain ⟨ho, hl'⟩ := drop_get hl
    have h : dOper ops o E rec (fun ts H K => xdraw E rec ops l ts H K) ts H K = some goal := h
    exact dOper_sound hE hrec ho (fun ts H h => xdraw_sound hK l (i + 1) ts H hl' h) h
omit hrec in
theorem xchk_sound {ops : Array Oper} {j : Nat} {H : Hp} {k : Option AV} {r : AV} : ∀ {W : List WE}, xchk E.te E.G H ((masks [] ops.toList).getD j 0) W k = some r → WP P E.G ops W j H.abs ∧ k = some r
  | [], h => ⟨fun e he _ => (by cases he), h⟩
  | ⟨i, op, ts, v⟩ :: W, h => by
    simp only [xchk, bitAt_eq] at h
    split at h
    · rename_i hb
      obtain ⟨h5, h6⟩ := xchk_sound h
      refine ⟨fun e he hw => ?_, h6⟩
      rcases List.mem_cons.1 he with rfl | he
      · unfold wt at hw; simp only at hw; rw [hb] at hw; cases hw
      · exact h5 e he hw
    · split at h
      · rename_i hq
        obtain ⟨ar, H', h1, h2, h3, h4⟩ := xop_sound hE.te h
        split at h4
        · rename_i hv
          have hv := aeq_sound hv
          obtain ⟨h5, h6⟩ := xchk_sound h4
          refine ⟨fun e he hw => ?_, h6⟩
          rcases List.mem_cons.1 he with rfl | he
          · have hq' : quietC (clOf op) = true := by
              cases e : clOf op <;> rw [e] at hq <;> first | rfl | cases hq
            have := (aop_read1 hq' h1 h2).1
            rw [hv] at this
            exact this
          · exact h5 e he hw
        · cases h4
      · cases h
theorem gRead_sound {ops : Array Oper} {nx : Nx} {i : Nat} {l : List (Nat × Bool)} {W : List WE} {o : Oper} (ho : ops[i]? = some o) {fr : Fr} {k : List XI} {ts : TT} {H : Hp} {goal : AV} (hk : okT k) (hs : okS fr.st)
    (hw : wantedA ops ts.get o = true) (h : gRead ops nx i l W o E rec fr k ts H = some goal) : OweD P E.G fr ops nx ((i, true) :: l) W k ts H goal := by
  unfold gRead at h
  refine ⟨o, ho, .inl ⟨hw, ?_⟩⟩
  split at h
  · rename_i hc
    obtain ⟨ar, H', h1, h2, h3, h4⟩ := xop_sound hE.te h
    rw [TT.putK_eq] at h4
    obtain ⟨h5, h6⟩ := aop_read1 (by rw [hc]; rfl) h1 h2
    have := (hrec.2 _ _ _ _ _ _ _ _ _ _ hk hs h4).2
    unfold OweD at this
    rw [TT.get_put, ← h3, h6] at this
    exact ⟨ar.v, h5, runG_mono (NxK_mono P E.G _ nx) (fun j H hW => ⟨hW, fun _ => by unfold wat; rw [if_pos hc]; trivial⟩) this⟩
  · rename_i hc
    obtain ⟨ar, H', h1, h2, h3, h4⟩ := xop_sound hE.te h
    rw [TT.putK_eq] at h4
    obtain ⟨h5, h6⟩ := aop_read1 (by rw [hc]; rfl) h1 h2
    have := (hrec.2 _ _ _ _ _ _ _ _ _ _ hk hs h4).2
    unfold OweD at this
    rw [TT.get_put, ← h3, h6] at this
    exact ⟨ar.v, h5, runG_mono (NxK_mono P E.G _ nx) (fun j H hW => ⟨fun e he hj => hW e (by simp [he]) hj, fun hj => by unfold wat; rw [if_neg (by rw [hc]; intro e; cases e)]; exact hW ⟨i, o.op, ts, ar.v⟩ (by simp) hj⟩) this⟩
  · rename_i hc
    obtain ⟨ar, H', h1, h2, h3, h4⟩ := xop_sound hE.te h
    rw [TT.putK_eq] at h4
    obtain ⟨h5, h6⟩ := aop_read1 (by rw [hc]; rfl) h1 h2
    have := (hrec.2 _ _ _ _ _ _ _ _ _ _ hk hs h4).2
    unfold OweD at this
    rw [TT.get_put, ← h3, h6] at this
    exact ⟨ar.v, h5, runG_mono (NxK_mono P E.G _ nx) (fun j H hW => ⟨fun e he hj => hW e (by simp [he]) hj, fun hj => by unfold wat; rw [if_neg (by rw [hc]; intro e; cases e)]; exact hW ⟨i, o.op, ts, ar.v⟩ (by simp) hj⟩) this⟩
  · cases h
omit hrec in
theorem gArm_sound {op : Op} {ops : Array Oper} {nx : Nx} {i : Nat} {l : List (Nat × Bool)} {W : List WE} {dst : Option Nat} {fr : Fr} {k : List XI} {ts : TT} {H : Hp} {r : AV}
    (h : Bx.casesOn (motive := fun _ => Option AV) (gArm op) (fun g => g ops nx i l W dst E rec fr k ts H) = some r) :
    (∃ fo args tys, op = .call ⟨.value fo, args, tys⟩ ∧ gCall fo args ops nx i l W dst E rec fr k ts H = some r) ∨
    ((∀ fo args tys, op ≠ .call ⟨.value fo, args, tys⟩) ∧ ∃ ar H', aop P E.G op (ev ts.get) H.abs = some ar ∧ ar.c ∧ ar.H = H'.abs ∧ rec fr (.dreg ops nx l W (if impOf ops i = true then some i else none) :: k) (ts.put dst ar.v) H' = some r) := by
  unfold gArm at h
  split at h
  · rename_i fo args tys
    exact .inl ⟨fo, args, tys, rfl, h⟩
  · rename_i hne
    refine .inr ⟨fun fo args tys e => hne fo args tys e, ?_⟩
    cases hb : xopB (β := AV) op with
    | bx g =>
      rw [hb] at h
      simp only [gOp] at h
      have h' : xop E.te E.G op ts H (fun v H => ts.putK dst v fun ts => rec fr (.dreg ops nx l W (if impOf ops i = true then some i else none) :: k) ts H) = some r := by
        unfold xop
        rw [hb]
        split at h
        · rename_i hi; simp only [hi, if_true]; exact h
        · rename_i hi; simp only [hi]; exact h
      obtain ⟨ar, H', h1, h2, h3, h4⟩ := xop_sound hE.te h'
      rw [TT.putK_eq] at h4
      exact ⟨ar, H', h1, h2, h3, h4⟩
theorem gStep_sound {ops : Array Oper} {nx : Nx} {i : Nat} {b : Bool} {l : List (Nat × Bool)} {W : List WE} {fr : Fr} {k : List XI} {ts : TT} {H : Hp} {goal : AV} (hk : okT k) (hs : okS fr.st)
    (h : gStep ops nx i b l W E rec fr k ts H = some goal) : OweD P E.G fr ops nx ((i, b) :: l) W k ts H goal := by
  unfold gStep at h
  simp only [lget_eq, Array.getElem?_toList, xwanted_eq, TT.putK_eq] at h
  split at h
  · rename_i o ho
    cases b with
    | true =>
      simp only at h
      split at h
      · rename_i hw
        exact gRead_sound hE hrec ho hk hs hw h
      · rename_i hw
        have := (hrec.2 _ _ _ _ _ _ _ _ _ _ hk hs h).2
        unfold OweD at this
        rw [TT.get_put] at this
        exact ⟨o, ho, .inr ⟨hw, this⟩⟩
    | false =>
      simp only at h
      unfold OweD
      simp only [runG]
      unfold stepR
      simp only [ho]
      split at h
      · rename_i hw
        rw [if_pos hw]
        rcases gArm_sound hE h with ⟨fo, args, tys, hop, h1⟩ | ⟨hne, ar, H', h1, h2, h3, h4⟩
        · simp only [hop]
          unfold gCall at h1
          rw [xev_eq, xevs_eq] at h1
          split at h1
          · rename_i hi
            rw [if_pos hi]
            obtain ⟨fi, n, st⟩ := fr
            simp only at h1
            have := xcall_sound hE hrec (fun _ => ⟨fun _ _ h => by exact (h : False), rfl⟩) (okS.cons (f := .dr fi n o.dst i ops nx l W k ts) hk hs) h1
            exact this.mono fun v H' hq => ⟨fun _ => hq.1, hq.2⟩
          · rename_i hi
            rw [if_neg (by rw [hi]; intro e; cases e)]
            obtain ⟨v, h2, h3⟩ := xpure_sound hE hrec h1
            rw [TT.putK_eq] at h3
            have := (hrec.2 _ _ _ _ _ _ _ _ _ _ hk hs h3).2
            unfold OweD at this
            rw [TT.get_put] at this
            exact ⟨v, h2, fun e => (by rw [hi] at e; cases e), this⟩
        · split
          · rename_i hop; exact absurd hop (hne _ _ _)
          · obtain ⟨hW, this⟩ := hrec.2 _ _ _ _ _ _ _ _ _ _ hk hs h4
            unfold OweD at this
            rw [TT.get_put, ← h3] at this
            exact ⟨ar, h1, h2, fun e => (by rw [h3]; exact hW i (by rw [if_pos e])), this⟩
      · rename_i hw
        rw [if_neg (by rw [hw]; intro e; cases e)]
        split at h
        · obtain ⟨hW, this⟩ := hrec.2 _ _ _ _ _ _ _ _ _ _ hk hs h
          unfold OweD at this
          rw [TT.get_put] at this
          exact ⟨fun _ => hW i rfl, this⟩
        · rename_i hi
          have := (hrec.2 _ _ _ _ _ _ _ _ _ _ hk hs h).2
          unfold OweD at this
          rw [TT.get_put] at this
          exact ⟨fun e => (by rw [hi] at e; cases e), this⟩
  · cases h
theorem oDreg_sound {ops : Array Oper} {nx : Nx} {l : List (Nat × Bool)} {W : List WE} {c : Option Nat} {fr : Fr} {k : List XI} {ts : TT} {H : Hp} {goal : AV} (hk : okT k) (hs : okS fr.st)
    (h : oDreg ops nx l W c E rec fr k ts H = some goal) : (∀ j, c = some j → WP P E.G (mfull ops nx) W j H.abs) ∧ OweD P E.G fr ops nx l W k ts H goal := by
  have key : oDreg1 ops nx l W E rec fr k ts H = some goal → OweD P E.G fr ops nx l W k ts H goal := fun h => by
    cases l with
    | nil =>
      simp only [oDreg1] at h
      cases nx with
      | none => exact hrec.1 _ _ _ _ _ hk hs h
      | some x =>
        obtain ⟨ops', l'⟩ := x
        have := (hrec.2 _ _ _ _ _ _ _ _ _ _ hk hs h).2
        unfold OweD at this
        exact this
    | cons p l =>
      obtain ⟨i, b⟩ := p
      exact gStep_sound hE hrec hk hs h
  unfold oDreg at h
  split at h
  · rename_i j
    obtain ⟨h1, h2⟩ := xchk_sound hE h
    exact ⟨fun j' e => (by cases e; exact h1), key h2⟩
  · exact ⟨fun j e => (by cases e), key h⟩
omit hE hrec in
theorem impOf_non (ops : Array Oper) : ∀ j oj, ops[j]? = some oj → impOf ops j = false → nonImp (clOf oj.op) = true := fun j oj hj h => by
  unfold impOf at h
  rw [hj] at h
  simp only at h
  cases e : clOf oj.op <;> rw [e] at h <;> first | rfl | cases h
omit hE hrec in
theorem impOf_quiet (ops : Array Oper) : ∀ j oj, ops[j]? = some oj → quiet1 (clOf oj.op) = true → impOf ops j = false := fun j oj hj h => by
  unfold impOf
  rw [hj]
  simp only
  cases e : clOf oj.op <;> rw [e] at h <;> first | rfl | cases h
omit hE hrec in
theorem zcOk_sound {te : Tr TI} (hte : TEok P te) {ops : Array Oper} : ∀ {l : List Nat}, zcOk te ops l = true → ∀ a d t, a ∈ l → alOf ops a = some (d, t) → ∃ cs, zeroCells P t = some cs
  | [], h, a, d, t, ha, _ => by cases ha
  | b :: l, h, a, d, t, ha, hal => by
    simp only [zcOk] at h
    split at h
    · rename_i d' t' hb
      split at h
      · rename_i i hi
        split at h
        · rename_i cs hcs
          rcases List.mem_cons.1 ha with rfl | ha
          · rw [hal] at hb; cases hb
            obtain ⟨_, _, _, _, h5, _⟩ := hte _ i hi
            exact ⟨cs, by rw [h5, hcs]⟩
          · exact zcOk_sound hte h a d t ha hal
        · cases h
      · cases h
    · rename_i hb
      rcases List.mem_cons.1 ha with rfl | ha
      · rw [hal] at hb; cases hb
      · exact zcOk_sound hte h a d t ha hal
omit hE hrec in
theorem plan_sound {te : Tr TI} (hte : TEok P te) {ops hd : Array Oper} {nx : Nx} {l : List (Nat × Bool)} (h : plan te ops = some ⟨hd, nx, l⟩) :
    (hd = ops ∧ nx = none ∧ ordGB ops (impOf ops) l = true) ∨ (∃ p q l2, hd = headOps ops p ∧ nx = some (ops, ones (List.range' p (q - p)) ++ l2) ∧ splitXB ops p q = true ∧ (ordGB (headOps ops p) (impOf (headOps ops p)) l = true ∧ ∀ x ∈ l, x.2 = false → x.1 ∈ reqOf ops p q) ∧
      ordG ops (impOf ops) (masks [] ops.toList) l2 (listQ ops q) = true ∧ l2.length = ops.size - q ∧ ∀ a d t, p ≤ a → a < q → alOf ops a = some (d, t) → ∃ cs, zeroCells P t = some cs) ∨
      ∃ (A : Nat → Bool) (ex : Nat → List Nat), hd = dl A ex ops ∧ nx = none ∧ (∀ a, A a = true → a < ops.size) ∧ delayB ops A ex = true ∧ ordGB (dl A ex ops) (impOf (dl A ex ops)) l = true := by
  unfold plan at h
  split at h
  · rename_i p hp
    cases h
    unfold planG at hp
    split at hp
    · rename_i hB
      cases hp
      exact .inl ⟨rfl, rfl, hB⟩
    · cases hp
  · split at h
    · rename_i p hp
      cases h
      unfold planAD at hp
      generalize findAl ops.toList 0 = pq at hp
      obtain ⟨p, q⟩ := pq
      simp only [planA] at hp
      split at hp
      · rename_i hB
        cases hp
        simp only [Bool.and_eq_true] at hB
        obtain ⟨⟨⟨⟨⟨h1, h0⟩, h2⟩, h3⟩, h4⟩, h5⟩ := hB
        exact .inr (.inl ⟨p, q, _, rfl, rfl, h1, ⟨h3, fun x hx hf => by
          have := (List.all_eq_true.1 h0) x hx
          rw [hf] at this
          simpa using this⟩, h4, Nat.eq_of_beq_eq_true h5, fun a d t h6 h7 ha => zcOk_sound hte h2 a d t (by rw [List.mem_range'_1]; show p ≤ a ∧ a < p + (q - p); omega) ha⟩)
      · cases hp
    · unfold planD at h
      split at h
      · rename_i hB
        cases h
        simp only [Bool.and_eq_true] at hB
        refine .inr (.inr ⟨isA ops, exA ops, rfl, rfl, fun a ha => ?_, hB.1, hB.2⟩)
        unfold isA at ha
        split at ha
        · rename_i o ho; exact (Array.getElem?_eq_some_iff.1 ho).1
        · cases ha
      · cases h
theorem oItem_sound {it : XI} {fr : Fr} {k : List XI} {ts : TT} {H : Hp} {goal : AV} (hi : okX it) (hk : okT k) (hs : okS fr.st) (h : oItem it E rec fr k ts H = some goal) : Owe P E.G fr (it :: k) ts H goal := by
  have hskip : ∀ {k : List XI}, okT k → rec fr k ts H = some goal → FW P E.G fr.fi.rd fr.n (k.map XI.abs) ts.get H.abs (LeaveQ P E.G fr.fi fr.n (QS P E.G goal fr.st)) := fun hk h => hrec.1 _ _ _ _ _ hk hs h
  unfold Owe
  rw [List.map_cons]
  cases it with
  | dreg ops nx l W c => exact hi.elim
  | inBlock id => exact .inBlock (hskip hk h)
  | inScope c => exact .inScope (hskip hk h)
  | inLoop c => exact .inLoop (hskip (okT.cons (it := .code c) trivial (okT.cons (it := .inLoop c) trivial hk)) h)
  | beginRound =>
    have h : oBegin E rec fr k ts H = some goal := h
    obtain ⟨fi, n, st⟩ := fr
    unfold oBegin at h
    simp only [Hp.get_eq, Hp.setK_eq] at h
    cases fi with
    | fn rs => cases h
    | fnD rs g as => cases h
    | df rs pv => cases h
    | da rs pv => cases h
    | rnd id =>
      simp only at h
      split at h
      · rename_i al hal
        obtain ⟨s, pd, n', tmps, ps, a, b⟩ := al
        simp only at h
        split at h
        · have := hrec.1 _ _ _ _ _ hk hs h
          unfold Owe at this
          rw [Hp.abs_set] at this
          exact FW.beginRound hal rfl this
        · cases h
      · cases h
  | reg ops i l =>
    have h : oReg ops i l E rec fr k ts H = some goal := h
    cases l with
    | nil => exact .regionEnd (hskip hk h)
    | cons o rest =>
      have h : oOper ops o (.reg ops (Nat.succ i) rest) E rec fr k ts H = some goal := h
      obtain ⟨ho, hl'⟩ := drop_get hi
      have hit : okX (.reg ops (Nat.succ i) rest) := hl'
      unfold oOper at h
      rw [xwanted_eq] at h
      have e : XI.abs (.reg ops i (o :: rest)) = .inRegion ops (i :: List.range' (i + 1) rest.length) := rfl
      rw [e]
      split at h
      · rename_i hw
        rw [TT.putK_eq] at h
        have := hrec.1 _ _ _ _ _ (okT.cons hit hk) hs h
        unfold Owe at this
        rw [TT.get_put] at this
        exact FW.opSkip ho hw this
      · rename_i hw
        rcases oArm_sound hE h with ⟨fo, args, tys, hop, h1⟩ | ⟨x, hop, h1⟩ | ⟨f, first, caps, hop, H', h1, h2⟩ | ⟨ar, H', h1, h2, h3, h4⟩ | ⟨hre, rs, pv, hfi, h1⟩ | ⟨fo, args, tys, rs, g, first, caps, hop, hfi, hf, h1⟩ | ⟨x, hop, hx, h1⟩
        · have hsx := okS.cons (f := .val fr.fi fr.n o.dst (.reg ops (Nat.succ i) rest :: k) ts) (okT.cons hit hk) hs
          by_cases hf : ∃ f first caps, ev ts.get fo = .fn f first caps
          · obtain ⟨f, first, caps, hf⟩ := hf
            rw [hf] at h1
            rcases xcallF_sound hE hrec hsx h1 with h2 | ⟨_, hz, m, h3, h4, h5, h6⟩
            · exact FW.callP ho hw hop hf h2
            · exact FW.op ho hw (by rw [hop]; rfl) ((opv_mz hop hf h5 hz h3 h4).toS h6)
          · exact FW.op ho hw (by rw [hop]; rfl) (OpS.call hop (xcall_sound hE hrec (fun h => absurd h hf) hsx h1))
        · unfold oNext at h1
          rw [xev_eq] at h1
          obtain ⟨id, mid, since, seen, clock, cands, h2, h3⟩ := xnext_sound h1
          have hE1 : ∀ (e : Nat × AV × AV), oNextE id mid since seen clock o.dst (.reg ops (Nat.succ i) rest) rec fr k ts H e = some goal →
              FW P E.G fr.fi.rd fr.n (.inRegion ops (List.range' (i + 1) rest.length) :: k.map XI.abs) (put ts.get o.dst (.tup [.c (.bool true), e.2.1, e.2.2])) (H.abs.set id (.mit mid since (seen ++ [e.1]) clock)) (LeaveQ P E.G fr.fi fr.n (QS P E.G goal fr.st)) := by
            intro e he
            obtain ⟨b, key, val⟩ := e
            simp only [oNextE, fcL_eq, Hp.setK_eq, TT.putK_eq] at he
            have := hrec.1 _ _ _ _ _ (okT.cons hit hk) hs he
            unfold Owe at this
            rw [TT.get_put, Hp.abs_set] at this
            exact this
          refine FW.op ho hw (by rw [hop]; rfl) (OpS.next hop h2 (fun e => ?_) (fun e he => ?_))
          · subst e
            simp only [TT.putK_eq] at h3
            have := hrec.1 _ _ _ _ _ (okT.cons hit hk) hs h3
            unfold Owe at this
            rw [TT.get_put] at this
            exact this
          · cases cands with
            | nil => cases he
            | cons e0 l =>
              simp only at h3
              split at h3
              · rename_i v hv
                obtain ⟨e1, h4⟩ := xfork_sound h3
                subst e1
                rcases List.mem_cons.1 he with rfl | he
                · exact hE1 _ hv
                · exact hE1 _ (h4 e he)
              · cases h3
        · have := hrec.1 _ _ _ _ _ (okT.cons hit hk) hs h2
          unfold Owe at this
          rw [TT.get_put, h1] at this
          exact FW.op ho hw (by rw [hop]; rfl) ((opv_funcF hop).toS this)
        · have := hrec.1 _ _ _ _ _ (okT.cons hit hk) hs h4
          unfold Owe at this
          rw [TT.get_put, ← h3] at this
          exact FW.op ho hw (aop_defer h1) ((aop_sound h1 h2).toS this)
        · obtain ⟨fi, n, st⟩ := fr
          simp only at hfi
          subst hfi
          have := hrec.1 ⟨.da rs pv, n, st⟩ _ _ _ _ (okT.cons hit hk) hs h1
          unfold Owe at this
          rw [TT.get_put] at this
          refine FW.stop ⟨_, _, _, _, rfl⟩ fun htk => ?_
          exact .inr ⟨_, o, _, rfl, ⟨ops, i, _, _, rfl, ho, hw, rfl, htk⟩, hre, this⟩
        · obtain ⟨fi, n, st⟩ := fr
          simp only at hfi
          subst hfi
          have := hrec.1 ⟨.fnD rs g (first ++ (args.toList.map (ev ts.get) ++ caps)), n, st⟩ _ _ _ _ (okT.cons hit hk) hs h1
          unfold Owe at this
          rw [TT.get_put] at this
          refine FW.stop ⟨_, _, _, _, rfl⟩ fun htk => ?_
          exact .inr ⟨_, o, _, fo, args, tys, g, first, caps, rfl, ⟨ops, i, _, _, rfl, ho, hw, rfl, htk⟩, hop, hf, this⟩
        · exact FW.panic ho hw hop hx (xpanL_sound hE hrec hs h1)
  | code c =>
    have h : oCode c E rec fr k ts H = some goal := h
    cases c with
    | skip => exact .skip (hskip hk h)
    | label l => exact .label (hskip hk h)
    | seq a b => exact .seq (hskip (okT.cons (it := .code a) trivial (okT.cons (it := .code b) trivial hk)) h)
    | block id c => exact .block (hskip (okT.cons (it := .code c) trivial (okT.cons (it := .inBlock id) trivial hk)) h)
    | loop c => exact .loop (hskip (okT.cons (it := .code c) trivial (okT.cons (it := .inLoop c) trivial hk)) h)
    | scope c => exact .scope (hskip (okT.cons (it := .code c) trivial (okT.cons (it := .inScope c) trivial hk)) h)
    | cond o a b =>
      have h : oCond o a b E rec fr k ts H = some goal := h
      unfold oCond at h
      split at h
      · rename_i t ht
        refine FW.cond ht (fun e => ?_) (fun e => ?_)
        · subst e; exact hskip (okT.cons (it := .code a) trivial hk) h
        · subst e; exact hskip (okT.cons (it := .code b) trivial hk) h
      · cases h
    | ret => exact .ret (xleave_sound hE hrec rfl hs h)
    | exit id =>
      have h : oExit id E rec fr k ts H = some goal := h
      unfold oExit at h
      have hx := xexit_abs (id := id) k hk
      split at h
      · rename_i k' hk'
        have := hx.1 _ hk'
        exact .exit this.1 (hskip this.2 h)
      · rename_i hk'
        exact .exitOut (hx.2 hk') (xleave_sound hE hrec rfl hs h)
    | goto l =>
      have h : oGoto l E rec fr k ts H = some goal := h
      unfold oGoto at h
      have hx := xgoto_abs (l := l) k hk
      split at h
      · rename_i k' hk'
        have := hx.1 _ hk'
        exact .goto this.1 (hskip this.2 h)
      · rename_i hk'
        exact .gotoOut (hx.2 hk') (xleave_sound hE hrec rfl hs h)
    | region id ops draw =>
      cases draw with
      | false =>
        have h1 : rec fr (.reg ops 0 ops.toList :: k) ts H = some goal := h
        have := hskip (okT.cons (it := .reg ops 0 ops.toList) (by simp [okX]) hk) h1
        refine .region ?_
        rw [List.range_eq_range']
        simpa [XI.abs] using this
      | true =>
        have h : oDraw ops E rec fr k ts H = some goal := h
        have hP : ∀ pl, plan E.te ops = some pl → oDrawP pl E rec fr k ts H = some goal → FW P E.G fr.fi.rd fr.n (.code (.region id ops true) :: k.map XI.abs) ts.get H.abs (LeaveQ P E.G fr.fi fr.n (QS P E.G goal fr.st)) := fun pl hp h => by
          obtain ⟨hd, nx, l⟩ := pl
          have := (hrec.2 _ _ _ _ _ _ _ _ _ _ hk hs h).2
          unfold OweD at this
          have this := runG_mono (NxK_mono P E.G _ nx) (W' := fun _ _ => True) (fun _ _ _ => trivial) this
          rcases plan_sound hE.te hp with ⟨h1, h2, h3⟩ | ⟨p, q, l2, h1, h2, h3, h4, h5, h6, h7⟩ | ⟨A, ex, h1, h2, h3, h4, h5⟩
          · subst h1; subst h2
            exact FW.drawG hE.mix h3 this
          · subst h1; subst h2
            exact FW.drawX hE.mix (impOf_non ops) (impOf_quiet ops) h3 h7 h4.1 h4.2 h5 h6 this
          · subst h1; subst h2
            exact FW.drawD hE.mix h3 h4 h5 this
        have hF : fastB ops = true → oDrawF ops E rec fr k ts H = some goal → FW P E.G fr.fi.rd fr.n (.code (.region id ops true) :: k.map XI.abs) ts.get H.abs (LeaveQ P E.G fr.fi fr.n (QS P E.G goal fr.st)) := fun hB h => by
          refine FW.drawOrd hE.mix (fastB_sound hB) ?_
          have := xdraw_sound hE hrec (K' := fun ts H => FW P E.G fr.fi.rd fr.n (k.map XI.abs) ts H (LeaveQ P E.G fr.fi fr.n (QS P E.G goal fr.st))) (fun ts H h => hrec.1 _ _ _ _ _ hk hs h) ops.toList 0 ts H (by simp) h
          rw [List.range_eq_range']
          simpa using this
        unfold oDraw at h
        split at h
        · unfold oDrawI at h
          split at h
          · rename_i p hp; exact hP p hp h
          · split at h
            · rename_i hB; exact hF hB h
            · cases h
        · unfold oDraw0 at h
          split at h
          · rename_i hB; exact hF hB h
          · split at h
            · rename_i p hp; exact hP p hp h
            · cases h
    | rangeFunc fo ps a b =>
      have h : oRange fo ps a b E rec fr k ts H = some goal := h
      obtain ⟨fi, n, st⟩ := fr
      unfold oRange at h
      have key : fi.rd = none → xcall E rec (ev ts.get fo) [.yld H.n] (H.push (.loop ⟨.ready, none, n, ts.get, ps, a, b⟩)) (.lp fi n H.n k ts :: st) = some goal → FW P E.G fi.rd n (.code (.rangeFunc fo ps a b) :: k.map XI.abs) ts.get H.abs (LeaveQ P E.G fi n (QS P E.G goal st)) := by
        intro hrd h
        have h1 := xcall_sound hE hrec (fun _ => ⟨fun _ _ h => by exact (h : False), rfl⟩) (okS.cons (f := .lp fi n H.n k ts) hk hs) h
        rw [Hp.abs_push] at h1
        rw [hrd]
        refine FW.rangeFunc ?_
        rw [Hp.abs_length]
        refine h1.mono fun v H1 hq => ?_
        obtain ⟨al, q1, q2, q3⟩ := hq
        rw [hrd] at q3
        exact ⟨al, q1, q2, q3⟩
      cases fi with
      | rnd id => cases h
      | _ =>
        simp only [xev_eq, fcN_eq, Hp.pushK_eq] at h
        exact key rfl h
    | refuse w => cases h
theorem oStep_sound : RecOk P E.G (oStep E rec) := by
  refine ⟨?_, fun fr ops nx l W c k ts H goal hk hs h => oDreg_sound hE hrec hk hs h⟩
  intro fr todo ts H goal hk hs h
  unfold oStep at h
  split at h
  · exact FW.nil (xleave_sound hE hrec rfl hs h)
  · exact oItem_sound hE hrec hk.head hk.tail hs h
end
theorem outs_sound {P : Program} {E : XE} (hE : EOk P E) : ∀ f, RecOk P E.G (outs E f)
  | 0 => ⟨fun fr todo ts H goal _ _ h => (by cases h), fun fr ops nx l W c k ts H goal _ _ h => (by cases h)⟩
  | f + 1 => oStep_sound hE (outs_sound hE f)
noncomputable def run (E : XE) (fuel : Nat) (f : FuncId) (args : List AV) : Option AV := match AV.purL args with
  | true => match E.ft.get f with
    | some fn => xenter (outs E fuel) fn args ⟨0, .lf⟩ []
    | none => none
  | false => none
theorem run_sound {P : Program} {E : XE} (hE : EOk P E) {fuel : Nat} {f : FuncId} {args : List AV} {v : AV} (h : run E fuel f args = some v) : Pur P E.G f args v := by
  unfold run at h
  split at h
  · rename_i hp
    split at h
    · rename_i fn hfn
      exact Pur.of_alone hE.gp hp ((xenter_sound hE (outs_sound hE fuel) hfn (H := ⟨0, .lf⟩) (st := []) (fun x hx => by cases hx) h).toAC (fun _ _ h => h))
    · cases h
  · cases h
end Go.Ab

set_option linter.unusedVariables false
set_option linter.unusedSimpArgs false
namespace Go.Ab
structure TRow where
  f : FuncId
  args : List AV
  v : AV
def tbL (l : List TRow) : Tb := fun f args => match l with
  | [] => none
  | r :: l => match r with
    | ⟨g, as, v⟩ => match Nat.beq g f with
      | true => match aeqL as args with
        | true => some v
        | false => tbL l f args
      | false => tbL l f args
def chk (o : Option AV) (v : AV) : Bool := match o with
  | some u => aeq u v
  | none => false
theorem chk_run {P : Program} {E : XE} (hE : EOk P E) {fuel : Nat} {f : FuncId} {args : List AV} {v : AV} (h : chk (run E fuel f args) v = true) : Pur P E.G f args v := by
  unfold chk at h
  split at h
  · rename_i u hu
    have := aeq_sound h
    subst this
    exact run_sound hE hu
  · cases h
abbrev TbT := Tr (List (List AV × AV))
def tbR : List (List AV × AV) → List AV → Option AV
  | [], _ => none
  | r :: l, args => match r with
    | (as, v) => match aeqL as args with
      | true => some v
      | false => tbR l args
noncomputable def tbT (t : TbT) : Tb := fun f args => match t.get f with
  | some l => tbR l args
  | none => none
def AllR (P : Program) (G : Gl) : List TRow → Prop
  | [] => True
  | r :: l => Pur P G r.f r.args r.v ∧ AllR P G l
theorem AllR.mem {P : Program} {G : Gl} : ∀ {l : List TRow}, AllR P G l → ∀ r ∈ l, Pur P G r.f r.args r.v
  | _ :: l, h, r, hr => by
    rcases List.mem_cons.1 hr with rfl | h1
    · exact h.1
    · exact AllR.mem h.2 r h1
def chkT (t : TbT) (rows : List TRow) : Bool := t.allI (fun f l => l.all fun r => rows.any fun q => Nat.beq q.f f && aeqL q.args r.1 && aeq q.v r.2) id
theorem tbR_mem : ∀ {l : List (List AV × AV)} {args : List AV} {v : AV}, tbR l args = some v → (args, v) ∈ l
  | (as, u) :: l, args, v, h => by
    simp only [tbR] at h
    split at h
    · rename_i ha
      cases h
      have := aeqL_sound ha
      subst this
      exact List.mem_cons_self
    · exact List.mem_cons_of_mem _ (tbR_mem h)
theorem tbT_ok {P : Program} {G : Gl} {t : TbT} {rows : List TRow} (hc : chkT t rows = true) (hr : AllR P G rows) : ∀ f args v, tbT t f args = some v → Pur P G f args v := by
  intro f args v h
  unfold tbT at h
  split at h
  · rename_i l hl
    have h1 := Tr.get_allI hl hc
    simp only [id, List.all_eq_true] at h1
    have h2 := h1 _ (tbR_mem h)
    simp only [List.any_eq_true, Bool.and_eq_true] at h2
    obtain ⟨q, hq, ⟨ha, hb⟩, hd⟩ := h2
    have e1 := Nat.eq_of_beq_eq_true ha
    have e2 := aeqL_sound hb
    have e3 := aeq_sound hd
    have := hr.mem q hq
    rw [e1, e2, e3] at this
    exact this
  · cases h
end Go.Ab
