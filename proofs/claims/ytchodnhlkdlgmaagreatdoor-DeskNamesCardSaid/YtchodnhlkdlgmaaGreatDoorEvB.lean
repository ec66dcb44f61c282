/-
  A frame of the machine told by an abstract memory: what it owes step by step through its code (control alone; operations by a hypothesis).
-/
import Derived.Test.YtchodnhlkdlgmaaGreatDoorEvA
set_option linter.unusedVariables false
namespace Go.Ab

inductive Lv where
  | nor
  | ret
  | exit (id : Nat)
  | goto (l : Nat)
  | stop (todo : List Item)
  | pan (v : AV)

def Lv.plain : Lv → Bool
  | .stop _ => false
  | .pan _ => false
  | _ => true

def ofV : Value → AV
  | .agg cs => .agg (cs.toList.map .c)
  | .tuple cs => .tup (cs.toList.map .c)
  | v => .c v

def ev (ts : Nat → AV) : Operand → AV
  | .tmp t => ts t
  | .const v => ofV v
  | .global g => .gp g 0
  | .func f => .fn f [] []

def isDefer : Op → Bool
  | .defer _ => true
  | _ => false

def itemOk (n : Nat) : Item → Bool
  | .code c => codeOk n c
  | .inBlock _ => true
  | .inLoop c => codeOk n c
  | .inScope c => codeOk n c
  | .inRegion ops _ => ops.all (operOk n)
  | .beginRound => true
  | .inRangeFunc _ => true
  | .endRangeFunc _ => true
  | _ => false

def todoOk (n : Nat) (k : List Item) : Bool := k.all (itemOk n)

theorem todoOk_cons (n : Nat) (i : Item) (k : List Item) : todoOk n (i :: k) = (itemOk n i && todoOk n k) := by simp [todoOk]

theorem todoOk_exitTo {n id : Nat} : ∀ {k k' : List Item}, exitTo id k = some k' → todoOk n k = true → todoOk n k' = true
  | [], _, h, _ => by simp [exitTo] at h
  | i :: k, k', h, hk => by
    rw [todoOk_cons, Bool.and_eq_true] at hk
    cases i <;> simp only [exitTo] at h <;> first
      | exact todoOk_exitTo h hk.2
      | (split at h
         · cases h; exact hk.2
         · exact todoOk_exitTo h hk.2)

theorem codeOk_findLabel {n : Nat} : ∀ {c rest : Code} {l : Nat}, findLabel c l = some rest → codeOk n c = true → codeOk n rest = true
  | .seq a b, rest, l, h, hc => by
    simp only [codeOk, Bool.and_eq_true] at hc
    simp only [findLabel] at h
    cases ha : findLabel a l with
    | some r =>
      rw [ha] at h; cases h
      simp only [codeOk, Bool.and_eq_true]
      exact ⟨codeOk_findLabel ha hc.1, hc.2⟩
    | none =>
      rw [ha] at h
      exact codeOk_findLabel h hc.2
  | .label l', rest, l, h, hc => by
    simp only [findLabel] at h
    split at h
    · cases h; rfl
    · cases h
  | .skip, _, _, h, _ => by simp [findLabel] at h
  | .region .., _, _, h, _ => by simp [findLabel] at h
  | .cond .., _, _, h, _ => by simp [findLabel] at h
  | .block .., _, _, h, _ => by simp [findLabel] at h
  | .loop .., _, _, h, _ => by simp [findLabel] at h
  | .rangeFunc .., _, _, h, _ => by simp [findLabel] at h
  | .exit .., _, _, h, _ => by simp [findLabel] at h
  | .scope .., _, _, h, _ => by simp [findLabel] at h
  | .goto .., _, _, h, _ => by simp [findLabel] at h
  | .ret, _, _, h, _ => by simp [findLabel] at h
  | .refuse .., _, _, h, _ => by simp [findLabel] at h

theorem todoOk_gotoIn {n l : Nat} : ∀ {k k' : List Item}, gotoIn l k = some k' → todoOk n k = true → todoOk n k' = true
  | [], _, h, _ => by simp [gotoIn] at h
  | i :: k, k', h, hk => by
    have hk0 := hk
    rw [todoOk_cons, Bool.and_eq_true] at hk
    cases i <;> simp only [gotoIn] at h <;> first
      | exact todoOk_gotoIn h hk.2
      | (split at h
         · rename_i hf
           cases h
           rw [todoOk_cons, Bool.and_eq_true]
           exact ⟨codeOk_findLabel hf hk.1, hk0⟩
         · exact todoOk_gotoIn h hk.2)

/-! ### Frames -/

def frm (b : Frame) (tmps : Array Value) (todo : List Item) (D : List Deferred) : Frame :=
  { fn := b.fn, tmps, todo, defers := D, mode := .run, kind := b.kind, roundOf := b.roundOf }

def markOf (r : Nat) : Deferred := { target := .collected r, args := #[] }
def MarksOk (w : World) (D : List Deferred) : Prop := True
theorem MarksOk.grow {G : Gl} {w w' : World} {E E' : En} {H H' : List AO} (h : RelH G w E H) (g : Grow H E w H' E' w') {D : List Deferred} (hD : MarksOk w D) : MarksOk w' D := trivial
/-- Marks of blocks of no deferred calls, put onto D. -/
def MarksOn (w0 w : World) (D D' : List Deferred) : Prop := ∃ rs : List Nat, D' = rs.map markOf ++ D ∧ rs.Nodup ∧ ∀ r, r ∈ rs → w0.heap.size ≤ r ∧ w.heap[r]? = some (Obj.deferred (some []))
theorem MarksOn.refl (w : World) (D : List Deferred) : MarksOn w w D D := ⟨[], rfl, List.nodup_nil, fun r hr => (by cases hr)⟩
theorem MarksOn.le {w0 w1 w : World} {D D' : List Deferred} (h : MarksOn w1 w D D') (hs : w0.heap.size ≤ w1.heap.size) : MarksOn w0 w D D' := by
  obtain ⟨rs, h1, h2, h3⟩ := h
  exact ⟨rs, h1, h2, fun r hr => ⟨Nat.le_trans hs (h3 r hr).1, (h3 r hr).2⟩⟩

def AtLeave (todo : List Item) : Lv → Prop
  | .nor => todo = []
  | .ret => ∃ k, todo = .code .ret :: k
  | .exit id => ∃ k, todo = .code (.exit id) :: k ∧ exitTo id k = none
  | .goto l => ∃ k, todo = .code (.goto l) :: k ∧ gotoIn l k = none
  | .stop t => todo = t
  | .pan _ => True

def RepT (w : World) (E : En) (n : Nat) (ts : Nat → AV) (tmps : Array Value) : Prop :=
  tmps.size = n ∧ ∀ i, i < n → RepV w E (ts i) (tmps.getD i undef)

theorem RepT.mono {w w' : World} {E E' : En} (hm : Mono w E w' E') {n : Nat} {ts : Nat → AV} {tmps : Array Value} (h : RepT w E n ts tmps) : RepT w' E' n ts tmps :=
  ⟨h.1, fun i hi => (h.2 i hi).mono hm⟩

def RoundRel (E : En) (b : Frame) : Option Nat → Prop
  | none => b.roundOf = none ∧ b.kind ≠ .early
  | some id => ∃ l, E.loc id = some l ∧ b.roundOf = some l.b ∧ b.kind = .normal
theorem RoundRel.mono {w w' : World} {E E' : En} (hm : Mono w E w' E') {b : Frame} {rd : Option Nat} (h : RoundRel E b rd) : RoundRel E' b rd := by
  cases rd with
  | none => exact h
  | some id => obtain ⟨l, h1, h2⟩ := h; exact ⟨l, hm.loc _ _ h1, h2⟩

section
variable (P : Program) (G : Gl)

/-- The machine comes to where the frame is left. -/
def Lands (b : Frame) (cs : List Frame) (E' : En) (w' : World) (tmps' : Array Value) (D' : List Deferred) (todo' : List Item) (m : Machine) : Lv → Prop
  | .pan v => ∃ pv, RepV w' E' v pv ∧ Steps P m (lone ((frm b tmps' todo' D').raise [{ v := pv, recovered := false }]) cs w')
  | _ => Steps P m (lone (frm b tmps' todo' D') cs w')
theorem Lands.pre {b : Frame} {cs : List Frame} {E' : En} {w' : World} {tmps' : Array Value} {D' : List Deferred} {todo' : List Item} {m m1 : Machine} {L : Lv} (h : Steps P m m1) (h2 : Lands P b cs E' w' tmps' D' todo' m1 L) :
    Lands P b cs E' w' tmps' D' todo' m L := by
  cases L with
  | pan v => obtain ⟨pv, h3, h4⟩ := h2; exact ⟨pv, h3, h.trans h4⟩
  | _ => exact h.trans h2
theorem Lands.steps {b : Frame} {cs : List Frame} {E' : En} {w' : World} {tmps' : Array Value} {D' : List Deferred} {todo' : List Item} {m : Machine} {L : Lv} (h : Lands P b cs E' w' tmps' D' todo' m L) (hL : ∀ v, L ≠ .pan v) :
    Steps P m (lone (frm b tmps' todo' D') cs w') := by
  cases L with
  | pan v => exact absurd rfl (hL v)
  | _ => exact h

/-- What a frame owes: from `todo` on, with temporaries that read as `ts` and memory that reads as `H`, it comes to a place where it is left, and there `Q` holds. -/
def FW (rd : Option Nat) (n : Nat) (todo : List Item) (ts : Nat → AV) (H : List AO) (Q : Lv → (Nat → AV) → List AO → Prop) : Prop :=
  todoOk n todo = true → ∀ (E : En) (w : World) (tmps : Array Value), RelH G w E H → RepT w E n ts tmps →
  ∀ (b : Frame) (D : List Deferred) (cs : List Frame), RoundRel E b rd →
  ∃ (L : Lv) (ts' : Nat → AV) (H' : List AO) (E' : En) (w' : World) (tmps' : Array Value) (D' : List Deferred) (todo' : List Item),
    Q L ts' H' ∧ RelH G w' E' H' ∧ Grow H E w H' E' w' ∧ RepT w' E' n ts' tmps' ∧ AtLeave todo' L ∧ ((rd ≠ none → D' = D) ∧ MarksOn w w' D D') ∧
    Lands P b cs E' w' tmps' D' todo' (lone (frm b tmps todo D) cs w) L
end

section
variable {P : Program} {G : Gl} {rd : Option Nat} {n : Nat} {k : List Item} {ts : Nat → AV} {H : List AO} {Q : Lv → (Nat → AV) → List AO → Prop}

theorem FW.mono {todo : List Item} {Q' : Lv → (Nat → AV) → List AO → Prop} (h : FW P G rd n todo ts H Q) (hq : ∀ L ts' H', Q L ts' H' → Q' L ts' H') : FW P G rd n todo ts H Q' := by
  intro hok E w tmps hH hT b D cs hrd
  obtain ⟨L, ts', H', E', w', tmps', D', todo', h1, h2⟩ := h hok E w tmps hH hT b D cs hrd
  exact ⟨L, ts', H', E', w', tmps', D', todo', hq _ _ _ h1, h2⟩

/-- A step that turns the items alone. -/
theorem FW.step {todo todo1 : List Item} (hok : todoOk n todo = true → todoOk n todo1 = true)
    (hs : ∀ (b : Frame) (tmps : Array Value) (E : En) (w : World), RepT w E n ts tmps → todoOk n todo = true → ∀ (D : List Deferred) (cs : List Frame), Steps P (lone (frm b tmps todo D) cs w) (lone (frm b tmps todo1 D) cs w))
    (h : FW P G rd n todo1 ts H Q) : FW P G rd n todo ts H Q := by
  intro hk E w tmps hH hT b D cs hrd
  obtain ⟨L, ts', H', E', w', tmps', D', todo', h1, h2, h3, h4, h6, h7, h8⟩ := h (hok hk) E w tmps hH hT b D cs hrd
  exact ⟨L, ts', H', E', w', tmps', D', todo', h1, h2, h3, h4, h6, h7, h8.pre P (hs b tmps E w hT hk D cs)⟩

theorem FW.leave {todo : List Item} (L : Lv) (hL : AtLeave todo L) (hp : (match L with | .pan _ => False | _ => True)) (hQ : Q L ts H) : FW P G rd n todo ts H Q := by
  intro hk E w tmps hH hT b D cs hrd
  exact ⟨L, ts, H, E, w, tmps, D, todo, hQ, hH, Grow.refl _ _ _, hT, hL, ⟨fun _ => rfl, .refl w D⟩, by cases L <;> first | exact .refl _ _ | cases hp⟩

theorem FW.nil (hQ : Q .nor ts H) : FW P G rd n [] ts H Q := FW.leave .nor rfl trivial hQ
theorem FW.ret (hQ : Q .ret ts H) : FW P G rd n (.code .ret :: k) ts H Q := FW.leave .ret ⟨_, rfl⟩ trivial hQ
theorem FW.skip (h : FW P G rd n k ts H Q) : FW P G rd n (.code .skip :: k) ts H Q :=
  FW.step (by simp [todoOk_cons]) (fun b tmps E w _ _ D cs => .one (step_lone_go (by simp [stepG, stepG.exec, frm]))) h
theorem FW.label {l : Nat} (h : FW P G rd n k ts H Q) : FW P G rd n (.code (.label l) :: k) ts H Q :=
  FW.step (by simp [todoOk_cons]) (fun b tmps E w _ _ D cs => .one (step_lone_go (by simp [stepG, stepG.exec, frm]))) h
theorem FW.inBlock {id : Nat} (h : FW P G rd n k ts H Q) : FW P G rd n (.inBlock id :: k) ts H Q :=
  FW.step (by simp [todoOk_cons]) (fun b tmps E w _ _ D cs => .one (step_lone_go (by simp [stepG, stepG.exec, frm]))) h
theorem FW.inScope {c : Code} (h : FW P G rd n k ts H Q) : FW P G rd n (.inScope c :: k) ts H Q :=
  FW.step (by simp [todoOk_cons]) (fun b tmps E w _ _ D cs => .one (step_lone_go (by simp [stepG, stepG.exec, frm]))) h
theorem FW.seq {x y : Code} (h : FW P G rd n (.code x :: .code y :: k) ts H Q) : FW P G rd n (.code (.seq x y) :: k) ts H Q :=
  FW.step (by simp [todoOk_cons, itemOk, codeOk, and_assoc]) (fun b tmps E w _ _ D cs => .one (step_lone_go (by simp [stepG, stepG.exec, frm]))) h
theorem FW.block {id : Nat} {c : Code} (h : FW P G rd n (.code c :: .inBlock id :: k) ts H Q) : FW P G rd n (.code (.block id c) :: k) ts H Q :=
  FW.step (by simp [todoOk_cons, itemOk, codeOk]) (fun b tmps E w _ _ D cs => .one (step_lone_go (by simp [stepG, stepG.exec, frm]))) h
theorem FW.scope {c : Code} (h : FW P G rd n (.code c :: .inScope c :: k) ts H Q) : FW P G rd n (.code (.scope c) :: k) ts H Q :=
  FW.step (by simp +contextual [todoOk_cons, itemOk, codeOk]) (fun b tmps E w _ _ D cs => .one (step_lone_go (by simp [stepG, stepG.exec, frm]))) h
theorem FW.loop {c : Code} (h : FW P G rd n (.code c :: .inLoop c :: k) ts H Q) : FW P G rd n (.code (.loop c) :: k) ts H Q :=
  FW.step (by simp +contextual [todoOk_cons, itemOk, codeOk]) (fun b tmps E w _ _ D cs => .one (step_lone_go (by simp [stepG, stepG.exec, frm]))) h
theorem FW.inLoop {c : Code} (h : FW P G rd n (.code c :: .inLoop c :: k) ts H Q) : FW P G rd n (.inLoop c :: k) ts H Q :=
  FW.step (by simp +contextual [todoOk_cons, itemOk]) (fun b tmps E w _ _ D cs => .one (step_lone_go (by simp [stepG, stepG.exec, frm]))) h
theorem FW.region {id : Nat} {ops : Array Oper} (h : FW P G rd n (.inRegion ops (List.range ops.size) :: k) ts H Q) : FW P G rd n (.code (.region id ops false) :: k) ts H Q :=
  FW.step (by simp [todoOk_cons, itemOk, codeOk]) (fun b tmps E w _ _ D cs => .one (step_lone_go (by simp [stepG, stepG.exec, frm]))) h
theorem FW.regionEnd {ops : Array Oper} (h : FW P G rd n k ts H Q) : FW P G rd n (.inRegion ops [] :: k) ts H Q :=
  FW.step (by simp [todoOk_cons]) (fun b tmps E w _ _ D cs => .one (step_lone_go (by simp [stepG, stepG.exec, frm]))) h
theorem FW.exit {id : Nat} {k' : List Item} (hk : exitTo id k = some k') (h : FW P G rd n k' ts H Q) : FW P G rd n (.code (.exit id) :: k) ts H Q :=
  FW.step (fun h => todoOk_exitTo hk (by rw [todoOk_cons, Bool.and_eq_true] at h; exact h.2)) (fun b tmps E w _ _ D cs => .one (step_lone_go (by simp [stepG, stepG.exec, frm, hk]))) h
theorem FW.exitOut {id : Nat} (hk : exitTo id k = none) (hQ : Q (.exit id) ts H) : FW P G rd n (.code (.exit id) :: k) ts H Q := FW.leave (.exit id) ⟨_, rfl, hk⟩ trivial hQ
theorem FW.goto {l : Nat} {k' : List Item} (hk : gotoIn l k = some k') (h : FW P G rd n k' ts H Q) : FW P G rd n (.code (.goto l) :: k) ts H Q :=
  FW.step (fun h => todoOk_gotoIn hk (by rw [todoOk_cons, Bool.and_eq_true] at h; exact h.2)) (fun b tmps E w _ _ D cs => .one (step_lone_go (by simp [stepG, stepG.exec, frm, hk]))) h
theorem FW.gotoOut {l : Nat} (hk : gotoIn l k = none) (hQ : Q (.goto l) ts H) : FW P G rd n (.code (.goto l) :: k) ts H Q := FW.leave (.goto l) ⟨_, rfl, hk⟩ trivial hQ

theorem RepV.bool_inv {w : World} {E : En} {a : AV} {t : Bool} (h : RepV w E a (.bool t)) : a = .c (.bool t) := by
  cases h; rfl
theorem RepV.c_inv {w : World} {E : En} {u v : Value} (h : RepV w E (.c u) v) : v = u := by
  cases h; rfl

theorem plain_cells {cs : Array Value} (h : cs.toList.all plain = true) {w : World} {E : En} (i : Nat) (hi : i < (cs.toList.map AV.c).length) :
    ((cs.toList.map AV.c).getD i .un).isCell = true ∧ RepV w E ((cs.toList.map AV.c).getD i .un) (cs.getD i undef) := by
  have hi' : i < cs.size := by simpa using hi
  have e : (cs.toList.map AV.c).getD i .un = .c cs[i] := by simp [List.getD, hi']
  have e2 : cs.getD i undef = cs[i] := by simp [Array.getD, hi']
  rw [e, e2]
  exact ⟨rfl, .c (by
    rw [List.all_eq_true] at h
    exact h cs[i] (by simp))⟩

theorem rep_const {v : Value} (h : constOk v = true) (w : World) (E : En) : RepV w E (ofV v) v := by
  cases v <;> first
    | exact .c h
    | (rename_i cs
       first
         | exact .agg (by simp) (fun i hi => (plain_cells h (w := w) (E := E) i hi).1) (fun i hi => (plain_cells h i hi).2)
         | exact .tup (by simp) (fun i hi => (plain_cells h i hi).2))

theorem rep_ev {w : World} {E : En} {tmps : Array Value} (hT : RepT w E n ts tmps) {x : Operand} (hx : opdOk n x = true) (D : List Deferred) :
    RepV w E (ev ts x) (Act.eval ⟨tmps, D⟩ x) := by
  cases x with
  | tmp t => exact hT.2 t (by simpa [opdOk] using hx)
  | const v => exact rep_const hx w E
  | global g => exact .gp
  | func f => exact .fn (by simp) (by simp) (fun i hi => by simp at hi) (fun i hi => by simp at hi)

theorem frm_eval (b : Frame) (tmps : Array Value) (todo : List Item) (D : List Deferred) (x : Operand) : (frm b tmps todo D).eval x = Act.eval ⟨tmps, D⟩ x := by
  cases x <;> rfl

theorem FW.cond {c : Operand} {x y : Code} {t : Bool} (hc : ev ts c = .c (.bool t)) (hx : t = true → FW P G rd n (.code x :: k) ts H Q) (hy : t = false → FW P G rd n (.code y :: k) ts H Q) :
    FW P G rd n (.code (.cond c x y) :: k) ts H Q := by
  have key : ∀ (b : Frame) (tmps : Array Value) (E : En) (w : World), RepT w E n ts tmps → todoOk n (.code (.cond c x y) :: k) = true → ∀ (D : List Deferred) (cs : List Frame),
      Steps P (lone (frm b tmps (.code (.cond c x y) :: k) D) cs w) (lone (frm b tmps (.code (if t then x else y) :: k) D) cs w) := by
    intro b tmps E w hT hok D cs
    rw [todoOk_cons, Bool.and_eq_true] at hok
    have hok1 : opdOk n c = true := by
      have := hok.1
      simp only [itemOk, codeOk, Bool.and_eq_true] at this
      exact this.1.1
    have he := rep_ev hT hok1 D
    rw [hc] at he
    have he' := he.c_inv
    refine .one (step_lone_go ?_)
    have h2 := frm_eval b tmps (.code (.cond c x y) :: k) D c
    simp only [frm] at h2
    simp [stepG, stepG.exec, frm, h2, he']
  cases t with
  | true => exact FW.step (by simp +contextual [todoOk_cons, itemOk, codeOk]) (by simpa using key) (hx rfl)
  | false => exact FW.step (by simp +contextual [todoOk_cons, itemOk, codeOk]) (by simpa using key) (hy rfl)

/-! ### An operation -/

def upd (ts : Nat → AV) (d : Nat) (v : AV) : Nat → AV := fun i => if i = d then v else ts i
def put (ts : Nat → AV) (d : Option Nat) (v : AV) : Nat → AV :=
  match d with
  | some d => upd ts d v
  | none => ts

def cput (tmps : Array Value) (d : Option Nat) (r : Value) : Array Value :=
  match d with
  | some d => tmps.setIfInBounds d r
  | none => tmps

theorem RepT.put {w : World} {E : En} {tmps : Array Value} (hT : RepT w E n ts tmps) {v : AV} {r : Value} (hr : RepV w E v r) (d : Option Nat) :
    RepT w E n (put ts d v) (cput tmps d r) := by
  cases d with
  | none => exact hT
  | some d =>
    refine ⟨by simpa [cput] using hT.1, fun i hi => ?_⟩
    show RepV w E (if i = d then v else ts i) ((tmps.setIfInBounds d r).getD i undef)
    have hi' : i < tmps.size := by rw [hT.1]; exact hi
    by_cases e : i = d
    · subst e
      simp only [if_true]
      have : (tmps.setIfInBounds i r).getD i undef = r := by simp [Array.getD, hi']
      rw [this]; exact hr
    · rw [if_neg e]
      have : (tmps.setIfInBounds d r).getD i undef = tmps.getD i undef := by
        rw [Array.getD_eq_getD_getElem?, Array.getD_eq_getD_getElem?, Array.getElem?_setIfInBounds_ne (fun h => e h.symm)]
      rw [this]; exact hT.2 i hi

/-- The machine carries an operation out, and comes back with a value. -/
def OpRun (P : Program) (s : Sem Next) (c : Frame) (cs : List Frame) (w : World) (r : Value) (w' : World) : Prop :=
  s.run P w = .ok (.value r) w' ∨ (s.run P w = .ok .skip w' ∧ r = undef) ∨
  (∃ f args w0, s.run P w = .ok (.enter f args) w0 ∧ Steps P (lone (Frame.enter P f args .normal) (c :: cs) w0) (lone (c.finish r) cs w')) ∨
  (∃ l f tm a b w0, s.run P w = .ok (.round l f tm a b) w0 ∧ Steps P (lone (Frame.round l f tm a b .normal) (c :: cs) w0) (lone (c.finish r) cs w'))

/-- What an operation owes. -/
def OpS (P : Program) (G : Gl) (n : Nat) (o : Oper) (ts : Nat → AV) (H : List AO) (K : AV → List AO → Prop) : Prop :=
  ∀ (E : En) (w : World) (tmps : Array Value), RelH G w E H → RepT w E n ts tmps → operOk n o = true → ∀ (D : List Deferred) (c : Frame) (cs : List Frame),
    ∃ v H' E' w' r, K v H' ∧ RelH G w' E' H' ∧ Grow H E w H' E' w' ∧ RepV w' E' v r ∧ OpRun P (execOp (Act.eval ⟨tmps, D⟩) o) c cs w r w'

def gval (ops : Array Oper) (ts : Nat → AV) (j : Nat) : Option Bool :=
  match (ops[j]?).bind (·.dst) with
  | some d => match ts d with
    | .c (.bool b) => some b
    | _ => none
  | none => none

def wantedA (ops : Array Oper) (ts : Nat → AV) (o : Oper) : Bool :=
  match o.guard with
  | none => true
  | some (j, want) => gval ops ts j == some want

theorem wanted_eq {ops : Array Oper} (hops : ops.all (operOk n) = true) {w : World} {E : En} {tmps : Array Value} (hT : RepT w E n ts tmps) (o : Oper) :
    Region.wanted o (yielded ops tmps) = wantedA ops ts o := by
  unfold Region.wanted wantedA
  cases hg : o.guard with
  | none => rfl
  | some p =>
    obtain ⟨j, want⟩ := p
    show (yielded ops tmps j == some want) = (gval ops ts j == some want)
    have e : yielded ops tmps j = gval ops ts j := by
      unfold yielded gval
      cases hj : ops[j]? with
      | none => rfl
      | some oj =>
        simp only [Option.bind_some]
        cases hd : oj.dst with
        | none => rfl
        | some d =>
          simp only [Option.bind_some]
          have hlt : d < n := by
            have := (Array.all_eq_true'.1 hops) oj (Array.mem_of_getElem? hj)
            simp only [operOk, hd, Bool.and_eq_true, decide_eq_true_eq] at this
            exact this.1
          have hr := hT.2 d hlt
          have hlt' : d < tmps.size := by rw [hT.1]; exact hlt
          have e1 : tmps[d]? = some (tmps.getD d undef) := by simp [Array.getD, hlt']
          rw [e1]
          generalize tmps.getD d undef = x at hr
          generalize ts d = a at hr
          cases hr <;> first | rfl | (cases x <;> rfl)
    rw [e]

theorem finish_frm (b : Frame) (tmps : Array Value) (ops : Array Oper) (i : Nat) (rest : List Nat) (k : List Item) (D : List Deferred) (v : Value) (o : Oper) (ho : ops[i]? = some o) :
    (frm b tmps (.inRegion ops (i :: rest) :: k) D).finish v = frm b (cput tmps o.dst v) (.inRegion ops rest :: k) D := by
  simp only [Frame.finish, frm, ho, Option.bind_some]
  cases o.dst <;> rfl

theorem stepG_frm_op {b : Frame} {tmps : Array Value} {ops : Array Oper} {i : Nat} {rest : List Nat} {k : List Item} {D : List Deferred} {cs : List Frame} {w : World} {o : Oper} (ho : ops[i]? = some o)
    (hw : Region.wanted o (yielded ops tmps) = true) (hd : isDefer o.op = false) :
    stepG P true { frame := frm b tmps (.inRegion ops (i :: rest) :: k) D, callers := cs, status := .running, dying := none } w =
      stepG.apply P true (frm b tmps (.inRegion ops (i :: rest) :: k) D) cs none (execOp (Act.eval ⟨tmps, D⟩) o) w := by
  have he : (frm b tmps (.inRegion ops (i :: rest) :: k) D).eval = Act.eval ⟨tmps, D⟩ := funext (frm_eval b tmps _ D)
  simp only [frm] at he ⊢
  have hnd : ∀ c, o.op ≠ .defer c := by intro c hc; rw [hc] at hd; simp [isDefer] at hd
  simp only [stepG, stepG.exec, ho, Option.map_some, Option.getD_some, hw, if_true, stepG.oper, Frame.oper?, he]
  split
  · rename_i h1 h2 h3 h4 h5; exact absurd h5 (hnd _)
  · rfl

theorem FW.opSkip {ops : Array Oper} {i : Nat} {rest : List Nat} {o : Oper} (ho : ops[i]? = some o) (hw : wantedA ops ts o = false) (h : FW P G rd n (.inRegion ops rest :: k) (put ts o.dst .un) H Q) :
    FW P G rd n (.inRegion ops (i :: rest) :: k) ts H Q := by
  intro hk E w tmps hH hT b D cs hrd
  have hk' := hk
  rw [todoOk_cons, Bool.and_eq_true] at hk'
  have hops : ops.all (operOk n) = true := hk'.1
  have hT' := hT.put (v := .un) (r := undef) (.tup (by rfl) (fun i hi => by simp at hi)) o.dst
  obtain ⟨L, ts', H', E', w', tmps', D', todo', h1, h2, h3, h4, h6, h7, h8⟩ := h (by rw [todoOk_cons, Bool.and_eq_true]; exact ⟨hops, hk'.2⟩) E w _ hH hT' b D cs hrd
  refine ⟨L, ts', H', E', w', tmps', D', todo', h1, h2, h3, h4, h6, h7, h8.pre P (.one (step_lone_go ?_))⟩
  have hwt : Region.wanted o (yielded ops tmps) = false := by rw [wanted_eq hops hT]; exact hw
  rw [← finish_frm b tmps ops i rest k D undef o ho]
  simp [stepG, stepG.exec, frm, ho, hwt]

theorem FW.op {ops : Array Oper} {i : Nat} {rest : List Nat} {o : Oper} (ho : ops[i]? = some o) (hw : wantedA ops ts o = true) (hd : isDefer o.op = false)
    (h : OpS P G n o ts H fun v H' => FW P G rd n (.inRegion ops rest :: k) (put ts o.dst v) H' Q) :
    FW P G rd n (.inRegion ops (i :: rest) :: k) ts H Q := by
  intro hk E w tmps hH hT b D cs hrd
  have hk' := hk
  rw [todoOk_cons, Bool.and_eq_true] at hk'
  have hops : ops.all (operOk n) = true := hk'.1
  have hoo : operOk n o = true := (Array.all_eq_true'.1 hops) o (Array.mem_of_getElem? ho)
  have hwt : Region.wanted o (yielded ops tmps) = true := by rw [wanted_eq hops hT]; exact hw
  obtain ⟨v, H1, E1, w1, r, hK, hH1, hg1, hr1, hrun⟩ := h E w tmps hH hT hoo D (frm b tmps (.inRegion ops (i :: rest) :: k) D) cs
  have hT1 := (hT.mono hg1.mono).put hr1 o.dst
  obtain ⟨L, ts', H', E', w', tmps', D', todo', h1, h2, h3, h4, h6, h7, h8⟩ := hK (by rw [todoOk_cons, Bool.and_eq_true]; exact ⟨hops, hk'.2⟩) E1 w1 _ hH1 hT1 b D cs (hrd.mono hg1.mono)
  refine ⟨L, ts', H', E', w', tmps', D', todo', h1, h2, hg1.trans h3, h4, h6, ⟨h7.1, h7.2.le hg1.size⟩, h8.pre P ?_⟩
  have hst := stepG_frm_op (P := P) (b := b) (tmps := tmps) (rest := rest) (k := k) (D := D) (cs := cs) (w := w) ho hwt hd
  have hfin := finish_frm b tmps ops i rest k D r o ho
  rcases hrun with hr | ⟨hr, rfl⟩ | ⟨f, args, w0, hr, hsteps⟩ | ⟨l, f, tm, a, bb, w0, hr, hsteps⟩
  · refine .one (step_lone_go ?_)
    rw [hst, ← hfin]; simp [stepG.apply, hr]
  · refine .one (step_lone_go ?_)
    rw [hst, ← hfin]; simp [stepG.apply, hr]
  · refine .head (step_lone_go ?_) (hfin ▸ hsteps)
    rw [hst]; simp [stepG.apply, hr, frm]
  · refine .head (step_lone_go ?_) (hfin ▸ hsteps)
    rw [hst]; simp [stepG.apply, hr, frm]
end
end Go.Ab
