/-
  The operations are sound.
-/
import Derived.Test.YtchodnhlkdlgmaaGreatDoorEvE
set_option linter.unusedVariables false
set_option linter.unusedSimpArgs false
namespace Go.Ab
section
variable {P : Program} {G : Gl} {n : Nat} {o : Oper} {ts : Nat → AV} {H H' : List AO} {v : AV} {C : Prop}

theorem opd1 {x : Operand} (ho : o.op.operands = #[x]) (hok : operOk n o = true) : opdOk n x = true := by
  simp only [operOk, ho, Bool.and_eq_true] at hok; simpa using hok.2
theorem opd2 {x y : Operand} (ho : o.op.operands = #[x, y]) (hok : operOk n o = true) : opdOk n x = true ∧ opdOk n y = true := by
  simp only [operOk, ho, Bool.and_eq_true] at hok; simpa using hok.2
theorem opd3 {x y z : Operand} (ho : o.op.operands = #[x, y, z]) (hok : operOk n o = true) : opdOk n x = true ∧ opdOk n y = true ∧ opdOk n z = true := by
  simp only [operOk, ho, Bool.and_eq_true] at hok; simpa using hok.2

theorem rep_int {w : World} {E : En} {a : AV} {r : Value} (h : RepV w E a r) {k : IntKind} {i : Int} (ha : aInt a = some (k, i)) : r = .int k i := by
  unfold aInt at ha
  split at ha
  · cases ha; exact h.c_inv
  · cases ha

theorem opv_move {x : Operand} (ho : o.op = .move x) : OpV P G n o ts H (ev ts x) H :=
  OpV.pure fun E w tmps hH hT hok D => ⟨_, rep_ev hT (opd1 (by rw [ho]; rfl) hok) D, by simp [execOp, ho]⟩
theorem opv_assign {x : Operand} (ho : o.op = .assign x) : OpV P G n o ts H (ev ts x) H :=
  OpV.pure fun E w tmps hH hT hok D => ⟨_, rep_ev hT (opd1 (by rw [ho]; rfl) hok) D, by simp [execOp, ho]⟩
theorem opv_pick {c a b : Operand} (ho : o.op = .pick c a b) {t : Bool} (hc : ev ts c = .c (.bool t)) : OpV P G n o ts H (pickA t (ev ts a) (ev ts b)) H :=
  OpV.pure fun E w tmps hH hT hok D => by
    obtain ⟨h1, h2, h3⟩ := opd3 (by rw [ho]; rfl) hok
    have hb := rep_ev hT h1 D
    rw [hc] at hb
    have hb' := hb.c_inv
    cases t with
    | true => exact ⟨_, rep_ev hT h2 D, by simp [execOp, ho, hb', asBool, Sem.run_bind, Result.andThen]⟩
    | false => exact ⟨_, rep_ev hT h3 D, by simp [execOp, ho, hb', asBool, Sem.run_bind, Result.andThen]⟩

theorem zero_rep {z : Value} (hz : constOk z = true ∧ (ofV z).isEl = true) (w : World) (E : En) : z.cells.size = (ofV z).cells.length ∧
    ∀ j, j < (ofV z).cells.length → ((ofV z).cells.getD j .un).isCell = true ∧ RepV w E ((ofV z).cells.getD j .un) (z.cells.getD j undef) := by
  obtain ⟨h1, h2⟩ := rep_cells (rep_const hz.1 w E) hz.2
  refine ⟨h1, fun j hj => ?_⟩
  have := h2 j hj
  rwa [show z.cells.toList.getD j undef = z.cells.getD j undef by simp [List.getD, Array.getD_eq_getD_getElem?]] at this

theorem opv_alloc {t : TypeId} (ho : o.op = .alloc t) {cs : List AV} (h : zeroCells P t = some cs) : OpV P G n o ts H (.ptr H.length 0) (H ++ [.cells cs]) := by
  intro E w tmps hH hT hok D
  unfold zeroCells at h
  cases hi : P.info? t with
  | none => rw [hi] at h; cases h
  | some i =>
    cases hz : i.zero with
    | none => rw [hi] at h; simp [hz] at h
    | some z =>
      rw [hi] at h
      simp only [Option.bind_some, hz] at h
      split at h
      · rename_i hc
        cases h
        obtain ⟨h1, h2⟩ := zero_rep hc w E
        obtain ⟨E', g1, g2, g3, g4⟩ := new_sound (P := P) hH t h1 h2
        refine ⟨E', _, _, g2, g3, .ptr g4, .inl ?_⟩
        have g1' : (newRow t z.cells).run P w = .ok ⟨w.heap.size, 0, none⟩ (w.alloc (.cells z.cells t)) := g1
        simp only [execOp, ho, Instr.alloc, zeroValue, typeInfo, program, Sem.run_bind, newVar, Sem.run, Result.andThen_ok, hi, hz, Sem.run_pure, g1']
      · cases h

theorem opv_box {t : TypeId} {x : Operand} (ho : o.op = .box t x) (h : (ev ts x).isEl = true) : OpV P G n o ts H (.ptr H.length 0) (H ++ [.cells (ev ts x).cells]) := by
  intro E w tmps hH hT hok D
  have hx := rep_ev hT (opd1 (by rw [ho]; rfl) hok) D
  obtain ⟨h1, h2⟩ := rep_cells hx h
  obtain ⟨E', g1, g2, g3, g4⟩ := new_sound (P := P) hH t h1 (fun j hj => by
    have := h2 j hj
    rwa [show (Act.eval ⟨tmps, D⟩ x).cells.toList.getD j undef = (Act.eval ⟨tmps, D⟩ x).cells.getD j undef by simp [List.getD, Array.getD_eq_getD_getElem?]] at this)
  refine ⟨E', _, _, g2, g3, .ptr g4, .inl ?_⟩
  simp only [execOp, ho, Instr.box, newVar, Sem.run_bind, g1, Result.andThen_ok, Sem.run_pure]

theorem opv_load {t : TypeId} {a : Operand} (ho : o.op = .load t a) (h : aload P G t (ev ts a) H = some v) : OpV P G n o ts H v H :=
  OpV.pure fun E w tmps hH hT hok D => by
    obtain ⟨ad, r, h1, h2, h3⟩ := aload_sound h hH (rep_ev hT (opd1 (by rw [ho]; rfl) hok) D)
    exact ⟨r, h3, by simp [execOp, ho, h1, Instr.loadAt, Instr.sureAddr, Sem.run_bind, h2, Result.andThen]⟩

theorem rep_un (w : World) (E : En) : RepV w E .un undef := .tup rfl (fun i hi => by simp at hi)

theorem opv_store {t : TypeId} {a x : Operand} (ho : o.op = .store t a x) (h : astore P t (ev ts a) (ev ts x) H = some H') : OpV P G n o ts H .un H' := by
  intro E w tmps hH hT hok D
  obtain ⟨q1, q2⟩ := opd2 (by rw [ho]; rfl) hok
  obtain ⟨ad, w', h1, h2, h3, h4⟩ := astore_sound (P := P) h hH (rep_ev hT q1 D) (rep_ev hT q2 D)
  exact ⟨E, w', undef, h3, h4, rep_un _ _, .inr ⟨by simp [execOp, ho, h1, Instr.storeAt, Instr.sureAddr, Sem.run_bind, h2, Result.andThen], rfl⟩⟩

theorem opv_nilCheck {x : Operand} (ho : o.op = .nilCheck x) (h : nonNil (ev ts x) = true) : OpV P G n o ts H (ev ts x) H :=
  OpV.pure fun E w tmps hH hT hok D => by
    have hx := rep_ev hT (opd1 (by rw [ho]; rfl) hok) D
    refine ⟨_, hx, ?_⟩
    simp only [execOp, ho]
    generalize Act.eval ⟨tmps, D⟩ x = r at hx
    generalize ev ts x = a at hx h
    cases hx <;> first | (simp [nonNil] at h; done) | rfl

theorem run_bool_eq {t : TypeId} (hu : P.underlying t = some .bool) (a b : Bool) (w : World) :
    (binOp .eql t (.bool a) (.bool b)).run P w = .ok (.bool (a == b)) w ∧ (binOp .neq t (.bool a) (.bool b)).run P w = .ok (.bool (a != b)) w := by
  have h : (Op.equal t (.bool a) (.bool b)).run P w = .ok (a == b) w := by
    show (Op.equalIn (9999 + 1) t (.bool a) (.bool b)).run P w = _
    rw [Op.equalIn, Sem.run_bind, run_underlying hu w]
    rfl
  refine ⟨?_, ?_⟩
  · show (do pure (.bool (← Op.equal t (.bool a) (.bool b))) : Sem Value).run P w = _
    rw [Sem.run_bind, h]; rfl
  · show (do pure (.bool (!(← Op.equal t (.bool a) (.bool b)))) : Sem Value).run P w = _
    rw [Sem.run_bind, h]; rfl

theorem opv_not {t : TypeId} {x : Operand} (ho : o.op = .unOp .not t x) {b : Bool} (h : ev ts x = .c (.bool b)) : OpV P G n o ts H (.c (.bool !b)) H :=
  OpV.pure fun E w tmps hH hT hok D => by
    have hx := rep_ev hT (opd1 (by rw [ho]; rfl) hok) D
    rw [h] at hx
    have hx' := hx.c_inv
    exact ⟨_, .c rfl, by simp [execOp, ho, hx', Op.unary]⟩
theorem opv_neg {t : TypeId} {x : Operand} (ho : o.op = .unOp .neg t x) {k : IntKind} {i : Int} (h : ev ts x = .c (.int k i)) : OpV P G n o ts H (.c (.int k (k.wrap (0 - i)))) H :=
  OpV.pure fun E w tmps hH hT hok D => by
    have hx := rep_ev hT (opd1 (by rw [ho]; rfl) hok) D
    rw [h] at hx
    have hx' := hx.c_inv
    exact ⟨_, .c rfl, by simp [execOp, ho, hx', Op.unary, Op.intArith]⟩
theorem opv_convert {s t : TypeId} {x : Operand} (ho : o.op = .convert s t x) {k k' : IntKind} {i : Int} (h : ev ts x = .c (.int k' i)) (ht : P.underlying t = some (.int k)) (hs : ∃ d, P.underlying s = some d) :
    OpV P G n o ts H (.c (.int k (k.wrap i))) H :=
  OpV.pure fun E w tmps hH hT hok D => by
    have hx := rep_ev hT (opd1 (by rw [ho]; rfl) hok) D
    rw [h] at hx
    have hx' := hx.c_inv
    obtain ⟨d, hd⟩ := hs
    exact ⟨_, .c rfl, by simp [execOp, ho, hx', convert, run_underlying ht, run_underlying hd, Sem.run_bind, Result.andThen, Conv.intToInt]⟩

theorem opv_iface {t : TypeId} {x : Operand} (ho : o.op = .makeInterface t x) {d : TypeDesc} (ht : P.underlying t = some d) (hd : ∀ ms, d ≠ .interface ms) : OpV P G n o ts H (.ifc t (ev ts x)) H :=
  OpV.pure fun E w tmps hH hT hok D => by
    refine ⟨_, .ifc (rep_ev hT (opd1 (by rw [ho]; rfl) hok) D), ?_⟩
    cases d <;> first
      | (exact absurd rfl (hd _))
      | simp [execOp, ho, Instr.makeInterface, run_underlying ht, Sem.run_bind, Result.andThen]

theorem opv_func {f : FuncId} {fs cs : Array Operand} (ho : o.op = .makeFunc (.func f) fs cs) : OpV P G n o ts H (.fn f (fs.toList.map (ev ts)) (cs.toList.map (ev ts))) H :=
  OpV.pure fun E w tmps hH hT hok D => by
    have hk : (fs ++ cs).all (opdOk n) = true := by
      have := hok
      simp only [operOk, ho, Op.operands, Bool.and_eq_true] at this
      exact this.2
    rw [Array.all_append, Bool.and_eq_true] at hk
    have h1 := repL_map hT hk.1 D
    have h2 := repL_map hT hk.2 D
    exact ⟨_, .fn h1.1 h2.1 h1.2 h2.2, by simp [execOp, ho, Instr.makeFunc]⟩

theorem ptrAdd_sound {w : World} {E : En} {a : AV} {r : Value} (ha : RepV w E a r) {k : Nat} (h : ptrAdd a k = some v) : ∃ b q, r = .pointer (some ⟨b, q, none⟩) ∧ RepV w E v (.pointer (some ⟨b, q + k, none⟩)) := by
  cases ha <;> simp only [ptrAdd] at h <;> first | (cases h; done) | skip
  case ptr id off l hl => cases h; exact ⟨_, _, rfl, by rw [Nat.add_assoc]; exact .ptr hl⟩
  case eptr id i off l hl => cases h; exact ⟨_, _, rfl, by rw [Nat.add_assoc]; exact .eptr hl⟩
  case iptr cs off b q f hf hcell hc h' => cases h; exact ⟨_, _, rfl, by rw [Nat.add_assoc]; exact .iptr hf hcell hc h'⟩
  case gp g off => cases h; exact ⟨_, _, rfl, .gp⟩

theorem opv_fieldAddr {s : TypeId} {x : Operand} {f : Nat} (ho : o.op = .fieldAddr s x f) {k : Nat} (hk : fieldOffA P s f = some k) (h : ptrAdd (ev ts x) k = some v) : OpV P G n o ts H v H :=
  OpV.pure fun E w tmps hH hT hok D => by
    have hx := rep_ev hT (opd1 (by rw [ho]; rfl) hok) D
    obtain ⟨b, q, e, hv⟩ := ptrAdd_sound hx h
    unfold fieldOffA at hk
    split at hk
    · rename_i fields hu
      split at hk
      · rename_i fl hf
        split at hk
        · rename_i m hs
          cases hk
          have := szT_run hs w
          refine ⟨_, hv, ?_⟩
          simp [execOp, ho, e, Instr.fieldAt, run_underlying hu, hf, Instr.sureAddr, fieldPlace, Sem.run_bind, this, Result.andThen, addr_add]
        · cases hk
      · cases hk
    · cases hk

theorem opv_indexAddr {t : TypeId} {x i : Operand} (ho : o.op = .indexAddr t x i) {k : IntKind} {q : Int} (hi : aInt (ev ts i) = some (k, q)) (h : aIdxAddr P t (ev ts x) q H = some (C, v)) (hC : C) : OpV P G n o ts H v H :=
  OpV.pure fun E w tmps hH hT hok D => by
    obtain ⟨q1, q2⟩ := opd2 (by rw [ho]; rfl) hok
    have hx := rep_ev hT q1 D
    have hi' := rep_int (rep_ev hT q2 D) hi
    unfold aIdxAddr at h
    split at h
    · rename_i len elem hu
      split at h
      · rename_i sz hs
        split at h
        · rename_i h1
          cases hp : ptrAdd (ev ts x) (q.toNat * sz) with
          | none => rw [hp] at h; cases h
          | some v' =>
            rw [hp] at h; simp only [Option.map_some, Option.some.injEq, Prod.mk.injEq] at h
            obtain ⟨rfl, rfl⟩ := h
            obtain ⟨b, p, e, hv⟩ := ptrAdd_sound hx hp
            refine ⟨_, hv, ?_⟩
            have := szT_run hs w
            simp [execOp, ho, e, hi', Instr.indexAt, run_underlying hu, asIntOf, Instr.sureAddr, Sem.run_bind, this, Result.andThen, hC, addr_add]
        · cases h
      · cases h
    · rename_i elem hu
      split at h
      · rename_i sz id st len cap hs e
        rw [e] at hx
        generalize hr0 : Act.eval ⟨tmps, D⟩ x = r0 at hx
        cases hx with
        | sl hl h1 h2 h3 =>
          rename_i l ad cc
          cases ho2 : H[id]? with
          | none => rw [ho2] at h; cases h
          | some ob =>
            rw [ho2] at h
            cases ob <;> simp only at h <;> try (cases h; done)
            rename_i sz' es
            split at h
            · rename_i hsz
              subst hsz
              cases h
              obtain ⟨l', hl', hz, _⟩ := hH.obj id _ ho2 rfl
              rw [hl] at hl'; cases hl'
              obtain ⟨rfl, _⟩ := h3 (by omega)
              refine ⟨.pointer (some ⟨l.b, l.base + (st + q.toNat) * l.sz + 0, none⟩), .eptr hl, ?_⟩
              have := szT_run hs w
              simp [execOp, ho, hr0, hi', Instr.indexAt, run_underlying hu, asIntOf, Sem.run_bind, this, Result.andThen, hC, addr_add]
              rw [hz, Nat.add_mul]; omega
            · cases h
      · rename_i sz id off len cap sz' hs e
        rw [e] at hx
        split at h
        · rename_i hsz
          subst hsz
          cases h
          generalize hr0 : Act.eval ⟨tmps, D⟩ x = r0 at hx
          cases hx with
          | bs hl h1 =>
            rename_i l
            refine ⟨.pointer (some ⟨l.b, l.base + (off + q.toNat * sz'), none⟩), .ptr hl, ?_⟩
            have := szT_run hs w
            simp [execOp, ho, hr0, hi', Instr.indexAt, run_underlying hu, asIntOf, Sem.run_bind, this, Result.andThen, hC, addr_add]
            omega
        · cases h
      · rename_i sz es hs e
        rw [e] at hx
        cases h
        generalize hr0 : Act.eval ⟨tmps, D⟩ x = r0 at hx
        cases hx with
        | isl hf hcc he hcell hc hr =>
          rename_i ad cc sz' f
          obtain ⟨⟨c1, c2⟩, c3⟩ := hC
          have hlt : q.toNat < es.length := by omega
          obtain ⟨hf, hsp⟩ := hf (by omega)
          obtain ⟨b, off, sp⟩ := ad
          obtain rfl : sp = none := hsp
          have hzz : sz' = sz := by rw [← (he _ hlt).2]; exact c3
          subst hzz
          refine ⟨.pointer (some ⟨b, (off + q.toNat * sz') + 0, none⟩), .iptr (f := fun j => f q.toNat j) hf (fun j hj => hcell _ j hlt (by rw [← c3]; exact hj)) (fun j hj => hc _ j hlt (by rw [← c3]; exact hj)) (fun j hj => hr _ j hlt (by rw [← c3]; exact hj)), ?_⟩
          have := szT_run hs w
          simp [execOp, ho, hr0, hi', Instr.indexAt, run_underlying hu, asIntOf, Sem.run_bind, this, Result.andThen, c1, c2, addr_add]
      · cases h
    · cases h
end
end Go.Ab
