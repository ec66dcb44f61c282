/-
  The operations as the kernel carries them out, and that they are the abstract memory's.
-/
import Derived.Test.YtchodnhlkdlgmaaGreatDoorEvX1
import Derived.IntWalk
set_option linter.unusedVariables false
set_option linter.unusedSimpArgs false
namespace Go.Ab

/-! ### Types -/

structure TI where
  und : TypeDesc
  agg : Bool
  sz : Nat
  byt : Nat
  zc : Option (List AV)
  ze : Option AV
  eqg : Bool
  held : Bool

def TEok (P : Program) (te : Tr TI) : Prop := ∀ t i, te.get t = some i →
  P.underlying t = some i.und ∧ aggT P t = some i.agg ∧ szT P t = some i.sz ∧ bytesT P t = some i.byt ∧ zeroCells P t = i.zc ∧ zeroEl P t = i.ze ∧ P.eqGuardType P.depth t = i.eqg ∧ P.stoodInHeld t = i.held

noncomputable def lget {α : Type} (l : List α) : Nat → Option α :=
  List.rec (motive := fun _ => Nat → Option α) (fun _ => none) (fun a _ ih i => Nat.casesOn (motive := fun _ => Option α) i (some a) ih) l
theorem lget_eq {α : Type} : ∀ (l : List α) (i : Nat), lget l i = l[i]?
  | [], i => by simp [lget]
  | a :: l, 0 => rfl
  | a :: l, j + 1 => by simpa [lget] using lget_eq l j

noncomputable def lenK {α β : Type} (l : List α) : Nat → (Nat → β) → β :=
  List.rec (motive := fun _ => Nat → (Nat → β) → β) (fun n k => k n) (fun _ _ ih n k => fcN (Nat.succ n) fun n => ih n k) l
theorem lenK_eq {α β : Type} : ∀ (l : List α) (n : Nat) (k : Nat → β), lenK l n k = k (n + l.length)
  | [], n, k => rfl
  | _ :: l, n, k => by
    show fcN (Nat.succ n) (fun n => lenK l n k) = _
    simp only [fcN_eq, lenK_eq l, List.length_cons]
    congr 1
    omega

/-- A box: the kernel remembers what is in. -/
inductive Bx (α : Type) where
  | bx (a : α)

/-- A value whose parts are at their ends. -/
noncomputable def fcT {β : Type} (a : AV) : (AV → β) → β := AV.casesOn (motive_1 := fun _ => (AV → β) → β) a
  (fun x0 k => k (.c x0))
  (fun x0 k => k (.agg x0))
  (fun x0 k => k (.tup x0))
  (fun x0 x1 k => k (.ptr x0 x1))
  (fun x0 x1 x2 k => k (.eptr x0 x1 x2))
  (fun x0 x1 x2 x3 k => k (.sl x0 x1 x2 x3))
  (fun k => k (.zs))
  (fun x0 k => k (.isl x0))
  (fun x0 x1 k => k (.iptr x0 x1))
  (fun x0 x1 x2 k => k (.fn x0 x1 x2))
  (fun x0 k => k (.yld x0))
  (fun x0 x1 k => k (.ifc x0 x1))
  (fun x0 k => k (.mp x0))
  (fun x0 x1 k => k (.gp x0 x1))
  (fun x0 x1 x2 x3 x4 k => k (.bs x0 x1 x2 x3 x4))
  (fun k => k (.any))
theorem fcT_eq {β : Type} (a : AV) (k : AV → β) : fcT a k = k a := by cases a <;> rfl

noncomputable def valInt {γ : Type} (v : Value) : γ → (IntKind → Int → γ) → γ := Value.casesOn (motive_1 := fun _ => γ → (IntKind → Int → γ) → γ) v
  (fun _ n _ => n)
  (fun kd i _ k => k kd i)
  (fun _ _ n _ => n)
  (fun _ _ _ n _ => n)
  (fun _ n _ => n)
  (fun _ n _ => n)
  (fun _ _ _ n _ => n)
  (fun _ n _ => n)
  (fun _ n _ => n)
  (fun _ _ _ n _ => n)
  (fun n _ => n)
  (fun _ _ n _ => n)
  (fun n _ => n)
  (fun _ n _ => n)
  (fun _ n _ => n)
noncomputable def avInt {γ : Type} (a : AV) : γ → (IntKind → Int → γ) → γ := AV.casesOn (motive_1 := fun _ => γ → (IntKind → Int → γ) → γ) a
  (fun v => valInt v)
  (fun _ n _ => n)
  (fun _ n _ => n)
  (fun _ _ n _ => n)
  (fun _ _ _ n _ => n)
  (fun _ _ _ _ n _ => n)
  (fun n _ => n)
  (fun _ n _ => n)
  (fun _ _ n _ => n)
  (fun _ _ _ n _ => n)
  (fun _ n _ => n)
  (fun _ _ n _ => n)
  (fun _ n _ => n)
  (fun _ _ n _ => n)
  (fun _ _ _ _ _ n _ => n)
  (fun n _ => n)
noncomputable def valBool {γ : Type} (v : Value) : γ → (Bool → γ) → γ := Value.casesOn (motive_1 := fun _ => γ → (Bool → γ) → γ) v
  (fun b _ k => k b)
  (fun _ _ n _ => n)
  (fun _ _ n _ => n)
  (fun _ _ _ n _ => n)
  (fun _ n _ => n)
  (fun _ n _ => n)
  (fun _ _ _ n _ => n)
  (fun _ n _ => n)
  (fun _ n _ => n)
  (fun _ _ _ n _ => n)
  (fun n _ => n)
  (fun _ _ n _ => n)
  (fun n _ => n)
  (fun _ n _ => n)
  (fun _ n _ => n)
noncomputable def avBool {γ : Type} (a : AV) : γ → (Bool → γ) → γ := AV.casesOn (motive_1 := fun _ => γ → (Bool → γ) → γ) a
  (fun v => valBool v)
  (fun _ n _ => n)
  (fun _ n _ => n)
  (fun _ _ n _ => n)
  (fun _ _ _ n _ => n)
  (fun _ _ _ _ n _ => n)
  (fun n _ => n)
  (fun _ n _ => n)
  (fun _ _ n _ => n)
  (fun _ _ _ n _ => n)
  (fun _ n _ => n)
  (fun _ _ n _ => n)
  (fun _ n _ => n)
  (fun _ _ n _ => n)
  (fun _ _ _ _ _ n _ => n)
  (fun n _ => n)
theorem avInt_sound {β : Type} {a : AV} {k : IntKind → Int → Option β} {r : β} (h : avInt a none k = some r) : ∃ kd n, a = .c (.int kd n) ∧ k kd n = some r := by
  cases a <;> first
    | (cases h; done)
    | (rename_i v
       cases v <;> first
         | (cases h; done)
         | exact ⟨_, _, rfl, h⟩)
theorem avBool_sound {β : Type} {a : AV} {k : Bool → Option β} {r : β} (h : avBool a none k = some r) : ∃ b, a = .c (.bool b) ∧ k b = some r := by
  cases a <;> first
    | (cases h; done)
    | (rename_i v
       cases v <;> first
         | (cases h; done)
         | exact ⟨_, rfl, h⟩)

def xconst {β : Type} (v : Value) : (AV → β) → β := match v with
  | .int kd n => fun k => fcI n fun n => k (.c (.int kd n))
  | .bool b => fun k => fcB b fun b => k (.c (.bool b))
  | v => fun k => fcA (ofV v) k
theorem xconst_eq {β : Type} (v : Value) (k : AV → β) : xconst v k = k (ofV v) := by
  cases v <;> simp only [xconst, fcI_eq, fcB_eq, fcA_eq] <;> rfl

inductive OB where
  | t (i : Nat) (p : List D8)
  | k (v : AV)
def opB (o : Operand) : OB := match o with
  | .tmp t => fcN t fun t => .t t (way t)
  | .const v => xconst v .k
  | .global g => .k (.gp g 0)
  | .func f => .k (.fn f [] [])
noncomputable def TT.look (ts : TT) (i : Nat) (p : List D8) : AV := TT.casesOn (motive := fun _ => AV) ts fun b tr => Option.casesOn (motive := fun _ => AV) (tr.get p) (b i) (fun v => v)
theorem TT.look_eq (ts : TT) (i : Nat) : ts.look i (way i) = ts.get i := by
  obtain ⟨b, tr⟩ := ts
  show Option.casesOn (motive := fun _ => AV) (tr.get (way i)) (b i) (fun v => v) = (match tr.get (way i) with | some v => v | none => b i)
  cases tr.get (way i) <;> rfl

/-- An operand, looked at where it is asked for. -/
noncomputable def xlz {β : Type} (ts : TT) (o : Operand) (k : AV → β) : β := OB.casesOn (motive := fun _ => β) (opB o) (fun i p => k (ts.look i p)) k
theorem xlz_eq {β : Type} (ts : TT) (o : Operand) (k : AV → β) : xlz ts o k = k (ev ts.get o) := by
  cases o with
  | tmp t =>
    show OB.casesOn (motive := fun _ => β) (fcN t fun t => OB.t t (way t)) (fun i p => k (ts.look i p)) k = _
    rw [fcN_eq]
    show k (ts.look t (way t)) = _
    rw [TT.look_eq]; rfl
  | const v =>
    show OB.casesOn (motive := fun _ => β) (xconst v OB.k) (fun i p => k (ts.look i p)) k = _
    rw [xconst_eq]; rfl
  | global g => rfl
  | func f => rfl

/-- An operand. -/
noncomputable def xev {β : Type} (ts : TT) (o : Operand) (k : AV → β) : β := OB.casesOn (motive := fun _ => β) (opB o) (fun i p => fcT (ts.look i p) k) k
theorem xev_eq {β : Type} (ts : TT) (o : Operand) (k : AV → β) : xev ts o k = k (ev ts.get o) := by
  have h := xlz_eq ts o k
  unfold xlz at h
  unfold xev
  rw [← h]
  cases opB o <;> simp only [fcT_eq]

noncomputable def xevs {β : Type} (ts : TT) (l : List Operand) : (List AV → β) → β :=
  List.rec (motive := fun _ => (List AV → β) → β) (fun k => k []) (fun o _ ih k => xev ts o fun v => ih fun vs => k (v :: vs)) l
theorem xevs_eq {β : Type} (ts : TT) : ∀ (l : List Operand) (k : List AV → β), xevs ts l k = k (l.map (ev ts.get))
  | [], k => rfl
  | o :: l, k => by
    show xev ts o (fun v => xevs ts l fun vs => k (v :: vs)) = _
    simp only [xev_eq, xevs_eq ts l, List.map_cons]

noncomputable def xevp {β : Type} (ts : TT) (l : List (Nat × Operand)) : (List (Nat × AV) → β) → β :=
  List.rec (motive := fun _ => (List (Nat × AV) → β) → β) (fun k => k []) (fun p _ ih k => match p with
    | (i, o) => xev ts o fun v => ih fun vs => k ((i, v) :: vs)) l
theorem xevp_eq {β : Type} (ts : TT) : ∀ (l : List (Nat × Operand)) (k : List (Nat × AV) → β), xevp ts l k = k (l.map fun p => (p.1, ev ts.get p.2))
  | [], k => rfl
  | (i, o) :: l, k => by
    show xev ts o (fun v => xevp ts l fun vs => k ((i, v) :: vs)) = _
    simp only [xev_eq, xevp_eq ts l, List.map_cons]

noncomputable def xcells {β : Type} (a : AV) : (List AV → β) → β := AV.casesOn (motive_1 := fun _ => (List AV → β) → β) a
  (fun x0 k => k [.c x0])
  (fun x0 k => k x0)
  (fun x0 k => k [.tup x0])
  (fun x0 x1 k => k [.ptr x0 x1])
  (fun x0 x1 x2 k => k [.eptr x0 x1 x2])
  (fun x0 x1 x2 x3 k => k [.sl x0 x1 x2 x3])
  (fun k => k [.zs])
  (fun x0 k => k [.isl x0])
  (fun x0 x1 k => k [.iptr x0 x1])
  (fun x0 x1 x2 k => k [.fn x0 x1 x2])
  (fun x0 k => k [.yld x0])
  (fun x0 x1 k => k [.ifc x0 x1])
  (fun x0 k => k [.mp x0])
  (fun x0 x1 k => k [.gp x0 x1])
  (fun x0 x1 x2 x3 x4 k => k [.bs x0 x1 x2 x3 x4])
  (fun k => k [.any])
theorem xcells_eq {β : Type} (a : AV) (k : List AV → β) : xcells a k = k a.cells := by cases a <;> rfl

/-! ### Integers -/

def knum : IntKind → Nat
  | .i8 => 0 | .i16 => 1 | .i32 => 2 | .i64 => 3 | .u8 => 4 | .u16 => 5 | .u32 => 6 | .u64 => 7
theorem knum_eq {a b : IntKind} (h : Nat.beq (knum a) (knum b) = true) : a = b := by
  cases a <;> cases b <;> first | rfl | (simp [knum] at h)

def ilt : Int → Int → Bool
  | .ofNat a, .ofNat b => Nat.blt a b
  | .ofNat _, .negSucc _ => false
  | .negSucc _, .ofNat _ => true
  | .negSucc a, .negSucc b => Nat.blt b a
theorem ilt_eq (a b : Int) : ilt a b = decide (a < b) := by
  have hb : ∀ m n : Nat, Nat.blt m n = decide (m < n) := fun m n => by
    by_cases h : m < n
    · rw [decide_eq_true h]; exact (blt_iff _ _).2 h
    · rw [decide_eq_false h]; exact blt_not h
  cases a <;> cases b <;> simp only [ilt, hb] <;> first
    | (apply decide_eq_decide.2; omega)
    | (apply decide_eq_decide.2; constructor <;> intro h <;> simp only [Int.ofNat_eq_natCast] at * <;> omega)
    | (symm; rw [decide_eq_true_iff]; simp only [Int.ofNat_eq_natCast]; omega)
    | (symm; rw [decide_eq_false_iff_not]; simp only [Int.ofNat_eq_natCast]; omega)
def ile (a b : Int) : Bool := match ilt b a with
  | true => false
  | false => true
theorem ile_eq (a b : Int) : ile a b = decide (a ≤ b) := by
  unfold ile
  rw [ilt_eq]
  by_cases h : b < a
  · rw [decide_eq_true h, decide_eq_false (by omega)]
  · rw [decide_eq_false h, decide_eq_true (by omega)]
def ieq : Int → Int → Bool
  | .ofNat a, .ofNat b => Nat.beq a b
  | .negSucc a, .negSucc b => Nat.beq a b
  | _, _ => false
theorem ieq_eq (a b : Int) : ieq a b = (a == b) := by
  cases a <;> cases b <;> simp only [ieq] <;> rw [Bool.eq_iff_iff] <;> simp <;> try omega
def xnot : Bool → Bool
  | true => false
  | false => true
theorem xnot_eq (b : Bool) : xnot b = !b := by cases b <;> rfl
def xbeq (a b : Bool) : Bool := match a with
  | true => b
  | false => xnot b
theorem xbeq_eq (a b : Bool) : xbeq a b = (a == b) := by cases a <;> cases b <;> rfl

def xwrap (k : IntKind) (n : Int) : Int := match k, n with
  | .i64, .ofNat m => match Nat.blt m 9223372036854775808 with
    | true => .ofNat m
    | false => IntKind.wrap .i64 (.ofNat m)
  | .i64, .negSucc m => match Nat.blt m 9223372036854775808 with
    | true => .negSucc m
    | false => IntKind.wrap .i64 (.negSucc m)
  | .u64, .ofNat m => .ofNat (Nat.mod m 18446744073709551616)
  | k, n => k.wrap n
theorem xwrap_eq (k : IntKind) (n : Int) : xwrap k n = k.wrap n := by
  unfold xwrap
  split
  · rename_i m
    split
    · rename_i h
      have := (blt_iff _ _).1 h
      exact (IntWalk.i64_in _ (by constructor <;> (try simp only [Int.ofNat_eq_natCast]) <;> omega)).symm
    · rfl
  · rename_i m
    split
    · rename_i h
      have := (blt_iff _ _).1 h
      exact (IntWalk.i64_in _ (by constructor <;> (try simp only [Int.ofNat_eq_natCast]) <;> omega)).symm
    · rfl
  · rename_i m
    simp [IntKind.wrap, IntKind.signed, IntKind.bits]
    rfl
  · rfl

noncomputable def xbShl {β : Type} (k : IntKind) (a : Int) (yk : IntKind) (b : Int) (K : Value → Option β) : Option β := match b with
    | .ofNat n => fcI (xwrap k (Int.mul a (.ofNat (Nat.pow 2 (Nat.min n k.bits))))) fun r => K (.int k r)
    | .negSucc _ => none
noncomputable def xbShr {β : Type} (k : IntKind) (a : Int) (yk : IntKind) (b : Int) (K : Value → Option β) : Option β := match b with
    | .ofNat n => match a with
      | .ofNat m => fcN (Nat.div m (Nat.pow 2 (Nat.min n k.bits))) fun r => K (.int k (.ofNat r))
      | .negSucc m => fcI ((Int.negSucc m).fdiv (.ofNat (Nat.pow 2 (Nat.min n k.bits)))) fun r => K (.int k r)
    | .negSucc _ => none
noncomputable def xbSameB {β : Type} (op : BinOp) : Bx (IntKind → Int → Int → (Value → Option β) → Option β) :=
      match op with
      | .add => .bx (fun k a b K => fcI (xwrap k (Int.add a b)) fun r => K (.int k r))
      | .sub => .bx (fun k a b K => fcI (xwrap k (Int.sub a b)) fun r => K (.int k r))
      | .mul => .bx (fun k a b K => fcI (xwrap k (Int.mul a b)) fun r => K (.int k r))
      | .quo => .bx (fun k a b K => match ieq b 0 with
        | true => none
        | false => fcI (xwrap k (a.tdiv b)) fun r => K (.int k r))
      | .rem => .bx (fun k a b K => match ieq b 0 with
        | true => none
        | false => fcI (a.tmod b) fun r => K (.int k r))
      | .and => .bx (fun k a b K => fcI (k.wrap ((BitVec.ofInt k.bits a &&& BitVec.ofInt k.bits b).toNat)) fun r => K (.int k r))
      | .or => .bx (fun k a b K => fcI (k.wrap ((BitVec.ofInt k.bits a ||| BitVec.ofInt k.bits b).toNat)) fun r => K (.int k r))
      | .xor => .bx (fun k a b K => fcI (k.wrap ((BitVec.ofInt k.bits a ^^^ BitVec.ofInt k.bits b).toNat)) fun r => K (.int k r))
      | .andNot => .bx (fun k a b K => fcI (k.wrap ((BitVec.ofInt k.bits a &&& ~~~(BitVec.ofInt k.bits b)).toNat)) fun r => K (.int k r))
      | .eql => .bx (fun k a b K => fcB (ieq a b) fun r => K (.bool r))
      | .neq => .bx (fun k a b K => fcB (xnot (ieq a b)) fun r => K (.bool r))
      | .lss => .bx (fun k a b K => fcB (ilt a b) fun r => K (.bool r))
      | .leq => .bx (fun k a b K => fcB (ile a b) fun r => K (.bool r))
      | .gtr => .bx (fun k a b K => fcB (ilt b a) fun r => K (.bool r))
      | .geq => .bx (fun k a b K => fcB (ile b a) fun r => K (.bool r))
      | _ => .bx (fun _ _ _ _ => none)
noncomputable def xbSame {β : Type} (op : BinOp) (k : IntKind) (a b : Int) (K : Value → Option β) : Option β := Bx.casesOn (motive := fun _ => Option β) (xbSameB (β := β) op) (fun f => f k a b K)
noncomputable def xbKind {β : Type} (op : BinOp) (k : IntKind) (a : Int) (yk : IntKind) (b : Int) (K : Value → Option β) : Option β := match Nat.beq (knum k) (knum yk) with
    | false => none
    | true => xbSame op k a b K
noncomputable def xbB {β : Type} (op : BinOp) : Bx (IntKind → Int → IntKind → Int → (Value → Option β) → Option β) := match op with
  | .shl => .bx xbShl
  | .shr => .bx xbShr
  | op => .bx (xbKind op)
noncomputable def xBinI {β : Type} (op : BinOp) (k : IntKind) (a : Int) (yk : IntKind) (b : Int) (K : Value → Option β) : Option β :=
  Bx.casesOn (motive := fun _ => Option β) (xbB (β := β) op) (fun f => f k a yk b K)

theorem xBinI_sound {β : Type} {op : BinOp} {k : IntKind} {a : Int} {yk : IntKind} {b : Int} {K : Value → Option β} {r : β} (h : xBinI op k a yk b K = some r) :
    ∃ (C : Prop) (v : Value), aBinI op k a yk b = some (C, v) ∧ C ∧ K v = some r := by
  have h' : (match op with
    | .shl => xbShl
    | .shr => xbShr
    | op => xbKind op) k a yk b K = some r := by
    rw [← h]
    unfold xBinI xbB
    cases op <;> rfl
  clear h
  have h := h'
  clear h'
  split at h <;> simp only [xbShl, xbShr, xbKind] at h
  · split at h
    · rename_i n
      refine ⟨_, _, rfl, by simp, ?_⟩
      rw [fcI_eq, xwrap_eq] at h
      rw [← h]
      simp only [Int.ofNat_eq_natCast, Int.toNat_natCast]
      have e : ((2 : Int) ^ (min n k.bits)) = ((Nat.pow 2 (Nat.min n k.bits) : Nat) : Int) := (Int.natCast_pow 2 _).symm
      rw [e]; rfl
    · cases h
  · split at h
    · rename_i n
      refine ⟨_, _, rfl, by simp, ?_⟩
      have e : ((2 : Int) ^ (min (Int.toNat (Int.ofNat n)) k.bits)) = ((Nat.pow 2 (Nat.min n k.bits) : Nat) : Int) := by
        simp only [Int.ofNat_eq_natCast, Int.toNat_natCast]
        exact (Int.natCast_pow 2 _).symm
      rw [e]
      split at h
      · rename_i m
        rw [fcN_eq] at h
        rw [← h]
        congr 2
        rw [Int.fdiv_eq_ediv_of_nonneg _ (by omega)]; rfl
      · rw [fcI_eq] at h
        exact h
    · cases h
  · split at h
    · cases h
    · rename_i hk
      obtain rfl := knum_eq hk
      cases op <;> simp only [xbSame, xbSameB, fcI_eq, fcB_eq, xwrap_eq, ieq_eq, ilt_eq, ile_eq, xnot_eq] at h <;> first
        | (cases h; done)
        | (refine ⟨_, _, by simp only [aBinI, if_true]; rfl, trivial, ?_⟩
           first | exact h | simpa [bne] using h)
        | (split at h
           · cases h
           · rename_i hb
             refine ⟨_, _, by simp only [aBinI, if_true]; rfl, by simpa using hb, h⟩)
        | simp_all

end Go.Ab
