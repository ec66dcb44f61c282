/-
  Regions that draw their order, with a load beside a store of another object.
-/
import Derived.Test.YtchodnhlkdlgmaaGreatDoorEvR
set_option linter.unusedVariables false
set_option linter.unusedSimpArgs false
namespace Go.Ab
section
variable {P : Program} {G : Gl} {ops : Array Oper}

/-- What is read lies in another object than what is written. -/
def sepA (a b : AV) : Bool :=
  match b with
  | .ptr j _ => match a with
    | .ptr i _ => xne i j
    | .eptr i _ _ => xne i j
    | .iptr _ _ => true
    | .gp _ _ => true
    | _ => false
  | .eptr j _ _ => match a with
    | .ptr i _ => xne i j
    | .eptr i _ _ => xne i j
    | .iptr _ _ => true
    | .gp _ _ => true
    | _ => false
  | _ => false
where xne (i j : Nat) : Bool := match Nat.beq i j with
  | true => false
  | false => true

theorem sepA_ne {i j : Nat} (h : sepA.xne i j = true) : i ≠ j := by
  intro e; subst e
  simp [sepA.xne] at h

theorem rdCells_sep {H H' : List AO} {a b : AV} {news : List AV} (hs : sepA a b = true) (hw : wrCells H b news = some H') (m : Nat) : rdCells G H' a m = rdCells G H a m := by
  unfold wrCells at hw
  unfold sepA at hs
  split at hw
  · split at hw
    · split at hw
      · cases hw
        simp only at hs
        split at hs <;> first
          | (cases hs; done)
          | (have := sepA_ne hs; simp only [rdCells]; rw [List.getElem?_set_ne (fun e => this e.symm)]; done)
          | rfl
      · cases hw
    · cases hw
  · split at hw
    · split at hw
      · cases hw
        simp only at hs
        split at hs <;> first
          | (cases hs; done)
          | (have := sepA_ne hs; simp only [rdCells]; rw [List.getElem?_set_ne (fun e => this e.symm)]; done)
          | rfl
      · cases hw
    · cases hw
  · cases hw

def loadOf : Op → Option (TypeId × Operand)
  | .load t a => some (t, a)
  | _ => none
def storeOf : Op → Option (TypeId × Operand × Operand)
  | .store t a x => some (t, a, x)
  | _ => none

/-- The load and the store at i and j touch different objects (or one of them is not wanted). -/
def sepAt (ops : Array Oper) (ts : Nat → AV) (i j : Nat) : Bool :=
  match ops[i]?, ops[j]? with
  | some oi, some oj => match loadOf oi.op, storeOf oj.op with
    | some (_, a), some (_, b, _) => sepA (ev ts a) (ev ts b)
    | _, _ => false
  | _, _ => false

theorem step_swap {imp : Nat → Bool} {i j : Nat} {oi oj : Oper} (hi : ops[i]? = some oi) (hj : ops[j]? = some oj) (hap : oi.apart ops oj = true) {ts : Nat → AV} {H : List AO} (hsep : sepAt ops ts i j = true)
    {K : (Nat → AV) → List AO → Prop} (h : stepR P G ops imp i ts H fun ts1 H1 => stepR P G ops imp j ts1 H1 K) : stepR P G ops imp j ts H fun ts1 H1 => stepR P G ops imp i ts1 H1 K := by
  obtain ⟨h1, h2, h3⟩ := Oper.apart_spec hap
  unfold sepAt at hsep
  simp only [hi, hj] at hsep
  split at hsep
  · rename_i t a t' b x hl hs
    have hli : oi.op = .load t a := by
      cases hop : oi.op <;> rw [hop] at hl <;> simp [loadOf] at hl
      obtain ⟨rfl, rfl⟩ := hl; rfl
    have hsj : oj.op = .store t' b x := by
      cases hop : oj.op <;> rw [hop] at hs <;> simp [storeOf] at hs
      obtain ⟨rfl, rfl, rfl⟩ := hs; rfl
    unfold stepR at h ⊢
    simp only [hi, hj, hli, hsj] at h ⊢
    by_cases hwi : wantedA ops ts oi = true
    · rw [if_pos hwi] at h
      obtain ⟨r, g1, g2, g3⟩ := h
      obtain ⟨gH, _⟩ := aop_read (P := P) (G := G) (op := .load t a) rfl g1
      rw [wantedA_put h1] at g3
      by_cases hwj : wantedA ops ts oj = true
      · rw [if_pos hwj] at g3 ⊢
        obtain ⟨q, k1, k2, k3⟩ := g3
        have he := ev_put_op (ts := ts) (v := r.v) h1
        rw [hsj] at he
        rw [aop_congr he, gH] at k1
        refine ⟨q, k1, k2, ?_⟩
        rw [wantedA_put h3, if_pos hwi]
        have he2 := ev_put_op (ts := ts) (v := q.v) h3
        rw [hli] at he2
        refine ⟨⟨r.c, r.v, q.H⟩, ?_, g2, ?_⟩
        · rw [aop_congr he2]
          simp only [aop, Option.map_eq_some_iff] at g1 k1 ⊢
          obtain ⟨v, hv, rfl⟩ := g1
          obtain ⟨H2, hH2, rfl⟩ := k1
          refine ⟨v, ?_, rfl⟩
          unfold astore at hH2
          split at hH2
          · unfold aload at hv ⊢
            simp only [rdCells_sep hsep hH2]
            exact hv
          · cases hH2
        · rw [← put_comm h2]; exact k3
      · rw [if_neg hwj] at g3 ⊢
        rw [gH] at g3
        rw [wantedA_put h3, if_pos hwi]
        have he2 := ev_put_op (ts := ts) (v := AV.un) h3
        rw [hli] at he2
        refine ⟨⟨r.c, r.v, H⟩, ?_, g2, ?_⟩
        · rw [aop_congr he2, g1]
          cases r; simp_all
        · rw [← put_comm h2]; exact g3
    · rw [if_neg hwi] at h
      rw [wantedA_put h1] at h
      have he := ev_put_op (ts := ts) (v := AV.un) h1
      rw [hsj] at he
      by_cases hwj : wantedA ops ts oj = true
      · rw [if_pos hwj] at h ⊢
        obtain ⟨q, k1, k2, k3⟩ := h
        rw [aop_congr he] at k1
        refine ⟨q, k1, k2, ?_⟩
        rw [wantedA_put h3, if_neg hwi, ← put_comm h2]
        exact k3
      · rw [if_neg hwj] at h ⊢
        rw [wantedA_put h3, if_neg hwi, ← put_comm h2]
        exact h
  · cases hsep

/-- May operation i be taken first? -/
def firstOk (ops : Array Oper) (imp : Nat → Bool) (ms : List Nat) (i : Nat) (listed : Array Bool) : Bool :=
  (Region.ready .any ops listed == [i]) || (match ops[i]? with
      | some oi => !(clOf oi.op == .call && imp i) && compat (clOf oi.op) .scal false && (List.range ops.size).all fun j => j == i || listed.getD j true || (ms.getD j 0).testBit i || (match ops[j]? with
        | some oj => oi.apart ops oj && compat (clOf oi.op) (clOf oj.op) (imp j)
        | none => true)
      | none => false)

/-- An order; two at once: a load and a store of another object. -/
def ordOk2 (ops : Array Oper) (imp : Nat → Bool) (ms : List Nat) : List (Nat × Option Nat) → Array Bool → Bool
  | [], listed => (Region.ready .any ops listed).isEmpty
  | (i, none) :: l, listed => (Region.ready .any ops listed).contains i && firstOk ops imp ms i listed && ordOk2 ops imp ms l (listed.setIfInBounds i true)
  | (i, some j) :: l, listed => (Region.ready .any ops listed == [i, j] || Region.ready .any ops listed == [j, i]) && (match ops[i]?, ops[j]? with
      | some oi, some oj => oi.apart ops oj
      | _, _ => false) &&
    Region.ready .any ops (listed.setIfInBounds i true) == [j] && (Region.ready .any ops (listed.setIfInBounds j true)).contains i && firstOk ops imp ms i (listed.setIfInBounds j true) && i != j &&
    ordOk2 ops imp ms l ((listed.setIfInBounds i true).setIfInBounds j true)

def len2 : List (Nat × Option Nat) → Nat
  | [] => 0
  | (_, none) :: l => len2 l + 1
  | (_, some _) :: l => len2 l + 2

variable (P G ops)
def runR2 (imp : Nat → Bool) (K : (Nat → AV) → List AO → Prop) : List (Nat × Option Nat) → (Nat → AV) → List AO → Prop
  | [], ts, H => K ts H
  | (i, none) :: l, ts, H => stepR P G ops imp i ts H (runR2 imp K l)
  | (i, some j) :: l, ts, H => sepAt ops ts i j = true ∧ stepR P G ops imp i ts H fun ts1 H1 => stepR P G ops imp j ts1 H1 (runR2 imp K l)
variable {P G ops}

theorem firstOk_sound {imp : Nat → Bool} {K : (Nat → AV) → List AO → Prop} {i n : Nat} {listed : Array Bool} {ts : Nat → AV} {H : List AO} (hcl : Closed ops listed) (hr : i ∈ Region.ready .any ops listed) (hc : firstOk ops imp (masks [] ops.toList) i listed = true)
    (h : stepR P G ops imp i ts H (anyR P G ops imp K n (listed.setIfInBounds i true))) : anyR P G ops imp K (n + 1) listed ts H := by
  unfold firstOk at hc
  simp only [Bool.or_eq_true] at hc
  rcases hc with hc | hc
  · exact anyR_single (by simpa using hc) h
  · split at hc
    · rename_i oi hi
      rw [Bool.and_eq_true, Bool.and_eq_true, Bool.not_eq_true', List.all_eq_true] at hc
      obtain ⟨⟨hci, hcs⟩, hall⟩ := hc
      obtain ⟨v, hy, hK⟩ := YR.of_step hi hcs hci h
      refine anyR_first (C := clsC (clOf oi.op) H) (W := fun j => ((masks [] ops.toList).getD j 0).testBit i) hi (fun listed j hcl hj hi => masks_wait hcl hj hi) n listed ts H (fun j oj hoj hji hun hw => ?_) hcl hr hy (clsC_refl _ _) hK
      have hlt : j < ops.size := (Array.getElem?_eq_some_iff.1 hoj).1
      have := hall j (by simpa using hlt)
      simp only [Bool.or_eq_true, hoj, Bool.and_eq_true, hun, hw, beq_iff_eq, hji, Bool.false_eq_true, false_or, or_false] at this
      exact ⟨this.1, keeps_cls this.2⟩
    · cases hc

theorem ordOk2_sound {imp : Nat → Bool} {K : (Nat → AV) → List AO → Prop} : ∀ (l : List (Nat × Option Nat)) (listed : Array Bool) (ts : Nat → AV) (H : List AO), Closed ops listed → ordOk2 ops imp (masks [] ops.toList) l listed = true →
    runR2 P G ops imp K l ts H → anyR P G ops imp K (len2 l) listed ts H
  | [], listed, ts, H, hcl, ho, h => ⟨by simpa [ordOk2] using ho, h⟩
  | (i, none) :: l, listed, ts, H, hcl, ho, h => by
    simp only [ordOk2, Bool.and_eq_true] at ho
    obtain ⟨⟨hr, hc⟩, hl⟩ := ho
    have hr' : i ∈ Region.ready .any ops listed := by simpa using hr
    have h' : stepR P G ops imp i ts H (runR2 P G ops imp K l) := h
    exact firstOk_sound hcl hr' hc (stepR_mono h' fun ts' H' h' => ordOk2_sound l _ ts' H' (hcl.set hr') hl h')
  | (i, some j) :: l, listed, ts, H, hcl, ho, h => by
    simp only [ordOk2, Bool.and_eq_true, Bool.or_eq_true, bne_iff_ne, beq_iff_eq] at ho
    obtain ⟨⟨⟨⟨⟨⟨hr, hap⟩, hri⟩, hrj⟩, hfi⟩, hij⟩, hl⟩ := ho
    obtain ⟨hsep, h⟩ := h
    have hmem : i ∈ Region.ready .any ops listed ∧ j ∈ Region.ready .any ops listed ∧ ∀ k ∈ Region.ready .any ops listed, k = i ∨ k = j := by
      rcases hr with e | e <;> rw [e] <;> simp <;> omega
    obtain ⟨mi, mj, hk⟩ := hmem
    have hcli := hcl.set mi
    have hclj := hcl.set mj
    have mj2 : j ∈ Region.ready .any ops (listed.setIfInBounds i true) := by rw [hri]; simp
    have mi2 : i ∈ Region.ready .any ops (listed.setIfInBounds j true) := by simpa using hrj
    have hclij := hcli.set mj2
    have hrest : ∀ ts' H', runR2 P G ops imp K l ts' H' → anyR P G ops imp K (len2 l) ((listed.setIfInBounds i true).setIfInBounds j true) ts' H' := fun ts' H' h' => ordOk2_sound l _ ts' H' hclij hl h'
    have hi : ∃ oi, ops[i]? = some oi := by obtain ⟨_, o, ho, _⟩ := mem_ready.1 mi; exact ⟨o, ho⟩
    have hj : ∃ oj, ops[j]? = some oj := by obtain ⟨_, o, ho, _⟩ := mem_ready.1 mj; exact ⟨o, ho⟩
    obtain ⟨oi, hi⟩ := hi
    obtain ⟨oj, hj⟩ := hj
    rw [hi, hj] at hap
    have hpath1 : stepR P G ops imp i ts H (anyR P G ops imp K (len2 l + 1) (listed.setIfInBounds i true)) :=
      stepR_mono h fun ts1 H1 h1 => anyR_single hri (stepR_mono h1 hrest)
    have hpath2 : stepR P G ops imp j ts H (anyR P G ops imp K (len2 l + 1) (listed.setIfInBounds j true)) := by
      have hsw := step_swap hi hj hap hsep (stepR_mono h fun ts1 H1 h1 => stepR_mono h1 hrest)
      refine stepR_mono hsw fun ts1 H1 h1 => firstOk_sound hclj mi2 hfi ?_
      rw [Array.setIfInBounds_comm _ _ (fun e => hij e.symm)]
      exact h1
    show anyR P G ops imp K ((len2 l + 1) + 1) listed ts H
    refine ⟨fun e => (by rw [e] at mi; cases mi), fun k hkr => ?_⟩
    rcases hk k hkr with rfl | rfl
    · exact hpath1
    · exact hpath2

def ordB2 (ops : Array Oper) (imp : Nat → Bool) (ord : List (Nat × Option Nat)) : Bool := len2 ord == ops.size && ordOk2 ops imp (masks [] ops.toList) ord (Array.replicate ops.size false)

theorem FW.drawOrd2 (hm : P.follows .mixedOrders = true) {imp : Nat → Bool} {ord : List (Nat × Option Nat)} (hB : ordB2 ops imp ord = true) {rd : Option Nat} {n id : Nat} {k : List Item} {Q : Lv → (Nat → AV) → List AO → Prop} {ts : Nat → AV} {H : List AO}
    (h : runR2 P G ops imp (fun ts H => FW P G rd n k ts H Q) ord ts H) : FW P G rd n (.code (.region id ops true) :: k) ts H Q := by
  simp only [ordB2, Bool.and_eq_true, beq_iff_eq] at hB
  refine FW.draw hm (imp := imp) ?_
  rw [← hB.1]
  refine ordOk2_sound ord _ ts H (fun j o ho hl => ?_) (by rw [hB.1]; exact hB.2) h
  exfalso
  rcases Nat.lt_or_ge j (len2 ord) with h1 | h1 <;> simp [Array.getD, h1] at hl

/-- An order that serves, if one is found. -/
def ordFind (ops : Array Oper) (imp : Nat → Bool) (ms : List Nat) : Nat → Array Bool → List (Nat × Option Nat)
  | 0, _ => []
  | f + 1, listed => match (Region.ready .any ops listed).find? fun i => firstOk ops imp ms i listed with
    | some i => (i, none) :: ordFind ops imp ms f (listed.setIfInBounds i true)
    | none => match Region.ready .any ops listed with
      | [a, b] => match (ops[a]?).bind fun o => loadOf o.op with
        | some _ => (a, some b) :: ordFind ops imp ms f ((listed.setIfInBounds a true).setIfInBounds b true)
        | none => (b, some a) :: ordFind ops imp ms f ((listed.setIfInBounds a true).setIfInBounds b true)
      | _ => []
def ordGood (ops : Array Oper) (imp : Nat → Bool) : List (Nat × Option Nat) := ordFind ops imp (masks [] ops.toList) ops.size (Array.replicate ops.size false)
end
end Go.Ab
