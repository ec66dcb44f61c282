/-
  A region that draws its order, in which calls change memory: what is read ahead of such a call reads the same behind it.
-/
import Derived.Test.YtchodnhlkdlgmaaGreatDoorEvR3
set_option linter.unusedVariables false
set_option linter.unusedSimpArgs false
namespace Go.Ab
section
variable {P : Program} {G : Gl} {ops : Array Oper}

/-- What is to hold behind a call so that o, taken early, might as well be taken late. -/
def wat (P : Program) (G : Gl) (o : Oper) (ts : Nat → AV) (v : AV) : List AO → Prop :=
  if clOf o.op = .scal then fun _ => True else fun H' => aop P G o.op (ev ts) H' = some ⟨True, v, H'⟩

/-- Operation j waits for operation i. -/
def wt (ops : Array Oper) (j i : Nat) : Bool := ((masks [] ops.toList).getD j 0).testBit i
variable (P G ops)
def runG (M : Nat → Nat → Bool) (imp : Nat → Bool) (K : (Nat → List AO → Prop) → (Nat → AV) → List AO → Prop) : List (Nat × Bool) → (Nat → List AO → Prop) → (Nat → AV) → List AO → Prop
  | [], W, ts, H => K W ts H
  | (i, true) :: l, W, ts, H => ∃ o, ops[i]? = some o ∧
      ((wantedA ops ts o = true ∧ ∃ v, aop P G o.op (ev ts) H = some ⟨True, v, H⟩ ∧ runG M imp K l (fun j H' => W j H' ∧ (M j i = false → wat P G o ts v H')) (put ts o.dst v) H) ∨
       (wantedA ops ts o = false ∧ runG M imp K l W (put ts o.dst .un) H))
  | (i, false) :: l, W, ts, H => stepR P G ops imp i ts H fun ts' H' => (imp i = true → W i H') ∧ runG M imp K l W ts' H'

def anyG (imp : Nat → Bool) (K : (Nat → AV) → List AO → Prop) : Nat → (Nat → List AO → Prop) → Array Bool → (Nat → AV) → List AO → Prop
  | 0, W, listed, ts, H => Region.ready .any ops listed = [] ∧ K ts H
  | f + 1, W, listed, ts, H => (Region.ready .any ops listed = [] → K ts H) ∧ ∀ i ∈ Region.ready .any ops listed, stepR P G ops imp i ts H fun ts' H' => (imp i = true → W i H') ∧ anyG imp K f W (listed.setIfInBounds i true) ts' H'
variable {P G ops}

theorem anyG_mono {imp : Nat → Bool} {K : (Nat → AV) → List AO → Prop} {W W' : Nat → List AO → Prop} (hW : ∀ j H, W j H → W' j H) : ∀ (f : Nat) {listed : Array Bool} {ts : Nat → AV} {H : List AO}, anyG P G ops imp K f W listed ts H → anyG P G ops imp K f W' listed ts H
  | 0, listed, ts, H, h => h
  | f + 1, listed, ts, H, h => ⟨h.1, fun i hi => stepR_mono (h.2 i hi) fun ts' H' h => ⟨fun e => hW _ _ (h.1 e), anyG_mono hW f h.2⟩⟩
theorem anyG_any {imp : Nat → Bool} {K : (Nat → AV) → List AO → Prop} {W : Nat → List AO → Prop} : ∀ (f : Nat) {listed : Array Bool} {ts : Nat → AV} {H : List AO}, anyG P G ops imp K f W listed ts H → anyR P G ops imp K f listed ts H
  | 0, listed, ts, H, h => h
  | f + 1, listed, ts, H, h => ⟨h.1, fun i hi => stepR_mono (h.2 i hi) fun ts' H' h => anyG_any f h.2⟩

theorem stepG_put {imp : Nat → Bool} {C Wt : List AO → Prop} {i j : Nat} {oi oj : Oper} {ts : Nat → AV} {v : AV} {H : List AO} {K : (Nat → AV) → List AO → Prop} (hj : ops[j]? = some oj) (hap : oi.apart ops oj = true)
    (hk : imp j = false → ∀ (ρ : Operand → AV) (H : List AO) (r : AR), aop P G oj.op ρ H = some r → C H → C r.H) (hC : C H) (hy : YR P G ops imp C i oi ts v)
    (h : stepR P G ops imp j (put ts oi.dst v) H fun ts' H' => (imp j = true → Wt H' ∧ C H') ∧ K ts' H') :
    stepR P G ops imp j ts H fun ts' H' => (YR P G ops imp C i oi ts' v ∧ C H') ∧ (imp j = true → Wt H') ∧ K (put ts' oi.dst v) H' := by
  obtain ⟨h1, h2, h3⟩ := Oper.apart_spec hap
  unfold stepR at *
  simp only [hj] at *
  rw [wantedA_put h1] at h
  have he := ev_put_op (ts := ts) (v := v) h1
  split
  · rename_i hw
    simp only [hw, if_true] at h
    split
    · rename_i f args tys hop
      rw [hop] at he
      have e1 : ev (put ts oi.dst v) f = ev ts f := he f (by simp [Op.operands, Call.operands])
      have e2 : args.toList.map (ev (put ts oi.dst v)) = args.toList.map (ev ts) := List.map_congr_left fun x hx => he x (by simp only [Op.operands, Call.operands]; simp at hx ⊢; exact .inr hx)
      simp only [hop, e1, e2] at h
      split
      · rename_i hi
        rw [if_pos hi] at h
        refine ACV.mono h fun u H' hK => ?_
        refine ⟨⟨hy.put u h3, (hK.1 hi).2⟩, fun _ => (hK.1 hi).1, ?_⟩
        rw [← put_comm h2]; exact hK.2
      · rename_i hi
        rw [if_neg hi] at h
        obtain ⟨u, g1, g2⟩ := h
        exact ⟨u, g1, ⟨hy.put u h3, hC⟩, fun e => absurd e hi, by rw [← put_comm h2]; exact g2.2⟩
    · rename_i hop
      split at h
      · rename_i hop'; exact absurd hop' (hop _ _ _)
      · obtain ⟨r, g1, g2, g3, g4⟩ := h
        rw [aop_congr he] at g1
        refine ⟨r, g1, g2, ⟨hy.put r.v h3, ?_⟩, fun e => (g3 e).1, by rw [← put_comm h2]; exact g4⟩
        cases hij : imp j with
        | true => exact (g3 hij).2
        | false => exact hk hij _ _ _ g1 hC
  · rename_i hw
    rw [if_neg hw] at h
    exact ⟨⟨hy.put _ h3, hC⟩, fun e => (h.1 e).1, by rw [← put_comm h2]; exact h.2⟩

theorem anyG_first {imp : Nat → Bool} {K : (Nat → AV) → List AO → Prop} {C : List AO → Prop} {M : Nat → Bool} {i : Nat} {oi : Oper} {v : AV} (hi : ops[i]? = some oi) (himp : imp i = false)
    (hM : ∀ listed j, Closed ops listed → j ∈ Region.ready .any ops listed → listed.getD i true = false → M j = false) :
    ∀ (fuel : Nat) (Wt : Nat → List AO → Prop) (listed : Array Bool) (ts : Nat → AV) (H : List AO),
      (∀ j oj, ops[j]? = some oj → j ≠ i → listed.getD j true = false → M j = false → oi.apart ops oj = true ∧ (imp j = false → ∀ (ρ : Operand → AV) (H : List AO) (r : AR), aop P G oj.op ρ H = some r → C H → C r.H)) →
      Closed ops listed → i ∈ Region.ready .any ops listed → YR P G ops imp C i oi ts v → C H →
      anyG P G ops imp K fuel (fun j H => Wt j H ∧ (M j = false → C H)) (listed.setIfInBounds i true) (put ts oi.dst v) H → anyG P G ops imp K (fuel + 1) Wt listed ts H := by
  intro fuel
  induction fuel with
  | zero =>
    intro Wt listed ts H _ _ hr hy hC h
    refine ⟨fun h => (by rw [h] at hr; cases hr), fun j hj => ?_⟩
    by_cases hji : j = i
    · subst hji; exact hy.step hi hC ⟨fun e => (by rw [himp] at e; cases e), h⟩
    · have := ready_mono hj hji
      rw [h.1] at this
      cases this
  | succ fuel ih =>
    intro Wt listed ts H hfree hcl hr hy hC h
    refine ⟨fun h => (by rw [h] at hr; cases hr), fun j hj => ?_⟩
    by_cases hji : j = i
    · subst hji; exact hy.step hi hC ⟨fun e => (by rw [himp] at e; cases e), anyG_mono (fun _ H h => h.1) _ h⟩
    · have h1 := h.2 j (ready_mono hj hji)
      obtain ⟨hjun, oj, hoj, hall⟩ := mem_ready.1 hj
      have hMj := hM listed j hcl hj (mem_ready.1 hr).1
      obtain ⟨hap, hkp⟩ := hfree j oj hoj hji hjun hMj
      have h1 := stepR_mono (K' := fun ts' H' => (imp j = true → Wt j H' ∧ C H') ∧ anyG P G ops imp K fuel (fun j H => Wt j H ∧ (M j = false → C H)) ((listed.setIfInBounds i true).setIfInBounds j true) ts' H') h1 fun ts' H' h => ⟨fun e => ⟨(h.1 e).1, (h.1 e).2 hMj⟩, h.2⟩
      have h2 := stepG_put hoj hap hkp hC hy h1
      have hfree' : ∀ k ok, ops[k]? = some ok → k ≠ i → (listed.setIfInBounds j true).getD k true = false → M k = false → oi.apart ops ok = true ∧ (imp k = false → ∀ (ρ : Operand → AV) (H : List AO) (r : AR), aop P G ok.op ρ H = some r → C H → C r.H) := fun k ok hk hki hun hno => by
        refine hfree k ok hk hki ?_ hno
        by_cases hjk : j = k
        · subst hjk; exact hjun
        · rw [getD_set_ne true hjk] at hun; exact hun
      refine stepR_mono h2 fun ts' H' h3 => ⟨h3.2.1, ih Wt (listed.setIfInBounds j true) ts' H' hfree' (hcl.set hj) (ready_mono hr (Ne.symm hji)) h3.1.1 h3.1.2 ?_⟩
      rw [Array.setIfInBounds_comm _ _ hji]
      exact h3.2.2

def quiet1 : Cl → Bool
  | .scal => true
  | .addr => true
  | .read => true
  | _ => false

def ordG (ops : Array Oper) (imp : Nat → Bool) (ms : List Nat) : List (Nat × Bool) → Array Bool → Bool
  | [], listed => (Region.ready .any ops listed).isEmpty
  | (i, false) :: l, listed => Region.ready .any ops listed == [i] && ordG ops imp ms l (listed.setIfInBounds i true)
  | (i, true) :: l, listed => (Region.ready .any ops listed).contains i && !imp i && (match ops[i]? with
      | some oi => quiet1 (clOf oi.op) && (List.range ops.size).all fun j => j == i || listed.getD j true || (ms.getD j 0).testBit i || (match ops[j]? with
        | some oj => oi.apart ops oj && (imp j || compat (clOf oi.op) (clOf oj.op) false)
        | none => true)
      | none => false) && ordG ops imp ms l (listed.setIfInBounds i true)

theorem wat_keeps {oi oj : Oper} (hq : quiet1 (clOf oi.op) = true) (hc : compat (clOf oi.op) (clOf oj.op) false = true) {ts : Nat → AV} {v : AV} (ρ : Operand → AV) (H : List AO) (r : AR) (hr : aop P G oj.op ρ H = some r)
    (h : wat P G oi ts v H) : wat P G oi ts v r.H := by
  unfold wat at *
  split
  · trivial
  · rename_i hs
    rw [if_neg hs] at h
    cases e : clOf oi.op <;> rw [e] at hq hs hc <;> first
      | (cases hq; done)
      | exact absurd rfl hs
      | skip
    · have h1 := (keeps_shp (P := P) (G := G) (imp := fun _ => false) (H0 := H) (j := 0) hc).2 ρ H r hr (Shp.refl H)
      exact (aop_addr e h).2 _ h1
    · have h1 := (keeps_ext (P := P) (G := G) (imp := fun _ => false) (H0 := H) (j := 0) hc).2 ρ H r hr (Ext.refl H)
      exact (aop_read e h).2 _ h1

theorem clOf_value {f : Operand} {args : Array Operand} {tys : Array TypeId} : clOf (.call { callee := .value f, args := args, argTypes := tys }) = .call := rfl

theorem wat_yr {imp : Nat → Bool} {i : Nat} {o : Oper} {ts : Nat → AV} {v : AV} {H : List AO} (hq : quiet1 (clOf o.op) = true) (hw : wantedA ops ts o = true) (h : aop P G o.op (ev ts) H = some ⟨True, v, H⟩) :
    YR P G ops imp (wat P G o ts v) i o ts v ∧ wat P G o ts v H := by
  refine ⟨.inl ⟨hw, ?_⟩, ?_⟩
  · split
    · rename_i f args tys hop
      rw [hop, clOf_value] at hq
      cases hq
    · refine ⟨True, trivial, fun H' hC => ?_⟩
      unfold wat at hC
      split at hC
      · rename_i hs
        exact (aop_scal hs h).2 H'
      · exact hC
  · unfold wat
    split
    · trivial
    · exact h

theorem ordG_sound {imp : Nat → Bool} {K : (Nat → AV) → List AO → Prop} : ∀ (l : List (Nat × Bool)) (W : Nat → List AO → Prop) (listed : Array Bool) (ts : Nat → AV) (H : List AO), Closed ops listed → ordG ops imp (masks [] ops.toList) l listed = true →
    runG P G ops (wt ops) imp (fun _ => K) l W ts H → anyG P G ops imp K l.length W listed ts H
  | [], W, listed, ts, H, hcl, ho, h => ⟨by simpa [ordG] using ho, h⟩
  | (i, false) :: l, W, listed, ts, H, hcl, ho, h => by
    simp only [ordG, Bool.and_eq_true, beq_iff_eq] at ho
    refine ⟨fun e => (by rw [ho.1] at e; cases e), fun j hj => ?_⟩
    have hj' := hj
    rw [ho.1, List.mem_singleton] at hj'
    subst hj'
    have h : stepR P G ops imp j ts H fun ts' H' => (imp j = true → W j H') ∧ runG P G ops (wt ops) imp (fun _ => K) l W ts' H' := h
    exact stepR_mono h fun ts' H' h => ⟨h.1, ordG_sound l W _ ts' H' (hcl.set hj) ho.2 h.2⟩
  | (i, true) :: l, W, listed, ts, H, hcl, ho, h => by
    simp only [ordG, Bool.and_eq_true, Bool.not_eq_true'] at ho
    obtain ⟨⟨⟨hr, himp⟩, hc⟩, hl⟩ := ho
    have hr' : i ∈ Region.ready .any ops listed := by simpa using hr
    obtain ⟨o, ho, h⟩ := h
    rw [ho] at hc
    simp only [Bool.and_eq_true, List.all_eq_true] at hc
    obtain ⟨hq, hall⟩ := hc
    have hM := fun listed j hcl hj hi => masks_wait (ops := ops) (listed := listed) (i := i) (j := j) hcl hj hi
    have hfr : ∀ j oj, ops[j]? = some oj → j ≠ i → listed.getD j true = false → ((masks [] ops.toList).getD j 0).testBit i = false → o.apart ops oj = true ∧ (imp j = false → compat (clOf o.op) (clOf oj.op) false = true) := fun j oj hoj hji hun hw => by
      have hlt : j < ops.size := (Array.getElem?_eq_some_iff.1 hoj).1
      have := hall j (by simpa using hlt)
      simp only [Bool.or_eq_true, hoj, Bool.and_eq_true, hun, hw, beq_iff_eq, hji, Bool.false_eq_true, false_or, or_false] at this
      exact ⟨this.1, fun e => by simpa [e] using this.2⟩
    rcases h with ⟨hw, v, h1, h2⟩ | ⟨hw, h2⟩
    · obtain ⟨hy, hC⟩ := wat_yr (imp := imp) (i := i) hq hw h1
      refine anyG_first (M := fun j => ((masks [] ops.toList).getD j 0).testBit i) ho himp hM l.length W listed ts H (fun j oj hoj hji hun hm => ?_) hcl hr' hy hC (ordG_sound l _ _ _ H (hcl.set hr') hl h2)
      obtain ⟨a, b⟩ := hfr j oj hoj hji hun hm
      exact ⟨a, fun e ρ H r hr hC => wat_keeps hq (b e) ρ H r hr hC⟩
    · refine anyG_first (C := fun _ => True) (v := .un) (M := fun j => ((masks [] ops.toList).getD j 0).testBit i) ho himp hM l.length W listed ts H (fun j oj hoj hji hun hm => ⟨(hfr j oj hoj hji hun hm).1, fun _ _ _ _ _ _ => trivial⟩) hcl hr' (.inr ⟨hw, rfl⟩) trivial
        (anyG_mono (fun _ H h => ⟨h, fun _ => trivial⟩) _ (ordG_sound l _ _ _ H (hcl.set hr') hl h2))

def ordGB (ops : Array Oper) (imp : Nat → Bool) (l : List (Nat × Bool)) : Bool := l.length == ops.size && ordG ops imp (masks [] ops.toList) l (Array.replicate ops.size false)

theorem FW.drawG (hm : P.follows .mixedOrders = true) {imp : Nat → Bool} {l : List (Nat × Bool)} (hB : ordGB ops imp l = true) {rd : Option Nat} {n id : Nat} {k : List Item} {Q : Lv → (Nat → AV) → List AO → Prop} {ts : Nat → AV} {H : List AO}
    (h : runG P G ops (wt ops) imp (fun _ ts H => FW P G rd n k ts H Q) l (fun _ _ => True) ts H) : FW P G rd n (.code (.region id ops true) :: k) ts H Q := by
  simp only [ordGB, Bool.and_eq_true, beq_iff_eq] at hB
  refine FW.draw hm (imp := imp) ?_
  rw [← hB.1]
  refine anyG_any _ (ordG_sound l _ _ ts H (fun j o ho hl => ?_) (by rw [hB.1]; exact hB.2) h)
  exfalso
  rcases Nat.lt_or_ge j l.length with h1 | h1 <;> simp [Array.getD, h1] at hl

theorem runG_mono {ops : Array Oper} {M : Nat → Nat → Bool} {imp : Nat → Bool} {K : (Nat → List AO → Prop) → (Nat → AV) → List AO → Prop} (hK : ∀ W W' ts H, (∀ j H, W j H → W' j H) → K W ts H → K W' ts H) : ∀ {l : List (Nat × Bool)} {W W' : Nat → List AO → Prop} {ts : Nat → AV} {H : List AO}, (∀ j H, W j H → W' j H) → runG P G ops M imp K l W ts H → runG P G ops M imp K l W' ts H
  | [], W, W', ts, H, hW, h => hK _ _ _ _ hW h
  | (i, true) :: l, W, W', ts, H, hW, h => by
    obtain ⟨o, ho, h⟩ := h
    refine ⟨o, ho, ?_⟩
    rcases h with ⟨hw, v, h1, h2⟩ | ⟨hw, h2⟩
    · exact .inl ⟨hw, v, h1, runG_mono hK (fun j H h => ⟨hW j H h.1, h.2⟩) h2⟩
    · exact .inr ⟨hw, runG_mono hK hW h2⟩
  | (i, false) :: l, W, W', ts, H, hW, h => by
    have h : stepR P G ops imp i ts H fun ts' H' => (imp i = true → W i H') ∧ runG P G ops M imp K l W ts' H' := h
    exact stepR_mono h fun ts' H' h => ⟨fun e => hW _ _ (h.1 e), runG_mono hK hW h.2⟩

theorem aop_read1 {op : Op} (hq : quietC (clOf op) = true) {ρ : Operand → AV} {H : List AO} {ar : AR} (h : aop P G op ρ H = some ar) (hc : ar.c) : aop P G op ρ H = some ⟨True, ar.v, H⟩ ∧ ar.H = H := by
  have h1 := aop_quiet hq h
  refine ⟨?_, h1⟩
  rw [h]
  obtain ⟨c, v, H1⟩ := ar
  simp only at h1 hc
  subst h1
  rw [eq_true hc]

/-- An order: what may be read, then what alone is ready. -/
def ordGFind (ops : Array Oper) (imp : Nat → Bool) (ms : List Nat) : Nat → Array Bool → List (Nat × Bool)
  | 0, _ => []
  | f + 1, listed => match (Region.ready .any ops listed).find? fun i => (match ops[i]? with
      | some oi => !imp i && quiet1 (clOf oi.op) && (List.range ops.size).all fun j => j == i || listed.getD j true || (ms.getD j 0).testBit i || (match ops[j]? with
        | some oj => oi.apart ops oj && (imp j || compat (clOf oi.op) (clOf oj.op) false)
        | none => true)
      | none => false) with
    | some i => (i, true) :: ordGFind ops imp ms f (listed.setIfInBounds i true)
    | none => match Region.ready .any ops listed with
      | i :: _ => (i, false) :: ordGFind ops imp ms f (listed.setIfInBounds i true)
      | [] => []
def ordGGood (ops : Array Oper) (imp : Nat → Bool) : List (Nat × Bool) := ordGFind ops imp (masks [] ops.toList) ops.size (Array.replicate ops.size false)
end
end Go.Ab
