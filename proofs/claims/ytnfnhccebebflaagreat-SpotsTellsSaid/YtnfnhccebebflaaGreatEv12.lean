/- One of the texts that this claim stands on. -/
import Derived.Test.YtnfnhccebebflaaGreatEv9
set_option linter.unusedVariables false
set_option linter.unusedSimpArgs false
set_option linter.unusedVariables false
set_option linter.unusedSimpArgs false
namespace Go.Ab
section
variable {P : Program} {G : Gl} {ops : Array Oper}
def wat (P : Program) (G : Gl) (o : Oper) (ts : Nat → AV) (v : AV) : List AO → Prop :=
  if clOf o.op = .scal then fun _ => True else fun H' => aop P G o.op (ev ts) H' = some ⟨True, v, H'⟩
def wt (ops : Array Oper) (j i : Nat) : Bool := ((masks [] ops.toList).getD j 0).testBit i
variable (P G ops)
def runG (M : Nat → Nat → Bool) (imp : Nat → Bool) (K : (Nat → List AO → Prop) → (Nat → AV) → List AO → Prop) : List (Nat × Bool) → (Nat → List AO → Prop) → (Nat → AV) → List AO → Prop
  | [], W, ts, H => K W ts H
  | (i, true) :: l, W, ts, H => ∃ o, ops[i]? = some o ∧
      ((wantedA ops ts o = true ∧ ∃ v, aop P G o.op (ev ts) H = some ⟨True, v, H⟩ ∧ runG M imp K l (fun j H' => W j H' ∧ (M j i = false → wat P G o ts v H')) (put ts o.dst v) H) ∨
       (wantedA ops ts o = false ∧ runG M imp K l W (put ts o.dst .un) H))
  | (i, false) :: l, W, ts, H => stepR P G ops imp i ts H fun ts' H' => (imp i = true → W i H') ∧ runG M imp K l W ts' H'
def anyG (imp : Nat → Bool) (K : (Nat → AV) → List AO → Prop) : Nat → (Nat → List AO → Prop) → Array Bool → (Nat → AV) → List AO → Prop
  | 0, W, listed, ts, H => Region.ready .any ops listed = [] ∧ K ts H
  | f + 1, W, listed, ts, H => (Region.ready .any ops listed = [] → K ts H) ∧ ∀ i ∈ Region.ready .any ops listed, stepR P G ops imp i ts H fun ts' H' => (imp i = true → W i H') ∧ anyG imp K f W (listed.setIfInBounds i true) ts' H'
variable {P G ops}
theorem anyG_mono {imp : Nat → Bool} {K : (Nat → AV) → List AO → Prop} {W W' : Nat → List AO → Prop} (hW : ∀ j H, W j H → W' j H) : ∀ (f : Nat) {listed : Array Bool} {ts : Nat → AV} {H : List AO}, anyG P G ops imp K f W listed ts H → anyG P G ops imp K f W' listed ts H
  | 0, listed, ts, H, h => h
  | f + 1, listed, ts, H, h => ⟨h.1, fun i hi => stepR_mono (h.2 i hi) fun ts' H' h => ⟨fun e => hW _ _ (h.1 e), anyG_mono hW f h.2⟩⟩
theorem anyG_any {imp : Nat → Bool} {K : (Nat → AV) → List AO → Prop} {W : Nat → List AO → Prop} : ∀ (f : Nat) {listed : Array Bool} {ts : Nat → AV} {H : List AO}, anyG P G ops imp K f W listed ts H → anyR P G ops imp K f listed ts H
  | 0, listed, ts, H, h => h
  | f + 1, listed, ts, H, h => ⟨h.1, fun i hi => stepR_mono (h.2 i hi) fun ts' H' h => anyG_any f h.2⟩
theorem stepG_put {imp : Nat → Bool} {C Wt : List AO → Prop} {i j : Nat} {oi oj : Oper} {ts : Nat → AV} {v : AV} {H : List AO} {K : (Nat → AV) → List AO → Prop} (hj : ops[j]? = some oj) (hap : oi.apart ops oj = true)
    (hk : imp j = false → ∀ (ρ : Operand → AV) (H : List AO) (r : AR), aop P G oj.op ρ H = some r → C H → C r.H) (hC : C H) (hy : YR P G ops imp C i oi ts v)
    (h : stepR P G ops imp j (put ts oi.dst v) H fun ts' H' => (imp j = true → Wt H' ∧ C H') ∧ K ts' H') :
    stepR P G ops imp j ts H fun ts' H' => (YR P G ops imp C i oi ts' v ∧ C H') ∧ (imp j = true → Wt H') ∧ K (put ts' oi.dst v) H' := by
  obtain ⟨h1, h2, h3⟩ := Oper.apart_spec hap
  unfold stepR at *
  simp only [hj] at *
  rw [wantedA_put h1] at h
  have he := ev_put_op (ts := ts) (v := v) h1
  split
  · rename_i hw
    simp only [hw, if_true] at h
    split
    · rename_i f args tys hop
      rw [hop] at he
      have e1 : ev (put ts oi.dst v) f = ev ts f := he f (by simp [Op.operands, Call.operands])
      have e2 : args.toList.map (ev (put ts oi.dst v)) = args.toList.map (ev ts) := List.map_congr_left fun x hx => he x (by simp only [Op.operands, Call.operands]; simp at hx ⊢; exact .inr hx)
      simp only [hop, e1, e2] at h
      split
      · rename_i hi
        rw [if_pos hi] at h
        refine ACV.mono h fun u H' hK => ?_
        refine ⟨⟨hy.put u h3, (hK.1 hi).2⟩, fun _ => (hK.1 hi).1, ?_⟩
        rw [← put_comm h2]; exact hK.2
      · rename_i hi
        rw [if_neg hi] at h
        obtain ⟨u, g1, g2⟩ := h
        exact ⟨u, g1, ⟨hy.put u h3, hC⟩, fun e => absurd e hi, by rw [← put_comm h2]; exact g2.2⟩
    · rename_i hop
      split at h
      · rename_i hop'; exact absurd hop' (hop _ _ _)
      · obtain ⟨r, g1, g2, g3, g4⟩ := h
        rw [aop_congr he] at g1
        refine ⟨r, g1, g2, ⟨hy.put r.v h3, ?_⟩, fun e => (g3 e).1, by rw [← put_comm h2]; exact g4⟩
        cases hij : imp j with
        | true => exact (g3 hij).2
        | false => exact hk hij _ _ _ g1 hC
  · rename_i hw
    rw [if_neg hw] at h
    exact ⟨⟨hy.put _ h3, hC⟩, fun e => (h.1 e).1, by rw [← put_comm h2]; exact h.2⟩
theorem anyG_first {imp : Nat → Bool} {K : (Nat → AV) → List AO → Prop} {C : List AO → Prop} {M : Nat → Bool} {i : Nat} {oi : Oper} {v : AV} (hi : ops[i]? = some oi) (himp : imp i = false)
    (hM : ∀ listed j, Closed ops listed → j ∈ Region.ready .any ops listed → listed.getD i true = false → M j = false) :
    ∀ (fuel : Nat) (Wt : Nat → List AO → Prop) (listed : Array Bool) (ts : Nat → AV) (H : List AO),
      (∀ j oj, ops[j]? = some oj → j ≠ i → listed.getD j true = false → M j = false → oi.apart ops oj = true ∧ (imp j = false → ∀ (ρ : Operand → AV) (H : List AO) (r : AR), aop P G oj.op ρ H = some r → C H → C r.H)) →
      Closed ops listed → i ∈ Region.ready .any ops listed → YR P G ops imp C i oi ts v → C H →
      anyG P G ops imp K fuel (fun j H => Wt j H ∧ (M j = false → C H)) (listed.setIfInBounds i true) (put ts oi.dst v) H → anyG P G ops imp K (fuel + 1) Wt listed ts H := by
  intro fuel
  induction fuel with
  | zero =>
    intro Wt listed ts H _ _ hr hy hC h
    refine ⟨fun h => (by rw [h] at hr; cases hr), fun j hj => ?_⟩
    by_cases hji : j = i
    · subst hji; exact hy.step hi hC ⟨fun e => (by rw [himp] at e; cases e), h⟩
    · have := ready_mono hj hji
      rw [h.1] at this
      cases this
  | succ fuel ih =>
    intro Wt listed ts H hfree hcl hr hy hC h
    refine ⟨fun h => (by rw [h] at hr; cases hr), fun j hj => ?_⟩
    by_cases hji : j = i
    · subst hji; exact hy.step hi hC ⟨fun e => (by rw [himp] at e; cases e), anyG_mono (fun _ H h => h.1) _ h⟩
    · have h1 := h.2 j (ready_mono hj hji)
      obtain ⟨hjun, oj, hoj, hall⟩ := mem_ready.1 hj
      have hMj := hM listed j hcl hj (mem_ready.1 hr).1
      obtain ⟨hap, hkp⟩ := hfree j oj hoj hji hjun hMj
      have h1 := stepR_mono (K' := fun ts' H' => (imp j = true → Wt j H' ∧ C H') ∧ anyG P G ops imp K fuel (fun j H => Wt j H ∧ (M j = false → C H)) ((listed.setIfInBounds i true).setIfInBounds j true) ts' H') h1 fun ts' H' h => ⟨fun e => ⟨(h.1 e).1, (h.1 e).2 hMj⟩, h.2⟩
      have h2 := stepG_put hoj hap hkp hC hy h1
      have hfree' : ∀ k ok, ops[k]? = some ok → k ≠ i → (listed.setIfInBounds j true).getD k true = false → M k = false → oi.apart ops ok = true ∧ (imp k = false → ∀ (ρ : Operand → AV) (H : List AO) (r : AR), aop P G ok.op ρ H = some r → C H → C r.H) := fun k ok hk hki hun hno => by
        refine hfree k ok hk hki ?_ hno
        by_cases hjk : j = k
        · subst hjk; exact hjun
        · rw [getD_set_ne true hjk] at hun; exact hun
      refine stepR_mono h2 fun ts' H' h3 => ⟨h3.2.1, ih Wt (listed.setIfInBounds j true) ts' H' hfree' (hcl.set hj) (ready_mono hr (Ne.symm hji)) h3.1.1 h3.1.2 ?_⟩
      rw [Array.setIfInBounds_comm _ _ hji]
      exact h3.2.2
def quiet1 : Cl → Bool
  | .scal => true
  | .addr => true
  | .read => true
  | _ => false
def ordG (ops : Array Oper) (imp : Nat → Bool) (ms : List Nat) : List (Nat × Bool) → Array Bool → Bool
  | [], listed => (Region.ready .any ops listed).isEmpty
  | (i, false) :: l, listed => Region.ready .any ops listed == [i] && ordG ops imp ms l (listed.setIfInBounds i true)
  | (i, true) :: l, listed => (Region.ready .any ops listed).contains i && !imp i && (match ops[i]? with
      | some oi => quiet1 (clOf oi.op) && (List.range ops.size).all fun j => j == i || listed.getD j true || (ms.getD j 0).testBit i || (match ops[j]? with
        | some oj => oi.apart ops oj && (imp j || compat (clOf oi.op) (clOf oj.op) false)
        | none => true)
      | none => false) && ordG ops imp ms l (listed.setIfInBounds i true)
theorem wat_keeps {oi oj : Oper} (hq : quiet1 (clOf oi.op) = true) (hc : compat (clOf oi.op) (clOf oj.op) false = true) {ts : Nat → AV} {v : AV} (ρ : Operand → AV) (H : List AO) (r : AR) (hr : aop P G oj.op ρ H = some r)
    (h : wat P G oi ts v H) : wat P G oi ts v r.H := by
  unfold wat at *
  split
  · trivial
  · rename_i hs
    rw [if_neg hs] at h
    cases e : clOf oi.op <;> rw [e] at hq hs hc <;> first
      | (cases hq; done)
      | exact absurd rfl hs
      | skip
    · have h1 := (keeps_shp (P := P) (G := G) (imp := fun _ => false) (H0 := H) (j := 0) hc).2 ρ H r hr (Shp.refl H)
      exact (aop_addr e h).2 _ h1
    · have h1 := (keeps_ext (P := P) (G := G) (imp := fun _ => false) (H0 := H) (j := 0) hc).2 ρ H r hr (Ext.refl H)
      exact (aop_read e h).2 _ h1
theorem clOf_value {f : Operand} {args : Array Operand} {tys : Array TypeId} : clOf (.call { callee := .value f, args := args, argTypes := tys }) = .call := rfl
theorem wat_yr {imp : Nat → Bool} {i : Nat} {o : Oper} {ts : Nat → AV} {v : AV} {H : List AO} (hq : quiet1 (clOf o.op) = true) (hw : wantedA ops ts o = true) (h : aop P G o.op (ev ts) H = some ⟨True, v, H⟩) :
    YR P G ops imp (wat P G o ts v) i o ts v ∧ wat P G o ts v H := by
  refine ⟨.inl ⟨hw, ?_⟩, ?_⟩
  · split
    · rename_i f args tys hop
      rw [hop, clOf_value] at hq
      cases hq
    · refine ⟨True, trivial, fun H' hC => ?_⟩
      unfold wat at hC
      split at hC
      · rename_i hs
        exact (aop_scal hs h).2 H'
      · exact hC
  · unfold wat
    split
    · trivial
    · exact h
theorem ordG_sound {imp : Nat → Bool} {K : (Nat → AV) → List AO → Prop} : ∀ (l : List (Nat × Bool)) (W : Nat → List AO → Prop) (listed : Array Bool) (ts : Nat → AV) (H : List AO), Closed ops listed → ordG ops imp (masks [] ops.toList) l listed = true →
    runG P G ops (wt ops) imp (fun _ => K) l W ts H → anyG P G ops imp K l.length W listed ts H
  | [], W, listed, ts, H, hcl, ho, h => ⟨by simpa [ordG] using ho, h⟩
  | (i, false) :: l, W, listed, ts, H, hcl, ho, h => by
    simp only [ordG, Bool.and_eq_true, beq_iff_eq] at ho
    refine ⟨fun e => (by rw [ho.1] at e; cases e), fun j hj => ?_⟩
    have hj' := hj
    rw [ho.1, List.mem_singleton] at hj'
    subst hj'
    have h : stepR P G ops imp j ts H fun ts' H' => (imp j = true → W j H') ∧ runG P G ops (wt ops) imp (fun _ => K) l W ts' H' := h
    exact stepR_mono h fun ts' H' h => ⟨h.1, ordG_sound l W _ ts' H' (hcl.set hj) ho.2 h.2⟩
  | (i, true) :: l, W, listed, ts, H, hcl, ho, h => by
    simp only [ordG, Bool.and_eq_true, Bool.not_eq_true'] at ho
    obtain ⟨⟨⟨hr, himp⟩, hc⟩, hl⟩ := ho
    have hr' : i ∈ Region.ready .any ops listed := by simpa using hr
    obtain ⟨o, ho, h⟩ := h
    rw [ho] at hc
    simp only [Bool.and_eq_true, List.all_eq_true] at hc
    obtain ⟨hq, hall⟩ := hc
    have hM := fun listed j hcl hj hi => masks_wait (ops := ops) (listed := listed) (i := i) (j := j) hcl hj hi
    have hfr : ∀ j oj, ops[j]? = some oj → j ≠ i → listed.getD j true = false → ((masks [] ops.toList).getD j 0).testBit i = false → o.apart ops oj = true ∧ (imp j = false → compat (clOf o.op) (clOf oj.op) false = true) := fun j oj hoj hji hun hw => by
      have hlt : j < ops.size := (Array.getElem?_eq_some_iff.1 hoj).1
      have := hall j (by simpa using hlt)
      simp only [Bool.or_eq_true, hoj, Bool.and_eq_true, hun, hw, beq_iff_eq, hji, Bool.false_eq_true, false_or, or_false] at this
      exact ⟨this.1, fun e => by simpa [e] using this.2⟩
    rcases h with ⟨hw, v, h1, h2⟩ | ⟨hw, h2⟩
    · obtain ⟨hy, hC⟩ := wat_yr (imp := imp) (i := i) hq hw h1
      refine anyG_first (M := fun j => ((masks [] ops.toList).getD j 0).testBit i) ho himp hM l.length W listed ts H (fun j oj hoj hji hun hm => ?_) hcl hr' hy hC (ordG_sound l _ _ _ H (hcl.set hr') hl h2)
      obtain ⟨a, b⟩ := hfr j oj hoj hji hun hm
      exact ⟨a, fun e ρ H r hr hC => wat_keeps hq (b e) ρ H r hr hC⟩
    · refine anyG_first (C := fun _ => True) (v := .un) (M := fun j => ((masks [] ops.toList).getD j 0).testBit i) ho himp hM l.length W listed ts H (fun j oj hoj hji hun hm => ⟨(hfr j oj hoj hji hun hm).1, fun _ _ _ _ _ _ => trivial⟩) hcl hr' (.inr ⟨hw, rfl⟩) trivial
        (anyG_mono (fun _ H h => ⟨h, fun _ => trivial⟩) _ (ordG_sound l _ _ _ H (hcl.set hr') hl h2))
def ordGB (ops : Array Oper) (imp : Nat → Bool) (l : List (Nat × Bool)) : Bool := l.length == ops.size && ordG ops imp (masks [] ops.toList) l (Array.replicate ops.size false)
theorem FW.drawG (hm : P.follows .mixedOrders = true) {imp : Nat → Bool} {l : List (Nat × Bool)} (hB : ordGB ops imp l = true) {rd : Option Nat} {n id : Nat} {k : List Item} {Q : Lv → (Nat → AV) → List AO → Prop} {ts : Nat → AV} {H : List AO}
    (h : runG P G ops (wt ops) imp (fun _ ts H => FW P G rd n k ts H Q) l (fun _ _ => True) ts H) : FW P G rd n (.code (.region id ops true) :: k) ts H Q := by
  simp only [ordGB, Bool.and_eq_true, beq_iff_eq] at hB
  refine FW.draw hm (imp := imp) ?_
  rw [← hB.1]
  refine anyG_any _ (ordG_sound l _ _ ts H (fun j o ho hl => ?_) (by rw [hB.1]; exact hB.2) h)
  exfalso
  rcases Nat.lt_or_ge j l.length with h1 | h1 <;> simp [Array.getD, h1] at hl
theorem aop_read1 {op : Op} (hq : quietC (clOf op) = true) {ρ : Operand → AV} {H : List AO} {ar : AR} (h : aop P G op ρ H = some ar) (hc : ar.c) : aop P G op ρ H = some ⟨True, ar.v, H⟩ ∧ ar.H = H := by
  have h1 := aop_quiet hq h
  refine ⟨?_, h1⟩
  rw [h]
  obtain ⟨c, v, H1⟩ := ar
  simp only at h1 hc
  subst h1
  rw [eq_true hc]
end
end Go.Ab

set_option linter.unusedVariables false
set_option linter.unusedSimpArgs false
namespace Go.Ab
section
variable {P : Program} {G : Gl} {ops : Array Oper}
theorem stepR_op {imp : Nat → Bool} {i : Nat} {ts : Nat → AV} {H : List AO} {K : (Nat → AV) → List AO → Prop} (h : stepR P G ops imp i ts H K) : ∃ o, ops[i]? = some o ∧
    ((wantedA ops ts o = true ∧ isDefer o.op = false ∧ ∀ n, OpS P G n o ts H (fun v H' => K (put ts o.dst v) H')) ∨ (wantedA ops ts o = false ∧ K (put ts o.dst .un) H)) := by
  unfold stepR at h
  split at h
  · exact h.elim
  · rename_i o ho
    refine ⟨o, ho, ?_⟩
    split at h
    · rename_i hw
      split at h
      · rename_i f args tys hop
        refine .inl ⟨hw, by rw [hop]; rfl, fun n => OpS.call hop ?_⟩
        split at h
        · exact h
        · obtain ⟨v, h1, h2⟩ := h; exact h1 _ _ h2
      · obtain ⟨r, h1, h2, h3⟩ := h
        exact .inl ⟨hw, aop_defer h1, fun n => (aop_sound h1 h2).toS h3⟩
    · rename_i hw
      exact .inr ⟨by simpa using hw, h⟩
def alOf (ops : Array Oper) (a : Nat) : Option (Nat × TypeId) := match ops[a]? with
  | some o => match o.op, o.dst, o.guard with
    | .alloc t, some d, none => if o.after.all (fun e => !(Region.binds .any e)) = true then some (d, t) else none
    | _, _, _ => none
  | none => none
def ZOk (cs : List AV) (z : Array Value) : Prop := z.size = cs.length ∧ ∀ (w : World) (E : En) (i : Nat), i < cs.length → (cs.getD i .un).isCell = true ∧ RepV w E (cs.getD i .un) (z.getD i undef)
structure Pend (P : Program) (ops : Array Oper) (lo : Nat) (B : Nat → Option Nat) (H : List AO) (E : En) (w : World) (tmps told : Array Value) : Prop where
  blk : ∀ a b, B a = some b → ∃ d t cs z, alOf ops a = some (d, t) ∧ zeroCells P t = some cs ∧ ZOk cs z ∧ w.heap[b]? = some (.cells z t (0, 0)) ∧ lo ≤ b ∧ ¬ Live H E b ∧ ¬ E.fro b ∧
    tmps.getD d undef = .pointer (some ⟨b, 0, none⟩) ∧ d < tmps.size
  inj : ∀ a a' b, B a = some b → B a' = some b → a = a'
  dis : ∀ a a' b b' d t t', B a = some b → B a' = some b' → alOf ops a = some (d, t) → alOf ops a' = some (d, t') → a = a'
  size : told.size = tmps.size
  same : ∀ i, (∀ a b d t, B a = some b → alOf ops a = some (d, t) → i ≠ d) → tmps.getD i undef = told.getD i undef
theorem Pend.grow {lo : Nat} {B : Nat → Option Nat} {H H' : List AO} {E E' : En} {w w' : World} {tmps told : Array Value} (h : Pend P ops lo B H E w tmps told) (g : Grow H E w H' E' w') : Pend P ops lo B H' E' w' tmps told :=
  ⟨fun a b hb => by
    obtain ⟨d, t, cs, z, h1, h2, h3, h4, h5, h6, h7, h8, h9⟩ := h.blk a b hb
    have hlt := heap_lt h4
    refine ⟨d, t, cs, z, h1, h2, h3, by rw [g.same b hlt h6]; exact h4, h5, fun hl => ?_, fun hf => ?_, h8, h9⟩
    · rcases g.newlive b hl with h | h
      · exact h6 h
      · omega
    · rcases g.newfro b hf with h | h | h
      · exact h7 h
      · omega
      · exact h6 h, h.inj, h.dis, h.size, h.same⟩
theorem getD_cput {tmps : Array Value} {dst : Option Nat} {r : Value} {i : Nat} (h : dst ≠ some i) : (cput tmps dst r).getD i undef = tmps.getD i undef := by
  cases dst with
  | none => rfl
  | some d =>
    show (tmps.setIfInBounds d r).getD i undef = _
    rw [Array.getD_eq_getD_getElem?, Array.getD_eq_getD_getElem?, Array.getElem?_setIfInBounds_ne (fun e => h (by rw [e]))]
theorem size_cput {tmps : Array Value} {dst : Option Nat} {r : Value} : (cput tmps dst r).size = tmps.size := by cases dst <;> simp [cput]
theorem getD_cput_same {tmps : Array Value} {d : Nat} {r : Value} (h : d < tmps.size) : (cput tmps (some d) r).getD d undef = r := by
  show (tmps.setIfInBounds d r).getD d undef = _
  simp [Array.getD, h]
theorem Pend.put {lo : Nat} {B : Nat → Option Nat} {H : List AO} {E : En} {w : World} {tmps told : Array Value} (h : Pend P ops lo B H E w tmps told) {dst : Option Nat} (hd : ∀ a b d t, B a = some b → alOf ops a = some (d, t) → dst ≠ some d)
    (r : Value) : Pend P ops lo B H E w (cput tmps dst r) (cput told dst r) :=
  ⟨fun a b hb => by
    obtain ⟨d, t, cs, z, h1, h2, h3, h4, h5, h6, h7, h8, h9⟩ := h.blk a b hb
    exact ⟨d, t, cs, z, h1, h2, h3, h4, h5, h6, h7, by rw [getD_cput (hd a b d t hb h1)]; exact h8, by rw [size_cput]; exact h9⟩, h.inj, h.dis, by rw [size_cput, size_cput]; exact h.size, fun i hi => by
    by_cases e : dst = some i
    · subst e
      by_cases hl : i < tmps.size
      · rw [getD_cput_same hl, getD_cput_same (by rw [h.size]; exact hl)]
      · show (tmps.setIfInBounds i r).getD i undef = (told.setIfInBounds i r).getD i undef
        have hl2 : ¬ i < told.size := by rw [h.size]; exact hl
        simp [Array.getD, hl, hl2]
    · rw [getD_cput e, getD_cput e]; exact h.same i hi⟩
theorem Pend.more {lo : Nat} {B : Nat → Option Nat} {H : List AO} {E : En} {w : World} {tmps told : Array Value} (hR : RelH G w E H) (h : Pend P ops lo B H E w tmps told) (hlo : lo ≤ w.heap.size) {a d : Nat} {t : TypeId} {cs : List AV} {z : Array Value}
    (ha : alOf ops a = some (d, t)) (hBa : B a = none) (hz : zeroCells P t = some cs) (hzo : ZOk cs z) (hd : d < tmps.size) (hdis : ∀ a' b' t', B a' = some b' → alOf ops a' = some (d, t') → False) :
    Pend P ops lo (fun j => if j = a then some w.heap.size else B j) H E (w.alloc (.cells z t)) (cput tmps (some d) (.pointer (some ⟨w.heap.size, 0, none⟩))) told := by
  have hg := (rel_alloc_plain hR (Obj.cells z t (0, 0))).2
  have hg' := h.grow hg
  have hnl : ¬ Live H E w.heap.size := fun hl => by have := Live.lt hR hl; omega
  have hnf : ¬ E.fro w.heap.size := fun hf => by
    obtain ⟨c, t, f, hc⟩ := hR.frob _ hf
    have := heap_lt hc
    omega
  refine ⟨fun j b hb => ?_, fun j j' b hb hb' => ?_, fun j j' b b' d' t1 t2 hb hb' h1 h2 => ?_, by rw [size_cput]; exact h.size, fun i hi => ?_⟩
  · by_cases e : j = a
    · subst e
      simp only [if_true] at hb
      cases hb
      exact ⟨d, t, cs, z, ha, hz, hzo, getElem?_alloc_new w _, hlo, hnl, hnf, getD_cput_same hd, by rw [size_cput]; exact hd⟩
    · simp only [if_neg e] at hb
      obtain ⟨d', t', cs', z', h1, h2, h3, h4, h5, h6, h7, h8, h9⟩ := hg'.blk j b hb
      refine ⟨d', t', cs', z', h1, h2, h3, h4, h5, h6, h7, ?_, by rw [size_cput]; exact h9⟩
      rw [getD_cput (fun e2 => ?_)]; exact h8
      cases e2
      exact hdis j b t' hb h1
  · by_cases e : j = a <;> by_cases e' : j' = a
    · rw [e, e']
    · simp only [if_pos e, if_neg e'] at hb hb'
      cases hb
      obtain ⟨_, _, _, _, _, _, _, h4, _⟩ := h.blk j' _ hb'
      have := heap_lt h4
      omega
    · simp only [if_neg e, if_pos e'] at hb hb'
      cases hb'
      obtain ⟨_, _, _, _, _, _, _, h4, _⟩ := h.blk j _ hb
      have := heap_lt h4
      omega
    · simp only [if_neg e, if_neg e'] at hb hb'
      exact h.inj j j' b hb hb'
  · by_cases e : j = a <;> by_cases e' : j' = a
    · rw [e, e']
    · simp only [if_neg e'] at hb'
      subst e
      rw [ha] at h1; cases h1
      exact (hdis j' b' t2 hb' h2).elim
    · simp only [if_neg e] at hb
      subst e'
      rw [ha] at h2; cases h2
      exact (hdis j b t1 hb h1).elim
    · simp only [if_neg e, if_neg e'] at hb hb'
      exact h.dis j j' b b' d' t1 t2 hb hb' h1 h2
  · have hid : i ≠ d := hi a w.heap.size d t (by simp) ha
    rw [getD_cput (fun e => hid (by cases e; rfl))]
    refine h.same i fun a' b' d' t' hb' h1 => ?_
    by_cases e : a' = a
    · subst e; rw [hBa] at hb'; cases hb'
    · exact hi a' b' d' t' (by simp [e, hb']) h1
def isSelect : Op → Bool
  | .select _ _ => true
  | _ => false
section
variable {rd : Option Nat} {n : Nat} {k : List Item} {Q : Lv → (Nat → AV) → List AO → Prop} {imp : Nat → Bool} {p q : Nat}
theorem getD_set_self {listed : Array Bool} {i : Nat} (d : Bool) (h : i < listed.size) : (listed.setIfInBounds i true).getD i d = true := by
  simp [Array.getD, h]
def ones (A : List Nat) : List (Nat × Bool) := A.map fun a => (a, false)
end
end
end Go.Ab

set_option linter.unusedVariables false
set_option linter.unusedSimpArgs false
namespace Go.Ab
section
variable {P : Program} {G : Gl} {ops : Array Oper}
def anyX (P : Program) (G : Gl) (ops : Array Oper) (imp : Nat → Bool) (req : List Nat) (Ex : (Nat → List AO → Prop) → Array Bool → (Nat → AV) → List AO → Prop) : Nat → (Nat → List AO → Prop) → Array Bool → (Nat → AV) → List AO → Prop
  | 0, W, listed, ts, H => Region.ready .any ops listed = [] ∧ ((∀ i ∈ req, listed.getD i true = true) → Ex W listed ts H)
  | f + 1, W, listed, ts, H => ((∀ i ∈ req, listed.getD i true = true) → Ex W listed ts H) ∧
      ∀ i ∈ Region.ready .any ops listed, stepR P G ops imp i ts H fun ts' H' => (imp i = true → W i H') ∧ anyX P G ops imp req Ex f W (listed.setIfInBounds i true) ts' H'
theorem anyX.exit {imp : Nat → Bool} {req : List Nat} {Ex : (Nat → List AO → Prop) → Array Bool → (Nat → AV) → List AO → Prop} {f : Nat} {W : Nat → List AO → Prop} {listed : Array Bool} {ts : Nat → AV} {H : List AO} (h : anyX P G ops imp req Ex f W listed ts H)
    (hr : ∀ i ∈ req, listed.getD i true = true) : Ex W listed ts H := by
  cases f with
  | zero => exact h.2 hr
  | succ f => exact h.1 hr
def unl (p : Nat) (listed : Array Bool) : Nat := ((List.range p).filter fun i => !listed.getD i true).length
theorem count_one {f g : Nat → Bool} {i : Nat} (hfi : f i = true) (hgi : g i = false) (h : ∀ j, j ≠ i → f j = g j) : ∀ (l : List Nat), l.Nodup → i ∈ l → (l.filter f).length = (l.filter g).length + 1
  | [], _, hi => by cases hi
  | a :: l, hn, hi => by
    rw [List.nodup_cons] at hn
    by_cases e : a = i
    · subst e
      rw [List.filter_cons_of_pos hfi, List.filter_cons_of_neg (by simp [hgi])]
      have : l.filter f = l.filter g := List.filter_congr fun j hj => h j fun e => hn.1 (by rw [← e]; exact hj)
      rw [this]; rfl
    · have hil : i ∈ l := by
        rcases List.mem_cons.1 hi with h | h
        · exact absurd h.symm e
        · exact h
      have ih := count_one hfi hgi h l hn.2 hil
      have hfa := h a e
      cases hf : f a with
      | true => rw [List.filter_cons_of_pos hf, List.filter_cons_of_pos (by rw [← hfa]; exact hf), List.length_cons, List.length_cons, ih]
      | false => rw [List.filter_cons_of_neg (by simp [hf]), List.filter_cons_of_neg (by simp [← hfa, hf]), ih]
theorem unl_set {p : Nat} {listed : Array Bool} {i : Nat} (hi : i < p) (hsz : listed.size = p) (hu : listed.getD i true = false) : unl p listed = unl p (listed.setIfInBounds i true) + 1 :=
  count_one (i := i) (by simp [hu]) (by simp [getD_set_self true (show i < listed.size by omega)]) (fun j hj => by rw [getD_set_ne true (Ne.symm hj)]) _ List.nodup_range (List.mem_range.2 hi)
end
end Go.Ab

set_option linter.unusedVariables false
set_option linter.unusedSimpArgs false
namespace Go.Ab
section
variable {P : Program} {G : Gl} {n : Nat} {o : Oper} {ts : Nat → AV} {H : List AO}
def MadeAt (w : World) (E : En) (ao : AO) (mk : Nat → AV) (obj : Obj) (sz : Nat) (q : Value) : Prop :=
  ∀ (w' : World) (E' : En) (id : Nat), Mono w E w' E' → w'.heap[w.heap.size]? = some obj → E'.loc id = some ⟨w.heap.size, 0, sz⟩ → RelO w' E' ao ⟨w.heap.size, 0, sz⟩ ∧ RepV w' E' (mk id) q
end
end Go.Ab

set_option linter.unusedVariables false
set_option linter.unusedSimpArgs false
namespace Go.Ab
section
variable {P : Program} {G : Gl} {ops : Array Oper} {n : Nat}
def FrAt (P : Program) (G : Gl) (o : Oper) (ts : Nat → AV) (d : Nat) (ao : AO) (mk : Nat → AV) : Prop :=
  o.dst = some d ∧ o.guard = none ∧ clOf o.op = .alloc ∧ ∃ c : Prop, c ∧ ∀ H', aop P G o.op (ev ts) H' = some ⟨c, mk H'.length, H' ++ [ao]⟩
theorem FrAt.congr {o : Oper} {ts ts' : Nat → AV} {d : Nat} {ao : AO} {mk : Nat → AV} (h : FrAt P G o ts d ao mk) (he : ∀ x ∈ o.op.operands, ev ts' x = ev ts x) : FrAt P G o ts' d ao mk := by
  obtain ⟨h1, h2, h3, c, hc, h4⟩ := h
  exact ⟨h1, h2, h3, c, hc, fun H' => by rw [aop_congr he]; exact h4 H'⟩
def MadeB (w : World) (E : En) (b : Nat) (ao : AO) (mk : Nat → AV) (obj : Obj) (sz : Nat) (q : Value) : Prop :=
  ∀ (w' : World) (E' : En) (id : Nat), Mono w E w' E' → w'.heap[b]? = some obj → E'.loc id = some ⟨b, 0, sz⟩ → RelO w' E' ao ⟨b, 0, sz⟩ ∧ RepV w' E' (mk id) q
structure PendF (P : Program) (G : Gl) (ops : Array Oper) (lo : Nat) (B : Nat → Option Nat) (ts : Nat → AV) (H : List AO) (E : En) (w : World) (tmps told : Array Value) : Prop where
  blk : ∀ a b, B a = some b → ∃ o d ao mk vs t sz q, ops[a]? = some o ∧ FrAt P G o ts d ao mk ∧ w.heap[b]? = some (.cells vs t (0, 0)) ∧ lo ≤ b ∧ ¬ Live H E b ∧ ¬ E.fro b ∧
    tmps.getD d undef = q ∧ d < tmps.size ∧ MadeB w E b ao mk (.cells vs t (0, 0)) sz q
  inj : ∀ a a' b, B a = some b → B a' = some b → a = a'
  size : told.size = tmps.size
  same : ∀ i, (∀ a b o, B a = some b → ops[a]? = some o → o.dst ≠ some i) → tmps.getD i undef = told.getD i undef
theorem PendF.grow {lo : Nat} {B : Nat → Option Nat} {ts : Nat → AV} {H H' : List AO} {E E' : En} {w w' : World} {tmps told : Array Value} (h : PendF P G ops lo B ts H E w tmps told) (g : Grow H E w H' E' w') : PendF P G ops lo B ts H' E' w' tmps told :=
  ⟨fun a b hb => by
    obtain ⟨o, d, ao, mk, vs, t, sz, q, h1, h2, h4, h5, h6, h7, h8, h9, h10⟩ := h.blk a b hb
    have hlt := heap_lt h4
    refine ⟨o, d, ao, mk, vs, t, sz, q, h1, h2, by rw [g.same b hlt h6]; exact h4, h5, fun hl => ?_, fun hf => ?_, h8, h9, fun w2 E2 id hm => h10 w2 E2 id (g.mono.trans hm)⟩
    · rcases g.newlive b hl with h | h
      · exact h6 h
      · omega
    · rcases g.newfro b hf with h | h | h
      · exact h7 h
      · omega
      · exact h6 h, h.inj, h.size, h.same⟩
theorem PendF.put {lo : Nat} {B : Nat → Option Nat} {ts : Nat → AV} {H : List AO} {E : En} {w : World} {tmps told : Array Value} (h : PendF P G ops lo B ts H E w tmps told) {dst : Option Nat} {v : AV}
    (hd : ∀ a b o, B a = some b → ops[a]? = some o → (∀ e, o.dst = some e → dst ≠ some e) ∧ ∀ x ∈ o.op.operands, ev (Go.Ab.put ts dst v) x = ev ts x) (r : Value) : PendF P G ops lo B (Go.Ab.put ts dst v) H E w (cput tmps dst r) (cput told dst r) :=
  ⟨fun a b hb => by
    obtain ⟨o, d, ao, mk, vs, t, sz, q, h1, h2, h4, h5, h6, h7, h8, h9, h10⟩ := h.blk a b hb
    obtain ⟨k1, k2⟩ := hd a b o hb h1
    exact ⟨o, d, ao, mk, vs, t, sz, q, h1, h2.congr k2, h4, h5, h6, h7, by rw [getD_cput (k1 d h2.1)]; exact h8, by rw [size_cput]; exact h9, h10⟩, h.inj, by rw [size_cput, size_cput]; exact h.size, fun i hi => by
    by_cases e : dst = some i
    · subst e
      by_cases hl : i < tmps.size
      · rw [getD_cput_same hl, getD_cput_same (by rw [h.size]; exact hl)]
      · show (tmps.setIfInBounds i r).getD i undef = (told.setIfInBounds i r).getD i undef
        have hl2 : ¬ i < told.size := by rw [h.size]; exact hl
        simp [Array.getD, hl, hl2]
    · rw [getD_cput e, getD_cput e]; exact h.same i hi⟩
theorem PendF.more {lo : Nat} {B : Nat → Option Nat} {ts : Nat → AV} {H : List AO} {E : En} {w : World} {tmps told : Array Value} (hR : RelH G w E H) (h : PendF P G ops lo B ts H E w tmps told) (hlo : lo ≤ w.heap.size) {a d : Nat} {o : Oper} {ao : AO} {mk : Nat → AV}
    {vs : Array Value} {t : TypeId} {sz : Nat} {q : Value} (ha : ops[a]? = some o) (hfr : FrAt P G o ts d ao mk) (hBa : B a = none) (hd : d < tmps.size) (hmade : MadeAt w E ao mk (.cells vs t (0, 0)) sz q)
    (hdis : ∀ a' b' o', B a' = some b' → ops[a']? = some o' → o'.dst ≠ some d) :
    PendF P G ops lo (fun j => if j = a then some w.heap.size else B j) ts H E (w.alloc (.cells vs t)) (cput tmps (some d) q) told := by
  have hg := (rel_alloc_plain hR (Obj.cells vs t (0, 0))).2
  have hg' := h.grow hg
  have hnl : ¬ Live H E w.heap.size := fun hl => by have := Live.lt hR hl; omega
  have hnf : ¬ E.fro w.heap.size := fun hf => by
    obtain ⟨c, t, f, hc⟩ := hR.frob _ hf
    have := heap_lt hc
    omega
  refine ⟨fun j b hb => ?_, fun j j' b hb hb' => ?_, by rw [size_cput]; exact h.size, fun i hi => ?_⟩
  · by_cases e : j = a
    · subst e
      simp only [if_true] at hb
      cases hb
      exact ⟨o, d, ao, mk, vs, t, sz, q, ha, hfr, getElem?_alloc_new w _, hlo, hnl, hnf, getD_cput_same hd, by rw [size_cput]; exact hd, fun w2 E2 id hm => hmade w2 E2 id (hg.mono.trans hm)⟩
    · simp only [if_neg e] at hb
      obtain ⟨o', d', ao', mk', vs', t', sz', q', h1, h2, h4, h5, h6, h7, h8, h9, h10⟩ := hg'.blk j b hb
      refine ⟨o', d', ao', mk', vs', t', sz', q', h1, h2, h4, h5, h6, h7, ?_, by rw [size_cput]; exact h9, h10⟩
      rw [getD_cput (fun e2 => ?_)]; exact h8
      cases e2
      exact hdis j b o' hb h1 h2.1
  · by_cases e : j = a <;> by_cases e' : j' = a
    · rw [e, e']
    · simp only [if_pos e, if_neg e'] at hb hb'
      cases hb
      obtain ⟨_, _, _, _, _, _, _, _, _, _, h4, _⟩ := h.blk j' _ hb'
      have := heap_lt h4
      omega
    · simp only [if_neg e, if_pos e'] at hb hb'
      cases hb'
      obtain ⟨_, _, _, _, _, _, _, _, _, _, h4, _⟩ := h.blk j _ hb
      have := heap_lt h4
      omega
    · simp only [if_neg e, if_neg e'] at hb hb'
      exact h.inj j j' b hb hb'
  · have hid : i ≠ d := fun e => hi a w.heap.size o (by simp) ha (by rw [e]; exact hfr.1)
    rw [getD_cput (fun e => hid (by cases e; rfl))]
    refine h.same i fun a' b' o' hb' h1 => ?_
    by_cases e : a' = a
    · subst e; rw [hBa] at hb'; cases hb'
    · exact hi a' b' o' (by simp [e, hb']) h1
end
end Go.Ab

set_option linter.unusedVariables false
set_option linter.unusedSimpArgs false
namespace Go.Ab
section
variable {P : Program} {G : Gl} {ops ops' : Array Oper}
theorem ev_op_congr {o : Oper} {ts1 ts2 : Nat → AV} (he : ∀ e ∈ o.looksAt ops, ts1 e = ts2 e) : (∀ x ∈ o.op.operands, ev ts1 x = ev ts2 x) ∧ wantedA ops ts1 o = wantedA ops ts2 o := by
  refine ⟨fun x hx => ?_, ?_⟩
  · cases x with
    | tmp e =>
      refine he e ?_
      simp only [Oper.looksAt, List.mem_append]
      first
        | exact .inl (by simpa using ⟨_, hx, rfl⟩)
        | (left; simp; exact ⟨_, hx, rfl⟩)
    | const v => rfl
    | global g => rfl
    | func g => rfl
  · unfold wantedA
    cases hg : o.guard with
    | none => rfl
    | some g =>
      obtain ⟨j, want⟩ := g
      have : gval ops ts1 j = gval ops ts2 j := by
        unfold gval
        cases hj : (ops[j]?).bind (·.dst) with
        | none => rfl
        | some e =>
          have h3 : ts1 e = ts2 e := he e (by simp [Oper.looksAt, hg, hj])
          simp only [h3]
      simp only [this]
theorem ev_put_looks {o : Oper} {ts : Nat → AV} {dst : Option Nat} {v : AV} (h : ∀ d, dst = some d → d ∉ o.looksAt ops) : ∀ x ∈ o.op.operands, ev (put ts dst v) x = ev ts x :=
  (ev_op_congr (ops := ops) fun e he => by
    cases dst with
    | none => rfl
    | some d =>
      show (if e = d then v else ts e) = ts e
      rw [if_neg (fun e2 => h d rfl (by rw [← e2]; exact he))]).1
structure DelayOk (ops ops' : Array Oper) (A : Nat → Bool) : Prop where
  sz : ops'.size = ops.size
  same : ∀ i, A i = false → ops'[i]? = ops[i]?
  al : ∀ a, A a = true → ∃ o o' d, ops[a]? = some o ∧ ops'[a]? = some o' ∧ o'.op = o.op ∧ o'.dst = o.dst ∧ o'.guard = none ∧ o.dst = some d ∧ o.guard = none ∧ clOf o.op = .alloc ∧
    (∀ e ∈ o.after, Region.binds .any e = true → A e.on = false) ∧ (∀ e ∈ o'.after, Region.binds .any e = true → e.on < ops.size ∧ (A e.on = true → e.on < a))
  ed : ∀ i o, ops[i]? = some o → ∀ e ∈ o.after, Region.binds .any e = true → e.on < i ∧ (A e.on = true → wt ops i e.on = true)
  mw : ∀ i a o', A i = false → A a = true → wt ops i a = true → ops'[a]? = some o' → ∀ e ∈ o'.after, Region.binds .any e = true → wt ops i e.on = true
  lo : ∀ i e, A i = false → i < ops.size → wt ops i e = true → e < i
  hd : ∀ i o, A i = false → ops[i]? = some o → isSelect o.op = false ∧ ∀ a, A a = true → ∀ oa d, ops[a]? = some oa → oa.dst = some d → wt ops i a = true ∨ (d ∉ o.looksAt ops ∧ o.dst ≠ some d)
  dep : ∀ i o, A i = false → ops[i]? = some o → ∀ a, A a = true → ∀ oa, ops[a]? = some oa → (∃ e ∈ oa.after, Region.binds .any e = true ∧ e.on = i) ∨ ∀ d, o.dst = some d → d ∉ oa.looksAt ops
  sep : ∀ a a', A a = true → A a' = true → a ≠ a' → ∀ o o' d, ops[a]? = some o → ops[a']? = some o' → o.dst = some d → o'.dst ≠ some d ∧ d ∉ o'.looksAt ops
theorem gd {l : Array Bool} {j : Nat} (h : j < l.size) : l.getD j false = l.getD j true := by simp [Array.getD, h]
variable {A : Nat → Bool}
theorem DelayOk.mt (hS : DelayOk ops ops' A) (i : Nat) : (ops'[i]?).map (fun o => (o.op, o.dst, o.guard)) = (ops[i]?).map (fun o => (o.op, o.dst, o.guard)) := by
  cases h : A i with
  | false => rw [hS.same i h]
  | true =>
    obtain ⟨o, o', d, h1, h2, h3, h4, h5, h6, h7, _⟩ := hS.al i h
    rw [h1, h2]; simp [h3, h4, h5, h7]
theorem DelayOk.gval (hS : DelayOk ops ops' A) (ts : Nat → AV) (j : Nat) : gval ops' ts j = gval ops ts j := by
  unfold Go.Ab.gval
  have : (ops'[j]?).bind (·.dst) = (ops[j]?).bind (·.dst) := by
    have h := hS.mt j
    cases h1 : ops'[j]? <;> cases h2 : ops[j]? <;> rw [h1, h2] at h <;> simp at h ⊢
    exact h.2.1
  rw [this]
theorem DelayOk.prog (hS : DelayOk ops ops' A) {listed : Array Bool} (hsz : listed.size = ops.size) (h : ∃ j, j < ops.size ∧ listed.getD j true = false) : ∃ i, i ∈ Region.ready .any ops' listed := by
  have key : ∀ i, i < ops.size → A i = false → listed.getD i true = false → ∃ i, i ∈ Region.ready .any ops' listed := by
    intro i
    induction i using Nat.strongRecOn with
    | ind i ih =>
      intro hi hA hu
      by_cases hex : ∃ j, j < i ∧ A j = false ∧ listed.getD j true = false
      · obtain ⟨j, h1, h2, h3⟩ := hex
        exact ih j h1 (by omega) h2 h3
      have hl : ∀ j, j < i → A j = false → listed.getD j true = true := fun j h1 h2 => by
        cases e : listed.getD j true with
        | true => rfl
        | false => exact absurd ⟨j, h1, h2, e⟩ hex
      have sub : ∀ a, A a = true → wt ops i a = true → listed.getD a true = false → ∃ i, i ∈ Region.ready .any ops' listed := by
        intro a
        induction a using Nat.strongRecOn with
        | ind a iha =>
          intro hAa hw hua
          obtain ⟨o, o', d, h1, h2, h3, h4, h5, h6, h7, h8, h9, h10⟩ := hS.al a hAa
          by_cases hex : ∃ e ∈ o'.after, Region.binds .any e = true ∧ listed.getD e.on true = false
          · obtain ⟨e, he, hb, hue⟩ := hex
            have hwe := hS.mw i a o' hA hAa hw h2 e he hb
            cases hAe : A e.on with
            | true => exact iha e.on ((h10 e he hb).2 hAe) hAe hwe hue
            | false =>
              have := hl e.on (hS.lo i e.on hA hi hwe) hAe
              rw [hue] at this; cases this
          · refine ⟨a, mem_ready.2 ⟨hua, o', h2, fun e he hb => ?_⟩⟩
            rw [gd (by rw [hsz]; exact (h10 e he hb).1)]
            cases e1 : listed.getD e.on true with
            | true => rfl
            | false => exact absurd ⟨e, he, hb, e1⟩ hex
      obtain ⟨o, ho⟩ : ∃ o, ops[i]? = some o := ⟨ops[i], by simp [hi]⟩
      by_cases hex2 : ∃ e ∈ o.after, Region.binds .any e = true ∧ listed.getD e.on true = false
      · obtain ⟨e, he, hb, hue⟩ := hex2
        obtain ⟨h1, h2⟩ := hS.ed i o ho e he hb
        cases hAe : A e.on with
        | true => exact sub e.on hAe (h2 hAe) hue
        | false => have := hl e.on h1 hAe; rw [hue] at this; cases this
      · refine ⟨i, mem_ready.2 ⟨hu, o, by rw [hS.same i hA]; exact ho, fun e he hb => ?_⟩⟩
        rw [gd (by rw [hsz]; have := (hS.ed i o ho e he hb).1; omega)]
        cases e1 : listed.getD e.on true with
        | true => rfl
        | false => exact absurd ⟨e, he, hb, e1⟩ hex2
  obtain ⟨j, hj, hu⟩ := h
  by_cases hex : ∃ i, i < ops.size ∧ A i = false ∧ listed.getD i true = false
  · obtain ⟨i, h1, h2, h3⟩ := hex; exact key i h1 h2 h3
  induction j using Nat.strongRecOn with
  | ind j ih =>
    cases hAj : A j with
    | false => exact absurd ⟨j, hj, hAj, hu⟩ hex
    | true =>
      obtain ⟨o, o', d, h1, h2, h3, h4, h5, h6, h7, h8, h9, h10⟩ := hS.al j hAj
      by_cases hex2 : ∃ e ∈ o'.after, Region.binds .any e = true ∧ listed.getD e.on true = false
      · obtain ⟨e, he, hb, hue⟩ := hex2
        obtain ⟨q1, q2⟩ := h10 e he hb
        cases hAe : A e.on with
        | true => exact ih e.on (q2 hAe) q1 hue
        | false => exact absurd ⟨e.on, q1, hAe, hue⟩ hex
      · refine ⟨j, mem_ready.2 ⟨hu, o', h2, fun e he hb => ?_⟩⟩
        rw [gd (by rw [hsz]; exact (h10 e he hb).1)]
        cases e1 : listed.getD e.on true with
        | true => rfl
        | false => exact absurd ⟨e, he, hb, e1⟩ hex2
theorem stepR_alloc {imp : Nat → Bool} {a : Nat} {ts : Nat → AV} {H : List AO} {K : (Nat → AV) → List AO → Prop} {o : Oper} (ho : ops[a]? = some o) (hg : o.guard = none) (hc : clOf o.op = .alloc) (h : stepR P G ops imp a ts H K) :
    ∃ r, aop P G o.op (ev ts) H = some r ∧ r.c ∧ K (put ts o.dst r.v) r.H := by
  unfold stepR at h
  have hw : wantedA ops ts o = true := by simp [wantedA, hg]
  simp only [ho, hw, if_true] at h
  split at h
  · rename_i f args tys hop
    rw [hop, clOf_value] at hc; cases hc
  · exact h
theorem unl_pos {p : Nat} {listed : Array Bool} {i : Nat} (hi : i < p) (hu : listed.getD i true = false) : 0 < unl p listed := by
  unfold unl
  exact List.length_pos_of_mem (List.mem_filter.2 ⟨List.mem_range.2 hi, by rw [hu]; rfl⟩)
section
variable {n : Nat} {imp : Nat → Bool} {K : (Nat → AV) → List AO → Prop}
theorem DelayOk.look (hS : DelayOk ops ops' A) (hops : ops.all (operOk n) = true) (D : List Deferred) (b : Frame) (cs : List Frame) {a : Nat} (hA : A a = true) {oa : Oper} (hoa : ops[a]? = some oa) :
    ∀ (f : Nat) (listed : Array Bool) (ts : Nat → AV) (H : List AO) (E : En) (w : World) (told : Array Value), f = unl ops.size listed → listed.size = ops.size → listed.getD a true = false →
      (∀ e ∈ oa.after, Region.binds .any e = true → listed.getD e.on true = true) → anyR P G ops' imp K f listed ts H → RelH G w E H → RepT w E n ts told →
      ∃ r H', aop P G oa.op (ev ts) H' = some r ∧ r.c := by
  intro f
  have has : a < ops.size := (Array.getElem?_eq_some_iff.1 hoa).1
  induction f with
  | zero => intro listed ts H E w told hf hsz hu _ _ _ _; have := unl_pos has hu; omega
  | succ f ih =>
    intro listed ts H E w told hf hsz hu hdp h hR hT
    obtain ⟨o, o', d, h1, h2, h3, h4, h5, h6, h7, h8, h9, h10⟩ := hS.al a hA
    rw [hoa] at h1; cases h1
    by_cases har : a ∈ Region.ready .any ops' listed
    · obtain ⟨r, q1, q2, _⟩ := stepR_alloc h2 h5 (by rw [h3]; exact h8) (h.2 a har)
      rw [h3] at q1
      exact ⟨r, H, q1, q2⟩
    · obtain ⟨i, hi⟩ := hS.prog hsz ⟨a, has, hu⟩
      have hia : i ≠ a := fun e => har (by rw [← e]; exact hi)
      obtain ⟨hiu, oi', hoi', _⟩ := mem_ready.1 hi
      have his : i < ops.size := by rw [← hS.sz]; exact (Array.getElem?_eq_some_iff.1 hoi').1
      obtain ⟨oi, hoi⟩ : ∃ o, ops[i]? = some o := ⟨ops[i], by simp [his]⟩
      have hmt := hS.mt i
      rw [hoi, hoi'] at hmt
      simp only [Option.map_some, Option.some.injEq, Prod.mk.injEq] at hmt
      have hev : ∀ v, ∀ x ∈ oa.op.operands, ev (put ts oi'.dst v) x = ev ts x := fun v => ev_put_looks (ops := ops) fun d' hd' => by
        rw [hmt.2.1] at hd'
        cases hAi : A i with
        | true => exact (hS.sep i a hAi hA hia oi oa d' hoi hoa hd').2
        | false =>
          rcases hS.dep i oi hAi hoi a hA oa hoa with ⟨e, he, hb, rfl⟩ | hd
          · rw [hdp e he hb] at hiu; cases hiu
          · exact hd d' hd'
      have hoo : operOk n oi' = true := by
        have := (Array.all_eq_true'.1 hops) oi (Array.mem_of_getElem? hoi)
        unfold operOk at this ⊢
        rw [hmt.1, hmt.2.1]; exact this
      have hf' : f = unl ops.size (listed.setIfInBounds i true) := by
        have := unl_set his hsz hiu; omega
      have next : ∀ (v : AV) (H1 : List AO) (E1 : En) (w1 : World) (told1 : Array Value), anyR P G ops' imp K f (listed.setIfInBounds i true) (put ts oi'.dst v) H1 → RelH G w1 E1 H1 → RepT w1 E1 n (put ts oi'.dst v) told1 → ∃ r H', aop P G oa.op (ev ts) H' = some r ∧ r.c := fun v H1 E1 w1 told1 hK hR1 hT1 => by
        obtain ⟨r, H', q1, q2⟩ := ih (listed.setIfInBounds i true) (put ts oi'.dst v) H1 E1 w1 told1 hf' (by simp [hsz]) (by rw [getD_set_ne true hia]; exact hu) (fun e he hb => by
          by_cases e2 : i = e.on
          · rw [e2, getD_set_self true (by rw [hsz]; have := (hS.ed a oa hoa e he hb).1; omega)]
          · rw [getD_set_ne true e2]; exact hdp e he hb) hK hR1 hT1
        rw [aop_congr (hev v)] at q1
        exact ⟨r, H', q1, q2⟩
      obtain ⟨o2, ho2, hcase⟩ := stepR_op (h.2 i hi)
      rw [hoi'] at ho2; cases ho2
      rcases hcase with ⟨hw, hdf, hop⟩ | ⟨hw, hop⟩
      · obtain ⟨v, H1, E1, w1, r, hK1, hH1, hg1, hr1, _⟩ := hop n E w told hR hT hoo D b cs
        exact next v H1 E1 w1 _ hK1 hH1 ((hT.mono hg1.mono).put hr1 oi'.dst)
      · exact next .un H E w _ hop hR (hT.put (v := .un) (r := undef) (.tup (by rfl) (fun i hi => by simp at hi)) oi'.dst)
end
end
end Go.Ab

set_option linter.unusedVariables false
set_option linter.unusedSimpArgs false

set_option linter.unusedVariables false
set_option linter.unusedSimpArgs false
namespace Go.Ab
section
variable {P : Program} {G : Gl} {ops : Array Oper}
def dlO (ex : List Nat) (o : Oper) : Oper := ⟨o.dst, o.op, o.type, o.pos, (o.after.toList ++ ex.map fun e => (Edge.mk e .data)).toArray, o.guard⟩
def dlGo (A : Nat → Bool) (ex : Nat → List Nat) : List Oper → Nat → List Oper
  | [], _ => []
  | o :: l, i => (match A i with | true => dlO (ex i) o | false => o) :: dlGo A ex l (Nat.succ i)
def dl (A : Nat → Bool) (ex : Nat → List Nat) (ops : Array Oper) : Array Oper := (dlGo A ex ops.toList 0).toArray
end
end Go.Ab
