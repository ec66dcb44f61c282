/-
  A region that draws, with variables made aside: what is a mere value may come late.
-/
import Derived.Test.YtchodnhlkdlgmaaGreatDoorEvR5
set_option linter.unusedVariables false
set_option linter.unusedSimpArgs false
namespace Go.Ab
section
variable {P : Program} {G : Gl} {ops : Array Oper}

/-- All orders, with a way out where what is required is done. -/
def anyX (P : Program) (G : Gl) (ops : Array Oper) (imp : Nat → Bool) (req : List Nat) (Ex : (Nat → List AO → Prop) → Array Bool → (Nat → AV) → List AO → Prop) : Nat → (Nat → List AO → Prop) → Array Bool → (Nat → AV) → List AO → Prop
  | 0, W, listed, ts, H => Region.ready .any ops listed = [] ∧ ((∀ i ∈ req, listed.getD i true = true) → Ex W listed ts H)
  | f + 1, W, listed, ts, H => ((∀ i ∈ req, listed.getD i true = true) → Ex W listed ts H) ∧
      ∀ i ∈ Region.ready .any ops listed, stepR P G ops imp i ts H fun ts' H' => (imp i = true → W i H') ∧ anyX P G ops imp req Ex f W (listed.setIfInBounds i true) ts' H'

theorem anyX.exit {imp : Nat → Bool} {req : List Nat} {Ex : (Nat → List AO → Prop) → Array Bool → (Nat → AV) → List AO → Prop} {f : Nat} {W : Nat → List AO → Prop} {listed : Array Bool} {ts : Nat → AV} {H : List AO} (h : anyX P G ops imp req Ex f W listed ts H)
    (hr : ∀ i ∈ req, listed.getD i true = true) : Ex W listed ts H := by
  cases f with
  | zero => exact h.2 hr
  | succ f => exact h.1 hr

def ExMono (Ex : (Nat → List AO → Prop) → Array Bool → (Nat → AV) → List AO → Prop) : Prop := ∀ W W' listed ts H, (∀ j H, W j H → W' j H) → Ex W listed ts H → Ex W' listed ts H
theorem anyX_mono {imp : Nat → Bool} {req : List Nat} {Ex : (Nat → List AO → Prop) → Array Bool → (Nat → AV) → List AO → Prop} (hEx : ExMono Ex) {W W' : Nat → List AO → Prop} (hW : ∀ j H, W j H → W' j H) : ∀ (f : Nat) {listed : Array Bool} {ts : Nat → AV} {H : List AO}, anyX P G ops imp req Ex f W listed ts H → anyX P G ops imp req Ex f W' listed ts H
  | 0, listed, ts, H, h => ⟨h.1, fun hr => hEx _ _ _ _ _ hW (h.2 hr)⟩
  | f + 1, listed, ts, H, h => ⟨fun hr => hEx _ _ _ _ _ hW (h.1 hr), fun i hi => stepR_mono (h.2 i hi) fun ts' H' h => ⟨fun e => hW _ _ (h.1 e), anyX_mono hEx hW f h.2⟩⟩

theorem anyX_first {imp : Nat → Bool} {req : List Nat} {Ex : (Nat → List AO → Prop) → Array Bool → (Nat → AV) → List AO → Prop} (hEx : ExMono Ex) {C : List AO → Prop} {M Mf : Nat → Bool} {i : Nat} {oi : Oper} {v : AV} (hi : ops[i]? = some oi) (himp : imp i = false)
    (hM : ∀ (listed : Array Bool) j, listed.size = ops.size → Closed ops listed → j ∈ Region.ready .any ops listed → listed.getD i true = false → M j = false)
    (hMf : ∀ listed j, Closed ops listed → j ∈ Region.ready .any ops listed → listed.getD i true = false → Mf j = false)
    (hlate : i ∉ req → ∀ (W : Nat → List AO → Prop) (listed : Array Bool) (ts : Nat → AV) (H : List AO), listed.size = ops.size → Closed ops listed → i ∈ Region.ready .any ops listed → YR P G ops imp C i oi ts v → C H → Ex (fun j H => W j H ∧ (M j = false → C H)) (listed.setIfInBounds i true) (put ts oi.dst v) H → Ex W listed ts H) :
    ∀ (fuel : Nat) (Wt : Nat → List AO → Prop) (listed : Array Bool) (ts : Nat → AV) (H : List AO),
      (∀ j oj, ops[j]? = some oj → j ≠ i → listed.getD j true = false → Mf j = false → oi.apart ops oj = true ∧ (imp j = false → ∀ (ρ : Operand → AV) (H : List AO) (r : AR), aop P G oj.op ρ H = some r → C H → C r.H)) →
      listed.size = ops.size → Closed ops listed → i ∈ Region.ready .any ops listed → YR P G ops imp C i oi ts v → C H →
      anyX P G ops imp req Ex fuel (fun j H => Wt j H ∧ (M j = false → C H)) (listed.setIfInBounds i true) (put ts oi.dst v) H → anyX P G ops imp req Ex (fuel + 1) Wt listed ts H := by
  intro fuel
  have ex : ∀ (f : Nat) (W : Nat → List AO → Prop) (listed : Array Bool) (ts : Nat → AV) (H : List AO), listed.size = ops.size → Closed ops listed → i ∈ Region.ready .any ops listed → YR P G ops imp C i oi ts v → C H →
      anyX P G ops imp req Ex f (fun j H => W j H ∧ (M j = false → C H)) (listed.setIfInBounds i true) (put ts oi.dst v) H → (∀ i ∈ req, listed.getD i true = true) → Ex W listed ts H := by
    intro f W listed ts H hsz hcl hr hy hC h hq
    have hun := (mem_ready.1 hr).1
    by_cases hq1 : i ∈ req
    · rw [hq i hq1] at hun; cases hun
    · refine hlate hq1 W listed ts H hsz hcl hr hy hC (h.exit fun k hk => ?_)
      by_cases e : i = k
      · subst e; exact absurd hk hq1
      · rw [getD_set_ne true e]; exact hq k hk
  induction fuel with
  | zero =>
    intro Wt listed ts H _ hsz hcl hr hy hC h
    refine ⟨ex _ _ _ _ _ hsz hcl hr hy hC h, fun j hj => ?_⟩
    by_cases hji : j = i
    · subst hji; exact hy.step hi hC ⟨fun e => (by rw [himp] at e; cases e), anyX_mono hEx (W := fun j H => Wt j H ∧ (M j = false → C H)) (fun _ H h => h.1) _ h⟩
    · have := ready_mono hj hji
      rw [h.1] at this
      cases this
  | succ fuel ih =>
    intro Wt listed ts H hfree hsz hcl hr hy hC h
    refine ⟨ex _ _ _ _ _ hsz hcl hr hy hC h, fun j hj => ?_⟩
    by_cases hji : j = i
    · subst hji; exact hy.step hi hC ⟨fun e => (by rw [himp] at e; cases e), anyX_mono hEx (fun _ H h => h.1) _ h⟩
    · have h1 := h.2 j (ready_mono hj hji)
      obtain ⟨hjun, oj, hoj, hall⟩ := mem_ready.1 hj
      have hMj := hM listed j hsz hcl hj (mem_ready.1 hr).1
      obtain ⟨hap, hkp⟩ := hfree j oj hoj hji hjun (hMf listed j hcl hj (mem_ready.1 hr).1)
      have h1 := stepR_mono (K' := fun ts' H' => (imp j = true → Wt j H' ∧ C H') ∧ anyX P G ops imp req Ex fuel (fun j H => Wt j H ∧ (M j = false → C H)) ((listed.setIfInBounds i true).setIfInBounds j true) ts' H') h1 fun ts' H' h => ⟨fun e => ⟨(h.1 e).1, (h.1 e).2 hMj⟩, h.2⟩
      have h2 := stepG_put hoj hap hkp hC hy h1
      have hfree' : ∀ k ok, ops[k]? = some ok → k ≠ i → (listed.setIfInBounds j true).getD k true = false → Mf k = false → oi.apart ops ok = true ∧ (imp k = false → ∀ (ρ : Operand → AV) (H : List AO) (r : AR), aop P G ok.op ρ H = some r → C H → C r.H) := fun k ok hk hki hun hno => by
        refine hfree k ok hk hki ?_ hno
        by_cases hjk : j = k
        · subst hjk; exact hjun
        · rw [getD_set_ne true hjk] at hun; exact hun
      refine stepR_mono h2 fun ts' H' h3 => ⟨h3.2.1, ih Wt (listed.setIfInBounds j true) ts' H' hfree' (by simp [hsz]) (hcl.set hj) (ready_mono hr (Ne.symm hji)) h3.1.1 h3.1.2 ?_⟩
      rw [Array.setIfInBounds_comm _ _ hji]
      exact h3.2.2

theorem ordX_sound {imp : Nat → Bool} {req : List Nat} {Ex : (Nat → List AO → Prop) → Array Bool → (Nat → AV) → List AO → Prop} {M : Nat → Nat → Bool} {K : (Nat → List AO → Prop) → (Nat → AV) → List AO → Prop} (hEx : ExMono Ex)
    (hMw : ∀ (listed : Array Bool) j i, listed.size = ops.size → Closed ops listed → j ∈ Region.ready .any ops listed → listed.getD i true = false → i < ops.size → M j i = false)
    (hlate : ∀ i oi, i ∉ req → ops[i]? = some oi → ∀ (C : List AO → Prop) (v : AV) (W : Nat → List AO → Prop) (listed : Array Bool) (ts : Nat → AV) (H : List AO), (∀ H H', Ext H H' → C H → C H') → listed.size = ops.size → Closed ops listed → i ∈ Region.ready .any ops listed → YR P G ops imp C i oi ts v → C H → Ex (fun j H => W j H ∧ (M j i = false → C H)) (listed.setIfInBounds i true) (put ts oi.dst v) H → Ex W listed ts H)
    (hfin : ∀ (W : Nat → List AO → Prop) (listed : Array Bool) (ts : Nat → AV) (H : List AO), listed.size = ops.size → Region.ready .any ops listed = [] → K W ts H → Ex W listed ts H) :
    ∀ (l : List (Nat × Bool)) (W : Nat → List AO → Prop) (listed : Array Bool) (ts : Nat → AV) (H : List AO), listed.size = ops.size → (∀ x ∈ l, x.2 = false → x.1 ∈ req) → Closed ops listed → ordG ops imp (masks [] ops.toList) l listed = true →
    runG P G ops M imp K l W ts H → anyX P G ops imp req Ex l.length W listed ts H
  | [], W, listed, ts, H, hsz, hrq, hcl, ho, h => by
    have hr : Region.ready .any ops listed = [] := by simpa [ordG] using ho
    exact ⟨hr, fun _ => hfin W listed ts H hsz hr h⟩
  | (i, false) :: l, W, listed, ts, H, hsz, hrq, hcl, ho, h => by
    simp only [ordG, Bool.and_eq_true, beq_iff_eq] at ho
    refine ⟨fun hq => ?_, fun j hj => ?_⟩
    · have h1 : i ∈ Region.ready .any ops listed := by rw [ho.1]; simp
      have := (mem_ready.1 h1).1
      rw [hq i (hrq (i, false) (by simp) rfl)] at this; cases this
    · have hj' := hj
      rw [ho.1, List.mem_singleton] at hj'
      subst hj'
      have h : stepR P G ops imp j ts H fun ts' H' => (imp j = true → W j H') ∧ runG P G ops M imp K l W ts' H' := h
      exact stepR_mono h fun ts' H' h => ⟨h.1, ordX_sound hEx hMw hlate hfin l W _ ts' H' (by simp [hsz]) (fun x hx => hrq x (by simp [hx])) (hcl.set hj) ho.2 h.2⟩
  | (i, true) :: l, W, listed, ts, H, hsz, hrq, hcl, ho, h => by
    simp only [ordG, Bool.and_eq_true, Bool.not_eq_true'] at ho
    obtain ⟨⟨⟨hr, himp⟩, hc⟩, hl⟩ := ho
    have hr' : i ∈ Region.ready .any ops listed := by simpa using hr
    obtain ⟨o, ho, h⟩ := h
    rw [ho] at hc
    simp only [Bool.and_eq_true, List.all_eq_true] at hc
    obtain ⟨hq, hall⟩ := hc
    have hM := fun listed j hcl hj hi => masks_wait (ops := ops) (listed := listed) (i := i) (j := j) hcl hj hi
    have his : i < ops.size := (Array.getElem?_eq_some_iff.1 (mem_ready.1 hr').2.choose_spec.1).1
    have hext : ∀ (ts : Nat → AV) (v : AV) (H H' : List AO), quiet1 (clOf o.op) = true → Ext H H' → wat P G o ts v H → wat P G o ts v H' := fun ts v H H' hq he hw => by
      unfold wat at *
      split
      · trivial
      · rename_i hs
        rw [if_neg hs] at hw
        cases e : clOf o.op <;> rw [e] at hq hs <;> first
          | (cases hq; done)
          | exact absurd rfl hs
          | skip
        · exact (aop_addr e hw).2 _ he.shp
        · exact (aop_read e hw).2 _ he
    have hfr : ∀ j oj, ops[j]? = some oj → j ≠ i → listed.getD j true = false → ((masks [] ops.toList).getD j 0).testBit i = false → o.apart ops oj = true ∧ (imp j = false → compat (clOf o.op) (clOf oj.op) false = true) := fun j oj hoj hji hun hw => by
      have hlt : j < ops.size := (Array.getElem?_eq_some_iff.1 hoj).1
      have := hall j (by simpa using hlt)
      simp only [Bool.or_eq_true, hoj, Bool.and_eq_true, hun, hw, beq_iff_eq, hji, Bool.false_eq_true, false_or, or_false] at this
      exact ⟨this.1, fun e => by simpa [e] using this.2⟩
    rcases h with ⟨hw, v, h1, h2⟩ | ⟨hw, h2⟩
    · obtain ⟨hy, hC⟩ := wat_yr (imp := imp) (i := i) hq hw h1
      refine anyX_first hEx (M := fun j => M j i) (Mf := fun j => ((masks [] ops.toList).getD j 0).testBit i) ho himp (fun listed j hs hcl hj hu => hMw listed j i hs hcl hj hu his) hM (fun hnr W listed ts' H' => hlate i o hnr ho _ v W listed ts' H' (fun A B he hc => hext ts v A B hq he hc)) l.length W listed ts H (fun j oj hoj hji hun hm => ?_) hsz hcl hr' hy hC (ordX_sound hEx hMw hlate hfin l _ _ _ H (by simp [hsz]) (fun x hx => hrq x (by simp [hx])) (hcl.set hr') hl h2)
      obtain ⟨a, b⟩ := hfr j oj hoj hji hun hm
      exact ⟨a, fun e ρ H r hr hC => wat_keeps hq (b e) ρ H r hr hC⟩
    · refine anyX_first hEx (C := fun _ => True) (v := .un) (M := fun j => M j i) (Mf := fun j => ((masks [] ops.toList).getD j 0).testBit i) ho himp (fun listed j hs hcl hj hu => hMw listed j i hs hcl hj hu his) hM (fun hnr W listed ts' H' => hlate i o hnr ho _ .un W listed ts' H' (fun _ _ _ _ => trivial)) l.length W listed ts H (fun j oj hoj hji hun hm => ⟨(hfr j oj hoj hji hun hm).1, fun _ _ _ _ _ _ => trivial⟩) hsz hcl hr' (.inr ⟨hw, rfl⟩) trivial
        (anyX_mono hEx (fun _ H h => ⟨h, fun _ => trivial⟩) _ (ordX_sound hEx hMw hlate hfin l _ _ _ H (by simp [hsz]) (fun x hx => hrq x (by simp [hx])) (hcl.set hr') hl h2))

/-! ### Behind the barrier -/

def full (ops : Array Oper) (p q : Nat) (listed : Array Bool) : Array Bool := ((List.range ops.size).map fun i => if i < p then listed.getD i true else decide (i < q)).toArray
theorem full_get {p q : Nat} {listed : Array Bool} {i : Nat} (d : Bool) (h : i < ops.size) : (full ops p q listed).getD i d = if i < p then listed.getD i true else decide (i < q) := by
  unfold full
  rw [Array.getD_eq_getD_getElem?]
  simp [h]
theorem full_set {p q : Nat} {listed : Array Bool} {i : Nat} (hi : i < p) (hsz : p ≤ ops.size) (hl : listed.size = p) : full ops p q (listed.setIfInBounds i true) = (full ops p q listed).setIfInBounds i true := by
  apply Array.ext (by simp [full])
  intro j h1 h2
  have hj : j < ops.size := by simpa [full] using h1
  have e1 := full_get (p := p) (q := q) (listed := listed.setIfInBounds i true) true hj
  have e2 := full_get (p := p) (q := q) (listed := listed) true hj
  have e1' : (full ops p q (listed.setIfInBounds i true))[j] = (full ops p q (listed.setIfInBounds i true)).getD j true := by simp [Array.getD, h1]
  rw [e1', e1, Array.getElem_setIfInBounds (by simpa [full] using hj)]
  by_cases e : i = j
  · subst e
    rw [if_pos rfl, if_pos hi, getD_set_self true (by omega)]
  · rw [if_neg e]
    have h3 : j < (full ops p q listed).size := by simpa [full] using hj
    have e2' : (full ops p q listed)[j] = (full ops p q listed).getD j true := by simp [Array.getD, h3]
    rw [e2', e2, getD_set_ne true e]
def unl (p : Nat) (listed : Array Bool) : Nat := ((List.range p).filter fun i => !listed.getD i true).length
theorem count_one {f g : Nat → Bool} {i : Nat} (hfi : f i = true) (hgi : g i = false) (h : ∀ j, j ≠ i → f j = g j) : ∀ (l : List Nat), l.Nodup → i ∈ l → (l.filter f).length = (l.filter g).length + 1
  | [], _, hi => by cases hi
  | a :: l, hn, hi => by
    rw [List.nodup_cons] at hn
    by_cases e : a = i
    · subst e
      rw [List.filter_cons_of_pos hfi, List.filter_cons_of_neg (by simp [hgi])]
      have : l.filter f = l.filter g := List.filter_congr fun j hj => h j fun e => hn.1 (by rw [← e]; exact hj)
      rw [this]; rfl
    · have hil : i ∈ l := by
        rcases List.mem_cons.1 hi with h | h
        · exact absurd h.symm e
        · exact h
      have ih := count_one hfi hgi h l hn.2 hil
      have hfa := h a e
      cases hf : f a with
      | true => rw [List.filter_cons_of_pos hf, List.filter_cons_of_pos (by rw [← hfa]; exact hf), List.length_cons, List.length_cons, ih]
      | false => rw [List.filter_cons_of_neg (by simp [hf]), List.filter_cons_of_neg (by simp [← hfa, hf]), ih]
theorem unl_set {p : Nat} {listed : Array Bool} {i : Nat} (hi : i < p) (hsz : listed.size = p) (hu : listed.getD i true = false) : unl p listed = unl p (listed.setIfInBounds i true) + 1 :=
  count_one (i := i) (by simp [hu]) (by simp [getD_set_self true (show i < listed.size by omega)]) (fun j hj => by rw [getD_set_ne true (Ne.symm hj)]) _ List.nodup_range (List.mem_range.2 hi)

section
variable {rd : Option Nat} {n : Nat} {k : List Item} {Q : Lv → (Nat → AV) → List AO → Prop} {imp imp2 : Nat → Bool} {p q : Nat}

/-- The way out: what is made aside, then all orders of the rest. -/
def Exit (P : Program) (G : Gl) (ops : Array Oper) (imp2 : Nat → Bool) (K : (Nat → AV) → List AO → Prop) (p q : Nat) (W : Nat → List AO → Prop) (listed : Array Bool) (ts : Nat → AV) (H : List AO) : Prop :=
  runR P G ops imp2 (fun ts H => anyG P G ops imp2 K (unl p listed + (ops.size - q)) W (full ops p q listed) ts H) (List.range' p (q - p)) ts H

theorem runR_monoK {K K' : (Nat → AV) → List AO → Prop} (hK : ∀ ts H, K ts H → K' ts H) : ∀ (l : List Nat) (ts : Nat → AV) (H : List AO), runR P G ops imp2 K l ts H → runR P G ops imp2 K' l ts H
  | [], ts, H, h => hK ts H h
  | a :: l, ts, H, h => by
    have h : stepR P G ops imp2 a ts H (runR P G ops imp2 K l) := h
    exact stepR_mono h fun ts' H' h => runR_monoK hK l ts' H' h

theorem exit_mono {K : (Nat → AV) → List AO → Prop} : ExMono (Exit P G ops imp2 K p q) := fun W W' listed ts H hW h =>
  runR_monoK (fun ts H h => anyG_mono hW _ h) _ ts H h

def nonImp : Cl → Bool
  | .scal => true
  | .addr => true
  | .read => true
  | .alloc => true
  | _ => false
theorem nonImp_ext {op : Op} (hc : nonImp (clOf op) = true) {ρ : Operand → AV} {H : List AO} {r : AR} (h : aop P G op ρ H = some r) : Ext H r.H := by
  cases e : clOf op <;> rw [e] at hc <;> first
    | (cases hc; done)
    | (rw [aop_quiet (by rw [e]; rfl) h]; exact Ext.refl H)
    | exact aop_alloc e h

structure SplitX (ops : Array Oper) (p q : Nat) (req : List Nat) : Prop where
  pq : p ≤ q
  qs : q ≤ ops.size
  hd : ∀ i o, i < p → ops[i]? = some o → guardLt p o = true ∧ isSelect o.op = false ∧ (∀ e ∈ o.after, Region.binds .any e = true → e.on < i) ∧ ∀ a d t, alOf ops a = some (d, t) → p ≤ a → a < q → d ∉ o.looksAt ops ∧ o.dst ≠ some d
  al : ∀ a, p ≤ a → a < q → (alOf ops a).isSome = true
  dis : ∀ a a' d t t', p ≤ a → a < q → p ≤ a' → a' < q → alOf ops a = some (d, t) → alOf ops a' = some (d, t') → a = a'
  rq : ∀ i ∈ req, i < p
  tl : ∀ j i, q ≤ j → j < ops.size → (i ∈ req ∨ (p ≤ i ∧ i < q)) → ((masks [] ops.toList).getD j 0).testBit i = true
  late : ∀ i o, i < p → i ∉ req → ops[i]? = some o → quiet1 (clOf o.op) = true ∧ ∀ j oj, ops[j]? = some oj → j ≠ i → ((masks [] ops.toList).getD j 0).testBit i = false → ((masks [] ops.toList).getD i 0).testBit j = false → o.apart ops oj = true

theorem full_closed {req : List Nat} (hS : SplitX ops p q req) {listed : Array Bool} (hsz : listed.size = p) (hcl : Closed (headOps ops p) listed) : Closed ops (full ops p q listed) := fun j o ho hl e he hb => by
  have hj : j < ops.size := (Array.getElem?_eq_some_iff.1 ho).1
  rw [full_get false hj] at hl
  have hpq := hS.pq
  have hqs := hS.qs
  by_cases hjp : j < p
  · rw [if_pos hjp] at hl
    have hon := (hS.hd j o hjp ho).2.2.1 e he hb
    have hl' : listed.getD j false = true := by
      have : j < listed.size := by omega
      simpa [Array.getD, this] using hl
    have := hcl j o (by rw [headOps_get hjp]; exact ho) hl' e he hb
    rw [full_get false (by omega), if_pos (by omega)]
    have h3 : e.on < listed.size := by omega
    simpa [Array.getD, h3] using this
  · rw [if_neg hjp] at hl
    have hjq : j < q := by simpa using hl
    obtain ⟨⟨d, t⟩, ha⟩ := Option.isSome_iff_exists.1 (hS.al j (by omega) hjq)
    obtain ⟨o', ho', _, _, _, haf⟩ := alOf_inv ha
    rw [ho] at ho'; cases ho'
    rw [haf e he] at hb; cases hb

theorem exit_late {req : List Nat} (hS : SplitX ops p q req) (hI : ∀ j oj, ops[j]? = some oj → imp2 j = false → nonImp (clOf oj.op) = true) (hI2 : ∀ j oj, ops[j]? = some oj → quiet1 (clOf oj.op) = true → imp2 j = false) {K : (Nat → AV) → List AO → Prop} {i : Nat} {oi : Oper} (hnr : i ∉ req) (hip : i < p) (ho : ops[i]? = some oi) {C : List AO → Prop} (hCE : ∀ H H', Ext H H' → C H → C H') {v : AV} {W : Nat → List AO → Prop} {listed : Array Bool} {ts : Nat → AV} {H : List AO}
    (hsz : listed.size = p) (hcl : Closed (headOps ops p) listed) (hr : i ∈ Region.ready .any (headOps ops p) listed) (hy : YR P G (headOps ops p) imp C i oi ts v) (hCH : C H) (h : Exit P G ops imp2 K p q (fun j H => W j H ∧ (wt ops j i = false → C H)) (listed.setIfInBounds i true) (put ts oi.dst v) H) : Exit P G ops imp2 K p q W listed ts H := by
  obtain ⟨hsc, hap⟩ := hS.late i oi hip hnr ho
  obtain ⟨hgl, _, _, hnd⟩ := hS.hd i oi hip ho
  have hpq := hS.pq
  have hqs := hS.qs
  have hun := (mem_ready.1 hr).1
  -- its value, as long as memory is of that class
  have hval : ∀ ts', (∀ x ∈ oi.op.operands, ev ts' x = ev ts x) → wantedA ops ts' oi = wantedA ops ts oi → YR P G ops imp2 C i oi ts' v := fun ts' he hwq => by
    unfold YR at hy ⊢
    rw [wantedA_head hgl] at hy
    rw [hwq]
    rcases hy with ⟨hw, hv⟩ | ⟨hw, rfl⟩
    · refine .inl ⟨hw, ?_⟩
      split at hv
      · rename_i hop; rw [hop] at hsc; cases hsc
      · obtain ⟨c, hc, hv⟩ := hv
        exact ⟨c, hc, fun H' hH' => by rw [aop_congr he]; exact hv H' hH'⟩
    · exact .inr ⟨hw, rfl⟩
  have hal : ∀ a d t, alOf ops a = some (d, t) → p ≤ a → a < q → d ∉ oi.looksAt ops ∧ oi.dst ≠ some d := hnd
  have hopx : ∀ {ts1 ts2 : Nat → AV}, (∀ e ∈ oi.looksAt ops, ts1 e = ts2 e) → (∀ x ∈ oi.op.operands, ev ts1 x = ev ts2 x) ∧ wantedA ops ts1 oi = wantedA ops ts2 oi := fun {ts1 ts2} he => by
    refine ⟨fun x hx => ?_, ?_⟩
    · cases x with
      | tmp e =>
        refine he e ?_
        simp only [Oper.looksAt, List.mem_append]
        first
          | exact .inl (by simpa using ⟨_, hx, rfl⟩)
          | (left; simp; exact ⟨_, hx, rfl⟩)
      | const v => rfl
      | global g => rfl
      | func g => rfl
    · unfold wantedA
      cases hg : oi.guard with
      | none => rfl
      | some g =>
        obtain ⟨j, want⟩ := g
        have : gval ops ts1 j = gval ops ts2 j := by
          unfold gval
          cases hj : (ops[j]?).bind (·.dst) with
          | none => rfl
          | some e =>
            have h3 : ts1 e = ts2 e := he e (by simp [Oper.looksAt, hg, hj])
            simp only [h3]
        simp only [this]
  have key : ∀ (A : List Nat) (ts1 : Nat → AV) (H1 : List AO), (∀ a ∈ A, p ≤ a ∧ a < q) → (∀ e ∈ oi.looksAt ops, ts1 e = ts e) → C H1 →
      runR P G ops imp2 (fun ts H => anyG P G ops imp2 K (unl p (listed.setIfInBounds i true) + (ops.size - q)) (fun j H => W j H ∧ (wt ops j i = false → C H)) (full ops p q (listed.setIfInBounds i true)) ts H) A (put ts1 oi.dst v) H1 →
      runR P G ops imp2 (fun ts H => anyG P G ops imp2 K (unl p listed + (ops.size - q)) W (full ops p q listed) ts H) A ts1 H1 := by
    intro A
    induction A with
    | nil =>
      intro ts1 H1 _ he hC1 h
      have h : anyG P G ops imp2 K (unl p (listed.setIfInBounds i true) + (ops.size - q)) (fun j H => W j H ∧ (wt ops j i = false → C H)) (full ops p q (listed.setIfInBounds i true)) (put ts1 oi.dst v) H1 := h
      show anyG P G ops imp2 K (unl p listed + (ops.size - q)) W (full ops p q listed) ts1 H1
      rw [full_set hip (by omega) hsz] at h
      rw [unl_set hip hsz hun, show unl p (listed.setIfInBounds i true) + 1 + (ops.size - q) = (unl p (listed.setIfInBounds i true) + (ops.size - q)) + 1 by omega]
      obtain ⟨h1, h2⟩ := hopx he
      have hclf := full_closed hS hsz hcl
      have hrf : i ∈ Region.ready .any ops (full ops p q listed) := by
        refine (ready_head (p := p) (fun j hj => ?_) (fun i o hi ho => (hS.hd i o hi ho).2.2.1) hip (by simp [full]; omega) (by omega)).2 hr
        rw [full_get true (by omega), if_pos hj]
      refine anyG_first (C := C) (M := fun j => ((masks [] ops.toList).getD j 0).testBit i) ho (hI2 i oi ho hsc) (fun listed j hcl hj hi => masks_wait (ops := ops) hcl hj hi) _ _ _ ts1 H1 (fun j oj hoj hji hu hm => ⟨hap j oj hoj hji hm (masks_wait (ops := ops) hclf hrf hu), fun hj ρ H r hr hC => hCE _ _ (nonImp_ext (hI j oj hoj hj) hr) hC⟩) hclf hrf (hval ts1 h1 h2) hC1 h
    | cons a A ih =>
      intro ts1 H1 hA he hC1 h
      obtain ⟨ha1, ha2⟩ := hA a (by simp)
      obtain ⟨⟨d, t⟩, ha⟩ := Option.isSome_iff_exists.1 (hS.al a ha1 ha2)
      obtain ⟨oa, hoa, hop, hdst, hgd, haf⟩ := alOf_inv ha
      obtain ⟨hd1, hd2⟩ := hal a d t ha ha1 ha2
      have h : stepR P G ops imp2 a (put ts1 oi.dst v) H1 (runR P G ops imp2 (fun ts H => anyG P G ops imp2 K (unl p (listed.setIfInBounds i true) + (ops.size - q)) (fun j H => W j H ∧ (wt ops j i = false → C H)) (full ops p q (listed.setIfInBounds i true)) ts H) A) := h
      show stepR P G ops imp2 a ts1 H1 (runR P G ops imp2 (fun ts H => anyG P G ops imp2 K (unl p listed + (ops.size - q)) W (full ops p q listed) ts H) A)
      unfold stepR at h ⊢
      have hw : ∀ ts, wantedA ops ts oa = true := fun ts => by simp [wantedA, hgd]
      simp only [hoa, hw, if_true, hop, hdst] at h ⊢
      obtain ⟨r, h1, h2, h3⟩ := h
      have hrH : Ext H1 r.H := nonImp_ext (P := P) (G := G) (op := .alloc t) rfl h1
      refine ⟨r, ?_, h2, ih _ _ (fun b hb => hA b (by simp [hb])) (fun e hel => ?_) (hCE _ _ hrH hC1) ?_⟩
      · simp only [aop] at h1 ⊢
        exact h1
      · show (if e = d then r.v else ts1 e) = ts e
        rw [if_neg (fun e2 => hd1 (by rw [← e2]; exact hel))]
        exact he e hel
      · have hc := put_comm (ts := ts1) (x := oi.dst) (y := some d) (v := v) (u := r.v) (fun d' e1 e2 => by cases e2; exact hd2 e1)
        rw [← hc]; exact h3
  unfold Exit at h ⊢
  exact key _ ts H (fun a ha => by rw [List.mem_range'_1] at ha; omega) (fun _ _ => rfl) hCH h
theorem pendX_run {req : List Nat} (hS : SplitX ops p q req) (hzall : ∀ a d t, p ≤ a → a < q → alOf ops a = some (d, t) → ∃ cs, zeroCells P t = some cs) (hops : ops.all (operOk n) = true) (hkk : todoOk n k = true)
    {W : Nat → List AO → Prop} {b : Frame} {cs : List Frame} {H0 : List AO} {E0 : En} {w0 : World} :
    ∀ (fuel t : Nat) (listed listed1 : Array Bool) (R A : List Nat) (B : Nat → Option Nat) (ts : Nat → AV) (H : List AO) (E : En) (w : World) (tmps told : Array Value) (D : List Deferred),
      fuel = R.length + A.length + (ops.size - q) → R.Nodup → A.Nodup → (∀ i, i ∈ R ↔ (i < p ∧ listed.getD i true = false)) → (∀ a, a ∈ A ↔ (p ≤ a ∧ a < q ∧ B a = none)) → (∀ a bk, B a = some bk → p ≤ a ∧ a < q) →
      listed.size = ops.size → listed1.size = p → Closed ops listed → (∀ j, j < p → listed.getD j true = listed1.getD j true) → (∀ a, p ≤ a → a < q → listed.getD a true = (B a).isSome) → (∀ j, q ≤ j → j < ops.size → listed.getD j true = false) →
      anyX P G (headOps ops p) imp req (Exit P G ops imp2 (fun ts H => FW P G rd n k ts H Q) p q) R.length W listed1 ts H →
      RelH G w E H → RepT w E n ts told → Pend P ops w0.heap.size B H E w tmps told → Grow H0 E0 w0 H E w → RoundRel E b rd → MarksOk w D →
      FWc P G rd n Q b D cs H0 E0 w0 (lone (frm b tmps (.inRegion ops (Region.linearise.go .any ops fuel t listed []) :: k) D) cs w) := by
  intro fuel
  -- what is done once nothing is left ahead of the barrier
  have done : ∀ (fuel t : Nat) (listed listed1 : Array Bool) (B : Nat → Option Nat) (f1 : Nat) (ts : Nat → AV) (H : List AO) (E : En) (w : World) (tmps told : Array Value) (D : List Deferred),
      (∀ i ∈ req, listed.getD i true = true) → (∀ a, p ≤ a → a < q → ∃ bk, B a = some bk) → (∀ a bk, B a = some bk → p ≤ a ∧ a < q) → listed.size = ops.size → listed1.size = p →
      (∀ j, j < p → listed.getD j true = listed1.getD j true) → (∀ a, p ≤ a → a < q → listed.getD a true = (B a).isSome) → (∀ j, q ≤ j → j < ops.size → listed.getD j true = false) →
      fuel = unl p listed1 + (ops.size - q) →
      anyX P G (headOps ops p) imp req (Exit P G ops imp2 (fun ts H => FW P G rd n k ts H Q) p q) f1 W listed1 ts H →
      RelH G w E H → RepT w E n ts told → Pend P ops w0.heap.size B H E w tmps told → Grow H0 E0 w0 H E w → RoundRel E b rd → MarksOk w D →
      FWc P G rd n Q b D cs H0 E0 w0 (lone (frm b tmps (.inRegion ops (Region.linearise.go .any ops fuel t listed []) :: k) D) cs w) := by
    intro fuel t listed listed1 B f1 ts H E w tmps told D hl hB hBd hsz hsz1 h12 hlB hlq hfu h hR hT hp hG hrd hD
    have hK1 : Exit P G ops imp2 (fun ts H => FW P G rd n k ts H Q) p q W listed1 ts H := h.exit fun i hi => by rw [← h12 i (hS.rq i hi)]; exact hl i hi
    have hlq' : listed = full ops p q listed1 := by
      apply Array.ext (by simp [hsz, full])
      intro i h1 h2
      have e : listed.getD i true = (full ops p q listed1).getD i true := by
        rw [full_get true (by omega)]
        by_cases hip : i < p
        · rw [if_pos hip]; exact h12 i hip
        · rw [if_neg hip]
          by_cases hiq : i < q
          · obtain ⟨bk, hbk⟩ := hB i (by omega) hiq
            rw [hlB i (by omega) hiq, hbk]; simp [hiq]
          · rw [hlq i (by omega) (by omega)]; simp; omega
      simpa [Array.getD, h1, h2] using e
    subst hlq'
    subst hfu
    unfold Exit at hK1
    refine flush_all (fun ts H h => anyR_sound _ t _ ts H (anyG_any _ h)) (by rw [todoOk_cons, Bool.and_eq_true]; exact ⟨hops, hkk⟩) hD (q - p) p B ts H E told (by have := hS.pq; omega) (fun a => ?_) (fun a h1 h2 => hS.al a h1 h2) hR hT hp hG hrd hK1
    constructor
    · intro h
      obtain ⟨bk, hbk⟩ := Option.isSome_iff_exists.1 h
      exact hBd a bk hbk
    · rintro ⟨h1, h2⟩
      obtain ⟨bk, hbk⟩ := hB a h1 h2
      rw [hbk]; rfl
  have hcnt : ∀ (R : List Nat) (listed listed1 : Array Bool), R.Nodup → (∀ i, i ∈ R ↔ (i < p ∧ listed.getD i true = false)) → (∀ j, j < p → listed.getD j true = listed1.getD j true) → R.length = unl p listed1 := fun R listed listed1 hn hm h12 => by
    refine ((List.perm_ext_iff_of_nodup hn (List.nodup_range.filter _)).2 fun i => ?_).length_eq
    rw [hm i, List.mem_filter, List.mem_range]
    constructor
    · rintro ⟨h1, h2⟩; exact ⟨h1, by rw [← h12 i h1, h2]; rfl⟩
    · rintro ⟨h1, h2⟩; exact ⟨h1, by rw [h12 i h1]; simpa using h2⟩
  induction fuel with
  | zero =>
    intro t listed listed1 R A B ts H E w tmps told D hf hRn hAn hRm hAm hBd hsz hsz1 hcl h12 hlB hlq h hR hT hp hG hrd hD
    have hR0 : R = [] := List.eq_nil_of_length_eq_zero (by omega)
    have hA0 : A = [] := List.eq_nil_of_length_eq_zero (by omega)
    subst hR0; subst hA0
    refine done 0 t listed listed1 B _ ts H E w tmps told D (fun i hi => ?_) (fun a h1 h2 => ?_) hBd hsz hsz1 h12 hlB hlq (by rw [← hcnt [] listed listed1 hRn hRm h12]; exact hf) h hR hT hp hG hrd hD
    · cases e : listed.getD i true with
      | true => rfl
      | false => exact absurd ((hRm i).2 ⟨hS.rq i hi, e⟩) (by simp)
    · cases e : B a with
      | some bk => exact ⟨bk, rfl⟩
      | none => exact absurd ((hAm a).2 ⟨h1, h2, e⟩) (by simp)
  | succ fuel ih =>
    intro t listed listed1 R A B ts H E w tmps told D hf hRn hAn hRm hAm hBd hsz hsz1 hcl h12 hlB hlq h hR hT hp hG hrd hD
    have hback : ∀ i o, i < p → ops[i]? = some o → ∀ e ∈ o.after, Region.binds .any e = true → e.on < i := fun i o hi ho => (hS.hd i o hi ho).2.2.1
    have hps : p ≤ listed.size := by have := hS.pq; have := hS.qs; omega
    -- nothing is ready: then all is done
    have allL : ∀ i, (∀ j, j ∈ Region.ready .any ops listed → ¬ j < p) → i < p → listed.getD i true = true := by
      intro i hno
      induction i using Nat.strongRecOn with
      | ind i ihi =>
        intro hi
        cases e : listed.getD i true with
        | true => rfl
        | false =>
          exfalso
          obtain ⟨o, ho⟩ : ∃ o, ops[i]? = some o := by
            have : i < ops.size := by omega
            exact ⟨ops[i], by simp [this]⟩
          refine hno i (mem_ready.2 ⟨e, o, ho, fun ed he hb => ?_⟩) hi
          have h1 := hback i o hi ho ed he hb
          have h2 := ihi ed.on h1 (by omega)
          have h3 : ed.on < listed.size := by omega
          simpa [Array.getD, h3] using h2
    by_cases htail : ∃ j, j ∈ Region.ready .any ops listed ∧ q ≤ j
    · obtain ⟨j, hj, hjq⟩ := htail
      obtain ⟨o, ho, _⟩ := (mem_ready.1 hj).2
      have hjs : j < ops.size := (Array.getElem?_eq_some_iff.1 ho).1
      have hall : ∀ i, (i ∈ req ∨ (p ≤ i ∧ i < q)) → listed.getD i true = true := fun i hi => by
        cases e : listed.getD i true with
        | true => rfl
        | false =>
          have h1 := masks_wait (ops := ops) hcl hj (i := i) e
          rw [hS.tl j i hjq hjs hi] at h1
          cases h1
      have hA1 : ∀ a, p ≤ a → a < q → ∃ bk, B a = some bk := fun a h1 h2 => by
        have := hall a (.inr ⟨h1, h2⟩)
        rw [hlB a h1 h2] at this
        exact Option.isSome_iff_exists.1 this
      have hAe : A = [] := by
        rw [List.eq_nil_iff_forall_not_mem]
        intro a ha
        obtain ⟨h1, h2, h3⟩ := (hAm a).1 ha
        obtain ⟨bk, hbk⟩ := hA1 a h1 h2
        rw [h3] at hbk; cases hbk
      refine done (fuel + 1) t listed listed1 B _ ts H E w tmps told D (fun i hi => hall i (.inl hi)) hA1 hBd hsz hsz1 h12 hlB hlq ?_ h hR hT hp hG hrd hD
      rw [← hcnt R listed listed1 hRn hRm h12, hf, hAe]; rfl
    by_cases hex : ∃ j, j ∈ Region.ready .any ops listed ∧ j < q
    · -- something ahead of the barrier, or aside, is there still
      simp only [Region.linearise.go]
      change FWc P G rd n Q b D cs H0 E0 w0 (lone (frm b tmps (.inRegion ops (match (Region.ready .any ops listed)[t % (Region.ready .any ops listed).length]? with
        | some i => Region.linearise.go .any ops fuel (t / (Region.ready .any ops listed).length) (listed.setIfInBounds i true) [i]
        | none => [].reverse) :: k) D) cs w)
      cases hi : (Region.ready .any ops listed)[t % (Region.ready .any ops listed).length]? with
      | none =>
        exfalso
        obtain ⟨j, hj, _⟩ := hex
        cases hr : Region.ready .any ops listed with
        | nil => rw [hr] at hj; cases hj
        | cons x xs =>
          rw [hr] at hi
          have hlt : t % (x :: xs).length < (x :: xs).length := Nat.mod_lt _ (by simp)
          simp at hi
          simp at hlt
          omega
      | some i =>
        simp only []
        rw [linearise_go_acc, List.reverse_singleton, List.singleton_append]
        have hir : i ∈ Region.ready .any ops listed := List.mem_of_getElem? hi
        obtain ⟨hiu, o, ho, haft⟩ := mem_ready.1 hir
        have his : i < ops.size := (Array.getElem?_eq_some_iff.1 ho).1
        generalize hrest : Region.linearise.go .any ops fuel (t / (Region.ready .any ops listed).length) (listed.setIfInBounds i true) [] = rest
        by_cases hip : i < p
        · -- an operation ahead of the barrier
          have hir1 := (ready_head h12 hback hip hps (by omega)).1 hir
          have hiR : i ∈ R := (hRm i).2 ⟨hip, hiu⟩
          obtain ⟨f, hf1⟩ : ∃ f, R.length = f + 1 := ⟨R.length - 1, by have := List.length_pos_of_mem hiR; omega⟩
          rw [hf1] at h
          have h1 := stepR_mono (stepR_head hip (fun o' ho' => by rw [ho] at ho'; cases ho'; exact (hS.hd i o hip ho).1) (h.2 i hir1)) (fun ts' H' h => h.2)
          obtain ⟨_, hsel, _, hap⟩ := hS.hd i o hip ho
          have hap' : ∀ a bk d t, B a = some bk → alOf ops a = some (d, t) → d ∉ o.looksAt ops ∧ o.dst ≠ some d := fun a bk d t hb ha => by
            have := hBd a bk hb
            exact hap a d t ha this.1 this.2
          have hev : ∀ x, (∀ e, x = Operand.tmp e → e ∈ o.looksAt ops) → Act.eval ⟨tmps, D⟩ x = Act.eval ⟨told, D⟩ x := fun x hx => by
            cases x with
            | tmp e =>
              exact hp.same e fun a bk d t hb ha hed => by
                subst hed
                exact (hap' a bk e t hb ha).1 (hx e rfl)
            | const v => rfl
            | global g => rfl
            | func g => rfl
          have hopx : ∀ x ∈ o.op.operands, Act.eval ⟨tmps, D⟩ x = Act.eval ⟨told, D⟩ x := fun x hx => hev x fun e he => by
            subst he
            simp only [Oper.looksAt, List.mem_append]
            first
              | exact .inl (by simpa using ⟨_, hx, rfl⟩)
              | (left; simp; exact ⟨_, hx, rfl⟩)
          have hex2 : execOp (Act.eval ⟨tmps, D⟩) o = execOp (Act.eval ⟨told, D⟩) o := execOp_congr o (fun cs b e => by rw [e] at hsel; cases hsel) hopx
          have hwt : Region.wanted o (yielded ops tmps) = Region.wanted o (yielded ops told) := by
            unfold Region.wanted
            cases hg : o.guard with
            | none => rfl
            | some g =>
              obtain ⟨j, want⟩ := g
              have : yielded ops tmps j = yielded ops told j := by
                unfold yielded
                cases hj : (ops[j]?).bind (·.dst) with
                | none => rfl
                | some e =>
                  have he : e ∈ o.looksAt ops := by simp [Oper.looksAt, hg, hj]
                  have hs : tmps.getD e undef = told.getD e undef := hp.same e fun a bk d t hb ha hed => by
                    subst hed; exact (hap' a bk e t hb ha).1 he
                  have hz : told.size = tmps.size := hp.size
                  by_cases hl : e < tmps.size
                  · have e1 : tmps[e]? = some (tmps.getD e undef) := by simp [Array.getD, hl]
                    have e2 : told[e]? = some (told.getD e undef) := by simp [Array.getD, hz, hl]
                    simp only [Option.bind_some, e1, e2, hs]
                  · have e1 : tmps[e]? = none := Array.getElem?_eq_none (Nat.le_of_not_lt hl)
                    have e2 : told[e]? = none := Array.getElem?_eq_none (by rw [hz]; exact Nat.le_of_not_lt hl)
                    simp only [Option.bind_some, e1, e2]
              simp only [this]
          have hdn : ∀ a bk d t, B a = some bk → alOf ops a = some (d, t) → o.dst ≠ some d := fun a bk d t hb ha => (hap' a bk d t hb ha).2
          have hoo : operOk n o = true := (Array.all_eq_true'.1 hops) o (Array.mem_of_getElem? ho)
          have next : ∀ (ts' : Nat → AV) (H' : List AO) (E' : En) (w' : World) (r : Value), anyX P G (headOps ops p) imp req (Exit P G ops imp2 (fun ts H => FW P G rd n k ts H Q) p q) f W (listed1.setIfInBounds i true) ts' H' → RelH G w' E' H' → Grow H E w H' E' w' →
              RepT w' E' n ts' (cput told o.dst r) → FWc P G rd n Q b D cs H0 E0 w0 (lone (frm b (cput tmps o.dst r) (.inRegion ops rest :: k) D) cs w') := fun ts' H' E' w' r hA hR' hG' hT' => by
            rw [← hrest]
            refine ih _ (listed.setIfInBounds i true) (listed1.setIfInBounds i true) (R.erase i) A B ts' H' E' w' _ (cput told o.dst r) D ?_ (hRn.erase i) hAn (fun j => ?_) hAm hBd (by simp [hsz]) (by simp [hsz1]) (hcl.set hir) (fun j hj => ?_) (fun a h1 h2 => ?_) (fun j h1 h2 => ?_) ?_ hR' hT' ((hp.grow hG').put hdn r) (hG.trans hG') (hrd.mono hG'.mono) (hD.grow hR hG')
            · rw [List.length_erase_of_mem hiR]; omega
            · rw [hRn.mem_erase_iff, hRm j]
              by_cases e : j = i
              · subst e; simp [getD_set_self true (show j < listed.size by omega)]
              · rw [getD_set_ne true (Ne.symm e)]
                exact ⟨fun h => h.2, fun h => ⟨e, h⟩⟩
            · by_cases e : j = i
              · subst e; rw [getD_set_self true (by omega), getD_set_self true (by omega)]
              · rw [getD_set_ne true (Ne.symm e), getD_set_ne true (Ne.symm e)]; exact h12 j hj
            · rw [getD_set_ne true (by omega)]; exact hlB a h1 h2
            · rw [getD_set_ne true (by have := hS.pq; omega)]; exact hlq j h1 h2
            · rw [List.length_erase_of_mem hiR, show R.length - 1 = f by omega]; exact hA
          obtain ⟨o', ho', hcase⟩ := stepR_op h1
          rw [ho] at ho'; cases ho'
          rcases hcase with ⟨hw, hdf, hop⟩ | ⟨hw, hop⟩
          · have hwr : Region.wanted o (yielded ops tmps) = true := by rw [hwt, wanted_eq hops hT]; exact hw
            obtain ⟨v, H1, E1, w1, r, hK1, hH1, hg1, hr1, hrun⟩ := hop n E w told hR hT hoo D (frm b tmps (.inRegion ops (i :: rest) :: k) D) cs
            have hT1 := (hT.mono hg1.mono).put hr1 o.dst
            refine FWc.head ?_ (next _ H1 E1 w1 r hK1 hH1 hg1 hT1)
            have hst := stepG_frm_op (P := P) (b := b) (tmps := tmps) (rest := rest) (k := k) (D := D) (cs := cs) (w := w) ho hwr hdf
            have hfin := finish_frm b tmps ops i rest k D r o ho
            rw [hex2] at hst
            rcases hrun with hr | ⟨hr, rfl⟩ | ⟨f, args, w0, hr, hsteps⟩ | ⟨l, f, tm, a, bb, w0, hr, hsteps⟩
            · refine .one (step_lone_go ?_)
              rw [hst, ← hfin]; simp [stepG.apply, hr]
            · refine .one (step_lone_go ?_)
              rw [hst, ← hfin]; simp [stepG.apply, hr]
            · refine .head (step_lone_go ?_) (hfin ▸ hsteps)
              rw [hst]; simp [stepG.apply, hr, frm]
            · refine .head (step_lone_go ?_) (hfin ▸ hsteps)
              rw [hst]; simp [stepG.apply, hr, frm]
          · have hwr : Region.wanted o (yielded ops tmps) = false := by rw [hwt, wanted_eq hops hT]; exact hw
            have hT1 := hT.put (v := .un) (r := undef) (.tup (by rfl) (fun i hi => by simp at hi)) o.dst
            refine FWc.head (.one (step_lone_go ?_)) (next _ H E w undef hop hR (Grow.refl _ _ _) hT1)
            rw [← finish_frm b tmps ops i rest k D undef o ho]
            simp [stepG, stepG.exec, frm, ho, hwr]
        · by_cases hiq : i < q
          · -- a variable made aside
            obtain ⟨⟨d, ty⟩, ha⟩ := Option.isSome_iff_exists.1 (hS.al i (by omega) hiq)
            obtain ⟨o', ho', hop, hdst, hgd, haf⟩ := alOf_inv ha
            rw [ho] at ho'; cases ho'
            have hBi : B i = none := by
              have := hlB i (by omega) hiq
              rw [hiu] at this
              cases e : B i with
              | none => rfl
              | some x => rw [e] at this; cases this
            have hiA : i ∈ A := (hAm i).2 ⟨by omega, hiq, hBi⟩
            have hoo : operOk n o = true := (Array.all_eq_true'.1 hops) o (Array.mem_of_getElem? ho)
            have hdn : d < tmps.size := by
              rw [← hp.size, hT.1]
              simp only [operOk, hdst, Bool.and_eq_true, decide_eq_true_eq] at hoo
              exact hoo.1
            have hz : ∃ cs, zeroCells P ty = some cs := hzall i d ty (by omega) hiq ha
            obtain ⟨csz, hz⟩ := hz
            obtain ⟨z, hzo, hrun⟩ := alloc_run hop hz
            have hwr : Region.wanted o (yielded ops tmps) = true := by simp [Region.wanted, hgd]
            have hst := stepG_frm_op (P := P) (b := b) (tmps := tmps) (rest := rest) (k := k) (D := D) (cs := cs) (w := w) ho hwr (by rw [hop]; rfl)
            have hfin := finish_frm b tmps ops i rest k D (.pointer (some ⟨w.heap.size, 0, none⟩)) o ho
            have hal := rel_alloc_plain hR (Obj.cells z ty (0, 0))
            have hp' := hp.more hR hG.size ha hBi hz hzo hdn (fun a' b' t' hb' ha' => by
              have h1 := hBd a' b' hb'
              have := hS.dis i a' d ty t' (by omega) hiq h1.1 h1.2 ha ha'
              subst this; rw [hBi] at hb'; cases hb')
            refine FWc.head (.one (step_lone_go ?_)) (s' := lone (frm b (cput tmps (some d) (.pointer (some ⟨w.heap.size, 0, none⟩))) (.inRegion ops rest :: k) D) cs (w.alloc (.cells z ty))) ?_
            · rw [hdst] at hfin
              rw [hst, ← hfin]; simp [stepG.apply, hrun]
            · rw [← hrest]
              refine ih _ (listed.setIfInBounds i true) listed1 R (A.erase i) _ ts H E (w.alloc (.cells z ty)) _ told D ?_ hRn (hAn.erase i) (fun j => ?_) (fun a => ?_) (fun a bk hb => ?_) (by simp [hsz]) hsz1 (hcl.set hir) (fun j hj => ?_) (fun a h1 h2 => ?_) (fun j h1 h2 => ?_) h hal.1 (hT.mono hal.2.mono) hp' (hG.trans hal.2) (hrd.mono hal.2.mono) (hD.grow hR hal.2)
              · rw [List.length_erase_of_mem hiA]; have := List.length_pos_of_mem hiA; omega
              · rw [hRm j]
                by_cases e : j = i
                · subst e; constructor <;> intro h <;> omega
                · rw [getD_set_ne true (Ne.symm e)]
              · rw [hAn.mem_erase_iff, hAm a]
                by_cases e : a = i
                · subst e; simp
                · simp [e]
              · by_cases e : a = i
                · subst e; omega
                · simp only [if_neg e] at hb; exact hBd a bk hb
              · rw [getD_set_ne true (by omega)]; exact h12 j hj
              · by_cases e : a = i
                · subst e; rw [getD_set_self true (by omega)]; simp
                · rw [getD_set_ne true (Ne.symm e)]; simp only [if_neg e]; exact hlB a h1 h2
              · rw [getD_set_ne true (by omega)]; exact hlq j h1 h2
          · exact absurd ⟨i, hir, by omega⟩ htail
    · have hno : ∀ j, j ∈ Region.ready .any ops listed → ¬ j < q := fun j hj hq => hex ⟨j, hj, hq⟩
      have hA0 : ∀ a, p ≤ a → a < q → ∃ bk, B a = some bk := fun a h1 h2 => by
        cases e : B a with
        | some bk => exact ⟨bk, rfl⟩
        | none =>
          obtain ⟨⟨d, ty⟩, ha⟩ := Option.isSome_iff_exists.1 (hS.al a h1 h2)
          obtain ⟨o', ho', hop, hdst, hgd, haf⟩ := alOf_inv ha
          exact absurd h2 (hno a (mem_ready.2 ⟨by rw [hlB a h1 h2, e]; rfl, o', ho', fun ed he hb => by rw [haf ed he] at hb; cases hb⟩))
      have hAe : A = [] := by
        rw [List.eq_nil_iff_forall_not_mem]
        intro a ha
        obtain ⟨h1, h2, h3⟩ := (hAm a).1 ha
        obtain ⟨bk, hbk⟩ := hA0 a h1 h2
        rw [h3] at hbk; cases hbk
      refine done (fuel + 1) t listed listed1 B _ ts H E w tmps told D (fun i hi => allL i (fun j hj hjp => hno j hj (by have := hS.pq; omega)) (hS.rq i hi)) hA0 hBd hsz hsz1 h12 hlB hlq ?_ h hR hT hp hG hrd hD
      rw [← hcnt R listed listed1 hRn hRm h12, hf, hAe]; rfl


def reqOf (ops : Array Oper) (p q : Nat) : List Nat := (List.range p).filter fun i => (List.range' q (ops.size - q)).all fun j => wt ops j i
def lateB (ops : Array Oper) (i : Nat) (o : Oper) : Bool := quiet1 (clOf o.op) && (List.range ops.size).all fun j => j == i || wt ops j i || wt ops i j || (match ops[j]? with | some oj => o.apart ops oj | none => true)
def splitXop (ops : Array Oper) (p q : Nat) (req : List Nat) (i : Nat) (o : Oper) : Bool :=
  if i < p then guardLt p o && !(isSelect o.op) && o.after.all (fun e => !(Region.binds .any e) || decide (e.on < i)) &&
    ((List.range' p (q - p)).all fun a => match alOf ops a with | some (d, _) => noD ops o d | none => false) && (req.contains i || lateB ops i o)
  else if i < q then match alOf ops i with
    | some (d, t) => (List.range' p (q - p)).all fun a => a == i || (match alOf ops a with | some (d', _) => !(Nat.beq d' d) | none => false)
    | none => false
  else (List.range' p (q - p)).all fun a => wt ops i a
def splitXB (ops : Array Oper) (p q : Nat) : Bool :=
  decide (p ≤ q) && decide (q ≤ ops.size) && (List.range ops.size).all fun i => match ops[i]? with | some o => splitXop ops p q (reqOf ops p q) i o | none => true

theorem splitXB_ok (h : splitXB ops p q = true) : SplitX ops p q (reqOf ops p q) := by
  simp only [splitXB, Bool.and_eq_true, decide_eq_true_eq, List.all_eq_true, List.mem_range] at h
  obtain ⟨⟨h1, h2⟩, h3⟩ := h
  have key : ∀ i o, ops[i]? = some o → splitXop ops p q (reqOf ops p q) i o = true := fun i o ho => by
    have := h3 i (Array.getElem?_eq_some_iff.1 ho).1
    rwa [ho] at this
  refine ⟨h1, h2, fun i o hi ho => ?_, fun a h4 h5 => ?_, fun a a' d t t' h4 h5 h6 h7 h8 h9 => ?_, fun i hi => ?_, fun j i h4 h5 h6 => ?_, fun i o hi hn ho => ?_⟩
  · have := key i o ho
    simp only [splitXop, if_pos hi, Bool.and_eq_true, Bool.not_eq_true', List.all_eq_true, Array.all_eq_true', decide_eq_true_eq] at this
    refine ⟨this.1.1.1.1, this.1.1.1.2, fun e he hb => by
      have := this.1.1.2 e he
      simpa [hb] using this, fun a d t ha h4 h5 => ?_⟩
    have := this.1.2 a (by rw [List.mem_range'_1]; omega)
    rw [ha] at this
    exact noD_spec this
  · obtain ⟨o, ho⟩ : ∃ o, ops[a]? = some o := by
      have : a < ops.size := by omega
      exact ⟨ops[a], by simp [this]⟩
    have := key a o ho
    simp only [splitXop, if_neg (show ¬ a < p by omega), if_pos h5] at this
    cases e : alOf ops a with
    | some x => rfl
    | none => rw [e] at this; cases this
  · obtain ⟨o, ho, _⟩ := alOf_inv h8
    have := key a o ho
    simp only [splitXop, if_neg (show ¬ a < p by omega), if_pos h5, h8, List.all_eq_true] at this
    have := this a' (by rw [List.mem_range'_1]; omega)
    rw [h9] at this
    simp at this
    exact this.symm
  · simp only [reqOf, List.mem_filter, List.mem_range] at hi
    exact hi.1
  · rcases h6 with h6 | h6
    · simp only [reqOf, List.mem_filter, List.all_eq_true] at h6
      exact h6.2 j (by rw [List.mem_range'_1]; omega)
    · obtain ⟨o, ho⟩ : ∃ o, ops[j]? = some o := ⟨ops[j], by simp [h5]⟩
      have := key j o ho
      simp only [splitXop, if_neg (show ¬ j < p by omega), if_neg (show ¬ j < q by omega), List.all_eq_true] at this
      exact this i (by rw [List.mem_range'_1]; omega)
  · have := key i o ho
    simp only [splitXop, if_pos hi, Bool.and_eq_true, Bool.or_eq_true] at this
    rcases this.2 with h | h
    · exact absurd (by simpa using h) hn
    · simp only [lateB, Bool.and_eq_true, List.all_eq_true, List.mem_range, Bool.or_eq_true, beq_iff_eq] at h
      refine ⟨h.1, fun j oj hoj hji hm hm2 => ?_⟩
      have := h.2 j (Array.getElem?_eq_some_iff.1 hoj).1
      rw [hoj] at this
      rcases this with ((h | h) | h) | h
      · exact absurd h hji
      · unfold wt at h; rw [hm] at h; cases h
      · unfold wt at h; rw [hm2] at h; cases h
      · exact h

/-- A region that draws, with variables made aside. -/
theorem FW.drawX (hm : P.follows .mixedOrders = true) (hI : ∀ j oj, ops[j]? = some oj → imp2 j = false → nonImp (clOf oj.op) = true) (hI2 : ∀ j oj, ops[j]? = some oj → quiet1 (clOf oj.op) = true → imp2 j = false) (hS : splitXB ops p q = true) (hz : ∀ a d t, p ≤ a → a < q → alOf ops a = some (d, t) → ∃ cs, zeroCells P t = some cs) {l1 l2 : List (Nat × Bool)} (hB1 : ordGB (headOps ops p) imp l1 = true)
    (hrq : ∀ x ∈ l1, x.2 = false → x.1 ∈ reqOf ops p q) (hB2 : ordG ops imp2 (masks [] ops.toList) l2 (listQ ops q) = true) (hl2 : l2.length = ops.size - q) {id : Nat} {ts : Nat → AV} {H : List AO}
    (h : runG P G (headOps ops p) (wt ops) imp (fun W ts H => runG P G ops (wt ops) imp2 (fun _ ts H => FW P G rd n k ts H Q) (ones (List.range' p (q - p)) ++ l2) W ts H) l1 (fun _ _ => True) ts H) :
    FW P G rd n (.code (.region id ops true) :: k) ts H Q := by
  have hS := splitXB_ok hS
  have hpq := hS.pq
  have hqs := hS.qs
  simp only [ordGB, Bool.and_eq_true, beq_iff_eq] at hB1
  have hsz : (headOps ops p).size = p := by simp [headOps]; omega
  have hcl0 : ∀ (o : Array Oper) (m : Nat), Closed o (Array.replicate m false) := fun o m j oj ho hl => by
    exfalso
    rcases Nat.lt_or_ge j m with h1 | h1 <;> simp [Array.getD, h1] at hl
  intro hk E w tmps hH hT b D cs hrd
  have hD : MarksOk w D := trivial
  have hk' := hk
  rw [todoOk_cons, Bool.and_eq_true] at hk'
  have hops : ops.all (operOk n) = true := by simpa [itemOk, codeOk] using hk'.1
  have hH1 := rel_same hH (w' := { w with drawn := w.drawn + 1 }) rfl
  have hG : Grow H E w H E { w with drawn := w.drawn + 1 } := ⟨hH1.2, Nat.le_refl _, fun _ _ _ => rfl, fun _ h => .inl h, fun _ h => .inl h, rfl, rfl, rfl⟩
  have hclQ : Closed ops (listQ ops q) := by
    have := full_closed hS (listed := Array.replicate p true) (by simp) (fun j o ho hl e he hb => by
      have hjp : j < p := by
        by_cases h1 : j < p
        · exact h1
        · rw [headOps_none (by omega)] at ho; cases ho
      have := (hS.hd j o hjp (by rw [← headOps_get hjp]; exact ho)).2.2.1 e he hb
      have h2 : e.on < p := by omega
      simp [Array.getD, h2])
    have e : full ops p q (Array.replicate p true) = listQ ops q := by
      unfold full listQ
      congr 1
      apply List.map_congr_left
      intro i hi
      by_cases h1 : i < p
      · simp [h1, Array.getD]; omega
      · simp [h1]
    rwa [e] at this
  have hX : anyX P G (headOps ops p) imp (reqOf ops p q) (Exit P G ops imp2 (fun ts H => FW P G rd n k ts H Q) p q) p (fun _ _ => True) (Array.replicate p false) ts H := by
    have h1 : runG P G (headOps ops p) (wt ops) imp (fun W ts H => runR P G ops imp2 (fun ts H => runG P G ops (wt ops) imp2 (fun _ ts H => FW P G rd n k ts H Q) l2 W ts H) (List.range' p (q - p)) ts H) l1 (fun _ _ => True) ts H := by
      refine runG_monoK (fun W ts H h => ?_) h
      exact runG_ones _ ts H (fun a ha => by rw [List.mem_range'_1] at ha; exact hS.al a ha.1 (by omega)) h
    have h2 := ordX_sound (req := reqOf ops p q) (Ex := Exit P G ops imp2 (fun ts H => FW P G rd n k ts H Q) p q) exit_mono
      (fun listed j i hls hcl hj hu hi => by
        rw [hsz] at hls hi
        have hjp : j < p := by
          obtain ⟨_, o, ho, _⟩ := mem_ready.1 hj
          by_cases h1 : j < p
          · exact h1
          · rw [headOps_none (by omega)] at ho; cases ho
        have hclf := full_closed hS hls hcl
        have hrf : j ∈ Region.ready .any ops (full ops p q listed) := (ready_head (p := p) (fun m hm => by rw [full_get true (by omega), if_pos hm]) (fun i o hi ho => (hS.hd i o hi ho).2.2.1) hjp (by simp [full]; omega) (by omega)).2 hj
        exact masks_wait (ops := ops) hclf hrf (i := i) (by rw [full_get true (by omega), if_pos hi]; exact hu))
      (fun i oi hn ho C v W listed ts H hCE hls hcl hr hy hC hE => by
        have hip : i < p := by
          by_cases h1 : i < p
          · exact h1
          · rw [headOps_none (by omega)] at ho; cases ho
        exact exit_late hS hI hI2 hn hip (by rw [← headOps_get hip]; exact ho) hCE (by rw [← hsz]; exact hls) hcl hr hy hC hE)
      (fun W listed ts H hls hr hK => by
        rw [hsz] at hls
        have hall : ∀ i, i < p → listed.getD i true = true := by
          intro i
          induction i using Nat.strongRecOn with
          | ind i ihi =>
            intro hi
            cases e : listed.getD i true with
            | true => rfl
            | false =>
              exfalso
              obtain ⟨o, ho⟩ : ∃ o, ops[i]? = some o := by
                have : i < ops.size := by omega
                exact ⟨ops[i], by simp [this]⟩
              have : i ∈ Region.ready .any (headOps ops p) listed := mem_ready.2 ⟨e, o, by rw [headOps_get hi]; exact ho, fun ed he hb => by
                have h1 := (hS.hd i o hi ho).2.2.1 ed he hb
                have h2 := ihi ed.on h1 (by omega)
                have h3 : ed.on < listed.size := by omega
                simpa [Array.getD, h3] using h2⟩
              rw [hr] at this; cases this
        have e1 : unl p listed = 0 := by
          unfold unl
          rw [List.length_eq_zero_iff, List.filter_eq_nil_iff]
          intro i hi
          rw [List.mem_range] at hi
          simp [hall i hi]
        have e2 : full ops p q listed = listQ ops q := by
          unfold full listQ
          congr 1
          apply List.map_congr_left
          intro i hi
          by_cases h1 : i < p
          · rw [if_pos h1, hall i h1]; simp; omega
          · rw [if_neg h1]
        unfold Exit
        rw [e1, e2]
        refine runR_monoK (fun ts H h => ?_) _ ts H hK
        have h1 := ordG_sound l2 W _ ts H hclQ hB2 h
        rw [hl2] at h1
        rw [Nat.zero_add]; exact h1)
      l1 (fun _ _ => True) (Array.replicate (headOps ops p).size false) ts H (by simp) hrq (hcl0 _ _) hB1.2 h1
    rw [hB1.1, hsz] at h2
    exact h2
  have := pendX_run (rd := rd) (n := n) (k := k) (Q := Q) (imp := imp) (imp2 := imp2) hS hz hops hk'.2 (W := fun _ _ => True) (b := b) (cs := cs) (H0 := H) (E0 := E) (w0 := w)
    ops.size (w.tape w.drawn (.order b.fn id)) (Array.replicate ops.size false) (Array.replicate p false) (List.range p) (List.range' p (q - p)) (fun _ => none) ts H E { w with drawn := w.drawn + 1 } tmps tmps D
    (by simp; omega) List.nodup_range (List.nodup_range') (fun i => by
      rw [List.mem_range]
      constructor
      · intro h
        have : i < ops.size := by omega
        exact ⟨h, by simp [Array.getD, this]⟩
      · exact fun h => h.1) (fun a => by rw [List.mem_range'_1]; constructor <;> intro h <;> (try exact ⟨h.1, by omega, rfl⟩) <;> exact ⟨h.1, by omega⟩) (fun a bk h => by cases h) (by simp) (by simp)
    (hcl0 _ _) (fun j hj => by
      have : j < ops.size := by omega
      simp [Array.getD, this, hj]) (fun a h1 h2 => by
      have : a < ops.size := by omega
      simp [Array.getD, this]) (fun j h1 h2 => by simp [Array.getD, h2]) (by simpa using hX) hH1.1 (hT.mono hH1.2)
    ⟨fun a bk h => (by cases h), fun a a' bk h => (by cases h), fun a a' b1 b2 d t t' h => (by cases h), rfl, fun i _ => rfl⟩ hG hrd hD
  obtain ⟨L, ts', H', E', w', tmps', D', todo', q1, h2, h3, h4, h6, h7, h8⟩ := this
  refine ⟨L, ts', H', E', w', tmps', D', todo', q1, h2, h3, h4, h6, h7, h8.pre P (.one (step_lone_go ?_))⟩
  simp [stepG, stepG.exec, frm, Region.schedule, Region.linearise, hm, choose, Sem.run, Question.forced, Question.cut]
end
end
end Go.Ab
