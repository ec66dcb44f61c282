/-
  A call on an empty memory of its own, whose result is told by value: it may be made from anywhere, and leaves memory as it was.
-/
import Derived.Test.YtchodnhlkdlgmaaGreatDoorEvS
set_option linter.unusedVariables false
set_option linter.unusedSimpArgs false
namespace Go.Ab

mutual
/-- A value that names no object. -/
def AV.pur : AV → Bool
  | .c _ => true
  | .agg cs => AV.purL cs
  | .tup cs => AV.purL cs
  | .ptr _ _ => false
  | .eptr _ _ _ => false
  | .sl _ _ _ _ => false
  | .zs => true
  | .isl es => AV.purL es
  | .iptr cs _ => AV.purL cs
  | .fn _ fs cs => AV.purL fs && AV.purL cs
  | .yld _ => false
  | .ifc _ v => AV.pur v
  | .mp _ => false
  | .gp _ _ => true
  | .bs _ _ _ _ _ => false
  | .any => false
def AV.purL : List AV → Bool
  | [] => true
  | a :: l => AV.pur a && AV.purL l
end

theorem purL_eq : ∀ l : List AV, AV.purL l = l.all AV.pur
  | [] => rfl
  | a :: l => by simp [AV.purL, purL_eq l]

theorem purL_getD {l : List AV} (h : AV.purL l = true) (i : Nat) : (l.getD i .un).pur = true := by
  rw [purL_eq, List.all_eq_true] at h
  rcases Nat.lt_or_ge i l.length with hi | hi
  · have e : l.getD i .un = l[i] := by simp [List.getD, hi]
    rw [e]; exact h _ (List.getElem_mem hi)
  · have e : l.getD i .un = .un := by simp [List.getD, List.getElem?_eq_none hi]
    rw [e]; rfl

theorem pur_cells {a : AV} (h : a.pur = true) (j : Nat) : (a.cells.getD j .un).pur = true := by
  by_cases hc : ∃ cs, a = .agg cs
  · obtain ⟨cs, rfl⟩ := hc
    exact purL_getD (l := cs) (by simpa only [AV.pur] using h) j
  · have e : a.cells = [a] := by
      cases a <;> first | rfl | (exact absurd ⟨_, rfl⟩ hc)
    rw [e]
    exact purL_getD (by simp only [AV.purL, h, Bool.and_self]) j

/-- Of a value that names no object the places of objects are nothing. -/
theorem RepV.pure {w : World} {E E' : En} (hf : ∀ b, E.fro b → E'.fro b) {a : AV} {v : Value} (h : RepV w E a v) (hp : a.pur = true) : RepV w E' a v := by
  induction h with
  | c h => exact .c h
  | agg hl hc _ ih => exact .agg hl hc (fun i hi => ih i hi (purL_getD (by simpa [AV.pur] using hp) i))
  | tup hl _ ih => exact .tup hl (fun i hi => ih i hi (purL_getD (by simpa [AV.pur] using hp) i))
  | ptr h => simp [AV.pur] at hp
  | eptr h => simp [AV.pur] at hp
  | sl => simp [AV.pur] at hp
  | zs => exact .zs
  | isl h1 hcc he hcell hc _ ih =>
    exact .isl (fun h0 => ⟨hf _ (h1 h0).1, (h1 h0).2⟩) hcc he hcell hc (fun i j hi hj => ih i j hi hj (pur_cells (purL_getD (by simpa [AV.pur] using hp) i) j))
  | iptr h1 hcell hc _ ih => exact .iptr (hf _ h1) hcell hc (fun j hj => ih j hj (purL_getD (by simpa [AV.pur] using hp) j))
  | fn hl hl2 _ _ ih1 ih2 =>
    simp only [AV.pur, Bool.and_eq_true] at hp
    exact .fn hl hl2 (fun i hi => ih1 i hi (purL_getD hp.1 i)) (fun i hi => ih2 i hi (purL_getD hp.2 i))
  | yld h => simp [AV.pur] at hp
  | ifc _ ih => exact .ifc (ih (by simpa [AV.pur] using hp))
  | mp h => simp [AV.pur] at hp
  | gp => exact .gp
  | bs => simp [AV.pur] at hp
  | any => simp [AV.pur] at hp

/-! ### Telling by value -/

def mapO (f : AV → Option AV) : List AV → Option (List AV)
  | [] => some []
  | a :: l => match f a, mapO f l with
    | some b, some m => some (b :: m)
    | _, _ => none

theorem mapO_get {f : AV → Option AV} : ∀ {l m : List AV}, mapO f l = some m → m.length = l.length ∧ ∀ i, i < l.length → f (l.getD i .un) = some (m.getD i .un)
  | [], m, h => by simp only [mapO] at h; cases h; exact ⟨rfl, fun i hi => by simp at hi⟩
  | a :: l, m, h => by
    simp only [mapO] at h
    split at h
    · rename_i b m' hb hm
      cases h
      obtain ⟨h1, h2⟩ := mapO_get hm
      refine ⟨by simp [h1], fun i hi => ?_⟩
      cases i with
      | zero => simpa [List.getD] using hb
      | succ i => simpa [List.getD] using h2 i (by simpa using hi)
    · cases h

/-- A value with what it leads to. -/
def frz : Nat → List AO → AV → Option AV
  | 0, _, _ => none
  | n + 1, H, a => if a.pur = true then some a else match a with
    | .agg cs => (mapO (frz n H) cs).map .agg
    | .tup cs => (mapO (frz n H) cs).map .tup
    | .fn f fs cs => match mapO (frz n H) fs, mapO (frz n H) cs with
      | some fs', some cs' => some (.fn f fs' cs')
      | _, _ => none
    | .ifc t v => (frz n H v).map (.ifc t)
    | .ptr id off => match H[id]? with
      | some (.cells cs) => (mapO (frz n H) cs).map fun cs' => .iptr cs' off
      | _ => none
    | .sl id st len _ => match H[id]? with
      | some (.arr sz es) => if st + len ≤ es.length then (mapO (frz n H) ((es.drop st).take len)).map .isl else none
      | _ => none
    | _ => none

def AO.isRow : AO → Bool
  | .cells _ => true
  | .arr _ _ => true
  | _ => false
def LiveC (H : List AO) (E : En) (b : Nat) : Prop := ∃ id o l, H[id]? = some o ∧ o.isRow = true ∧ E.loc id = some l ∧ l.b = b

theorem frz_cells {n : Nat} {H : List AO} {a v : AV} (h : frz (n + 1) H a = some v) (he : a.isEl = true) : v.isEl = true ∧ v.cells.length = a.cells.length ∧
    (a.isCell = true → v.isCell = true) ∧ ∀ cs, a = .agg cs → a.pur = false → ∃ cs', v = .agg cs' ∧ mapO (frz n H) cs = some cs' := by
  unfold frz at h
  split at h
  · rename_i hp
    cases h
    exact ⟨he, rfl, fun h => h, fun cs hcs hf => by rw [hp] at hf; cases hf⟩
  · rename_i hp
    split at h
    · rename_i cs
      cases hm : mapO (frz n H) cs with
      | none => rw [hm] at h; cases h
      | some cs' =>
        rw [hm] at h; cases h
        refine ⟨rfl, (mapO_get hm).1, fun h => by simp [AV.isCell] at h, fun ds hds _ => ?_⟩
        cases hds
        exact ⟨cs', rfl, hm⟩
    · simp [AV.isEl] at he
    · split at h
      · cases h; exact ⟨rfl, rfl, fun _ => rfl, fun cs hcs => by cases hcs⟩
      · cases h
    · rename_i t u
      cases hm : frz n H u with
      | none => rw [hm] at h; cases h
      | some v' => rw [hm] at h; cases h; exact ⟨rfl, rfl, fun _ => rfl, fun cs hcs => by cases hcs⟩
    · rename_i id off
      split at h
      · rename_i cs _
        cases hm : mapO (frz n H) cs with
        | none => rw [hm] at h; cases h
        | some cs' => rw [hm] at h; cases h; exact ⟨rfl, rfl, fun _ => rfl, fun cs hcs => by cases hcs⟩
      · cases h
    · split at h
      · rename_i st len _ _ sz es _
        split at h
        · cases hm : mapO (frz n H) ((es.drop st).take len) with
          | none => simp only [hm] at h; cases h
          | some cs' => simp only [hm] at h; cases h; exact ⟨rfl, rfl, fun _ => rfl, fun cs hcs => by cases hcs⟩
        · cases h
      · cases h
    · cases h

theorem frz_sound {G : Gl} {w : World} {E E' : En} {H : List AO} (hH : RelH G w E H) (hf : ∀ b, E.fro b → E'.fro b) (hl : ∀ b, LiveC H E b → E'.fro b) :
    ∀ (n : Nat) {a v : AV} {r : Value}, RepV w E a r → frz n H a = some v → RepV w E' v r
  | 0, a, v, r, _, h => by simp [frz] at h
  | n + 1, a, v, r, hr, h => by
    have h0 := h
    unfold frz at h
    split at h
    · rename_i hp
      cases h
      exact hr.pure hf hp
    · rename_i hp
      -- the cells of an element
      have hcell : ∀ {a v : AV}, frz n H a = some v → a.isCell = true → v.isCell = true := by
        intro a v h1 h2
        cases n with
        | zero => simp [frz] at h1
        | succ m => exact (frz_cells h1 (isEl_of_isCell h2)).2.2.1 h2
      split at h
      · rename_i cs
        cases hm : mapO (frz n H) cs with
        | none => rw [hm] at h; cases h
        | some cs' =>
          rw [hm] at h; cases h
          obtain ⟨h1, h2⟩ := mapO_get hm
          cases hr with
          | agg hl' hc hr =>
            exact .agg (by rw [h1]; exact hl') (fun i hi => hcell (h2 i (by omega)) (hc i (by omega))) (fun i hi => frz_sound hH hf hl n (hr i (by omega)) (h2 i (by omega)))
      · rename_i cs
        cases hm : mapO (frz n H) cs with
        | none => rw [hm] at h; cases h
        | some cs' =>
          rw [hm] at h; cases h
          obtain ⟨h1, h2⟩ := mapO_get hm
          cases hr with
          | tup hl' hr => exact .tup (by rw [h1]; exact hl') (fun i hi => frz_sound hH hf hl n (hr i (by omega)) (h2 i (by omega)))
      · rename_i f fs cs
        split at h
        · rename_i fs' cs' hm1 hm2
          cases h
          obtain ⟨h1, h2⟩ := mapO_get hm1
          obtain ⟨h3, h4⟩ := mapO_get hm2
          cases hr with
          | fn hl1 hl2 hr1 hr2 =>
            exact .fn (by rw [h1]; exact hl1) (by rw [h3]; exact hl2) (fun i hi => frz_sound hH hf hl n (hr1 i (by omega)) (h2 i (by omega))) (fun i hi => frz_sound hH hf hl n (hr2 i (by omega)) (h4 i (by omega)))
        · cases h
      · rename_i t u
        cases hm : frz n H u with
        | none => rw [hm] at h; cases h
        | some v' =>
          rw [hm] at h; cases h
          cases hr with
          | ifc hr => exact .ifc (frz_sound hH hf hl n hr hm)
      · rename_i id off
        split at h
        · rename_i cs ho
          cases hm : mapO (frz n H) cs with
          | none => rw [hm] at h; cases h
          | some cs' =>
            rw [hm] at h; cases h
            obtain ⟨h1, h2⟩ := mapO_get hm
            cases hr with
            | ptr hloc =>
              rename_i l
              obtain ⟨l', hl', c, t, hc, hs, hrr⟩ := hH.obj id _ ho rfl
              rw [hloc] at hl'; cases hl'
              refine .iptr (f := fun j => c.getD (l.base + j) undef) (hl _ ⟨id, _, l, ho, rfl, hloc, rfl⟩) (fun j hj => cell?_row' hc (by omega)) (fun j hj => hcell (h2 j (by omega)) (hrr j (by omega)).1) (fun j hj => frz_sound hH hf hl n (hrr j (by omega)).2 (h2 j (by omega)))
        · cases h
      · rename_i id st len cap
        split at h
        · rename_i sz es ho
          split at h
          · rename_i hle
            cases hm : mapO (frz n H) ((es.drop st).take len) with
            | none => simp only [hm] at h; cases h
            | some es' =>
              simp only [hm] at h; cases h
              obtain ⟨h1, h2⟩ := mapO_get hm
              have hlen : ((es.drop st).take len).length = len := by simp; omega
              rw [hlen] at h1 h2
              cases hr with
              | sl hloc g1 g2 g3 =>
                rename_i l ad cc
                obtain ⟨l', hl', hsz, c, t, hc, hs, hrr⟩ := hH.obj id _ ho rfl
                rw [hloc] at hl'; cases hl'
                have hg : ∀ i, i < len → ((es.drop st).take len).getD i .un = es.getD (st + i) .un := fun i hi => getD_drop_take es .un st len i hi (by omega)
                have had : 0 < len → ad = ⟨l.b, l.base + st * l.sz, none⟩ := fun h0 => (g3 (by omega)).1
                have hn : 0 < len → ∃ m, n = m + 1 := fun h0 => by
                  cases n with
                  | zero => have := h2 0 (by assumption); simp [frz] at this
                  | succ m => exact ⟨m, rfl⟩
                have hb : ∀ i, i < len → (st + i) * sz + sz ≤ es.length * sz := fun i hi => by
                  have := Nat.mul_le_mul_right sz (show st + i + 1 ≤ es.length by omega)
                  rw [Nat.succ_mul] at this; exact this
                -- a cell of an element
                have hel : ∀ i j, i < len → j < sz → ((es'.getD i .un).cells.getD j .un).isCell = true ∧ RepV w E' ((es'.getD i .un).cells.getD j .un) (c.getD (l.base + (st + i) * sz + j) undef) := by
                  intro i j hi hj
                  obtain ⟨m, rfl⟩ := hn (by omega)
                  have hfr := h2 i hi
                  rw [hg i hi] at hfr
                  obtain ⟨k1, k2, k3⟩ := hrr (st + i) (by omega)
                  obtain ⟨q1, q2, q3, q4⟩ := frz_cells hfr k1
                  rcases el_cases k1 with hcc | ⟨cs, hcs⟩
                  · have hj0 : j = 0 := by rw [cells_of_isCell hcc] at k2; simp at k2; omega
                    subst hj0
                    rw [cells_of_isCell (q3 hcc)]
                    refine ⟨q3 hcc, ?_⟩
                    have := (k3 0 hj).2
                    rw [cells_of_isCell hcc] at this
                    exact frz_sound hH hf hl (m + 1) this hfr
                  · by_cases hpp : (es.getD (st + i) .un).pur = true
                    · have : es'.getD i .un = es.getD (st + i) .un := by
                        have := hfr
                        unfold frz at this
                        rw [if_pos hpp] at this
                        exact (Option.some.inj this).symm
                      rw [this]
                      exact ⟨(k3 j hj).1, (k3 j hj).2.pure hf (pur_cells hpp j)⟩
                    · obtain ⟨cs', e1, e2⟩ := q4 cs hcs (by simpa using hpp)
                      obtain ⟨m1, m2⟩ := mapO_get e2
                      rw [e1]
                      rw [hcs] at k2 k3
                      have hj2 : j < cs.length := by simp only [AV.cells] at k2; omega
                      have hmm := m2 j hj2
                      have hcj := (k3 j hj).1
                      refine ⟨?_, ?_⟩
                      · cases m with
                        | zero => simp [frz] at hmm
                        | succ m' => exact (frz_cells hmm (isEl_of_isCell hcj)).2.2.1 hcj
                      · have := (k3 j hj).2
                        exact frz_sound hH hf hl m this hmm
                have hse : ∀ i, i < len → (es'.getD i .un).isEl = true ∧ (es'.getD i .un).cells.length = sz := by
                  intro i hi
                  obtain ⟨m, rfl⟩ := hn (by omega)
                  have hfr := h2 i hi
                  rw [hg i hi] at hfr
                  obtain ⟨k1, k2, k3⟩ := hrr (st + i) (by omega)
                  obtain ⟨q1, q2, q3, q4⟩ := frz_cells hfr k1
                  exact ⟨q1, by rw [q2, k2]⟩
                have key := RepV.isl (w := w) (E := E') (es := es') (ad := ad) (cc := cc) (sz := sz) (f := fun i j => c.getD (l.base + (st + i) * sz + j) undef)
                  (fun h0 => by rw [had (by omega)]; exact ⟨hl _ ⟨id, _, l, ho, rfl, hloc, rfl⟩, rfl⟩) (by omega)
                  (fun i hi => hse i (by omega))
                  (fun i j hi hj => by
                    have hi' : i < len := by omega
                    rw [had (by omega)]
                    have := hb i hi'
                    rw [hsz, show l.base + st * sz + i * sz + j = l.base + (st + i) * sz + j by rw [Nat.add_mul]; omega]
                    exact cell?_row' hc (by omega))
                  (fun i j hi hj => (hel i j (by omega) hj).1) (fun i j hi hj => (hel i j (by omega) hj).2)
                rw [h1] at key
                exact key
          · cases h
        · cases h
      · cases h
termination_by n => n

def GPure (G : Gl) : Prop := ∀ g cs, G g = some cs → AV.purL cs = true

/-- A call that may be made from anywhere, leaves memory as it was, and hands back v. -/
def Pur (P : Program) (G : Gl) (f : FuncId) (args : List AV) (v : AV) : Prop := ∀ (H : List AO) (K : AV → List AO → Prop), K v H → AC P G f args H K

theorem RepL.pure {w : World} {E E' : En} (hf : ∀ b, E.fro b → E'.fro b) {l : List AV} {vs : Array Value} (h : RepL w E l vs) (hp : AV.purL l = true) : RepL w E' l vs :=
  ⟨h.1, fun i hi => (h.2 i hi).pure hf (purL_getD hp i)⟩

/-- A call carried out on a memory of its own. -/
theorem AC.alone {P : Program} {G : Gl} (hG : GPure G) {f : FuncId} {args : List AV} (hp : AV.purL args = true) {K0 : AV → Prop} (h : AC P G f args [] fun v0 H0 => ∃ n v, frz n H0 v0 = some v ∧ K0 v)
    (H : List AO) (K : AV → List AO → Prop) (hK : ∀ v, K0 v → K v H) : AC P G f args H K := by
  refine ⟨h.1, fun E w vargs hH hA cs => ?_⟩
  let E0 : En := { loc := fun _ => none, fro := E.fro }
  have hH0 : RelH G w E0 [] := ⟨fun id o ho => by simp at ho, fun id id' o o' l l' ho => by simp at ho, hH.frob, fun b hb hl => by
    obtain ⟨id, o, l, ho, _⟩ := hl
    simp at ho, fun id l hl => by simp [E0] at hl, fun g cs hg => RepV.pure (E := E) (E' := E0) (fun _ h => h) (hH.gl g cs hg) (by simpa [AV.pur] using hG g cs hg)⟩
  obtain ⟨v0, H0, E', w', r, fr, ⟨n, v, hfz, hv⟩, g1, g2, g3, g4, g5, g6⟩ := h.2 E0 w vargs hH0 (RepL.pure (E := E) (E' := E0) (fun _ h => h) hA hp) cs
  have hnl : ∀ b, ¬ Live [] E0 b := by rintro b ⟨id, o, l, ho, _⟩; simp at ho
  let E2 : En := { loc := E.loc, fro := fun b => E'.fro b ∨ LiveC H0 E' b }
  have hlc : ∀ b, LiveC H0 E' b → w.heap.size ≤ b := by
    rintro b ⟨id, o, l, ho, hr, hl, rfl⟩
    rcases g2.newlive l.b ⟨id, o, l, ho, by cases o <;> first | rfl | (simp [AO.isRow] at hr), hl, rfl⟩ with h1 | h1
    · exact absurd h1 (hnl _)
    · exact h1
  have hsame : ∀ b, b < w.heap.size → w'.heap[b]? = w.heap[b]? := fun b hb => g2.same b hb (hnl b)
  have hm : Mono w E w' E2 := ⟨fun b hb => .inl (g2.mono.fro b hb), fun b hb => by
    obtain ⟨c, t, fz, hc⟩ := hH.frob b hb
    exact hsame b (heap_lt hc), fun id l hl => hl, g2.mono.row⟩
  have hf2 : ∀ b, E2.fro b → E.fro b ∨ w.heap.size ≤ b := by
    rintro b (hb | hb)
    · rcases g2.newfro b hb with h1 | h1 | h1
      · exact .inl h1
      · exact .inr h1
      · exact absurd h1 (hnl b)
    · exact .inr (hlc b hb)
  have hR : RelH G w' E2 H := by
    refine ⟨fun id o ho hlv => ?_, hH.inj, fun b hb => ?_, fun b hb hl => ?_, hH.dom, fun g cs hg => (hH.gl g cs hg).mono hm⟩
    · obtain ⟨l, hl, hr⟩ := hH.obj id o ho hlv
      exact ⟨l, hl, hr.mono hm (hsame _ (Live.lt hH ⟨id, o, l, ho, hlv, hl, rfl⟩))⟩
    · rcases hb with hb | hb
      · exact g1.frob b hb
      · obtain ⟨id, o, l, ho, hr, hl, rfl⟩ := hb
        obtain ⟨l', hl', hrel⟩ := g1.obj id o ho (by cases o <;> first | rfl | (simp [AO.isRow] at hr))
        rw [hl] at hl'; cases hl'
        cases o with
        | cells cs => obtain ⟨c, t, hc, _⟩ := hrel; exact ⟨c, t, _, hc⟩
        | arr sz es => obtain ⟨_, c, t, hc, _⟩ := hrel; exact ⟨c, t, _, hc⟩
        | map es clock => simp [AO.isRow] at hr
        | mit mid since seen stepped => simp [AO.isRow] at hr
        | loop al => simp [AO.isRow] at hr
        | dead => simp [AO.isRow] at hr
    · rcases hf2 b hb with h1 | h1
      · exact hH.sep b h1 hl
      · have := Live.lt hH hl; omega
  refine ⟨v, H, E2, w', r, fr, hK v hv, hR, ⟨hm, g2.size, fun b hb _ => hsame b hb, fun b hb => (hf2 b hb).imp id .inl, fun b hb => .inl hb, g2.os, g2.tape, g2.output⟩, ?_, g4, g5, g6⟩
  exact frz_sound (E' := E2) g1 (fun b hb => Or.inl hb) (fun b hb => Or.inr hb) n g3 hfz

theorem Pur.of_alone {P : Program} {G : Gl} (hG : GPure G) {f : FuncId} {args : List AV} (hp : AV.purL args = true) {v : AV} (h : AC P G f args [] fun v0 H0 => ∃ n, frz n H0 v0 = some v) : Pur P G f args v :=
  fun H K hK => AC.alone hG hp (K0 := fun u => u = v) (h.mono fun v0 H0 ⟨n, hn⟩ => ⟨n, v, hn, rfl⟩) H K (fun u hu => hu ▸ hK)
end Go.Ab
