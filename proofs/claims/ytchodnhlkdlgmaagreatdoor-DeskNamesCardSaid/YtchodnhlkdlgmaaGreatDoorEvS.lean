/-
  The operations in one; and a walk through a frame's code as far as it goes without a call, a loop or a region that draws its order.
-/
import Derived.Test.YtchodnhlkdlgmaaGreatDoorEvFh
set_option linter.unusedVariables false
set_option linter.unusedSimpArgs false
namespace Go.Ab
section
variable {P : Program} {G : Gl} {n : Nat} {o : Oper} {ts : Nat → AV} {H : List AO}

theorem aop_sound {r : AR} (h : aop P G o.op (ev ts) H = some r) (hC : r.c) : OpV P G n o ts H r.v r.H := by
  unfold aop at h
  split at h
  · cases h; exact opv_move (by assumption)
  · cases h; exact opv_assign (by assumption)
  · split at h
    · cases h; exact opv_pick (by assumption) (by assumption)
    · cases h
  · split at h
    · cases h; exact opv_alloc (by assumption) (by assumption)
    · cases h
  · split at h
    · cases h; exact opv_box (by assumption) (by assumption)
    · cases h
  · rename_i t a ho
    cases hl : aload P G t (ev ts a) H with
    | none => rw [hl] at h; cases h
    | some v => rw [hl] at h; cases h; exact opv_load ho hl
  · rename_i t a x ho
    cases hl : astore P t (ev ts a) (ev ts x) H with
    | none => rw [hl] at h; cases h
    | some v => rw [hl] at h; cases h; exact opv_store ho hl
  · split at h
    · cases h; exact opv_nilCheck (by assumption) (by assumption)
    · cases h
  · rename_i op t x y yt ho
    cases hl : aBin P op t (ev ts x) (ev ts y) with
    | none => rw [hl] at h; cases h
    | some p => rw [hl] at h; cases h; exact opv_bin (C := p.1) ho hl hC
  · split at h
    · cases h; exact opv_not (by assumption) (by assumption)
    · cases h
  · split at h
    · cases h; exact opv_neg (by assumption) (by assumption)
    · cases h
  · split at h
    · rename_i d e1 e2 e3; cases h; exact opv_convert (by assumption) e1 e3 ⟨_, e2⟩
    · cases h
  · split at h
    · cases h
    · rename_i hne hd; cases h; exact opv_iface (by assumption) (by assumption) (fun ms e => hne ms e)
    · cases h
  · cases h; exact opv_func (by assumption)
  · rename_i s x f ho
    split at h
    · rename_i k hk
      cases hl : ptrAdd (ev ts x) k with
      | none => rw [hl] at h; cases h
      | some v => rw [hl] at h; cases h; exact opv_fieldAddr ho hk hl
    · cases h
  · rename_i t x i ho
    split at h
    · rename_i k q hi
      cases hl : aIdxAddr P t (ev ts x) q H with
      | none => rw [hl] at h; cases h
      | some p => rw [hl] at h; cases h; exact opv_indexAddr (C := p.1) ho hi hl hC
    · cases h
  · rename_i t x i ho
    split at h
    · rename_i k q hi
      cases hl : aIdx P t (ev ts x) q with
      | none => rw [hl] at h; cases h
      | some p => rw [hl] at h; cases h; exact opv_index (C := p.1) ho hi hl hC
    · cases h
  · rename_i t x f ho
    cases hl : aField P t (ev ts x) f with
    | none => rw [hl] at h; cases h
    | some v => rw [hl] at h; cases h; exact opv_field ho hl
  · rename_i x i ho
    split at h
    · rename_i vs hv
      cases hl : vs[i]? with
      | none => rw [hl] at h; cases h
      | some v => rw [hl] at h; cases h; exact opv_extract ho hv hl
    · cases h
  · rename_i t parts ho
    cases hl : aBuild P t (parts.toList.map fun p => (p.1, ev ts p.2)) with
    | none => rw [hl] at h; cases h
    | some v => rw [hl] at h; cases h; exact opv_build ho hl
  · rename_i t len parts ho
    split at h
    · rename_i elem hu
      split at h
      · rename_i z hz
        split at h
        · rename_i hle
          cases hl : aFillEs len z.cells.length (List.replicate len z) (parts.toList.map fun p => (p.1, ev ts p.2)) with
          | none => rw [hl] at h; cases h
          | some es => rw [hl] at h; cases h; exact opv_buildSlice ho hu hz hle hl
        · cases h
      · cases h
    · cases h
  · rename_i t l c ho
    split at h
    · rename_i elem k1 m k2 q hu hl hc
      split at h
      · rename_i z by' hz hb
        cases h
        exact opv_makeSlice ho hu hl hc hz hb hC
      · cases h
    · cases h
  · rename_i t x lo hi mx ho
    cases hl : aSlice P t (ev ts x) H (lo.map (ev ts)) (hi.map (ev ts)) (mx.map (ev ts)) with
    | none => rw [hl] at h; cases h
    | some p => rw [hl] at h; cases h; exact opv_slice (C := p.1) ho hl hC
  · rename_i args tys ho
    split at h
    · rename_i t x ht hx
      cases hl : aLen P t (ev ts x) with
      | none => rw [hl] at h; cases h
      | some q => rw [hl] at h; cases h; exact opv_len ho ht hx hl
    · cases h
  · unfold aop2 at h
    split at h
    · rename_i args tys ho
      split at h
      · rename_i t u s x h1 h2 h3 h4
        split at h
        · rename_i kd huu
          exact opv_appMake ho h1 h2 h3 h4 huu h hC
        · exact opv_append ho h1 h2 h3 h4 h hC
      · cases h
    · rename_i args tys ho
      split at h
      · rename_i t x h1 h2
        exact opv_clear ho h1 h2 h hC
      · cases h
    · rename_i t ho
      cases h; exact opv_makeMap ho
    · rename_i t m k x ho
      exact opv_mapUpdate ho h hC
    · rename_i t x ho
      exact opv_range ho h hC
    · rename_i x ho
      exact opv_entry ho h hC
    · rename_i t m k cm ho
      exact opv_lookup ho h hC
    · unfold aop3 at h
      split at h
      · rename_i args tys ho
        split at h
        · rename_i a b hab
          cases hv : aMM false (ev ts a) (ev ts b) with
          | none => rw [hv] at h; cases h
          | some v => rw [hv] at h; cases h; exact opv_mm (mx := false) ho hab hv
        · cases h
      · rename_i args tys ho
        split at h
        · rename_i a b hab
          cases hv : aMM true (ev ts a) (ev ts b) with
          | none => rw [hv] at h; cases h
          | some v => rw [hv] at h; cases h; exact opv_mm (mx := true) ho hab hv
        · cases h
      · rename_i args tys ho
        split at h
        · rename_i t x h1 h2
          cases hv : aCap P t (ev ts x) with
          | none => rw [hv] at h; cases h
          | some v => rw [hv] at h; cases h; exact opv_cap ho h1 h2 hv
        · cases h
      · rename_i args tys ho
        split at h
        · rename_i t d x h1 h2 h3
          exact opv_copy ho h1 h2 h3 h hC
        · cases h
      · rename_i t m k x ho
        exact opv_insert ho h hC
      · rename_i t m k ho
        exact opv_mapEntry ho h hC
      · rename_i t m s x ho
        exact opv_entryStore ho h hC
      · rename_i x xt t cm ho
        cases hv : aTA P (ev ts x) t cm with
        | none => rw [hv] at h; cases h
        | some v => rw [hv] at h; cases h; exact opv_typeAssert ho hv
      · cases h

theorem aop_defer {r : AR} (h : aop P G o.op (ev ts) H = some r) : isDefer o.op = false := by
  cases ho : o.op <;> first | rfl | (rw [ho] at h; simp [aop, aop2, aop3] at h)

/-! ### The walk -/

variable (P G)
def sym (f0 : Nat) (rd : Option Nat) (n : Nat) (k0 : List Item) (ts : Nat → AV) (H : List AO) (Q : Lv → (Nat → AV) → List AO → Prop) : Prop :=
  match f0 with
  | 0 => FW P G rd n k0 ts H Q
  | f + 1 => match k0 with
    | [] => Q .nor ts H
    | .code .skip :: k => sym f rd n k ts H Q
    | .code (.label _) :: k => sym f rd n k ts H Q
    | .code .ret :: k => Q .ret ts H
    | .code (.seq a b) :: k => sym f rd n (.code a :: .code b :: k) ts H Q
    | .code (.block id c) :: k => sym f rd n (.code c :: .inBlock id :: k) ts H Q
    | .code (.scope c) :: k => sym f rd n (.code c :: .inScope c :: k) ts H Q
    | .code (.exit id) :: k => match exitTo id k with
      | some k' => sym f rd n k' ts H Q
      | none => Q (.exit id) ts H
    | .code (.cond c a b) :: k => match ev ts c with
      | .c (.bool t) => (t = true → sym f rd n (.code a :: k) ts H Q) ∧ (t = false → sym f rd n (.code b :: k) ts H Q)
      | _ => FW P G rd n (.code (.cond c a b) :: k) ts H Q
    | .code (.region id ops false) :: k => sym f rd n (.inRegion ops (List.range ops.size) :: k) ts H Q
    | .inBlock _ :: k => sym f rd n k ts H Q
    | .inScope _ :: k => sym f rd n k ts H Q
    | .inRegion ops [] :: k => sym f rd n k ts H Q
    | .inRegion ops (i :: rest) :: k => match ops[i]? with
      | some o => match o.guard with
        | none => match aop P G o.op (ev ts) H with
          | some r => r.c ∧ sym f rd n (.inRegion ops rest :: k) (put ts o.dst r.v) r.H Q
          | none => FW P G rd n (.inRegion ops (i :: rest) :: k) ts H Q
        | some (j, want) => match (ops[j]?).bind (·.dst) with
          | some d => match ts d with
            | .c (.bool b) => (b = want → match aop P G o.op (ev (upd ts d (.c (.bool want)))) H with
                | some r => r.c ∧ sym f rd n (.inRegion ops rest :: k) (put (upd ts d (.c (.bool want))) o.dst r.v) r.H Q
                | none => FW P G rd n (.inRegion ops (i :: rest) :: k) (upd ts d (.c (.bool want))) H Q) ∧
              (b = !want → sym f rd n (.inRegion ops rest :: k) (put (upd ts d (.c (.bool !want))) o.dst .un) H Q)
            | _ => FW P G rd n (.inRegion ops (i :: rest) :: k) ts H Q
          | none => FW P G rd n (.inRegion ops (i :: rest) :: k) ts H Q
      | none => FW P G rd n (.inRegion ops (i :: rest) :: k) ts H Q
    | k => FW P G rd n k ts H Q
variable {P G}

theorem upd_self {d : Nat} {v : AV} (h : ts d = v) : upd ts d v = ts := by
  funext i; unfold upd; split
  · rename_i e; rw [e, h]
  · rfl

theorem sym_sound : ∀ (f : Nat) {rd : Option Nat} {n : Nat} {k : List Item} {ts : Nat → AV} {H : List AO} {Q : Lv → (Nat → AV) → List AO → Prop}, sym P G f rd n k ts H Q → FW P G rd n k ts H Q
  | 0, rd, n, k, ts, H, Q, h => by unfold sym at h; exact h
  | f + 1, rd, n, k, ts, H, Q, h => by
    unfold sym at h
    simp only at h
    split at h
    · exact .nil h
    · exact .skip (sym_sound f h)
    · exact .label (sym_sound f h)
    · exact .ret h
    · exact .seq (sym_sound f h)
    · exact .block (sym_sound f h)
    · exact .scope (sym_sound f h)
    · split at h
      · exact .exit (by assumption) (sym_sound f h)
      · exact .exitOut (by assumption) h
    · split at h
      · exact .cond (by assumption) (fun e => sym_sound f (h.1 e)) (fun e => sym_sound f (h.2 e))
      · exact h
    · exact .region (sym_sound f h)
    · exact .inBlock (sym_sound f h)
    · exact .inScope (sym_sound f h)
    · exact .regionEnd (sym_sound f h)
    · rename_i ops i rest k
      split at h
      · rename_i o ho
        split at h
        · rename_i hg
          split at h
          · rename_i r hr
            exact FW.op ho (by simp [wantedA, hg]) (aop_defer hr) ((aop_sound hr h.1).toS (sym_sound f h.2))
          · exact h
        · rename_i j want hg
          split at h
          · rename_i d hd
            split at h
            · rename_i b hb
              have hgv : gval ops ts j = some b := by simp [gval, hd, hb]
              by_cases e : b = want
              · subst e
                have h1 := h.1 rfl
                rw [upd_self hb] at h1
                split at h1
                · rename_i r hr
                  exact FW.op ho (by simp [wantedA, hg, hgv]) (aop_defer hr) ((aop_sound hr h1.1).toS (sym_sound f h1.2))
                · exact h1
              · have e2 : b = !want := by cases b <;> cases want <;> simp_all
                have h2 := h.2 e2
                rw [← e2, upd_self hb] at h2
                exact FW.opSkip ho (by simp [wantedA, hg, hgv, e]) (sym_sound f h2)
            · exact h
          · exact h
      · exact h
    · exact h
end
end Go.Ab
