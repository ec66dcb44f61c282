/- One of the texts that this claim stands on. -/
import Derived.Test.YtminjfnjobgbnaaGreatEv47
set_option linter.unusedVariables false
set_option linter.unusedSimpArgs false
set_option linter.unusedSimpArgs false
set_option linter.unusedVariables false
namespace Go.Ab.Pd
open Go.Proofs
def Sta.bare (s : Sta) : Sta := { s with keeps := [], ks := NS, shut := [], hs := NS }
theorem bare_good {s : Sta} (h : s.good) : s.bare.good := ⟨h.cs, h.js, h.ps, .inr ⟨rfl, rfl⟩, h.ds, .inr ⟨rfl, rfl⟩, h.us⟩
theorem bare_lim {s : Sta} (h : s.lim) : s.bare.lim := ⟨h.jl, h.pl, Nat.zero_le _, h.dl, Nat.zero_le _, h.ul⟩
theorem bare_fine {s : Sta} (h : s.fine) : s.bare.fine := by
  obtain ⟨cf, jb, mr, pa, st, kp⟩ := h
  refine ⟨cf, jb, ?_, pa, st, rfl⟩
  unfold Sta.marks badV at mr ⊢
  simp only [Bool.and_eq_true] at mr ⊢
  exact ⟨⟨mr.1.1, rfl⟩, mr.2⟩
def Sta.cutP (s : Sta) (i : Nat) : Sta := { s with parts := s.parts.eraseIdx i, ps := .isl ((s.parts.eraseIdx i).map Prt.av) }
theorem cutP_good {s : Sta} (h : s.good) (i : Nat) : (s.cutP i).good := ⟨h.cs, h.js, .inl rfl, h.ks, h.ds, h.hs, h.us⟩
theorem cutP_lim {s : Sta} (h : s.lim) (i : Nat) : (s.cutP i).lim := ⟨h.jl, Nat.le_trans (List.length_eraseIdx_le _ _) h.pl, h.kl, h.dl, h.hl, h.ul⟩
theorem erase_get {l : List Prt} {i j : Nat} (hi : i < l.length) (hj : j < l.length - 1) : (l.eraseIdx i).getD j default = l.getD (if j < i then j else j + 1) default := by
  simp only [List.getD, List.getElem?_eraseIdx]
  split <;> rfl
theorem rising {f : Nat → Int} {n : Nat} (h : ∀ i, 0 < i → i < n → f (i - 1) < f i) : ∀ {a b : Nat}, a < b → b < n → f a < f b := by
  intro a b hab hb
  induction b with
  | zero => omega
  | succ b ih =>
    have h1 := h (b + 1) (by omega) hb
    rw [Nat.add_sub_cancel] at h1
    by_cases e : a = b
    · subst e; exact h1
    · have := ih (by omega) (by omega)
      omega
theorem parts_rise {s : Sta} (h : s.partsV = true) {a b : Nat} (hab : a < b) (hb : b < s.parts.length) : (s.parts.getD a default).job < (s.parts.getD b default).job := by
  refine rising (f := fun i => (s.parts.getD i default).job) (n := s.parts.length) (fun i h0 hi => ?_) hab hb
  have h1 := (parts_no h i hi).1
  unfold Sta.odd1 at h1
  rw [Bool.or_eq_false_iff] at h1
  have h2 := h1.1
  rw [decide_eq_true h0, Bool.true_and, decide_eq_false_iff_not] at h2
  omega
theorem jobs_rise {l : List Jb} : ∀ {n : Nat}, risN l n = true → ∀ i, 0 < i → i < n → (l.getD (i - 1) default).id < (l.getD i default).id
  | 0, _, i, _, hi => by omega
  | n + 1, h, i, h0, hi => by
    unfold risN at h
    simp only [Bool.and_eq_true, Bool.or_eq_true, decide_eq_true_eq] at h
    by_cases e : i = n
    · subst e
      rcases h.2 with h2 | h2
      · omega
      · exact h2
    · exact jobs_rise h.1 i h0 (by omega)
theorem freed_not {s : Sta} (h : s.fine) {i : Nat} (hi : i < s.parts.length) (hf : (s.parts.getD i default).ph = 3) : ∀ j ∈ s.jobs, j.st = 2 → (s.parts.getD i default).job ≠ j.id := by
  intro j hj hst e
  have hp := part_facts (parts_part h.pa _ (parts_mem hi))
  obtain ⟨n0, _, _, _, _, hiff⟩ := hp
  obtain ⟨z1, z2, z3⟩ := findN_lt n0
  have hr := (tbl_0 (jobs_tbl h.jb)).2.2.2.1
  obtain ⟨q, hq, rfl⟩ := List.getElem_of_mem hj
  have hqd : s.jobs.getD q default = s.jobs[q] := by simp [List.getD, hq]
  have hjo : s.jobOf (s.parts.getD i default) = s.jobs[q] := by
    rw [Sta.jobOf, if_neg n0]
    have e2 : (s.jobs.getD q default).id = s.jobs[q].id := by rw [hqd]
    have heq : (findN s.jobs (s.parts.getD i default).job).toNat = q := by
      generalize (findN s.jobs (s.parts.getD i default).job).toNat = n at z2 z3 ⊢
      rcases Nat.lt_trichotomy n q with hlt | heq | hgt
      · have := rising (f := fun i => (s.jobs.getD i default).id) (jobs_rise hr) hlt hq
        omega
      · exact heq
      · have := rising (f := fun i => (s.jobs.getD i default).id) (jobs_rise hr) hgt z2
        omega
    rw [heq, hqd]
  rw [hjo] at hiff
  exact hiff.1 hst hf
theorem startG_mono {cls : List Cls} {P P' : Int → Bool} : ∀ {l : List Jb} {M : MS (Int × Int)}, (∀ j ∈ l, j.st = 2 → P j.id = true → P' j.id = true) → startG cls P M l = true → startG cls P' M l = true
  | [], _, _, _ => rfl
  | j :: l, M, hm, h => by
    unfold startG at h ⊢
    split
    · rename_i hst
      rw [if_pos hst] at h
      simp only [Bool.and_eq_true, Bool.not_eq_true', Bool.or_eq_false_iff, Bool.not_eq_false'] at h ⊢
      exact ⟨⟨h.1.1, hm j (by simp) hst h.1.2⟩, startG_mono (fun x hx => hm x (List.mem_cons_of_mem _ hx)) h.2⟩
    · rename_i hst
      rw [if_neg hst] at h
      exact startG_mono (fun x hx => hm x (List.mem_cons_of_mem _ hx)) h
theorem cut_has {l : List Prt} {i : Nat} (hi : i < l.length) {id : Int} (hn : (l.getD i default).job ≠ id) (h : hasPart l id = true) : hasPart (l.eraseIdx i) id = true := by
  unfold hasPart at h ⊢
  rw [anyN_iff] at h ⊢
  obtain ⟨a, _, ha, hp⟩ := h
  rw [decide_eq_true_eq] at hp
  have hai : a ≠ i := fun e => hn (by rw [← e]; exact hp)
  have hl : (l.eraseIdx i).length = l.length - 1 := List.length_eraseIdx_of_lt hi
  by_cases hlt : a < i
  · refine ⟨a, by omega, by omega, ?_⟩
    rw [erase_get hi (by omega), if_pos hlt]
    exact decide_eq_true hp
  · refine ⟨a - 1, by omega, by omega, ?_⟩
    rw [erase_get hi (by omega), if_neg (by omega), show a - 1 + 1 = a by omega]
    exact decide_eq_true hp
theorem cut_fine {s : Sta} (h : s.fine) {i : Nat} (hi : i < s.parts.length) (hf : (s.parts.getD i default).ph = 3) : (s.cutP i).fine := by
  obtain ⟨cf, jb, mr, pa, st, kp⟩ := h
  have hl : (s.parts.eraseIdx i).length = s.parts.length - 1 := List.length_eraseIdx_of_lt hi
  refine ⟨cf, jb, mr, ?_, ?_, ?_⟩
  · have hle : (s.parts.length : Int) ≤ 24 := by
      unfold Sta.partsV at pa
      simp only [Bool.and_eq_true, decide_eq_true_eq] at pa
      exact pa.1
    show (decide (((s.parts.eraseIdx i).length : Int) ≤ 24) && !anyN (fun j => (s.cutP i).odd1 j || (s.cutP i).odd2 j) (s.parts.eraseIdx i).length 0) = true
    rw [Bool.and_eq_true, Bool.not_eq_true']
    refine ⟨decide_eq_true (by omega), anyN_all fun j hj => ?_⟩
    have hg := fun {k : Nat} (hk : k < s.parts.length - 1) => erase_get hi hk
    rw [Bool.or_eq_false_iff]
    constructor
    · show ((decide (0 < j) && decide (((s.parts.eraseIdx i).getD j default).job ≤ ((s.parts.eraseIdx i).getD (j - 1) default).job)) || !s.part ((s.parts.eraseIdx i).getD j default)) = false
      rw [hg (by omega), Bool.or_eq_false_iff]
      refine ⟨?_, by rw [parts_part pa _ (parts_mem (by split <;> omega))]; rfl⟩
      by_cases h0 : 0 < j
      · rw [hg (k := j - 1) (by omega), decide_eq_true h0, Bool.true_and, decide_eq_false_iff_not]
        have := parts_rise pa (a := if j - 1 < i then j - 1 else j - 1 + 1) (b := if j < i then j else j + 1) (by split <;> split <;> omega) (by split <;> omega)
        omega
      · rw [decide_eq_false h0, Bool.false_and]
    · show anyN (fun k => s.meet ((s.parts.eraseIdx i).getD j default).pl (((s.parts.eraseIdx i).take j).getD k default).pl) ((s.parts.eraseIdx i).take j).length 0 = false
      refine anyN_all fun k hk => ?_
      rw [List.length_take] at hk
      have ht : ((s.parts.eraseIdx i).take j).getD k default = (s.parts.eraseIdx i).getD k default := by simp [List.getD, List.getElem?_take, show k < j by omega]
      rw [ht, hg (by omega), hg (by omega)]
      have h2 := (parts_no pa (if j < i then j else j + 1) (by split <;> omega)).2
      unfold Sta.odd2 at h2
      have h3 := anyN_none h2 (if k < i then k else k + 1) (by rw [List.length_take]; split <;> split <;> omega)
      have ht2 : (s.parts.take (if j < i then j else j + 1)).getD (if k < i then k else k + 1) default = s.parts.getD (if k < i then k else k + 1) default := by
        simp only [List.getD, List.getElem?_take]
        rw [if_pos (by split <;> split <;> omega)]
      rw [ht2] at h3
      exact h3
  · exact startG_mono (fun j hj hst hp => cut_has hi (freed_not ⟨cf, jb, mr, pa, st, kp⟩ hi hf j hj hst) hp) st
  · unfold Sta.keepsV at kp ⊢
    rw [Bool.and_eq_true, Bool.not_eq_true'] at kp ⊢
    refine ⟨kp.1, anyN_all fun k hk => ?_⟩
    have h1 := anyN_none kp.2 k hk
    rw [Bool.not_eq_false'] at h1 ⊢
    have ht : (s.cutP i).taken (s.keeps.take k) (s.keeps.getD k default).bx (s.keeps.getD k default).fr (s.keeps.getD k default).till = false := by
      have h2 := h1
      unfold Sta.okK at h2
      rw [Bool.and_eq_true, Bool.not_eq_true'] at h2
      have h3 := h2.2
      unfold Sta.taken at h3 ⊢
      rw [Bool.or_eq_false_iff] at h3 ⊢
      refine ⟨h3.1, anyN_all fun j hj => ?_⟩
      have hj' : j < s.parts.length - 1 := by rw [← hl]; exact hj
      show tk2 s (s.keeps.getD k default).bx (s.keeps.getD k default).fr (s.keeps.getD k default).till ((s.parts.eraseIdx i).getD j default) = false
      rw [erase_get hi hj']
      exact anyN_none h3.2 _ (by split <;> omega)
    unfold Sta.okK at h1 ⊢
    rw [Bool.and_eq_true] at h1 ⊢
    refine ⟨h1.1, ?_⟩
    rw [Bool.not_eq_true']
    exact ht
end Go.Ab.Pd

set_option linter.unusedSimpArgs false
set_option linter.unusedVariables false
namespace Go.Ab.Pd
open Go.Proofs
theorem live_view2 {f : FuncId} {s : Sta} (hg : s.good) {H : List AO} {rp rk rp' rk' : AV} (q1 : frz 2 H rp = some rp') (q2 : rp'.pur = true) (q3 : Le rp' s.ps) (q4 : rp.pur = true → rp' = rp) (t1 : frz 2 H rk = some rk') (t2 : rk'.pur = true) (t3 : Le rk' s.ks) (t4 : rk.pur = true → rk' = rk) {v : AV} (hv : v.scal = true)
    (h : Pur Tryz.prog GG f [s.av] v) {K : AV → List AO → Prop} (hK : K v H) : AC Tryz.prog GG f [s.av2 rp rk] H K := by
  obtain ⟨⟨⟨a1, a2, a3⟩, b1, b2, b3⟩, ⟨⟨c1, c2, c3⟩, d1, d2, d3⟩, ⟨ee1, ee2, ee3⟩, ⟨f1, f2, f3⟩, g1, g2, g3⟩ := hg.cell
  obtain ⟨p1, p2, p3, p4, p5, p6, p7⟩ := hg.purs
  refine AC.view ggp (n := 3) (args' := [s.av2 rp' rk']) ?_ ?_ hv (Pur.args (args' := [s.av]) rfl (fun i hi => ?_) h) hK
  · unfold Sta.av2
    have hf := ST_frz (a := s.c.a) (b := s.c.b) (c := s.c.c) (p := s.c.boot) (q := s.c.free) (r := s.c.tries) (t := s.c.age) (now := s.now) (next := s.next) p1 p2 p5 p6 p7 q1 t1 q4 t4
    rw [show ∀ a l, mapO (frz 3 H) (a :: l) = (match frz 3 H a, mapO (frz 3 H) l with | some b, some m => some (b :: m) | _, _ => none) from fun _ _ => rfl, hf]
    rfl
  · unfold Sta.av2
    simp [AV.pur, AV.purL, p1, p2, p5, p6, p7, q2, t2]
  · cases i with
    | zero => exact ST_le a1 b1 ee1 f1 g1 c1 d1 q3 t3
    | succ i => exact Le.refl _
theorem LiveS.len {H : List AO} {s r : AV} {l : List Prt} (h : LiveS 13 H s r (l.map Prt.av)) : aLen Tryz.prog 28 r = some (l.length : Int) := by
  generalize hm : l.map Prt.av = m at h
  have hl : m.length = l.length := by rw [← hm, List.length_map]
  cases h with
  | nil => unfold aLen; simp only [un28]; rw [← hl]; rfl
  | zs => unfold aLen; simp only [un28]; rw [← hl]; rfl
  | row h h0 => unfold aLen; simp only [un28, hl]
theorem cut_row {HH : List AO} {id : Nat} {l : List Prt} {i : Nat} (h : HH[id]? = some (.arr 13 (l.map Prt.av))) (hi : i < l.length) (hb : l.length ≤ 2 ^ 16) : ∃ C r H2, aAppend Tryz.prog 28 28 (.sl id 0 i l.length) (.sl id (i + 1) (l.length - (i + 1)) (l.length - (i + 1))) HH = some ⟨C, r, H2⟩ ∧ C ∧
    (r.isCell = true ∧ r.isEl = true ∧ r.cells = [r]) ∧ r.pur = false ∧ (∀ H3 : List AO, (∀ q, ownId r = some q → H3[q]? = H2[q]?) → frz 2 H3 r = some (.isl ((l.eraseIdx i).map Prt.av))) ∧ (∀ i, ownId r = some i → i = id ∨ HH.length ≤ i) ∧ HH.length ≤ H2.length ∧ ∀ j, j < HH.length → j ≠ id → H2[j]? = HH[j]? := by
  have hid := lt_of_get h
  have hlm : (l.map Prt.av).length = l.length := List.length_map _
  have hers : (l.eraseIdx i).map Prt.av = (l.map Prt.av).take i ++ (l.map Prt.av).drop (i + 1) := by rw [List.eraseIdx_eq_take_drop_succ, List.map_append, List.map_take, List.map_drop]
  unfold aAppend
  simp only [un28, ze43, by43, elsOf, h]
  rw [if_pos ⟨rfl, by omega⟩]
  have hd : ((l.map Prt.av).drop (i + 1)).take (l.length - (i + 1)) = (l.map Prt.av).drop (i + 1) := List.take_of_length_le (by rw [List.length_drop, hlm]; omega)
  simp only [hd]
  cases hdr : (l.map Prt.av).drop (i + 1) with
  | nil =>
    refine ⟨_, _, _, rfl, trivial, ⟨rfl, rfl, rfl⟩, rfl, fun H3 hH3 => ?_, fun j hj => ?_, Nat.le_refl _, fun j _ _ => rfl⟩
    · have h3 := (hH3 _ rfl).trans h
      unfold Go.Ab.frz
      simp only [AV.pur, Bool.false_eq_true, if_false, h3, Nat.zero_add, hlm, show i ≤ l.length by omega, if_true, List.drop_zero]
      rw [mapO_pure (by rw [← List.map_take]; exact purL_map Prt.av _ (fun _ => rfl)), hers, hdr, List.append_nil]; rfl
    · cases hj; exact .inl rfl
  | cons e0 l0 =>
    have hlen0 : (e0 :: l0).length = l.length - (i + 1) := by rw [← hdr, List.length_drop, hlm]
    simp only [h]
    rw [if_pos ⟨rfl, by omega, by omega⟩]
    refine ⟨_, _, _, rfl, ⟨trivial, by omega, by omega⟩, ⟨rfl, rfl, rfl⟩, rfl, fun H3 hH3 => ?_, fun j hj => ?_, by simp, fun j hj hne => ?_⟩
    · have hg : (HH.set id .dead ++ [AO.arr 13 (((l.map Prt.av).drop 0).take i ++ (e0 :: l0))])[HH.length]? = some (.arr 13 (((l.map Prt.av).drop 0).take i ++ (e0 :: l0))) := by
        have hL : (HH.set id AO.dead).length = HH.length := by simp
        rw [← hL, getA0]; rfl
      have hg := (hH3 _ rfl).trans hg
      rw [List.drop_zero] at hg
      unfold Go.Ab.frz
      simp only [AV.pur, Bool.false_eq_true, if_false, hg, Nat.zero_add, List.drop_zero]
      have hle : i + (e0 :: l0).length ≤ ((l.map Prt.av).take i ++ e0 :: l0).length := by rw [List.length_append, List.length_take, hlm]; omega
      have ht : List.take (i + (e0 :: l0).length) ((l.map Prt.av).take i ++ e0 :: l0) = (l.eraseIdx i).map Prt.av := by
        rw [hers, hdr]
        exact List.take_of_length_le (by rw [List.length_append, List.length_take, hlm]; omega)
      rw [if_pos hle, ht, mapO_pure (purL_map Prt.av _ (fun _ => rfl))]; rfl
    · cases hj; exact .inr (Nat.le_refl _)
    · rw [List.getElem?_append_left (by simp; omega), List.getElem?_set_ne (fun e => hne e.symm)]
end Go.Ab.Pd

set_option linter.unusedSimpArgs false
set_option linter.unusedVariables false
namespace Go.Ab.Pd
open Go.Proofs
theorem fil_lt {l : List Kep} {p : Kep → Bool} {i : Nat} (hi : i < l.length) (hp : p (l.getD i default) = true) : ((l.take i).filter p).length < (l.filter p).length ∧ (l.filter p).getD ((l.take i).filter p).length default = l.getD i default := by
  have h1 : l.filter p = (l.take i).filter p ++ (l.getD i default :: (l.drop (i + 1)).filter p) := by
    have : l = l.take i ++ (l.getD i default :: l.drop (i + 1)) := by rw [← drop_cons default hi, List.take_append_drop]
    conv => lhs; rw [this]
    rw [List.filter_append, List.filter_cons_of_pos hp]
  rw [h1]
  exact ⟨by simp, by simp [List.getD]⟩
theorem fil_step {l : List Kep} {p : Kep → Bool} {i : Nat} (hi : i < l.length) : (l.take (i + 1)).filter p = (l.take i).filter p ++ (if p (l.getD i default) = true then [l.getD i default] else []) := by
  rw [take_succ_getD default hi, List.filter_append]
  congr 1
  split
  · rename_i h; rw [List.filter_cons_of_pos h, List.filter_nil]
  · rename_i h; rw [List.filter_cons_of_neg h, List.filter_nil]
theorem Kep.eqP (x : Kep) : aEqS Tryz.prog 56 (KP x.id x.x x.y x.z x.p x.q x.r x.fr x.till) (KP x.id x.x x.y x.z x.p x.q x.r x.fr x.till) = some true := by
  have := Kep.eq x x
  rw [decide_eq_true rfl] at this
  exact this
theorem e4 : Ent Tryz.prog 4 Tryz.f4 [] 2 := ⟨Tryz.func4, rfl, by decide, by kernel_rfl, by kernel_rfl, by decide, by kernel_rfl⟩
attribute [push_cast] Tryz.f4
set_option maxHeartbeats 16000000 in
set_option maxRecDepth 400000 in
theorem less_law {s : Sta} (h : s.good) (now : Int) : Pur Tryz.prog GG 4 [s.av, I now] (B true) := by
  obtain ⟨⟨⟨a1, a2, a3⟩, b1, b2, b3⟩, ⟨⟨c1, c2, c3⟩, d1, d2, d3⟩, ⟨ee1, ee2, ee3⟩, ⟨f1, f2, f3⟩, g1, g2, g3⟩ := h.cell
  obtain ⟨p1, p2, p3, p4, p5, p6, p7⟩ := h.purs
  have hG := great_pur h
  simp only [Sta.av] at hG
  show Pur Tryz.prog GG 4 [ST s.c.a s.c.b s.c.c s.c.boot s.c.free s.c.tries s.c.age s.cs s.now s.next s.js s.ps s.ks s.ds s.hs s.us, I now] _
  by_cases hg : s.great = true
  · rw [hg] at hG
    refine goQ e4 TOk.nil 0 ?_ (by simp [AV.purL, AV.pur, p1, p2, p3, p4, p5, p6, p7])
    simp (maxSteps := 2000000) only [push_cast, seval, ↓kw2, a1, a2, a3, b1, b2, b3, c1, c2, c3, d1, d2, d3, ee1, ee2, ee3, f1, f2, f3, g1, g2, g3]
    refine AC.pur alive21 ?_
    refine goN ?_
    simp (maxSteps := 2000000) only [push_cast, seval, ↓kw2, a1, a2, a3, b1, b2, b3, c1, c2, c3, d1, d2, d3, ee1, ee2, ee3, f1, f2, f3, g1, g2, g3]
    refine AC.pur hG ?_
    refine goN ?_
    simp (maxSteps := 2000000) only [push_cast, seval, ↓kw2]
    exact ⟨_, rfl, done_pur rfl rfl⟩
  rw [Bool.not_eq_true] at hg
  rw [hg] at hG
  have hl := Sta.lim_of hg
  have hl2 := Sta.lim2_of hg
  have hC := holdc_pur h hl
  simp only [Sta.av] at hC
  cases hok : s.okV
  · rw [hok] at hC
    simp only [Bool.false_eq_true, if_false] at hC
    refine goQ e4 TOk.nil 0 ?_ (by simp [AV.purL, AV.pur, p1, p2, p3, p4, p5, p6, p7])
    simp (maxSteps := 2000000) only [push_cast, seval, ↓kw2, a1, a2, a3, b1, b2, b3, c1, c2, c3, d1, d2, d3, ee1, ee2, ee3, f1, f2, f3, g1, g2, g3]
    refine AC.pur alive21 ?_
    refine goN ?_
    simp (maxSteps := 2000000) only [push_cast, seval, ↓kw2, a1, a2, a3, b1, b2, b3, c1, c2, c3, d1, d2, d3, ee1, ee2, ee3, f1, f2, f3, g1, g2, g3]
    refine AC.pur hG ?_
    refine goN ?_
    simp (maxSteps := 2000000) only [push_cast, seval, ↓kw2, a1, a2, a3, b1, b2, b3, c1, c2, c3, d1, d2, d3, ee1, ee2, ee3, f1, f2, f3, g1, g2, g3]
    refine AC.pur hC ?_
    refine goN ?_
    simp (maxSteps := 2000000) only [push_cast, seval, ↓kw2]
    exact ⟨_, rfl, done_pur rfl rfl⟩
  rw [hok] at hC
  simp only [if_true] at hC
  have hfine := okV_iff.1 hok
  have hplen := h.ps.len un28
  have hklen := h.ks.len un29
  rw [List.length_map] at hplen hklen
  have hpidx := fun (i : Nat) (hi : i < s.parts.length) (H : List AO) => h.ps.idx (P := Tryz.prog) un28 sz43 (i := (i : Int)) (by rw [List.length_map]; omega) (by omega) H
  have hkidx := fun (i : Nat) (hi : i < s.keeps.length) (H : List AO) => h.ks.idx (P := Tryz.prog) un29 sz56 (i := (i : Int)) (by rw [List.length_map]; omega) (by omega) H
  have hlp := hl2.pl
  have hlk := hl2.kl
  have hCb := holdc_pur (bare_good h) (bare_lim hl)
  rw [okV_iff.2 (bare_fine hfine), if_pos rfl] at hCb
  refine goQ e4 TOk.nil 0 ?_ (by simp [AV.purL, AV.pur, p1, p2, p3, p4, p5, p6, p7])
  simp (maxSteps := 2000000) only [push_cast, seval, ↓kw2, a1, a2, a3, b1, b2, b3, c1, c2, c3, d1, d2, d3, ee1, ee2, ee3, f1, f2, f3, g1, g2, g3]
  refine AC.pur alive21 ?_
  refine goN ?_
  simp (maxSteps := 2000000) only [push_cast, seval, ↓kw2, a1, a2, a3, b1, b2, b3, c1, c2, c3, d1, d2, d3, ee1, ee2, ee3, f1, f2, f3, g1, g2, g3]
  refine AC.pur hG ?_
  refine goN ?_
  simp (maxSteps := 2000000) only [push_cast, seval, ↓kw2, a1, a2, a3, b1, b2, b3, c1, c2, c3, d1, d2, d3, ee1, ee2, ee3, f1, f2, f3, g1, g2, g3]
  refine AC.pur hC ?_
  refine goN ?_
  simp (maxSteps := 2000000) only [push_cast, seval, ↓kw2, a1, a2, a3, b1, b2, b3, c1, c2, c3, d1, d2, d3, ee1, ee2, ee3, f1, f2, f3, g1, g2, g3]
  refine twinL_ac h hl2 ?_
  intro rp rk X hp hk hpi hki
  obtain ⟨o1, o2, o3⟩ := hp.cell
  obtain ⟨r1, r2, r3⟩ := hk.cell
  unfold Sta.av2
  refine goN ?_
  simp (maxSteps := 2000000) only [push_cast, seval, ↓kw2, a1, a2, a3, b1, b2, b3, c1, c2, c3, d1, d2, d3, ee1, ee2, ee3, f1, f2, f3, g1, g2, g3, o1, o2, o3, r1, r2, r3, getA0, getA, setA0, setA, get_concat]
  have hp2 := hp.app [AO.cells [I s.c.a, I s.c.b, I s.c.c, I s.c.boot, I s.c.free, I s.c.tries, I s.c.age, s.cs, I s.now, I s.next, s.js, rp, .c (.slice none 0 0), s.ds, .c (.slice none 0 0), s.us]]
  simp only [List.cons_append, List.nil_append, List.append_assoc] at hp2
  refine live_view (s := s.bare) (bare_good h) (rp := rp) (rk := .c (.slice none 0 0)) hp2 .nil (rest := []) rfl rfl hCb ?_
  refine goN ?_
  simp (maxSteps := 2000000) only [push_cast, seval, ↓kw2, a1, a2, a3, b1, b2, b3, c1, c2, c3, d1, d2, d3, ee1, ee2, ee3, f1, f2, f3, g1, g2, g3, getA0, getA, setA0, setA, get_concat]
  refine FW.loopInv (fun m ts H => ∃ i : Nat, i + m = s.parts.length ∧ H[0]? = some (AO.cells [I s.c.a, I s.c.b, I s.c.c, I s.c.boot, I s.c.free, I s.c.tries, I s.c.age, s.cs, I s.now, I s.next, s.js, s.ps, s.ks, s.ds, s.hs, s.us]) ∧ ts 1 = I now ∧ ts 2 = .ptr 0 0 ∧ ts 5 = B true ∧ ts 7 = I (i : Int)) s.parts.length
    ⟨0, by omega, rfl, rfl, rfl, rfl, rfl⟩ ?_
  clear hp hk hpi hki hp2 o1 o2 o3 r1 r2 r3
  rintro m ih ts H ⟨i, hi, h0, t1, t2, t5, t7⟩
  refine FW.inLoop ?_
  by_cases hlt : i < s.parts.length
  · have hd1 : decide ((i : Int) < (s.parts.length : Int)) = true := by simp [hlt]
    have hx := hpidx i hlt
    have hgy := getD_map Prt.av s.parts default hlt
    simp only [Int.toNat_natCast] at hx
    rw [hgy] at hx
    have hcut := fun e => cut_fine hfine hlt e
    have hcx := Prt.cells (s.parts.getD i default)
    have hbb : (0 ≤ (i : Int) ∧ (i : Int) < ((s.parts.map Prt.av).length : Int)) := ⟨by omega, by rw [List.length_map]; omega⟩
    have hi1 := wrapL (n := (i : Int) + 1) (by omega) (by omega)
    by_cases hph : (s.parts.getD i default).ph = 3
    · have hd2 : decide ((s.parts.getD i default).ph = 3) = true := decide_eq_true hph
      have hCc := holdc_pur (cutP_good h i) (cutP_lim hl i)
      rw [okV_iff.2 (hcut hph), if_pos rfl] at hCc
      refine goN ?_
      simp (maxSteps := 2000000) only [push_cast, seval, ↓kw2, a1, a2, a3, b1, b2, b3, c1, c2, c3, d1, d2, d3, ee1, ee2, ee3, f1, f2, f3, g1, g2, g3, getA0, getA, setA0, setA, get_concat, t1, t2, t5, t7, hd1, hd2, hx, hcx, h0, hplen]
      refine ⟨hbb, ?_⟩
      refine twinL_ac h hl2 ?_
      intro rp rk X hp hk hpi hki
      obtain ⟨o1, o2, o3⟩ := hp.cell
      obtain ⟨r1, r2, r3⟩ := hk.cell
      unfold Sta.av2
      have hlr := hp.len
      have h0X : ∀ Y, (H ++ Y)[0]? = some (AO.cells [I s.c.a, I s.c.b, I s.c.c, I s.c.boot, I s.c.free, I s.c.tries, I s.c.age, s.cs, I s.now, I s.next, s.js, s.ps, s.ks, s.ds, s.hs, s.us]) := fun Y => (List.getElem?_append_left (lt_of_get h0)).trans h0
      have hml : (s.parts.map Prt.av).length = s.parts.length := List.length_map _
      generalize hpe : s.ps = pse at hp
      generalize hme : s.parts.map Prt.av = me at hp
      cases hp with
      | nil => rw [hme] at hml; simp at hml; omega
      | zs => rw [hme] at hml; simp at hml; omega
      | row hid hne =>
        rename_i id
        subst hme
        rw [hml] at hlr o1 o2 o3 ⊢
        have hk2 := hk.app [AO.cells [I s.c.a, I s.c.b, I s.c.c, I s.c.boot, I s.c.free, I s.c.tries, I s.c.age, s.cs, I s.now, I s.next, s.js, .sl id 0 s.parts.length s.parts.length, rk, s.ds, s.hs, s.us]]
        have hid2 : (H ++ (X ++ [AO.cells [I s.c.a, I s.c.b, I s.c.c, I s.c.boot, I s.c.free, I s.c.tries, I s.c.age, s.cs, I s.now, I s.next, s.js, .sl id 0 s.parts.length s.parts.length, rk, s.ds, s.hs, s.us]]))[id]? = some (.arr 13 (s.parts.map Prt.av)) := by rw [← List.append_assoc, List.getElem?_append_left (lt_of_get hid)]; exact hid
        have hidb := hpi id rfl
        have hidl := lt_of_get hid
        rw [List.length_append] at hidl
        have hkl := hk.lt
        simp only [List.length_append] at hkl
        have nE : (H ++ (X ++ [AO.cells [I s.c.a, I s.c.b, I s.c.c, I s.c.boot, I s.c.free, I s.c.tries, I s.c.age, s.cs, I s.now, I s.next, s.js, .sl id 0 s.parts.length s.parts.length, rk, s.ds, s.hs, s.us]]))[H.length + X.length]? = some (AO.cells [I s.c.a, I s.c.b, I s.c.c, I s.c.boot, I s.c.free, I s.c.tries, I s.c.age, s.cs, I s.now, I s.next, s.js, .sl id 0 s.parts.length s.parts.length, rk, s.ds, s.hs, s.us]) := by rw [getA, getA0]; rfl
        have n0 := h0X (X ++ [AO.cells [I s.c.a, I s.c.b, I s.c.c, I s.c.boot, I s.c.free, I s.c.tries, I s.c.age, s.cs, I s.now, I s.next, s.js, .sl id 0 s.parts.length s.parts.length, rk, s.ds, s.hs, s.us]])
        have hlH : (H ++ (X ++ [AO.cells [I s.c.a, I s.c.b, I s.c.c, I s.c.boot, I s.c.free, I s.c.tries, I s.c.age, s.cs, I s.now, I s.next, s.js, .sl id 0 s.parts.length s.parts.length, rk, s.ds, s.hs, s.us]])).length = H.length + X.length + 1 := by simp [Nat.add_assoc]
        rw [List.append_assoc] at hk2
        refine goN ?_
        simp (maxSteps := 2000000) only [push_cast, seval, ↓kw2, a1, a2, a3, b1, b2, b3, c1, c2, c3, d1, d2, d3, ee1, ee2, ee3, f1, f2, f3, g1, g2, g3, getA0, getA, setA0, setA, get_concat, t1, t2, t5, t7, h0X, o1, o2, o3, r1, r2, r3, hlr, hplen]
        generalize hHH : H ++ (X ++ [AO.cells [I s.c.a, I s.c.b, I s.c.c, I s.c.boot, I s.c.free, I s.c.tries, I s.c.age, s.cs, I s.now, I s.next, s.js, .sl id 0 s.parts.length s.parts.length, rk, s.ds, s.hs, s.us]]) = HH at hk2 hid2 nE n0 hlH ⊢
        obtain ⟨C, r, H2, happ, hC2, ⟨w1, w2, w3⟩, wp, wf, wo, wl, hkeep⟩ := cut_row hid2 hlt (by omega)
        have s1 : aSlice Tryz.prog 28 (.sl id 0 s.parts.length s.parts.length) HH none (some (I (i : Int))) none = some ((True ∧ 0 ≤ (i : Int) ∧ 0 ≤ i ∧ i ≤ s.parts.length), .sl id 0 i s.parts.length) := by
          unfold aSlice
          simp only [un28, sz43, hid2, aBound, aInt, Int.toNat_natCast]
          rfl
        have s2 : aSlice Tryz.prog 28 (.sl id 0 s.parts.length s.parts.length) HH (some (I ((i : Int) + 1))) none none = some (((0 ≤ (i : Int) + 1) ∧ True ∧ i + 1 ≤ s.parts.length ∧ s.parts.length ≤ s.parts.length), .sl id (i + 1) (s.parts.length - (i + 1)) (s.parts.length - (i + 1))) := by
          unfold aSlice
          simp only [un28, sz43, hid2, aBound, aInt, show ((i : Int) + 1).toNat = i + 1 by omega, Nat.zero_add]
          rfl
        have k0 := (hkeep 0 (by omega) (by
          have := lt_of_get h0
          omega)).trans n0
        have kE := (hkeep (H.length + X.length) (by omega) (by omega)).trans nE
        have u0 : ∀ c, (H2.set (H.length + X.length) c)[0]? = some (AO.cells [I s.c.a, I s.c.b, I s.c.c, I s.c.boot, I s.c.free, I s.c.tries, I s.c.age, s.cs, I s.now, I s.next, s.js, s.ps, s.ks, s.ds, s.hs, s.us]) := fun c => by
          have := lt_of_get h0
          rw [List.getElem?_set_ne (by omega)]; exact k0
        have uE : ∀ c, (H2.set (H.length + X.length) c)[H.length + X.length]? = some c := fun c => List.getElem?_set_self (lt_of_get kE)
        simp (maxSteps := 2000000) only [push_cast, seval, ↓kw2, a1, a2, a3, b1, b2, b3, c1, c2, c3, d1, d2, d3, ee1, ee2, ee3, f1, f2, f3, g1, g2, g3, getA0, getA, setA0, setA, get_concat, t1, t2, t5, t7, n0, nE, s1, s2, happ, hi1, w1, w2, w3, k0, kE, u0, uE, r1, r2, r3]
        refine ⟨⟨by omega, by omega, by omega⟩, ⟨by omega, by omega⟩, hC2, ?_⟩
        have hfz : frz 2 (H2.set (H.length + X.length) (AO.cells [I s.c.a, I s.c.b, I s.c.c, I s.c.boot, I s.c.free, I s.c.tries, I s.c.age, s.cs, I s.now, I s.next, s.js, r, rk, s.ds, s.hs, s.us])) r = some (.isl ((s.parts.eraseIdx i).map Prt.av))  := wf _ fun q hq => by
          rw [List.getElem?_set_ne]
          rcases wo q hq with e | e
          · omega
          · omega
        have hk3 : LiveS 9 (H2.set (H.length + X.length) (AO.cells [I s.c.a, I s.c.b, I s.c.c, I s.c.boot, I s.c.free, I s.c.tries, I s.c.age, s.cs, I s.now, I s.next, s.js, r, rk, s.ds, s.hs, s.us])) s.ks rk (s.keeps.map Kep.av) := hk2.keep fun q hq => by
          have h1 := hki q hq
          have h2 := hkl q hq
          have h3 := (hpi id rfl).2
          rw [List.getElem?_set_ne (by omega)]
          exact hkeep q (by omega) (fun e => h3 (by rw [← e]; exact hq))
        obtain ⟨y1, y2, y3⟩ := hk3.frozz (purL_map Kep.av _ (fun _ => rfl))
        refine live_view2 (s := s.cutP i) (cutP_good h i) (rp := r) (rk := rk) hfz (by simp [AV.pur, purL_map Prt.av _ (fun _ => rfl)]) (Le.refl _) (fun e => by rw [wp] at e; cases e) y1 y2 (zsf_le _) y3 rfl hCc ?_
        refine goN ?_
        simp (maxSteps := 2000000) only [push_cast, seval, ↓kw2, t1, t2, t5, t7, hi1, u0, uE]
        exact ih (m - 1) (by omega) _ _ ⟨i + 1, by omega, u0 _, t1, t2, t5, rfl⟩
    · have hd2 : decide ((s.parts.getD i default).ph = 3) = false := decide_eq_false hph
      refine goN ?_
      simp (maxSteps := 2000000) only [push_cast, seval, ↓kw2, t1, t2, t5, t7, hd1, hd2, hx, hcx, h0, hplen, hi1]
      exact ⟨hbb, ih (m - 1) (by omega) _ _ ⟨i + 1, by omega, h0, t1, t2, t5, rfl⟩⟩
  · have hd1 : decide ((i : Int) < (s.parts.length : Int)) = false := by simp; omega
    refine goN ?_
    simp (maxSteps := 2000000) only [push_cast, seval, ↓kw2, t1, t2, t5, t7, hd1, h0, hplen]
    have hO := over_pur h.ks (by omega) now
    have hLs := delS_sl (m := s.keeps.filter fun k => !decide (k.till ≤ now)) h.ks (fun e => by rw [e]; rfl)
    have hLl := hLs.len un29
    rw [List.length_map] at hLl
    have hLi := fun (q : Nat) (hq : q < (s.keeps.filter fun k => !decide (k.till ≤ now)).length) (H : List AO) => hLs.idx (P := Tryz.prog) un29 sz56 (i := (q : Int)) (by rw [List.length_map]; omega) (by omega) H
    have hLe := List.length_filter_le (fun k : Kep => !decide (k.till ≤ now)) s.keeps
    generalize delS s.ks (s.keeps.filter fun k => !decide (k.till ≤ now)) = L at hO hLs hLl hLi
    refine AC.pur hO ?_
    refine goN ?_
    simp (maxSteps := 2000000) only [push_cast, seval, ↓kw2, t1, t2, t5, h0]
    refine FW.loopInv (fun m ts H => ∃ i : Nat, i + m = s.keeps.length ∧ H[0]? = some (AO.cells [I s.c.a, I s.c.b, I s.c.c, I s.c.boot, I s.c.free, I s.c.tries, I s.c.age, s.cs, I s.now, I s.next, s.js, s.ps, s.ks, s.ds, s.hs, s.us]) ∧ ts 1 = I now ∧ ts 2 = .ptr 0 0 ∧ ts 5 = B true ∧ ts 9 = L ∧ ts 10 = I (((s.keeps.take i).filter fun k => !decide (k.till ≤ now)).length : Int) ∧ ts 11 = I (i : Int)) s.keeps.length
      ⟨0, by omega, h0, t1, t2, t5, rfl, rfl, rfl⟩ ?_
    clear ih hi h0 t1 t2 t5 t7 hd1 hlt
    rintro m ih ts H ⟨i, hi, h0, t1, t2, t5, t9, t10, t11⟩
    refine FW.inLoop ?_
    by_cases hlt : i < s.keeps.length
    · have hd1 : decide ((i : Int) < (s.keeps.length : Int)) = true := by simp [hlt]
      have hx := hkidx i hlt
      have hgy := getD_map Kep.av s.keeps default hlt
      simp only [Int.toNat_natCast] at hx
      rw [hgy] at hx
      have hst := fil_step (p := fun k : Kep => !decide (k.till ≤ now)) hlt
      have hfl := fil_lt (p := fun k : Kep => !decide (k.till ≤ now)) hlt
      have hbb : (0 ≤ (i : Int) ∧ (i : Int) < ((s.keeps.map Kep.av).length : Int)) := ⟨by omega, by rw [List.length_map]; omega⟩
      have hi1 := wrapL (n := (i : Int) + 1) (by omega) (by omega)
      generalize s.keeps.getD i default = k at hx hst hfl
      have hcx := Kep.cells k
      generalize hat : ((s.keeps.take i).filter fun k => !decide (k.till ≤ now)).length = at_ at t10 hfl
      by_cases hkt : k.till ≤ now
      · have dk : decide (k.till ≤ now) = true := decide_eq_true hkt
        rw [dk] at hst
        simp only [Bool.not_true, Bool.false_eq_true, if_false, List.append_nil] at hst
        refine goN ?_
        simp (maxSteps := 2000000) only [push_cast, seval, ↓kw2, t1, t2, t5, t9, t10, t11, hd1, hx, hcx, h0, hklen, dk, hi1]
        exact ⟨hbb, ih (m - 1) (by omega) _ _ ⟨i + 1, by omega, h0, t1, t2, t5, t9, by rw [hst, hat]; exact t10, rfl⟩⟩
      · have dk : decide (k.till ≤ now) = false := decide_eq_false hkt
        obtain ⟨q1, q2⟩ := hfl (by rw [dk]; rfl)
        rw [dk] at hst
        simp only [Bool.not_false, if_true] at hst
        have dl : decide (((s.keeps.filter fun k => !decide (k.till ≤ now)).length : Int) ≤ (at_ : Int)) = false := decide_eq_false (by omega)
        have hLx := hLi at_ q1
        rw [Int.toNat_natCast, getD_map Kep.av _ default q1, q2] at hLx
        have hLb : (0 ≤ (at_ : Int) ∧ (at_ : Int) < (((s.keeps.filter fun k => !decide (k.till ≤ now)).map Kep.av).length : Int)) := ⟨by omega, by rw [List.length_map]; omega⟩
        have ha1 : IntKind.i64.wrap ((at_ : Int) + 1) = ((at_ + 1 : Nat) : Int) := wrapL (by omega) (by omega)
        refine goN ?_
        simp (maxSteps := 2000000) only [push_cast, seval, ↓kw2, t1, t2, t5, t9, t10, t11, hd1, hx, hcx, h0, hklen, dk, hi1, hLl, dl, hLx, aBinAgg, Kep.eqP, ha1]
        exact ⟨hbb, hLb, hbb, ih (m - 1) (by omega) _ _ ⟨i + 1, by omega, h0, t1, t2, t5, t9, by rw [hst, List.length_append, hat]; rfl, rfl⟩⟩
    · have hd1 : decide ((i : Int) < (s.keeps.length : Int)) = false := by simp; omega
      rw [List.take_of_length_le (by omega)] at t10
      refine goN ?_
      simp (maxSteps := 2000000) only [push_cast, seval, ↓kw2, t1, t2, t5, t9, t10, t11, hd1, h0, hklen, hLl]
      exact ⟨_, rfl, done_pur rfl rfl⟩
end Go.Ab.Pd
