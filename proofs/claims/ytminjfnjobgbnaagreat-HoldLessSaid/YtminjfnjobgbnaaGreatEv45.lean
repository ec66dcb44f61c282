/- One of the texts that this claim stands on. -/
import Derived.Test.YtminjfnjobgbnaaGreatEv44
import Derived.Test.YtminjfnjobgbnaaGreatEv37
import Derived.Test.YtminjfnjobgbnaaGreatEv12
set_option linter.unusedVariables false
set_option linter.unusedSimpArgs false
set_option linter.unusedSimpArgs false
set_option linter.unusedVariables false
namespace Go.Ab.Pd
open Go.Proofs
def SeqM {κ : Type} [Inhabited κ] (M : MS κ) : Prop := M.2 = M.1.length ∧ ∀ i, i < M.1.length → (M.1.getD i default).1 = i
def posM {κ : Type} [DecidableEq κ] (M : MS κ) (k : κ) : Nat := match fndM k M.1 with
  | some i => i
  | none => M.1.length
def entM {κ : Type} [DecidableEq κ] (M : MS κ) (k : κ) : MS κ := match fndM k M.1 with
  | some i => M
  | none => (M.1 ++ [(M.2, k, 0)], M.2 + 1)
section
variable {κ : Type} [DecidableEq κ] [Inhabited κ]
theorem seq_put {M : MS κ} (h : SeqM M) (k : κ) (v : Int) : SeqM (putM M k v) := by
  obtain ⟨h1, h2⟩ := h
  unfold putM
  cases hf : fndM k M.1 with
  | none =>
    refine ⟨by simp [h1], fun i hi => ?_⟩
    simp only [List.length_append, List.length_singleton] at hi
    by_cases hl : i < M.1.length
    · have := h2 i hl
      simpa [List.getD, List.getElem?_append_left hl] using this
    · have : i = M.1.length := by omega
      subst this
      simp [List.getD, h1]
  | some j =>
    obtain ⟨hj, _⟩ := fndM_lt hf
    refine ⟨by simp [h1], fun i hi => ?_⟩
    simp only [List.length_set] at hi
    by_cases hij : j = i
    · subst hij
      have := h2 j hj
      simpa [List.getD, hj] using this
    · have := h2 i hi
      simpa [List.getD, List.getElem?_set_ne hij] using this
omit [DecidableEq κ] in
theorem find_stamp {ek : κ → AV} {ev : Int → AV} {l : List (Nat × κ × Int)} (h : ∀ i, i < l.length → (l.getD i default).1 = i) {n : Nat} (hn : n < l.length) : (encM ek ev l).findIdx? (fun e => (e.1 : Int) == (n : Int)) = some n := by
  rw [List.findIdx?_eq_some_iff_getElem]
  have hl : (encM ek ev l).length = l.length := by simp [encM]
  have hg : ∀ i (hi : i < l.length), ((encM ek ev l)[i]'(by omega)).1 = i := fun i hi => by
    have := h i hi
    simp [List.getD, hi] at this
    simpa [encM] using this
  refine ⟨by omega, by rw [hg n hn]; simp, fun j hj => ?_⟩
  rw [hg j (by omega)]
  simp
  omega
theorem ent_M {ek : κ → AV} {ev : Int → AV} {t kt et : TypeId} (hu : Tryz.prog.underlying t = some (.map kt et)) (hz : zeroEl Tryz.prog et = some (ev 0)) (he : ∀ a b, aEq Tryz.prog 10000 kt (ek a) (ek b) = some (decide (a = b))) (hck : ∀ a, ckOk Tryz.prog 10000 kt (ek a) = true) (hfl : ∀ a, flatA (ek a) = true)
    {H : List AO} {id : Nat} {M : MS κ} (hS : SeqM M) (hm : H[id]? = some (.map (encM ek ev M.1) M.2)) (k : κ) : aMapEntry Tryz.prog t (.mp id) (ek k) H = some ⟨True, .tup [ev (getM M k), I (posM M k : Nat)], H.set id (.map (encM ek ev (entM M k).1) (entM M k).2)⟩ := by
  unfold aMapEntry getM posM entM
  simp only [hu, hm, hck, hfl, and_self, if_true, find_M he]
  cases hf : fndM k M.1 with
  | none => simp only [hz, encM_app, hS.1]
  | some i =>
    obtain ⟨h1, h2⟩ := fndM_lt hf
    have h3 := hS.2 i h1
    simp only [encM_get h1 default, h2 default, h3, encM_set]
    have : M.1.set i (i, k, (M.1.getD i default).2.2) = M.1 := by
      exact set_getD (d := default) h1 (Prod.ext h3 (Prod.ext (h2 default) rfl))
    rw [this]
theorem store_M {ek : κ → AV} {ev : Int → AV} {H : List AO} {id : Nat} {M : MS κ} (hS : SeqM M) (k : κ) (hm : H[id]? = some (.map (encM ek ev (entM M k).1) (entM M k).2)) (v : Int) : aEntryStore (.mp id) (I (posM M k : Nat)) (ev v) H = some ⟨True, .un, H.set id (.map (encM ek ev (putM M k v).1) (putM M k v).2)⟩ := by
  unfold aEntryStore
  simp only [aInt, hm]
  obtain ⟨h1, h2⟩ := hS
  unfold entM posM putM
  cases hf : fndM k M.1 with
  | none =>
    have hfs : (encM ek ev (M.1 ++ [(M.2, k, 0)])).findIdx? (fun e => (e.1 : Int) == (M.1.length : Int)) = some M.1.length := find_stamp (n := M.1.length) (fun i hi => by
      simp only [List.length_append, List.length_singleton] at hi
      by_cases hl : i < M.1.length
      · have := h2 i hl
        simpa [List.getD, List.getElem?_append_left hl] using this
      · have : i = M.1.length := by omega
        subst this
        simp [List.getD, h1]) (by simp)
    simp only [hfs, encM_get (l := M.1 ++ [(M.2, k, 0)]) (i := M.1.length) (by simp) default]
    have hgt : (M.1 ++ [((M.2, k, 0) : Nat × κ × Int)]).getD M.1.length default = (M.2, k, 0) := by simp [List.getD]
    have hst : (M.1 ++ [((M.2, k, 0) : Nat × κ × Int)]).set M.1.length (M.2, k, v) = M.1 ++ [(M.2, k, v)] := by simp
    rw [hgt]
    simp only [encM_set, hst]
  | some i =>
    obtain ⟨hi, hk⟩ := fndM_lt hf
    have hfs : (encM ek ev M.1).findIdx? (fun e => (e.1 : Int) == (i : Int)) = some i := find_stamp h2 hi
    simp only [hfs, encM_get hi default, hk default, encM_set]
theorem get_put {M : MS κ} (k : κ) (v : Int) : getM (putM M k v) k = v := by
  have key : ∀ l : List (Nat × κ × Int), (∀ i, fndM k l = some i → ∀ e : Nat × κ × Int, e.2.1 = k → fndM k (l.set i e) = some i) ∧ (fndM k l = none → ∀ e : Nat × κ × Int, e.2.1 = k → fndM k (l ++ [e]) = some l.length) := by
    intro l
    induction l with
    | nil => exact ⟨fun i h => (by cases h), fun _ e he => by simp [fndM, he]⟩
    | cons x l ih =>
      constructor
      · intro i h e he
        unfold fndM at h
        split at h
        · cases h
          rw [List.set_cons_zero]
          simp [fndM, he]
        · rename_i hx
          cases hf : fndM k l with
          | none => rw [hf] at h; cases h
          | some j =>
            rw [hf] at h
            cases h
            rw [List.set_cons_succ]
            unfold fndM
            rw [if_neg hx, ih.1 j hf e he]; rfl
      · intro h e he
        unfold fndM at h
        split at h
        · cases h
        · rename_i hx
          have hn : fndM k l = none := by
            cases hf : fndM k l with
            | none => rfl
            | some j => rw [hf] at h; cases h
          rw [List.cons_append]
          unfold fndM
          rw [if_neg hx, ih.2 hn e he]; simp
  unfold putM
  cases hf : fndM k M.1 with
  | none =>
    unfold getM
    simp only
    rw [(key M.1).2 hf _ rfl]
    simp [List.getD]
  | some i =>
    unfold getM
    simp only
    rw [(key M.1).1 i hf _ rfl]
    have := (fndM_lt hf).1
    simp [List.getD, this]
theorem get_ent {M : MS κ} (k : κ) : getM (entM M k) k = getM M k := by
  have h0 := get_put (M := M) k 0
  unfold entM
  unfold putM at h0
  cases hf : fndM k M.1 with
  | none =>
    rw [hf] at h0
    simp only at h0 ⊢
    rw [h0]
    unfold getM
    rw [hf]
  | some i => rfl
end
abbrev A2 (a b : Int) : AV := .agg [I a, I b]
def encA (k : Int × Int) : AV := A2 k.1 k.2
theorem eqA0 (a b c d : Int) : aEq Tryz.prog 10000 108 (A2 a b) (A2 c d) = some (a == c && (b == d && true)) := by kernel_rfl
theorem eqA (x y : Int × Int) : aEq Tryz.prog 10000 108 (encA x) (encA y) = some (decide (x = y)) := by
  obtain ⟨a, b⟩ := x
  obtain ⟨c, d⟩ := y
  show aEq Tryz.prog 10000 108 (A2 a b) (A2 c d) = _
  rw [eqA0, Option.some.injEq, Bool.eq_iff_iff, decide_eq_true_iff]
  simp
theorem ckA0 (a b : Int) : ckOk Tryz.prog 10000 108 (A2 a b) = true := by kernel_rfl
theorem ckA (x : Int × Int) : ckOk Tryz.prog 10000 108 (encA x) = true := ckA0 x.1 x.2
theorem flA (x : Int × Int) : flatA (encA x) = true := rfl
def startG (cls : List Cls) (P : Int → Bool) : MS (Int × Int) → List Jb → Bool
  | _, [] => true
  | M, j :: l => if j.st = 2 then !(decide ((cls.getD j.cls.toNat default).d < IntKind.i64.wrap (getM M (j.user, j.cls) + 1)) || !P j.id) && startG cls P (putM M (j.user, j.cls) (IntKind.i64.wrap (getM M (j.user, j.cls) + 1))) l else startG cls P M l
def hasPart (ps : List Prt) (id : Int) : Bool := anyN (fun i => decide ((ps.getD i default).job = id)) ps.length 0
theorem e56 : Ent Tryz.prog 56 Tryz.f56 [] 2 := ⟨Tryz.func56, rfl, by decide, by kernel_rfl, by kernel_rfl, by decide, by kernel_rfl⟩
attribute [push_cast] Tryz.f56
set_option maxHeartbeats 4000000 in
set_option maxRecDepth 400000 in
theorem started1_ac {p : Prt} {q : Nat} {a2 a3 a4 a5 a6 a7 a8 a9 b1 b2 b3 b4 b5 b6 b7 : AV} {id : Int} {H : List AO} (h0 : H[q]? = some (.cells [I id, a2, a3, a4, a5, a6, a7, a8, a9, b1, b2, b3, b4, b5, b6, b7])) {K : AV → List AO → Prop} (hK : ∀ X, K (B (decide (p.job = id))) (H ++ X)) : AC Tryz.prog GG 56 [p.av, .ptr q 0] H K := by
  have h0' : ∀ l, (H ++ l)[q]? = _ := fun l => (List.getElem?_append_left (lt_of_get h0)).trans h0
  show AC Tryz.prog GG 56 [PA p.job p.pl p.ph p.tries p.since, .ptr q 0] H K
  refine goE e56 TOk.nil 0 ?_
  simp (maxSteps := 2000000) only [push_cast, seval, ↓kw2, h0, h0', getA0, getA, setA0, setA, get_concat]
  exact ⟨_, rfl, hK _⟩
def ord7 : List (List Nat) := [[0, 1, 2, 3, 4, 5, 6], [0, 1, 2, 4, 3, 5, 6], [0, 1, 2, 4, 5, 3, 6], [0, 1, 4, 2, 3, 5, 6], [0, 1, 4, 2, 5, 3, 6], [0, 1, 4, 5, 2, 3, 6], [1, 0, 2, 3, 4, 5, 6], [1, 0, 2, 4, 3, 5, 6], [1, 0, 2, 4, 5, 3, 6], [1, 0, 4, 2, 3, 5, 6], [1, 0, 4, 2, 5, 3, 6], [1, 0, 4, 5, 2, 3, 6]]
theorem e24 : Ent Tryz.prog 24 Tryz.f24 [7,8] 1 := ⟨Tryz.func24, rfl, by decide, by kernel_rfl, by kernel_rfl, by decide, by kernel_rfl⟩
attribute [push_cast] Tryz.f24
set_option maxHeartbeats 16000000 in
set_option maxRecDepth 400000 in
theorem started_pur {s : Sta} (h : s.good) (hl : s.lim) (hcl : ∀ j ∈ s.jobs, 0 ≤ j.cls ∧ j.cls < s.c.cls.length) : Pur Tryz.prog GG 24 [s.av] (B (startG s.c.cls (hasPart s.parts) ([], 0) s.jobs)) := by
  obtain ⟨⟨⟨a1, a2, a3⟩, b1, b2, b3⟩, ⟨⟨c1, c2, c3⟩, d1, d2, d3⟩, ⟨e1, e2, e3⟩, ⟨f1, f2, f3⟩, g1, g2, g3⟩ := h.cell
  obtain ⟨p1, p2, p3, p4, p5, p6, p7⟩ := h.purs
  have hlj := hl.jl
  have hlen := h.js.1.len un27
  rw [List.length_map] at hlen
  have hidx := fun (i : Nat) (hi : i < s.jobs.length) (H : List AO) => h.js.1.idx (P := Tryz.prog) un27 sz50 (i := (i : Int)) (by rw [List.length_map]; omega) (by omega) H
  show Pur Tryz.prog GG 24 [ST s.c.a s.c.b s.c.c s.c.boot s.c.free s.c.tries s.c.age s.cs s.now s.next s.js s.ps s.ks s.ds s.hs s.us] _
  refine goQ e24 TOk.nil 0 ?_ (by simp [AV.purL, AV.pur, p1, p2, p3, p4, p5, p6, p7])
  simp (maxSteps := 2000000) only [push_cast, seval, ↓kw2, a1, a2, a3, b1, b2, b3, c1, c2, c3, d1, d2, d3, e1, e2, e3, f1, f2, f3, g1, g2, g3, hlen]
  let CC : AO := .cells [I s.c.a, I s.c.b, I s.c.c, I s.c.boot, I s.c.free, I s.c.tries, I s.c.age, s.cs, I s.now, I s.next, s.js, s.ps, s.ks, s.ds, s.hs, s.us]
  refine FW.loopInv (fun m ts H => ∃ (i : Nat) (M : MS (Int × Int)), i + m = s.jobs.length ∧ SeqM M ∧ startG s.c.cls (hasPart s.parts) M (s.jobs.drop i) = startG s.c.cls (hasPart s.parts) ([], 0) s.jobs ∧ H[0]? = some CC ∧ H[1]? = some (.map (encM encA I M.1) M.2) ∧ ts 1 = .ptr 0 0 ∧ ts 3 = .mp 1 ∧ ts 10 = s.js ∧ ts 11 = I (s.jobs.length : Int) ∧ ts 12 = I (i : Int)) s.jobs.length
    ⟨0, ([], 0), by omega, ⟨rfl, fun i hi => by simp at hi⟩, rfl, rfl, rfl, rfl, rfl, rfl, rfl, rfl⟩ ?_
  rintro m ih ts H ⟨i, M, hi, hsq, hst, h0, h1, t1, t3, t10, t11, t12⟩
  refine FW.inLoop ?_
  by_cases hlt : i < s.jobs.length
  · have hd1 : decide ((i : Int) < (s.jobs.length : Int)) = true := by simp [hlt]
    have hx := hidx i hlt
    have hgy := getD_map Jb.av s.jobs default hlt
    simp only [Int.toNat_natCast] at hx
    rw [hgy] at hx
    rw [drop_cons default hlt] at hst
    have hg := h.js.get i
    have hjc := hcl (s.jobs.getD i default) (by simp [List.getD, hlt])
    generalize s.jobs.getD i default = j at hx hst hg hjc
    have hcx := Jb.cells j
    obtain ⟨m1, m2, m3⟩ := IsSl.cell hg
    have hbb : (0 ≤ (i : Int) ∧ (i : Int) < ((s.jobs.map Jb.av).length : Int)) := ⟨by omega, by rw [List.length_map]; omega⟩
    have hi1 := wrapL (n := (i : Int) + 1) (by omega) (by omega)
    by_cases hj2 : j.st = 2
    · have hd2 : decide (j.st = 2) = true := decide_eq_true hj2
      rw [startG, if_pos hj2] at hst
      refine goW TOk.nil [7,8] 0 ?_
      simp (maxSteps := 2000000) only [push_cast, seval, ↓kw2, t1, t3, t10, t11, t12, hd1, hd2, hx, hcx, m1, m2, m3, getA0, getA, setA0, setA, get_concat, h0, h1, List.contains_cons, Bool.true_or, Bool.or_true, Bool.false_or]
      have hL1 := lt_of_get h1
      have hm1 : ∀ X, (H ++ X)[1]? = some (.map (encM encA I M.1) M.2) := fun X => (List.getElem?_append_left hL1).trans h1
      have hget : ∀ X, aLookup Tryz.prog 107 (.mp 1) (.agg [I j.user, I j.cls]) false (H ++ X) = some ⟨True, I (getM M (j.user, j.cls)), H ++ X⟩ := fun X => get_M (ek := encA) (ev := I) un107 ze3 eqA ckA (hm1 X) (j.user, j.cls)
      have hent : ∀ X, aMapEntry Tryz.prog 107 (.mp 1) (.agg [I j.user, I j.cls]) (H ++ X) = some ⟨True, .tup [I (getM M (j.user, j.cls)), I (posM M (j.user, j.cls) : Nat)], (H ++ X).set 1 (.map (encM encA I (entM M (j.user, j.cls)).1) (entM M (j.user, j.cls)).2)⟩ := fun X => ent_M (ek := encA) (ev := I) un107 ze3 eqA ckA flA hsq (hm1 X) (j.user, j.cls)
      have hm2 : ∀ X o, ((H ++ X).set 1 o)[1]? = some o := fun X o => List.getElem?_set_self (by simp; omega)
      have hge2 : ∀ X, aLookup Tryz.prog 107 (.mp 1) (.agg [I j.user, I j.cls]) false ((H ++ X).set 1 (.map (encM encA I (entM M (j.user, j.cls)).1) (entM M (j.user, j.cls)).2)) = some ⟨True, I (getM M (j.user, j.cls)), (H ++ X).set 1 (.map (encM encA I (entM M (j.user, j.cls)).1) (entM M (j.user, j.cls)).2)⟩ := fun X => by
        have := get_M (ek := encA) (ev := I) un107 ze3 eqA ckA (hm2 X (.map (encM encA I (entM M (j.user, j.cls)).1) (entM M (j.user, j.cls)).2)) (j.user, j.cls)
        rw [get_ent] at this
        exact this
      have hsto : ∀ X v, aEntryStore (.mp 1) (I (posM M (j.user, j.cls) : Nat)) (I v) ((H ++ X).set 1 (.map (encM encA I (entM M (j.user, j.cls)).1) (entM M (j.user, j.cls)).2)) = some ⟨True, .un, (H ++ X).set 1 (.map (encM encA I (putM M (j.user, j.cls) v).1) (putM M (j.user, j.cls) v).2)⟩ := fun X v => by
        have := store_M (ek := encA) (ev := I) hsq (j.user, j.cls) (hm2 X _) v
        rw [List.set_set] at this
        exact this
      refine ⟨hbb, FW.drawAll hmix (ls := ord7) (by kernel_rfl) (by kernel_rfl) (Inv := fun ts' H' => (ts' 1 = .ptr 0 0 ∧ ts' 3 = .mp 1 ∧ ts' 5 = .ptr H.length 0 ∧ ts' 6 = .ptr (H.length + 1) 0 ∧ ts' 10 = s.js ∧ ts' 11 = I (s.jobs.length : Int) ∧ ts' 12 = I (i : Int)) ∧
        H' = (H ++ [AO.cells [I j.id, I j.user, I j.cls, I j.w.p, I j.w.q, I j.w.r, B j.w.s, B j.w.t, B j.w.u, B j.w.v, I j.wall, I j.prio, B j.held, j.aft, .c (.int .u8 j.st), I j.came], AO.cells [I j.user, I j.cls]]).set 1 (.map (encM encA I (putM M (j.user, j.cls) (IntKind.i64.wrap (getM M (j.user, j.cls) + 1))).1) (putM M (j.user, j.cls) (IntKind.i64.wrap (getM M (j.user, j.cls) + 1))).2)) ?_ ?_⟩
      · intro l hl
        simp only [ord7, List.mem_cons, List.not_mem_nil, or_false] at hl
        rcases hl with rfl | rfl | rfl | rfl | rfl | rfl | rfl | rfl | rfl | rfl | rfl | rfl
        all_goals
          simp (maxSteps := 2000000) only [push_cast, seval, ↓kw2, t1, t3, t10, t11, t12, getA0, getA, aop3, hget, hge2, hent, hsto]
      · clear t1 t3 t10 t11 t12
        rintro ts' H' ⟨⟨t1, t3, t5, t6, t10, t11, t12⟩, rfl⟩
        have hcx2 := h.cs.idx (P := Tryz.prog) un24 sz84 (i := j.cls) (by rw [List.length_map]; omega) (by omega)
        rw [getD_map Cls.av s.c.cls default (by omega)] at hcx2
        have hcc := Cls.cells (s.c.cls.getD j.cls.toNat default)
        generalize s.c.cls.getD j.cls.toNat default = cl at hcx2 hcc hst
        generalize IntKind.i64.wrap (getM M (j.user, j.cls) + 1) = v at hst ⊢
        generalize hXX : [AO.cells [I j.id, I j.user, I j.cls, I j.w.p, I j.w.q, I j.w.r, B j.w.s, B j.w.t, B j.w.u, B j.w.v, I j.wall, I j.prio, B j.held, j.aft, .c (.int .u8 j.st), I j.came], AO.cells [I j.user, I j.cls]] = X
        have hX0 : X[0]? = some (.cells [I j.id, I j.user, I j.cls, I j.w.p, I j.w.q, I j.w.r, B j.w.s, B j.w.t, B j.w.u, B j.w.v, I j.wall, I j.prio, B j.held, j.aft, .c (.int .u8 j.st), I j.came]) := by rw [← hXX]; rfl
        have hX1 : X[1]? = some (.cells [I j.user, I j.cls]) := by rw [← hXX]; rfl
        have hlo := get_M (ek := encA) (ev := I) un107 ze3 eqA ckA (hm2 X (.map (encM encA I (putM M (j.user, j.cls) v).1) (putM M (j.user, j.cls) v).2)) (j.user, j.cls)
        rw [get_put, show encA (j.user, j.cls) = .agg [I j.user, I j.cls] from rfl] at hlo
        have hs1 := hm2 X (.map (encM encA I (putM M (j.user, j.cls) v).1) (putM M (j.user, j.cls) v).2)
        have q0 : ((H ++ X).set 1 (.map (encM encA I (putM M (j.user, j.cls) v).1) (putM M (j.user, j.cls) v).2))[0]? = some CC := by rw [List.getElem?_set_ne (by omega), List.getElem?_append_left (by omega)]; exact h0
        have q5 : ((H ++ X).set 1 (.map (encM encA I (putM M (j.user, j.cls) v).1) (putM M (j.user, j.cls) v).2))[H.length]? = X[0]? := by rw [List.getElem?_set_ne (by omega), getA0]
        have q6 : ((H ++ X).set 1 (.map (encM encA I (putM M (j.user, j.cls) v).1) (putM M (j.user, j.cls) v).2))[H.length + 1]? = X[1]? := by rw [List.getElem?_set_ne (by omega), getA]
        rw [hX0] at q5
        rw [hX1] at q6
        generalize (H ++ X).set 1 (.map (encM encA I (putM M (j.user, j.cls) v).1) (putM M (j.user, j.cls) v).2) = H2 at hlo hs1 q0 q5 q6 ⊢
        have hcb : (0 ≤ j.cls ∧ j.cls < ((s.c.cls.map Cls.av).length : Int)) := ⟨by omega, by rw [List.length_map]; omega⟩
        simp only [CC] at q0
        refine goW TOk.nil [7,8] 0 ?_
        simp (maxSteps := 2000000) only [push_cast, seval, ↓kw2, t1, t3, t5, t6, t10, t11, t12, List.contains_cons, Bool.true_or, Bool.or_true, Bool.false_or]
        refine FW.drawI hmix (by kernel_rfl) ?_
        cases hc : decide (cl.d < v)
        · rw [hc, Bool.false_or, Bool.not_not] at hst
          simp (maxSteps := 2000000) only [push_cast, seval, ↓kw2, symI_cons, symI_nil, t1, t3, t5, t6, t10, t11, t12, hlo, q0, q5, q6, hcx2, hcc, hc]
          refine ⟨hcb, ?_⟩
          refine hasP h.ps hl.pl (fun _ H' => ∃ Y, H' = H2 ++ Y) (pr := fun i => decide ((s.parts.getD i default).job = j.id)) ?_ ⟨[], by simp⟩ ?_
          · rintro i _ K hi ⟨Y, rfl⟩ hK
            exact started1_ac ((List.getElem?_append_left (lt_of_get q5)).trans q5) fun X => hK _ ⟨Y ++ X, by simp⟩
          rintro H' ⟨_, _, Y, rfl⟩
          have hps : hasPart s.parts j.id = anyN (fun i => decide ((s.parts.getD i default).job = j.id)) s.parts.length 0 := rfl
          rw [symI_on]
          cases hA : anyN (fun i => decide ((s.parts.getD i default).job = j.id)) s.parts.length 0
          · rw [hps, hA] at hst
            simp (maxSteps := 2000000) only [push_cast, seval, ↓kw2, symI_cons, symI_nil]
            refine goW TOk.nil [7,8] 0 ?_
            simp (maxSteps := 2000000) only [push_cast, seval, ↓kw2]
            exact ⟨_, rfl, done_pur rfl (by rw [← hst]; rfl)⟩
          · rw [hps, hA, Bool.true_and] at hst
            simp (maxSteps := 2000000) only [push_cast, seval, ↓kw2, symI_cons, symI_nil]
            refine goW TOk.nil [7,8] 0 ?_
            simp (maxSteps := 2000000) only [push_cast, seval, ↓kw2, t12, hi1]
            exact ih (m - 1) (by omega) _ _ ⟨i + 1, _, by omega, seq_put hsq _ _, hst, (List.getElem?_append_left (lt_of_get q0)).trans q0, (List.getElem?_append_left (lt_of_get hs1)).trans hs1, t1, t3, t10, t11, rfl⟩
        · rw [hc, Bool.true_or] at hst
          simp (maxSteps := 2000000) only [push_cast, seval, ↓kw2, symI_cons, symI_nil, t1, t3, t5, t6, t10, t11, t12, hlo, q0, q5, q6, hcx2, hcc, hc]
          refine ⟨hcb, ?_⟩
          refine goW TOk.nil [7,8] 0 ?_
          simp (maxSteps := 2000000) only [push_cast, seval, ↓kw2]
          exact ⟨_, rfl, done_pur rfl (by rw [← hst]; rfl)⟩
    · have hd2 : decide (j.st = 2) = false := decide_eq_false hj2
      rw [startG, if_neg hj2] at hst
      refine goW TOk.nil [7,8] 0 ?_
      simp (maxSteps := 2000000) only [push_cast, seval, ↓kw2, t1, t3, t10, t11, t12, hd1, hd2, hx, hcx, m1, m2, m3, getA0, getA, setA0, setA, get_concat, h0, h1, hi1]
      refine ⟨hbb, ih (m - 1) (by omega) _ _ ⟨i + 1, M, by omega, hsq, hst, (List.getElem?_append_left (lt_of_get h0)).trans h0, (List.getElem?_append_left (lt_of_get h1)).trans h1, t1, t3, t10, t11, rfl⟩⟩
  · have hd1 : decide ((i : Int) < (s.jobs.length : Int)) = false := by simp; omega
    rw [List.drop_eq_nil_of_le (by omega)] at hst
    refine goW TOk.nil [7,8] 0 ?_
    simp (maxSteps := 2000000) only [push_cast, seval, ↓kw2, t1, t3, t10, t11, t12, hd1]
    exact ⟨_, rfl, done_pur rfl (by rw [← hst]; rfl)⟩
end Go.Ab.Pd

set_option linter.unusedSimpArgs false
set_option linter.unusedVariables false
namespace Go.Ab.Pd
open Go.Proofs
theorem IsSl.ne {s : AV} {l : List AV} (h : IsSl s l) (h0 : 0 < l.length) : s = .isl l := by
  rcases h with h | ⟨h, _⟩
  · exact h
  · rw [h] at h0; simp at h0
theorem sl_parts {l : List Prt} {i : Nat} (hi : i ≤ l.length) : ∃ C, (∀ H, aSlice Tryz.prog 28 (.isl (l.map Prt.av)) H none (some (I (i : Int))) none = some (C, .isl ((l.take i).map Prt.av))) ∧ C := by
  unfold aSlice
  simp only [un28, sz43, aBound]
  refine ⟨True ∧ 0 ≤ (i : Int) ∧ 0 ≤ (i : Int).toNat ∧ (i : Int).toNat ≤ (l.map Prt.av).length ∧ (0 < (i : Int).toNat → ((l.map Prt.av).getD 0 .un).cells.length = 13), ?_, ?_⟩
  · intro H
    show some (_, AV.isl (List.take ((i : Int).toNat - 0) (List.drop 0 (List.map Prt.av l)))) = _
    rw [Int.toNat_natCast, Nat.sub_zero, List.drop_zero, List.map_take]
  · refine ⟨trivial, by omega, by omega, by rw [List.length_map]; omega, fun h => ?_⟩
    rw [getD_map Prt.av l default (by omega)]
    rfl
theorem e54 : Ent Tryz.prog 54 Tryz.f54 [] 3 := ⟨Tryz.func54, rfl, by decide, by kernel_rfl, by kernel_rfl, by decide, by kernel_rfl⟩
attribute [push_cast] Tryz.f54
set_option maxHeartbeats 8000000 in
set_option maxRecDepth 400000 in
theorem parts1_ac {s : Sta} (h : s.good) (p o : Prt) {H : List AO} {q0 q1 : Nat} (h0 : H[q0]? = some (.cells s.cel)) (h1 : H[q1]? = some (.cells p.av.cells)) {K : AV → List AO → Prop} (hK : ∀ X, K (B (s.meet p.pl o.pl)) (H ++ X)) :
    AC Tryz.prog GG 54 [o.av, .ptr q0 0, .ptr q1 0] H K := by
  obtain ⟨⟨⟨a1, a2, a3⟩, b1, b2, b3⟩, ⟨⟨c1, c2, c3⟩, d1, d2, d3⟩, ⟨e1, e2, e3⟩, ⟨f1, f2, f3⟩, g1, g2, g3⟩ := h.cell
  obtain ⟨p1, p2, p3, p4, p5, p6, p7⟩ := h.purs
  have hm := meetS_pur h p.pl o.pl
  have w0 : ∀ X, (H ++ X)[q0]? = some (.cells s.cel) := fun X => (List.getElem?_append_left (lt_of_get h0)).trans h0
  have w1 : ∀ X, (H ++ X)[q1]? = some (.cells p.av.cells) := fun X => (List.getElem?_append_left (lt_of_get h1)).trans h1
  unfold Sta.cel at h0 w0
  rw [Prt.cells] at h1
  simp only [Prt.cells] at w1
  simp only [Sta.av, Plc.av] at hm
  show AC Tryz.prog GG 54 [PA o.job o.pl o.ph o.tries o.since, .ptr q0 0, .ptr q1 0] H K
  refine goE e54 TOk.nil 0 ?_
  simp (maxSteps := 2000000) only [push_cast, seval, ↓kw2, a1, a2, a3, b1, b2, b3, c1, c2, c3, d1, d2, d3, e1, e2, e3, f1, f2, f3, g1, g2, g3, h0, h1, w0, w1, getA0, getA, setA0, setA, get_concat, List.length_cons, List.length_nil, List.take]
  refine AC.pur hm ?_
  refine goN ?_
  simp (maxSteps := 2000000) only [push_cast, seval, ↓kw2]
  exact ⟨_, rfl, hK _⟩
def Sta.odd1 (s : Sta) (i : Nat) : Bool := (decide (0 < i) && decide ((s.parts.getD i default).job ≤ (s.parts.getD (i - 1) default).job)) || !s.part (s.parts.getD i default)
def Sta.odd2 (s : Sta) (i : Nat) : Bool := anyN (fun k => s.meet (s.parts.getD i default).pl ((s.parts.take i).getD k default).pl) (s.parts.take i).length 0
def Sta.partsV (s : Sta) : Bool := decide ((s.parts.length : Int) ≤ 24) && !anyN (fun i => s.odd1 i || s.odd2 i) s.parts.length 0
theorem e23 : Ent Tryz.prog 23 Tryz.f23 [] 1 := ⟨Tryz.func23, rfl, by decide, by kernel_rfl, by kernel_rfl, by decide, by kernel_rfl⟩
attribute [push_cast] Tryz.f23
set_option maxHeartbeats 16000000 in
set_option maxRecDepth 400000 in
theorem parts_pur {s : Sta} (h : s.good) (hl : s.lim) : Pur Tryz.prog GG 23 [s.av] (B s.partsV) := by
  obtain ⟨⟨⟨a1, a2, a3⟩, b1, b2, b3⟩, ⟨⟨c1, c2, c3⟩, d1, d2, d3⟩, ⟨e1, e2, e3⟩, ⟨f1, f2, f3⟩, g1, g2, g3⟩ := h.cell
  obtain ⟨p1, p2, p3, p4, p5, p6, p7⟩ := h.purs
  have hlen := h.ps.len un28
  rw [List.length_map] at hlen
  unfold Sta.partsV
  show Pur Tryz.prog GG 23 [ST s.c.a s.c.b s.c.c s.c.boot s.c.free s.c.tries s.c.age s.cs s.now s.next s.js s.ps s.ks s.ds s.hs s.us] _
  by_cases h24 : 24 < (s.parts.length : Int)
  · rw [decide_eq_false (by omega), Bool.false_and]
    refine goQ e23 TOk.nil 0 ?_ (by simp [AV.purL, AV.pur, p1, p2, p3, p4, p5, p6, p7])
    simp (maxSteps := 2000000) only [push_cast, seval, ↓kw2, a1, a2, a3, b1, b2, b3, c1, c2, c3, d1, d2, d3, e1, e2, e3, f1, f2, f3, g1, g2, g3, hlen, h24]
    exact ⟨_, rfl, done_pur rfl rfl⟩
  rw [decide_eq_true (by omega), Bool.true_and]
  have hidx := fun (i : Nat) (hi : i < s.parts.length) (H : List AO) => h.ps.idx (P := Tryz.prog) un28 sz43 (i := (i : Int)) (by rw [List.length_map]; omega) (by omega) H
  refine goQ e23 TOk.nil 0 ?_ (by simp [AV.purL, AV.pur, p1, p2, p3, p4, p5, p6, p7])
  simp (maxSteps := 2000000) only [push_cast, seval, ↓kw2, a1, a2, a3, b1, b2, b3, c1, c2, c3, d1, d2, d3, e1, e2, e3, f1, f2, f3, g1, g2, g3, hlen, h24]
  refine FW.loopInv (fun m ts H => ∃ i : Nat, i + m = s.parts.length ∧ anyN (fun i => s.odd1 i || s.odd2 i) m i = anyN (fun i => s.odd1 i || s.odd2 i) s.parts.length 0 ∧ H[0]? = some (.cells s.cel) ∧ ts 1 = .ptr 0 0 ∧ ts 12 = s.ps ∧ ts 13 = I (s.parts.length : Int) ∧ ts 14 = I (i : Int)) s.parts.length
    ⟨0, by omega, rfl, rfl, rfl, rfl, rfl, rfl⟩ ?_
  rintro m ih ts H ⟨i, hi, hf, m0, t1, t12, t13, t14⟩
  refine FW.inLoop ?_
  by_cases hlt : i < s.parts.length
  · have hd1 : decide ((i : Int) < (s.parts.length : Int)) = true := by simp [hlt]
    have hx := hidx i hlt
    have hgy := getD_map Prt.av s.parts default hlt
    simp only [Int.toNat_natCast] at hx
    rw [hgy] at hx
    obtain ⟨m, rfl⟩ : ∃ m', m = m' + 1 := ⟨m - 1, by omega⟩
    have hfs : anyN (fun i => s.odd1 i || s.odd2 i) (m + 1) i = ((s.odd1 i || s.odd2 i) || anyN (fun i => s.odd1 i || s.odd2 i) m (i + 1)) := rfl
    rw [hfs] at hf
    have hP := partS_pur h hl (s.parts.getD i default)
    have ho1 : s.odd1 i = ((decide (0 < i) && decide ((s.parts.getD i default).job ≤ (s.parts.getD (i - 1) default).job)) || !s.part (s.parts.getD i default)) := rfl
    have ho2 : s.odd2 i = anyN (fun k => s.meet (s.parts.getD i default).pl ((s.parts.take i).getD k default).pl) (s.parts.take i).length 0 := rfl
    generalize hp0 : s.parts.getD i default = p at hx hP ho1 ho2
    have hcx := Prt.cells p
    have hbb : (0 ≤ (i : Int) ∧ (i : Int) < ((s.parts.map Prt.av).length : Int)) := ⟨by omega, by rw [List.length_map]; omega⟩
    have mm0 : ∀ X, (H ++ X)[0]? = some (.cells s.cel) := fun X => (List.getElem?_append_left (lt_of_get m0)).trans m0
    have mm0' := mm0
    unfold Sta.cel at mm0'
    have hi1 := wrapL (n := (i : Int) + 1) (by omega) (by omega)
    simp only [Sta.av, Prt.av] at hP
    have hpe := Go.Ab.Pd.IsSl.ne h.ps (by rw [List.length_map]; omega)
    obtain ⟨C, hsl, hC⟩ := sl_parts (l := s.parts) (i := i) (by omega)
    rw [← hpe] at hsl
    have hbad : s.odd1 i = true → anyN (fun i => s.odd1 i || s.odd2 i) s.parts.length 0 = true := fun ho => by rw [← hf, ho]; rfl
    have hmid : s.odd1 i = false → True := fun _ => trivial
    by_cases hi0 : i = 0
    · have d0 : decide (0 < (i : Int)) = false := decide_eq_false (by omega)
      rw [decide_eq_false (by omega : ¬0 < i), Bool.false_and, Bool.false_or] at ho1
      refine goN ?_
      simp (maxSteps := 2000000) only [push_cast, seval, ↓kw2, a1, a2, a3, b1, b2, b3, c1, c2, c3, d1, d2, d3, e1, e2, e3, f1, f2, f3, g1, g2, g3, t1, t12, t13, t14, hd1, hx, hcx, mm0', d0, getA0, getA, setA0, setA, get_concat, List.length_cons, List.length_nil, List.take]
      cases hpt : s.part p
      · rw [hpt] at hP ho1
        have hb := hbad ho1
        refine ⟨hbb, _, toVQ hP, ?_⟩
        simp (maxSteps := 2000000) only [push_cast, seval, ↓kw2, a1, a2, a3, b1, b2, b3, c1, c2, c3, d1, d2, d3, e1, e2, e3, f1, f2, f3, g1, g2, g3, t1, t12, t13, t14, mm0', getA0, getA, setA0, setA, get_concat, List.length_cons, List.length_nil, List.take]
        exact ⟨_, rfl, done_pur rfl (by rw [hb]; rfl)⟩
      · rw [hpt] at hP ho1
        rw [show s.odd1 i = false from ho1, Bool.false_or] at hf
        refine ⟨hbb, _, toVQ hP, ?_⟩
        simp (maxSteps := 2000000) only [push_cast, seval, ↓kw2, a1, a2, a3, b1, b2, b3, c1, c2, c3, d1, d2, d3, e1, e2, e3, f1, f2, f3, g1, g2, g3, t1, t12, t13, t14, mm0', getA0, getA, setA0, setA, get_concat, List.length_cons, List.length_nil, List.take, hsl]
        refine ⟨hC, ?_⟩
        refine hasP (.inl rfl) (by rw [List.length_take]; omega) (fun _ H2 => ∃ X, H2 = H ++ (AO.cells [I p.job, I p.pl.x, I p.pl.y, I p.pl.z, I p.pl.p, I p.pl.q, I p.pl.r, B p.pl.s, B p.pl.t, B p.pl.u, .c (.int .u8 p.ph), I p.tries, I p.since] :: X)) (pr := fun k => s.meet p.pl ((s.parts.take i).getD k default).pl) ?_ ⟨[], rfl⟩ ?_
        · rintro k H2 K hk ⟨X, rfl⟩ hK
          exact parts1_ac h p _ (q0 := 0) (q1 := H.length) (mm0 _) (by rw [getA0]; rfl) fun X2 => hK _ ⟨X ++ X2, by simp⟩
        rintro H2 ⟨_, _, X, rfl⟩
        show FW _ _ _ _ _ (upd _ _ (B (anyN (fun k => s.meet p.pl ((s.parts.take i).getD k default).pl) (s.parts.take i).length 0))) _ _
        rw [← ho2]
        cases ho : s.odd2 i
        · rw [ho, Bool.false_or] at hf
          refine goN ?_
          simp (maxSteps := 2000000) only [push_cast, seval, ↓kw2, t14, hi1]
          refine goN ?_
          simp (maxSteps := 2000000) only [push_cast, seval, ↓kw2, t14, hi1]
          exact ih m (by omega) _ _ ⟨i + 1, by omega, hf, mm0 _, t1, t12, t13, rfl⟩
        · rw [ho, Bool.true_or] at hf
          refine goN ?_
          simp (maxSteps := 2000000) only [push_cast, seval, ↓kw2]
          exact ⟨_, rfl, done_pur rfl (by rw [← hf]; rfl)⟩
    · have d0 : decide (0 < (i : Int)) = true := decide_eq_true (by omega)
      rw [decide_eq_true (by omega : 0 < i), Bool.true_and] at ho1
      have hw1 := wrapL (n := (i : Int) - 1) (by omega) (by omega)
      have hx2 := hidx (i - 1) (by omega)
      have hgy2 := getD_map Prt.av s.parts default (by omega : i - 1 < s.parts.length)
      rw [show ((i - 1 : Nat) : Int) = (i : Int) - 1 by omega] at hx2
      rw [show ((i : Int) - 1).toNat = i - 1 by omega, hgy2] at hx2
      generalize hp2 : s.parts.getD (i - 1) default = o at hx2 ho1
      have hcx2 := Prt.cells o
      have hbb2 : (0 ≤ (i : Int) - 1 ∧ (i : Int) - 1 < ((s.parts.map Prt.av).length : Int)) := ⟨by omega, by rw [List.length_map]; omega⟩
      by_cases hle : p.job ≤ o.job
      · have d2 := decide_eq_true hle
        rw [d2, Bool.true_or] at ho1
        have hb := hbad ho1
        refine goN ?_
        simp (maxSteps := 2000000) only [push_cast, seval, ↓kw2, a1, a2, a3, b1, b2, b3, c1, c2, c3, d1, d2, d3, e1, e2, e3, f1, f2, f3, g1, g2, g3, t1, t12, t13, t14, hd1, hx, hcx, mm0', d0, hw1, hx2, hcx2, d2, getA0, getA, setA0, setA, get_concat, List.length_cons, List.length_nil, List.take]
        refine ⟨hbb, hbb2, ?_⟩
        exact ⟨_, rfl, done_pur rfl (by rw [hb]; rfl)⟩
      · have d2 := decide_eq_false hle
        rw [d2, Bool.false_or] at ho1
        refine goN ?_
        simp (maxSteps := 2000000) only [push_cast, seval, ↓kw2, a1, a2, a3, b1, b2, b3, c1, c2, c3, d1, d2, d3, e1, e2, e3, f1, f2, f3, g1, g2, g3, t1, t12, t13, t14, hd1, hx, hcx, mm0', d0, hw1, hx2, hcx2, d2, getA0, getA, setA0, setA, get_concat, List.length_cons, List.length_nil, List.take]
        refine ⟨hbb, hbb2, ?_⟩
        cases hpt : s.part p
        · rw [hpt] at hP ho1
          have hb := hbad ho1
          refine ⟨_, toVQ hP, ?_⟩
          simp (maxSteps := 2000000) only [push_cast, seval, ↓kw2, a1, a2, a3, b1, b2, b3, c1, c2, c3, d1, d2, d3, e1, e2, e3, f1, f2, f3, g1, g2, g3, t1, t12, t13, t14, mm0', getA0, getA, setA0, setA, get_concat, List.length_cons, List.length_nil, List.take]
          exact ⟨_, rfl, done_pur rfl (by rw [hb]; rfl)⟩
        · rw [hpt] at hP ho1
          rw [show s.odd1 i = false from ho1, Bool.false_or] at hf
          refine ⟨_, toVQ hP, ?_⟩
          simp (maxSteps := 2000000) only [push_cast, seval, ↓kw2, a1, a2, a3, b1, b2, b3, c1, c2, c3, d1, d2, d3, e1, e2, e3, f1, f2, f3, g1, g2, g3, t1, t12, t13, t14, mm0', getA0, getA, setA0, setA, get_concat, List.length_cons, List.length_nil, List.take, hsl]
          refine ⟨hC, ?_⟩
          refine hasP (.inl rfl) (by rw [List.length_take]; omega) (fun _ H2 => ∃ X, H2 = H ++ (AO.cells [I p.job, I p.pl.x, I p.pl.y, I p.pl.z, I p.pl.p, I p.pl.q, I p.pl.r, B p.pl.s, B p.pl.t, B p.pl.u, .c (.int .u8 p.ph), I p.tries, I p.since] :: X)) (pr := fun k => s.meet p.pl ((s.parts.take i).getD k default).pl) ?_ ⟨[], rfl⟩ ?_
          · rintro k H2 K hk ⟨X, rfl⟩ hK
            exact parts1_ac h p _ (q0 := 0) (q1 := H.length) (mm0 _) (by rw [getA0]; rfl) fun X2 => hK _ ⟨X ++ X2, by simp⟩
          rintro H2 ⟨_, _, X, rfl⟩
          show FW _ _ _ _ _ (upd _ _ (B (anyN (fun k => s.meet p.pl ((s.parts.take i).getD k default).pl) (s.parts.take i).length 0))) _ _
          rw [← ho2]
          cases ho : s.odd2 i
          · rw [ho, Bool.false_or] at hf
            refine goN ?_
            simp (maxSteps := 2000000) only [push_cast, seval, ↓kw2, t14, hi1]
            refine goN ?_
            simp (maxSteps := 2000000) only [push_cast, seval, ↓kw2, t14, hi1]
            exact ih m (by omega) _ _ ⟨i + 1, by omega, hf, mm0 _, t1, t12, t13, rfl⟩
          · rw [ho, Bool.true_or] at hf
            refine goN ?_
            simp (maxSteps := 2000000) only [push_cast, seval, ↓kw2]
            exact ⟨_, rfl, done_pur rfl (by rw [← hf]; rfl)⟩
  · have hd1 : decide ((i : Int) < (s.parts.length : Int)) = false := by simp; omega
    have hm : m = 0 := by omega
    subst hm
    have hf2 : anyN (fun i => s.odd1 i || s.odd2 i) s.parts.length 0 = false := hf.symm
    refine goN ?_
    simp (maxSteps := 2000000) only [push_cast, seval, ↓kw2, t13, t14, hd1]
    exact ⟨_, rfl, done_pur rfl (by rw [hf2]; rfl)⟩
end Go.Ab.Pd

set_option linter.unusedSimpArgs false
set_option linter.unusedVariables false
namespace Go.Ab.Pd
open Go.Proofs
theorem sl_keeps {l : List Kep} {i : Nat} (hi : i ≤ l.length) : ∃ C, (∀ H, aSlice Tryz.prog 29 (.isl (l.map Kep.av)) H none (some (I (i : Int))) none = some (C, .isl ((l.take i).map Kep.av))) ∧ C := by
  unfold aSlice
  simp only [un29, sz56, aBound]
  refine ⟨True ∧ 0 ≤ (i : Int) ∧ 0 ≤ (i : Int).toNat ∧ (i : Int).toNat ≤ (l.map Kep.av).length ∧ (0 < (i : Int).toNat → ((l.map Kep.av).getD 0 .un).cells.length = 9), ?_, ?_⟩
  · intro H
    show some (_, AV.isl (List.take ((i : Int).toNat - 0) (List.drop 0 (List.map Kep.av l)))) = _
    rw [Int.toNat_natCast, Nat.sub_zero, List.drop_zero, List.map_take]
  · refine ⟨trivial, by omega, by omega, by rw [List.length_map]; omega, fun h => ?_⟩
    rw [getD_map Kep.av l default (by omega)]
    rfl
def Sta.told (s : Sta) (k : Kep) : Bool := decide (can (ckB s.c.a s.c.b s.c.c k.x k.y k.z k.p k.q k.r) s.c.a k.p k.x = k.x ∧ can (ckB s.c.a s.c.b s.c.c k.x k.y k.z k.p k.q k.r) s.c.b k.q k.y = k.y ∧ can (ckB s.c.a s.c.b s.c.c k.x k.y k.z k.p k.q k.r) s.c.c k.r k.z = k.z ∧ cas (ckB s.c.a s.c.b s.c.c k.x k.y k.z k.p k.q k.r) k.p = k.p ∧ cas (ckB s.c.a s.c.b s.c.c k.x k.y k.z k.p k.q k.r) k.q = k.q ∧ cas (ckB s.c.a s.c.b s.c.c k.x k.y k.z k.p k.q k.r) k.r = k.r)
def Sta.last (s : Sta) (i : Nat) : Int := if i = 0 then 0 else (s.keeps.getD (i - 1) default).id
def Sta.okK (s : Sta) (k : Kep) (last : Int) (i : Nat) : Bool := decide (ckB s.c.a s.c.b s.c.c k.x k.y k.z k.p k.q k.r = 0) && s.told k && !decide (k.id ≤ last) && !decide (s.next ≤ k.id) && !decide (k.fr < 0) && !decide (k.till ≤ k.fr) && !decide (1099511627776 < k.till) && !decide (k.till ≤ s.now) && !s.taken (s.keeps.take i) k.bx k.fr k.till
def Sta.keepsV (s : Sta) : Bool := decide ((s.keeps.length : Int) ≤ 4) && !anyN (fun i => !s.okK (s.keeps.getD i default) (s.last i) i) s.keeps.length 0
theorem e25 : Ent Tryz.prog 25 Tryz.f25 [] 1 := ⟨Tryz.func25, rfl, by decide, by kernel_rfl, by kernel_rfl, by decide, by kernel_rfl⟩
attribute [push_cast] Tryz.f25
set_option maxHeartbeats 16000000 in
set_option maxRecDepth 400000 in
theorem keepsS_pur {s : Sta} (h : s.good) (hl : s.lim) (hE : ∀ p ∈ s.parts, Pur Tryz.prog GG 73 [s.av, p.av] (I (s.ends p))) : Pur Tryz.prog GG 25 [s.av] (B s.keepsV) := by
  obtain ⟨⟨⟨a1, a2, a3⟩, b1, b2, b3⟩, ⟨⟨c1, c2, c3⟩, d1, d2, d3⟩, ⟨e1, e2, e3⟩, ⟨f1, f2, f3⟩, g1, g2, g3⟩ := h.cell
  obtain ⟨p1, p2, p3, p4, p5, p6, p7⟩ := h.purs
  have hlen := h.ks.len un29
  rw [List.length_map] at hlen
  unfold Sta.keepsV
  show Pur Tryz.prog GG 25 [ST s.c.a s.c.b s.c.c s.c.boot s.c.free s.c.tries s.c.age s.cs s.now s.next s.js s.ps s.ks s.ds s.hs s.us] _
  by_cases h24 : 4 < (s.keeps.length : Int)
  · rw [decide_eq_false (by omega), Bool.false_and]
    refine goQ e25 TOk.nil 0 ?_ (by simp [AV.purL, AV.pur, p1, p2, p3, p4, p5, p6, p7])
    simp (maxSteps := 2000000) only [push_cast, seval, ↓kw2, a1, a2, a3, b1, b2, b3, c1, c2, c3, d1, d2, d3, e1, e2, e3, f1, f2, f3, g1, g2, g3, hlen, h24]
    exact ⟨_, rfl, done_pur rfl rfl⟩
  rw [decide_eq_true (by omega), Bool.true_and]
  have hidx := fun (i : Nat) (hi : i < s.keeps.length) (H : List AO) => h.ks.idx (P := Tryz.prog) un29 sz56 (i := (i : Int)) (by rw [List.length_map]; omega) (by omega) H
  refine goQ e25 TOk.nil 0 ?_ (by simp [AV.purL, AV.pur, p1, p2, p3, p4, p5, p6, p7])
  simp (maxSteps := 2000000) only [push_cast, seval, ↓kw2, a1, a2, a3, b1, b2, b3, c1, c2, c3, d1, d2, d3, e1, e2, e3, f1, f2, f3, g1, g2, g3, hlen, h24]
  refine FW.loopInv (fun m ts H => ∃ i : Nat, i + m = s.keeps.length ∧ anyN (fun i => !s.okK (s.keeps.getD i default) (s.last i) i) m i = anyN (fun i => !s.okK (s.keeps.getD i default) (s.last i) i) s.keeps.length 0 ∧ H[0]? = some (.cells s.cel) ∧ ts 1 = .ptr 0 0 ∧ ts 3 = I (s.last i) ∧ ts 15 = s.ks ∧ ts 16 = I (s.keeps.length : Int) ∧ ts 17 = I (i : Int)) s.keeps.length
    ⟨0, by omega, rfl, rfl, rfl, rfl, rfl, rfl, rfl⟩ ?_
  rintro m ih ts H ⟨i, hi, hf, m0, t1, t3, t15, t16, t17⟩
  refine FW.inLoop ?_
  by_cases hlt : i < s.keeps.length
  · have hd1 : decide ((i : Int) < (s.keeps.length : Int)) = true := by simp [hlt]
    have hx := hidx i hlt
    have hgy := getD_map Kep.av s.keeps default hlt
    simp only [Int.toNat_natCast] at hx
    rw [hgy] at hx
    obtain ⟨m, rfl⟩ : ∃ m', m = m' + 1 := ⟨m - 1, by omega⟩
    have hfs : anyN (fun i => !s.okK (s.keeps.getD i default) (s.last i) i) (m + 1) i = (!s.okK (s.keeps.getD i default) (s.last i) i || anyN (fun i => !s.okK (s.keeps.getD i default) (s.last i) i) m (i + 1)) := rfl
    rw [hfs] at hf
    have hla : s.last (i + 1) = (s.keeps.getD i default).id := rfl
    have hT := takenS_pur h hl hE (l := s.keeps.take i) (r := .isl ((s.keeps.take i).map Kep.av)) (.inl rfl) (by rw [List.length_take]; omega) (s.keeps.getD i default).bx (s.keeps.getD i default).fr (s.keeps.getD i default).till
    generalize hk0 : s.keeps.getD i default = k at hx hf hla hT
    have hcx := Kep.cells k
    have hC := canon_pur s.c.a s.c.b s.c.c k.x k.y k.z k.p k.q k.r
    have heq := eqBox' (can (ckB s.c.a s.c.b s.c.c k.x k.y k.z k.p k.q k.r) s.c.a k.p k.x) (can (ckB s.c.a s.c.b s.c.c k.x k.y k.z k.p k.q k.r) s.c.b k.q k.y) (can (ckB s.c.a s.c.b s.c.c k.x k.y k.z k.p k.q k.r) s.c.c k.r k.z) (cas (ckB s.c.a s.c.b s.c.c k.x k.y k.z k.p k.q k.r) k.p) (cas (ckB s.c.a s.c.b s.c.c k.x k.y k.z k.p k.q k.r) k.q) (cas (ckB s.c.a s.c.b s.c.c k.x k.y k.z k.p k.q k.r) k.r) k.x k.y k.z k.p k.q k.r
    rw [show decide (can (ckB s.c.a s.c.b s.c.c k.x k.y k.z k.p k.q k.r) s.c.a k.p k.x = k.x ∧ can (ckB s.c.a s.c.b s.c.c k.x k.y k.z k.p k.q k.r) s.c.b k.q k.y = k.y ∧ can (ckB s.c.a s.c.b s.c.c k.x k.y k.z k.p k.q k.r) s.c.c k.r k.z = k.z ∧ cas (ckB s.c.a s.c.b s.c.c k.x k.y k.z k.p k.q k.r) k.p = k.p ∧ cas (ckB s.c.a s.c.b s.c.c k.x k.y k.z k.p k.q k.r) k.q = k.q ∧ cas (ckB s.c.a s.c.b s.c.c k.x k.y k.z k.p k.q k.r) k.r = k.r) = s.told k from rfl] at heq
    have hbb : (0 ≤ (i : Int) ∧ (i : Int) < ((s.keeps.map Kep.av).length : Int)) := ⟨by omega, by rw [List.length_map]; omega⟩
    have mm0 : ∀ X, (H ++ X)[0]? = some (.cells s.cel) := fun X => (List.getElem?_append_left (lt_of_get m0)).trans m0
    have mm0' := mm0
    unfold Sta.cel at mm0'
    have hi1 := wrapL (n := (i : Int) + 1) (by omega) (by omega)
    have hpe := Go.Ab.Pd.IsSl.ne h.ks (by rw [List.length_map]; omega)
    obtain ⟨C, hsl, hCC⟩ := sl_keeps (l := s.keeps) (i := i) (by omega)
    rw [← hpe] at hsl
    simp only [Sta.av, Kep.bx] at hT
    have hok : s.okK k (s.last i) i = (decide (ckB s.c.a s.c.b s.c.c k.x k.y k.z k.p k.q k.r = 0) && s.told k && !decide (k.id ≤ s.last i) && !decide (s.next ≤ k.id) && !decide (k.fr < 0) && !decide (k.till ≤ k.fr) && !decide (1099511627776 < k.till) && !decide (k.till ≤ s.now) && !s.taken (s.keeps.take i) ⟨k.x, k.y, k.z, k.p, k.q, k.r⟩ k.fr k.till) := rfl
    generalize ckB s.c.a s.c.b s.c.c k.x k.y k.z k.p k.q k.r = ck at hC heq hok
    generalize s.told k = tl at heq hok
    generalize s.taken (s.keeps.take i) ⟨k.x, k.y, k.z, k.p, k.q, k.r⟩ k.fr k.till = tk at hT hok
    generalize s.last i = la at t3 hf hok
    have hch : (decide (ck = 0) = false) ∨ (decide (ck = 0) = true ∧ tl = false) ∨ (decide (ck = 0) = true ∧ tl = true ∧ decide (k.id ≤ la) = true) ∨ (decide (ck = 0) = true ∧ tl = true ∧ decide (k.id ≤ la) = false ∧ decide (s.next ≤ k.id) = true) ∨ (decide (ck = 0) = true ∧ tl = true ∧ decide (k.id ≤ la) = false ∧ decide (s.next ≤ k.id) = false ∧ decide (k.fr < 0) = true) ∨ (decide (ck = 0) = true ∧ tl = true ∧ decide (k.id ≤ la) = false ∧ decide (s.next ≤ k.id) = false ∧ decide (k.fr < 0) = false ∧ decide (k.till ≤ k.fr) = true) ∨ (decide (ck = 0) = true ∧ tl = true ∧ decide (k.id ≤ la) = false ∧ decide (s.next ≤ k.id) = false ∧ decide (k.fr < 0) = false ∧ decide (k.till ≤ k.fr) = false ∧ decide (1099511627776 < k.till) = true) ∨ (decide (ck = 0) = true ∧ tl = true ∧ decide (k.id ≤ la) = false ∧ decide (s.next ≤ k.id) = false ∧ decide (k.fr < 0) = false ∧ decide (k.till ≤ k.fr) = false ∧ decide (1099511627776 < k.till) = false ∧ decide (k.till ≤ s.now) = true) ∨ (decide (ck = 0) = true ∧ tl = true ∧ decide (k.id ≤ la) = false ∧ decide (s.next ≤ k.id) = false ∧ decide (k.fr < 0) = false ∧ decide (k.till ≤ k.fr) = false ∧ decide (1099511627776 < k.till) = false ∧ decide (k.till ≤ s.now) = false ∧ tk = true) ∨ (decide (ck = 0) = true ∧ tl = true ∧ decide (k.id ≤ la) = false ∧ decide (s.next ≤ k.id) = false ∧ decide (k.fr < 0) = false ∧ decide (k.till ≤ k.fr) = false ∧ decide (1099511627776 < k.till) = false ∧ decide (k.till ≤ s.now) = false ∧ tk = false) := by
      generalize decide (ck = 0) = qq1
      generalize tl = qq2
      generalize decide (k.id ≤ la) = qq3
      generalize decide (s.next ≤ k.id) = qq4
      generalize decide (k.fr < 0) = qq5
      generalize decide (k.till ≤ k.fr) = qq6
      generalize decide (1099511627776 < k.till) = qq7
      generalize decide (k.till ≤ s.now) = qq8
      generalize tk = qq9
      cases qq1 <;> cases qq2 <;> cases qq3 <;> cases qq4 <;> cases qq5 <;> cases qq6 <;> cases qq7 <;> cases qq8 <;> cases qq9 <;> simp
    rcases hch with q1 | ⟨q1, q2⟩ | ⟨q1, q2, q3⟩ | ⟨q1, q2, q3, q4⟩ | ⟨q1, q2, q3, q4, q5⟩ | ⟨q1, q2, q3, q4, q5, q6⟩ | ⟨q1, q2, q3, q4, q5, q6, q7⟩ | ⟨q1, q2, q3, q4, q5, q6, q7, q8⟩ | ⟨q1, q2, q3, q4, q5, q6, q7, q8, q9⟩ | ⟨q1, q2, q3, q4, q5, q6, q7, q8, q9⟩
    · skip
      simp only [q1, Bool.true_and, Bool.false_and, Bool.and_false, Bool.and_true, Bool.not_true, Bool.not_false] at hok
      rw [hok] at hf
      simp only [Bool.not_true, Bool.not_false, Bool.true_or, Bool.false_or] at hf
      refine goN ?_
      simp (maxSteps := 2000000) only [push_cast, seval, ↓kw2, a1, a2, a3, b1, b2, b3, c1, c2, c3, d1, d2, d3, e1, e2, e3, f1, f2, f3, g1, g2, g3, t1, t3, t15, t16, t17, hd1, hx, hcx, mm0', getA0, getA, setA0, setA, get_concat, List.length_cons, List.length_nil, List.take]
      refine ⟨hbb, ?_⟩
      refine AC.pur hC ?_
      refine goN ?_
      simp (maxSteps := 2000000) only [push_cast, seval, ↓kw2, a1, a2, a3, b1, b2, b3, c1, c2, c3, d1, d2, d3, e1, e2, e3, f1, f2, f3, g1, g2, g3, t1, t3, t15, t16, t17, mm0', getA0, getA, setA0, setA, get_concat, List.length_cons, List.length_nil, List.take, heq, aBinAgg, q1]
      exact ⟨_, rfl, done_pur rfl (by first | (rw [← hf]; rfl) | (rw [hf]; rfl) | simp [hf] | simp [← hf])⟩
    · skip
      subst q2
      simp only [q1, Bool.true_and, Bool.false_and, Bool.and_false, Bool.and_true, Bool.not_true, Bool.not_false] at hok
      rw [hok] at hf
      simp only [Bool.not_true, Bool.not_false, Bool.true_or, Bool.false_or] at hf
      refine goN ?_
      simp (maxSteps := 2000000) only [push_cast, seval, ↓kw2, a1, a2, a3, b1, b2, b3, c1, c2, c3, d1, d2, d3, e1, e2, e3, f1, f2, f3, g1, g2, g3, t1, t3, t15, t16, t17, hd1, hx, hcx, mm0', getA0, getA, setA0, setA, get_concat, List.length_cons, List.length_nil, List.take]
      refine ⟨hbb, ?_⟩
      refine AC.pur hC ?_
      refine goN ?_
      simp (maxSteps := 2000000) only [push_cast, seval, ↓kw2, a1, a2, a3, b1, b2, b3, c1, c2, c3, d1, d2, d3, e1, e2, e3, f1, f2, f3, g1, g2, g3, t1, t3, t15, t16, t17, mm0', getA0, getA, setA0, setA, get_concat, List.length_cons, List.length_nil, List.take, heq, aBinAgg, q1]
      exact ⟨_, rfl, done_pur rfl (by first | (rw [← hf]; rfl) | (rw [hf]; rfl) | simp [hf] | simp [← hf])⟩
    · skip
      subst q2
      simp only [q1, q3, Bool.true_and, Bool.false_and, Bool.and_false, Bool.and_true, Bool.not_true, Bool.not_false] at hok
      rw [hok] at hf
      simp only [Bool.not_true, Bool.not_false, Bool.true_or, Bool.false_or] at hf
      refine goN ?_
      simp (maxSteps := 2000000) only [push_cast, seval, ↓kw2, a1, a2, a3, b1, b2, b3, c1, c2, c3, d1, d2, d3, e1, e2, e3, f1, f2, f3, g1, g2, g3, t1, t3, t15, t16, t17, hd1, hx, hcx, mm0', getA0, getA, setA0, setA, get_concat, List.length_cons, List.length_nil, List.take]
      refine ⟨hbb, ?_⟩
      refine AC.pur hC ?_
      refine goN ?_
      simp (maxSteps := 2000000) only [push_cast, seval, ↓kw2, a1, a2, a3, b1, b2, b3, c1, c2, c3, d1, d2, d3, e1, e2, e3, f1, f2, f3, g1, g2, g3, t1, t3, t15, t16, t17, mm0', getA0, getA, setA0, setA, get_concat, List.length_cons, List.length_nil, List.take, heq, aBinAgg, q1, q3]
      exact ⟨_, rfl, done_pur rfl (by first | (rw [← hf]; rfl) | (rw [hf]; rfl) | simp [hf] | simp [← hf])⟩
    · skip
      subst q2
      simp only [q1, q3, q4, Bool.true_and, Bool.false_and, Bool.and_false, Bool.and_true, Bool.not_true, Bool.not_false] at hok
      rw [hok] at hf
      simp only [Bool.not_true, Bool.not_false, Bool.true_or, Bool.false_or] at hf
      refine goN ?_
      simp (maxSteps := 2000000) only [push_cast, seval, ↓kw2, a1, a2, a3, b1, b2, b3, c1, c2, c3, d1, d2, d3, e1, e2, e3, f1, f2, f3, g1, g2, g3, t1, t3, t15, t16, t17, hd1, hx, hcx, mm0', getA0, getA, setA0, setA, get_concat, List.length_cons, List.length_nil, List.take]
      refine ⟨hbb, ?_⟩
      refine AC.pur hC ?_
      refine goN ?_
      simp (maxSteps := 2000000) only [push_cast, seval, ↓kw2, a1, a2, a3, b1, b2, b3, c1, c2, c3, d1, d2, d3, e1, e2, e3, f1, f2, f3, g1, g2, g3, t1, t3, t15, t16, t17, mm0', getA0, getA, setA0, setA, get_concat, List.length_cons, List.length_nil, List.take, heq, aBinAgg, q1, q3, q4]
      exact ⟨_, rfl, done_pur rfl (by first | (rw [← hf]; rfl) | (rw [hf]; rfl) | simp [hf] | simp [← hf])⟩
    · skip
      subst q2
      simp only [q1, q3, q4, q5, Bool.true_and, Bool.false_and, Bool.and_false, Bool.and_true, Bool.not_true, Bool.not_false] at hok
      rw [hok] at hf
      simp only [Bool.not_true, Bool.not_false, Bool.true_or, Bool.false_or] at hf
      refine goN ?_
      simp (maxSteps := 2000000) only [push_cast, seval, ↓kw2, a1, a2, a3, b1, b2, b3, c1, c2, c3, d1, d2, d3, e1, e2, e3, f1, f2, f3, g1, g2, g3, t1, t3, t15, t16, t17, hd1, hx, hcx, mm0', getA0, getA, setA0, setA, get_concat, List.length_cons, List.length_nil, List.take]
      refine ⟨hbb, ?_⟩
      refine AC.pur hC ?_
      refine goN ?_
      simp (maxSteps := 2000000) only [push_cast, seval, ↓kw2, a1, a2, a3, b1, b2, b3, c1, c2, c3, d1, d2, d3, e1, e2, e3, f1, f2, f3, g1, g2, g3, t1, t3, t15, t16, t17, mm0', getA0, getA, setA0, setA, get_concat, List.length_cons, List.length_nil, List.take, heq, aBinAgg, q1, q3, q4, q5]
      exact ⟨_, rfl, done_pur rfl (by first | (rw [← hf]; rfl) | (rw [hf]; rfl) | simp [hf] | simp [← hf])⟩
    · skip
      subst q2
      simp only [q1, q3, q4, q5, q6, Bool.true_and, Bool.false_and, Bool.and_false, Bool.and_true, Bool.not_true, Bool.not_false] at hok
      rw [hok] at hf
      simp only [Bool.not_true, Bool.not_false, Bool.true_or, Bool.false_or] at hf
      refine goN ?_
      simp (maxSteps := 2000000) only [push_cast, seval, ↓kw2, a1, a2, a3, b1, b2, b3, c1, c2, c3, d1, d2, d3, e1, e2, e3, f1, f2, f3, g1, g2, g3, t1, t3, t15, t16, t17, hd1, hx, hcx, mm0', getA0, getA, setA0, setA, get_concat, List.length_cons, List.length_nil, List.take]
      refine ⟨hbb, ?_⟩
      refine AC.pur hC ?_
      refine goN ?_
      simp (maxSteps := 2000000) only [push_cast, seval, ↓kw2, a1, a2, a3, b1, b2, b3, c1, c2, c3, d1, d2, d3, e1, e2, e3, f1, f2, f3, g1, g2, g3, t1, t3, t15, t16, t17, mm0', getA0, getA, setA0, setA, get_concat, List.length_cons, List.length_nil, List.take, heq, aBinAgg, q1, q3, q4, q5, q6]
      exact ⟨_, rfl, done_pur rfl (by first | (rw [← hf]; rfl) | (rw [hf]; rfl) | simp [hf] | simp [← hf])⟩
    · skip
      subst q2
      simp only [q1, q3, q4, q5, q6, q7, Bool.true_and, Bool.false_and, Bool.and_false, Bool.and_true, Bool.not_true, Bool.not_false] at hok
      rw [hok] at hf
      simp only [Bool.not_true, Bool.not_false, Bool.true_or, Bool.false_or] at hf
      refine goN ?_
      simp (maxSteps := 2000000) only [push_cast, seval, ↓kw2, a1, a2, a3, b1, b2, b3, c1, c2, c3, d1, d2, d3, e1, e2, e3, f1, f2, f3, g1, g2, g3, t1, t3, t15, t16, t17, hd1, hx, hcx, mm0', getA0, getA, setA0, setA, get_concat, List.length_cons, List.length_nil, List.take]
      refine ⟨hbb, ?_⟩
      refine AC.pur hC ?_
      refine goN ?_
      simp (maxSteps := 2000000) only [push_cast, seval, ↓kw2, a1, a2, a3, b1, b2, b3, c1, c2, c3, d1, d2, d3, e1, e2, e3, f1, f2, f3, g1, g2, g3, t1, t3, t15, t16, t17, mm0', getA0, getA, setA0, setA, get_concat, List.length_cons, List.length_nil, List.take, heq, aBinAgg, q1, q3, q4, q5, q6, q7]
      exact ⟨_, rfl, done_pur rfl (by first | (rw [← hf]; rfl) | (rw [hf]; rfl) | simp [hf] | simp [← hf])⟩
    · skip
      subst q2
      simp only [q1, q3, q4, q5, q6, q7, q8, Bool.true_and, Bool.false_and, Bool.and_false, Bool.and_true, Bool.not_true, Bool.not_false] at hok
      rw [hok] at hf
      simp only [Bool.not_true, Bool.not_false, Bool.true_or, Bool.false_or] at hf
      refine goN ?_
      simp (maxSteps := 2000000) only [push_cast, seval, ↓kw2, a1, a2, a3, b1, b2, b3, c1, c2, c3, d1, d2, d3, e1, e2, e3, f1, f2, f3, g1, g2, g3, t1, t3, t15, t16, t17, hd1, hx, hcx, mm0', getA0, getA, setA0, setA, get_concat, List.length_cons, List.length_nil, List.take]
      refine ⟨hbb, ?_⟩
      refine AC.pur hC ?_
      refine goN ?_
      simp (maxSteps := 2000000) only [push_cast, seval, ↓kw2, a1, a2, a3, b1, b2, b3, c1, c2, c3, d1, d2, d3, e1, e2, e3, f1, f2, f3, g1, g2, g3, t1, t3, t15, t16, t17, mm0', getA0, getA, setA0, setA, get_concat, List.length_cons, List.length_nil, List.take, heq, aBinAgg, q1, q3, q4, q5, q6, q7, q8]
      exact ⟨_, rfl, done_pur rfl (by first | (rw [← hf]; rfl) | (rw [hf]; rfl) | simp [hf] | simp [← hf])⟩
    · skip
      subst q2
      subst q9
      simp only [q1, q3, q4, q5, q6, q7, q8, Bool.true_and, Bool.false_and, Bool.and_false, Bool.and_true, Bool.not_true, Bool.not_false] at hok
      rw [hok] at hf
      simp only [Bool.not_true, Bool.not_false, Bool.true_or, Bool.false_or] at hf
      refine goN ?_
      simp (maxSteps := 2000000) only [push_cast, seval, ↓kw2, a1, a2, a3, b1, b2, b3, c1, c2, c3, d1, d2, d3, e1, e2, e3, f1, f2, f3, g1, g2, g3, t1, t3, t15, t16, t17, hd1, hx, hcx, mm0', getA0, getA, setA0, setA, get_concat, List.length_cons, List.length_nil, List.take]
      refine ⟨hbb, ?_⟩
      refine AC.pur hC ?_
      refine goN ?_
      simp (maxSteps := 2000000) only [push_cast, seval, ↓kw2, a1, a2, a3, b1, b2, b3, c1, c2, c3, d1, d2, d3, e1, e2, e3, f1, f2, f3, g1, g2, g3, t1, t3, t15, t16, t17, mm0', getA0, getA, setA0, setA, get_concat, List.length_cons, List.length_nil, List.take, heq, aBinAgg, q1, q3, q4, q5, q6, q7, q8, hsl]
      refine ⟨hCC, _, toVQ hT, ?_⟩
      simp (maxSteps := 2000000) only [push_cast, seval, ↓kw2, a1, a2, a3, b1, b2, b3, c1, c2, c3, d1, d2, d3, e1, e2, e3, f1, f2, f3, g1, g2, g3, t1, t3, t15, t16, t17, mm0', getA0, getA, setA0, setA, get_concat, List.length_cons, List.length_nil, List.take, q1, q3, q4, q5, q6, q7, q8, hi1]
      exact ⟨_, rfl, done_pur rfl (by first | (rw [← hf]; rfl) | (rw [hf]; rfl) | simp [hf] | simp [← hf])⟩
    · skip
      subst q2
      subst q9
      simp only [q1, q3, q4, q5, q6, q7, q8, Bool.true_and, Bool.false_and, Bool.and_false, Bool.and_true, Bool.not_true, Bool.not_false] at hok
      rw [hok] at hf
      simp only [Bool.not_true, Bool.not_false, Bool.true_or, Bool.false_or] at hf
      refine goN ?_
      simp (maxSteps := 2000000) only [push_cast, seval, ↓kw2, a1, a2, a3, b1, b2, b3, c1, c2, c3, d1, d2, d3, e1, e2, e3, f1, f2, f3, g1, g2, g3, t1, t3, t15, t16, t17, hd1, hx, hcx, mm0', getA0, getA, setA0, setA, get_concat, List.length_cons, List.length_nil, List.take]
      refine ⟨hbb, ?_⟩
      refine AC.pur hC ?_
      refine goN ?_
      simp (maxSteps := 2000000) only [push_cast, seval, ↓kw2, a1, a2, a3, b1, b2, b3, c1, c2, c3, d1, d2, d3, e1, e2, e3, f1, f2, f3, g1, g2, g3, t1, t3, t15, t16, t17, mm0', getA0, getA, setA0, setA, get_concat, List.length_cons, List.length_nil, List.take, heq, aBinAgg, q1, q3, q4, q5, q6, q7, q8, hsl]
      refine ⟨hCC, _, toVQ hT, ?_⟩
      simp (maxSteps := 2000000) only [push_cast, seval, ↓kw2, a1, a2, a3, b1, b2, b3, c1, c2, c3, d1, d2, d3, e1, e2, e3, f1, f2, f3, g1, g2, g3, t1, t3, t15, t16, t17, mm0', getA0, getA, setA0, setA, get_concat, List.length_cons, List.length_nil, List.take, q1, q3, q4, q5, q6, q7, q8, hi1]
      exact ih m (by omega) _ _ ⟨i + 1, by omega, hf, mm0 _, t1, by rw [hla]; rfl, t15, t16, rfl⟩
  · have hd1 : decide ((i : Int) < (s.keeps.length : Int)) = false := by simp; omega
    have hm : m = 0 := by omega
    subst hm
    refine goN ?_
    simp (maxSteps := 2000000) only [push_cast, seval, ↓kw2, t16, t17, hd1]
    exact ⟨_, rfl, done_pur rfl (by first | (rw [← hf]; rfl) | (rw [hf]; rfl) | simp [hf] | simp [← hf])⟩
end Go.Ab.Pd

set_option linter.unusedSimpArgs false
set_option linter.unusedVariables false
namespace Go.Ab.Pd
open Go.Proofs
def Sta.okV (s : Sta) : Bool := s.config && (jobsV s.c s.jobs s.now s.next && (s.marks && (s.partsV && (startG s.c.cls (hasPart s.parts) ([], 0) s.jobs && s.keepsV))))
theorem config_chk {s : Sta} (h : s.config = true) : s.c.chk = 0 := by
  unfold Sta.config at h
  simp only [Bool.and_eq_true, decide_eq_true_eq] at h
  exact h.1.1.1.1
theorem jobs_tbl {x : Cfg} {l : List Jb} {now next : Int} (h : jobsV x l now next = true) : tblE x l = 0 := by
  unfold jobsV at h
  simp only [Bool.and_eq_true, decide_eq_true_eq] at h
  exact h.1
theorem Cfg.may_ok {x : Cfg} (h : x.may = true) : okD x.a x.b x.c := by
  unfold Cfg.may at h
  simp only [Bool.and_eq_true, decide_eq_true_eq] at h
  exact h.1.1.1.1
theorem jobs_cls {x : Cfg} {l : List Jb} (h : tblE x l = 0) : ∀ j ∈ l, 0 ≤ j.cls ∧ j.cls < x.cls.length := fun j hj => by
  have := (Jb.chk_facts (tbl_chk h j hj)).1
  unfold Jb.plain witV at this
  simp only [Bool.and_eq_true, decide_eq_true_eq] at this
  omega
theorem part_ends {s : Sta} (h : s.good) (hl : s.lim) {p : Prt} (hp : s.part p = true) : Pur Tryz.prog GG 73 [s.av, p.av] (I (s.ends p)) := by
  unfold Sta.part at hp
  simp only [Bool.and_eq_true, decide_eq_true_eq] at hp
  obtain ⟨⟨_, hpp⟩, k1, k2, k3, k4⟩ := Cfg.sp_facts hp.1.1.1.1.1.1.2
  exact endsS_pur h hl p (Cfg.part_ph hpp) (by omega) (by omega) (by omega) k1
theorem parts_part {s : Sta} (h : s.partsV = true) : ∀ p ∈ s.parts, s.part p = true := fun p hp => by
  unfold Sta.partsV at h
  simp only [Bool.and_eq_true, Bool.not_eq_true', Bool.eq_false_iff, Ne, anyN_iff] at h
  obtain ⟨i, hi, rfl⟩ := List.getElem_of_mem hp
  cases hq : s.part s.parts[i]
  · exact absurd ⟨i, by omega, by omega, by
      rw [Bool.or_eq_true]
      left
      unfold Sta.odd1
      rw [show s.parts.getD i default = s.parts[i] by simp [List.getD, hi], hq]
      simp⟩ h.2
  · rfl
theorem parts_ends {s : Sta} (h : s.good) (hl : s.lim) (hp : s.partsV = true) : ∀ p ∈ s.parts, Pur Tryz.prog GG 73 [s.av, p.av] (I (s.ends p)) := fun p hm => part_ends h hl (parts_part hp p hm)
theorem e8 : Ent Tryz.prog 8 Tryz.f8 [] 1 := ⟨Tryz.func8, rfl, by decide, by kernel_rfl, by kernel_rfl, by decide, by kernel_rfl⟩
attribute [push_cast] Tryz.f8
set_option maxHeartbeats 16000000 in
set_option maxRecDepth 400000 in
theorem holdc_pur {s : Sta} (h : s.good) (hl : s.lim) : Pur Tryz.prog GG 8 [s.av] (I (if s.okV = true then 0 else 8)) := by
  obtain ⟨⟨⟨a1, a2, a3⟩, b1, b2, b3⟩, ⟨⟨c1, c2, c3⟩, d1, d2, d3⟩, ⟨e1, e2, e3⟩, ⟨f1, f2, f3⟩, g1, g2, g3⟩ := h.cell
  obtain ⟨p1, p2, p3, p4, p5, p6, p7⟩ := h.purs
  have k1 := config_pur h
  have k2 := jobsT_pur h
  have k4 := parts_pur h hl
  simp only [Sta.av] at k1 k2 k4
  show Pur Tryz.prog GG 8 [ST s.c.a s.c.b s.c.c s.c.boot s.c.free s.c.tries s.c.age s.cs s.now s.next s.js s.ps s.ks s.ds s.hs s.us] _
  unfold Sta.okV
  refine goQ e8 TOk.nil 1 ?_ (by simp [AV.purL, AV.pur, p1, p2, p3, p4, p5, p6, p7])
  simp (maxSteps := 2000000) only [push_cast, seval, ↓kw2, a1, a2, a3, b1, b2, b3, c1, c2, c3, d1, d2, d3, e1, e2, e3, f1, f2, f3, g1, g2, g3]
  refine AC.pur k1 ?_
  cases h0 : s.config
  · simp only [Bool.false_and, Bool.false_eq_true, if_false]
    refine goW TOk.nil [] 1 ?_
    simp (maxSteps := 2000000) only [push_cast, seval, ↓kw2]
    exact ⟨_, rfl, done_pur rfl rfl⟩
  simp only [Bool.true_and]
  refine goW TOk.nil [] 1 ?_
  simp (maxSteps := 2000000) only [push_cast, seval, ↓kw2]
  refine AC.pur k2 ?_
  cases h1 : jobsV s.c s.jobs s.now s.next
  · simp only [Bool.false_and, Bool.false_eq_true, if_false]
    refine goW TOk.nil [] 1 ?_
    simp (maxSteps := 2000000) only [push_cast, seval, ↓kw2]
    exact ⟨_, rfl, done_pur rfl rfl⟩
  simp only [Bool.true_and]
  have k3 := marksS_pur h hl (Cfg.may_ok (Cfg.chk_may (config_chk h0)))
  simp only [Sta.av] at k3
  refine goW TOk.nil [] 1 ?_
  simp (maxSteps := 2000000) only [push_cast, seval, ↓kw2]
  refine AC.pur k3 ?_
  cases h2 : s.marks
  · simp only [Bool.false_and, Bool.false_eq_true, if_false]
    refine goW TOk.nil [] 1 ?_
    simp (maxSteps := 2000000) only [push_cast, seval, ↓kw2]
    exact ⟨_, rfl, done_pur rfl rfl⟩
  simp only [Bool.true_and]
  refine goW TOk.nil [] 1 ?_
  simp (maxSteps := 2000000) only [push_cast, seval, ↓kw2]
  refine AC.pur k4 ?_
  cases h3 : s.partsV
  · simp only [Bool.false_and, Bool.false_eq_true, if_false]
    refine goW TOk.nil [] 1 ?_
    simp (maxSteps := 2000000) only [push_cast, seval, ↓kw2]
    exact ⟨_, rfl, done_pur rfl rfl⟩
  simp only [Bool.true_and]
  have k5 := started_pur h hl (jobs_cls (jobs_tbl h1))
  simp only [Sta.av] at k5
  refine goW TOk.nil [] 1 ?_
  simp (maxSteps := 2000000) only [push_cast, seval, ↓kw2]
  refine AC.pur k5 ?_
  cases h4 : startG s.c.cls (hasPart s.parts) ([], 0) s.jobs
  · simp only [Bool.false_and, Bool.false_eq_true, if_false]
    refine goW TOk.nil [] 1 ?_
    simp (maxSteps := 2000000) only [push_cast, seval, ↓kw2]
    exact ⟨_, rfl, done_pur rfl rfl⟩
  simp only [Bool.true_and]
  have k6 := keepsS_pur h hl (parts_ends h hl h3)
  simp only [Sta.av] at k6
  refine goW TOk.nil [] 1 ?_
  simp (maxSteps := 2000000) only [push_cast, seval, ↓kw2]
  refine AC.pur k6 ?_
  cases h5 : s.keepsV
  · simp only [Bool.false_and, Bool.false_eq_true, if_false]
    refine goW TOk.nil [] 1 ?_
    simp (maxSteps := 2000000) only [push_cast, seval, ↓kw2]
    exact ⟨_, rfl, done_pur rfl rfl⟩
  simp only [if_true]
  refine goW TOk.nil [] 1 ?_
  simp (maxSteps := 2000000) only [push_cast, seval, ↓kw2]
  exact ⟨_, rfl, done_pur rfl rfl⟩
end Go.Ab.Pd

set_option linter.unusedSimpArgs false
set_option linter.unusedVariables false
namespace Go.Ab.Pd
open Go.Proofs
structure Sta.lim2 (s : Sta) : Prop where
  cl : s.c.cls.length ≤ 2 ^ 15
  jl : s.jobs.length ≤ 2 ^ 15
  pl : s.parts.length ≤ 2 ^ 15
  kl : s.keeps.length ≤ 2 ^ 15
  dl : s.down.length ≤ 2 ^ 15
  hl : s.shut.length ≤ 2 ^ 15
  ul : s.cut.length ≤ 2 ^ 15
  al : ∀ j ∈ s.jobs, j.after.length ≤ 2 ^ 15
theorem e12 : Ent Tryz.prog 12 Tryz.f12 [] 1 := ⟨Tryz.func12, rfl, by decide, by kernel_rfl, by kernel_rfl, by decide, by kernel_rfl⟩
attribute [push_cast] Tryz.f12
end Go.Ab.Pd

set_option linter.unusedSimpArgs false
set_option linter.unusedVariables false
namespace Go.Ab.Pd
open Go.Proofs
theorem entT : Ent Tryz.prog 12 Tryz.f12 [2] 1 := ⟨e12.hf, rfl, by decide, by kernel_rfl, by kernel_rfl, by decide, by kernel_rfl⟩
def impTw : Nat → Bool := fun i => i == 2 || i == 5
def ordTw : List (Nat × Bool) := [(0, true), (1, true), (3, true), (4, true), (2, false), (6, true), (5, false), (7, false), (8, true), (9, false)]
def Sta.av2 (s : Sta) (rp rk : AV) : AV := ST s.c.a s.c.b s.c.c s.c.boot s.c.free s.c.tries s.c.age s.cs s.now s.next s.js rp rk s.ds s.hs s.us
theorem LiveS.cell {k : Nat} {H : List AO} {s r : AV} {l : List AV} (h : LiveS k H s r l) : r.isCell = true ∧ r.isEl = true ∧ r.cells = [r] := by
  cases h <;> exact ⟨rfl, rfl, rfl⟩
theorem LiveS.keep {k : Nat} {H H' : List AO} {s r : AV} {l : List AV} (h : LiveS k H s r l) (hk : ∀ i, ownId r = some i → H'[i]? = H[i]?) : LiveS k H' s r l := by
  cases h with
  | nil => exact .nil
  | zs => exact .zs
  | row h h0 => exact .row ((hk _ rfl).trans h) h0
theorem LiveS.lt {k : Nat} {H : List AO} {s r : AV} {l : List AV} (h : LiveS k H s r l) : ∀ i, ownId r = some i → i < H.length := by
  intro i hi
  cases h with
  | nil => cases hi
  | zs => cases hi
  | row h h0 => cases hi; exact lt_of_get h
set_option maxHeartbeats 16000000 in
set_option maxRecDepth 400000 in
theorem twinL_ac {s : Sta} (h : s.good) (hl : s.lim2) {H : List AO} {K : AV → List AO → Prop}
    (hK : ∀ rp rk X, LiveS 13 (H ++ X) s.ps rp (s.parts.map Prt.av) → LiveS 9 (H ++ X) s.ks rk (s.keeps.map Kep.av) → (∀ i, ownId rp = some i → H.length ≤ i ∧ ownId rk ≠ some i) → (∀ i, ownId rk = some i → H.length ≤ i) → K (s.av2 rp rk) (H ++ X)) :
    AC Tryz.prog GG 12 [s.av] H K := by
  obtain ⟨⟨⟨a1, a2, a3⟩, b1, b2, b3⟩, ⟨⟨c1, c2, c3⟩, d1, d2, d3⟩, ⟨e1, e2, e3⟩, ⟨f1, f2, f3⟩, g1, g2, g3⟩ := h.cell
  obtain ⟨p1, p2, p3, p4, p5, p6, p7⟩ := h.purs
  obtain ⟨l1, l2, l3, l4, l5, l6, l7, l8⟩ := hl
  have k1 := cloneC_pur h.cs (by omega) (purL_map Cls.av _ (fun _ => rfl))
  have k2 := twinJ_pur h.js (by omega) (fun j hj => by have := l8 j hj; omega) (purL_jobs h.js.2)
  have k5 := cloneI_pur h.ds (by omega) (purL_map IA _ (fun _ => rfl))
  have k6 := cloneI_pur h.hs (by omega) (purL_map IA _ (fun _ => rfl))
  have k7 := cloneI_pur h.us (by omega) (purL_map IA _ (fun _ => rfl))
  unfold Sta.av2 at hK
  show AC Tryz.prog GG 12 [ST s.c.a s.c.b s.c.c s.c.boot s.c.free s.c.tries s.c.age s.cs s.now s.next s.js s.ps s.ks s.ds s.hs s.us] H K
  refine goE entT TOk.nil 0 ?_
  simp (maxSteps := 2000000) only [push_cast, seval, ↓kw2, a1, a2, a3, b1, b2, b3, c1, c2, c3, d1, d2, d3, e1, e2, e3, f1, f2, f3, g1, g2, g3, getA0, getA, setA0, setA, get_concat, List.contains_cons, Bool.true_or, Bool.or_true, Bool.false_or, Bool.or_false, Bool.or_self]
  refine ⟨_, toVQ k1, _, toVQ k2, ?_⟩
  simp (maxSteps := 2000000) only [push_cast, seval, ↓kw2, a1, a2, a3, b1, b2, b3, c1, c2, c3, d1, d2, d3, e1, e2, e3, f1, f2, f3, g1, g2, g3, getA0, getA, setA0, setA, get_concat, List.contains_cons, Bool.true_or, Bool.or_true, Bool.false_or, Bool.or_false, Bool.or_self]
  refine FW.walkG hmix (imp := impTw) (l := ordTw) (by kernel_rfl) (by kernel_rfl) ?_
  simp only [ordTw]
  simp (maxSteps := 2000000) only [push_cast, seval, ↓kw2, symG_t, symG_f, symG_nil, ↓opJ_some, impTw, Nat.add_assoc, wAdd_ap, WT_ap, wat, clOf, a1, a2, a3, b1, b2, b3, c1, c2, c3, d1, d2, d3, e1, e2, e3, f1, f2, f3, g1, g2, g3, getA0, getA, setA0, setA, get_concat, List.contains_cons, Bool.true_or, Bool.or_true, Bool.false_or, Bool.or_false, Bool.or_self]
  refine cloneP_ac h.ps (by omega) ?_
  intro rp X1 hp hp0
  obtain ⟨o1, o2, o3⟩ := hp.cell
  simp (maxSteps := 2000000) only [push_cast, seval, ↓kw2, symG_t, symG_f, symG_nil, ↓opJ_some, impTw, Nat.add_assoc, wAdd_ap, WT_ap, wat, clOf, a1, a2, a3, b1, b2, b3, c1, c2, c3, d1, d2, d3, e1, e2, e3, f1, f2, f3, g1, g2, g3, getA0, getA, setA0, setA, get_concat, List.contains_cons, Bool.true_or, Bool.or_true, Bool.false_or, Bool.or_false, Bool.or_self]
  refine cloneK_ac h.ks (by omega) ?_
  intro rk X2 hk hk0
  obtain ⟨r1, r2, r3⟩ := hk.cell
  simp (maxSteps := 2000000) only [push_cast, seval, ↓kw2, symG_t, symG_f, symG_nil, ↓opJ_some, impTw, Nat.add_assoc, wAdd_ap, WT_ap, wat, clOf, a1, a2, a3, b1, b2, b3, c1, c2, c3, d1, d2, d3, e1, e2, e3, f1, f2, f3, g1, g2, g3, getA0, getA, setA0, setA, get_concat, List.contains_cons, Bool.true_or, Bool.or_true, Bool.false_or, Bool.or_false, Bool.or_self, o1, o2, o3, r1, r2, r3]
  refine goN ?_
  simp (maxSteps := 2000000) only [push_cast, seval, ↓kw2, a1, a2, a3, b1, b2, b3, c1, c2, c3, d1, d2, d3, e1, e2, e3, f1, f2, f3, g1, g2, g3, getA0, getA, setA0, setA, get_concat, List.contains_cons, Bool.true_or, Bool.or_true, Bool.false_or, Bool.or_false, Bool.or_self, o1, o2, o3, r1, r2, r3]
  refine ⟨_, toVQ k5, _, toVQ k6, _, toVQ k7, ?_⟩
  simp (maxSteps := 2000000) only [push_cast, seval, ↓kw2, a1, a2, a3, b1, b2, b3, c1, c2, c3, d1, d2, d3, e1, e2, e3, f1, f2, f3, g1, g2, g3, getA0, getA, setA0, setA, get_concat, List.contains_cons, Bool.true_or, Bool.or_true, Bool.false_or, Bool.or_false, Bool.or_self, o1, o2, o3, r1, r2, r3]
  have lp := hp.lt
  have lk := hk.lt
  simp only [List.length_append, List.length_cons, List.length_nil] at hp0 lp hk0 lk
  refine ⟨_, rfl, hK rp rk _ (hp.keep fun i hi => ?_) (hk.keep fun i hi => ?_) (fun i hi => ?_) (fun i hi => ?_)⟩
  · have h1 := hp0 i hi
    have h2 := lp i hi
    obtain ⟨j, rfl⟩ : ∃ j, i = H.length + (j + 2) := ⟨i - H.length - 2, by omega⟩
    rw [List.append_assoc, getA, getA]
    simp only [List.cons_append, List.nil_append, List.getElem?_cons_succ]
    exact List.getElem?_append_left (by omega)
  · have h1 := hk0 i hi
    have h2 := lk i hi
    obtain ⟨j, rfl⟩ : ∃ j, i = H.length + (j + 2) := ⟨i - H.length - 2, by omega⟩
    rw [List.append_assoc, getA, getA]
    simp only [List.cons_append, List.nil_append, List.getElem?_cons_succ]
  · have h1 := hp0 i hi
    have h2 := lp i hi
    exact ⟨by omega, fun e => by have := hk0 i e; omega⟩
  · have h1 := hk0 i hi
    omega
end Go.Ab.Pd

set_option linter.unusedSimpArgs false
set_option linter.unusedVariables false
namespace Go.Ab.Pd
open Go.Proofs
def Le (a b : AV) : Prop := ∀ (w : World) (E : En) (r : Value), RepV w E a r → RepV w E b r
theorem Le.refl (a : AV) : Le a a := fun _ _ _ h => h
theorem Le.agg {cs ds : List AV} (hl : cs.length = ds.length) (hc : ∀ i, i < ds.length → (ds.getD i .un).isCell = true) (h : ∀ i, i < ds.length → Le (cs.getD i .un) (ds.getD i .un)) : Le (.agg cs) (.agg ds) := fun w E r hr => by
  cases hr with
  | agg h1 h2 h3 => exact .agg (by omega) hc fun i hi => h i hi w E _ (h3 i (by omega))
theorem Pur.args {f : FuncId} {args args' : List AV} {v : AV} (hl : args.length = args'.length) (hle : ∀ i, i < args'.length → Le (args.getD i .un) (args'.getD i .un)) (h : Pur Tryz.prog GG f args' v) : Pur Tryz.prog GG f args v := fun H K hK => by
  obtain ⟨h1, h2⟩ := h H K hK
  exact ⟨h1, fun E w vargs hH hA cs => h2 E w vargs hH ⟨by rw [hA.1, hl], fun i hi => hle i hi w E _ (hA.2 i (by omega))⟩ cs⟩
theorem LiveS.froz {k : Nat} {H : List AO} {s r : AV} {l : List AV} (h : LiveS k H s r l) (hp : AV.purL l = true) : ∃ r', frz 2 H r = some r' ∧ r'.pur = true ∧ Le r' s ∧ (r.pur = true → r' = r) := by
  cases h with
  | nil => exact ⟨_, rfl, rfl, Le.refl _, fun _ => rfl⟩
  | zs => exact ⟨_, rfl, rfl, fun _ _ _ => zs_isl, fun _ => rfl⟩
  | row h h0 => exact ⟨_, frz_row h h0 hp, by simp [AV.pur, hp], Le.refl _, fun e => by cases e⟩
theorem frz_pure {n : Nat} {H : List AO} {a : AV} (h : a.pur = true) : frz (n + 1) H a = some a := by
  unfold Go.Ab.frz
  rw [if_pos h]
theorem ST_frz {H : List AO} {a b c p q r t now next : Int} {cs js ds hs us rp rk rp' rk' : AV} (x1 : cs.pur = true) (x2 : js.pur = true) (x3 : ds.pur = true) (x4 : hs.pur = true) (x5 : us.pur = true) (f1 : frz 2 H rp = some rp') (f2 : frz 2 H rk = some rk') (y1 : rp.pur = true → rp' = rp) (y2 : rk.pur = true → rk' = rk) :
    frz 3 H (ST a b c p q r t cs now next js rp rk ds hs us) = some (ST a b c p q r t cs now next js rp' rk' ds hs us) := by
  unfold Go.Ab.frz
  split
  · rename_i hq
    simp [AV.pur, AV.purL] at hq
    rw [y1 (by simp [hq]), y2 (by simp [hq])]
  · simp only [mapO, f1, f2, frz_pure x1, frz_pure x2, frz_pure x3, frz_pure x4, frz_pure x5, frz_pure (a := I a) rfl, frz_pure (a := I b) rfl, frz_pure (a := I c) rfl, frz_pure (a := I p) rfl, frz_pure (a := I q) rfl, frz_pure (a := I r) rfl, frz_pure (a := I t) rfl, frz_pure (a := I now) rfl, frz_pure (a := I next) rfl]
    rfl
theorem ST_le {a b c p q r t now next : Int} {cs js ps ks ds hs us rp rk : AV} (x1 : cs.isCell = true) (x2 : js.isCell = true) (x3 : ds.isCell = true) (x4 : hs.isCell = true) (x5 : us.isCell = true) (x6 : ps.isCell = true) (x7 : ks.isCell = true) (h1 : Le rp ps) (h2 : Le rk ks) :
    Le (ST a b c p q r t cs now next js rp rk ds hs us) (ST a b c p q r t cs now next js ps ks ds hs us) := by
  refine Le.agg rfl (fun i hi => ?_) fun i hi => ?_
  · match i, hi with
    | 0, _ | 1, _ | 2, _ | 3, _ | 4, _ | 5, _ | 6, _ | 8, _ | 9, _ => rfl
    | 7, _ | 10, _ | 11, _ | 12, _ | 13, _ | 14, _ | 15, _ => assumption
    | n + 16, hi => exact absurd hi (by simp)
  · match i, hi with
    | 0, _ | 1, _ | 2, _ | 3, _ | 4, _ | 5, _ | 6, _ | 8, _ | 9, _ | 7, _ | 10, _ | 13, _ | 14, _ | 15, _ => exact Le.refl _
    | 11, _ => exact h1
    | 12, _ => exact h2
    | n + 16, hi => exact absurd hi (by simp)
theorem live_view {f : FuncId} {s : Sta} (hg : s.good) {H : List AO} {rp rk : AV} (hp : LiveS 13 H s.ps rp (s.parts.map Prt.av)) (hk : LiveS 9 H s.ks rk (s.keeps.map Kep.av)) {rest : List AV} (hr : AV.purL rest = true) {v : AV} (hv : v.scal = true)
    (h : Pur Tryz.prog GG f (s.av :: rest) v) {K : AV → List AO → Prop} (hK : K v H) : AC Tryz.prog GG f (s.av2 rp rk :: rest) H K := by
  obtain ⟨⟨⟨a1, a2, a3⟩, b1, b2, b3⟩, ⟨⟨c1, c2, c3⟩, d1, d2, d3⟩, ⟨e1, e2, e3⟩, ⟨f1, f2, f3⟩, g1, g2, g3⟩ := hg.cell
  obtain ⟨p1, p2, p3, p4, p5, p6, p7⟩ := hg.purs
  obtain ⟨rp', q1, q2, q3, q4⟩ := hp.froz (purL_map Prt.av _ (fun _ => rfl))
  obtain ⟨rk', t1, t2, t3, t4⟩ := hk.froz (purL_map Kep.av _ (fun _ => rfl))
  refine AC.view ggp (n := 3) (args' := s.av2 rp' rk' :: rest) ?_ ?_ hv (Pur.args (args' := s.av :: rest) rfl (fun i hi => ?_) h) hK
  · unfold Sta.av2
    have hf := ST_frz (a := s.c.a) (b := s.c.b) (c := s.c.c) (p := s.c.boot) (q := s.c.free) (r := s.c.tries) (t := s.c.age) (now := s.now) (next := s.next) p1 p2 p5 p6 p7 q1 t1 q4 t4
    rw [show ∀ a l, mapO (frz 3 H) (a :: l) = (match frz 3 H a, mapO (frz 3 H) l with | some b, some m => some (b :: m) | _, _ => none) from fun _ _ => rfl, hf, mapO_pure hr]
  · simp only [AV.purL, Bool.and_eq_true]
    refine ⟨?_, hr⟩
    unfold Sta.av2
    simp [AV.pur, AV.purL, p1, p2, p5, p6, p7, q2, t2]
  · cases i with
    | zero => exact ST_le a1 b1 e1 f1 g1 c1 d1 q3 t3
    | succ i => exact Le.refl _
end Go.Ab.Pd

set_option linter.unusedSimpArgs false
set_option linter.unusedVariables false
namespace Go.Ab.Pd
open Go.Proofs
def Sta.ckb (s : Sta) (b : Bx6) : Int := ckB s.c.a s.c.b s.c.c b.x b.y b.z b.p b.q b.r
def Sta.own (s : Sta) (b : Bx6) : Bx6 := ⟨can (s.ckb b) s.c.a b.p b.x, can (s.ckb b) s.c.b b.q b.y, can (s.ckb b) s.c.c b.r b.z, cas (s.ckb b) b.p, cas (s.ckb b) b.q, cas (s.ckb b) b.r⟩
def Sta.argE (s : Sta) (b : Bx6) (fr till : Int) : Bool := !decide (s.ckb b = 0) || (decide (fr < s.now) || (decide (till ≤ fr) || decide (1099511627776 < till)))
def Sta.full (s : Sta) : Bool := decide (4 ≤ (s.keeps.length : Int)) || decide (2147483647 ≤ s.next)
def Sta.addE (s : Sta) (b : Bx6) (fr till : Int) : Int := if s.okV = true then (if s.argE b fr till = true then 2 else if s.full = true then 9 else if s.taken s.keeps (s.own b) fr till = true then 80 else 0) else 8
def Kep.mk6 (id : Int) (b : Bx6) (fr till : Int) : Kep := ⟨id, b.x, b.y, b.z, b.p, b.q, b.r, fr, till⟩
def Sta.put (s : Sta) (b : Bx6) (fr till : Int) : Sta := { s with keeps := s.keeps ++ [Kep.mk6 s.next (s.own b) fr till], ks := .isl ((s.keeps ++ [Kep.mk6 s.next (s.own b) fr till]).map Kep.av), next := s.next + 1 }
abbrev NS : AV := .c (.slice none 0 0)
abbrev ST0 : AV := ST 0 0 0 0 0 0 0 NS 0 0 NS NS NS NS NS NS
def ord14a : List (List Nat) := [[0, 1, 2, 3, 4, 5, 6], [0, 1, 2, 4, 3, 5, 6], [0, 1, 4, 2, 3, 5, 6], [0, 2, 1, 3, 4, 5, 6], [0, 2, 1, 4, 3, 5, 6], [0, 2, 3, 1, 4, 5, 6], [2, 0, 1, 3, 4, 5, 6], [2, 0, 1, 4, 3, 5, 6], [2, 0, 3, 1, 4, 5, 6], [2, 3, 0, 1, 4, 5, 6]]
def zsf : AV → AV
  | .isl [] => .zs
  | a => a
theorem zsf_le (a : AV) : Le (zsf a) a := by
  unfold zsf
  split
  · exact fun _ _ _ => zs_isl
  · exact Le.refl _
theorem LiveS.frozz {k : Nat} {H : List AO} {s r : AV} {l : List AV} (h : LiveS k H s r l) (hp : AV.purL l = true) : frz 2 H r = some (zsf s) ∧ (zsf s).pur = true ∧ (r.pur = true → zsf s = r) := by
  cases h with
  | nil => exact ⟨rfl, rfl, fun _ => rfl⟩
  | zs => exact ⟨rfl, rfl, fun _ => rfl⟩
  | row h h0 =>
    cases l with
    | nil => simp at h0
    | cons x l => exact ⟨frz_row h h0 hp, by simpa [zsf, AV.pur] using hp, fun e => by cases e⟩
theorem app_live {HH : List AO} {s rk : AV} {l : List AV} (h : LiveS 9 HH s rk l) (hb : l.length ≤ 2 ^ 16) (k : Kep) : ∃ C H2, aAppend Tryz.prog 29 29 rk (.sl HH.length 0 1 1) (HH ++ [AO.arr 9 [KP k.id k.x k.y k.z k.p k.q k.r k.fr k.till]]) = some ⟨C, .sl (HH.length + 1) 0 (l.length + 1) (l.length + 1), H2⟩ ∧ C ∧
    H2[HH.length + 1]? = some (.arr 9 (l ++ [k.av])) ∧ ∀ j, j < HH.length → ownId rk ≠ some j → H2[j]? = HH[j]? := by
  unfold aAppend
  simp only [un29, ze56, by56, elsOf, getA0, List.getElem?_cons_zero]
  rw [if_pos ⟨rfl, by simp⟩]
  have hL : (HH ++ [AO.arr 9 [KP k.id k.x k.y k.z k.p k.q k.r k.fr k.till]]).length = HH.length + 1 := by simp
  cases h with
  | nil =>
    simp only [List.drop_zero, List.take_succ_cons, List.take_zero, aAppNew, hL]
    refine ⟨_, _, rfl, ?_, ?_, fun j hj _ => ?_⟩
    · simp
    · rw [← hL, getA0]; rfl
    · rw [List.append_assoc, List.getElem?_append_left hj]
  | zs =>
    simp only [List.drop_zero, List.take_succ_cons, List.take_zero, aAppNew, hL]
    refine ⟨_, _, rfl, ?_, ?_, fun j hj _ => ?_⟩
    · simp
    · rw [← hL, getA0]; rfl
    · rw [List.append_assoc, List.getElem?_append_left hj]
  | row h h0 =>
    rename_i id
    have hid := lt_of_get h
    simp only [List.drop_zero, List.take_succ_cons, List.take_zero, List.getElem?_append_left hid, h, hL, List.length_cons, List.length_nil, Nat.zero_add]
    rw [if_pos ⟨rfl, by omega, h0⟩]
    refine ⟨_, _, rfl, ?_, ?_, fun j hj hne => ?_⟩
    · exact ⟨trivial, by omega, by omega⟩
    · have hL2 : ((HH ++ [AO.arr 9 [KP k.id k.x k.y k.z k.p k.q k.r k.fr k.till]]).set id .dead).length = HH.length + 1 := by simp
      rw [← hL2, getA0]
      simp [Kep.av]
    · rw [List.getElem?_append_left (by simp; omega), List.getElem?_set_ne (fun e => hne (by rw [e]; rfl)), List.getElem?_append_left hj]
theorem tup3_frz {n : Nat} {H : List AO} {a a' : AV} {x y : Int} (h : frz (n + 1) H a = some a') : frz (n + 2) H (.tup [a, I x, I y]) = some (.tup [a', I x, I y]) := by
  unfold Go.Ab.frz
  split
  · rename_i hq
    have ha : a.pur = true := by simpa [AV.pur, AV.purL] using hq
    rw [frz_pure ha] at h
    cases h
    rfl
  · simp only [mapO, h, frz_pure (a := I x) rfl, frz_pure (a := I y) rfl]
    rfl
def Sta.putAV (s : Sta) (b : Bx6) (fr till : Int) : AV := ST s.c.a s.c.b s.c.c s.c.boot s.c.free s.c.tries s.c.age s.cs s.now (s.next + 1) s.js (zsf s.ps) (.isl ((s.keeps ++ [Kep.mk6 s.next (s.own b) fr till]).map Kep.av)) s.ds s.hs s.us
theorem cfg_next {s : Sta} (h : s.okV = true) : 1 ≤ s.next := by
  unfold Sta.okV at h
  rw [Bool.and_eq_true] at h
  have h1 := h.1
  unfold Sta.config at h1
  simp only [Bool.and_eq_true, decide_eq_true_eq] at h1
  exact h1.1.2
theorem e14 : Ent Tryz.prog 14 Tryz.f14 [14] 3 := ⟨Tryz.func14, rfl, by decide, by kernel_rfl, by kernel_rfl, by decide, by kernel_rfl⟩
attribute [push_cast] Tryz.f14
set_option maxHeartbeats 16000000 in
set_option maxRecDepth 400000 in
theorem add_pur0 {s : Sta} (h : s.good) (hl : s.lim) (hl2 : s.lim2) (b : Bx6) (fr till : Int) : Pur Tryz.prog GG 14 [s.av, .agg [I b.x, I b.y, I b.z, I b.p, I b.q, I b.r], .agg [I fr, I till]]
    (.tup [if s.addE b fr till = 0 then s.putAV b fr till else ST0, I (if s.addE b fr till = 0 then s.next else 0), I (s.addE b fr till)]) := by
  obtain ⟨⟨⟨a1, a2, a3⟩, b1, b2, b3⟩, ⟨⟨c1, c2, c3⟩, d1, d2, d3⟩, ⟨e1, e2, e3⟩, ⟨f1, f2, f3⟩, g1, g2, g3⟩ := h.cell
  obtain ⟨p1, p2, p3, p4, p5, p6, p7⟩ := h.purs
  have hC := holdc_pur h hl
  have hcan := canon_pur s.c.a s.c.b s.c.c b.x b.y b.z b.p b.q b.r
  have hlen := h.ks.len un29
  rw [List.length_map] at hlen
  unfold Sta.addE
  simp only [Sta.av] at hC
  show Pur Tryz.prog GG 14 [ST s.c.a s.c.b s.c.c s.c.boot s.c.free s.c.tries s.c.age s.cs s.now s.next s.js s.ps s.ks s.ds s.hs s.us, .agg [I b.x, I b.y, I b.z, I b.p, I b.q, I b.r], .agg [I fr, I till]] _
  cases hok : s.okV
  · rw [hok] at hC
    simp only [Bool.false_eq_true, if_false] at hC ⊢
    refine goQ e14 TOk.nil 0 ?_ (by simp [AV.purL, AV.pur, p1, p2, p3, p4, p5, p6, p7])
    simp (maxSteps := 2000000) only [push_cast, seval, ↓kw2, a1, a2, a3, b1, b2, b3, c1, c2, c3, d1, d2, d3, e1, e2, e3, f1, f2, f3, g1, g2, g3]
    refine AC.pur hC ?_
    refine goW TOk.nil [14] 0 ?_
    simp (maxSteps := 2000000) only [push_cast, seval, ↓kw2, a1, a2, a3, b1, b2, b3, c1, c2, c3, d1, d2, d3, e1, e2, e3, f1, f2, f3, g1, g2, g3]
    exact ⟨_, rfl, done_pur rfl rfl⟩
  rw [hok] at hC
  simp only [if_true] at hC ⊢
  refine goQ e14 TOk.nil 0 ?_ (by simp [AV.purL, AV.pur, p1, p2, p3, p4, p5, p6, p7])
  simp (maxSteps := 2000000) only [push_cast, seval, ↓kw2, a1, a2, a3, b1, b2, b3, c1, c2, c3, d1, d2, d3, e1, e2, e3, f1, f2, f3, g1, g2, g3]
  refine AC.pur hC ?_
  refine goW TOk.nil [14] 0 ?_
  simp (maxSteps := 2000000) only [push_cast, seval, ↓kw2, a1, a2, a3, b1, b2, b3, c1, c2, c3, d1, d2, d3, e1, e2, e3, f1, f2, f3, g1, g2, g3]
  refine twinL_ac h hl2 ?_
  intro rp rk X hp hk hpi hki
  obtain ⟨o1, o2, o3⟩ := hp.cell
  obtain ⟨r1, r2, r3⟩ := hk.cell
  unfold Sta.av2
  refine goW TOk.nil [14] 0 ?_
  simp (maxSteps := 2000000) only [push_cast, seval, ↓kw2, a1, a2, a3, b1, b2, b3, c1, c2, c3, d1, d2, d3, e1, e2, e3, f1, f2, f3, g1, g2, g3, o1, o2, o3, r1, r2, r3, getA0, getA, setA0, setA, get_concat]
  refine AC.pur hcan ?_
  have hck : s.ckb b = ckB s.c.a s.c.b s.c.c b.x b.y b.z b.p b.q b.r := rfl
  simp only [← hck] at hcan ⊢
  have how : s.own b = ⟨can (s.ckb b) s.c.a b.p b.x, can (s.ckb b) s.c.b b.q b.y, can (s.ckb b) s.c.c b.r b.z, cas (s.ckb b) b.p, cas (s.ckb b) b.q, cas (s.ckb b) b.r⟩ := rfl
  by_cases hq1 : ¬s.ckb b = 0
  · have q1 : decide (s.ckb b = 0) = false := decide_eq_false hq1
    have hA : s.argE b fr till = true := by simp [Sta.argE, q1]
    simp only [hA, if_true]
    refine goW TOk.nil [14] 0 ?_
    simp (maxSteps := 2000000) only [push_cast, seval, ↓kw2, a1, a2, a3, b1, b2, b3, c1, c2, c3, d1, d2, d3, e1, e2, e3, f1, f2, f3, g1, g2, g3, o1, o2, o3, r1, r2, r3, getA0, getA, setA0, setA, get_concat, q1]
    exact ⟨_, rfl, done_pur rfl rfl⟩
  have q1 : decide (s.ckb b = 0) = true := decide_eq_true (Classical.not_not.1 hq1)
  by_cases hq2 : fr < s.now
  · have q2 : decide (fr < s.now) = true := decide_eq_true hq2
    have hA : s.argE b fr till = true := by simp [Sta.argE, q1, q2]
    simp only [hA, if_true]
    refine goW TOk.nil [14] 0 ?_
    simp (maxSteps := 2000000) only [push_cast, seval, ↓kw2, a1, a2, a3, b1, b2, b3, c1, c2, c3, d1, d2, d3, e1, e2, e3, f1, f2, f3, g1, g2, g3, o1, o2, o3, r1, r2, r3, getA0, getA, setA0, setA, get_concat, q1, q2]
    exact ⟨_, rfl, done_pur rfl rfl⟩
  have q2 : decide (fr < s.now) = false := decide_eq_false hq2
  by_cases hq3 : till ≤ fr
  · have q3 : decide (till ≤ fr) = true := decide_eq_true hq3
    have hA : s.argE b fr till = true := by simp [Sta.argE, q1, q2, q3]
    simp only [hA, if_true]
    refine goW TOk.nil [14] 0 ?_
    simp (maxSteps := 2000000) only [push_cast, seval, ↓kw2, a1, a2, a3, b1, b2, b3, c1, c2, c3, d1, d2, d3, e1, e2, e3, f1, f2, f3, g1, g2, g3, o1, o2, o3, r1, r2, r3, getA0, getA, setA0, setA, get_concat, q1, q2, q3]
    exact ⟨_, rfl, done_pur rfl rfl⟩
  have q3 : decide (till ≤ fr) = false := decide_eq_false hq3
  by_cases hq4 : 1099511627776 < till
  · have q4 : decide (1099511627776 < till) = true := decide_eq_true hq4
    have hA : s.argE b fr till = true := by simp [Sta.argE, q1, q2, q3, q4]
    simp only [hA, if_true]
    refine goW TOk.nil [14] 0 ?_
    simp (maxSteps := 2000000) only [push_cast, seval, ↓kw2, a1, a2, a3, b1, b2, b3, c1, c2, c3, d1, d2, d3, e1, e2, e3, f1, f2, f3, g1, g2, g3, o1, o2, o3, r1, r2, r3, getA0, getA, setA0, setA, get_concat, q1, q2, q3, q4]
    exact ⟨_, rfl, done_pur rfl rfl⟩
  have q4 : decide (1099511627776 < till) = false := decide_eq_false hq4
  have hA : s.argE b fr till = false := by simp [Sta.argE, q1, q2, q3, q4]
  simp only [hA, Bool.false_eq_true, if_false]
  by_cases hq5 : 4 ≤ (s.keeps.length : Int)
  · have q5 : decide (4 ≤ (s.keeps.length : Int)) = true := decide_eq_true hq5
    have hF : s.full = true := by simp [Sta.full, q5]
    simp only [hF, if_true]
    refine goW TOk.nil [14] 0 ?_
    simp (maxSteps := 2000000) only [push_cast, seval, ↓kw2, a1, a2, a3, b1, b2, b3, c1, c2, c3, d1, d2, d3, e1, e2, e3, f1, f2, f3, g1, g2, g3, o1, o2, o3, r1, r2, r3, getA0, getA, setA0, setA, get_concat, q1, q2, q3, q4, hlen, q5]
    exact ⟨_, rfl, done_pur rfl rfl⟩
  have q5 : decide (4 ≤ (s.keeps.length : Int)) = false := decide_eq_false hq5
  by_cases hq6 : 2147483647 ≤ s.next
  · have q6 : decide (2147483647 ≤ s.next) = true := decide_eq_true hq6
    have hF : s.full = true := by simp [Sta.full, q5, q6]
    simp only [hF, if_true]
    refine goW TOk.nil [14] 0 ?_
    simp (maxSteps := 2000000) only [push_cast, seval, ↓kw2, a1, a2, a3, b1, b2, b3, c1, c2, c3, d1, d2, d3, e1, e2, e3, f1, f2, f3, g1, g2, g3, o1, o2, o3, r1, r2, r3, getA0, getA, setA0, setA, get_concat, q1, q2, q3, q4, q5, hlen, q6]
    exact ⟨_, rfl, done_pur rfl rfl⟩
  have q6 : decide (2147483647 ≤ s.next) = false := decide_eq_false hq6
  have hF : s.full = false := by simp [Sta.full, q5, q6]
  simp only [hF, Bool.false_eq_true, if_false]
  refine goW TOk.nil [14] 0 ?_
  simp (maxSteps := 2000000) only [push_cast, seval, ↓kw2, a1, a2, a3, b1, b2, b3, c1, c2, c3, d1, d2, d3, e1, e2, e3, f1, f2, f3, g1, g2, g3, o1, o2, o3, r1, r2, r3, getA0, getA, setA0, setA, get_concat, q1, q2, q3, q4, q5, q6, hlen]
  have hpv : s.partsV = true := by
    unfold Sta.okV at hok
    simp only [Bool.and_eq_true] at hok
    exact hok.2.2.2.1
  have hT := takenS_pur h hl (parts_ends h hl hpv) h.ks hl.kl (s.own b) fr till
  rw [how] at hT
  simp only at hT
  have hp2 := hp.app [AO.cells [I s.c.a, I s.c.b, I s.c.c, I s.c.boot, I s.c.free, I s.c.tries, I s.c.age, s.cs, I s.now, I s.next, s.js, rp, rk, s.ds, s.hs, s.us], AO.cells [I (can (s.ckb b) s.c.a b.p b.x), I (can (s.ckb b) s.c.b b.q b.y), I (can (s.ckb b) s.c.c b.r b.z), I (cas (s.ckb b) b.p), I (cas (s.ckb b) b.q), I (cas (s.ckb b) b.r)]]
  have hk2 := hk.app [AO.cells [I s.c.a, I s.c.b, I s.c.c, I s.c.boot, I s.c.free, I s.c.tries, I s.c.age, s.cs, I s.now, I s.next, s.js, rp, rk, s.ds, s.hs, s.us], AO.cells [I (can (s.ckb b) s.c.a b.p b.x), I (can (s.ckb b) s.c.b b.q b.y), I (can (s.ckb b) s.c.c b.r b.z), I (cas (s.ckb b) b.p), I (cas (s.ckb b) b.q), I (cas (s.ckb b) b.r)]]
  have hkl := hk.lt
  have hpl := hp.lt
  simp only [List.cons_append, List.nil_append, List.length_cons, List.append_assoc] at hp2 hk2 hkl hpl hki hpi
  refine live_view h hp2 hk2 (rest := [s.ks, .agg [I (can (s.ckb b) s.c.a b.p b.x), I (can (s.ckb b) s.c.b b.q b.y), I (can (s.ckb b) s.c.c b.r b.z), I (cas (s.ckb b) b.p), I (cas (s.ckb b) b.q), I (cas (s.ckb b) b.r)], .agg [I fr, I till]]) (by simp [AV.purL, AV.pur, p4]) rfl hT ?_
  rw [← how]
  cases htk : s.taken s.keeps (s.own b) fr till
  · simp only [Bool.false_eq_true, if_false]
    have t0 : ∀ L : List AO, True := fun _ => trivial
    generalize hHH : (AO.cells [I s.c.a, I s.c.b, I s.c.c, I s.c.boot, I s.c.free, I s.c.tries, I s.c.age, s.cs, I s.now, I s.next, s.js, s.ps, s.ks, s.ds, s.hs, s.us] :: AO.cells [I b.x, I b.y, I b.z, I b.p, I b.q, I b.r] :: AO.cells [I fr, I till] :: _ :: (X ++ _)) = HH at hp2 hk2 ⊢
    have m0 : ∀ L, (HH ++ L)[0]? = some (AO.cells [I s.c.a, I s.c.b, I s.c.c, I s.c.boot, I s.c.free, I s.c.tries, I s.c.age, s.cs, I s.now, I s.next, s.js, s.ps, s.ks, s.ds, s.hs, s.us]) := fun L => by rw [← hHH]; rfl
    have m2 : ∀ L, (HH ++ L)[2]? = some (AO.cells [I fr, I till]) := fun L => by rw [← hHH]; rfl
    have m3 : HH[3]? = some (AO.cells [I 0, I 0, I 0, I 0, I 0, I 0, I 0, NS, I 0, I 0, NS, NS, NS, NS, NS, NS]) := by rw [← hHH]; rfl
    have hXs : ∀ j, HH[X.length + 4 + j]? = [AO.cells [I s.c.a, I s.c.b, I s.c.c, I s.c.boot, I s.c.free, I s.c.tries, I s.c.age, s.cs, I s.now, I s.next, s.js, rp, rk, s.ds, s.hs, s.us], AO.cells [I (can (s.ckb b) s.c.a b.p b.x), I (can (s.ckb b) s.c.b b.q b.y), I (can (s.ckb b) s.c.c b.r b.z), I (cas (s.ckb b) b.p), I (cas (s.ckb b) b.q), I (cas (s.ckb b) b.r)]][j]? := fun j => by
      rw [← hHH, show X.length + 4 + j = (X.length + j) + 4 by omega]
      simp only [List.getElem?_cons_succ]
      exact getA
    have mE := hXs 0
    have mO := hXs 1
    rw [Nat.add_zero] at mE
    simp only [List.getElem?_cons_zero, List.getElem?_cons_succ] at mE mO
    have n0 : HH[0]? = _ := (List.append_nil HH ▸ m0 [])
    have n2 : HH[2]? = _ := (List.append_nil HH ▸ m2 [])
    obtain ⟨C, H2, happ, hC, hrow, hkeep⟩ := app_live hk2 (by rw [List.length_map]; have := hl2.kl; omega) (Kep.mk6 s.next (s.own b) fr till)
    rw [List.length_map] at happ
    simp only [Kep.mk6, Sta.own] at happ
    have hnx := wrapL (n := s.next + 1) (by have := cfg_next hok; omega) (by omega)
    have hlH : HH.length = X.length + 6 := by rw [← hHH]; simp
    have hne : ∀ j, (j < 4 ∨ X.length + 4 ≤ j) → ownId rk ≠ some j := fun j hj e => by
      have h1 := hki j e
      have h2 := hkl j e
      simp only [List.length_nil] at h1
      omega
    have k0 : H2[0]? = some (AO.cells [I s.c.a, I s.c.b, I s.c.c, I s.c.boot, I s.c.free, I s.c.tries, I s.c.age, s.cs, I s.now, I s.next, s.js, s.ps, s.ks, s.ds, s.hs, s.us]) := (hkeep 0 (by omega) (hne _ (by omega))).trans n0
    have k3 := (hkeep 3 (by omega) (hne _ (by omega))).trans m3
    have kE := (hkeep (X.length + 4) (by omega) (hne _ (by omega))).trans mE
    have u0 : ∀ c, (H2.set (X.length + 4) c)[0]? = some (AO.cells [I s.c.a, I s.c.b, I s.c.c, I s.c.boot, I s.c.free, I s.c.tries, I s.c.age, s.cs, I s.now, I s.next, s.js, s.ps, s.ks, s.ds, s.hs, s.us]) := fun c => by rw [List.getElem?_set_ne (by omega)]; exact k0
    have u3 : ∀ c, (H2.set (X.length + 4) c)[3]? = some (AO.cells [I 0, I 0, I 0, I 0, I 0, I 0, I 0, NS, I 0, I 0, NS, NS, NS, NS, NS, NS]) := fun c => by rw [List.getElem?_set_ne (by omega)]; exact k3
    have uE : ∀ c, (H2.set (X.length + 4) c)[X.length + 4]? = some c := fun c => List.getElem?_set_self (lt_of_get kE)
    have v0 : ∀ c d, ((H2.set (X.length + 4) c).set 3 d)[0]? = some (AO.cells [I s.c.a, I s.c.b, I s.c.c, I s.c.boot, I s.c.free, I s.c.tries, I s.c.age, s.cs, I s.now, I s.next, s.js, s.ps, s.ks, s.ds, s.hs, s.us]) := fun c d => by rw [List.getElem?_set_ne (by omega)]; exact u0 c
    refine goW TOk.nil [14] 0 ?_
    simp (maxSteps := 2000000) only [push_cast, seval, ↓kw2, a1, a2, a3, b1, b2, b3, c1, c2, c3, d1, d2, d3, e1, e2, e3, f1, f2, f3, g1, g2, g3, o1, o2, o3, r1, r2, r3, getA0, getA, setA0, setA, get_concat, n0, n2, mE, mO, happ, k0, k3, kE, u0, u3, uE, List.set_set, hnx, List.contains_cons, Bool.true_or, Bool.or_true, Bool.false_or]
    refine ⟨hC, ?_⟩
    refine FW.drawAll hmix (ls := ord14a) (by kernel_rfl) (by kernel_rfl) (Inv := fun ts' H' => ts' 6 = .ptr 3 0 ∧ ts' 7 = I s.next ∧ ts' 8 = I 0 ∧ H' = (H2.set (X.length + 4) (AO.cells [I s.c.a, I s.c.b, I s.c.c, I s.c.boot, I s.c.free, I s.c.tries, I s.c.age, s.cs, I s.now, I (s.next + 1), s.js, rp, .sl (HH.length + 1) 0 (s.keeps.length + 1) (s.keeps.length + 1), s.ds, s.hs, s.us])).set 3 (AO.cells [I s.c.a, I s.c.b, I s.c.c, I s.c.boot, I s.c.free, I s.c.tries, I s.c.age, s.cs, I s.now, I (s.next + 1), s.js, rp, .sl (HH.length + 1) 0 (s.keeps.length + 1) (s.keeps.length + 1), s.ds, s.hs, s.us])) ?_ ?_
    · intro l hl'
      simp only [ord14a, List.mem_cons, List.not_mem_nil, or_false] at hl'
      rcases hl' with rfl | rfl | rfl | rfl | rfl | rfl | rfl | rfl | rfl | rfl
      all_goals
        simp (maxSteps := 2000000) only [push_cast, seval, ↓kw2, a1, a2, a3, b1, b2, b3, c1, c2, c3, d1, d2, d3, e1, e2, e3, f1, f2, f3, g1, g2, g3, o1, o2, o3, r1, r2, r3, getA0, getA, setA0, setA, get_concat, u0, u3, uE, v0]
    · rintro ts' H' ⟨t6, t7, t8, rfl⟩
      have uF : ∀ c d, ((H2.set (X.length + 4) c).set 3 d)[3]? = some d := fun c d => List.getElem?_set_self (lt_of_get (u3 c))
      refine goW TOk.nil [14] 0 ?_
      simp (maxSteps := 2000000) only [push_cast, seval, ↓kw2, t6, t7, t8, uF]
      have hp3 : LiveS 13 ((H2.set (X.length + 4) (AO.cells [I s.c.a, I s.c.b, I s.c.c, I s.c.boot, I s.c.free, I s.c.tries, I s.c.age, s.cs, I s.now, I (s.next + 1), s.js, rp, .sl (HH.length + 1) 0 (s.keeps.length + 1) (s.keeps.length + 1), s.ds, s.hs, s.us])).set 3 (AO.cells [I s.c.a, I s.c.b, I s.c.c, I s.c.boot, I s.c.free, I s.c.tries, I s.c.age, s.cs, I s.now, I (s.next + 1), s.js, rp, .sl (HH.length + 1) 0 (s.keeps.length + 1) (s.keeps.length + 1), s.ds, s.hs, s.us])) s.ps rp (s.parts.map Prt.av) := hp2.keep fun i hi => by
        have h1 := hpi i hi
        have h2 := hpl i hi
        simp only [List.length_nil] at h1
        rw [List.getElem?_set_ne (by omega), List.getElem?_set_ne (by omega)]
        exact hkeep i (by omega) h1.2
      obtain ⟨w1, w2, w3⟩ := hp3.frozz (purL_map Prt.av _ (fun _ => rfl))
      have hrow3 : ((H2.set (X.length + 4) (AO.cells [I s.c.a, I s.c.b, I s.c.c, I s.c.boot, I s.c.free, I s.c.tries, I s.c.age, s.cs, I s.now, I (s.next + 1), s.js, rp, .sl (HH.length + 1) 0 (s.keeps.length + 1) (s.keeps.length + 1), s.ds, s.hs, s.us])).set 3 (AO.cells [I s.c.a, I s.c.b, I s.c.c, I s.c.boot, I s.c.free, I s.c.tries, I s.c.age, s.cs, I s.now, I (s.next + 1), s.js, rp, .sl (HH.length + 1) 0 (s.keeps.length + 1) (s.keeps.length + 1), s.ds, s.hs, s.us]))[HH.length + 1]? = some (.arr 9 ((s.keeps ++ [Kep.mk6 s.next (s.own b) fr till]).map Kep.av)) := by
        rw [List.getElem?_set_ne (by omega), List.getElem?_set_ne (by omega), hrow, List.map_append]; rfl
      have hz := frz_row hrow3 (by simp) (purL_map Kep.av _ (fun _ => rfl))
      rw [List.length_map, List.length_append] at hz
      have hS := ST_frz (a := s.c.a) (b := s.c.b) (c := s.c.c) (p := s.c.boot) (q := s.c.free) (r := s.c.tries) (t := s.c.age) (now := s.now) (next := s.next + 1) p1 p2 p5 p6 p7 w1 hz w3 (fun e => by cases e)
      refine ⟨_, rfl, 4, ?_⟩
      exact tup3_frz hS
  · simp only [if_true]
    refine goW TOk.nil [14] 0 ?_
    simp (maxSteps := 2000000) only [push_cast, seval, ↓kw2, a1, a2, a3, b1, b2, b3, c1, c2, c3, d1, d2, d3, e1, e2, e3, f1, f2, f3, g1, g2, g3, o1, o2, o3, r1, r2, r3, getA0, getA, setA0, setA, get_concat]
    exact ⟨_, rfl, done_pur rfl rfl⟩
theorem add_pur {s : Sta} (h : s.good) (hl : s.lim) (hl2 : s.lim2) (b : Bx6) (fr till : Int) : Pur Tryz.prog GG 14 [s.av, .agg [I b.x, I b.y, I b.z, I b.p, I b.q, I b.r], .agg [I fr, I till]]
    (.tup [if s.addE b fr till = 0 then (s.put b fr till).av else ST0, I (if s.addE b fr till = 0 then s.next else 0), I (s.addE b fr till)]) := by
  refine Pur.weak (fun w E r hr => ?_) (add_pur0 h hl hl2 b fr till)
  have hL : Le (if s.addE b fr till = 0 then s.putAV b fr till else ST0) (if s.addE b fr till = 0 then (s.put b fr till).av else ST0) := by
    split
    · exact ST_le h.cs.cell.1 h.js.1.cell.1 h.ds.cell.1 h.hs.cell.1 h.us.cell.1 h.ps.cell.1 rfl (zsf_le _) (Le.refl _)
    · exact Le.refl _
  cases hr with
  | tup hl' h' =>
    refine .tup hl' fun i hi => ?_
    match i, hi with
    | 0, _ => exact hL w E _ (h' 0 (by simp))
    | 1, _ => exact h' 1 (by simp)
    | 2, _ => exact h' 2 (by simp)
    | n + 3, hi => exact absurd hi (by simp)
end Go.Ab.Pd

set_option linter.unusedSimpArgs false
set_option linter.unusedVariables false
namespace Go.Ab.Pd
open Go.Proofs
def plainS : Sta := { c := ⟨2, 2, 2, 1, 1, 1, 1, [⟨0, 9, 8, 2⟩]⟩, cs := .isl [CL 0 9 8 2], now := 5, next := 1, jobs := [], js := NS, parts := [], ps := NS, keeps := [], ks := NS, down := [], ds := NS, shut := [], hs := NS, cut := [], us := NS }
theorem plainS_good : plainS.good := ⟨.inl rfl, ⟨.inr ⟨rfl, rfl⟩, fun j hj => by cases hj⟩, .inr ⟨rfl, rfl⟩, .inr ⟨rfl, rfl⟩, .inr ⟨rfl, rfl⟩, .inr ⟨rfl, rfl⟩, .inr ⟨rfl, rfl⟩⟩
theorem plainS_lim : plainS.lim := ⟨by decide, by decide, by decide, by decide, by decide, by decide⟩
theorem plainS_lim2 : plainS.lim2 := ⟨by decide, by decide, by decide, by decide, by decide, by decide, by decide, fun j hj => by cases hj⟩
theorem plainS_ok : plainS.okV = true := by decide +kernel
theorem plainS_add : plainS.addE ⟨0, 0, 0, 1, 1, 1⟩ 5 9 = 0 := by decide +kernel
theorem e17 : Ent Tryz.prog 17 Tryz.f17 [] 0 := ⟨Tryz.func17, rfl, by decide, by kernel_rfl, by kernel_rfl, by decide, by kernel_rfl⟩
attribute [push_cast] Tryz.f17
set_option maxHeartbeats 4000000 in
set_option maxRecDepth 400000 in
theorem plain21_pur : Pur Tryz.prog GG 17 [] plainS.av := by
  refine goQ e17 TOk.nil 0 ?_
  simp (maxSteps := 2000000) only [push_cast, seval, ↓kw2, slv]
  exact ⟨_, rfl, 4, rfl⟩
theorem e18 : Ent Tryz.prog 18 Tryz.f18 [] 0 := ⟨Tryz.func18, rfl, by decide, by kernel_rfl, by kernel_rfl, by decide, by kernel_rfl⟩
attribute [push_cast] Tryz.f18
set_option maxHeartbeats 4000000 in
set_option maxRecDepth 400000 in
theorem little_pur : Pur Tryz.prog GG 18 [] (.agg [I 0, I 0, I 0, I 1, I 1, I 1]) := by
  refine goQ e18 TOk.nil 0 ?_
  simp (maxSteps := 2000000) only [push_cast, seval, ↓kw2]
  exact ⟨_, rfl, 4, rfl⟩
theorem e6 : Ent Tryz.prog 6 Tryz.f6 [] 0 := ⟨Tryz.func6, rfl, by decide, by kernel_rfl, by kernel_rfl, by decide, by kernel_rfl⟩
attribute [push_cast] Tryz.f6
set_option maxHeartbeats 8000000 in
set_option maxRecDepth 400000 in
theorem alive21 : Pur Tryz.prog GG 6 [] (B true) := by
  have hA := add_pur plainS_good plainS_lim plainS_lim2 ⟨0, 0, 0, 1, 1, 1⟩ 5 9
  rw [plainS_add] at hA
  have hC := holdc_pur plainS_good plainS_lim
  rw [plainS_ok] at hC
  simp only [if_true] at hA hC
  have hput : (plainS.put ⟨0, 0, 0, 1, 1, 1⟩ 5 9).av = ST 2 2 2 1 1 1 1 (.isl [CL 0 9 8 2]) 5 2 NS NS (.isl [KP 1 0 0 0 1 1 1 5 9]) NS NS NS := by kernel_rfl
  rw [hput, show plainS.next = 1 from rfl] at hA
  have hlen := (show IsSl (AV.isl [KP 1 0 0 0 1 1 1 5 9]) [KP 1 0 0 0 1 1 1 5 9] from .inl rfl).len un29
  obtain ⟨u1, u2, u3⟩ := (show IsSl (AV.isl [KP 1 0 0 0 1 1 1 5 9]) [KP 1 0 0 0 1 1 1 5 9] from .inl rfl).cell
  generalize AV.isl [KP 1 0 0 0 1 1 1 5 9] = K1 at hA hlen
  refine goQ e6 TOk.nil 0 ?_
  simp (maxSteps := 2000000) only [push_cast, seval, ↓kw2]
  refine AC.pur plain21_pur ?_
  refine goN ?_
  simp (maxSteps := 2000000) only [push_cast, seval, ↓kw2]
  refine AC.pur little_pur ?_
  refine goN ?_
  simp (maxSteps := 2000000) only [push_cast, seval, ↓kw2]
  refine AC.pur hA ?_
  refine goN ?_
  simp (maxSteps := 2000000) only [push_cast, seval, ↓kw2, u1, u2, u3, hlen]
  refine AC.pur plain21_pur ?_
  refine goN ?_
  simp (maxSteps := 2000000) only [push_cast, seval, ↓kw2]
  refine AC.pur hC ?_
  refine goN ?_
  simp (maxSteps := 2000000) only [push_cast, seval, ↓kw2]
  exact ⟨_, rfl, done_pur rfl rfl⟩
end Go.Ab.Pd

set_option linter.unusedSimpArgs false
set_option linter.unusedVariables false
namespace Go.Ab.Pd
open Go.Proofs
structure Sta.fine (s : Sta) : Prop where
  cf : s.config = true
  jb : jobsV s.c s.jobs s.now s.next = true
  mr : s.marks = true
  pa : s.partsV = true
  st : startG s.c.cls (hasPart s.parts) ([], 0) s.jobs = true
  kp : s.keepsV = true
theorem okV_iff {s : Sta} : s.okV = true ↔ s.fine := by
  unfold Sta.okV
  simp only [Bool.and_eq_true]
  exact ⟨fun ⟨a, b, c, d, e, f⟩ => ⟨a, b, c, d, e, f⟩, fun ⟨a, b, c, d, e, f⟩ => ⟨a, b, c, d, e, f⟩⟩
theorem part_facts {s : Sta} {p : Prt} (h : s.part p = true) : ¬findN s.jobs p.job < 0 ∧ s.c.spE p (s.jobOf p).wall = 0 ∧ s.c.end p (s.jobOf p).wall = s.ends p ∧ s.now < s.ends p ∧ p.pl.ok s.c.a s.c.b s.c.c ∧ ((s.jobOf p).st = 2 ↔ ¬p.ph = 3) := by
  unfold Sta.part Sta.isJob at h
  simp only [Bool.and_eq_true, decide_eq_true_eq, Bool.not_eq_true', decide_eq_false_iff_not] at h
  obtain ⟨⟨⟨⟨⟨⟨⟨h1, h2⟩, h3⟩, h4⟩, h5⟩, h6⟩, h7⟩, h8⟩ := h
  obtain ⟨⟨_, hpp⟩, k1, k2, k3, k4⟩ := Cfg.sp_facts h2
  have he : s.c.end p (s.jobOf p).wall = s.ends p := by
    unfold Cfg.end Sta.ends at *
    omega
  have hn : s.now < s.ends p := by
    unfold Cfg.turn Sta.ends at *
    split at h5
    · rename_i hp1; simp only [hp1, if_true] at h4 ⊢; omega
    · rename_i hp1
      split at h5
      · rename_i hp2; simp only [hp1, hp2, if_true, if_false] at h4 ⊢; omega
      · rename_i hp2; simp only [hp1, hp2, if_false] at h4 ⊢; omega
  refine ⟨by omega, h2, he, hn, isE_ok h6, ?_⟩
  split at h8
  · rename_i h3
    simp only [decide_eq_true_eq] at h8
    exact ⟨fun e => by omega, fun e => absurd h3 e⟩
  · rename_i h3
    simp only [Bool.and_eq_true, decide_eq_true_eq] at h8
    exact ⟨fun _ => h3, fun _ => h8.1⟩
theorem anyN_none {pr : Nat → Bool} {n : Nat} (h : anyN pr n 0 = false) : ∀ i, i < n → pr i = false := fun i hi => by
  cases hp : pr i
  · rfl
  · rw [Bool.eq_false_iff, Ne, anyN_iff] at h
    exact absurd ⟨i, by omega, by omega, hp⟩ h
theorem parts_no {s : Sta} (h : s.partsV = true) : ∀ i, i < s.parts.length → s.odd1 i = false ∧ s.odd2 i = false := fun i hi => by
  unfold Sta.partsV at h
  simp only [Bool.and_eq_true, Bool.not_eq_true'] at h
  have := anyN_none h.2 i hi
  simpa using this
theorem parts_mem {s : Sta} {i : Nat} (hi : i < s.parts.length) : s.parts.getD i default ∈ s.parts := by
  rw [show s.parts.getD i default = s.parts[i] by simp [List.getD, hi]]
  exact List.getElem_mem hi
theorem keeps_ok {s : Sta} (h : s.keepsV = true) {k : Nat} (hk : k < s.keeps.length) : s.okK (s.keeps.getD k default) (s.last k) k = true := by
  unfold Sta.keepsV at h
  simp only [Bool.and_eq_true, Bool.not_eq_true'] at h
  have := anyN_none h.2 k hk
  simpa using this
end Go.Ab.Pd

set_option linter.unusedSimpArgs false
set_option linter.unusedVariables false
namespace Go.Ab.Pd
open Go.Proofs
theorem great18_after {l : List Jb} (h : great18 l = false) : l.length ≤ 100 ∧ ∀ j ∈ l, j.after.length ≤ 100 := by
  unfold great18 at h
  rw [Bool.or_eq_false_iff] at h
  have hl : l.length ≤ 100 := by have := h.2; rw [decide_eq_false_iff_not] at this; omega
  refine ⟨hl, fun j hj => ?_⟩
  obtain ⟨i, hi, rfl⟩ := List.getElem_of_mem hj
  have := anyN_none h.1 i (by omega)
  rw [show l.getD i default = l[i] by simp [List.getD, hi], decide_eq_false_iff_not] at this
  omega
theorem Sta.lim2_of {s : Sta} (h : s.great = false) : s.lim2 := by
  unfold Sta.great at h
  simp only [Bool.or_eq_false_iff, decide_eq_false_iff_not] at h
  obtain ⟨⟨⟨⟨⟨⟨h1, h2⟩, h3⟩, h4⟩, h5⟩, h6⟩, h7⟩ := h
  obtain ⟨g1, g2⟩ := great18_after h2
  exact ⟨by omega, by omega, by omega, by omega, by omega, by omega, by omega, fun j hj => by have := g2 j hj; omega⟩
theorem e3 : Ent Tryz.prog 3 Tryz.f3 [] 1 := ⟨Tryz.func3, rfl, by decide, by kernel_rfl, by kernel_rfl, by decide, by kernel_rfl⟩
attribute [push_cast] Tryz.f3
end Go.Ab.Pd
