/- One of the texts that this claim stands on. -/
import Derived.Test.YtdfgdheehdabmaaGreatDoorEv37
import Derived.Test.YtdfgdheehdabmaaGreatDoorEv42
set_option linter.unusedVariables false
set_option linter.unusedSimpArgs false
set_option linter.unusedSimpArgs false
set_option linter.unusedVariables false
namespace Go.Ab.Pd
open Go.Proofs
def smallV (a b c : Int) : Bool := if okD a b c then decide (IntKind.i64.wrap (IntKind.i64.wrap (a * b) * c) ≤ 64) else true
theorem e5 : Ent Tryz.prog 5 Tryz.f5 [] 1 := ⟨Tryz.func5, rfl, by decide, by kernel_rfl, by kernel_rfl, by decide, by kernel_rfl⟩
attribute [push_cast] Tryz.f5
set_option maxHeartbeats 4000000 in
set_option maxRecDepth 400000 in
theorem small_pur (a b c : Int) : Pur Tryz.prog GG 5 [.agg [I a, I b, I c]] (B (smallV a b c)) := by
  refine goQ e5 TOk.nil 5 ?_
  simp (maxSteps := 2000000) only [push_cast, seval, ↓kw2]
  unfold smallV
  repeat' (first | apply And.intro | intro _)
  all_goals
    refine ⟨_, rfl, done_pur rfl ?_⟩
    simp only [AV.c.injEq, Value.bool.injEq]
    first | (rw [if_neg (by unfold okD; omega)]) | (rw [if_pos (by unfold okD; omega)])
end Go.Ab.Pd

set_option linter.unusedSimpArgs false
set_option linter.unusedVariables false
namespace Go.Ab.Pd
open Go.Proofs
theorem IsSet.len {s : AV} (q : IsSet s) : ∃ L : Int, aLen Tryz.prog 28 s = some L := by
  obtain ⟨ws, _, rfl | ⟨rfl, _⟩⟩ := q
  · exact ⟨_, li28 _⟩
  · exact ⟨_, ln28⟩
theorem set_told {s : AV} (q : IsSet s) (n : Int) : (∃ e : Int, ¬e = 0 ∧ Pur Tryz.prog GG 24 [I n, s] (I e)) ∨ ∃ ws : List Int, (∀ w ∈ ws, inU w) ∧ s = .isl (ws.map U) ∧ schk n ws = 0 := by
  obtain ⟨ws, hw, rfl | ⟨rfl, rfl⟩⟩ := q
  · by_cases h : schk n ws = 0
    · exact .inr ⟨ws, hw, rfl, h⟩
    · exact .inl ⟨_, h, scheck_pur n ws⟩
  · refine .inl ⟨_, fun h => ?_, scheckN_pur n⟩
    obtain ⟨hn, hl, _⟩ := (schk_bits (ws := []) (by simp)).1 h
    simp only [List.length_nil] at hl
    omega
theorem check_of {n : Int} {ws : List Int} (h : schk n ws = 0) : Pur Tryz.prog GG 24 [I n, .isl (ws.map U)] (I 0) := by
  have := scheck_pur n ws
  rwa [h] at this
theorem dwchk_8 {a b c p q r : Int} (h : ¬dwchk a b c p q r = 0) : dwchk a b c p q r = 8 := by
  unfold dwchk wchk at *
  split
  · split
    · simp_all
    · rfl
  · rfl
end Go.Ab.Pd
