/-
  What the evaluator says where tables lie in the world from the beginning.
-/
import Derived.Test.YtchodnhlkdlgmaaGreatDoorEvW1
set_option linter.unusedVariables false
namespace Go.Ab
open Go.RowKit
/-- A table of bytes lies at block g. -/
def TabAt (W : World) (g : Nat) (l : List Int) : Prop := (∃ c t f, W.heap[g]? = some (.cells c t f)) ∧ ∀ i, i < l.length → W.cell? ⟨g, i, none⟩ = some (.int .u8 (l.getD i 0))

theorem pur_calls_tab {P : Program} {G : Gl} {f : FuncId} {v : Value} (h : Pur P G f [] (.c v)) {g : Nat} {l : List Int} (hG : ∀ j cs, G j = some cs → j = g ∧ cs = l.map fun n => .c (.int .u8 n)) (w : World) (ht : TabAt w g l) :
    Calls P f #[] w fun e w' => e = .returned v ∧ Below w.heap.size w w' := by
  intro cs
  have h1 := h [] (fun u _ => u = .c v) rfl
  let E0 : En := { loc := fun _ => none, fro := fun b => b = g }
  have hnl : ∀ b, ¬ Live [] E0 b := by rintro b ⟨id, o, l, ho, _⟩; simp at ho
  have hH : RelH G w E0 [] := ⟨fun id o ho => by simp at ho, fun id id' o o' l l' ho => by simp at ho, fun b hb => by
      have hb : b = g := hb
      subst hb; exact ht.1, fun b hb => hnl b,
    fun id l hl => by simp [E0] at hl, fun j cs hj => by
      obtain ⟨rfl, rfl⟩ := hG j cs hj
      exact .iptr (b := j) (o := 0) (off := 0) (f := fun i => .int .u8 (l.getD i 0)) rfl (fun i hi => by
        have hi' : i < l.length := by simpa using hi
        rw [Nat.zero_add]; exact ht.2 i hi') (fun i hi => by
        have hi' : i < l.length := by simpa using hi
        simp [List.getD, hi', AV.isCell]) (fun i hi => by
        have hi' : i < l.length := by simpa using hi
        have e : (l.map fun n => AV.c (.int .u8 n)).getD i .un = .c (.int .u8 (l.getD i 0)) := by simp [List.getD, hi']
        rw [e]; exact .c rfl)⟩
  obtain ⟨u, H', E', w', r, fr, hu, g1, g2, g3, g4, g5, g6⟩ := h1.2 E0 w #[] hH ⟨rfl, fun i hi => by simp at hi⟩ cs
  subst hu
  have hr := g3.c_inv
  subst hr
  exact ⟨.returned r, w', fr, ⟨rfl, g2.os, g2.tape, g2.output, g2.size, fun k hk => g2.same k hk (hnl k)⟩, g4, g5, g6⟩
end Go.Ab
