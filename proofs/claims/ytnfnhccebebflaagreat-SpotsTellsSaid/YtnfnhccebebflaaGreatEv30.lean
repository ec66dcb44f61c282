/- One of the texts that this claim stands on. -/
import Derived.Test.YtnfnhccebebflaaGreatEv28
import Derived.Test.YtnfnhccebebflaaGreatEv29
set_option linter.unusedVariables false
set_option linter.unusedSimpArgs false
set_option linter.unusedSimpArgs false
set_option linter.unusedVariables false
namespace Go.Ab.Pd
open Go.Proofs
theorem inU_0 : inU 0 := ⟨by decide, by decide⟩
theorem toNat_U {w : Int} (h : inU w) : (BitVec.ofInt IntKind.u64.bits w).toNat = w.toNat := by
  rw [BitVec.toNat_ofInt]
  have e : ((2 ^ IntKind.u64.bits : Nat) : Int) = 2 ^ 64 := by decide
  rw [e, Int.emod_eq_of_lt h.1 h.2]
theorem wrapU {n : Int} (h : inU n) : IntKind.u64.wrap n = n := by
  rw [IntKind.wrap_u64]
  exact Int.emod_eq_of_lt h.1 h.2
theorem lt_U {w : Int} (h : inU w) : w.toNat < 2 ^ 64 := by unfold inU at h; omega
theorem andW_nat {x y : Int} (hx : inU x) (hy : inU y) : andW x y = ((x.toNat &&& y.toNat : Nat) : Int) := by
  unfold andW
  rw [BitVec.toNat_and, toNat_U hx, toNat_U hy]
  have h := Nat.and_le_left (n := x.toNat) (m := y.toNat)
  have h2 := lt_U hx
  exact wrapU ⟨by omega, by omega⟩
def S1' (w : Int) : Int := IntKind.u64.wrap (IntKind.u64.wrap ((BitVec.ofInt IntKind.u64.bits (w.fdiv (2 ^ min 1 IntKind.u64.bits)) &&& BitVec.ofInt IntKind.u64.bits 6148914691236517205).toNat : Int) + IntKind.u64.wrap ((BitVec.ofInt IntKind.u64.bits w &&& BitVec.ofInt IntKind.u64.bits 6148914691236517205).toNat : Int))
def S2' (w : Int) : Int := IntKind.u64.wrap (IntKind.u64.wrap ((BitVec.ofInt IntKind.u64.bits (w.fdiv (2 ^ min 2 IntKind.u64.bits)) &&& BitVec.ofInt IntKind.u64.bits 3689348814741910323).toNat : Int) + IntKind.u64.wrap ((BitVec.ofInt IntKind.u64.bits w &&& BitVec.ofInt IntKind.u64.bits 3689348814741910323).toNat : Int))
def S3' (w : Int) : Int := IntKind.u64.wrap ((BitVec.ofInt IntKind.u64.bits (IntKind.u64.wrap (w.fdiv (2 ^ min 4 IntKind.u64.bits) + w)) &&& BitVec.ofInt IntKind.u64.bits 1085102592571150095).toNat : Int)
def S8' (w : Int) : Int := IntKind.u64.wrap (w + w.fdiv (2 ^ min 8 IntKind.u64.bits))
def S16' (w : Int) : Int := IntKind.u64.wrap (w + w.fdiv (2 ^ min 16 IntKind.u64.bits))
def S32' (w : Int) : Int := IntKind.u64.wrap (w + w.fdiv (2 ^ min 32 IntKind.u64.bits))
theorem fS1 (w : Int) : IntKind.u64.wrap (IntKind.u64.wrap ((BitVec.ofInt IntKind.u64.bits (w.fdiv (2 ^ min 1 IntKind.u64.bits)) &&& BitVec.ofInt IntKind.u64.bits 6148914691236517205).toNat : Int) + IntKind.u64.wrap ((BitVec.ofInt IntKind.u64.bits w &&& BitVec.ofInt IntKind.u64.bits 6148914691236517205).toNat : Int)) = S1' w := (rfl)
theorem fS2 (w : Int) : IntKind.u64.wrap (IntKind.u64.wrap ((BitVec.ofInt IntKind.u64.bits (w.fdiv (2 ^ min 2 IntKind.u64.bits)) &&& BitVec.ofInt IntKind.u64.bits 3689348814741910323).toNat : Int) + IntKind.u64.wrap ((BitVec.ofInt IntKind.u64.bits w &&& BitVec.ofInt IntKind.u64.bits 3689348814741910323).toNat : Int)) = S2' w := (rfl)
theorem fS3 (w : Int) : IntKind.u64.wrap ((BitVec.ofInt IntKind.u64.bits (IntKind.u64.wrap (w.fdiv (2 ^ min 4 IntKind.u64.bits) + w)) &&& BitVec.ofInt IntKind.u64.bits 1085102592571150095).toNat : Int) = S3' w := (rfl)
theorem fS8 (w : Int) : IntKind.u64.wrap (w + w.fdiv (2 ^ min 8 IntKind.u64.bits)) = S8' w := (rfl)
theorem fS16 (w : Int) : IntKind.u64.wrap (w + w.fdiv (2 ^ min 16 IntKind.u64.bits)) = S16' w := (rfl)
theorem fS32 (w : Int) : IntKind.u64.wrap (w + w.fdiv (2 ^ min 32 IntKind.u64.bits)) = S32' w := (rfl)
theorem fdiv_nat (x k : Nat) : ((x : Nat) : Int).fdiv ((k : Nat) : Int) = ((x / k : Nat) : Int) := by
  rw [Int.fdiv_eq_ediv_of_nonneg _ (by omega)]; rfl
theorem nU {x : Nat} (h : x < 2 ^ 64) : inU (x : Int) := ⟨by omega, by omega⟩
theorem S1_nat {x : Nat} (h : x < 2 ^ 64) : S1' (x : Int) = ((On.a1 8 x : Nat) : Int) ∧ On.a1 8 x < 2 ^ 64 := by
  have e : (2 : Int) ^ min 1 IntKind.u64.bits = ((2 : Nat) : Int) := by decide
  have m : On.mk 85 8 = 6148914691236517205 := by decide
  have a1 := andW_nat (x := ((x / 2 : Nat) : Int)) (y := 6148914691236517205) (nU (by omega)) ⟨by decide, by decide⟩
  have a2 := andW_nat (x := (x : Int)) (y := 6148914691236517205) (nU h) ⟨by decide, by decide⟩
  unfold andW at a1 a2
  rw [Int.toNat_natCast, show (6148914691236517205 : Int).toNat = 6148914691236517205 from rfl] at a1 a2
  have l1 := Nat.and_le_right (n := x / 2) (m := 6148914691236517205)
  have l2 := Nat.and_le_right (n := x) (m := 6148914691236517205)
  unfold S1' On.a1
  rw [e, fdiv_nat, a1, a2, m]
  generalize x / 2 &&& 6148914691236517205 = p at l1
  generalize x &&& 6148914691236517205 = q at l2
  exact ⟨(wrapU ⟨by omega, by omega⟩).trans (by omega), by omega⟩
theorem S2_nat {x : Nat} (h : x < 2 ^ 64) : S2' (x : Int) = ((On.a2 8 x : Nat) : Int) ∧ On.a2 8 x ≤ 7378697629483820646 := by
  have e : (2 : Int) ^ min 2 IntKind.u64.bits = ((4 : Nat) : Int) := by decide
  have m : On.mk 51 8 = 3689348814741910323 := by decide
  have a1 := andW_nat (x := ((x / 4 : Nat) : Int)) (y := 3689348814741910323) (nU (by omega)) ⟨by decide, by decide⟩
  have a2 := andW_nat (x := (x : Int)) (y := 3689348814741910323) (nU h) ⟨by decide, by decide⟩
  unfold andW at a1 a2
  rw [Int.toNat_natCast, show (3689348814741910323 : Int).toNat = 3689348814741910323 from rfl] at a1 a2
  have l1 := Nat.and_le_right (n := x / 4) (m := 3689348814741910323)
  have l2 := Nat.and_le_right (n := x) (m := 3689348814741910323)
  unfold S2' On.a2
  rw [e, fdiv_nat, a1, a2, m]
  generalize x / 4 &&& 3689348814741910323 = p at l1
  generalize x &&& 3689348814741910323 = q at l2
  exact ⟨(wrapU ⟨by omega, by omega⟩).trans (by omega), by omega⟩
theorem S3_nat {x : Nat} (h : x ≤ 7378697629483820646) : S3' (x : Int) = ((On.a3 8 x : Nat) : Int) ∧ On.a3 8 x ≤ 1085102592571150095 := by
  have e : (2 : Int) ^ min 4 IntKind.u64.bits = ((16 : Nat) : Int) := by decide
  have m : On.mk 15 8 = 1085102592571150095 := by decide
  have a1 := andW_nat (x := ((x / 16 + x : Nat) : Int)) (y := 1085102592571150095) (nU (by omega)) ⟨by decide, by decide⟩
  unfold andW at a1
  rw [Int.toNat_natCast, show (1085102592571150095 : Int).toNat = 1085102592571150095 from rfl] at a1
  have l1 := Nat.and_le_right (n := x / 16 + x) (m := 1085102592571150095)
  unfold S3' On.a3
  rw [e, fdiv_nat, show ((x / 16 : Nat) : Int) + (x : Int) = ((x / 16 + x : Nat) : Int) by omega, wrapU (n := ((x / 16 + x : Nat) : Int)) (nU (by omega)), a1, m]
  exact ⟨rfl, l1⟩
theorem S8_nat {x : Nat} (h : x + x / 256 < 2 ^ 64) : S8' (x : Int) = ((x + x / 256 : Nat) : Int) := by
  have e : (2 : Int) ^ min 8 IntKind.u64.bits = ((256 : Nat) : Int) := by decide
  unfold S8'
  rw [e, fdiv_nat, show (x : Int) + ((x / 256 : Nat) : Int) = ((x + x / 256 : Nat) : Int) by omega, wrapU (nU h)]
theorem S16_nat {x : Nat} (h : x + x / 65536 < 2 ^ 64) : S16' (x : Int) = ((x + x / 65536 : Nat) : Int) := by
  have e : (2 : Int) ^ min 16 IntKind.u64.bits = ((65536 : Nat) : Int) := by decide
  unfold S16'
  rw [e, fdiv_nat, show (x : Int) + ((x / 65536 : Nat) : Int) = ((x + x / 65536 : Nat) : Int) by omega, wrapU (nU h)]
theorem S32_nat {x : Nat} (h : x + x / 4294967296 < 2 ^ 64) : S32' (x : Int) = ((x + x / 4294967296 : Nat) : Int) := by
  have e : (2 : Int) ^ min 32 IntKind.u64.bits = ((4294967296 : Nat) : Int) := by decide
  unfold S32'
  rw [e, fdiv_nat, show (x : Int) + ((x / 4294967296 : Nat) : Int) = ((x + x / 4294967296 : Nat) : Int) by omega, wrapU (nU h)]
theorem last_nat {z : Nat} (h : z < 2 ^ 63) : IntKind.i64.wrap ((BitVec.ofInt IntKind.i64.bits (IntKind.i64.wrap (z : Int)) &&& BitVec.ofInt IntKind.i64.bits 127).toNat : Int) = ((z % 128 : Nat) : Int) := by
  rw [wrapL (n := (z : Int)) (by omega) (by omega), BitVec.toNat_and, BitVec.toNat_ofInt, BitVec.toNat_ofInt]
  have e : ((2 ^ IntKind.i64.bits : Nat) : Int) = 2 ^ 64 := by decide
  have e2 : ((127 : Int) % 2 ^ 64).toNat = 2 ^ 7 - 1 := by decide
  rw [e, Int.emod_eq_of_lt (a := (z : Int)) (by omega) (by omega), Int.toNat_natCast, e2, Nat.and_two_pow_sub_one_eq_mod]
  exact wrapL (by omega) (by omega)
theorem e148 : Ent Tryz.prog 148 Tryz.f148 [] 1 := ⟨Tryz.func148, rfl, by decide, by kernel_rfl, by kernel_rfl, by decide, by kernel_rfl⟩
attribute [push_cast] Tryz.f148
set_option maxHeartbeats 4000000 in
set_option maxRecDepth 400000 in
theorem ones_ex (w : Int) : ∃ n, Pur Tryz.prog GG 148 [U w] (I n) ∧ (inU w → n = (On.ones w.toNat : Int)) := by
  apply Exists.intro
  refine ⟨?_, ?_⟩
  · refine goQ e148 T23_ok 0 ?_ rfl
    simp (maxSteps := 2000000) only [push_cast, seval, ↓kw2, fS1, fS2, fS3, fS8, fS16, fS32]
    exact ⟨_, rfl, done_pur rfl rfl⟩
  · intro hw
    obtain ⟨x, rfl⟩ : ∃ x : Nat, w = (x : Int) := ⟨w.toNat, by unfold inU at hw; omega⟩
    have hx : x < 2 ^ 64 := by unfold inU at hw; omega
    obtain ⟨e1, l1⟩ := S1_nat hx
    obtain ⟨e2, l2⟩ := S2_nat l1
    obtain ⟨e3, l3⟩ := S3_nat l2
    have hy : On.a3 8 (On.a2 8 (On.a1 8 x)) = On.y3 8 x := rfl
    rw [hy] at e3 l3
    rw [e1, e2, e3, S8_nat (by omega), S16_nat (by omega), S32_nat (by omega), last_nat (by omega), Int.toNat_natCast]
    rfl
noncomputable def onesV (w : Int) : Int := Classical.choose (ones_ex w)
theorem onesV_pur (w : Int) : Pur Tryz.prog GG 148 [U w] (I (onesV w)) := (Classical.choose_spec (ones_ex w)).1
noncomputable def addV (acc w : Int) : Int := IntKind.i64.wrap (acc + onesV w)
theorem e90 : Ent Tryz.prog 90 Tryz.f90 [] 2 := ⟨Tryz.func90, rfl, by decide, by kernel_rfl, by kernel_rfl, by decide, by kernel_rfl⟩
attribute [push_cast] Tryz.f90
attribute [push_cast] Tryz.f259
end Go.Ab.Pd
