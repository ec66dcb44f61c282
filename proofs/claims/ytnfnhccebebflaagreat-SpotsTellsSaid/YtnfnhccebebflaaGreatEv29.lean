/- One of the texts that this claim stands on. -/

set_option linter.unusedVariables false
set_option linter.unusedSimpArgs false
set_option maxRecDepth 100000
namespace Go.Ab.On
def mk (c : Nat) : Nat → Nat
  | 0 => 0
  | n + 1 => 256 * mk c n + c
theorem mk_succ (c n : Nat) : mk c (n + 1) = 256 * mk c n + c := rfl
theorem and_split {q m r c : Nat} (hr : r < 256) (hc : c < 256) : (256 * q + r) &&& (256 * m + c) = 256 * (q &&& m) + (r &&& c) := by
  have h1 := Nat.and_div_two_pow (a := 256 * q + r) (b := 256 * m + c) (n := 8)
  have h2 := Nat.and_mod_two_pow (a := 256 * q + r) (b := 256 * m + c) (n := 8)
  have e1 : (256 * q + r) / 2 ^ 8 = q := by omega
  have e2 : (256 * m + c) / 2 ^ 8 = m := by omega
  have e3 : (256 * q + r) % 2 ^ 8 = r := by omega
  have e4 : (256 * m + c) % 2 ^ 8 = c := by omega
  rw [e1, e2] at h1
  rw [e3, e4] at h2
  omega
def a1 (n x : Nat) : Nat := (x / 2 &&& mk 85 n) + (x &&& mk 85 n)
def a2 (n x : Nat) : Nat := (x / 4 &&& mk 51 n) + (x &&& mk 51 n)
def a3 (n x : Nat) : Nat := (x / 16 + x) &&& mk 15 n
def b1 (r : Nat) : Nat := (r / 2 &&& 85) + (r &&& 85)
def b2 (r : Nat) : Nat := (r / 4 &&& 51) + (r &&& 51)
def b3 (r : Nat) : Nat := (r / 16 + r) &&& 15
theorem d1 : ∀ r, r < 256 → ∀ e, e < 2 → (128 * e + r / 2) &&& 85 = r / 2 &&& 85 := by decide +kernel
theorem d2 : ∀ r, r < 256 → ∀ e, e < 4 → (64 * e + r / 4) &&& 51 = r / 4 &&& 51 := by decide +kernel
theorem d3 : ∀ r, r < 256 → r % 16 ≤ 4 → r / 16 ≤ 4 → ∀ e, e < 5 → (16 * e + r / 16 + r) &&& 15 = (r / 16 + r) &&& 15 := by decide +kernel
theorem d4 : ∀ r, r < 256 → b1 r < 256 ∧ b2 (b1 r) < 256 ∧ b2 (b1 r) % 16 ≤ 4 ∧ b2 (b1 r) / 16 ≤ 4 ∧ b3 (b2 (b1 r)) ≤ 8 ∧ (b3 (b2 (b1 r)) = 0 → r = 0) := by decide +kernel
theorem s1 {n q r : Nat} (hr : r < 256) : a1 (n + 1) (256 * q + r) = 256 * a1 n q + b1 r := by
  have e : (256 * q + r) / 2 = 256 * (q / 2) + (128 * (q % 2) + r / 2) := by omega
  unfold a1 b1
  rw [mk_succ, e, and_split (by omega) (by decide), and_split hr (by decide), d1 r hr _ (by omega)]
  omega
theorem s2 {n q r : Nat} (hr : r < 256) : a2 (n + 1) (256 * q + r) = 256 * a2 n q + b2 r := by
  have e : (256 * q + r) / 4 = 256 * (q / 4) + (64 * (q % 4) + r / 4) := by omega
  unfold a2 b2
  rw [mk_succ, e, and_split (by omega) (by decide), and_split hr (by decide), d2 r hr _ (by omega)]
  omega
theorem s3 {n q r : Nat} (hr : r < 256) (h1 : r % 16 ≤ 4) (h2 : r / 16 ≤ 4) (h3 : q % 16 ≤ 4) : a3 (n + 1) (256 * q + r) = 256 * a3 n q + b3 r := by
  have e : (256 * q + r) / 16 + (256 * q + r) = 256 * (q / 16 + q) + (16 * (q % 16) + r / 16 + r) := by omega
  unfold a3 b3
  rw [mk_succ, e, and_split (by omega) (by decide), d3 r hr h1 h2 _ (by omega)]
theorem and0 (x : Nat) : x &&& mk 51 0 = 0 := Nat.and_zero x
theorem low (n x : Nat) : a2 n (a1 n x) % 16 ≤ 4 := by
  cases n with
  | zero => unfold a2; rw [and0, and0]; decide
  | succ n =>
    have e : x = 256 * (x / 256) + x % 256 := by omega
    have hr : x % 256 < 256 := by omega
    have h := d4 _ hr
    rw [e, s1 hr, s2 h.1]
    omega
def y3 (n x : Nat) : Nat := a3 n (a2 n (a1 n x))
def g (r : Nat) : Nat := b3 (b2 (b1 r))
theorem step (n x : Nat) : y3 (n + 1) x = 256 * y3 n (x / 256) + g (x % 256) := by
  have e : x = 256 * (x / 256) + x % 256 := by omega
  have hr : x % 256 < 256 := by omega
  have h := d4 _ hr
  have hl := low n (x / 256)
  unfold y3 g
  rw [e, s1 hr, s2 h.1, s3 h.2.1 h.2.2.1 h.2.2.2.1 hl]
  have e2 : (256 * (x / 256) + x % 256) / 256 = x / 256 := by omega
  have e3 : (256 * (x / 256) + x % 256) % 256 = x % 256 := by omega
  rw [e2, e3]
theorem y30 (x : Nat) : y3 0 x = 0 := by unfold y3 a3; exact Nat.and_zero _
theorem g_le (x : Nat) : g (x % 256) ≤ 8 := (d4 (x % 256) (by omega)).2.2.2.2.1
theorem g_0 (x : Nat) (h : g (x % 256) = 0) : x % 256 = 0 := (d4 (x % 256) (by omega)).2.2.2.2.2 h
def sum (y : Nat) : Nat :=
  let y4 := y + y / 256
  let y5 := y4 + y4 / 65536
  (y5 + y5 / 4294967296) % 128
set_option maxHeartbeats 4000000 in
theorem sum_is {g0 g1 g2 g3 g4 g5 g6 g7 : Nat} (h0 : g0 ≤ 8) (h1 : g1 ≤ 8) (h2 : g2 ≤ 8) (h3 : g3 ≤ 8) (h4 : g4 ≤ 8) (h5 : g5 ≤ 8) (h6 : g6 ≤ 8) (h7 : g7 ≤ 8) {y : Nat}
    (hy : y = 256 * (256 * (256 * (256 * (256 * (256 * (256 * g7 + g6) + g5) + g4) + g3) + g2) + g1) + g0) : sum y = g0 + g1 + g2 + g3 + g4 + g5 + g6 + g7 ∧ y + y / 256 < 2 ^ 64 ∧ (y + y / 256) + (y + y / 256) / 65536 < 2 ^ 64 ∧
      ((y + y / 256) + (y + y / 256) / 65536) + ((y + y / 256) + (y + y / 256) / 65536) / 4294967296 < 2 ^ 64 := by
  obtain ⟨Y6, e6⟩ : ∃ Y, Y = 256 * g7 + g6 := ⟨_, rfl⟩
  obtain ⟨Y5, e5⟩ : ∃ Y, Y = 256 * Y6 + g5 := ⟨_, rfl⟩
  obtain ⟨Y4, e4⟩ : ∃ Y, Y = 256 * Y5 + g4 := ⟨_, rfl⟩
  obtain ⟨Y3, e3⟩ : ∃ Y, Y = 256 * Y4 + g3 := ⟨_, rfl⟩
  obtain ⟨Y2, e2⟩ : ∃ Y, Y = 256 * Y3 + g2 := ⟨_, rfl⟩
  obtain ⟨Y1, e1⟩ : ∃ Y, Y = 256 * Y2 + g1 := ⟨_, rfl⟩
  rw [← e6, ← e5, ← e4, ← e3, ← e2, ← e1] at hy
  have q1 : y / 256 = Y1 := by clear e1 e2 e3 e4 e5 e6; omega
  have hy2 : y = 65536 * Y2 + (256 * g1 + g0) := by clear e2 e3 e4 e5 e6; omega
  have hY1 : Y1 = 65536 * Y3 + (256 * g2 + g1) := by clear e3 e4 e5 e6 hy hy2; omega
  have q2 : (y + Y1) / 65536 = Y2 + Y3 := by clear e1 e2 e3 e4 e5 e6 hy q1; omega
  have hY2 : Y2 = 65536 * Y4 + (256 * g3 + g2) := by clear e1 e4 e5 e6 hy hy2 hY1 q1 q2; omega
  have hY3 : Y3 = 65536 * Y5 + (256 * g4 + g3) := by clear e1 e2 e5 e6 hy hy2 hY1 q1 q2 hY2; omega
  have hY4 : Y4 = 65536 * Y6 + (256 * g5 + g4) := by clear e1 e2 e3 e6 hy hy2 hY1 q1 q2 hY2 hY3; omega
  have hY5 : Y5 = 65536 * g7 + (256 * g6 + g5) := by clear e1 e2 e3 e4 hy hy2 hY1 q1 q2 hY2 hY3 hY4; omega
  have l : y + Y1 + (Y2 + Y3) = 4294967296 * (Y4 + Y5) + (65536 * (256 * (g3 + g4) + (g2 + g3)) + (256 * (g1 + g2) + (g0 + g1)) + (65536 * (Y4 + Y5) + (256 * (g3 + g4) + (g2 + g3)))) := by
    clear e1 e2 e3 e4 e5 e6 hy q1 q2 hY4 hY5; omega
  have l2 : 65536 * (Y4 + Y5) = 4294967296 * (Y6 + g7) + 65536 * (256 * (g5 + g6) + (g4 + g5)) := by
    clear e1 e2 e3 e4 e5 e6 hy q1 q2 l hY1 hY2 hY3 hy2; omega
  have q3 : (y + Y1 + (Y2 + Y3)) / 4294967296 = Y4 + Y5 + (Y6 + g7) := by
    rw [l, l2]
    clear l l2 e1 e2 e3 e4 e5 e6 hy q1 q2 hY1 hY2 hY3 hY4 hY5 hy2
    omega
  have b6 : Y6 ≤ 2056 := by clear l l2 e1 e2 e3 e4 e5 hy q1 q2 q3 hY1 hY2 hY3 hY4 hY5 hy2; omega
  have b5 : Y5 ≤ 526344 := by clear l l2 e1 e2 e3 e4 e6 hy q1 q2 q3 hY1 hY2 hY3 hY4 hY5 hy2; omega
  have b4 : Y4 ≤ 134744072 := by clear l l2 e1 e2 e3 e5 e6 hy q1 q2 q3 hY1 hY2 hY3 hY4 hY5 hy2; omega
  have b3 : Y3 ≤ 34494482440 := by clear l l2 e1 e2 e4 e5 e6 hy q1 q2 q3 hY1 hY2 hY3 hY4 hY5 hy2; omega
  have b2 : Y2 ≤ 8830587504648 := by clear l l2 e1 e3 e4 e5 e6 hy q1 q2 q3 hY1 hY2 hY3 hY4 hY5 hy2; omega
  have b1 : Y1 ≤ 2260630401189896 := by clear l l2 e2 e3 e4 e5 e6 hy q1 q2 q3 hY1 hY2 hY3 hY4 hY5 hy2; omega
  have b0 : y ≤ 578721382704613384 := by clear l l2 e1 e2 e3 e4 e5 e6 q1 q2 q3 hY1 hY2 hY3 hY4 hY5 hy2; omega
  have m : ∀ a b c d e f : Nat, a % 128 = c % 128 → (a + b) % 128 = (c + b) % 128 := fun a b c d e f h => by omega
  unfold sum
  simp only
  rw [q1, q2, q3]
  refine ⟨?_, by omega, by omega, by omega⟩
  have r0 : y % 128 = g0 % 128 := by clear l l2 e1 e2 e3 e4 e5 e6 q1 q2 q3 hY1 hY2 hY3 hY4 hY5 hy2; omega
  have r1 : Y1 % 128 = g1 % 128 := by clear l l2 e2 e3 e4 e5 e6 q1 q2 q3 hY1 hY2 hY3 hY4 hY5 hy2 hy; omega
  have r2 : Y2 % 128 = g2 % 128 := by clear l l2 e1 e3 e4 e5 e6 q1 q2 q3 hY1 hY2 hY3 hY4 hY5 hy2 hy; omega
  have r3 : Y3 % 128 = g3 % 128 := by clear l l2 e1 e2 e4 e5 e6 q1 q2 q3 hY1 hY2 hY3 hY4 hY5 hy2 hy; omega
  have r4 : Y4 % 128 = g4 % 128 := by clear l l2 e1 e2 e3 e5 e6 q1 q2 q3 hY1 hY2 hY3 hY4 hY5 hy2 hy; omega
  have r5 : Y5 % 128 = g5 % 128 := by clear l l2 e1 e2 e3 e4 e6 q1 q2 q3 hY1 hY2 hY3 hY4 hY5 hy2 hy; omega
  have r6 : Y6 % 128 = g6 % 128 := by clear l l2 e1 e2 e3 e4 e5 q1 q2 q3 hY1 hY2 hY3 hY4 hY5 hy2 hy; omega
  clear l l2 e1 e2 e3 e4 e5 e6 q1 q2 q3 hY1 hY2 hY3 hY4 hY5 hy2 hy b0 b1 b2 b3 b4 b5 b6
  omega
def ones (x : Nat) : Nat := sum (y3 8 x)
theorem ones_sum {x : Nat} (hx : x < 2 ^ 64) : ∃ y, y3 8 x = y ∧ ones x ≤ 64 ∧ (ones x = 0 → x = 0) ∧ y + y / 256 < 2 ^ 64 ∧ (y + y / 256) + (y + y / 256) / 65536 < 2 ^ 64 ∧
      ((y + y / 256) + (y + y / 256) / 65536) + ((y + y / 256) + (y + y / 256) / 65536) / 4294967296 < 2 ^ 64 := by
  refine ⟨_, rfl, ?_⟩
  unfold ones
  have hy := step 7 x
  rw [step 6, step 5, step 4, step 3, step 2, step 1, step 0, y30] at hy
  obtain ⟨h1, h2, h3, h4⟩ := sum_is (g_le x) (g_le _) (g_le _) (g_le _) (g_le _) (g_le _) (g_le _) (g_le _) (by simpa using hy)
  refine ⟨?_, fun h => ?_, h2, h3, h4⟩
  · rw [h1]
    have := g_le x; have := g_le (x / 256); have := g_le (x / 256 / 256); have := g_le (x / 256 / 256 / 256); have := g_le (x / 256 / 256 / 256 / 256)
    have := g_le (x / 256 / 256 / 256 / 256 / 256); have := g_le (x / 256 / 256 / 256 / 256 / 256 / 256); have := g_le (x / 256 / 256 / 256 / 256 / 256 / 256 / 256)
    omega
  · rw [h1] at h
    clear hy h1 h2 h3 h4
    have z : ∀ x : Nat, g (x % 256) = 0 → x / 256 = 0 → x = 0 := fun x h1 h2 => by have := g_0 x h1; omega
    refine z x (by omega) (z _ (by omega) (z _ (by omega) (z _ (by omega) (z _ (by omega) (z _ (by omega) (z _ (by omega) (z _ (by omega) ?_)))))))
    rw [Nat.div_div_eq_div_mul, Nat.div_div_eq_div_mul, Nat.div_div_eq_div_mul, Nat.div_div_eq_div_mul, Nat.div_div_eq_div_mul, Nat.div_div_eq_div_mul, Nat.div_div_eq_div_mul]
    exact Nat.div_eq_of_lt hx
theorem ones_0 : ones 0 = 0 := by decide +kernel
end Go.Ab.On
