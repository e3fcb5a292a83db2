/- Plain law: the numbers that the draws hand out do not stay divisible by 3. No program in sight. -/
import Derived.IntWalk
set_option linter.unusedVariables false
set_option linter.unusedSimpArgs false
namespace Go.Proofs.YtbjcbbnfgfmllaaGreatDoor.Pl
/-- Two steps of the source, not reduced. -/
def lA : Int := 6364136223846793005 * 6364136223846793005
def lC : Int := 1442695040888963407 * 6364136223846793005 + 1442695040888963407
def lU : Nat → Int → Int
  | 0, z => z
  | n + 1, z => lA * lU n z + lC
theorem lU_add (m z) : ∀ n, lU (n + m) z = lU n (lU m z)
  | 0 => by simp [lU]
  | n + 1 => by rw [show n + 1 + m = (n + m) + 1 by omega, lU, lU_add m z n]; rfl
theorem lU_diff (x y : Int) : ∀ n : Nat, lU n x - lU n y = lA ^ n * (x - y)
  | 0 => by simp [lU]
  | n + 1 => by
    rw [lU, lU, show lA * lU n x + lC - (lA * lU n y + lC) = lA * (lU n x - lU n y) by grind, lU_diff x y n, Int.pow_succ]
    grind
/-- A to the 2^j. -/
theorem lA_pow (j : Nat) : ∃ t : Int, lA ^ (2 ^ j) = 1 + 2 ^ (j + 3) * (1 + 2 * t) := by
  induction j with
  | zero =>
    refine ⟨2531389367229932362670256163957308126, ?_⟩
    decide +kernel
  | succ j ih =>
    obtain ⟨t, ht⟩ := ih
    refine ⟨t + 2 ^ (j + 1) * (1 + 2 * t) * (1 + 2 * t), ?_⟩
    rw [show 2 ^ (j + 1) = 2 ^ j * 2 from Nat.pow_succ .., Int.pow_mul, ht]
    have e1 : (2 : Int) ^ (j + 1 + 3) = 2 * 2 ^ (j + 3) := by rw [show j + 1 + 3 = (j + 3) + 1 by omega, Int.pow_succ]; grind
    have e2 : (2 : Int) ^ (j + 3) = 4 * 2 ^ (j + 1) := by rw [show j + 3 = (j + 1) + 1 + 1 by omega, Int.pow_succ, Int.pow_succ]; grind
    rw [e1, e2]
    generalize (2 : Int) ^ (j + 1) = X
    rw [show (1 + 4 * X * (1 + 2 * t)) ^ 2 = (1 + 4 * X * (1 + 2 * t)) * (1 + 4 * X * (1 + 2 * t)) by rw [Int.pow_succ, Int.pow_succ, Int.pow_zero]; grind]
    grind
/-- The shift of 2^j steps. -/
theorem lB_pow (j : Nat) : ∃ t : Int, lU (2 ^ j) 0 = 2 ^ (j + 1) * (1 + 2 * t) := by
  induction j with
  | zero =>
    refine ⟨2295376942421395552456462499159382860, ?_⟩
    decide +kernel
  | succ j ih =>
    obtain ⟨t, ht⟩ := ih
    obtain ⟨s, hs⟩ := lA_pow j
    have h : lU (2 ^ (j + 1)) 0 = lA ^ (2 ^ j) * lU (2 ^ j) 0 + lU (2 ^ j) 0 := by
      rw [show 2 ^ (j + 1) = 2 ^ j + 2 ^ j by rw [Nat.pow_succ]; omega, lU_add]
      have := lU_diff (lU (2 ^ j) 0) 0 (2 ^ j)
      rw [show lU (2 ^ j) 0 - 0 = lU (2 ^ j) 0 by omega] at this
      omega
    rw [h, ht, hs]
    have e1 : (2 : Int) ^ (j + 1 + 1) = 2 * 2 ^ (j + 1) := by rw [Int.pow_succ]; grind
    have e2 : (2 : Int) ^ (j + 3) = 4 * 2 ^ (j + 1) := by rw [show j + 3 = (j + 1) + 1 + 1 by omega, Int.pow_succ, Int.pow_succ]; grind
    rw [e1, e2]
    generalize (2 : Int) ^ (j + 1) = X
    refine ⟨t + X * (1 + 2 * s) * (1 + 2 * t), ?_⟩
    grind
/-- Behind 2^32 steps the number has moved by an odd multiple of 2^33. -/
theorem lU_move (N : Nat) (hN : N = 2 ^ 32) (z : Int) : ∃ d : Int, lU N z = z + 8589934592 * d ∧ d % 2 = 1 ∧ ∀ y : Int, ∃ u : Int, lU N (z + 8589934592 * y) = z + 8589934592 * y + 8589934592 * d + 144115188075855872 * u := by
  obtain ⟨t, ht⟩ := lA_pow 32
  obtain ⟨s, hs⟩ := lB_pow 32
  rw [← hN] at ht hs
  have e1 : (2 : Int) ^ (32 + 3) = 34359738368 := by decide
  have e2 : (2 : Int) ^ (32 + 1) = 8589934592 := by decide
  rw [e1] at ht
  rw [e2] at hs
  have h : ∀ x : Int, lU N x = lA ^ N * x + lU N 0 := fun x => by
    have := lU_diff x 0 N
    rw [show x - 0 = x by omega] at this
    omega
  refine ⟨4 * (1 + 2 * t) * z + (1 + 2 * s), ?_, ?_, fun y => ⟨2048 * (1 + 2 * t) * y, ?_⟩⟩
  · rw [h, ht, hs]; grind
  · have : 4 * (1 + 2 * t) * z + (1 + 2 * s) = 2 * (2 * (1 + 2 * t) * z + s) + 1 := by grind
    omega
  · rw [h, ht, hs]; grind
/-- s times so many steps. -/
theorem lU_walk (N : Nat) (hN : N = 2 ^ 32) (z d : Int) (h : ∀ y : Int, ∃ u : Int, lU N (z + 8589934592 * y) = z + 8589934592 * y + 8589934592 * d + 144115188075855872 * u) :
    ∀ s : Nat, ∃ u : Int, lU (s * N) z = z + 8589934592 * (s * d) + 144115188075855872 * u
  | 0 => ⟨0, by simp [lU]⟩
  | s + 1 => by
    obtain ⟨u, hu⟩ := lU_walk N hN z d h s
    obtain ⟨v, hv⟩ := h (s * d + 16777216 * u)
    refine ⟨u + v, ?_⟩
    rw [show (s + 1) * N = N + s * N by rw [Nat.succ_mul]; omega, lU_add, hu]
    rw [show z + 8589934592 * ((s : Int) * d) + 144115188075855872 * u = z + 8589934592 * ((s : Int) * d + 16777216 * u) by grind, hv]
    push_cast
    grind
/-- A power of A leads from an odd number to any with the same rest by 8. -/
theorem lA_reach (d g : Int) (hg : g % 2 = 1) (h8 : (d - g) % 8 = 0) : ∀ m : Nat, ∃ q : Nat, q < 2 ^ m ∧ (lA ^ q * d - g) % 2 ^ (m + 3) = 0 := by
  intro m
  induction m with
  | zero => exact ⟨0, by omega, by simpa using h8⟩
  | succ m ih =>
    obtain ⟨q, hq, h⟩ := ih
    obtain ⟨k, hk⟩ := Int.dvd_of_emod_eq_zero h
    have e1 : (2 : Int) ^ (m + 1 + 3) = 2 * 2 ^ (m + 3) := by rw [show m + 1 + 3 = (m + 3) + 1 by omega, Int.pow_succ]; grind
    by_cases hk2 : k % 2 = 0
    · refine ⟨q, by rw [Nat.pow_succ]; omega, ?_⟩
      rw [hk, e1, show k = 2 * (k / 2) by omega]
      apply Int.emod_eq_zero_of_dvd
      exact ⟨k / 2, by grind⟩
    · obtain ⟨t, ht⟩ := lA_pow m
      refine ⟨q + 2 ^ m, by rw [Nat.pow_succ]; omega, ?_⟩
      rw [Int.pow_add, ht, e1]
      have hd : lA ^ q * d = g + 2 ^ (m + 3) * k := by omega
      obtain ⟨g', hg'⟩ : ∃ g', g = 2 * g' + 1 := ⟨g / 2, by omega⟩
      obtain ⟨k', hk'⟩ : ∃ k', k = 2 * k' + 1 := ⟨k / 2, by omega⟩
      have e2 : (2 : Int) ^ (m + 3) = 2 * 2 ^ (m + 2) := by rw [show m + 3 = (m + 2) + 1 by omega, Int.pow_succ]; grind
      rw [show lA ^ q * (1 + 2 ^ (m + 3) * (1 + 2 * t)) * d = (lA ^ q * d) * (1 + 2 ^ (m + 3) * (1 + 2 * t)) by grind, hd]
      apply Int.emod_eq_zero_of_dvd
      generalize (2 : Int) ^ (m + 2) = X at e2
      rw [e2, hk', hg']
      refine ⟨k' + g' + 1 + (2 * g' + 1) * t + X * (2 * k' + 1) * (1 + 2 * t), ?_⟩
      grind
/-- What is handed out of a number. -/
def lout (h : Int) : Int := h / 8589934592 % 16777216
def free3 (x : Int) : Prop := x % 3 ≠ 0
def lW (y c : Int) : Int := if y + c < 16777216 then y + c else y + c - 16777216
theorem wrapM (x c : Int) (h0 : 0 ≤ c) (h1 : c < 16777216) : (x + c) % 16777216 = lW (x % 16777216) c := by unfold lW; split <;> omega
theorem bdM (x : Int) : 0 ≤ x % 16777216 ∧ x % 16777216 < 16777216 := ⟨Int.emod_nonneg _ (by omega), Int.emod_lt_of_pos _ (by omega)⟩
theorem cM (x a b : Int) (h : a % 16777216 = b % 16777216) : (x + a) % 16777216 = (x + b) % 16777216 := by omega
theorem tri_17_012 {y : Int} (h0 : 0 ≤ y) (h9 : y < 16777216) (h1 : lW y 0 % 3 = 0) (h2 : lW y 17 % 3 = 0) (h3 : lW y 34 % 3 = 0) : False := by
  unfold lW at h1 h2 h3
  split at h1 <;> split at h2 <;> split at h3 <;> omega
theorem tri_17_013 {y : Int} (h0 : 0 ≤ y) (h9 : y < 16777216) (h1 : lW y 0 % 3 = 0) (h2 : lW y 17 % 3 = 0) (h3 : lW y 51 % 3 = 0) : False := by
  unfold lW at h1 h2 h3
  split at h1 <;> split at h2 <;> split at h3 <;> omega
theorem tri_17_014 {y : Int} (h0 : 0 ≤ y) (h9 : y < 16777216) (h1 : lW y 0 % 3 = 0) (h2 : lW y 17 % 3 = 0) (h3 : lW y 68 % 3 = 0) : False := by
  unfold lW at h1 h2 h3
  split at h1 <;> split at h2 <;> split at h3 <;> omega
theorem tri_17_023 {y : Int} (h0 : 0 ≤ y) (h9 : y < 16777216) (h1 : lW y 0 % 3 = 0) (h2 : lW y 34 % 3 = 0) (h3 : lW y 51 % 3 = 0) : False := by
  unfold lW at h1 h2 h3
  split at h1 <;> split at h2 <;> split at h3 <;> omega
theorem tri_17_024 {y : Int} (h0 : 0 ≤ y) (h9 : y < 16777216) (h1 : lW y 0 % 3 = 0) (h2 : lW y 34 % 3 = 0) (h3 : lW y 68 % 3 = 0) : False := by
  unfold lW at h1 h2 h3
  split at h1 <;> split at h2 <;> split at h3 <;> omega
theorem tri_17_034 {y : Int} (h0 : 0 ≤ y) (h9 : y < 16777216) (h1 : lW y 0 % 3 = 0) (h2 : lW y 51 % 3 = 0) (h3 : lW y 68 % 3 = 0) : False := by
  unfold lW at h1 h2 h3
  split at h1 <;> split at h2 <;> split at h3 <;> omega
theorem tri_17_123 {y : Int} (h0 : 0 ≤ y) (h9 : y < 16777216) (h1 : lW y 17 % 3 = 0) (h2 : lW y 34 % 3 = 0) (h3 : lW y 51 % 3 = 0) : False := by
  unfold lW at h1 h2 h3
  split at h1 <;> split at h2 <;> split at h3 <;> omega
theorem tri_17_124 {y : Int} (h0 : 0 ≤ y) (h9 : y < 16777216) (h1 : lW y 17 % 3 = 0) (h2 : lW y 34 % 3 = 0) (h3 : lW y 68 % 3 = 0) : False := by
  unfold lW at h1 h2 h3
  split at h1 <;> split at h2 <;> split at h3 <;> omega
theorem tri_17_134 {y : Int} (h0 : 0 ≤ y) (h9 : y < 16777216) (h1 : lW y 17 % 3 = 0) (h2 : lW y 51 % 3 = 0) (h3 : lW y 68 % 3 = 0) : False := by
  unfold lW at h1 h2 h3
  split at h1 <;> split at h2 <;> split at h3 <;> omega
theorem tri_17_234 {y : Int} (h0 : 0 ≤ y) (h9 : y < 16777216) (h1 : lW y 34 % 3 = 0) (h2 : lW y 51 % 3 = 0) (h3 : lW y 68 % 3 = 0) : False := by
  unfold lW at h1 h2 h3
  split at h1 <;> split at h2 <;> split at h3 <;> omega
theorem tri_9079929_012 {y : Int} (h0 : 0 ≤ y) (h9 : y < 16777216) (h1 : lW y 0 % 3 = 0) (h2 : lW y 9079929 % 3 = 0) (h3 : lW y 1382642 % 3 = 0) : False := by
  unfold lW at h1 h2 h3
  split at h1 <;> split at h2 <;> split at h3 <;> omega
theorem tri_9079929_013 {y : Int} (h0 : 0 ≤ y) (h9 : y < 16777216) (h1 : lW y 0 % 3 = 0) (h2 : lW y 9079929 % 3 = 0) (h3 : lW y 10462571 % 3 = 0) : False := by
  unfold lW at h1 h2 h3
  split at h1 <;> split at h2 <;> split at h3 <;> omega
theorem tri_9079929_014 {y : Int} (h0 : 0 ≤ y) (h9 : y < 16777216) (h1 : lW y 0 % 3 = 0) (h2 : lW y 9079929 % 3 = 0) (h3 : lW y 2765284 % 3 = 0) : False := by
  unfold lW at h1 h2 h3
  split at h1 <;> split at h2 <;> split at h3 <;> omega
theorem tri_9079929_023 {y : Int} (h0 : 0 ≤ y) (h9 : y < 16777216) (h1 : lW y 0 % 3 = 0) (h2 : lW y 1382642 % 3 = 0) (h3 : lW y 10462571 % 3 = 0) : False := by
  unfold lW at h1 h2 h3
  split at h1 <;> split at h2 <;> split at h3 <;> omega
theorem tri_9079929_024 {y : Int} (h0 : 0 ≤ y) (h9 : y < 16777216) (h1 : lW y 0 % 3 = 0) (h2 : lW y 1382642 % 3 = 0) (h3 : lW y 2765284 % 3 = 0) : False := by
  unfold lW at h1 h2 h3
  split at h1 <;> split at h2 <;> split at h3 <;> omega
theorem tri_9079929_034 {y : Int} (h0 : 0 ≤ y) (h9 : y < 16777216) (h1 : lW y 0 % 3 = 0) (h2 : lW y 10462571 % 3 = 0) (h3 : lW y 2765284 % 3 = 0) : False := by
  unfold lW at h1 h2 h3
  split at h1 <;> split at h2 <;> split at h3 <;> omega
theorem tri_9079929_123 {y : Int} (h0 : 0 ≤ y) (h9 : y < 16777216) (h1 : lW y 9079929 % 3 = 0) (h2 : lW y 1382642 % 3 = 0) (h3 : lW y 10462571 % 3 = 0) : False := by
  unfold lW at h1 h2 h3
  split at h1 <;> split at h2 <;> split at h3 <;> omega
theorem tri_9079929_124 {y : Int} (h0 : 0 ≤ y) (h9 : y < 16777216) (h1 : lW y 9079929 % 3 = 0) (h2 : lW y 1382642 % 3 = 0) (h3 : lW y 2765284 % 3 = 0) : False := by
  unfold lW at h1 h2 h3
  split at h1 <;> split at h2 <;> split at h3 <;> omega
theorem tri_9079929_134 {y : Int} (h0 : 0 ≤ y) (h9 : y < 16777216) (h1 : lW y 9079929 % 3 = 0) (h2 : lW y 10462571 % 3 = 0) (h3 : lW y 2765284 % 3 = 0) : False := by
  unfold lW at h1 h2 h3
  split at h1 <;> split at h2 <;> split at h3 <;> omega
theorem tri_9079929_234 {y : Int} (h0 : 0 ≤ y) (h9 : y < 16777216) (h1 : lW y 1382642 % 3 = 0) (h2 : lW y 10462571 % 3 = 0) (h3 : lW y 2765284 % 3 = 0) : False := by
  unfold lW at h1 h2 h3
  split at h1 <;> split at h2 <;> split at h3 <;> omega
theorem tri_371_012 {y : Int} (h0 : 0 ≤ y) (h9 : y < 16777216) (h1 : lW y 0 % 3 = 0) (h2 : lW y 371 % 3 = 0) (h3 : lW y 742 % 3 = 0) : False := by
  unfold lW at h1 h2 h3
  split at h1 <;> split at h2 <;> split at h3 <;> omega
theorem tri_371_013 {y : Int} (h0 : 0 ≤ y) (h9 : y < 16777216) (h1 : lW y 0 % 3 = 0) (h2 : lW y 371 % 3 = 0) (h3 : lW y 1113 % 3 = 0) : False := by
  unfold lW at h1 h2 h3
  split at h1 <;> split at h2 <;> split at h3 <;> omega
theorem tri_371_014 {y : Int} (h0 : 0 ≤ y) (h9 : y < 16777216) (h1 : lW y 0 % 3 = 0) (h2 : lW y 371 % 3 = 0) (h3 : lW y 1484 % 3 = 0) : False := by
  unfold lW at h1 h2 h3
  split at h1 <;> split at h2 <;> split at h3 <;> omega
theorem tri_371_023 {y : Int} (h0 : 0 ≤ y) (h9 : y < 16777216) (h1 : lW y 0 % 3 = 0) (h2 : lW y 742 % 3 = 0) (h3 : lW y 1113 % 3 = 0) : False := by
  unfold lW at h1 h2 h3
  split at h1 <;> split at h2 <;> split at h3 <;> omega
theorem tri_371_024 {y : Int} (h0 : 0 ≤ y) (h9 : y < 16777216) (h1 : lW y 0 % 3 = 0) (h2 : lW y 742 % 3 = 0) (h3 : lW y 1484 % 3 = 0) : False := by
  unfold lW at h1 h2 h3
  split at h1 <;> split at h2 <;> split at h3 <;> omega
theorem tri_371_034 {y : Int} (h0 : 0 ≤ y) (h9 : y < 16777216) (h1 : lW y 0 % 3 = 0) (h2 : lW y 1113 % 3 = 0) (h3 : lW y 1484 % 3 = 0) : False := by
  unfold lW at h1 h2 h3
  split at h1 <;> split at h2 <;> split at h3 <;> omega
theorem tri_371_123 {y : Int} (h0 : 0 ≤ y) (h9 : y < 16777216) (h1 : lW y 371 % 3 = 0) (h2 : lW y 742 % 3 = 0) (h3 : lW y 1113 % 3 = 0) : False := by
  unfold lW at h1 h2 h3
  split at h1 <;> split at h2 <;> split at h3 <;> omega
theorem tri_371_124 {y : Int} (h0 : 0 ≤ y) (h9 : y < 16777216) (h1 : lW y 371 % 3 = 0) (h2 : lW y 742 % 3 = 0) (h3 : lW y 1484 % 3 = 0) : False := by
  unfold lW at h1 h2 h3
  split at h1 <;> split at h2 <;> split at h3 <;> omega
theorem tri_371_134 {y : Int} (h0 : 0 ≤ y) (h9 : y < 16777216) (h1 : lW y 371 % 3 = 0) (h2 : lW y 1113 % 3 = 0) (h3 : lW y 1484 % 3 = 0) : False := by
  unfold lW at h1 h2 h3
  split at h1 <;> split at h2 <;> split at h3 <;> omega
theorem tri_371_234 {y : Int} (h0 : 0 ≤ y) (h9 : y < 16777216) (h1 : lW y 742 % 3 = 0) (h2 : lW y 1113 % 3 = 0) (h3 : lW y 1484 % 3 = 0) : False := by
  unfold lW at h1 h2 h3
  split at h1 <;> split at h2 <;> split at h3 <;> omega
theorem tri_3737771_012 {y : Int} (h0 : 0 ≤ y) (h9 : y < 16777216) (h1 : lW y 0 % 3 = 0) (h2 : lW y 3737771 % 3 = 0) (h3 : lW y 7475542 % 3 = 0) : False := by
  unfold lW at h1 h2 h3
  split at h1 <;> split at h2 <;> split at h3 <;> omega
theorem tri_3737771_013 {y : Int} (h0 : 0 ≤ y) (h9 : y < 16777216) (h1 : lW y 0 % 3 = 0) (h2 : lW y 3737771 % 3 = 0) (h3 : lW y 11213313 % 3 = 0) : False := by
  unfold lW at h1 h2 h3
  split at h1 <;> split at h2 <;> split at h3 <;> omega
theorem tri_3737771_014 {y : Int} (h0 : 0 ≤ y) (h9 : y < 16777216) (h1 : lW y 0 % 3 = 0) (h2 : lW y 3737771 % 3 = 0) (h3 : lW y 14951084 % 3 = 0) : False := by
  unfold lW at h1 h2 h3
  split at h1 <;> split at h2 <;> split at h3 <;> omega
theorem tri_3737771_023 {y : Int} (h0 : 0 ≤ y) (h9 : y < 16777216) (h1 : lW y 0 % 3 = 0) (h2 : lW y 7475542 % 3 = 0) (h3 : lW y 11213313 % 3 = 0) : False := by
  unfold lW at h1 h2 h3
  split at h1 <;> split at h2 <;> split at h3 <;> omega
theorem tri_3737771_024 {y : Int} (h0 : 0 ≤ y) (h9 : y < 16777216) (h1 : lW y 0 % 3 = 0) (h2 : lW y 7475542 % 3 = 0) (h3 : lW y 14951084 % 3 = 0) : False := by
  unfold lW at h1 h2 h3
  split at h1 <;> split at h2 <;> split at h3 <;> omega
theorem tri_3737771_034 {y : Int} (h0 : 0 ≤ y) (h9 : y < 16777216) (h1 : lW y 0 % 3 = 0) (h2 : lW y 11213313 % 3 = 0) (h3 : lW y 14951084 % 3 = 0) : False := by
  unfold lW at h1 h2 h3
  split at h1 <;> split at h2 <;> split at h3 <;> omega
theorem tri_3737771_123 {y : Int} (h0 : 0 ≤ y) (h9 : y < 16777216) (h1 : lW y 3737771 % 3 = 0) (h2 : lW y 7475542 % 3 = 0) (h3 : lW y 11213313 % 3 = 0) : False := by
  unfold lW at h1 h2 h3
  split at h1 <;> split at h2 <;> split at h3 <;> omega
theorem tri_3737771_124 {y : Int} (h0 : 0 ≤ y) (h9 : y < 16777216) (h1 : lW y 3737771 % 3 = 0) (h2 : lW y 7475542 % 3 = 0) (h3 : lW y 14951084 % 3 = 0) : False := by
  unfold lW at h1 h2 h3
  split at h1 <;> split at h2 <;> split at h3 <;> omega
theorem tri_3737771_134 {y : Int} (h0 : 0 ≤ y) (h9 : y < 16777216) (h1 : lW y 3737771 % 3 = 0) (h2 : lW y 11213313 % 3 = 0) (h3 : lW y 14951084 % 3 = 0) : False := by
  unfold lW at h1 h2 h3
  split at h1 <;> split at h2 <;> split at h3 <;> omega
theorem tri_3737771_234 {y : Int} (h0 : 0 ≤ y) (h9 : y < 16777216) (h1 : lW y 7475542 % 3 = 0) (h2 : lW y 11213313 % 3 = 0) (h3 : lW y 14951084 % 3 = 0) : False := by
  unfold lW at h1 h2 h3
  split at h1 <;> split at h2 <;> split at h3 <;> omega
theorem tri_77_012 {y : Int} (h0 : 0 ≤ y) (h9 : y < 16777216) (h1 : lW y 0 % 3 = 0) (h2 : lW y 77 % 3 = 0) (h3 : lW y 154 % 3 = 0) : False := by
  unfold lW at h1 h2 h3
  split at h1 <;> split at h2 <;> split at h3 <;> omega
theorem tri_77_013 {y : Int} (h0 : 0 ≤ y) (h9 : y < 16777216) (h1 : lW y 0 % 3 = 0) (h2 : lW y 77 % 3 = 0) (h3 : lW y 231 % 3 = 0) : False := by
  unfold lW at h1 h2 h3
  split at h1 <;> split at h2 <;> split at h3 <;> omega
theorem tri_77_014 {y : Int} (h0 : 0 ≤ y) (h9 : y < 16777216) (h1 : lW y 0 % 3 = 0) (h2 : lW y 77 % 3 = 0) (h3 : lW y 308 % 3 = 0) : False := by
  unfold lW at h1 h2 h3
  split at h1 <;> split at h2 <;> split at h3 <;> omega
theorem tri_77_023 {y : Int} (h0 : 0 ≤ y) (h9 : y < 16777216) (h1 : lW y 0 % 3 = 0) (h2 : lW y 154 % 3 = 0) (h3 : lW y 231 % 3 = 0) : False := by
  unfold lW at h1 h2 h3
  split at h1 <;> split at h2 <;> split at h3 <;> omega
theorem tri_77_024 {y : Int} (h0 : 0 ≤ y) (h9 : y < 16777216) (h1 : lW y 0 % 3 = 0) (h2 : lW y 154 % 3 = 0) (h3 : lW y 308 % 3 = 0) : False := by
  unfold lW at h1 h2 h3
  split at h1 <;> split at h2 <;> split at h3 <;> omega
theorem tri_77_034 {y : Int} (h0 : 0 ≤ y) (h9 : y < 16777216) (h1 : lW y 0 % 3 = 0) (h2 : lW y 231 % 3 = 0) (h3 : lW y 308 % 3 = 0) : False := by
  unfold lW at h1 h2 h3
  split at h1 <;> split at h2 <;> split at h3 <;> omega
theorem tri_77_123 {y : Int} (h0 : 0 ≤ y) (h9 : y < 16777216) (h1 : lW y 77 % 3 = 0) (h2 : lW y 154 % 3 = 0) (h3 : lW y 231 % 3 = 0) : False := by
  unfold lW at h1 h2 h3
  split at h1 <;> split at h2 <;> split at h3 <;> omega
theorem tri_77_124 {y : Int} (h0 : 0 ≤ y) (h9 : y < 16777216) (h1 : lW y 77 % 3 = 0) (h2 : lW y 154 % 3 = 0) (h3 : lW y 308 % 3 = 0) : False := by
  unfold lW at h1 h2 h3
  split at h1 <;> split at h2 <;> split at h3 <;> omega
theorem tri_77_134 {y : Int} (h0 : 0 ≤ y) (h9 : y < 16777216) (h1 : lW y 77 % 3 = 0) (h2 : lW y 231 % 3 = 0) (h3 : lW y 308 % 3 = 0) : False := by
  unfold lW at h1 h2 h3
  split at h1 <;> split at h2 <;> split at h3 <;> omega
theorem tri_77_234 {y : Int} (h0 : 0 ≤ y) (h9 : y < 16777216) (h1 : lW y 154 % 3 = 0) (h2 : lW y 231 % 3 = 0) (h3 : lW y 308 % 3 = 0) : False := by
  unfold lW at h1 h2 h3
  split at h1 <;> split at h2 <;> split at h3 <;> omega
theorem tri_3624725_012 {y : Int} (h0 : 0 ≤ y) (h9 : y < 16777216) (h1 : lW y 0 % 3 = 0) (h2 : lW y 3624725 % 3 = 0) (h3 : lW y 7249450 % 3 = 0) : False := by
  unfold lW at h1 h2 h3
  split at h1 <;> split at h2 <;> split at h3 <;> omega
theorem tri_3624725_013 {y : Int} (h0 : 0 ≤ y) (h9 : y < 16777216) (h1 : lW y 0 % 3 = 0) (h2 : lW y 3624725 % 3 = 0) (h3 : lW y 10874175 % 3 = 0) : False := by
  unfold lW at h1 h2 h3
  split at h1 <;> split at h2 <;> split at h3 <;> omega
theorem tri_3624725_014 {y : Int} (h0 : 0 ≤ y) (h9 : y < 16777216) (h1 : lW y 0 % 3 = 0) (h2 : lW y 3624725 % 3 = 0) (h3 : lW y 14498900 % 3 = 0) : False := by
  unfold lW at h1 h2 h3
  split at h1 <;> split at h2 <;> split at h3 <;> omega
theorem tri_3624725_023 {y : Int} (h0 : 0 ≤ y) (h9 : y < 16777216) (h1 : lW y 0 % 3 = 0) (h2 : lW y 7249450 % 3 = 0) (h3 : lW y 10874175 % 3 = 0) : False := by
  unfold lW at h1 h2 h3
  split at h1 <;> split at h2 <;> split at h3 <;> omega
theorem tri_3624725_024 {y : Int} (h0 : 0 ≤ y) (h9 : y < 16777216) (h1 : lW y 0 % 3 = 0) (h2 : lW y 7249450 % 3 = 0) (h3 : lW y 14498900 % 3 = 0) : False := by
  unfold lW at h1 h2 h3
  split at h1 <;> split at h2 <;> split at h3 <;> omega
theorem tri_3624725_034 {y : Int} (h0 : 0 ≤ y) (h9 : y < 16777216) (h1 : lW y 0 % 3 = 0) (h2 : lW y 10874175 % 3 = 0) (h3 : lW y 14498900 % 3 = 0) : False := by
  unfold lW at h1 h2 h3
  split at h1 <;> split at h2 <;> split at h3 <;> omega
theorem tri_3624725_123 {y : Int} (h0 : 0 ≤ y) (h9 : y < 16777216) (h1 : lW y 3624725 % 3 = 0) (h2 : lW y 7249450 % 3 = 0) (h3 : lW y 10874175 % 3 = 0) : False := by
  unfold lW at h1 h2 h3
  split at h1 <;> split at h2 <;> split at h3 <;> omega
theorem tri_3624725_124 {y : Int} (h0 : 0 ≤ y) (h9 : y < 16777216) (h1 : lW y 3624725 % 3 = 0) (h2 : lW y 7249450 % 3 = 0) (h3 : lW y 14498900 % 3 = 0) : False := by
  unfold lW at h1 h2 h3
  split at h1 <;> split at h2 <;> split at h3 <;> omega
theorem tri_3624725_134 {y : Int} (h0 : 0 ≤ y) (h9 : y < 16777216) (h1 : lW y 3624725 % 3 = 0) (h2 : lW y 10874175 % 3 = 0) (h3 : lW y 14498900 % 3 = 0) : False := by
  unfold lW at h1 h2 h3
  split at h1 <;> split at h2 <;> split at h3 <;> omega
theorem tri_3624725_234 {y : Int} (h0 : 0 ≤ y) (h9 : y < 16777216) (h1 : lW y 7249450 % 3 = 0) (h2 : lW y 10874175 % 3 = 0) (h3 : lW y 14498900 % 3 = 0) : False := by
  unfold lW at h1 h2 h3
  split at h1 <;> split at h2 <;> split at h3 <;> omega
theorem tri_47_012 {y : Int} (h0 : 0 ≤ y) (h9 : y < 16777216) (h1 : lW y 0 % 3 = 0) (h2 : lW y 47 % 3 = 0) (h3 : lW y 94 % 3 = 0) : False := by
  unfold lW at h1 h2 h3
  split at h1 <;> split at h2 <;> split at h3 <;> omega
theorem tri_47_013 {y : Int} (h0 : 0 ≤ y) (h9 : y < 16777216) (h1 : lW y 0 % 3 = 0) (h2 : lW y 47 % 3 = 0) (h3 : lW y 141 % 3 = 0) : False := by
  unfold lW at h1 h2 h3
  split at h1 <;> split at h2 <;> split at h3 <;> omega
theorem tri_47_014 {y : Int} (h0 : 0 ≤ y) (h9 : y < 16777216) (h1 : lW y 0 % 3 = 0) (h2 : lW y 47 % 3 = 0) (h3 : lW y 188 % 3 = 0) : False := by
  unfold lW at h1 h2 h3
  split at h1 <;> split at h2 <;> split at h3 <;> omega
theorem tri_47_023 {y : Int} (h0 : 0 ≤ y) (h9 : y < 16777216) (h1 : lW y 0 % 3 = 0) (h2 : lW y 94 % 3 = 0) (h3 : lW y 141 % 3 = 0) : False := by
  unfold lW at h1 h2 h3
  split at h1 <;> split at h2 <;> split at h3 <;> omega
theorem tri_47_024 {y : Int} (h0 : 0 ≤ y) (h9 : y < 16777216) (h1 : lW y 0 % 3 = 0) (h2 : lW y 94 % 3 = 0) (h3 : lW y 188 % 3 = 0) : False := by
  unfold lW at h1 h2 h3
  split at h1 <;> split at h2 <;> split at h3 <;> omega
theorem tri_47_034 {y : Int} (h0 : 0 ≤ y) (h9 : y < 16777216) (h1 : lW y 0 % 3 = 0) (h2 : lW y 141 % 3 = 0) (h3 : lW y 188 % 3 = 0) : False := by
  unfold lW at h1 h2 h3
  split at h1 <;> split at h2 <;> split at h3 <;> omega
theorem tri_47_123 {y : Int} (h0 : 0 ≤ y) (h9 : y < 16777216) (h1 : lW y 47 % 3 = 0) (h2 : lW y 94 % 3 = 0) (h3 : lW y 141 % 3 = 0) : False := by
  unfold lW at h1 h2 h3
  split at h1 <;> split at h2 <;> split at h3 <;> omega
theorem tri_47_124 {y : Int} (h0 : 0 ≤ y) (h9 : y < 16777216) (h1 : lW y 47 % 3 = 0) (h2 : lW y 94 % 3 = 0) (h3 : lW y 188 % 3 = 0) : False := by
  unfold lW at h1 h2 h3
  split at h1 <;> split at h2 <;> split at h3 <;> omega
theorem tri_47_134 {y : Int} (h0 : 0 ≤ y) (h9 : y < 16777216) (h1 : lW y 47 % 3 = 0) (h2 : lW y 141 % 3 = 0) (h3 : lW y 188 % 3 = 0) : False := by
  unfold lW at h1 h2 h3
  split at h1 <;> split at h2 <;> split at h3 <;> omega
theorem tri_47_234 {y : Int} (h0 : 0 ≤ y) (h9 : y < 16777216) (h1 : lW y 94 % 3 = 0) (h2 : lW y 141 % 3 = 0) (h3 : lW y 188 % 3 = 0) : False := by
  unfold lW at h1 h2 h3
  split at h1 <;> split at h2 <;> split at h3 <;> omega
theorem tri_6352327_012 {y : Int} (h0 : 0 ≤ y) (h9 : y < 16777216) (h1 : lW y 0 % 3 = 0) (h2 : lW y 6352327 % 3 = 0) (h3 : lW y 12704654 % 3 = 0) : False := by
  unfold lW at h1 h2 h3
  split at h1 <;> split at h2 <;> split at h3 <;> omega
theorem tri_6352327_013 {y : Int} (h0 : 0 ≤ y) (h9 : y < 16777216) (h1 : lW y 0 % 3 = 0) (h2 : lW y 6352327 % 3 = 0) (h3 : lW y 2279765 % 3 = 0) : False := by
  unfold lW at h1 h2 h3
  split at h1 <;> split at h2 <;> split at h3 <;> omega
theorem tri_6352327_014 {y : Int} (h0 : 0 ≤ y) (h9 : y < 16777216) (h1 : lW y 0 % 3 = 0) (h2 : lW y 6352327 % 3 = 0) (h3 : lW y 8632092 % 3 = 0) : False := by
  unfold lW at h1 h2 h3
  split at h1 <;> split at h2 <;> split at h3 <;> omega
theorem tri_6352327_023 {y : Int} (h0 : 0 ≤ y) (h9 : y < 16777216) (h1 : lW y 0 % 3 = 0) (h2 : lW y 12704654 % 3 = 0) (h3 : lW y 2279765 % 3 = 0) : False := by
  unfold lW at h1 h2 h3
  split at h1 <;> split at h2 <;> split at h3 <;> omega
theorem tri_6352327_024 {y : Int} (h0 : 0 ≤ y) (h9 : y < 16777216) (h1 : lW y 0 % 3 = 0) (h2 : lW y 12704654 % 3 = 0) (h3 : lW y 8632092 % 3 = 0) : False := by
  unfold lW at h1 h2 h3
  split at h1 <;> split at h2 <;> split at h3 <;> omega
theorem tri_6352327_034 {y : Int} (h0 : 0 ≤ y) (h9 : y < 16777216) (h1 : lW y 0 % 3 = 0) (h2 : lW y 2279765 % 3 = 0) (h3 : lW y 8632092 % 3 = 0) : False := by
  unfold lW at h1 h2 h3
  split at h1 <;> split at h2 <;> split at h3 <;> omega
theorem tri_6352327_123 {y : Int} (h0 : 0 ≤ y) (h9 : y < 16777216) (h1 : lW y 6352327 % 3 = 0) (h2 : lW y 12704654 % 3 = 0) (h3 : lW y 2279765 % 3 = 0) : False := by
  unfold lW at h1 h2 h3
  split at h1 <;> split at h2 <;> split at h3 <;> omega
theorem tri_6352327_124 {y : Int} (h0 : 0 ≤ y) (h9 : y < 16777216) (h1 : lW y 6352327 % 3 = 0) (h2 : lW y 12704654 % 3 = 0) (h3 : lW y 8632092 % 3 = 0) : False := by
  unfold lW at h1 h2 h3
  split at h1 <;> split at h2 <;> split at h3 <;> omega
theorem tri_6352327_134 {y : Int} (h0 : 0 ≤ y) (h9 : y < 16777216) (h1 : lW y 6352327 % 3 = 0) (h2 : lW y 2279765 % 3 = 0) (h3 : lW y 8632092 % 3 = 0) : False := by
  unfold lW at h1 h2 h3
  split at h1 <;> split at h2 <;> split at h3 <;> omega
theorem tri_6352327_234 {y : Int} (h0 : 0 ≤ y) (h9 : y < 16777216) (h1 : lW y 12704654 % 3 = 0) (h2 : lW y 2279765 % 3 = 0) (h3 : lW y 8632092 % 3 = 0) : False := by
  unfold lW at h1 h2 h3
  split at h1 <;> split at h2 <;> split at h3 <;> omega
theorem pair_17 (x y : Int) : ∃ s : Nat, s ≤ 4 ∧ free3 ((x + s * 17) % 16777216) ∧ free3 ((y + s * 9079929) % 16777216) := by
  refine Classical.byContradiction fun hno => ?_
  have k0 : lW (x % 16777216) 0 % 3 = 0 ∨ lW (y % 16777216) 0 % 3 = 0 := by
    refine Classical.byContradiction fun h => hno ⟨0, by omega, ?_, ?_⟩
    · unfold free3; rw [cM x _ 0 (by decide), wrapM _ _ (by omega) (by omega)]; exact fun e => h (.inl e)
    · unfold free3; rw [cM y _ 0 (by decide), wrapM _ _ (by omega) (by omega)]; exact fun e => h (.inr e)
  have k1 : lW (x % 16777216) 17 % 3 = 0 ∨ lW (y % 16777216) 9079929 % 3 = 0 := by
    refine Classical.byContradiction fun h => hno ⟨1, by omega, ?_, ?_⟩
    · unfold free3; rw [cM x _ 17 (by decide), wrapM _ _ (by omega) (by omega)]; exact fun e => h (.inl e)
    · unfold free3; rw [cM y _ 9079929 (by decide), wrapM _ _ (by omega) (by omega)]; exact fun e => h (.inr e)
  have k2 : lW (x % 16777216) 34 % 3 = 0 ∨ lW (y % 16777216) 1382642 % 3 = 0 := by
    refine Classical.byContradiction fun h => hno ⟨2, by omega, ?_, ?_⟩
    · unfold free3; rw [cM x _ 34 (by decide), wrapM _ _ (by omega) (by omega)]; exact fun e => h (.inl e)
    · unfold free3; rw [cM y _ 1382642 (by decide), wrapM _ _ (by omega) (by omega)]; exact fun e => h (.inr e)
  have k3 : lW (x % 16777216) 51 % 3 = 0 ∨ lW (y % 16777216) 10462571 % 3 = 0 := by
    refine Classical.byContradiction fun h => hno ⟨3, by omega, ?_, ?_⟩
    · unfold free3; rw [cM x _ 51 (by decide), wrapM _ _ (by omega) (by omega)]; exact fun e => h (.inl e)
    · unfold free3; rw [cM y _ 10462571 (by decide), wrapM _ _ (by omega) (by omega)]; exact fun e => h (.inr e)
  have k4 : lW (x % 16777216) 68 % 3 = 0 ∨ lW (y % 16777216) 2765284 % 3 = 0 := by
    refine Classical.byContradiction fun h => hno ⟨4, by omega, ?_, ?_⟩
    · unfold free3; rw [cM x _ 68 (by decide), wrapM _ _ (by omega) (by omega)]; exact fun e => h (.inl e)
    · unfold free3; rw [cM y _ 2765284 (by decide), wrapM _ _ (by omega) (by omega)]; exact fun e => h (.inr e)
  obtain ⟨x0, x1⟩ := bdM x
  obtain ⟨y0, y1⟩ := bdM y
  rcases k0 with k0 | k0 <;> rcases k1 with k1 | k1 <;> rcases k2 with k2 | k2 <;> rcases k3 with k3 | k3 <;> rcases k4 with k4 | k4
  · exact tri_17_012 x0 x1 k0 k1 k2
  · exact tri_17_012 x0 x1 k0 k1 k2
  · exact tri_17_012 x0 x1 k0 k1 k2
  · exact tri_17_012 x0 x1 k0 k1 k2
  · exact tri_17_013 x0 x1 k0 k1 k3
  · exact tri_17_013 x0 x1 k0 k1 k3
  · exact tri_17_014 x0 x1 k0 k1 k4
  · exact tri_9079929_234 y0 y1 k2 k3 k4
  · exact tri_17_023 x0 x1 k0 k2 k3
  · exact tri_17_023 x0 x1 k0 k2 k3
  · exact tri_17_024 x0 x1 k0 k2 k4
  · exact tri_9079929_134 y0 y1 k1 k3 k4
  · exact tri_17_034 x0 x1 k0 k3 k4
  · exact tri_9079929_124 y0 y1 k1 k2 k4
  · exact tri_9079929_123 y0 y1 k1 k2 k3
  · exact tri_9079929_123 y0 y1 k1 k2 k3
  · exact tri_17_123 x0 x1 k1 k2 k3
  · exact tri_17_123 x0 x1 k1 k2 k3
  · exact tri_17_124 x0 x1 k1 k2 k4
  · exact tri_9079929_034 y0 y1 k0 k3 k4
  · exact tri_17_134 x0 x1 k1 k3 k4
  · exact tri_9079929_024 y0 y1 k0 k2 k4
  · exact tri_9079929_023 y0 y1 k0 k2 k3
  · exact tri_9079929_023 y0 y1 k0 k2 k3
  · exact tri_17_234 x0 x1 k2 k3 k4
  · exact tri_9079929_014 y0 y1 k0 k1 k4
  · exact tri_9079929_013 y0 y1 k0 k1 k3
  · exact tri_9079929_013 y0 y1 k0 k1 k3
  · exact tri_9079929_012 y0 y1 k0 k1 k2
  · exact tri_9079929_012 y0 y1 k0 k1 k2
  · exact tri_9079929_012 y0 y1 k0 k1 k2
  · exact tri_9079929_012 y0 y1 k0 k1 k2
theorem pair_371 (x y : Int) : ∃ s : Nat, s ≤ 4 ∧ free3 ((x + s * 371) % 16777216) ∧ free3 ((y + s * 3737771) % 16777216) := by
  refine Classical.byContradiction fun hno => ?_
  have k0 : lW (x % 16777216) 0 % 3 = 0 ∨ lW (y % 16777216) 0 % 3 = 0 := by
    refine Classical.byContradiction fun h => hno ⟨0, by omega, ?_, ?_⟩
    · unfold free3; rw [cM x _ 0 (by decide), wrapM _ _ (by omega) (by omega)]; exact fun e => h (.inl e)
    · unfold free3; rw [cM y _ 0 (by decide), wrapM _ _ (by omega) (by omega)]; exact fun e => h (.inr e)
  have k1 : lW (x % 16777216) 371 % 3 = 0 ∨ lW (y % 16777216) 3737771 % 3 = 0 := by
    refine Classical.byContradiction fun h => hno ⟨1, by omega, ?_, ?_⟩
    · unfold free3; rw [cM x _ 371 (by decide), wrapM _ _ (by omega) (by omega)]; exact fun e => h (.inl e)
    · unfold free3; rw [cM y _ 3737771 (by decide), wrapM _ _ (by omega) (by omega)]; exact fun e => h (.inr e)
  have k2 : lW (x % 16777216) 742 % 3 = 0 ∨ lW (y % 16777216) 7475542 % 3 = 0 := by
    refine Classical.byContradiction fun h => hno ⟨2, by omega, ?_, ?_⟩
    · unfold free3; rw [cM x _ 742 (by decide), wrapM _ _ (by omega) (by omega)]; exact fun e => h (.inl e)
    · unfold free3; rw [cM y _ 7475542 (by decide), wrapM _ _ (by omega) (by omega)]; exact fun e => h (.inr e)
  have k3 : lW (x % 16777216) 1113 % 3 = 0 ∨ lW (y % 16777216) 11213313 % 3 = 0 := by
    refine Classical.byContradiction fun h => hno ⟨3, by omega, ?_, ?_⟩
    · unfold free3; rw [cM x _ 1113 (by decide), wrapM _ _ (by omega) (by omega)]; exact fun e => h (.inl e)
    · unfold free3; rw [cM y _ 11213313 (by decide), wrapM _ _ (by omega) (by omega)]; exact fun e => h (.inr e)
  have k4 : lW (x % 16777216) 1484 % 3 = 0 ∨ lW (y % 16777216) 14951084 % 3 = 0 := by
    refine Classical.byContradiction fun h => hno ⟨4, by omega, ?_, ?_⟩
    · unfold free3; rw [cM x _ 1484 (by decide), wrapM _ _ (by omega) (by omega)]; exact fun e => h (.inl e)
    · unfold free3; rw [cM y _ 14951084 (by decide), wrapM _ _ (by omega) (by omega)]; exact fun e => h (.inr e)
  obtain ⟨x0, x1⟩ := bdM x
  obtain ⟨y0, y1⟩ := bdM y
  rcases k0 with k0 | k0 <;> rcases k1 with k1 | k1 <;> rcases k2 with k2 | k2 <;> rcases k3 with k3 | k3 <;> rcases k4 with k4 | k4
  · exact tri_371_012 x0 x1 k0 k1 k2
  · exact tri_371_012 x0 x1 k0 k1 k2
  · exact tri_371_012 x0 x1 k0 k1 k2
  · exact tri_371_012 x0 x1 k0 k1 k2
  · exact tri_371_013 x0 x1 k0 k1 k3
  · exact tri_371_013 x0 x1 k0 k1 k3
  · exact tri_371_014 x0 x1 k0 k1 k4
  · exact tri_3737771_234 y0 y1 k2 k3 k4
  · exact tri_371_023 x0 x1 k0 k2 k3
  · exact tri_371_023 x0 x1 k0 k2 k3
  · exact tri_371_024 x0 x1 k0 k2 k4
  · exact tri_3737771_134 y0 y1 k1 k3 k4
  · exact tri_371_034 x0 x1 k0 k3 k4
  · exact tri_3737771_124 y0 y1 k1 k2 k4
  · exact tri_3737771_123 y0 y1 k1 k2 k3
  · exact tri_3737771_123 y0 y1 k1 k2 k3
  · exact tri_371_123 x0 x1 k1 k2 k3
  · exact tri_371_123 x0 x1 k1 k2 k3
  · exact tri_371_124 x0 x1 k1 k2 k4
  · exact tri_3737771_034 y0 y1 k0 k3 k4
  · exact tri_371_134 x0 x1 k1 k3 k4
  · exact tri_3737771_024 y0 y1 k0 k2 k4
  · exact tri_3737771_023 y0 y1 k0 k2 k3
  · exact tri_3737771_023 y0 y1 k0 k2 k3
  · exact tri_371_234 x0 x1 k2 k3 k4
  · exact tri_3737771_014 y0 y1 k0 k1 k4
  · exact tri_3737771_013 y0 y1 k0 k1 k3
  · exact tri_3737771_013 y0 y1 k0 k1 k3
  · exact tri_3737771_012 y0 y1 k0 k1 k2
  · exact tri_3737771_012 y0 y1 k0 k1 k2
  · exact tri_3737771_012 y0 y1 k0 k1 k2
  · exact tri_3737771_012 y0 y1 k0 k1 k2
theorem pair_77 (x y : Int) : ∃ s : Nat, s ≤ 4 ∧ free3 ((x + s * 77) % 16777216) ∧ free3 ((y + s * 3624725) % 16777216) := by
  refine Classical.byContradiction fun hno => ?_
  have k0 : lW (x % 16777216) 0 % 3 = 0 ∨ lW (y % 16777216) 0 % 3 = 0 := by
    refine Classical.byContradiction fun h => hno ⟨0, by omega, ?_, ?_⟩
    · unfold free3; rw [cM x _ 0 (by decide), wrapM _ _ (by omega) (by omega)]; exact fun e => h (.inl e)
    · unfold free3; rw [cM y _ 0 (by decide), wrapM _ _ (by omega) (by omega)]; exact fun e => h (.inr e)
  have k1 : lW (x % 16777216) 77 % 3 = 0 ∨ lW (y % 16777216) 3624725 % 3 = 0 := by
    refine Classical.byContradiction fun h => hno ⟨1, by omega, ?_, ?_⟩
    · unfold free3; rw [cM x _ 77 (by decide), wrapM _ _ (by omega) (by omega)]; exact fun e => h (.inl e)
    · unfold free3; rw [cM y _ 3624725 (by decide), wrapM _ _ (by omega) (by omega)]; exact fun e => h (.inr e)
  have k2 : lW (x % 16777216) 154 % 3 = 0 ∨ lW (y % 16777216) 7249450 % 3 = 0 := by
    refine Classical.byContradiction fun h => hno ⟨2, by omega, ?_, ?_⟩
    · unfold free3; rw [cM x _ 154 (by decide), wrapM _ _ (by omega) (by omega)]; exact fun e => h (.inl e)
    · unfold free3; rw [cM y _ 7249450 (by decide), wrapM _ _ (by omega) (by omega)]; exact fun e => h (.inr e)
  have k3 : lW (x % 16777216) 231 % 3 = 0 ∨ lW (y % 16777216) 10874175 % 3 = 0 := by
    refine Classical.byContradiction fun h => hno ⟨3, by omega, ?_, ?_⟩
    · unfold free3; rw [cM x _ 231 (by decide), wrapM _ _ (by omega) (by omega)]; exact fun e => h (.inl e)
    · unfold free3; rw [cM y _ 10874175 (by decide), wrapM _ _ (by omega) (by omega)]; exact fun e => h (.inr e)
  have k4 : lW (x % 16777216) 308 % 3 = 0 ∨ lW (y % 16777216) 14498900 % 3 = 0 := by
    refine Classical.byContradiction fun h => hno ⟨4, by omega, ?_, ?_⟩
    · unfold free3; rw [cM x _ 308 (by decide), wrapM _ _ (by omega) (by omega)]; exact fun e => h (.inl e)
    · unfold free3; rw [cM y _ 14498900 (by decide), wrapM _ _ (by omega) (by omega)]; exact fun e => h (.inr e)
  obtain ⟨x0, x1⟩ := bdM x
  obtain ⟨y0, y1⟩ := bdM y
  rcases k0 with k0 | k0 <;> rcases k1 with k1 | k1 <;> rcases k2 with k2 | k2 <;> rcases k3 with k3 | k3 <;> rcases k4 with k4 | k4
  · exact tri_77_012 x0 x1 k0 k1 k2
  · exact tri_77_012 x0 x1 k0 k1 k2
  · exact tri_77_012 x0 x1 k0 k1 k2
  · exact tri_77_012 x0 x1 k0 k1 k2
  · exact tri_77_013 x0 x1 k0 k1 k3
  · exact tri_77_013 x0 x1 k0 k1 k3
  · exact tri_77_014 x0 x1 k0 k1 k4
  · exact tri_3624725_234 y0 y1 k2 k3 k4
  · exact tri_77_023 x0 x1 k0 k2 k3
  · exact tri_77_023 x0 x1 k0 k2 k3
  · exact tri_77_024 x0 x1 k0 k2 k4
  · exact tri_3624725_134 y0 y1 k1 k3 k4
  · exact tri_77_034 x0 x1 k0 k3 k4
  · exact tri_3624725_124 y0 y1 k1 k2 k4
  · exact tri_3624725_123 y0 y1 k1 k2 k3
  · exact tri_3624725_123 y0 y1 k1 k2 k3
  · exact tri_77_123 x0 x1 k1 k2 k3
  · exact tri_77_123 x0 x1 k1 k2 k3
  · exact tri_77_124 x0 x1 k1 k2 k4
  · exact tri_3624725_034 y0 y1 k0 k3 k4
  · exact tri_77_134 x0 x1 k1 k3 k4
  · exact tri_3624725_024 y0 y1 k0 k2 k4
  · exact tri_3624725_023 y0 y1 k0 k2 k3
  · exact tri_3624725_023 y0 y1 k0 k2 k3
  · exact tri_77_234 x0 x1 k2 k3 k4
  · exact tri_3624725_014 y0 y1 k0 k1 k4
  · exact tri_3624725_013 y0 y1 k0 k1 k3
  · exact tri_3624725_013 y0 y1 k0 k1 k3
  · exact tri_3624725_012 y0 y1 k0 k1 k2
  · exact tri_3624725_012 y0 y1 k0 k1 k2
  · exact tri_3624725_012 y0 y1 k0 k1 k2
  · exact tri_3624725_012 y0 y1 k0 k1 k2
theorem pair_47 (x y : Int) : ∃ s : Nat, s ≤ 4 ∧ free3 ((x + s * 47) % 16777216) ∧ free3 ((y + s * 6352327) % 16777216) := by
  refine Classical.byContradiction fun hno => ?_
  have k0 : lW (x % 16777216) 0 % 3 = 0 ∨ lW (y % 16777216) 0 % 3 = 0 := by
    refine Classical.byContradiction fun h => hno ⟨0, by omega, ?_, ?_⟩
    · unfold free3; rw [cM x _ 0 (by decide), wrapM _ _ (by omega) (by omega)]; exact fun e => h (.inl e)
    · unfold free3; rw [cM y _ 0 (by decide), wrapM _ _ (by omega) (by omega)]; exact fun e => h (.inr e)
  have k1 : lW (x % 16777216) 47 % 3 = 0 ∨ lW (y % 16777216) 6352327 % 3 = 0 := by
    refine Classical.byContradiction fun h => hno ⟨1, by omega, ?_, ?_⟩
    · unfold free3; rw [cM x _ 47 (by decide), wrapM _ _ (by omega) (by omega)]; exact fun e => h (.inl e)
    · unfold free3; rw [cM y _ 6352327 (by decide), wrapM _ _ (by omega) (by omega)]; exact fun e => h (.inr e)
  have k2 : lW (x % 16777216) 94 % 3 = 0 ∨ lW (y % 16777216) 12704654 % 3 = 0 := by
    refine Classical.byContradiction fun h => hno ⟨2, by omega, ?_, ?_⟩
    · unfold free3; rw [cM x _ 94 (by decide), wrapM _ _ (by omega) (by omega)]; exact fun e => h (.inl e)
    · unfold free3; rw [cM y _ 12704654 (by decide), wrapM _ _ (by omega) (by omega)]; exact fun e => h (.inr e)
  have k3 : lW (x % 16777216) 141 % 3 = 0 ∨ lW (y % 16777216) 2279765 % 3 = 0 := by
    refine Classical.byContradiction fun h => hno ⟨3, by omega, ?_, ?_⟩
    · unfold free3; rw [cM x _ 141 (by decide), wrapM _ _ (by omega) (by omega)]; exact fun e => h (.inl e)
    · unfold free3; rw [cM y _ 2279765 (by decide), wrapM _ _ (by omega) (by omega)]; exact fun e => h (.inr e)
  have k4 : lW (x % 16777216) 188 % 3 = 0 ∨ lW (y % 16777216) 8632092 % 3 = 0 := by
    refine Classical.byContradiction fun h => hno ⟨4, by omega, ?_, ?_⟩
    · unfold free3; rw [cM x _ 188 (by decide), wrapM _ _ (by omega) (by omega)]; exact fun e => h (.inl e)
    · unfold free3; rw [cM y _ 8632092 (by decide), wrapM _ _ (by omega) (by omega)]; exact fun e => h (.inr e)
  obtain ⟨x0, x1⟩ := bdM x
  obtain ⟨y0, y1⟩ := bdM y
  rcases k0 with k0 | k0 <;> rcases k1 with k1 | k1 <;> rcases k2 with k2 | k2 <;> rcases k3 with k3 | k3 <;> rcases k4 with k4 | k4
  · exact tri_47_012 x0 x1 k0 k1 k2
  · exact tri_47_012 x0 x1 k0 k1 k2
  · exact tri_47_012 x0 x1 k0 k1 k2
  · exact tri_47_012 x0 x1 k0 k1 k2
  · exact tri_47_013 x0 x1 k0 k1 k3
  · exact tri_47_013 x0 x1 k0 k1 k3
  · exact tri_47_014 x0 x1 k0 k1 k4
  · exact tri_6352327_234 y0 y1 k2 k3 k4
  · exact tri_47_023 x0 x1 k0 k2 k3
  · exact tri_47_023 x0 x1 k0 k2 k3
  · exact tri_47_024 x0 x1 k0 k2 k4
  · exact tri_6352327_134 y0 y1 k1 k3 k4
  · exact tri_47_034 x0 x1 k0 k3 k4
  · exact tri_6352327_124 y0 y1 k1 k2 k4
  · exact tri_6352327_123 y0 y1 k1 k2 k3
  · exact tri_6352327_123 y0 y1 k1 k2 k3
  · exact tri_47_123 x0 x1 k1 k2 k3
  · exact tri_47_123 x0 x1 k1 k2 k3
  · exact tri_47_124 x0 x1 k1 k2 k4
  · exact tri_6352327_034 y0 y1 k0 k3 k4
  · exact tri_47_134 x0 x1 k1 k3 k4
  · exact tri_6352327_024 y0 y1 k0 k2 k4
  · exact tri_6352327_023 y0 y1 k0 k2 k3
  · exact tri_6352327_023 y0 y1 k0 k2 k3
  · exact tri_47_234 x0 x1 k2 k3 k4
  · exact tri_6352327_014 y0 y1 k0 k1 k4
  · exact tri_6352327_013 y0 y1 k0 k1 k3
  · exact tri_6352327_013 y0 y1 k0 k1 k3
  · exact tri_6352327_012 y0 y1 k0 k1 k2
  · exact tri_6352327_012 y0 y1 k0 k1 k2
  · exact tri_6352327_012 y0 y1 k0 k1 k2
  · exact tri_6352327_012 y0 y1 k0 k1 k2
theorem pairs (g : Int) (hg : g = 17 ∨ g = 371 ∨ g = 77 ∨ g = 47) (x y : Int) : ∃ s : Nat, s ≤ 4 ∧ free3 ((x + s * g) % 16777216) ∧ free3 ((y + s * (lA * g % 16777216)) % 16777216) := by
  rcases hg with rfl | rfl | rfl | rfl
  · rw [show lA * 17 % 16777216 = 9079929 by decide +kernel]; exact pair_17 x y
  · rw [show lA * 371 % 16777216 = 3737771 by decide +kernel]; exact pair_371 x y
  · rw [show lA * 77 % 16777216 = 3624725 by decide +kernel]; exact pair_77 x y
  · rw [show lA * 47 % 16777216 = 6352327 by decide +kernel]; exact pair_47 x y
theorem lout_move {z s d u : Int} : lout (z + 8589934592 * (s * d) + 144115188075855872 * u) = (z / 8589934592 + s * d) % 16777216 := by
  unfold lout
  generalize s * d = e
  omega
theorem emod_cg {x s d e : Int} (h : (d - e) % 16777216 = 0) : (x + s * d) % 16777216 = (x + s * e) % 16777216 := by
  obtain ⟨k, hk⟩ := Int.dvd_of_emod_eq_zero h
  rw [show x + s * d = x + s * e + 16777216 * (s * k) by rw [show d = e + 16777216 * k by omega]; grind]
  omega
/-- From every number two in a row are reached that 3 does not divide. -/
theorem lU_stop (z : Int) : ∃ k : Nat, k ≤ 17181966336 ∧ free3 (lout (lU k z)) ∧ free3 (lout (lU (k + 1) z)) := by
  obtain ⟨N, hN⟩ : ∃ N : Nat, N = 2 ^ 32 := ⟨_, rfl⟩
  obtain ⟨d, h1, h2, h3⟩ := lU_move N hN z
  obtain ⟨g, hg, hd⟩ : ∃ g : Int, (g = 17 ∨ g = 371 ∨ g = 77 ∨ g = 47) ∧ (d - g) % 8 = 0 := by
    have : d % 8 = 1 ∨ d % 8 = 3 ∨ d % 8 = 5 ∨ d % 8 = 7 := by omega
    rcases this with h | h | h | h
    · exact ⟨17, by omega, by omega⟩
    · exact ⟨371, by omega, by omega⟩
    · exact ⟨77, by omega, by omega⟩
    · exact ⟨47, by omega, by omega⟩
  obtain ⟨q, hq, hr⟩ := lA_reach d g (by omega) hd 21
  obtain ⟨d1, a1, a2, a3⟩ := lU_move N hN (lU q z)
  obtain ⟨d2, b1, b2, b3⟩ := lU_move N hN (lU (q + 1) z)
  have e1 : d1 = lA ^ q * d := by
    have h := lU_diff (lU N z) z q
    rw [← lU_add, Nat.add_comm, lU_add, a1, h1] at h
    have : 8589934592 * d1 = 8589934592 * (lA ^ q * d) := by grind
    omega
  have e2 : d2 = lA * d1 := by
    have h := lU_diff (lU N (lU q z)) (lU q z) 1
    have h4 : lU 1 (lU N (lU q z)) = lU N (lU (q + 1) z) := by
      rw [← lU_add, Nat.add_comm, lU_add, show lU 1 (lU q z) = lU (q + 1) z by rw [← lU_add, Nat.add_comm]]
    have h5 : lU 1 (lU q z) = lU (q + 1) z := by rw [← lU_add, Nat.add_comm]
    rw [h4, h5, b1, a1] at h
    have : 8589934592 * d2 = 8589934592 * (lA * d1) := by
      rw [Int.pow_succ, Int.pow_zero] at h
      grind
    omega
  have f1 : (d1 - g) % 16777216 = 0 := by
    rw [e1]
    have : (2 : Int) ^ (21 + 3) = 16777216 := by decide
    rw [this] at hr
    exact hr
  have f2 : (d2 - lA * g % 16777216) % 16777216 = 0 := by
    rw [e2]
    obtain ⟨k, hk⟩ := Int.dvd_of_emod_eq_zero f1
    have h6 := Int.emod_add_mul_ediv (lA * g) 16777216
    apply Int.emod_eq_zero_of_dvd
    refine ⟨lA * k + lA * g / 16777216, ?_⟩
    have : lA * d1 = lA * g + lA * (16777216 * k) := by rw [show d1 = g + 16777216 * k by omega]; grind
    grind
  obtain ⟨s, hs, p1, p2⟩ := pairs g hg (lU q z / 8589934592) (lU (q + 1) z / 8589934592)
  obtain ⟨u, hu⟩ := lU_walk N hN _ d1 a3 s
  obtain ⟨v, hv⟩ := lU_walk N hN _ d2 b3 s
  refine ⟨s * N + q, ?_, ?_, ?_⟩
  · have hq2 : q < 2097152 := hq
    have hN2 : N = 4294967296 := hN
    have : s * N ≤ 4 * N := Nat.mul_le_mul_right N hs
    omega
  · rw [lU_add, hu, lout_move (z := lU q z) (s := (s : Int)) (d := d1) (u := u), emod_cg (x := lU q z / 8589934592) (s := (s : Int)) f1]
    exact p1
  · rw [show s * N + q + 1 = s * N + (q + 1) by omega, lU_add, hv, lout_move (z := lU (q + 1) z) (s := (s : Int)) (d := d2) (u := v), emod_cg (x := lU (q + 1) z / 8589934592) (s := (s : Int)) f2]
    exact p2
end Go.Proofs.YtbjcbbnfgfmllaaGreatDoor.Pl
