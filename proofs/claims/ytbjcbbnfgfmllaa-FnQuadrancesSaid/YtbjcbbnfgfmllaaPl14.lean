/- Plain law: products of differences, points at a quadrance: their number does not hang on the centre. No program in sight. -/
import Derived.Test.YtbjcbbnfgfmllaaPl13
import Derived.Test.YtbjcbbnfgfmllaaPl8
set_option linter.unusedVariables false
set_option linter.unusedSimpArgs false
namespace Go.Proofs.Ytbjcbbnfgfmllaa.Pl
theorem polar (k a1 a2 b1 b2 : Int) : praw k (0 - a1) (0 - a2) (0 - a1) (0 - a2) + praw k (0 - b1) (0 - b2) (0 - b1) (0 - b2) - 2 * praw k a1 a2 b1 b2 = praw k (a1 - b1) (a2 - b2) (a1 - b1) (a2 - b2) := by
  unfold praw
  split
  · grind
  · split <;> grind
theorem polar_law {p k ax ay bx by_ : Int} : (quad p k 0 0 ax ay + quad p k 0 0 bx by_ - 2 * prod p k ax ay bx by_ - quad p k ax ay bx by_).tmod p = 0 := by
  rw [tmod_iff, quad_raw, quad_raw, quad_raw, prod_raw]
  rw [cgS (cgS (cgA (mm p _) (mm p _)) (cgM (rfl : (2 : Int) % p = 2 % p) (mm p _))) (mm p _), polar]
  simp
/-- The numbers below n, moved by a. -/
theorem perm_shift {n a : Nat} (h : a ≤ n) : List.Perm ((List.range n).map fun x => (x + a) % n) (List.range n) := by
  by_cases hn : n = 0
  · subst hn; simp
  obtain ⟨m, rfl⟩ := Nat.exists_eq_add_of_le h
  have h1 : List.range (a + m) = List.range m ++ (List.range a).map (m + ·) := by rw [Nat.add_comm, List.range_add]
  have h2 : ((List.range (a + m)).map fun x => (x + a) % (a + m)) = (List.range m).map (a + ·) ++ List.range a := by
    rw [h1, List.map_append, List.map_map]
    congr 1
    · apply List.map_congr_left
      intro x hx
      have := List.mem_range.1 hx
      rw [Nat.mod_eq_of_lt (by omega), Nat.add_comm]
    · conv => rhs; rw [← List.map_id (List.range a)]
      apply List.map_congr_left
      intro x hx
      have := List.mem_range.1 hx
      show (m + x + a) % (a + m) = x
      rw [show m + x + a = x + (a + m) by omega, Nat.add_mod_right, Nat.mod_eq_of_lt (by omega)]
  rw [h2]
  exact List.perm_append_comm.trans (by rw [List.range_add])
def cnt2 (P : Nat → Nat → Bool) (n : Nat) : Nat := ((List.range n).map fun i => (List.range n).countP fun j => P i j).sum
theorem countP_shift (f : Nat → Bool) {n b : Nat} (hb : b ≤ n) : (List.range n).countP (fun j => f ((j + b) % n)) = (List.range n).countP f := by
  have h := (perm_shift hb).countP_eq f
  rw [List.countP_map] at h
  exact h
theorem cnt2_shift (P : Nat → Nat → Bool) {n a b : Nat} (ha : a ≤ n) (hb : b ≤ n) : cnt2 (fun i j => P ((i + a) % n) ((j + b) % n)) n = cnt2 P n := by
  unfold cnt2
  have h1 : (fun i => (List.range n).countP fun j => P ((i + a) % n) ((j + b) % n)) = (fun i => (List.range n).countP fun j => P i j) ∘ (fun i => (i + a) % n) := by
    funext i
    exact countP_shift (fun j => P ((i + a) % n) j) hb
  rw [h1, ← List.map_map]
  exact ((perm_shift ha).map _).sum_nat
theorem ptsTo_cnt (P : Int × Int → Bool) (n : Nat) : ∀ x, ((ptsTo n x).filter P).length = ((List.range x).map fun i : Nat => (List.range n).countP fun j : Nat => P ((i : Int), (j : Int))).sum
  | 0 => by simp [ptsTo]
  | x + 1 => by
    rw [ptsTo_succ, List.filter_append, List.length_append, ptsTo_cnt P n x, List.range_succ, List.map_append, List.sum_append]
    congr 1
    simp only [List.map_cons, List.map_nil, List.sum_cons, List.sum_nil, Nat.add_zero]
    rw [rowTo, ← List.countP_eq_length_filter, List.countP_map]
    rfl
theorem ptsW_cnt (P : Int × Int → Bool) (n : Nat) : (ptsW P n).length = cnt2 (fun i j : Nat => P ((i : Int), (j : Int))) n := by
  rw [ptsW, Int.toNat_natCast]
  exact ptsTo_cnt P n n
theorem shift_emod {n i a : Nat} : ((a : Int) - (((i + a) % n : Nat) : Int)) % (n : Int) = (0 - (i : Int)) % (n : Int) := by
  rw [Int.natCast_emod, Int.natCast_add]
  rw [cgS (rfl : (a : Int) % (n : Int) = (a : Int) % (n : Int)) (mm (n : Int) ((i : Int) + (a : Int)))]
  congr 1
  omega
/-- As many points have a quadrance from one centre as from another. -/
theorem count_law {p k ax ay q : Int} (hp : 0 ≤ p) (a1 : 0 ≤ ax) (a2 : ax < p) (b1 : 0 ≤ ay) (b2 : ay < p) :
    ((ptsW (fun b => quad p k ax ay b.1 b.2 == q) p).length : Int) = cntAt p k q := by
  obtain ⟨n, rfl⟩ := Int.eq_ofNat_of_zero_le hp
  obtain ⟨a, rfl⟩ := Int.eq_ofNat_of_zero_le a1
  obtain ⟨b, rfl⟩ := Int.eq_ofNat_of_zero_le b1
  unfold cntAt
  rw [ptsW_cnt, ptsW_cnt, ← cnt2_shift _ (show a ≤ n by omega) (show b ≤ n by omega)]
  congr 2
  funext i j
  show (quad _ k _ _ _ _ == q) = (quad _ k _ _ _ _ == q)
  unfold quad
  rw [shift_emod, shift_emod]
theorem mem_ptsW {P : Int × Int → Bool} {p : Int} {b : Int × Int} (h : b ∈ ptsW P p) : P b = true ∧ 0 ≤ b.1 ∧ b.1 < p ∧ 0 ≤ b.2 ∧ b.2 < p := by
  unfold ptsW at h
  obtain ⟨h1, h2⟩ := List.mem_filter.1 h
  obtain ⟨x, y⟩ := b
  have := mem_before h1
  exact ⟨h2, by dsimp only; omega, by dsimp only; omega, by dsimp only; omega, by dsimp only; omega⟩
end Go.Proofs.Ytbjcbbnfgfmllaa.Pl
