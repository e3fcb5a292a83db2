/- Plain law, continued: lists that are sieved point by point, line by line. No program in sight. -/
import Derived.Test.YtbjcbbnfgfmllaaPl7
set_option linter.unusedVariables false
set_option linter.unusedSimpArgs false
namespace Go.Proofs.Ytbjcbbnfgfmllaa.Pl
def bf (P : Int × Int → Bool) (p x y : Nat) : List (Int × Int) := (before p x y).filter P
theorem bf_0 (P : Int × Int → Bool) (p : Nat) : bf P p 0 0 = [] := by simp [bf, before_0]
theorem bf_hit {P : Int × Int → Bool} {p x y : Nat} (h : P ((x : Int), (y : Int)) = true) : bf P p x (y + 1) = bf P p x y ++ [((x : Int), (y : Int))] := by
  rw [bf, before_y, filter_app, if_pos h]; rfl
theorem bf_miss {P : Int × Int → Bool} {p x y : Nat} (h : P ((x : Int), (y : Int)) = false) : bf P p x (y + 1) = bf P p x y := by
  rw [bf, before_y, filter_app, h, if_neg (by decide)]; rfl
theorem bf_x (P : Int × Int → Bool) (p x : Nat) : bf P p (x + 1) 0 = bf P p x p := by rw [bf, before_x]; rfl
theorem bf_len {P : Int × Int → Bool} {p x y : Nat} (hp : p ≤ 31) (hx : x ≤ p) (hy : y ≤ p) : (bf P p x y).length ≤ 1000 :=
  Nat.le_trans (List.length_filter_le _ _) (before_len hp hx hy)
/-- The points for which something holds. -/
def ptsW (P : Int × Int → Bool) (p : Int) : List (Int × Int) := (ptsTo p.toNat p.toNat).filter P
theorem bf_end (P : Int × Int → Bool) (n : Nat) : bf P n n 0 = ptsW P n := by rw [bf, before_end, ptsW, Int.toNat_natCast]
theorem bf_fin {P : Int × Int → Bool} {n : Nat} {p : Int} (h1 : p ≤ n) (h2 : (n : Int) ≤ p) : bf P n n 0 = ptsW P p := by
  rw [bf_end, show (n : Int) = p by omega]
theorem ptsW_len {P : Int × Int → Bool} {p : Int} (hp : 0 ≤ p) (hp2 : p ≤ 31) : (ptsW P p).length ≤ 1000 := by
  obtain ⟨n, rfl⟩ := Int.eq_ofNat_of_zero_le hp
  rw [← bf_end]
  exact bf_len (by omega) (Nat.le_refl _) (by omega)
def ptsAll (p : Int) : List (Int × Int) := ptsTo p.toNat p.toNat
theorem ptsAll_eq (p : Int) : ptsW (fun _ => true) p = ptsAll p := by simp [ptsW, ptsAll]
theorem ptsAll_len {p : Int} (hp : 0 ≤ p) (hp2 : p ≤ 31) : (ptsAll p).length ≤ 1000 := by rw [← ptsAll_eq]; exact ptsW_len hp hp2
theorem mem_ptsAll {p a b : Int} (hp : 0 ≤ p) (h : (a, b) ∈ ptsAll p) : 0 ≤ a ∧ a < p ∧ 0 ≤ b ∧ b < p := by
  have := mem_before h
  omega
theorem ptsW_filter (P : Int × Int → Bool) (p : Int) : (ptsAll p).filter P = ptsW P p := rfl
/-- The lines through a point for which something holds. -/
def lnsW (P : Int × Int × Int → Bool) (p ax ay : Int) : List (Int × Int × Int) := (ltAll p ax ay).filter P
theorem lnsW_len {P : Int × Int × Int → Bool} {p ax ay : Int} (hp : 0 ≤ p) (hp2 : p ≤ 31) : (lnsW P p ax ay).length ≤ 1000 := by
  have := List.length_filter_le P (ltAll p ax ay)
  rw [ltAll_len] at this
  unfold lnsW
  omega
theorem ltAll_ok (p ax ay : Int) : (ltAll p ax ay).length = p.toNat + 1 := ltAll_len p ax ay
theorem take_all {α : Type} {P : α → Bool} {l : List α} {k : Nat} (h : l.length ≤ k) : (l.take k).filter P = l.filter P := by rw [List.take_of_length_le h]
theorem flat2_one (x : Int × Int) : [x.1, x.2] = flat2 [x] := by simp [flat2]
theorem app2 (l : List (Int × Int)) (a b : Int) : flat2 l ++ [a, b] = flat2 (l ++ [(a, b)]) := by simp [flat2]
theorem app3 (l : List (Int × Int × Int)) (a b c : Int) : flat3 l ++ [a, b, c] = flat3 (l ++ [(a, b, c)]) := by simp [flat3]
theorem par0 (p ax ay : Int) : (-(0 * ax + 1 * ay)) % p = (-ay) % p := by simp
theorem par1 (p ax ay b : Int) : (-(1 * ax + b * ay)) % p = (-ax - b * ay) % p := by congr 1; grind
def cntAt (p k q : Int) : Int := ((ptsW (fun b => quad p k 0 0 b.1 b.2 == q) p).length : Int)
def cntOf (p k q : Int) : Int × Int := if ask p (colB k && numB p q) = 0 then (cntAt p k q, 0) else (0, ask p (colB k && numB p q))
end Go.Proofs.Ytbjcbbnfgfmllaa.Pl
