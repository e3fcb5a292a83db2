/- Plain law, continued: the answers of the functions on quadrances, perpendicular lines, midpoints, combinations, ratios. No program in sight. -/
import Derived.Test.YtbjcbbnfgfmllaaPl2
set_option linter.unusedVariables false
set_option linter.unusedSimpArgs false
namespace Go.Proofs.Ytbjcbbnfgfmllaa.Pl
theorem prod_bd' {p k x y z v : Int} (hp : 1 ≤ p) : 0 ≤ prod p k x y z v ∧ prod p k x y z v < p := by
  unfold prod
  split
  · exact ⟨Int.emod_nonneg _ (by omega), Int.emod_lt_of_pos _ (by omega)⟩
  · split <;> exact ⟨Int.emod_nonneg _ (by omega), Int.emod_lt_of_pos _ (by omega)⟩
theorem prod_rest (p k x y z v : Int) : prod p k (x % p) (y % p) (z % p) (v % p) = prod p k x y z v := by
  unfold prod
  split
  · rw [Int.add_emod, mulL, mulR, mulL, mulR, ← Int.add_emod]
  · split
    · rw [Int.sub_emod, mulL, mulR, mulL, mulR, ← Int.sub_emod]
    · rw [Int.add_emod, mulL, mulR, mulL, mulR, ← Int.add_emod]
theorem prod_neg (p k x y : Int) : prod p k (-x) (-y) (-x) (-y) = prod p k x y x y := by
  unfold prod
  rw [Int.neg_mul_neg, Int.neg_mul_neg, Int.neg_mul_neg, Int.neg_mul_neg]
/-- The quadrance of two points. -/
def quad (p k ax ay bx by_ : Int) : Int := prod p k ((ax - bx) % p) ((ay - by_) % p) ((ax - bx) % p) ((ay - by_) % p)
theorem quad_sym (p k ax ay bx by_ : Int) : quad p k bx by_ ax ay = quad p k ax ay bx by_ := by
  unfold quad
  rw [prod_rest, prod_rest, ← prod_neg, show -(bx - ax) = ax - bx by omega, show -(by_ - ay) = ay - by_ by omega]
theorem quad_bd {p k ax ay bx by_ : Int} (hp : 1 ≤ p) : 0 ≤ quad p k ax ay bx by_ ∧ quad p k ax ay bx by_ < p := prod_bd' hp
def right (p k ax ay bx by_ cx cy : Int) : Bool := prod p k ((bx - ax) % p) ((by_ - ay) % p) ((cx - ax) % p) ((cy - ay) % p) == 0
def quadOf (p k ax ay bx by_ : Int) : Int × Int := if ask p (colB k && ptsB p [(ax, ay), (bx, by_)]) = 0 then (quad p k ax ay bx by_, 0) else (0, ask p (colB k && ptsB p [(ax, ay), (bx, by_)]))
def rightOf (p k ax ay bx by_ cx cy : Int) : Bool × Int := if ask p (colB k && ptsB p [(ax, ay), (bx, by_), (cx, cy)]) = 0 then (right p k ax ay bx by_ cx cy, 0) else (false, ask p (colB k && ptsB p [(ax, ay), (bx, by_), (cx, cy)]))
def perpOf (p k la lb lc ma mb mc : Int) : Bool × Int := if ask p (colB k && linesB p [(la, lb, lc), (ma, mb, mc)]) = 0 then (perpB p k la lb ma mb, 0) else (false, ask p (colB k && linesB p [(la, lb, lc), (ma, mb, mc)]))
def nullOf (p k la lb lc : Int) : Bool × Int := if ask p (colB k && linesB p [(la, lb, lc)]) = 0 then (nullB p k la lb, 0) else (false, ask p (colB k && linesB p [(la, lb, lc)]))
def combOf (p ax ay bx by_ t : Int) : (Int × Int) × Int := if ask p (ptsB p [(ax, ay), (bx, by_)] && numB p t) = 0 then ((comb p ax bx t, comb p ay by_ t), 0) else ((0, 0), ask p (ptsB p [(ax, ay), (bx, by_)] && numB p t))
def midOf (p ax ay bx by_ : Int) : (Int × Int) × Int := if ask p (ptsB p [(ax, ay), (bx, by_)]) = 0 then ((comb p ax bx (inv p 2), comb p ay by_ (inv p 2)), 0) else ((0, 0), ask p (ptsB p [(ax, ay), (bx, by_)]))
def parTOf (p la lb lc ax ay : Int) : (Int × Int × Int) × Int := if ask p (lineB p la lb lc && ptB p ax ay) = 0 then ((la, lb, (-(la * ax + lb * ay)) % p), 0) else ((0, 0, 0), ask p (lineB p la lb lc && ptB p ax ay))
def lineOf (p a b c : Int) : (Int × Int × Int) × Int := if ask p (numB p a && numB p b && numB p c) = 0 then (if a = 0 ∧ b = 0 then ((0, 0, 0), 5) else ((nrm p a b a, nrm p a b b, nrm p a b c), 0)) else ((0, 0, 0), ask p (numB p a && numB p b && numB p c))
def ratOf (p ax ay bx by_ cx cy : Int) : Int × Int := if ask p (ptsB p [(ax, ay), (bx, by_), (cx, cy)]) = 0 then (if ax = bx ∧ ay = by_ then (0, 5) else if rat p ax ay bx by_ cx cy = -1 then (0, 5) else (rat p ax ay bx by_ cx cy, 0)) else (0, ask p (ptsB p [(ax, ay), (bx, by_), (cx, cy)]))
theorem nrm_z {p a b x : Int} (h : a % p = 0) : (x % p * inv p (b % p)) % p = nrm p a b x := by unfold nrm first; rw [if_pos h, mulL]
theorem nrm_n {p a b x : Int} (h : ¬ a % p = 0) : (x % p * inv p (a % p)) % p = nrm p a b x := by unfold nrm first; rw [if_neg h, mulL]
theorem nrm_zs {p a b x : Int} (h : a % p = 0) : (x * inv p (b % p)) % p = nrm p a b x := by unfold nrm first; rw [if_pos h]
theorem nrm_ns {p a b x : Int} (h : ¬ a % p = 0) : (x * inv p (a % p)) % p = nrm p a b x := by unfold nrm first; rw [if_neg h]
theorem inv_bd {p a : Int} (hp : fieldB p = true) : 0 ≤ inv p (a % p) ∧ inv p (a % p) < p := by
  have hb := field_bd hp
  have h := inv_facts hp (Int.emod_nonneg a (show p ≠ 0 by omega)) (Int.emod_lt_of_pos a (show 0 < p by omega))
  exact ⟨h.2.1, h.2.2.1⟩
end Go.Proofs.Ytbjcbbnfgfmllaa.Pl
