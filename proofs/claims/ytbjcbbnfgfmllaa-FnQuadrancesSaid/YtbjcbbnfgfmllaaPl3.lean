/- Plain law, continued: crosses and spreads. No program in sight. -/
import Derived.Test.YtbjcbbnfgfmllaaPl2
set_option linter.unusedVariables false
set_option linter.unusedSimpArgs false
namespace Go.Proofs.Ytbjcbbnfgfmllaa.Pl
theorem cgM {p a b c d : Int} (h : a % p = b % p) (h' : c % p = d % p) : (a * c) % p = (b * d) % p := by rw [Int.mul_emod, h, h', ← Int.mul_emod]
theorem cgA {p a b c d : Int} (h : a % p = b % p) (h' : c % p = d % p) : (a + c) % p = (b + d) % p := by rw [Int.add_emod, h, h', ← Int.add_emod]
theorem cgS {p a b c d : Int} (h : a % p = b % p) (h' : c % p = d % p) : (a - c) % p = (b - d) % p := by rw [Int.sub_emod, h, h', ← Int.sub_emod]
theorem cgN {p a b : Int} (h : a % p = b % p) : (-a) % p = (-b) % p := by rw [← negM, h, negM]
def crossN (p n D : Int) : Int := (n * n * inv p (D % p)) % p
/-- The cross of two vectors by a colour. -/
def crossV (p k x y z v : Int) : Int := crossN p (prod p k x y z v) (prod p k x y x y * prod p k z v z v)
def cross (p k la lb ma mb : Int) : Int := crossV p k ((-lb) % p) la ((-mb) % p) ma
def spread (p k la lb ma mb : Int) : Int := (1 - cross p k la lb ma mb) % p
def spreadV (p k x y z v : Int) : Int := (1 - crossV p k x y z v) % p
theorem cross_spec (p n D : Int) : (n * n % p * inv p (D % p)) % p = crossN p n D := by unfold crossN; rw [mulL]
theorem prod_bd {p k x y z v : Int} (hp : 1 ≤ p) : 0 ≤ prod p k x y z v ∧ prod p k x y z v < p := by
  unfold prod
  split
  · exact ⟨Int.emod_nonneg _ (by omega), Int.emod_lt_of_pos _ (by omega)⟩
  · split <;> exact ⟨Int.emod_nonneg _ (by omega), Int.emod_lt_of_pos _ (by omega)⟩
theorem cross_bd {p k la lb ma mb : Int} (hp : 1 ≤ p) : 0 ≤ cross p k la lb ma mb ∧ cross p k la lb ma mb < p := ⟨Int.emod_nonneg _ (by omega), Int.emod_lt_of_pos _ (by omega)⟩
theorem spread_bd {p k la lb ma mb : Int} (hp : 1 ≤ p) : 0 ≤ spread p k la lb ma mb ∧ spread p k la lb ma mb < p := ⟨Int.emod_nonneg _ (by omega), Int.emod_lt_of_pos _ (by omega)⟩
/-- Products go with multiples. -/
theorem prod_scale (p k s t x y z v : Int) : prod p k ((s * x) % p) ((s * y) % p) ((t * z) % p) ((t * v) % p) = (s * t * prod p k x y z v) % p := by
  unfold prod
  split
  · rw [mulR, Int.add_emod, mulL, mulR, mulL, mulR, ← Int.add_emod]
    congr 1
    grind
  · split
    · rw [mulR, Int.sub_emod, mulL, mulR, mulL, mulR, ← Int.sub_emod]
      congr 1
      grind
    · rw [mulR, Int.add_emod, mulL, mulR, mulL, mulR, ← Int.add_emod]
      congr 1
      grind
theorem inv_scale {p z D : Int} (hp : fieldB p = true) (hz : z % p ≠ 0) (hD : D % p ≠ 0) (hzD : (z * D) % p ≠ 0) : (z * inv p ((z * D) % p)) % p = inv p (D % p) := by
  have hb := field_bd hp
  have h1 := inv_one hp hD
  have h2 := inv_one hp hzD
  have h3 : (z * inv p ((z * D) % p)) % p = inv p (D % p) % p := by
    refine lc2 (-(z * inv p ((z * D) % p))) (inv p (D % p)) h1 h2 ?_
    grind
  rw [h3]
  have h4 := inv_facts hp (Int.emod_nonneg D (show p ≠ 0 by omega)) (Int.emod_lt_of_pos D (show 0 < p by omega))
  exact Int.emod_eq_of_lt h4.2.1 h4.2.2.1
/-- A product of numbers other than 0 is not 0: over the fields in question. -/
theorem mul_ne {p x y : Int} (hp : fieldB p = true) (hx : x % p ≠ 0) (hy : y % p ≠ 0) : (x * y) % p ≠ 0 := by
  have hb := field_bd hp
  intro h
  have h1 := inv_one hp hx
  have h2 := lc2 (A := y) (B := 0) (-y) (inv p (x % p)) h1 h (by grind)
  simp at h2
  exact hy h2
theorem cross_scale {p k s t x y z v : Int} (hp : fieldB p = true) (hs : s % p ≠ 0) (ht : t % p ≠ 0) (hu : prod p k x y x y ≠ 0) (hv : prod p k z v z v ≠ 0) :
    crossV p k ((s * x) % p) ((s * y) % p) ((t * z) % p) ((t * v) % p) = crossV p k x y z v := by
  have hb := field_bd hp
  unfold crossV crossN
  rw [prod_scale, prod_scale, prod_scale]
  have bu := prod_bd (p := p) (k := k) (x := x) (y := y) (z := x) (v := y) (by omega)
  have bv := prod_bd (p := p) (k := k) (x := z) (y := v) (z := z) (v := v) (by omega)
  generalize prod p k x y z v = n
  generalize hU : prod p k x y x y = U at *
  generalize hV : prod p k z v z v = V at *
  have hU' : U % p ≠ 0 := by rw [Int.emod_eq_of_lt bu.1 bu.2]; exact hu
  have hV' : V % p ≠ 0 := by rw [Int.emod_eq_of_lt bv.1 bv.2]; exact hv
  have hD := mul_ne hp hU' hV'
  have hst := mul_ne hp hs ht
  have hz := mul_ne hp hst hst
  have hzD := mul_ne hp hz hD
  have e : ((s * s * U) % p * ((t * t * V) % p)) % p = (s * t * (s * t) * (U * V)) % p := by
    rw [mulL, mulR]
    congr 1
    grind
  rw [e]
  have h1 := inv_scale hp hz hD hzD
  have h2 : ((s * t * n) % p * ((s * t * n) % p) * inv p ((s * t * (s * t) * (U * V)) % p)) % p = (n * n * (s * t * (s * t) * inv p ((s * t * (s * t) * (U * V)) % p))) % p := by
    refine (cgM (cgM (Int.emod_emod _ _) (Int.emod_emod _ _)) rfl).trans ?_
    congr 1
    grind
  rw [h2, ← mulR, h1]
/-- The line through two points: its direction is a multiple of the difference. -/
def thF (p ax ay bx by_ : Int) : Int := first p ((by_ - ay) % p) (-((bx - ax) % p))
def thA (p ax ay bx by_ : Int) : Int := nrm p ((by_ - ay) % p) (-((bx - ax) % p)) ((by_ - ay) % p)
def thB (p ax ay bx by_ : Int) : Int := nrm p ((by_ - ay) % p) (-((bx - ax) % p)) (-((bx - ax) % p))
def thC (p ax ay bx by_ : Int) : Int := nrm p ((by_ - ay) % p) (-((bx - ax) % p)) (-((by_ - ay) % p * ax + -((bx - ax) % p) * ay))
end Go.Proofs.Ytbjcbbnfgfmllaa.Pl
