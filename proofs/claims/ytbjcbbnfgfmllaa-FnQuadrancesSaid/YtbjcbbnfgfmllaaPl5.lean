/- Plain law, continued: lines as they are kept, midpoints of the reference, parallels through points. No program in sight. -/
import Derived.Test.YtbjcbbnfgfmllaaPl4
set_option linter.unusedVariables false
set_option linter.unusedSimpArgs false
namespace Go.Proofs.Ytbjcbbnfgfmllaa.Pl
def parThOf (p la lb lc ax ay : Int) : (Int × Int × Int) × Int := if ask p (ptB p ax ay && lineB p la lb lc) = 0 then ((la, lb, (-(la * ax + lb * ay)) % p), 0) else ((0, 0, 0), ask p (ptB p ax ay && lineB p la lb lc))
theorem inv_1 {p : Int} (hp : fieldB p = true) : inv p 1 = 1 := by
  have hb := field_bd hp
  have h := inv_facts hp (show (0 : Int) ≤ 1 by omega) (show (1 : Int) < p by omega)
  have h1 := h.1 (by omega)
  rw [Int.one_mul, Int.emod_eq_of_lt h.2.1 h.2.2.1] at h1
  exact h1
theorem nrm_line {p la lb x : Int} (hp : fieldB p = true) (hl : la = 1 ∨ la = 0 ∧ lb = 1) : nrm p la lb x = x % p := by
  have hb := field_bd hp
  have h1 : (1 : Int) % p = 1 := Int.emod_eq_of_lt (by omega) (by omega)
  have hf : first p la lb = 1 := by
    unfold first
    rcases hl with rfl | ⟨rfl, rfl⟩
    · rw [h1]; simp
    · rw [h1]; simp
  unfold nrm
  rw [hf, inv_1 hp, Int.mul_one]
theorem half_mid {p a b : Int} (hp : fieldB p = true) : ((p + 1) / 2 * ((a + b) % p)) % p = comb p a b (inv p 2) := by rw [half_eq hp, mid_spec hp]
theorem par_neg (p a b c d : Int) : (-a * b - c * d) % p = (-(a * b + c * d)) % p := by congr 1; grind
theorem small {p x : Int} (h0 : 0 ≤ x) (h1 : x < p) : x % p = x := Int.emod_eq_of_lt h0 h1
theorem inv2_bd {p : Int} (hp : fieldB p = true) : 0 ≤ inv p 2 ∧ inv p 2 < p := by
  have hb := field_bd hp
  have h := inv_facts hp (show (0 : Int) ≤ 2 by omega) (show (2 : Int) < p by omega)
  exact ⟨h.2.1, h.2.2.1⟩
end Go.Proofs.Ytbjcbbnfgfmllaa.Pl
