/- Plain law: right angles and numbers of Archimedes. No program in sight. -/
import Derived.Test.YtbjcbbnfgfmllaaPl11
set_option linter.unusedVariables false
set_option linter.unusedSimpArgs false
namespace Go.Proofs.Ytbjcbbnfgfmllaa.Pl
/-- The product of two differences, not yet reduced. -/
def praw (k x y z v : Int) : Int := if k = 0 then x * z + y * v else if k = 1 then x * z - y * v else x * v + y * z
theorem praw0 (x y z v : Int) : praw 0 x y z v = x * z + y * v := rfl
theorem praw1 (x y z v : Int) : praw 1 x y z v = x * z - y * v := rfl
theorem praw2 (x y z v : Int) : praw 2 x y z v = x * v + y * z := rfl
theorem prod_raw (p k x y z v : Int) : prod p k x y z v = praw k x y z v % p := by
  unfold prod praw
  split
  · rfl
  · split <;> rfl
theorem quad_raw (p k ax ay bx by_ : Int) : quad p k ax ay bx by_ = praw k (ax - bx) (ay - by_) (ax - bx) (ay - by_) % p := by
  unfold quad
  rw [prod_rest, prod_raw]
theorem tmod_iff {p t : Int} : t.tmod p = 0 ↔ t % p = 0 :=
  ⟨fun h => Int.emod_eq_zero_of_dvd (Int.dvd_of_tmod_eq_zero h), fun h => Int.tmod_eq_zero_of_dvd (Int.dvd_of_emod_eq_zero h)⟩
theorem two_ne {p : Int} (hp : 3 ≤ p) : (2 : Int) % p ≠ 0 := by rw [Int.emod_eq_of_lt (by omega) (by omega)]; omega
theorem pol (k a1 a2 b1 b2 c1 c2 : Int) : praw k (a1 - c1) (a2 - c2) (a1 - c1) (a2 - c2) + praw k (a1 - b1) (a2 - b2) (a1 - b1) (a2 - b2) - praw k (b1 - c1) (b2 - c2) (b1 - c1) (b2 - c2) = 2 * praw k (b1 - a1) (b2 - a2) (c1 - a1) (c2 - a2) := by
  unfold praw
  split
  · grind
  · split <;> grind
theorem right_law {p k ax ay bx by_ cx cy : Int} (hf : fieldB p = true) :
    right p k ax ay bx by_ cx cy = ((quad p k ax ay cx cy + quad p k ax ay bx by_ - quad p k bx by_ cx cy).tmod p == 0) := by
  have hp := field_bd hf
  have h1 : (quad p k ax ay cx cy + quad p k ax ay bx by_ - quad p k bx by_ cx cy) % p = (2 * praw k (bx - ax) (by_ - ay) (cx - ax) (cy - ay)) % p := by
    rw [← pol, quad_raw, quad_raw, quad_raw]
    exact cgS (cgA (Int.emod_emod_of_dvd _ (Int.dvd_refl p)) (Int.emod_emod_of_dvd _ (Int.dvd_refl p))) (Int.emod_emod_of_dvd _ (Int.dvd_refl p))
  have h2 : right p k ax ay bx by_ cx cy = (praw k (bx - ax) (by_ - ay) (cx - ax) (cy - ay) % p == 0) := by
    unfold right
    rw [prod_rest, prod_raw]
  rw [h2, Bool.eq_iff_iff]
  simp only [beq_iff_eq, tmod_iff, h1]
  constructor
  · intro h
    rw [Int.mul_emod, h]
    simp
  · intro h
    by_cases h3 : praw k (bx - ax) (by_ - ay) (cx - ax) (cy - ay) % p = 0
    · exact h3
    · exact absurd h (mul_ne hf (two_ne hp.1) h3)
theorem arch_cg {p x y z x' y' z' : Int} (hx : x % p = x' % p) (hy : y % p = y' % p) (hz : z % p = z' % p) : arch p x y z = ((x' + y' + z') * (x' + y' + z') - 2 * (x' * x' + y' * y' + z' * z')) % p := by
  unfold arch
  exact cgS (cgM (cgA (cgA hx hy) hz) (cgA (cgA hx hy) hz)) (cgM rfl (cgA (cgA (cgM hx hx) (cgM hy hy)) (cgM hz hz)))
theorem mm (p x : Int) : (x % p) % p = x % p := Int.emod_emod_of_dvd _ (Int.dvd_refl p)
theorem arch_law {p k ax ay bx by_ cx cy : Int} (hk : colB k = true) :
    ((if 0 < k then -(4 * area p ax ay bx by_ cx cy * area p ax ay bx by_ cx cy) else 4 * area p ax ay bx by_ cx cy * area p ax ay bx by_ cx cy) - arch p (quad p k bx by_ cx cy) (quad p k ax ay cx cy) (quad p k ax ay bx by_)).tmod p = 0 := by
  rw [tmod_iff, arch_cg (x' := praw k (bx - cx) (by_ - cy) (bx - cx) (by_ - cy)) (y' := praw k (ax - cx) (ay - cy) (ax - cx) (ay - cy)) (z' := praw k (ax - bx) (ay - by_) (ax - bx) (ay - by_)) (by rw [quad_raw, mm]) (by rw [quad_raw, mm]) (by rw [quad_raw, mm])]
  have hA : area p ax ay bx by_ cx cy % p = ((bx - ax) * (cy - ay) - (by_ - ay) * (cx - ax)) % p := by unfold area; rw [mm]
  generalize area p ax ay bx by_ cx cy = A at hA
  have hkc : k = 0 ∨ k = 1 ∨ k = 2 := by simp [colB] at hk; omega
  rw [Int.sub_emod, mm, ← Int.sub_emod]
  rcases hkc with rfl | rfl | rfl
  · rw [if_neg (by omega)]
    rw [cgS (cgM (cgM (rfl : (4 : Int) % p = 4 % p) hA) hA) rfl]
    simp only [praw0]
    rw [show (4 * ((bx - ax) * (cy - ay) - (by_ - ay) * (cx - ax)) * ((bx - ax) * (cy - ay) - (by_ - ay) * (cx - ax)) - (((bx - cx) * (bx - cx) + (by_ - cy) * (by_ - cy) + ((ax - cx) * (ax - cx) + (ay - cy) * (ay - cy)) + ((ax - bx) * (ax - bx) + (ay - by_) * (ay - by_))) * ((bx - cx) * (bx - cx) + (by_ - cy) * (by_ - cy) + ((ax - cx) * (ax - cx) + (ay - cy) * (ay - cy)) + ((ax - bx) * (ax - bx) + (ay - by_) * (ay - by_))) - 2 * (((bx - cx) * (bx - cx) + (by_ - cy) * (by_ - cy)) * ((bx - cx) * (bx - cx) + (by_ - cy) * (by_ - cy)) + ((ax - cx) * (ax - cx) + (ay - cy) * (ay - cy)) * ((ax - cx) * (ax - cx) + (ay - cy) * (ay - cy)) + ((ax - bx) * (ax - bx) + (ay - by_) * (ay - by_)) * ((ax - bx) * (ax - bx) + (ay - by_) * (ay - by_))))) = 0 by grind]
    simp
  · rw [if_pos (by omega)]
    rw [cgS (cgN (cgM (cgM (rfl : (4 : Int) % p = 4 % p) hA) hA)) rfl]
    simp only [praw1]
    rw [show ∀ t : Int, t = 0 → t % p = 0 from fun t h => by rw [h]; simp]
    grind
  · rw [if_pos (by omega)]
    rw [cgS (cgN (cgM (cgM (rfl : (4 : Int) % p = 4 % p) hA) hA)) rfl]
    simp only [praw2]
    rw [show ∀ t : Int, t = 0 → t % p = 0 from fun t h => by rw [h]; simp]
    grind
end Go.Proofs.Ytbjcbbnfgfmllaa.Pl
