/- Plain law: spreads and crosses of two lines, the three spreads of a triangle. No program in sight. -/
import Derived.Test.YtbjcbbnfgfmllaaPl15
set_option linter.unusedVariables false
set_option linter.unusedSimpArgs false
namespace Go.Proofs.Ytbjcbbnfgfmllaa.Pl
theorem prod_comm (p k x y z v : Int) : prod p k x y z v = prod p k z v x y := by
  unfold prod
  split
  · congr 1; grind
  · split <;> (congr 1; grind)
theorem cross_comm (p k la lb ma mb : Int) : cross p k la lb ma mb = cross p k ma mb la lb := by
  unfold cross crossV
  rw [prod_comm p k ((-lb) % p) la ((-mb) % p) ma, Int.mul_comm (prod p k ((-lb) % p) la ((-lb) % p) la)]
theorem spread_comm (p k la lb ma mb : Int) : spread p k la lb ma mb = spread p k ma mb la lb := by
  unfold spread
  rw [cross_comm]
theorem linesB_comm (p a b c d e f : Int) : linesB p [(a, b, c), (d, e, f)] = linesB p [(d, e, f), (a, b, c)] := by
  simp only [linesB, List.all_cons, List.all_nil, Bool.and_true]
  exact Bool.and_comm _ _
theorem twoL_comm (p k la lb lc ma mb mc : Int) : twoL p k la lb lc ma mb mc = twoL p k ma mb mc la lb lc := by
  unfold twoL
  rw [linesB_comm]
  simp only [or_comm]
theorem null_prod {p k la lb : Int} (h : nullB p k la lb = false) : prod p k ((-lb) % p) la ((-lb) % p) la ≠ 0 := by
  unfold nullB perpB at h
  simpa using h
theorem small_ne {p x : Int} (h0 : 0 ≤ x) (h1 : x < p) (h : x ≠ 0) : x % p ≠ 0 := by rw [Int.emod_eq_of_lt h0 h1]; exact h
theorem inv_ne {p a : Int} (hf : fieldB p = true) (h : a % p ≠ 0) : inv p (a % p) % p ≠ 0 := by
  intro h0
  have h1 := inv_one hf h
  have hb := field_bd hf
  have h2 : (a * inv p (a % p)) % p = 0 := by rw [Int.mul_emod, h0]; simp
  have h3 : (a * inv p (a % p) - 1) % p = (0 - 1) % p := cgS (by rw [h2]; simp) rfl
  rw [h1] at h3
  exact neg1 hb.1 (by simpa using h3.symm)
/-- Two lines are perpendicular where their cross is 0. -/
theorem cross_zero {p k la lb ma mb : Int} (hf : fieldB p = true) (h1 : nullB p k la lb = false) (h2 : nullB p k ma mb = false) : perpB p k la lb ma mb = (cross p k la lb ma mb == 0) := by
  have hp := field_bd hf
  have n1 := null_prod h1
  have n2 := null_prod h2
  have b1 := prod_bd' (p := p) (k := k) (x := (-lb) % p) (y := la) (z := (-lb) % p) (v := la) (by omega)
  have b2 := prod_bd' (p := p) (k := k) (x := (-mb) % p) (y := ma) (z := (-mb) % p) (v := ma) (by omega)
  have b3 := prod_bd' (p := p) (k := k) (x := (-lb) % p) (y := la) (z := (-mb) % p) (v := ma) (by omega)
  unfold perpB cross crossV crossN
  rw [Bool.eq_iff_iff]
  simp only [beq_iff_eq]
  have hD := mul_ne hf (small_ne b1.1 b1.2 n1) (small_ne b2.1 b2.2 n2)
  constructor
  · intro h
    rw [h]
    simp
  · intro h
    refine Classical.byContradiction fun hn => ?_
    exact mul_ne hf (mul_ne hf (small_ne b3.1 b3.2 hn) (small_ne b3.1 b3.2 hn)) (inv_ne hf hD) h
theorem add_one {p c : Int} (hp : 2 ≤ p) : ((1 - c) % p + c) % p = 1 := by
  rw [cgA (mm p (1 - c)) (rfl : c % p = c % p), show 1 - c + c = 1 by omega]
  exact Int.emod_eq_of_lt (by omega) (by omega)
theorem twist_law {p c : Int} (hf : fieldB p = true) (h0 : 0 ≤ c) (h1 : c < p) (h : c ≠ 0) : (twistN p c * c) % p = (1 - c) % p := by
  have hp := field_bd hf
  have hi := (inv_facts hf h0 h1).1 h
  unfold twistN
  rw [cgM (mm p _) (rfl : c % p = c % p), show (1 - c) * inv p c * c = (1 - c) * (c * inv p c) by grind]
  rw [cgM (rfl : (1 - c) % p = (1 - c) % p) (show (c * inv p c) % p = 1 % p by rw [hi, one_mod (by omega)])]
  simp
theorem tmod_small {p x : Int} (h : 0 ≤ x) : x.tmod p = x % p := Int.tmod_eq_emod_of_nonneg h
/-- What a great law asks of two lines that are not null. -/
theorem spread_ex (p k la lb lc ma mb mc : Int) : ∃ s c t q1 q2, spreadTo p k la lb lc ma mb mc = (s, q1) ∧ crossTo p k la lb lc ma mb mc = (c, q1) ∧ twistTo p k la lb lc ma mb mc = (t, q2) ∧
    (0 ≤ s ∧ s ≤ 31) ∧ (0 ≤ c ∧ c ≤ 31) ∧ (0 ≤ t ∧ t ≤ 31) ∧
    (q1 = 0 → 1 ≤ p ∧ p ≤ 31 ∧ spreadTo p k ma mb mc la lb lc = (s, 0) ∧ perpOf p k la lb lc ma mb mc = ((c == 0), 0) ∧ (s + c) % p = 1 ∧ (q2 = 0 → (t * c) % p = s)) := by
  by_cases h : twoL p k la lb lc ma mb mc = 0
  · obtain ⟨h0, n1, n2⟩ := twoL_ok h
    obtain ⟨hf, hv⟩ := ask_ok h0
    have hp := field_bd hf
    have bs := spread_bd (p := p) (k := k) (la := la) (lb := lb) (ma := ma) (mb := mb) (by omega)
    have bc := cross_bd (p := p) (k := k) (la := la) (lb := lb) (ma := ma) (mb := mb) (by omega)
    have e1 : spreadTo p k la lb lc ma mb mc = (spread p k la lb ma mb, 0) := by unfold spreadTo; rw [if_pos h]
    have e2 : crossTo p k la lb lc ma mb mc = (cross p k la lb ma mb, 0) := by unfold crossTo; rw [if_pos h]
    have e3 : spreadTo p k ma mb mc la lb lc = (spread p k la lb ma mb, 0) := by unfold spreadTo; rw [if_pos (by rw [← twoL_comm]; exact h), ← spread_comm]
    have e4 : perpOf p k la lb lc ma mb mc = ((cross p k la lb ma mb == 0), 0) := by unfold perpOf; rw [if_pos h0, cross_zero hf n1 n2]
    have e5 : (spread p k la lb ma mb + cross p k la lb ma mb) % p = 1 := by unfold spread; exact add_one (by omega)
    by_cases hc : cross p k la lb ma mb = 0
    · refine ⟨_, _, 0, 0, 5, e1, e2, by unfold twistTo; rw [if_pos h, if_pos hc], by omega, by omega, by omega, fun _ => ⟨by omega, by omega, e3, e4, e5, fun h => by omega⟩⟩
    · have ht : 0 ≤ twistN p (cross p k la lb ma mb) ∧ twistN p (cross p k la lb ma mb) < p := ⟨Int.emod_nonneg _ (by omega), Int.emod_lt_of_pos _ (by omega)⟩
      refine ⟨_, _, _, 0, 0, e1, e2, by unfold twistTo; rw [if_pos h, if_neg hc], by omega, by omega, by omega, fun _ => ⟨by omega, by omega, e3, e4, e5, fun _ => ?_⟩⟩
      exact twist_law hf bc.1 bc.2 hc
  · exact ⟨0, 0, 0, _, _, by unfold spreadTo; rw [if_neg h], by unfold crossTo; rw [if_neg h], by unfold twistTo; rw [if_neg h], by omega, by omega, by omega, fun hq => absurd hq h⟩
def sgn (k : Int) : Int := if 0 < k then -1 else 1
theorem lag {k : Int} (x y z v : Int) (hk : colB k = true) : praw k x y x y * praw k z v z v - praw k x y z v * praw k x y z v = sgn k * ((x * v - y * z) * (x * v - y * z)) := by
  have hkc : k = 0 ∨ k = 1 ∨ k = 2 := by simp [colB] at hk; omega
  rcases hkc with rfl | rfl | rfl
  · rw [show sgn 0 = 1 from rfl]; simp only [praw0]; grind
  · rw [show sgn 1 = -1 from rfl]; simp only [praw1]; grind
  · rw [show sgn 2 = -1 from rfl]; simp only [praw2]; grind
def det (ax ay bx by_ cx cy : Int) : Int := (bx - ax) * (cy - ay) - (by_ - ay) * (cx - ax)
/-- A spread at a point, told by the area. -/
theorem spread_area {p k ax ay bx by_ cx cy : Int} (hf : fieldB p = true) (hk : colB k = true) (h1 : quad p k bx by_ ax ay ≠ 0) (h2 : quad p k cx cy ax ay ≠ 0) :
    (spreadP p k ax ay bx by_ cx cy * (quad p k bx by_ ax ay * quad p k cx cy ax ay) - sgn k * (det ax ay bx by_ cx cy * det ax ay bx by_ cx cy)) % p = 0 := by
  have hp := field_bd hf
  have b1 := quad_bd (p := p) (k := k) (ax := bx) (ay := by_) (bx := ax) (by_ := ay) (by omega)
  have b2 := quad_bd (p := p) (k := k) (ax := cx) (ay := cy) (bx := ax) (by_ := ay) (by omega)
  have hD := mul_ne hf (small_ne b1.1 b1.2 h1) (small_ne b2.1 b2.2 h2)
  have hi := inv_one hf hD
  have e1 : quad p k bx by_ ax ay % p = praw k (bx - ax) (by_ - ay) (bx - ax) (by_ - ay) % p := by rw [quad_raw, mm]
  have e2 : quad p k cx cy ax ay % p = praw k (cx - ax) (cy - ay) (cx - ax) (cy - ay) % p := by rw [quad_raw, mm]
  have e3 : prod p k ((bx - ax) % p) ((by_ - ay) % p) ((cx - ax) % p) ((cy - ay) % p) % p = praw k (bx - ax) (by_ - ay) (cx - ax) (cy - ay) % p := by rw [prod_rest, prod_raw, mm]
  have hl := lag (bx - ax) (by_ - ay) (cx - ax) (cy - ay) hk
  have hs : spreadP p k ax ay bx by_ cx cy = (1 - (prod p k ((bx - ax) % p) ((by_ - ay) % p) ((cx - ax) % p) ((cy - ay) % p) * prod p k ((bx - ax) % p) ((by_ - ay) % p) ((cx - ax) % p) ((cy - ay) % p) * inv p ((quad p k bx by_ ax ay * quad p k cx cy ax ay) % p)) % p) % p := rfl
  rw [hs]
  unfold det
  rw [← hl]
  generalize prod p k ((bx - ax) % p) ((by_ - ay) % p) ((cx - ax) % p) ((cy - ay) % p) = n at *
  generalize inv p ((quad p k bx by_ ax ay * quad p k cx cy ax ay) % p) = i at *
  generalize quad p k bx by_ ax ay = Q3 at *
  generalize quad p k cx cy ax ay = Q2 at *
  rw [cgS (cgM (mm p _) (rfl : (Q3 * Q2) % p = (Q3 * Q2) % p)) (cgS (cgM e1.symm e2.symm) (cgM e3.symm e3.symm))]
  rw [cgS (cgM (cgS (rfl : (1 : Int) % p = 1 % p) (mm p (n * n * i))) (rfl : (Q3 * Q2) % p = (Q3 * Q2) % p)) (rfl : (Q3 * Q2 - n * n) % p = (Q3 * Q2 - n * n) % p)]
  rw [Pl.lc (B := 0) (-(n * n)) hi (by grind)]
  simp
end Go.Proofs.Ytbjcbbnfgfmllaa.Pl
