/- Plain law, continued: crosses, spreads, twists of two lines; spreads of triangles. No program in sight. -/
import Derived.Test.YtbjcbbnfgfmllaaPl6
set_option linter.unusedVariables false
set_option linter.unusedSimpArgs false
namespace Go.Proofs.Ytbjcbbnfgfmllaa.Pl
theorem twoL_ok {p k la lb lc ma mb mc : Int} (h : twoL p k la lb lc ma mb mc = 0) : ask p (colB k && linesB p [(la, lb, lc), (ma, mb, mc)]) = 0 ∧ nullB p k la lb = false ∧ nullB p k ma mb = false := by
  unfold twoL at h
  by_cases h0 : ask p (colB k && linesB p [(la, lb, lc), (ma, mb, mc)]) = 0
  · rw [if_pos h0] at h
    by_cases h1 : nullB p k la lb = true ∨ nullB p k ma mb = true
    · rw [if_pos h1] at h; omega
    · exact ⟨h0, by simpa using fun e => h1 (.inl e), by simpa using fun e => h1 (.inr e)⟩
  · rw [if_neg h0] at h
    exact absurd h h0
def crossTo (p k la lb lc ma mb mc : Int) : Int × Int := if twoL p k la lb lc ma mb mc = 0 then (cross p k la lb ma mb, 0) else (0, twoL p k la lb lc ma mb mc)
def spreadTo (p k la lb lc ma mb mc : Int) : Int × Int := if twoL p k la lb lc ma mb mc = 0 then (spread p k la lb ma mb, 0) else (0, twoL p k la lb lc ma mb mc)
def twistTo (p k la lb lc ma mb mc : Int) : Int × Int := if twoL p k la lb lc ma mb mc = 0 then (if cross p k la lb ma mb = 0 then (0, 5) else (twistN p (cross p k la lb ma mb), 0)) else (0, twoL p k la lb lc ma mb mc)
theorem triC_ok {p k ax ay bx by_ cx cy : Int} (h : triC p k ax ay bx by_ cx cy = 0) : ask p (colB k && ptsB p [(ax, ay), (bx, by_), (cx, cy)]) = 0 ∧ area p ax ay bx by_ cx cy ≠ 0 ∧ quad p k ax ay bx by_ ≠ 0 ∧ quad p k ax ay cx cy ≠ 0 ∧ quad p k bx by_ cx cy ≠ 0 := by
  unfold triC at h
  by_cases h0 : ask p (colB k && ptsB p [(ax, ay), (bx, by_), (cx, cy)]) = 0
  · rw [if_pos h0] at h
    by_cases h1 : area p ax ay bx by_ cx cy = 0 ∨ quad p k ax ay bx by_ = 0 ∨ quad p k ax ay cx cy = 0 ∨ quad p k bx by_ cx cy = 0
    · rw [if_pos h1] at h; omega
    · exact ⟨h0, fun e => h1 (.inl e), fun e => h1 (.inr (.inl e)), fun e => h1 (.inr (.inr (.inl e))), fun e => h1 (.inr (.inr (.inr e)))⟩
  · rw [if_neg h0] at h
    exact absurd h h0
theorem quad_diff {p k ax ay bx by_ : Int} (hp : 1 ≤ p) (h : quad p k ax ay bx by_ ≠ 0) : ¬ (ax = bx ∧ ay = by_) := by
  rintro ⟨rfl, rfl⟩
  exact h (quad_same hp)
theorem spreadP_bd {p k ax ay bx by_ cx cy : Int} (hp : 1 ≤ p) : 0 ≤ spreadP p k ax ay bx by_ cx cy ∧ spreadP p k ax ay bx by_ cx cy < p := ⟨Int.emod_nonneg _ (by omega), Int.emod_lt_of_pos _ (by omega)⟩
/-- The spread as the program reckons it, at three points: value and whether there is one. -/
def satB (p k ax ay bx by_ cx cy : Int) : Bool := !(decide (quad p k ax ay bx by_ = 0) || decide (quad p k ax ay cx cy = 0))
def satV (p k ax ay bx by_ cx cy : Int) : Int := if satB p k ax ay bx by_ cx cy = true then spreadP p k ax ay bx by_ cx cy else 0
theorem sat_t {p k ax ay bx by_ cx cy : Int} (h : quad p k ax ay bx by_ ≠ 0) (h' : quad p k ax ay cx cy ≠ 0) : satB p k ax ay bx by_ cx cy = true ∧ satV p k ax ay bx by_ cx cy = spreadP p k ax ay bx by_ cx cy := by
  have : satB p k ax ay bx by_ cx cy = true := by simp [satB, h, h']
  exact ⟨this, by rw [satV, if_pos this]⟩
theorem sat_f {p k ax ay bx by_ cx cy : Int} (h : quad p k ax ay bx by_ = 0 ∨ quad p k ax ay cx cy = 0) : satB p k ax ay bx by_ cx cy = false ∧ satV p k ax ay bx by_ cx cy = 0 := by
  have : satB p k ax ay bx by_ cx cy = false := by rcases h with h | h <;> simp [satB, h]
  exact ⟨this, by rw [satV, this]; rfl⟩
theorem spreadP_s (p k x y z v : Int) : (1 - (prod p k x y z v * prod p k x y z v) % p * inv p ((prod p k x y x y * prod p k z v z v) % p)) % p = spreadV p k x y z v := by
  unfold spreadV crossV crossN
  rw [subR]
  refine cgS rfl ?_
  rw [mulL]
end Go.Proofs.Ytbjcbbnfgfmllaa.Pl
