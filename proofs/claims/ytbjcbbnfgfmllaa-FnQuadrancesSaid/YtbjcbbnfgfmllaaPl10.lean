/- Plain law, continued: feet, spreads of triangles, bisectors. No program in sight. -/
import Derived.Test.YtbjcbbnfgfmllaaPl9
set_option linter.unusedVariables false
set_option linter.unusedSimpArgs false
namespace Go.Proofs.Ytbjcbbnfgfmllaa.Pl
theorem perp_par {p k la lb : Int} (hp : fieldB p = true) (hk : colB k = true) (hl : la = 1 ∨ la = 0 ∧ lb = 1) (h0 : 0 ≤ lb) (h1 : lb < p) (hn : nullB p k la lb = false) : parB p la lb (perpMa p k la lb) (perpMb p k la lb) = false := by
  have hb := field_bd hp
  obtain ⟨_, _, h2, h3, h4⟩ := perp_fin hp hk hl h0 h1
  obtain ⟨hd, _, _⟩ := perp_bd hp hk hl h0 h1
  rw [parB_eq hb.1 h0 h1 h2 h3 hl hd]
  cases h : (la == perpMa p k la lb && lb == perpMb p k la lb) with
  | false => rfl
  | true =>
    simp only [Bool.and_eq_true, beq_iff_eq] at h
    rw [← h.1, ← h.2] at h4
    rw [nullB, h4] at hn
    cases hn
def footX (p k ax ay la lb lc : Int) : Int := meetX p la lb lc (perpMa p k la lb) (perpMb p k la lb) (perpMc p k la lb ax ay)
def footY (p k ax ay la lb lc : Int) : Int := meetY p la lb lc (perpMa p k la lb) (perpMb p k la lb) (perpMc p k la lb ax ay)
def footOf (p k ax ay la lb lc : Int) : (Int × Int) × Int := if ask p (colB k && ptB p ax ay && lineB p la lb lc) = 0 then (if nullB p k la lb = true then ((0, 0), 5) else ((footX p k ax ay la lb lc, footY p k ax ay la lb lc), 0)) else ((0, 0), ask p (colB k && ptB p ax ay && lineB p la lb lc))
theorem perpMc_bd {p k la lb ax ay : Int} (hp : 1 ≤ p) : 0 ≤ perpMc p k la lb ax ay ∧ perpMc p k la lb ax ay < p := ⟨Int.emod_nonneg _ (by omega), Int.emod_lt_of_pos _ (by omega)⟩
/-- The three spreads of a triangle. -/
def sot (p k ax ay bx by_ cx cy : Int) : List Int := [spreadP p k ax ay bx by_ cx cy, spreadP p k bx by_ ax ay cx cy, spreadP p k cx cy ax ay bx by_]
theorem triC_sym {p k ax ay bx by_ cx cy : Int} (h : triC p k ax ay bx by_ cx cy = 0) : quad p k ax ay bx by_ ≠ 0 ∧ quad p k ax ay cx cy ≠ 0 ∧ quad p k bx by_ ax ay ≠ 0 ∧ quad p k bx by_ cx cy ≠ 0 ∧ quad p k cx cy ax ay ≠ 0 ∧ quad p k cx cy bx by_ ≠ 0 := by
  obtain ⟨_, _, h1, h2, h3⟩ := triC_ok h
  exact ⟨h1, h2, by rw [quad_sym]; exact h1, h3, by rw [quad_sym]; exact h2, by rw [quad_sym]; exact h3⟩
end Go.Proofs.Ytbjcbbnfgfmllaa.Pl
