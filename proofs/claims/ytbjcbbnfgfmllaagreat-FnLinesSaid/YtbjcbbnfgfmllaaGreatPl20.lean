/- Plain law: meets once more; lists are small. No program in sight. -/
import Derived.Test.YtbjcbbnfgfmllaaGreatPl19
set_option linter.unusedVariables false
set_option linter.unusedSimpArgs false
namespace Go.Proofs.YtbjcbbnfgfmllaaGreat.Pl
theorem meet_ex2 (p la lb lc ma mb mc : Int) : ∃ x y q q2, meetOf p la lb lc ma mb mc = ((x, y), q) ∧ parOf p la lb lc ma mb mc = ((q == 5), q2) ∧ sm2 x y ∧ (q = 0 → onOf p x y la lb lc = (true, 0) ∧ onOf p x y ma mb mc = (true, 0)) := by
  obtain ⟨x, y, q, b, q2, h1, h2, h3, h4, h5⟩ := meet_ex p la lb lc ma mb mc
  refine ⟨x, y, q, q2, h1, ?_, h3, h5⟩
  by_cases hq : q2 = 0
  · rw [h2, h4 hq]
  · by_cases h : ask p (linesB p [(la, lb, lc), (ma, mb, mc)]) = 0
    · unfold parOf at h2
      rw [if_pos h] at h2
      exact absurd (congrArg Prod.snd h2).symm hq
    · unfold meetOf at h1
      unfold parOf at h2 ⊢
      rw [if_neg h] at h1 h2 ⊢
      have e1 := congrArg Prod.snd h1
      have e2 := congrArg Prod.snd h2
      dsimp only at e1 e2
      have hv := ask_val p (linesB p [(la, lb, lc), (ma, mb, mc)])
      rw [← e1, ← e2]
      have : (ask p (linesB p [(la, lb, lc), (ma, mb, mc)]) == 5) = false := by
        rcases hv with h | h | h <;> rw [h] <;> rfl
      rw [this]
theorem pts_small {p la lb lc : Int} (h : ask p (linesB p [(la, lb, lc)]) = 0) : (ptsW (fun b => onB p b.1 b.2 la lb lc) p).length ≤ 100000 ∧ ∀ j, j < (ptsW (fun b => onB p b.1 b.2 la lb lc) p).length →
    0 ≤ ((ptsW (fun b => onB p b.1 b.2 la lb lc) p).getD j (0, 0)).1 ∧ ((ptsW (fun b => onB p b.1 b.2 la lb lc) p).getD j (0, 0)).1 ≤ 31 ∧ 0 ≤ ((ptsW (fun b => onB p b.1 b.2 la lb lc) p).getD j (0, 0)).2 ∧ ((ptsW (fun b => onB p b.1 b.2 la lb lc) p).getD j (0, 0)).2 ≤ 31 := by
  have hp := field_bd (ask_ok h).1
  have hl := ptsW_len (P := fun b => onB p b.1 b.2 la lb lc) (show 0 ≤ p by omega) hp.2
  exact ⟨by omega, fun j hj => on_small (by omega) hp.2 (getD_mem (0, 0) hj)⟩
theorem lns_small {p ax ay : Int} (h : ask p (ptsB p [(ax, ay)]) = 0) : (ltAll p ax ay).length ≤ 100000 ∧ ∀ j, j < (ltAll p ax ay).length →
    0 ≤ ((ltAll p ax ay).getD j (0, 0, 0)).1 ∧ ((ltAll p ax ay).getD j (0, 0, 0)).1 ≤ 31 ∧ 0 ≤ ((ltAll p ax ay).getD j (0, 0, 0)).2.1 ∧ ((ltAll p ax ay).getD j (0, 0, 0)).2.1 ≤ 31 ∧ 0 ≤ ((ltAll p ax ay).getD j (0, 0, 0)).2.2 ∧ ((ltAll p ax ay).getD j (0, 0, 0)).2.2 ≤ 31 := by
  have hp := field_bd (ask_ok h).1
  have hl := ltAll_len p ax ay
  refine ⟨by omega, fun j hj => ?_⟩
  have hm := getD_mem (0, 0, 0) hj
  obtain ⟨d, y1, y2, z1, z2⟩ := mem_ltAll (by omega) (show (((ltAll p ax ay).getD j (0, 0, 0)).1, ((ltAll p ax ay).getD j (0, 0, 0)).2.1, ((ltAll p ax ay).getD j (0, 0, 0)).2.2) ∈ ltAll p ax ay from hm)
  refine ⟨by omega, by omega, by omega, by omega, by omega, by omega⟩
end Go.Proofs.YtbjcbbnfgfmllaaGreat.Pl
