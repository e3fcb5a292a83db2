/- Plain law: perpendiculars and feet, as a great law asks of them. No program in sight. -/
import Derived.Test.YtbjcbbnfgfmllaaPl15
set_option linter.unusedVariables false
set_option linter.unusedSimpArgs false
namespace Go.Proofs.Ytbjcbbnfgfmllaa.Pl
def small3 (a b c : Int) : Prop := (0 ≤ a ∧ a ≤ 31) ∧ (0 ≤ b ∧ b ≤ 31) ∧ 0 ≤ c ∧ c ≤ 31
def small2 (a b : Int) : Prop := (0 ≤ a ∧ a ≤ 31) ∧ 0 ≤ b ∧ b ≤ 31
theorem perpT_ex (p k la lb lc ax ay : Int) : ∃ a b c q, perpTOf p k la lb lc ax ay = ((a, b, c), q) ∧ small3 a b c ∧ (q = 0 ∨ (a = 0 ∧ b = 0 ∧ c = 0)) ∧ (q = 0 → perpOf p k la lb lc a b c = (true, 0) ∧ onOf p ax ay a b c = (true, 0)) := by
  by_cases h : ask p (colB k && lineB p la lb lc && ptB p ax ay) = 0
  · refine ⟨perpMa p k la lb, perpMb p k la lb, perpMc p k la lb ax ay, 0, by unfold perpTOf; rw [if_pos h], ?_, .inl rfl, fun _ => perp_law h⟩
    obtain ⟨hf, hv⟩ := ask_ok h
    have hp := field_bd hf
    simp only [Bool.and_eq_true] at hv
    obtain ⟨⟨hk, hl⟩, ha⟩ := hv
    obtain ⟨la1, la2, lb1, lb2, lc1, lc2, hd⟩ := lineB_bd hl
    obtain ⟨hd2, m1, m2⟩ := perp_bd hf hk hd lb1 lb2
    obtain ⟨c1, c2⟩ := perpMc_bd (p := p) (k := k) (la := la) (lb := lb) (ax := ax) (ay := ay) (by omega)
    exact ⟨by omega, by omega, by omega⟩
  · exact ⟨0, 0, 0, _, by unfold perpTOf; rw [if_neg h], ⟨by omega, by omega, by omega⟩, .inr ⟨rfl, rfl, rfl⟩, fun hq => absurd hq h⟩
theorem foot_ex (p k ax ay la lb lc : Int) : ∃ x y q, footOf p k ax ay la lb lc = ((x, y), q) ∧ small2 x y ∧
    (q = 0 → onOf p x y la lb lc = (true, 0) ∧ ∃ a b c, perpTOf p k la lb lc ax ay = ((a, b, c), 0) ∧ onOf p x y a b c = (true, 0)) := by
  by_cases h : ask p (colB k && ptB p ax ay && lineB p la lb lc) = 0
  · by_cases hn : nullB p k la lb = true
    · exact ⟨0, 0, 5, by unfold footOf; rw [if_pos h, if_pos hn], ⟨by omega, by omega⟩, fun hq => by omega⟩
    · have hp := field_bd (ask_ok h).1
      obtain ⟨⟨f1, f2⟩, f3, f4⟩ := foot_bd (p := p) (k := k) (ax := ax) (ay := ay) (la := la) (lb := lb) (lc := lc) (by omega)
      obtain ⟨h1, h2, h3⟩ := foot_law h (by simpa using hn)
      exact ⟨_, _, 0, by unfold footOf; rw [if_pos h, if_neg hn], ⟨by omega, by omega⟩, fun _ => ⟨h1, _, _, _, h2, h3⟩⟩
  · exact ⟨0, 0, _, by unfold footOf; rw [if_neg h], ⟨by omega, by omega⟩, fun hq => absurd hq h⟩
theorem getD_null {p k ax ay : Int} {j : Nat} (h : ask p (colB k && ptsB p [(ax, ay)]) = 0) (hj : j < (lnsW (fun m => nullB p k m.1 m.2.1) p ax ay).length) :
    nullOf p k ((lnsW (fun m => nullB p k m.1 m.2.1) p ax ay).getD j (0, 0, 0)).1 ((lnsW (fun m => nullB p k m.1 m.2.1) p ax ay).getD j (0, 0, 0)).2.1 ((lnsW (fun m => nullB p k m.1 m.2.1) p ax ay).getD j (0, 0, 0)).2.2 = (true, 0) ∧
    onOf p ax ay ((lnsW (fun m => nullB p k m.1 m.2.1) p ax ay).getD j (0, 0, 0)).1 ((lnsW (fun m => nullB p k m.1 m.2.1) p ax ay).getD j (0, 0, 0)).2.1 ((lnsW (fun m => nullB p k m.1 m.2.1) p ax ay).getD j (0, 0, 0)).2.2 = (true, 0) ∧
    small3 ((lnsW (fun m => nullB p k m.1 m.2.1) p ax ay).getD j (0, 0, 0)).1 ((lnsW (fun m => nullB p k m.1 m.2.1) p ax ay).getD j (0, 0, 0)).2.1 ((lnsW (fun m => nullB p k m.1 m.2.1) p ax ay).getD j (0, 0, 0)).2.2 := by
  obtain ⟨h1, h2, h3⟩ := null_mem h (getD_mem (0, 0, 0) hj)
  exact ⟨h1, h2, h3⟩
end Go.Proofs.Ytbjcbbnfgfmllaa.Pl
