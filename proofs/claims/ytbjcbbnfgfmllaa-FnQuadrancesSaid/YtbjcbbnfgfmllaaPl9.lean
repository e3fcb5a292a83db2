/- Plain law, continued: the line through a point that is perpendicular to a line; null lines. No program in sight. -/
import Derived.Test.YtbjcbbnfgfmllaaPl8
set_option linter.unusedVariables false
set_option linter.unusedSimpArgs false
namespace Go.Proofs.Ytbjcbbnfgfmllaa.Pl
theorem lt_get0 (p ax ay : Int) : (ltAll p ax ay).getD 0 (0, 0, 0) = (0, 1, (-ay) % p) := rfl
theorem lt_getS (p ax ay : Int) {j : Nat} (h : (j : Int) < p) : (ltAll p ax ay).getD (j + 1) (0, 0, 0) = (1, (j : Int), (-ax - (j : Int) * ay) % p) := by
  have hj : j < p.toNat := by omega
  simp [ltAll, ltTo, hj]
theorem nrm01 {p x : Int} (hp : fieldB p = true) : nrm p 0 1 x = x % p := nrm_line hp (.inr ⟨rfl, rfl⟩)
theorem nrm1b {p b x : Int} (hp : fieldB p = true) : nrm p 1 b x = x % p := nrm_line hp (.inl rfl)
theorem one_mod {p : Int} (hp : 2 ≤ p) : (1 : Int) % p = 1 := Int.emod_eq_of_lt (by omega) (by omega)
theorem negadd (p ax ay b : Int) : (-(ax + b * ay)) % p = (-ax - b * ay) % p := by congr 1; omega
def perpMc (p k la lb ax ay : Int) : Int := (-(perpMa p k la lb * ax + perpMb p k la lb * ay)) % p
theorem perp_one {p k la lb a b : Int} (hp : fieldB p = true) (hk : colB k = true) (hl : la = 1 ∨ la = 0 ∧ lb = 1) (h0 : 0 ≤ lb) (h1 : lb < p) (hm : a = 1 ∨ a = 0 ∧ b = 1) (h2 : 0 ≤ b) (h3 : b < p) (h : perpB p k la lb a b = true) : a = perpMa p k la lb ∧ b = perpMb p k la lb := by
  have h' := primesB_spec (f := fun p => colsB fun k => dirsB p fun la lb => dirsB p fun a b => !perpB p k la lb a b || (a == perpMa p k la lb && b == perpMb p k la lb)) (by decide +kernel) hp
  have h' := dirsB_spec (dirsB_spec (colsB_spec h' hk) hl h0 h1) hm h2 h3
  rw [h] at h'
  simpa using h'
theorem perp_hit {p k la lb ax ay a b c : Int} (hp : fieldB p = true) (hk : colB k = true) (hl : la = 1 ∨ la = 0 ∧ lb = 1) (h0 : 0 ≤ lb) (h1 : lb < p) (hm : (a, b, c) ∈ ltAll p ax ay) (h : perpB p k la lb a b = true) : a = perpMa p k la lb ∧ b = perpMb p k la lb ∧ c = perpMc p k la lb ax ay := by
  have hb := field_bd hp
  obtain ⟨hd, h2, h3, h4, h5⟩ := mem_ltAll (by omega) hm
  obtain ⟨e1, e2⟩ := perp_one hp hk hl h0 h1 hd h2 h3 h
  refine ⟨e1, e2, ?_⟩
  unfold perpMc
  rw [← e1, ← e2]
  simp only [ltAll, ltTo, List.mem_cons, List.mem_map, List.mem_range, Prod.mk.injEq] at hm
  rcases hm with ⟨rfl, rfl, rfl⟩ | ⟨i, hi, rfl, rfl, rfl⟩
  · exact (par0 p ax ay).symm
  · exact (par1 p ax ay i).symm
theorem perp_mem {p k la lb ax ay : Int} (hp : fieldB p = true) (hk : colB k = true) (hl : la = 1 ∨ la = 0 ∧ lb = 1) (h0 : 0 ≤ lb) (h1 : lb < p) : ∃ m ∈ ltAll p ax ay, perpB p k la lb m.1 m.2.1 = true := by
  have hb := field_bd hp
  obtain ⟨_, _, h2, h3, h4⟩ := perp_fin hp hk hl h0 h1
  by_cases hz : perpB p k la lb 0 1 = true
  · exact ⟨(0, 1, (-ay) % p), by simp [ltAll, ltTo], hz⟩
  · have ha : perpMa p k la lb = 1 := by unfold perpMa; rw [if_neg hz]
    refine ⟨(1, perpMb p k la lb, (-ax - perpMb p k la lb * ay) % p), ?_, by rw [ha] at h4; exact h4⟩
    simp only [ltAll, ltTo, List.mem_cons, List.mem_map, List.mem_range, Prod.mk.injEq]
    exact .inr ⟨(perpMb p k la lb).toNat, by omega, trivial, by omega, by rw [Int.toNat_of_nonneg h2]⟩
theorem perp_none {p k la lb ax ay : Int} (hp : fieldB p = true) (hk : colB k = true) (hl : la = 1 ∨ la = 0 ∧ lb = 1) (h0 : 0 ≤ lb) (h1 : lb < p) (h : (ltAll p ax ay).all (fun m => !perpB p k la lb m.1 m.2.1) = true) : False := by
  obtain ⟨m, hm, h2⟩ := perp_mem (ax := ax) (ay := ay) hp hk hl h0 h1
  have := List.all_eq_true.1 h m hm
  rw [h2] at this
  cases this
theorem perp_bd {p k la lb : Int} (hp : fieldB p = true) (hk : colB k = true) (hl : la = 1 ∨ la = 0 ∧ lb = 1) (h0 : 0 ≤ lb) (h1 : lb < p) : (perpMa p k la lb = 1 ∨ perpMa p k la lb = 0 ∧ perpMb p k la lb = 1) ∧ 0 ≤ perpMb p k la lb ∧ perpMb p k la lb < p := by
  obtain ⟨_, _, h2, h3, h4⟩ := perp_fin hp hk hl h0 h1
  refine ⟨?_, h2, h3⟩
  unfold perpMa perpMb
  by_cases hz : perpB p k la lb 0 1 = true
  · rw [if_pos hz, if_pos hz]; exact .inr ⟨rfl, rfl⟩
  · rw [if_neg hz]; exact .inl rfl
/-- The reference's line. -/
theorem perp_third {p k la lb ax ay x : Int} (hp : fieldB p = true) (hk : colB k = true) (hl : la = 1 ∨ la = 0 ∧ lb = 1) (h0 : 0 ≤ lb) (h1 : lb < p) (hx : x = -(perpU p k la lb * ax + perpV p k la lb * ay)) :
    nrm p (perpU p k la lb) (perpV p k la lb) (x % p) = perpMc p k la lb ax ay := by
  obtain ⟨e1, e2, _⟩ := perp_fin hp hk hl h0 h1
  subst hx
  unfold perpMc
  rw [← e1, ← e2]
  unfold nrm
  generalize inv p (first p (perpU p k la lb) (perpV p k la lb)) = i
  generalize perpU p k la lb = u
  generalize perpV p k la lb = v
  have h3 : (-(u * i % p * ax + v * i % p * ay)) % p = (-(u * i * ax + v * i * ay)) % p := cgN (cgA (cgM (Int.emod_emod _ _) rfl) (cgM (Int.emod_emod _ _) rfl))
  rw [h3, mulL]
  congr 1
  grind
def perpTOf (p k la lb lc ax ay : Int) : (Int × Int × Int) × Int := if ask p (colB k && lineB p la lb lc && ptB p ax ay) = 0 then ((perpMa p k la lb, perpMb p k la lb, perpMc p k la lb ax ay), 0) else ((0, 0, 0), ask p (colB k && lineB p la lb lc && ptB p ax ay))
end Go.Proofs.Ytbjcbbnfgfmllaa.Pl
