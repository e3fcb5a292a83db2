/- Plain law, continued: lines with a spread, bisectors. No program in sight. -/
import Derived.Test.YtbjcbbnfgfmllaaPl10
set_option linter.unusedVariables false
set_option linter.unusedSimpArgs false
namespace Go.Proofs.Ytbjcbbnfgfmllaa.Pl
def lwsV (p k la lb lc ax ay s : Int) : Bool := colB k && lineB p la lb lc && ptB p ax ay && numB p s
def lwsC (p k la lb lc ax ay s : Int) : Int := if ask p (lwsV p k la lb lc ax ay s) = 0 then (if nullB p k la lb = true then 5 else 0) else ask p (lwsV p k la lb lc ax ay s)
theorem lwsC_ok {p k la lb lc ax ay s : Int} (h : lwsC p k la lb lc ax ay s = 0) : ask p (lwsV p k la lb lc ax ay s) = 0 ∧ nullB p k la lb = false := by
  unfold lwsC at h
  by_cases h0 : ask p (lwsV p k la lb lc ax ay s) = 0
  · rw [if_pos h0] at h
    cases h1 : nullB p k la lb with
    | true => rw [h1] at h; simp at h
    | false => exact ⟨h0, rfl⟩
  · rw [if_neg h0] at h
    exact absurd h h0
theorem lwsC_null {p k la lb lc ax ay s : Int} (h0 : ask p (lwsV p k la lb lc ax ay s) = 0) (h : ¬ lwsC p k la lb lc ax ay s = 0) : nullB p k la lb = true ∧ lwsC p k la lb lc ax ay s = 5 := by
  unfold lwsC at h ⊢
  rw [if_pos h0] at h ⊢
  cases h1 : nullB p k la lb with
  | true => simp
  | false => rw [h1] at h; simp at h
theorem lwsC_err {p k la lb lc ax ay s : Int} (h0 : ¬ ask p (lwsV p k la lb lc ax ay s) = 0) : lwsC p k la lb lc ax ay s = ask p (lwsV p k la lb lc ax ay s) := by unfold lwsC; rw [if_neg h0]
def bisC (p k la lb lc ma mb mc : Int) : Int := if twoL p k la lb lc ma mb mc = 0 then (if parB p la lb ma mb = true then 5 else 0) else twoL p k la lb lc ma mb mc
theorem bisC_ok {p k la lb lc ma mb mc : Int} (h : bisC p k la lb lc ma mb mc = 0) : twoL p k la lb lc ma mb mc = 0 ∧ parB p la lb ma mb = false := by
  unfold bisC at h
  by_cases h0 : twoL p k la lb lc ma mb mc = 0
  · rw [if_pos h0] at h
    cases h1 : parB p la lb ma mb with
    | true => rw [h1] at h; simp at h
    | false => exact ⟨h0, rfl⟩
  · rw [if_neg h0] at h
    exact absurd h h0
theorem bisC_par {p k la lb lc ma mb mc : Int} (h0 : twoL p k la lb lc ma mb mc = 0) (h : ¬ bisC p k la lb lc ma mb mc = 0) : parB p la lb ma mb = true ∧ bisC p k la lb lc ma mb mc = 5 := by
  unfold bisC at h ⊢
  rw [if_pos h0] at h ⊢
  cases h1 : parB p la lb ma mb with
  | true => simp
  | false => rw [h1] at h; simp at h
theorem bisC_err {p k la lb lc ma mb mc : Int} (h0 : ¬ twoL p k la lb lc ma mb mc = 0) : bisC p k la lb lc ma mb mc = twoL p k la lb lc ma mb mc := by unfold bisC; rw [if_neg h0]
theorem lnsW_and (N S : Int × Int × Int → Bool) (p ax ay : Int) : (lnsW N p ax ay).filter S = lnsW (fun m => N m && S m) p ax ay := by
  unfold lnsW
  rw [List.filter_filter]
  congr 1
  funext m
  exact Bool.and_comm _ _
theorem mem_lnsW {N : Int × Int × Int → Bool} {p ax ay : Int} {m : Int × Int × Int} (h : m ∈ lnsW N p ax ay) : m ∈ ltAll p ax ay := (List.mem_filter.1 h).1
end Go.Proofs.Ytbjcbbnfgfmllaa.Pl
