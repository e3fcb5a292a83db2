/- Plain law, continued: how many lines have each spread. No program in sight. -/
import Derived.Test.YtjjidjcflimhgaaPl9
set_option linter.unusedVariables false
set_option linter.unusedSimpArgs false
namespace Go.Proofs.Ytjjidjcflimhgaa.Pl
def bump (l : List Int) (i : Int) : List Int := l.set i.toNat (l.getD i.toNat 0 + 1)
def cbs (p k la lb : Int) (ms : List (Int × Int × Int)) : List Int := ms.foldl (fun acc m => if !nullB p k m.1 m.2.1 then bump acc (spread p k la lb m.1 m.2.1) else acc) (List.replicate p.toNat 0)
def cbs2 (p k la lb : Int) (ms : List (Int × Int × Int)) : List Int := ms.foldl (fun acc m => bump acc (spread p k la lb m.1 m.2.1)) (List.replicate p.toNat 0)
theorem cbs_filter (p k la lb : Int) (ms : List (Int × Int × Int)) : cbs2 p k la lb (ms.filter fun m => !nullB p k m.1 m.2.1) = cbs p k la lb ms := by
  unfold cbs cbs2
  rw [List.foldl_filter]
theorem cbs_nil (p k la lb : Int) : cbs p k la lb [] = List.replicate p.toNat 0 := rfl
theorem cbs2_nil (p k la lb : Int) : cbs2 p k la lb [] = List.replicate p.toNat 0 := rfl
theorem bump_len (l : List Int) (i : Int) : (bump l i).length = l.length := by simp [bump]
theorem cbs_len (p k la lb : Int) (ms : List (Int × Int × Int)) : (cbs p k la lb ms).length = p.toNat := by
  suffices h : ∀ (ms : List (Int × Int × Int)) (acc : List Int), (ms.foldl (fun acc m => if !nullB p k m.1 m.2.1 then bump acc (spread p k la lb m.1 m.2.1) else acc) acc).length = acc.length by
    unfold cbs; rw [h]; simp
  intro ms
  induction ms with
  | nil => intro acc; rfl
  | cons m ms ih => intro acc; rw [List.foldl_cons, ih]; split <;> simp [bump_len]
theorem cbs2_len (p k la lb : Int) (ms : List (Int × Int × Int)) : (cbs2 p k la lb ms).length = p.toNat := by
  suffices h : ∀ (ms : List (Int × Int × Int)) (acc : List Int), (ms.foldl (fun acc m => bump acc (spread p k la lb m.1 m.2.1)) acc).length = acc.length by
    unfold cbs2; rw [h]; simp
  intro ms
  induction ms with
  | nil => intro acc; rfl
  | cons m ms ih => intro acc; rw [List.foldl_cons, ih, bump_len]
theorem cbs_step (p k la lb : Int) {L : List (Int × Int × Int)} {j : Nat} (h : j < L.length) : cbs p k la lb (L.take (j + 1)) = if !nullB p k (L.getD j (0, 0, 0)).1 (L.getD j (0, 0, 0)).2.1 then bump (cbs p k la lb (L.take j)) (spread p k la lb (L.getD j (0, 0, 0)).1 (L.getD j (0, 0, 0)).2.1) else cbs p k la lb (L.take j) := by
  have e : L.getD j (0, 0, 0) = L[j] := by simp [h]
  rw [List.take_succ_eq_append_getElem h, e]
  unfold cbs
  rw [List.foldl_append]
  rfl
theorem cbs2_step (p k la lb : Int) {L : List (Int × Int × Int)} {j : Nat} (h : j < L.length) : cbs2 p k la lb (L.take (j + 1)) = bump (cbs2 p k la lb (L.take j)) (spread p k la lb (L.getD j (0, 0, 0)).1 (L.getD j (0, 0, 0)).2.1) := by
  have e : L.getD j (0, 0, 0) = L[j] := by simp [h]
  rw [List.take_succ_eq_append_getElem h, e]
  unfold cbs2
  rw [List.foldl_append]
  rfl
/-- All counts are small. -/
def smallL (l : List Int) (b : Int) : Prop := ∀ x ∈ l, 0 ≤ x ∧ x ≤ b
theorem small_getD {l : List Int} {b : Int} (hb : 0 ≤ b) (h : smallL l b) (i : Nat) : 0 ≤ l.getD i 0 ∧ l.getD i 0 ≤ b := by
  by_cases hi : i < l.length
  · have e : l.getD i 0 = l[i] := by simp [hi]
    rw [e]; exact h _ (List.getElem_mem hi)
  · have e : l.getD i 0 = 0 := by simp [List.getElem?_eq_none (show l.length ≤ i by omega)]
    rw [e]; omega
theorem small_bump {l : List Int} {b i : Int} (hb : 0 ≤ b) (h : smallL l b) : smallL (bump l i) (b + 1) := by
  intro x hx
  have h2 := small_getD hb h i.toNat
  rcases List.mem_or_eq_of_mem_set hx with h1 | h1
  · have := h x h1; omega
  · omega
theorem small_mono {l : List Int} {b c : Int} (h : smallL l b) (hc : b ≤ c) : smallL l c := fun x hx => by have := h x hx; omega
theorem cbs_small (p k la lb : Int) : ∀ (L : List (Int × Int × Int)) (j : Nat), j ≤ L.length → smallL (cbs p k la lb (L.take j)) j
  | L, 0, _ => by intro x hx; simp [cbs_nil] at hx; omega
  | L, j + 1, h => by
    have ih := cbs_small p k la lb L j (by omega)
    rw [cbs_step p k la lb (by omega)]
    split
    · have := small_bump (i := spread p k la lb (L.getD j (0, 0, 0)).1 (L.getD j (0, 0, 0)).2.1) (by omega) ih; push_cast; exact this
    · exact small_mono ih (by omega)
theorem cbs2_small (p k la lb : Int) : ∀ (L : List (Int × Int × Int)) (j : Nat), j ≤ L.length → smallL (cbs2 p k la lb (L.take j)) j
  | L, 0, _ => by intro x hx; simp [cbs2_nil] at hx; omega
  | L, j + 1, h => by
    have ih := cbs2_small p k la lb L j (by omega)
    rw [cbs2_step p k la lb (by omega)]
    have := small_bump (i := spread p k la lb (L.getD j (0, 0, 0)).1 (L.getD j (0, 0, 0)).2.1) (by omega) ih; push_cast; exact this
theorem bump_nat (l : List Int) (s : Nat) : bump l (s : Int) = l.set s (l.getD s 0 + 1) := by simp [bump]
/-- CountBySpread's list and code. -/
def cbsL (p k la lb : Int) : List Int := cbs p k la lb (ltAll p 0 0)
def cbsC (p k la lb lc : Int) : Int := if ask p (colB k && linesB p [(la, lb, lc)]) = 0 then (if nullB p k la lb = true then 5 else 0) else ask p (colB k && linesB p [(la, lb, lc)])
theorem cbsC_ok {p k la lb lc : Int} (h : cbsC p k la lb lc = 0) : ask p (colB k && linesB p [(la, lb, lc)]) = 0 ∧ nullB p k la lb = false := by
  unfold cbsC at h
  by_cases h0 : ask p (colB k && linesB p [(la, lb, lc)]) = 0
  · rw [if_pos h0] at h
    cases h1 : nullB p k la lb with
    | true => rw [h1] at h; simp at h
    | false => exact ⟨h0, rfl⟩
  · rw [if_neg h0] at h
    exact absurd h h0
theorem cbsC_null {p k la lb lc : Int} (h0 : ask p (colB k && linesB p [(la, lb, lc)]) = 0) (h : ¬ cbsC p k la lb lc = 0) : nullB p k la lb = true ∧ cbsC p k la lb lc = 5 := by
  unfold cbsC at h ⊢
  rw [if_pos h0] at h ⊢
  cases h1 : nullB p k la lb with
  | true => simp
  | false => rw [h1] at h; simp at h
theorem cbsC_err {p k la lb lc : Int} (h0 : ¬ ask p (colB k && linesB p [(la, lb, lc)]) = 0) : cbsC p k la lb lc = ask p (colB k && linesB p [(la, lb, lc)]) := by unfold cbsC; rw [if_neg h0]
theorem mem_filt {N : Int × Int × Int → Bool} {p ax ay : Int} {m : Int × Int × Int} (h : m ∈ lnsW N p ax ay) : m ∈ ltAll p ax ay := (List.mem_filter.1 h).1
end Go.Proofs.Ytjjidjcflimhgaa.Pl
