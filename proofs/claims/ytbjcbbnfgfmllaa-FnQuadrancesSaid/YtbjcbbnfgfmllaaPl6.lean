/- Plain law, continued: meets, lines through two points, spreads at points, lists. No program in sight. -/
import Derived.Test.YtbjcbbnfgfmllaaPl5
import Derived.Test.YtbjcbbnfgfmllaaPl3
set_option linter.unusedVariables false
set_option linter.unusedSimpArgs false
namespace Go.Proofs.Ytbjcbbnfgfmllaa.Pl
theorem neg1 {p : Int} (hp : 3 ≤ p) : (-1 : Int) % p ≠ 0 := by
  rw [show (-1 : Int) = (p - 1) - p by omega, Int.sub_emod_right, Int.emod_eq_of_lt (by omega) (by omega)]
  omega
theorem nrm_cg {p a b x a' b' x' : Int} (ha : a % p = a' % p) (hb : b % p = b' % p) (hx : x % p = x' % p) : nrm p a b x = nrm p a' b' x' := by
  have h1 := nrm_rest p a b x
  have h2 := nrm_rest p a' b' x'
  rw [← h1, ← h2, ha, hb, hx]
theorem nrm_scale {p s a b x : Int} (hp : fieldB p = true) (hs : s % p ≠ 0) (hab : a % p ≠ 0 ∨ b % p ≠ 0) : nrm p (s * a) (s * b) (s * x) = nrm p a b x := by
  have key : ∀ f, f % p ≠ 0 → (s * x * inv p ((s * f) % p)) % p = (x * inv p (f % p)) % p := by
    intro f hf
    have h := inv_scale hp hs hf (mul_ne hp hs hf)
    rw [show s * x * inv p ((s * f) % p) = x * (s * inv p ((s * f) % p)) by grind, ← mulR, h]
  unfold nrm first
  by_cases ha : a % p = 0
  · have h0 : (s * a) % p = 0 := by rw [Int.mul_emod, ha]; simp
    rw [if_pos h0, if_pos ha]
    exact key b (hab.resolve_left fun h => h ha)
  · rw [if_neg (mul_ne hp hs ha), if_neg ha]
    exact key a ha
theorem ne_of {p a b : Int} (ha : 0 ≤ a) (ha2 : a < p) (hb : 0 ≤ b) (hb2 : b < p) (h : a ≠ b) : (b - a) % p ≠ 0 := by
  intro h0
  have h1 : b % p = a % p := Int.emod_eq_emod_iff_emod_sub_eq_zero.2 h0
  rw [Int.emod_eq_of_lt ha ha2, Int.emod_eq_of_lt hb hb2] at h1
  exact h h1.symm
theorem ne_pt {p ax ay bx by_ : Int} (h1 : 0 ≤ ax) (h2 : ax < p) (h3 : 0 ≤ ay) (h4 : ay < p) (h5 : 0 ≤ bx) (h6 : bx < p) (h7 : 0 ≤ by_) (h8 : by_ < p) (h : ¬ (ax = bx ∧ ay = by_)) : (by_ - ay) % p ≠ 0 ∨ (bx - ax) % p ≠ 0 := by
  by_cases hx : ax = bx
  · exact .inl (ne_of h3 h4 h7 h8 fun hy => h ⟨hx, hy⟩)
  · exact .inr (ne_of h1 h2 h5 h6 hx)
theorem neg_ne {p x : Int} (h : x % p ≠ 0) : (-x) % p ≠ 0 := by
  intro h0
  have h1 := negM p (-x)
  rw [h0, Int.neg_neg] at h1
  simp at h1
  exact h h1.symm
/-- The line through two points, as the reference makes it. -/
theorem th_spec {p ax ay bx by_ : Int} (hp : fieldB p = true) (h : (by_ - ay) % p ≠ 0 ∨ (bx - ax) % p ≠ 0) :
    nrm p (ay - by_) (bx - ax) (ay - by_) = thA p ax ay bx by_ ∧ nrm p (ay - by_) (bx - ax) (bx - ax) = thB p ax ay bx by_ ∧ nrm p (ay - by_) (bx - ax) (ax * by_ - bx * ay) = thC p ax ay bx by_ := by
  have hb := field_bd hp
  have h' : (ay - by_) % p ≠ 0 ∨ (bx - ax) % p ≠ 0 := by
    rcases h with h | h
    · left
      have := neg_ne h
      rwa [show -(by_ - ay) = ay - by_ by omega] at this
    · exact .inr h
  have e1 : (-1 * (ay - by_)) % p = ((by_ - ay) % p) % p := by rw [Int.emod_emod]; congr 1; omega
  have e2 : (-1 * (bx - ax)) % p = (-((bx - ax) % p)) % p := by rw [negM]; congr 1; omega
  have e3 : (-1 * (ax * by_ - bx * ay)) % p = (-((by_ - ay) % p * ax + -((bx - ax) % p) * ay)) % p := by
    have e4 : ((by_ - ay) % p * ax + -((bx - ax) % p) * ay) % p = ((by_ - ay) * ax + -(bx - ax) * ay) % p := cgA (cgM (Int.emod_emod _ _) rfl) (cgM (negM _ _) rfl)
    rw [cgN e4]
    congr 1
    grind
  refine ⟨?_, ?_, ?_⟩
  · rw [← nrm_scale hp (neg1 hb.1) h', nrm_cg e1 e2 e1]; rfl
  · rw [← nrm_scale hp (neg1 hb.1) h', nrm_cg e1 e2 e2]; rfl
  · rw [← nrm_scale hp (neg1 hb.1) h', nrm_cg e1 e2 e3]; rfl
def ltOf (p ax ay bx by_ : Int) : (Int × Int × Int) × Int := if ask p (ptsB p [(ax, ay), (bx, by_)]) = 0 then (if ax = bx ∧ ay = by_ then ((0, 0, 0), 5) else ((thA p ax ay bx by_, thB p ax ay bx by_, thC p ax ay bx by_), 0)) else ((0, 0, 0), ask p (ptsB p [(ax, ay), (bx, by_)]))
theorem th_bd {p ax ay bx by_ : Int} (hp : 1 ≤ p) : (0 ≤ thA p ax ay bx by_ ∧ thA p ax ay bx by_ < p) ∧ (0 ≤ thB p ax ay bx by_ ∧ thB p ax ay bx by_ < p) ∧ 0 ≤ thC p ax ay bx by_ ∧ thC p ax ay bx by_ < p := ⟨nrm_bd hp, nrm_bd hp, nrm_bd hp⟩
/-- The meet of two lines. -/
def meetX (p la lb lc ma mb mc : Int) : Int := ((lb * mc - lc * mb) * inv p ((la * mb - lb * ma) % p)) % p
def meetY (p la lb lc ma mb mc : Int) : Int := ((lc * ma - la * mc) * inv p ((la * mb - lb * ma) % p)) % p
def meetOf (p la lb lc ma mb mc : Int) : (Int × Int) × Int := if ask p (linesB p [(la, lb, lc), (ma, mb, mc)]) = 0 then (if parB p la lb ma mb = true then ((0, 0), 5) else ((meetX p la lb lc ma mb mc, meetY p la lb lc ma mb mc), 0)) else ((0, 0), ask p (linesB p [(la, lb, lc), (ma, mb, mc)]))
theorem meetX_i (p la lb lc ma mb mc : Int) : ((lb * mc - lc * mb) % p * inv p ((la * mb - lb * ma) % p)) % p = meetX p la lb lc ma mb mc := by unfold meetX; rw [mulL]
theorem meetY_i (p la lb lc ma mb mc : Int) : ((lc * ma - la * mc) % p * inv p ((la * mb - lb * ma) % p)) % p = meetY p la lb lc ma mb mc := by unfold meetY; rw [mulL]
theorem meetX_s (p la lb lc ma mb mc : Int) (hp : 1 ≤ p) : ((lb * mc - mb * lc).tmod p * inv p ((la * mb - lb * ma) % p)) % p = meetX p la lb lc ma mb mc := by rw [tmodL _ _ _ hp, Int.mul_comm mb lc]; rfl
theorem meetY_s (p la lb lc ma mb mc : Int) (hp : 1 ≤ p) : ((ma * lc - la * mc).tmod p * inv p ((la * mb - lb * ma) % p)) % p = meetY p la lb lc ma mb mc := by rw [tmodL _ _ _ hp, Int.mul_comm ma lc]; rfl
theorem meet_bd {p la lb lc ma mb mc : Int} (hp : 1 ≤ p) : (0 ≤ meetX p la lb lc ma mb mc ∧ meetX p la lb lc ma mb mc < p) ∧ 0 ≤ meetY p la lb lc ma mb mc ∧ meetY p la lb lc ma mb mc < p := ⟨⟨Int.emod_nonneg _ (by omega), Int.emod_lt_of_pos _ (by omega)⟩, Int.emod_nonneg _ (by omega), Int.emod_lt_of_pos _ (by omega)⟩
/-- The line through two points has their difference, or a multiple of it, for its direction. -/
theorem th_dir {p ax ay bx by_ : Int} (hp : fieldB p = true) (h : (by_ - ay) % p ≠ 0 ∨ (bx - ax) % p ≠ 0) :
    ∃ s, s % p ≠ 0 ∧ (-(thB p ax ay bx by_)) % p = (s * ((bx - ax) % p)) % p ∧ thA p ax ay bx by_ = (s * ((by_ - ay) % p)) % p := by
  have hb := field_bd hp
  refine ⟨inv p (first p ((by_ - ay) % p) (-((bx - ax) % p))), ?_, ?_, ?_⟩
  · have hf : first p ((by_ - ay) % p) (-((bx - ax) % p)) ≠ 0 := by
      unfold first
      rw [Int.emod_emod, negM]
      by_cases h0 : (by_ - ay) % p = 0
      · rw [if_pos h0]
        exact neg_ne (h.resolve_left fun k => k h0)
      · rw [if_neg h0]
        exact h0
    have hbd := first_bd (p := p) (a := (by_ - ay) % p) (b := -((bx - ax) % p)) (by omega)
    have hi := (inv_facts hp hbd.1 hbd.2).1 hf
    intro h0
    rw [Int.mul_emod, h0] at hi
    simp at hi
  · unfold thB nrm
    rw [negM]
    congr 1
    grind
  · unfold thA nrm
    congr 1
    grind
theorem null_th {p k ax ay bx by_ : Int} (hp : fieldB p = true) (h : (by_ - ay) % p ≠ 0 ∨ (bx - ax) % p ≠ 0) :
    nullB p k (thA p ax ay bx by_) (thB p ax ay bx by_) = (quad p k ax ay bx by_ == 0) := by
  have hb := field_bd hp
  obtain ⟨s, hs, h1, h2⟩ := th_dir hp h
  unfold nullB perpB
  rw [h1, h2, prod_scale, ← quad_sym]
  have hq := quad_bd (p := p) (k := k) (ax := bx) (ay := by_) (bx := ax) (by_ := ay) (by omega)
  unfold quad at hq ⊢
  generalize prod p k ((bx - ax) % p) ((by_ - ay) % p) ((bx - ax) % p) ((by_ - ay) % p) = U at *
  rw [Bool.eq_iff_iff]
  simp only [beq_iff_eq]
  constructor
  · intro h0
    refine Decidable.byContradiction fun hU => ?_
    have hU' : U % p ≠ 0 := by rw [Int.emod_eq_of_lt hq.1 hq.2]; exact hU
    exact mul_ne hp (mul_ne hp hs hs) hU' h0
  · rintro rfl
    simp
/-- The spread at a of b and c. -/
def spreadP (p k ax ay bx by_ cx cy : Int) : Int := spreadV p k ((bx - ax) % p) ((by_ - ay) % p) ((cx - ax) % p) ((cy - ay) % p)
theorem spread_th {p k ax ay bx by_ cx cy : Int} (hp : fieldB p = true) (h : (by_ - ay) % p ≠ 0 ∨ (bx - ax) % p ≠ 0) (h' : (cy - ay) % p ≠ 0 ∨ (cx - ax) % p ≠ 0)
    (hq : quad p k ax ay bx by_ ≠ 0) (hq' : quad p k ax ay cx cy ≠ 0) :
    spread p k (thA p ax ay bx by_) (thB p ax ay bx by_) (thA p ax ay cx cy) (thB p ax ay cx cy) = spreadP p k ax ay bx by_ cx cy := by
  obtain ⟨s, hs, h1, h2⟩ := th_dir hp h
  obtain ⟨t, ht, h3, h4⟩ := th_dir hp h'
  rw [← quad_sym] at hq hq'
  unfold quad at hq hq'
  unfold spread cross spreadP spreadV
  rw [h1, h2, h3, h4, cross_scale hp hs ht hq hq']
theorem quad_same {p k ax ay : Int} (hp : 1 ≤ p) : quad p k ax ay ax ay = 0 := by
  unfold quad prod
  simp
def crossOf (p k la lb lc ma mb mc : Int) : Int × Int := if ask p (colB k && linesB p [(la, lb, lc), (ma, mb, mc)]) = 0 then (if nullB p k la lb = true ∨ nullB p k ma mb = true then (0, 5) else (cross p k la lb ma mb, 0)) else (0, ask p (colB k && linesB p [(la, lb, lc), (ma, mb, mc)]))
def spreadOf (p k la lb lc ma mb mc : Int) : Int × Int := if ask p (colB k && linesB p [(la, lb, lc), (ma, mb, mc)]) = 0 then (if nullB p k la lb = true ∨ nullB p k ma mb = true then (0, 5) else (spread p k la lb ma mb, 0)) else (0, ask p (colB k && linesB p [(la, lb, lc), (ma, mb, mc)]))
def twistN (p c : Int) : Int := ((1 - c) * inv p c) % p
def twistOf (p k la lb lc ma mb mc : Int) : Int × Int := if ask p (colB k && linesB p [(la, lb, lc), (ma, mb, mc)]) = 0 then (if nullB p k la lb = true ∨ nullB p k ma mb = true then (0, 5) else if cross p k la lb ma mb = 0 then (0, 5) else (twistN p (cross p k la lb ma mb), 0)) else (0, ask p (colB k && linesB p [(la, lb, lc), (ma, mb, mc)]))
theorem twist_i (p c : Int) : ((1 - c) % p * inv p c) % p = twistN p c := by unfold twistN; rw [mulL]
def satOf (p k ax ay bx by_ cx cy : Int) : Int × Int := if ask p (colB k && ptsB p [(ax, ay), (bx, by_), (cx, cy)]) = 0 then (if quad p k ax ay bx by_ = 0 ∨ quad p k ax ay cx cy = 0 then (0, 5) else (spreadP p k ax ay bx by_ cx cy, 0)) else (0, ask p (colB k && ptsB p [(ax, ay), (bx, by_), (cx, cy)]))
/-- The code of two lines that are not null. -/
def twoL (p k la lb lc ma mb mc : Int) : Int := if ask p (colB k && linesB p [(la, lb, lc), (ma, mb, mc)]) = 0 then (if nullB p k la lb = true ∨ nullB p k ma mb = true then 5 else 0) else ask p (colB k && linesB p [(la, lb, lc), (ma, mb, mc)])
/-- The code of a triangle whose quadrances are not 0. -/
def triC (p k ax ay bx by_ cx cy : Int) : Int := if ask p (colB k && ptsB p [(ax, ay), (bx, by_), (cx, cy)]) = 0 then (if area p ax ay bx by_ cx cy = 0 ∨ quad p k ax ay bx by_ = 0 ∨ quad p k ax ay cx cy = 0 ∨ quad p k bx by_ cx cy = 0 then 5 else 0) else ask p (colB k && ptsB p [(ax, ay), (bx, by_), (cx, cy)])
def ratioN (p s q : Int) : Int := (s * inv p q) % p
def sratOf (p k ax ay bx by_ cx cy : Int) : Int × Int := if triC p k ax ay bx by_ cx cy = 0 then (ratioN p (spreadP p k ax ay bx by_ cx cy) (quad p k bx by_ cx cy), 0) else (0, triC p k ax ay bx by_ cx cy)
/-- Lists: numbers for which something holds. -/
def upTo (k : Nat) : List Int := (List.range k).map fun j : Nat => (j : Int)
def numsW (P : Int → Bool) (k : Nat) : List Int := (upTo k).filter P
theorem upTo_succ (k : Nat) : upTo (k + 1) = upTo k ++ [(k : Int)] := by simp [upTo, List.range_succ]
theorem numsW_hit {P : Int → Bool} {k : Nat} (h : P k = true) : numsW P (k + 1) = numsW P k ++ [(k : Int)] := by simp [numsW, upTo_succ, List.filter_append, h]
theorem numsW_miss {P : Int → Bool} {k : Nat} (h : P k = false) : numsW P (k + 1) = numsW P k := by simp [numsW, upTo_succ, List.filter_append, h]
theorem numsW_len (P : Int → Bool) (k : Nat) : (numsW P k).length ≤ k := by
  have := List.length_filter_le P (upTo k)
  simpa [numsW, upTo] using this
def flat2 (l : List (Int × Int)) : List Int := l.flatMap fun x => [x.1, x.2]
def flat3 (l : List (Int × Int × Int)) : List Int := l.flatMap fun x => [x.1, x.2.1, x.2.2]
theorem flat2_app (l : List (Int × Int)) (x : Int × Int) : flat2 (l ++ [x]) = flat2 l ++ [x.1, x.2] := by simp [flat2]
theorem flat3_app (l : List (Int × Int × Int)) (x : Int × Int × Int) : flat3 (l ++ [x]) = flat3 l ++ [x.1, x.2.1, x.2.2] := by simp [flat3]
theorem flat2_len : ∀ l : List (Int × Int), (flat2 l).length = l.length * 2
  | [] => rfl
  | x :: l => by
    have := flat2_len l
    simp only [flat2, List.flatMap_cons, List.length_append, List.length_cons, List.length_nil] at this ⊢
    omega
theorem flat3_len : ∀ l : List (Int × Int × Int), (flat3 l).length = l.length * 3
  | [] => rfl
  | x :: l => by
    have := flat3_len l
    simp only [flat3, List.flatMap_cons, List.length_append, List.length_cons, List.length_nil] at this ⊢
    omega
theorem flat2_get : ∀ (l : List (Int × Int)) (j : Nat), j < l.length → (flat2 l).getD (j * 2) 0 = (l.getD j (0, 0)).1 ∧ (flat2 l).getD (j * 2 + 1) 0 = (l.getD j (0, 0)).2
  | [], j, h => by simp at h
  | x :: l, 0, h => by simp [flat2]
  | x :: l, j + 1, h => by
    have ih := flat2_get l j (by simpa using h)
    rw [show (j + 1) * 2 = j * 2 + 2 by omega, show flat2 (x :: l) = x.1 :: x.2 :: flat2 l by simp [flat2]]
    simpa using ih
theorem flat3_get : ∀ (l : List (Int × Int × Int)) (j : Nat), j < l.length → (flat3 l).getD (j * 3) 0 = (l.getD j (0, 0, 0)).1 ∧ (flat3 l).getD (j * 3 + 1) 0 = (l.getD j (0, 0, 0)).2.1 ∧ (flat3 l).getD (j * 3 + 2) 0 = (l.getD j (0, 0, 0)).2.2
  | [], j, h => by simp at h
  | x :: l, 0, h => by simp [flat3]
  | x :: l, j + 1, h => by
    have ih := flat3_get l j (by simpa using h)
    rw [show (j + 1) * 3 = j * 3 + 3 by omega, show flat3 (x :: l) = x.1 :: x.2.1 :: x.2.2 :: flat3 l by simp [flat3]]
    simpa using ih
theorem take_hit {α : Type} {P : α → Bool} {l : List α} {k : Nat} {d : α} (hk : k < l.length) (h : P (l.getD k d) = true) : (l.take (k + 1)).filter P = (l.take k).filter P ++ [l.getD k d] := by
  have e : l.getD k d = l[k] := by simp [hk]
  rw [List.take_succ_eq_append_getElem hk, List.filter_append, e]
  rw [e] at h
  simp [h]
theorem take_miss {α : Type} {P : α → Bool} {l : List α} {k : Nat} {d : α} (hk : k < l.length) (h : P (l.getD k d) = false) : (l.take (k + 1)).filter P = (l.take k).filter P := by
  have e : l.getD k d = l[k] := by simp [hk]
  rw [List.take_succ_eq_append_getElem hk, List.filter_append]
  rw [e] at h
  simp [h]
theorem take_len {α : Type} (P : α → Bool) (l : List α) (k : Nat) : ((l.take k).filter P).length ≤ k := by
  have := List.length_filter_le P (l.take k)
  have h2 := List.length_take_le k l
  omega
theorem filter_app {α : Type} (P : α → Bool) (l : List α) (x : α) : (l ++ [x]).filter P = if P x = true then l.filter P ++ [x] else l.filter P := by
  rw [List.filter_append]
  by_cases h : P x = true <;> simp [h]
/-- All points, in order. -/
def rowTo (i y : Nat) : List (Int × Int) := (List.range y).map fun j : Nat => ((i : Int), (j : Int))
def ptsTo (p x : Nat) : List (Int × Int) := (List.range x).flatMap fun i => rowTo i p
theorem rowTo_succ (i y : Nat) : rowTo i (y + 1) = rowTo i y ++ [((i : Int), (y : Int))] := by simp [rowTo, List.range_succ]
theorem ptsTo_succ (p x : Nat) : ptsTo p (x + 1) = ptsTo p x ++ rowTo x p := by simp [ptsTo, List.range_succ]
theorem rowTo_len (i y : Nat) : (rowTo i y).length = y := by simp [rowTo]
theorem ptsTo_len (p : Nat) : ∀ x, (ptsTo p x).length = x * p
  | 0 => by simp [ptsTo]
  | x + 1 => by rw [ptsTo_succ, List.length_append, ptsTo_len p x, rowTo_len, Nat.succ_mul]
/-- The points before x, y, in order. -/
def before (p x y : Nat) : List (Int × Int) := ptsTo p x ++ rowTo x y
theorem before_0 (p : Nat) : before p 0 0 = [] := by simp [before, ptsTo, rowTo]
theorem before_y (p x y : Nat) : before p x (y + 1) = before p x y ++ [((x : Int), (y : Int))] := by rw [before, rowTo_succ, ← List.append_assoc]; rfl
theorem before_x (p x : Nat) : before p (x + 1) 0 = before p x p := by simp [before, ptsTo_succ, rowTo]
theorem before_end (p : Nat) : before p p 0 = ptsTo p p := by simp [before, rowTo]
theorem before_len {p x y : Nat} (hp : p ≤ 31) (hx : x ≤ p) (hy : y ≤ p) : (before p x y).length ≤ 1000 := by
  rw [before, List.length_append, ptsTo_len, rowTo_len]
  have := Nat.mul_le_mul (show x ≤ 31 by omega) hp
  omega
theorem mem_before {p : Nat} {a b : Int} (h : (a, b) ∈ ptsTo p p) : 0 ≤ a ∧ a < p ∧ 0 ≤ b ∧ b < p := by
  simp only [ptsTo, rowTo, List.mem_flatMap, List.mem_map, List.mem_range, Prod.mk.injEq] at h
  obtain ⟨i, hi, j, hj, rfl, rfl⟩ := h
  omega
/-- The lines through a point, in order: the first k + 1 of them. -/
def ltTo (p ax ay : Int) (k : Nat) : List (Int × Int × Int) := (0, 1, (-ay) % p) :: (List.range k).map fun b : Nat => (1, (b : Int), (-ax - (b : Int) * ay) % p)
theorem ltTo_succ (p ax ay : Int) (k : Nat) : ltTo p ax ay (k + 1) = ltTo p ax ay k ++ [(1, (k : Int), (-ax - (k : Int) * ay) % p)] := by simp [ltTo, List.range_succ]
theorem ltTo_len (p ax ay : Int) (k : Nat) : (ltTo p ax ay k).length = k + 1 := by simp [ltTo]
def ltAll (p ax ay : Int) : List (Int × Int × Int) := ltTo p ax ay p.toNat
theorem ltAll_len (p ax ay : Int) : (ltAll p ax ay).length = p.toNat + 1 := ltTo_len _ _ _ _
theorem mem_ltAll {p ax ay a b c : Int} (hp : 1 < p) (h : (a, b, c) ∈ ltAll p ax ay) : (a = 1 ∨ a = 0 ∧ b = 1) ∧ 0 ≤ b ∧ b < p ∧ 0 ≤ c ∧ c < p := by
  simp only [ltAll, ltTo, List.mem_cons, List.mem_map, List.mem_range, Prod.mk.injEq] at h
  rcases h with ⟨rfl, rfl, rfl⟩ | ⟨i, hi, rfl, rfl, rfl⟩
  · exact ⟨.inr ⟨rfl, rfl⟩, by omega, by omega, Int.emod_nonneg _ (by omega), Int.emod_lt_of_pos _ (by omega)⟩
  · exact ⟨.inl rfl, by omega, by omega, Int.emod_nonneg _ (by omega), Int.emod_lt_of_pos _ (by omega)⟩
theorem getD_mem {α : Type} {l : List α} {k : Nat} (d : α) (h : k < l.length) : l.getD k d ∈ l := by
  have e : l.getD k d = l[k] := by simp [h]
  rw [e]
  exact List.getElem_mem h
end Go.Proofs.Ytbjcbbnfgfmllaa.Pl
