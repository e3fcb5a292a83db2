/- Plain law, continued: rests of rests, lines, combinations, midpoints, ratios. No program in sight. -/
import Derived.Test.YtbjcbbnfgfmllaaPlain
set_option linter.unusedVariables false
set_option linter.unusedSimpArgs false
namespace Go.Proofs.Ytbjcbbnfgfmllaa.Pl
theorem mulL (p x y : Int) : (x % p * y) % p = (x * y) % p := by rw [Int.mul_emod, Int.emod_emod, ← Int.mul_emod]
theorem mulR (p x y : Int) : (x * (y % p)) % p = (x * y) % p := by rw [Int.mul_emod, Int.emod_emod, ← Int.mul_emod]
theorem addL (p x y : Int) : (x % p + y) % p = (x + y) % p := by rw [Int.add_emod, Int.emod_emod, ← Int.add_emod]
theorem addR (p x y : Int) : (x + y % p) % p = (x + y) % p := by rw [Int.add_emod, Int.emod_emod, ← Int.add_emod]
theorem subL (p x y : Int) : (x % p - y) % p = (x - y) % p := by rw [Int.sub_emod, Int.emod_emod, ← Int.sub_emod]
theorem subR (p x y : Int) : (x - y % p) % p = (x - y) % p := by rw [Int.sub_emod, Int.emod_emod, ← Int.sub_emod]
theorem negM (p x : Int) : (-(x % p)) % p = (-x) % p := by
  have := subR p 0 x
  simpa using this
theorem tmodL (p x y : Int) (hp : 1 ≤ p) : (x.tmod p * y) % p = (x * y) % p := by
  have h := rest_eq2 p x hp
  rw [Int.add_emod_right] at h
  rw [Int.mul_emod, h, ← Int.mul_emod]
/-- Two numbers whose difference is a multiple of something that is 0 modulo p. -/
theorem lc {p e A B : Int} (R : Int) (he : e % p = 0) (h : A - B = e * R) : A % p = B % p := by
  have h1 : (A - B) % p = 0 := by rw [h, Int.mul_emod, he]; simp
  exact Int.emod_eq_emod_iff_emod_sub_eq_zero.2 h1
theorem lc2 {p e f A B : Int} (R S : Int) (he : e % p = 0) (hf : f % p = 0) (h : A - B = e * R + f * S) : A % p = B % p := by
  have h1 : (A - B) % p = 0 := by
    rw [h, Int.add_emod, Int.mul_emod, he, Int.mul_emod f, hf]
    simp
  exact Int.emod_eq_emod_iff_emod_sub_eq_zero.2 h1
theorem sub_one {p x : Int} (h : x % p = 1) (hp : 2 ≤ p) : (x - 1) % p = 0 := by
  have h1 : (1 : Int) % p = 1 := Int.emod_eq_of_lt (by omega) (by omega)
  rw [Int.sub_emod, h, h1]
  simp
/-- The line that three numbers make. -/
def first (p a b : Int) : Int := if a % p = 0 then b % p else a % p
def nrm (p a b x : Int) : Int := (x * inv p (first p a b)) % p
theorem nrm_rest (p a b x : Int) : nrm p (a % p) (b % p) (x % p) = nrm p a b x := by
  unfold nrm first
  rw [Int.emod_emod, Int.emod_emod, mulL]
theorem nrm_bd {p a b x : Int} (hp : 1 ≤ p) : 0 ≤ nrm p a b x ∧ nrm p a b x < p := ⟨Int.emod_nonneg _ (by omega), Int.emod_lt_of_pos _ (by omega)⟩
theorem first_bd {p a b : Int} (hp : 1 ≤ p) : 0 ≤ first p a b ∧ first p a b < p := by
  unfold first
  split <;> exact ⟨Int.emod_nonneg _ (by omega), Int.emod_lt_of_pos _ (by omega)⟩
/-- LineOf. -/
theorem zero3 {p a b c : Int} (hp : 1 ≤ p) (h : 0 ≤ a ∧ a < p) : a % p = a := Int.emod_eq_of_lt h.1 h.2
def lineOfC (p a b c : Int) : Int := if ask p (numB p a && numB p b && numB p c) = 0 then (if a = 0 ∧ b = 0 then 5 else 0) else ask p (numB p a && numB p b && numB p c)
def lineOfX (p a b c x : Int) : Int := if lineOfC p a b c = 0 then nrm p a b x else 0
/-- Combination. -/
def comb (p a b t : Int) : Int := (a + t * (b - a)) % p
theorem comb_spec (p a b t : Int) : (a + (t * ((b - a) % p)) % p) % p = comb p a b t := by
  unfold comb
  rw [addR, Int.add_emod, mulR, ← Int.add_emod]
theorem comb_bd {p a b t : Int} (hp : 1 ≤ p) : 0 ≤ comb p a b t ∧ comb p a b t < p := ⟨Int.emod_nonneg _ (by omega), Int.emod_lt_of_pos _ (by omega)⟩
/-- The half of 1. -/
theorem half_eq {p : Int} (hp : fieldB p = true) : (p + 1) / 2 = inv p 2 := by
  have := primesB_spec (f := fun p => (p + 1) / 2 == inv p 2) (by decide +kernel) hp
  simpa using this
theorem half_two {p : Int} (hp : fieldB p = true) : (2 * inv p 2) % p = 1 := by
  have h := (inv_facts hp (show (0 : Int) ≤ 2 by omega) (by have := (field_bd hp).1; omega)).1 (by omega)
  exact h
theorem mid_spec {p a b : Int} (hp : fieldB p = true) : (inv p 2 * ((a + b) % p)) % p = comb p a b (inv p 2) := by
  unfold comb
  rw [mulR]
  refine lc a (sub_one (half_two hp) (by have := (field_bd hp).1; omega)) ?_
  grind
/-- RatioOf: the search of the program. -/
def ratFrom (p ax ay bx by_ cx cy : Int) : Nat → Int → Int
  | 0, _ => -1
  | n + 1, t => if comb p ax bx t = cx ∧ comb p ay by_ t = cy then t else ratFrom p ax ay bx by_ cx cy n (t + 1)
def rat (p ax ay bx by_ cx cy : Int) : Int := ratFrom p ax ay bx by_ cx cy p.toNat 0
theorem ratFrom_step {p ax ay bx by_ cx cy t : Int} (h : t < p) : ratFrom p ax ay bx by_ cx cy (p - t).toNat t = if comb p ax bx t = cx ∧ comb p ay by_ t = cy then t else ratFrom p ax ay bx by_ cx cy (p - (t + 1)).toNat (t + 1) := by
  obtain ⟨n, hn⟩ : ∃ n, (p - t).toNat = n + 1 := ⟨(p - t).toNat - 1, by omega⟩
  rw [hn, ratFrom]
  have : (p - (t + 1)).toNat = n := by omega
  rw [this]
/-- The search finds the only number that serves. -/
theorem ratFrom_hit {p ax ay bx by_ cx cy s : Int} (hs : comb p ax bx s = cx ∧ comb p ay by_ s = cy) (hu : ∀ t, 0 ≤ t → t < p → comb p ax bx t = cx ∧ comb p ay by_ t = cy → t = s) :
    ∀ (n : Nat) (t : Int), 0 ≤ t → t ≤ s → s < t + n → t + n ≤ p → ratFrom p ax ay bx by_ cx cy n t = s
  | 0, t, h0, h1, h2, h3 => by omega
  | n + 1, t, h0, h1, h2, h3 => by
    rw [ratFrom]
    by_cases h : comb p ax bx t = cx ∧ comb p ay by_ t = cy
    · rw [if_pos h]
      exact hu t h0 (by omega) h
    · rw [if_neg h]
      have hne : t ≠ s := by rintro rfl; exact h hs
      exact ratFrom_hit hs hu n (t + 1) (by omega) (by omega) (by omega) (by omega)
theorem ratFrom_miss {p ax ay bx by_ cx cy : Int} (hu : ∀ t, ¬ (comb p ax bx t = cx ∧ comb p ay by_ t = cy)) : ∀ (n : Nat) (t : Int), ratFrom p ax ay bx by_ cx cy n t = -1
  | 0, _ => rfl
  | n + 1, t => by rw [ratFrom, if_neg (hu t)]; exact ratFrom_miss hu n (t + 1)
theorem modeq_sub {p x y : Int} (h : x % p = y % p) : (x - y) % p = 0 := Int.emod_eq_emod_iff_emod_sub_eq_zero.1 h
theorem inv_one {p a : Int} (hp : fieldB p = true) (h : a % p ≠ 0) : (a * inv p (a % p) - 1) % p = 0 := by
  have hb := field_bd hp
  have h1 := (inv_facts hp (Int.emod_nonneg a (show p ≠ 0 by omega)) (Int.emod_lt_of_pos a (show 0 < p by omega))).1 h
  rw [mulL] at h1
  exact sub_one h1 (by omega)
/-- The number that solves u t = v. -/
theorem solve {p u v t : Int} (hp : fieldB p = true) (hu : u % p ≠ 0) (ht : 0 ≤ t ∧ t < p) (h : (u * t) % p = v % p) : t = (v * inv p (u % p)) % p := by
  have h1 : (v * inv p (u % p)) % p = t % p := by
    refine lc2 t (-(inv p (u % p))) (inv_one hp hu) (modeq_sub h) ?_
    grind
  rw [h1, Int.emod_eq_of_lt ht.1 ht.2]
/-- RatioOf of the reference. -/
def ratS (p ax ay bx by_ cx cy : Int) : Int :=
  if (bx - ax) % p ≠ 0 then ((cx - ax) % p * inv p ((bx - ax) % p)) % p else ((cy - ay) % p * inv p ((by_ - ay) % p)) % p
theorem comb_iff {p a b c t : Int} (hc : 0 ≤ c ∧ c < p) : comb p a b t = c ↔ ((b - a) * t - (c - a)) % p = 0 := by
  unfold comb
  constructor
  · intro h
    have h1 : (a + t * (b - a)) % p = c % p := by rw [h, Int.emod_eq_of_lt hc.1 hc.2]
    have := modeq_sub h1
    rw [show (b - a) * t - (c - a) = a + t * (b - a) - c by grind]
    exact this
  · intro h
    have h1 : (a + t * (b - a)) % p = c % p := by
      refine Int.emod_eq_emod_iff_emod_sub_eq_zero.2 ?_
      rw [show a + t * (b - a) - c = (b - a) * t - (c - a) by grind]
      exact h
    rw [h1, Int.emod_eq_of_lt hc.1 hc.2]
theorem rat_eq {p ax ay bx by_ cx cy : Int} (hp : fieldB p = true) (h1 : 0 ≤ ax ∧ ax < p) (h2 : 0 ≤ ay ∧ ay < p) (h3 : 0 ≤ bx ∧ bx < p) (h4 : 0 ≤ by_ ∧ by_ < p) (h5 : 0 ≤ cx ∧ cx < p) (h6 : 0 ≤ cy ∧ cy < p) (hne : ¬ (ax = bx ∧ ay = by_)) :
    rat p ax ay bx by_ cx cy = if area p ax ay bx by_ cx cy = 0 then ratS p ax ay bx by_ cx cy else -1 := by
  have hb := field_bd hp
  have zero_of : ∀ {x y : Int}, 0 ≤ x ∧ x < p → 0 ≤ y ∧ y < p → (y - x) % p = 0 → x = y := by
    intro x y hx hy h
    have : y % p = x % p := Int.emod_eq_emod_iff_emod_sub_eq_zero.2 h
    rw [Int.emod_eq_of_lt hx.1 hx.2, Int.emod_eq_of_lt hy.1 hy.2] at this
    exact this.symm
  by_cases ha : area p ax ay bx by_ cx cy = 0
  · rw [if_pos ha]
    unfold area at ha
    by_cases hu : (bx - ax) % p ≠ 0
    · have hs : ratS p ax ay bx by_ cx cy = ((cx - ax) * inv p ((bx - ax) % p)) % p := by
        unfold ratS
        rw [if_pos hu, mulL]
      rw [hs]
      have hi := inv_one hp hu
      generalize inv p ((bx - ax) % p) = i at *
      have e1 : comb p ax bx (((cx - ax) * i) % p) = cx := by
        rw [comb_iff h5]
        have : (((bx - ax) * (((cx - ax) * i) % p)) - (cx - ax)) % p = ((bx - ax) * ((cx - ax) * i) - (cx - ax)) % p := by rw [← subL, mulR, subL]
        rw [this, show (bx - ax) * ((cx - ax) * i) - (cx - ax) = ((bx - ax) * i - 1) * (cx - ax) by grind, Int.mul_emod, hi]
        simp
      have e2 : comb p ay by_ (((cx - ax) * i) % p) = cy := by
        rw [comb_iff h6]
        have : (((by_ - ay) * (((cx - ax) * i) % p)) - (cy - ay)) % p = ((by_ - ay) * ((cx - ax) * i) - (cy - ay)) % p := by rw [← subL, mulR, subL]
        rw [this]
        have := lc2 (A := (by_ - ay) * ((cx - ax) * i) - (cy - ay)) (B := 0) (cy - ay) (-i) hi ha (by grind)
        simpa using this
      refine ratFrom_hit ⟨e1, e2⟩ (fun t ht0 ht1 h => ?_) p.toNat 0 (by omega) (Int.emod_nonneg _ (by omega)) (by have := Int.emod_lt_of_pos ((cx - ax) * i) (show 0 < p by omega); omega) (by omega)
      have h7 := (comb_iff h5).1 h.1
      have h8 : ((cx - ax) * i) % p = t % p := by
        refine lc2 t (-i) hi h7 ?_
        grind
      rw [h8, Int.emod_eq_of_lt ht0 ht1]
    · have hu' : (bx - ax) % p = 0 := by simpa using hu
      have hx : ax = bx := zero_of h1 h3 hu'
      have hv : (by_ - ay) % p ≠ 0 := fun h => hne ⟨hx, zero_of h2 h4 h⟩
      have hs : ratS p ax ay bx by_ cx cy = ((cy - ay) * inv p ((by_ - ay) % p)) % p := by
        unfold ratS
        rw [if_neg hu, mulL]
      rw [hs]
      have hi := inv_one hp hv
      generalize inv p ((by_ - ay) % p) = i at *
      have hcx : (cx - ax) % p = 0 := by
        have := lc2 (A := cx - ax) (B := 0) (-(cx - ax)) (-i) hi ha (by rw [← hx]; grind)
        simpa using this
      have e2 : comb p ay by_ (((cy - ay) * i) % p) = cy := by
        rw [comb_iff h6]
        have : (((by_ - ay) * (((cy - ay) * i) % p)) - (cy - ay)) % p = ((by_ - ay) * ((cy - ay) * i) - (cy - ay)) % p := by rw [← subL, mulR, subL]
        rw [this, show (by_ - ay) * ((cy - ay) * i) - (cy - ay) = ((by_ - ay) * i - 1) * (cy - ay) by grind, Int.mul_emod, hi]
        simp
      have e1 : ∀ t, comb p ax bx t = cx := by
        intro t
        rw [comb_iff h5, ← hx]
        rw [show (ax - ax) * t - (cx - ax) = -(cx - ax) by grind, ← negM, hcx]
        simp
      refine ratFrom_hit ⟨e1 _, e2⟩ (fun t ht0 ht1 h => ?_) p.toNat 0 (by omega) (Int.emod_nonneg _ (by omega)) (by have := Int.emod_lt_of_pos ((cy - ay) * i) (show 0 < p by omega); omega) (by omega)
      have h7 := (comb_iff h6).1 h.2
      have h8 : ((cy - ay) * i) % p = t % p := by
        refine lc2 t (-i) hi h7 ?_
        grind
      rw [h8, Int.emod_eq_of_lt ht0 ht1]
  · rw [if_neg ha]
    refine ratFrom_miss (fun t h => ha ?_) _ _
    have h7 := (comb_iff h5).1 h.1
    have h8 := (comb_iff h6).1 h.2
    unfold area
    have := lc2 (A := (bx - ax) * (cy - ay) - (by_ - ay) * (cx - ax)) (B := 0) (by_ - ay) (-(bx - ax)) h7 h8 (by grind)
    simpa using this
/-- Directions of lines, perpendicular lines. -/
def perpB (p k la lb ma mb : Int) : Bool := prod p k ((-lb) % p) la ((-mb) % p) ma == 0
def nullB (p k la lb : Int) : Bool := perpB p k la lb la lb
/-- The lines through a point, in order. -/
def ltFrom (p ax ay : Int) : Nat → Int → List (Int × Int × Int)
  | 0, _ => []
  | n + 1, b => (1, b, (-ax - b * ay) % p) :: ltFrom p ax ay n (b + 1)
def LT (p ax ay : Int) : List (Int × Int × Int) := (0, 1, (-ay) % p) :: ltFrom p ax ay p.toNat 0
/-- The search of 'perpendicular', and the reference's u, v. -/
def perpFrom (p k la lb : Int) : Nat → Int → Int
  | 0, _ => -1
  | n + 1, b => if perpB p k la lb 1 b then b else perpFrom p k la lb n (b + 1)
def perpF (p k la lb : Int) : Int := if perpB p k la lb 0 1 then -2 else perpFrom p k la lb p.toNat 0
def perpU (p k la lb : Int) : Int := if k = 2 then la else (-lb) % p
def perpV (p k la lb : Int) : Int := if k = 1 then (-la) % p else if k = 2 then (-lb) % p else la
def perpMa (p k la lb : Int) : Int := if perpB p k la lb 0 1 then 0 else 1
def perpMb (p k la lb : Int) : Int := if perpB p k la lb 0 1 then 1 else perpFrom p k la lb p.toNat 0
def colsB (f : Int → Bool) : Bool := f 0 && f 1 && f 2
theorem colsB_spec {f : Int → Bool} (h : colsB f = true) {k : Int} (hk : colB k = true) : f k = true := by
  simp only [colsB, Bool.and_eq_true] at h
  simp only [colB, Bool.and_eq_true, decide_eq_true_eq] at hk
  have : k = 0 ∨ k = 1 ∨ k = 2 := by omega
  rcases this with rfl | rfl | rfl <;> simp [h]
/-- A claim on all directions of lines. -/
def dirsB (p : Int) (f : Int → Int → Bool) : Bool := f 0 1 && allTo (fun b => f 1 b) p.toNat
theorem dirsB_spec {p : Int} {f : Int → Int → Bool} (h : dirsB p f = true) {la lb : Int} (hl : la = 1 ∨ la = 0 ∧ lb = 1) (h0 : 0 ≤ lb) (h1 : lb < p) : f la lb = true := by
  simp only [dirsB, Bool.and_eq_true] at h
  rcases hl with rfl | ⟨rfl, rfl⟩
  · exact allTo_spec h.2 lb h0 (by omega)
  · exact h.1
theorem perp_fin {p k la lb : Int} (hp : fieldB p = true) (hk : colB k = true) (hl : la = 1 ∨ la = 0 ∧ lb = 1) (h0 : 0 ≤ lb) (h1 : lb < p) :
    nrm p (perpU p k la lb) (perpV p k la lb) (perpU p k la lb) = perpMa p k la lb ∧ nrm p (perpU p k la lb) (perpV p k la lb) (perpV p k la lb) = perpMb p k la lb ∧ 0 ≤ perpMb p k la lb ∧ perpMb p k la lb < p ∧ perpB p k la lb (perpMa p k la lb) (perpMb p k la lb) = true := by
  have h := primesB_spec (f := fun p => colsB fun k => dirsB p fun la lb => nrm p (perpU p k la lb) (perpV p k la lb) (perpU p k la lb) == perpMa p k la lb && nrm p (perpU p k la lb) (perpV p k la lb) (perpV p k la lb) == perpMb p k la lb && decide (0 ≤ perpMb p k la lb) && decide (perpMb p k la lb < p) && perpB p k la lb (perpMa p k la lb) (perpMb p k la lb)) (by decide +kernel) hp
  have h := dirsB_spec (colsB_spec h hk) hl h0 h1
  simp only [Bool.and_eq_true, beq_iff_eq, decide_eq_true_eq] at h
  exact ⟨h.1.1.1.1, h.1.1.1.2, h.1.1.2, h.1.2, h.2⟩
end Go.Proofs.Ytbjcbbnfgfmllaa.Pl
