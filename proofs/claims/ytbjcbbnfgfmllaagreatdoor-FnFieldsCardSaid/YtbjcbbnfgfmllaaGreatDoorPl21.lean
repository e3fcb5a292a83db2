/- Plain law for FnFields: roots, inverses, ratios, texts. No program in sight. -/
import Derived.Test.YtbjcbbnfgfmllaaGreatDoorPl19
import Derived.Test.YtbjcbbnfgfmllaaGreatDoorTd0
set_option linter.unusedVariables false
set_option linter.unusedSimpArgs false
namespace Go.Proofs.YtbjcbbnfgfmllaaGreatDoor.Pl
theorem root_hit {p a : Int} : ∀ (n : Nat) (x : Int), 0 ≤ x → 0 ≤ rootFrom p a n x → rootFrom p a n x * rootFrom p a n x % p = a
  | 0, x, h0, h => by simp [rootFrom] at h
  | n + 1, x, h0, h => by
    rw [rootFrom] at h ⊢
    split
    · assumption
    · rename_i hh
      rw [if_neg hh] at h
      exact root_hit n (x + 1) (by omega) h
theorem root_lt {p a : Int} : ∀ (n : Nat) (x : Int), 0 ≤ x → 0 ≤ rootFrom p a n x → rootFrom p a n x < x + n
  | 0, x, h0, h => by simp [rootFrom] at h
  | n + 1, x, h0, h => by
    rw [rootFrom] at h ⊢
    split
    · omega
    · rename_i hh
      rw [if_neg hh] at h
      have := root_lt n (x + 1) (by omega) h
      omega
theorem root_00 {p : Int} (hp : 1 ≤ p) : root p 0 = 0 := by
  unfold root
  obtain ⟨n, hn⟩ : ∃ n, p.toNat = n + 1 := ⟨p.toNat - 1, by omega⟩
  rw [hn, rootFrom]
  simp
/-- What the law asks of a number: root r, inverse i, kind k, with their codes. -/
def Fld (p a r c1 i c2 k c3 : Int) : Prop :=
  ((c1 == 0) = false ∧ (c2 == 0) = false ∧ (c3 == 0) = false) ∨
  ((3 ≤ p ∧ p ≤ 31 ∧ 0 ≤ a ∧ a ≤ 31) ∧
    (((c1 == 0) = true ∧ (c2 == 0) = true ∧ (c3 == 0) = true ∧ (0 ≤ r ∧ r ≤ 31 ∧ r * r % p = a) ∧ (0 ≤ i ∧ i ≤ 31 ∧ i * a % p = 1) ∧ 0 ≤ k) ∨
     ((c1 == 0) = false ∧ (c2 == 0) = true ∧ (c3 == 0) = true ∧ (0 ≤ i ∧ i ≤ 31 ∧ i * a % p = 1) ∧ k < 0) ∨
     ((c1 == 0) = true ∧ (c2 == 0) = false ∧ (c3 == 0) = true ∧ (0 ≤ r ∧ r ≤ 31 ∧ r * r % p = a) ∧ 0 ≤ k)))
theorem fields_ex (p a : Int) : ∃ r c1 i c2 k c3, rootOf p a = (r, c1) ∧ inverseOf p a = (i, c2) ∧ squareKind p a = (k, c3) ∧ Fld p a r c1 i c2 k c3 := by
  refine ⟨(rootOf p a).1, (rootOf p a).2, (inverseOf p a).1, (inverseOf p a).2, (squareKind p a).1, (squareKind p a).2, rfl, rfl, rfl, ?_⟩
  by_cases h : ask p (numB p a) = 0
  · obtain ⟨hf, hn⟩ := ask_ok h
    have hp := field_bd hf
    obtain ⟨a0, a1⟩ := numB_true hn
    obtain ⟨i1, i2, i3, i4⟩ := inv_facts hf a0 a1
    refine .inr ⟨⟨hp.1, hp.2, a0, by omega⟩, ?_⟩
    unfold rootOf inverseOf squareKind
    rw [if_pos h, if_pos h, if_pos h]
    by_cases ha : a = 0
    · subst ha
      have hr := root_00 (p := p) (by omega)
      refine .inr (.inr ?_)
      rw [hr]
      simp [kind]
    · have hi : inv p a * a % p = 1 := by rw [Int.mul_comm]; exact i1 ha
      by_cases hr : root p a < 0
      · refine .inr (.inl ?_)
        rw [if_pos hr, if_neg ha, kind_neg ha hr]
        exact ⟨rfl, rfl, rfl, ⟨i2, by show inv p a ≤ 31; omega, hi⟩, by decide⟩
      · refine .inl ?_
        rw [if_neg hr, if_neg ha, kind_pos ha hr]
        have h1 := root_hit (p := p) (a := a) p.toNat 0 (by omega) (by unfold root at hr; omega)
        have h2 := root_lt (p := p) (a := a) p.toNat 0 (by omega) (by unfold root at hr; omega)
        refine ⟨rfl, rfl, rfl, ⟨by show 0 ≤ root p a; omega, ?_, h1⟩, ⟨i2, by show inv p a ≤ 31; omega, hi⟩, by decide⟩
        show root p a ≤ 31
        unfold root
        omega
  · refine .inl ?_
    unfold rootOf inverseOf squareKind
    rw [if_neg h, if_neg h, if_neg h]
    have : (ask p (numB p a) == 0) = false := by simpa using h
    exact ⟨this, this, this⟩
theorem comb_uniq {p a b t s : Int} (hf : fieldB p = true) (hd : (b - a) % p ≠ 0) (ht : 0 ≤ t ∧ t < p) (hs : 0 ≤ s ∧ s < p) (h : comb p a b t = comb p a b s) : t = s := by
  have hp := field_bd hf
  unfold comb at h
  have h1 := modeq_sub h
  rw [show a + t * (b - a) - (a + s * (b - a)) = (t - s) * (b - a) by grind] at h1
  apply Classical.byContradiction
  intro hne
  refine mul_ne hf ?_ hd h1
  intro h2
  have := Int.emod_emod_of_dvd (t - s) (Int.dvd_refl p)
  obtain ⟨q, hq⟩ := Int.dvd_of_emod_eq_zero h2
  have : q = 0 := by
    apply Classical.byContradiction
    intro hq0
    rcases Int.lt_or_gt_of_ne hq0 with h3 | h3
    · have : p * q ≤ p * (-1) := Int.mul_le_mul_of_nonneg_left (by omega) (by omega)
      omega
    · have : p * 1 ≤ p * q := Int.mul_le_mul_of_nonneg_left (by omega) (by omega)
      omega
  subst this
  omega
theorem ratFrom_some {p ax ay bx by_ cx cy : Int} : ∀ (n : Nat) (t : Int), 0 ≤ t → ratFrom p ax ay bx by_ cx cy n t ≠ -1 → 0 ≤ ratFrom p ax ay bx by_ cx cy n t ∧ ratFrom p ax ay bx by_ cx cy n t < t + n ∧ comb p ax bx (ratFrom p ax ay bx by_ cx cy n t) = cx ∧ comb p ay by_ (ratFrom p ax ay bx by_ cx cy n t) = cy
  | 0, t, h0, h => by simp [ratFrom] at h
  | n + 1, t, h0, h => by
    rw [ratFrom] at h ⊢
    split
    · rename_i hh
      exact ⟨h0, by omega, hh.1, hh.2⟩
    · rename_i hh
      rw [if_neg hh] at h
      have := ratFrom_some n (t + 1) (by omega) h
      exact ⟨this.1, by omega, this.2.2⟩
theorem diff_ne {p a b : Int} (hp : 1 ≤ p) (ha : 0 ≤ a ∧ a < p) (hb : 0 ≤ b ∧ b < p) (h : a ≠ b) : (b - a) % p ≠ 0 := by
  intro h2
  obtain ⟨q, hq⟩ := Int.dvd_of_emod_eq_zero h2
  rcases Int.lt_trichotomy q 0 with h3 | h3 | h3
  · have : p * q ≤ p * (-1) := Int.mul_le_mul_of_nonneg_left (by omega) (by omega)
    omega
  · subst h3; omega
  · have : p * 1 ≤ p * q := Int.mul_le_mul_of_nonneg_left (by omega) (by omega)
    omega
theorem pts_and {p ax ay bx by_ cx cy : Int} (h : ptsB p [(ax, ay), (bx, by_), (cx, cy)] = true) : ptsB p [(ax, ay), (bx, by_)] = true := by
  simp only [ptsB, List.all_cons, List.all_nil, Bool.and_true, Bool.and_eq_true] at h ⊢
  exact ⟨h.1, h.2.1⟩
theorem pts_mk3 {p ax ay bx by_ cx cy : Int} (h : ptsB p [(ax, ay), (bx, by_)] = true) (c1 : 0 ≤ cx ∧ cx < p) (c2 : 0 ≤ cy ∧ cy < p) : ptsB p [(ax, ay), (bx, by_), (cx, cy)] = true := by
  simp only [ptsB, List.all_cons, List.all_nil, Bool.and_true, Bool.and_eq_true] at h ⊢
  exact ⟨h.1, h.2, by simp [ptB, numB, c1, c2]⟩
theorem ask_yes {p : Int} {b : Bool} (hf : fieldB p = true) (hb : b = true) : ask p b = 0 := by subst hb; exact ask_tt hf
theorem area_comb {p ax ay bx by_ t : Int} : area p ax ay bx by_ (comb p ax bx t) (comb p ay by_ t) = 0 := by
  unfold area comb
  have e1 := mm p (ax + t * (bx - ax))
  have e2 := mm p (ay + t * (by_ - ay))
  rw [cgS (cgM (rfl : (bx - ax) % p = (bx - ax) % p) (cgS e2 (rfl : ay % p = ay % p))) (cgM (rfl : (by_ - ay) % p = (by_ - ay) % p) (cgS e1 (rfl : ax % p = ax % p)))]
  rw [show (bx - ax) * (ay + t * (by_ - ay) - ay) - (by_ - ay) * (ax + t * (bx - ax) - ax) = 0 by grind]
  simp
theorem ratio_ex (p ax ay bx by_ cx cy : Int) : ∃ t q, ratOf p ax ay bx by_ cx cy = (t, q) ∧ (q = 0 → ∃ mx my h, combOf p ax ay bx by_ t = ((cx, cy), 0) ∧ collOf p ax ay bx by_ cx cy = (true, 0) ∧ areaOf p ax ay bx by_ cx cy = (0, 0) ∧ midOf p ax ay bx by_ = ((mx, my), 0) ∧ ratOf p ax ay bx by_ mx my = (h, 0) ∧ (0 ≤ h ∧ h ≤ 31) ∧ h * 2 % p = 1 ∧ (3 ≤ p ∧ p ≤ 31) ∧ sm2 cx cy) := by
  refine ⟨(ratOf p ax ay bx by_ cx cy).1, (ratOf p ax ay bx by_ cx cy).2, rfl, fun hq => ?_⟩
  unfold ratOf at hq ⊢
  by_cases h : ask p (ptsB p [(ax, ay), (bx, by_), (cx, cy)]) = 0
  · rw [if_pos h] at hq ⊢
    obtain ⟨hf, hn⟩ := ask_ok h
    have hp := field_bd hf
    obtain ⟨⟨a1, a2, a3, a4⟩, ⟨b1, b2, b3, b4⟩, c1, c2, c3, c4⟩ := pts3_bd hn
    by_cases hab : ax = bx ∧ ay = by_
    · rw [if_pos hab] at hq; simp at hq
    · rw [if_neg hab] at hq ⊢
      by_cases hr : rat p ax ay bx by_ cx cy = -1
      · rw [if_pos hr] at hq; simp at hq
      · rw [if_neg hr] at hq ⊢
        obtain ⟨r1, r2, r3, r4⟩ := ratFrom_some (p := p) (ax := ax) (ay := ay) (bx := bx) (by_ := by_) (cx := cx) (cy := cy) p.toNat 0 (by omega) hr
        have hrat : rat p ax ay bx by_ cx cy = ratFrom p ax ay bx by_ cx cy p.toNat 0 := rfl
        rw [← hrat] at r1 r2 r3 r4
        dsimp only
        generalize rat p ax ay bx by_ cx cy = t at *
        have hp2 := pts_and hn
        have ht : numB p t = true := by simp only [numB, Bool.and_eq_true, decide_eq_true_eq]; omega
        have i2 := inv_facts hf (show (0 : Int) ≤ 2 by omega) (by omega)
        obtain ⟨_, i3, i4, _⟩ := i2
        have m1 := comb_bd (p := p) (a := ax) (b := bx) (t := inv p 2) (by omega)
        have m2 := comb_bd (p := p) (a := ay) (b := by_) (t := inv p 2) (by omega)
        refine ⟨comb p ax bx (inv p 2), comb p ay by_ (inv p 2), inv p 2, ?_, ?_, ?_, ?_, ?_, ⟨i3, by omega⟩, ?_, hp, ⟨⟨c1, by omega⟩, c3, by omega⟩⟩
        · unfold combOf
          rw [if_pos (ask_yes hf (by rw [hp2, ht]; rfl)), r3, r4]
        · unfold collOf
          rw [if_pos h, ← r3, ← r4, area_comb]
          rfl
        · unfold areaOf
          rw [if_pos h, ← r3, ← r4, area_comb]
        · unfold midOf
          rw [if_pos (ask_yes hf hp2)]
        · rw [if_pos (ask_yes hf (pts_mk3 hp2 m1 m2))]
          have hm : rat p ax ay bx by_ (comb p ax bx (inv p 2)) (comb p ay by_ (inv p 2)) = inv p 2 := by
            refine ratFrom_hit ⟨rfl, rfl⟩ ?_ p.toNat 0 (by omega) i3 (by omega) (by omega)
            intro s s0 s1 hs
            by_cases hx : ax = bx
            · have hy : ay ≠ by_ := fun e => hab ⟨hx, e⟩
              exact comb_uniq hf (diff_ne (by omega) ⟨a3, a4⟩ ⟨b3, b4⟩ hy) ⟨s0, s1⟩ ⟨i3, i4⟩ hs.2
            · exact comb_uniq hf (diff_ne (by omega) ⟨a1, a2⟩ ⟨b1, b2⟩ hx) ⟨s0, s1⟩ ⟨i3, i4⟩ hs.1
          rw [if_neg hab, hm, if_neg (by omega)]
        · rw [Int.mul_comm]; exact half_two hf
  · rw [if_neg h] at hq
    exact absurd hq h
theorem good_small {p : Int} (hp : p ≤ 31) {xs : List Int} {k : Nat} {l : List UInt8} (h : readN p k l = some xs) : ∀ x ∈ xs, 0 ≤ x ∧ x ≤ 31 := by
  rw [readN_split p (by omega) k l] at h
  split at h
  · rename_i hh
    cases h
    intro x hx
    obtain ⟨s, hs, rfl⟩ := List.mem_map.1 hx
    have := List.all_eq_true.1 hh.2 s hs
    have := numB_true (p := p) (x := numI s) this
    omega
  · cases h
theorem parsePt_ex (p : Int) (l : List UInt8) : ∃ x y q, parsePt p l = ((x, y), q) ∧ sm2 x y := by
  unfold parsePt
  cases hf : fieldB p with
  | false => exact ⟨0, 0, 1, by simp, by unfold sm2; omega⟩
  | true =>
    have hp := field_bd hf
    cases h : readN p 1 l with
    | none => exact ⟨0, 0, 6, by simp, by unfold sm2; omega⟩
    | some xs =>
      obtain ⟨x, y, rfl⟩ := len2 (readN_len h)
      have hs := good_small hp.2 h
      exact ⟨x, y, 0, by simp, hs x (by simp), hs y (by simp)⟩
theorem parseLn_ex (p : Int) (l : List UInt8) : ∃ x y z q, parseLn p l = ((x, y, z), q) ∧ sm3 x y z := by
  unfold parseLn
  cases hf : fieldB p with
  | false => exact ⟨0, 0, 0, 1, by simp, by unfold sm3; omega⟩
  | true =>
    have hp := field_bd hf
    cases h : readN p 2 l with
    | none => exact ⟨0, 0, 0, 6, by simp, by unfold sm3; omega⟩
    | some xs =>
      obtain ⟨x, y, z, rfl⟩ := len3 (readN_len h)
      have hs := good_small hp.2 h
      cases hl : lineB p x y z with
      | true => exact ⟨x, y, z, 0, by simp [hl], hs x (by simp), hs y (by simp), hs z (by simp)⟩
      | false => exact ⟨0, 0, 0, 6, by simp [hl], by unfold sm3; omega⟩
theorem textPt_ex (p x y : Int) : ∃ tx q, textPt p x y = (tx, q) ∧ (q = 0 → tx.length ≤ 100 ∧ parsePt p tx = ((x, y), 0) ∧ sm2 x y) := by
  refine ⟨(textPt p x y).1, (textPt p x y).2, rfl, fun hq => ?_⟩
  unfold textPt at hq ⊢
  by_cases h : ask p (ptsB p [(x, y)]) = 0
  · rw [if_pos h]
    obtain ⟨hf, hn⟩ := ask_ok h
    have hp := field_bd hf
    obtain ⟨x1, x2, y1, y2⟩ := pts1_bd hn
    have hl := joinT_len [x, y]
    refine ⟨by simp only [List.length_cons, List.length_nil] at hl; show (joinT [x, y]).length ≤ 100; omega, ?_, ⟨⟨x1, by omega⟩, y1, by omega⟩⟩
    refine parsePt_s hf ?_
    rw [read_parts2 (by omega) (parts_join [y] x (by intro z hz; simp at hz; rcases hz with rfl | rfl <;> omega)), if_pos]
    simp only [numB, Bool.and_eq_true, decide_eq_true_eq]
    omega
  · rw [if_neg h] at hq
    exact absurd hq h
theorem textLn_ex (p a b c : Int) : ∃ tx q, textLn p a b c = (tx, q) ∧ (q = 0 → tx.length ≤ 100 ∧ parseLn p tx = ((a, b, c), 0) ∧ sm3 a b c) := by
  refine ⟨(textLn p a b c).1, (textLn p a b c).2, rfl, fun hq => ?_⟩
  unfold textLn at hq ⊢
  by_cases h : ask p (linesB p [(a, b, c)]) = 0
  · rw [if_pos h]
    obtain ⟨hf, hn⟩ := ask_ok h
    have hp := field_bd hf
    obtain ⟨x1, x2, y1, y2, z1, z2, hd⟩ := lines1_bd hn
    have hl := joinT_len [a, b, c]
    rw [linesB1] at hn
    refine ⟨by simp only [List.length_cons, List.length_nil] at hl; show (joinT [a, b, c]).length ≤ 100; omega, ?_, ⟨⟨x1, by omega⟩, ⟨y1, by omega⟩, z1, by omega⟩⟩
    refine parseLn_s hf ?_ hn
    rw [read_parts3 (by omega) (parts_join [b, c] a (by intro z hz; simp at hz; rcases hz with rfl | rfl | rfl <;> omega)), if_pos]
    simp only [numB, Bool.and_eq_true, decide_eq_true_eq]
    omega
  · rw [if_neg h] at hq
    exact absurd hq h
theorem comb_ex (p ax ay bx by_ t : Int) : ∃ x y q, combOf p ax ay bx by_ t = ((x, y), q) ∧ sm2 x y := by
  unfold combOf
  by_cases h : ask p (ptsB p [(ax, ay), (bx, by_)] && numB p t) = 0
  · rw [if_pos h]
    have hp := field_bd (ask_ok h).1
    have b1 := comb_bd (p := p) (a := ax) (b := bx) (t := t) (by omega)
    have b2 := comb_bd (p := p) (a := ay) (b := by_) (t := t) (by omega)
    exact ⟨_, _, _, rfl, ⟨b1.1, by omega⟩, b2.1, by omega⟩
  · rw [if_neg h]
    exact ⟨0, 0, _, rfl, ⟨by omega, by omega⟩, by omega, by omega⟩
end Go.Proofs.YtbjcbbnfgfmllaaGreatDoor.Pl
