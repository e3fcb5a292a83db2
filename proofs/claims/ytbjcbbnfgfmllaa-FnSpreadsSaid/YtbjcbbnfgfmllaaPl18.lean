/- Plain law: the three spreads of a triangle have one ratio and are triple spreads. No program in sight. -/
import Derived.Test.YtbjcbbnfgfmllaaPl17
set_option linter.unusedVariables false
set_option linter.unusedSimpArgs false
namespace Go.Proofs.Ytbjcbbnfgfmllaa.Pl
theorem area_raw (p ax ay bx by_ cx cy : Int) : area p ax ay bx by_ cx cy = det ax ay bx by_ cx cy % p := rfl
theorem cgAll {p a b : Int} (h : (a - b) % p = 0) : a % p = b % p := Int.emod_eq_emod_iff_emod_sub_eq_zero.2 h
/-- The spreads of a triangle: each is the ratio times the quadrance that lies against it. -/
theorem tri_ratio {p k ax ay bx by_ cx cy : Int} (h : triC p k ax ay bx by_ cx cy = 0) : ∃ M : Int,
    spreadP p k ax ay bx by_ cx cy % p = (M * quad p k bx by_ cx cy) % p ∧ spreadP p k bx by_ ax ay cx cy % p = (M * quad p k ax ay cx cy) % p ∧ spreadP p k cx cy ax ay bx by_ % p = (M * quad p k ax ay bx by_) % p ∧
    spreadP p k bx by_ cx cy ax ay % p = (M * quad p k ax ay cx cy) % p ∧
    (M * (quad p k bx by_ cx cy * quad p k ax ay cx cy * quad p k ax ay bx by_) - sgn k * (det ax ay bx by_ cx cy * det ax ay bx by_ cx cy)) % p = 0 := by
  obtain ⟨h0, hA, q3, q2, q1⟩ := triC_ok h
  obtain ⟨hf, hv⟩ := ask_ok h0
  have hp := field_bd hf
  simp only [Bool.and_eq_true] at hv
  obtain ⟨hk, _⟩ := hv
  have s0 := spread_area (ax := ax) (ay := ay) (bx := bx) (by_ := by_) (cx := cx) (cy := cy) hf hk (by rw [quad_sym]; exact q3) (by rw [quad_sym]; exact q2)
  have s1 := spread_area (ax := bx) (ay := by_) (bx := ax) (by_ := ay) (cx := cx) (cy := cy) hf hk q3 (by rw [quad_sym]; exact q1)
  have s2 := spread_area (ax := cx) (ay := cy) (bx := ax) (by_ := ay) (cx := bx) (cy := by_) hf hk q2 q1
  have s3 := spread_area (ax := bx) (ay := by_) (bx := cx) (by_ := cy) (cx := ax) (cy := ay) hf hk (by rw [quad_sym]; exact q1) q3
  have d1 : det bx by_ ax ay cx cy * det bx by_ ax ay cx cy = det ax ay bx by_ cx cy * det ax ay bx by_ cx cy := by unfold det; grind
  have d2 : det cx cy ax ay bx by_ * det cx cy ax ay bx by_ = det ax ay bx by_ cx cy * det ax ay bx by_ cx cy := by unfold det; grind
  have d3 : det bx by_ cx cy ax ay * det bx by_ cx cy ax ay = det ax ay bx by_ cx cy * det ax ay bx by_ cx cy := by unfold det; grind
  rw [d1] at s1
  rw [d2] at s2
  rw [d3] at s3
  rw [quad_sym p k ax ay bx by_, quad_sym p k ax ay cx cy] at s0
  rw [quad_sym p k bx by_ cx cy] at s1
  rw [quad_sym p k bx by_ cx cy] at s3
  have b1 := quad_bd (p := p) (k := k) (ax := bx) (ay := by_) (bx := cx) (by_ := cy) (by omega)
  have b2 := quad_bd (p := p) (k := k) (ax := ax) (ay := ay) (bx := cx) (by_ := cy) (by omega)
  have b3 := quad_bd (p := p) (k := k) (ax := ax) (ay := ay) (bx := bx) (by_ := by_) (by omega)
  have hD := mul_ne hf (mul_ne hf (small_ne b1.1 b1.2 q1) (small_ne b2.1 b2.2 q2)) (small_ne b3.1 b3.2 q3)
  have hi := inv_one hf hD
  generalize sgn k * (det ax ay bx by_ cx cy * det ax ay bx by_ cx cy) = T at *
  generalize inv p ((quad p k bx by_ cx cy * quad p k ax ay cx cy * quad p k ax ay bx by_) % p) = i at *
  generalize quad p k bx by_ cx cy = Q1 at *
  generalize quad p k ax ay cx cy = Q2 at *
  generalize quad p k ax ay bx by_ = Q3 at *
  generalize spreadP p k ax ay bx by_ cx cy = S0 at *
  generalize spreadP p k bx by_ ax ay cx cy = S1 at *
  generalize spreadP p k cx cy ax ay bx by_ = S2 at *
  generalize spreadP p k bx by_ cx cy ax ay = S3 at *
  refine ⟨T * i, ?_, ?_, ?_, ?_, ?_⟩
  · exact lc2 (-S0) (i * Q1) hi s0 (by grind)
  · exact lc2 (-S1) (i * Q2) hi s1 (by grind)
  · exact lc2 (-S2) (i * Q3) hi s2 (by grind)
  · exact lc2 (-S3) (i * Q2) hi s3 (by grind)
  · have := Pl.lc (p := p) (A := T * i * (Q1 * Q2 * Q3) - T) (B := 0) T hi (by grind)
    rw [this]; simp
theorem triple_cg {p r s t r' s' t' : Int} (hr : r % p = r' % p) (hs : s % p = s' % p) (ht : t % p = t' % p) :
    ((r + s + t) * (r + s + t) - 2 * (r * r + s * s + t * t) - 4 * r * s * t) % p = ((r' + s' + t') * (r' + s' + t') - 2 * (r' * r' + s' * s' + t' * t') - 4 * r' * s' * t') % p :=
  cgS (cgS (cgM (cgA (cgA hr hs) ht) (cgA (cgA hr hs) ht)) (cgM rfl (cgA (cgA (cgM hr hr) (cgM hs hs)) (cgM ht ht)))) (cgM (cgM (cgM rfl hr) hs) ht)
theorem arch_sgn {p k ax ay bx by_ cx cy : Int} (hk : colB k = true) :
    (4 * (sgn k * (det ax ay bx by_ cx cy * det ax ay bx by_ cx cy)) - ((quad p k bx by_ cx cy + quad p k ax ay cx cy + quad p k ax ay bx by_) * (quad p k bx by_ cx cy + quad p k ax ay cx cy + quad p k ax ay bx by_) - 2 * (quad p k bx by_ cx cy * quad p k bx by_ cx cy + quad p k ax ay cx cy * quad p k ax ay cx cy + quad p k ax ay bx by_ * quad p k ax ay bx by_))) % p = 0 := by
  have h := tmod_iff.1 (arch_law (p := p) (k := k) (ax := ax) (ay := ay) (bx := bx) (by_ := by_) (cx := cx) (cy := cy) hk)
  have hA : area p ax ay bx by_ cx cy % p = det ax ay bx by_ cx cy % p := by rw [area_raw, mm]
  rw [← h]
  have e1 : (4 * (sgn k * (det ax ay bx by_ cx cy * det ax ay bx by_ cx cy))) % p = (if 0 < k then -(4 * area p ax ay bx by_ cx cy * area p ax ay bx by_ cx cy) else 4 * area p ax ay bx by_ cx cy * area p ax ay bx by_ cx cy) % p := by
    unfold sgn
    split
    · rw [show 4 * (-1 * (det ax ay bx by_ cx cy * det ax ay bx by_ cx cy)) = -(4 * det ax ay bx by_ cx cy * det ax ay bx by_ cx cy) by grind]
      exact cgN (cgM (cgM rfl hA.symm) hA.symm)
    · rw [show 4 * (1 * (det ax ay bx by_ cx cy * det ax ay bx by_ cx cy)) = 4 * det ax ay bx by_ cx cy * det ax ay bx by_ cx cy by grind]
      exact cgM (cgM rfl hA.symm) hA.symm
  refine cgS e1 ?_
  unfold arch
  rw [mm]
theorem tri_triple {p k ax ay bx by_ cx cy : Int} (h : triC p k ax ay bx by_ cx cy = 0) : tripleB p (spreadP p k ax ay bx by_ cx cy) (spreadP p k bx by_ ax ay cx cy) (spreadP p k cx cy ax ay bx by_) = true := by
  have hk : colB k = true := by
    have := (ask_ok (triC_ok h).1).2
    rw [Bool.and_eq_true] at this
    exact this.1
  obtain ⟨M, e0, e1, e2, _, e3⟩ := tri_ratio h
  have ha := arch_sgn (p := p) (ax := ax) (ay := ay) (bx := bx) (by_ := by_) (cx := cx) (cy := cy) hk
  unfold tripleB
  simp only [beq_iff_eq]
  rw [triple_cg e0 e1 e2]
  generalize sgn k * (det ax ay bx by_ cx cy * det ax ay bx by_ cx cy) = T at *
  generalize quad p k bx by_ cx cy = Q1 at *
  generalize quad p k ax ay cx cy = Q2 at *
  generalize quad p k ax ay bx by_ = Q3 at *
  rw [lc2 (B := 0) (-(M * M)) (-(4 * (M * M))) ha e3 (by grind)]
  simp
theorem ptsB_rot (p ax ay bx by_ cx cy : Int) : ptsB p [(bx, by_), (cx, cy), (ax, ay)] = ptsB p [(ax, ay), (bx, by_), (cx, cy)] := by
  simp only [ptsB, List.all_cons, List.all_nil, Bool.and_true]
  cases ptB p ax ay <;> cases ptB p bx by_ <;> cases ptB p cx cy <;> rfl
theorem triC_rot {p k ax ay bx by_ cx cy : Int} (h : triC p k ax ay bx by_ cx cy = 0) : triC p k bx by_ cx cy ax ay = 0 := by
  obtain ⟨h0, hA, q3, q2, q1⟩ := triC_ok h
  have hA2 : area p bx by_ cx cy ax ay ≠ 0 := by
    rw [area_raw] at hA ⊢
    rw [show det bx by_ cx cy ax ay = det ax ay bx by_ cx cy by unfold det; grind]
    exact hA
  unfold triC
  rw [if_pos (by rw [ptsB_rot]; exact h0), if_neg ?_]
  rintro (e | e | e | e)
  · exact hA2 e
  · exact q1 e
  · rw [quad_sym] at e; exact q3 e
  · rw [quad_sym] at e; exact q2 e
theorem ratio_eq {p M S Q : Int} (hf : fieldB p = true) (hQ : 0 ≤ Q) (hQ2 : Q < p) (hQ3 : Q ≠ 0) (h : S % p = (M * Q) % p) : ratioN p S Q = M % p := by
  have hi := (inv_facts hf hQ hQ2).1 hQ3
  have hp := field_bd hf
  unfold ratioN
  rw [cgM h (rfl : inv p Q % p = inv p Q % p), show M * Q * inv p Q = M * (Q * inv p Q) by grind]
  rw [cgM (rfl : M % p = M % p) (show (Q * inv p Q) % p = 1 % p by rw [hi, one_mod (by omega)])]
  simp
theorem third_len {p r s : Int} (hf : fieldB p = true) (r1 : 0 ≤ r) (r2 : r < p) (s1 : 0 ≤ s) (s2 : s < p) : (numsW (fun t => tripleB p r s t) p.toNat).length ≤ 2 := by
  have h := primesB_spec (f := fun p => allTo (fun r => allTo (fun s => decide ((numsW (fun t => tripleB p r s t) p.toNat).length ≤ 2)) p.toNat) p.toNat) (by decide +kernel) hf
  have h := allTo_spec (allTo_spec h r r1 (by omega)) s s1 (by omega)
  simpa using h
theorem mem_numsW {P : Int → Bool} {n : Nat} {t : Int} (h0 : 0 ≤ t) (h1 : t < n) (h : P t = true) : t ∈ numsW P n := by
  unfold numsW upTo
  rw [List.mem_filter, List.mem_map]
  exact ⟨⟨t.toNat, List.mem_range.2 (by omega), by omega⟩, h⟩
/-- What a great law asks of a triangle. -/
theorem tri_ex (p k ax ay bx by_ cx cy : Int) : ∃ r, sratOf p k ax ay bx by_ cx cy = (r, triC p k ax ay bx by_ cx cy) ∧ (triC p k ax ay bx by_ cx cy = 0 →
    1 ≤ p ∧ p ≤ 31 ∧ sratOf p k bx by_ cx cy ax ay = (r, 0) ∧ satOf p k ax ay bx by_ cx cy = (spreadP p k ax ay bx by_ cx cy, 0) ∧
    tripleOf p (spreadP p k ax ay bx by_ cx cy) (spreadP p k bx by_ ax ay cx cy) (spreadP p k cx cy ax ay bx by_) = (true, 0) ∧
    ask p (numB p (spreadP p k ax ay bx by_ cx cy) && numB p (spreadP p k bx by_ ax ay cx cy)) = 0 ∧
    spreadP p k cx cy ax ay bx by_ ∈ numsW (fun t => tripleB p (spreadP p k ax ay bx by_ cx cy) (spreadP p k bx by_ ax ay cx cy) t) p.toNat) := by
  by_cases h : triC p k ax ay bx by_ cx cy = 0
  · obtain ⟨h0, hA, q3, q2, q1⟩ := triC_ok h
    obtain ⟨hf, hv⟩ := ask_ok h0
    have hp := field_bd hf
    obtain ⟨M, e0, e1, e2, e4, _⟩ := tri_ratio h
    have ht := tri_triple h
    have b1 := quad_bd (p := p) (k := k) (ax := bx) (ay := by_) (bx := cx) (by_ := cy) (by omega)
    have b2 := quad_bd (p := p) (k := k) (ax := ax) (ay := ay) (bx := cx) (by_ := cy) (by omega)
    have c0 := spreadP_bd (p := p) (k := k) (ax := ax) (ay := ay) (bx := bx) (by_ := by_) (cx := cx) (cy := cy) (by omega)
    have c1 := spreadP_bd (p := p) (k := k) (ax := bx) (ay := by_) (bx := ax) (by_ := ay) (cx := cx) (cy := cy) (by omega)
    have c2 := spreadP_bd (p := p) (k := k) (ax := cx) (ay := cy) (bx := ax) (by_ := ay) (cx := bx) (cy := by_) (by omega)
    have hr1 := ratio_eq hf b1.1 b1.2 q1 e0
    have hr2 := ratio_eq hf b2.1 b2.2 q2 e4
    refine ⟨M % p, by unfold sratOf; rw [if_pos h, hr1, h], fun _ => ⟨by omega, by omega, ?_, ?_, ?_, ?_, ?_⟩⟩
    · unfold sratOf
      rw [if_pos (triC_rot h), ← quad_sym p k cx cy ax ay] at *
      rw [hr2]
    · unfold satOf
      rw [if_pos h0, if_neg (by rintro (e | e); exact q3 e; exact q2 e)]
    · unfold tripleOf
      rw [if_pos (ask_mk' hf (by simp only [numB_mk c0.1 c0.2, numB_mk c1.1 c1.2, numB_mk c2.1 c2.2, Bool.and_self])), ht]
    · exact ask_mk' hf (by simp only [numB_mk c0.1 c0.2, numB_mk c1.1 c1.2, Bool.and_self])
    · exact mem_numsW c2.1 (by omega) ht
  · exact ⟨0, by unfold sratOf; rw [if_neg h], fun h' => absurd h' h⟩
end Go.Proofs.Ytbjcbbnfgfmllaa.Pl
