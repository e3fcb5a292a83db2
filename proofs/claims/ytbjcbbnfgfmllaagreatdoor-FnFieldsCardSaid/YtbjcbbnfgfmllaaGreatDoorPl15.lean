/- Plain law: meets lie on both lines, feet, null lines: none or two. No program in sight. -/
import Derived.Test.YtbjcbbnfgfmllaaGreatDoorPlA
set_option linter.unusedVariables false
set_option linter.unusedSimpArgs false
namespace Go.Proofs.YtbjcbbnfgfmllaaGreatDoor.Pl
theorem meet_on {p la lb lc ma mb mc : Int} (hf : fieldB p = true) (hn : parB p la lb ma mb = false) :
    onB p (meetX p la lb lc ma mb mc) (meetY p la lb lc ma mb mc) la lb lc = true ∧ onB p (meetX p la lb lc ma mb mc) (meetY p la lb lc ma mb mc) ma mb mc = true := by
  have hD : (la * mb - lb * ma) % p ≠ 0 := by
    unfold parB at hn
    simpa using hn
  have he := inv_one hf hD
  unfold onB meetX meetY
  simp only [beq_iff_eq]
  generalize inv p ((la * mb - lb * ma) % p) = i at *
  constructor
  · rw [cgA (cgA (cgM rfl (mm p _)) (cgM rfl (mm p _))) rfl]
    rw [Pl.lc (B := 0) (-lc) he (by grind)]
    simp
  · rw [cgA (cgA (cgM rfl (mm p _)) (cgM rfl (mm p _))) rfl]
    rw [Pl.lc (B := 0) (-mc) he (by grind)]
    simp
theorem perp_on {p k la lb ax ay : Int} : onB p ax ay (perpMa p k la lb) (perpMb p k la lb) (perpMc p k la lb ax ay) = true := by
  unfold onB perpMc
  simp only [beq_iff_eq]
  rw [cgA rfl (mm p _), show perpMa p k la lb * ax + perpMb p k la lb * ay + -(perpMa p k la lb * ax + perpMb p k la lb * ay) = 0 by omega]
  simp
theorem lt_on {p ax ay a b c : Int} (h : (a, b, c) ∈ ltAll p ax ay) : onB p ax ay a b c = true := by
  simp only [ltAll, ltTo, List.mem_cons, List.mem_map, List.mem_range, Prod.mk.injEq] at h
  unfold onB
  simp only [beq_iff_eq]
  rcases h with ⟨rfl, rfl, rfl⟩ | ⟨i, hi, rfl, rfl, rfl⟩
  · rw [cgA rfl (mm p _), show 0 * ax + 1 * ay + -ay = 0 by omega]
    simp
  · rw [cgA rfl (mm p _), show 1 * ax + (i : Int) * ay + (-ax - (i : Int) * ay) = 0 by omega]
    simp
theorem lineB_mk {p a b c : Int} (hp : 2 ≤ p) (hd : a = 1 ∨ a = 0 ∧ b = 1) (h1 : 0 ≤ b) (h2 : b < p) (h3 : 0 ≤ c) (h4 : c < p) : lineB p a b c = true := by
  have ha : numB p a = true := numB_mk (by omega) (by omega)
  simp only [lineB, ha, numB_mk h1 h2, numB_mk h3 h4, Bool.true_and, Bool.or_eq_true, Bool.and_eq_true, beq_iff_eq]
  exact hd
theorem ask_mk' {p : Int} {b : Bool} (hf : fieldB p = true) (hb : b = true) : ask p b = 0 := by simp [ask, hf, hb]
/-- A line through a point that is perpendicular to another. -/
theorem perp_law {p k la lb lc ax ay : Int} (h : ask p (colB k && lineB p la lb lc && ptB p ax ay) = 0) :
    perpOf p k la lb lc (perpMa p k la lb) (perpMb p k la lb) (perpMc p k la lb ax ay) = (true, 0) ∧ onOf p ax ay (perpMa p k la lb) (perpMb p k la lb) (perpMc p k la lb ax ay) = (true, 0) := by
  obtain ⟨hf, hv⟩ := ask_ok h
  have hp := field_bd hf
  simp only [Bool.and_eq_true] at hv
  obtain ⟨⟨hk, hl⟩, ha⟩ := hv
  obtain ⟨la1, la2, lb1, lb2, lc1, lc2, hd⟩ := lineB_bd hl
  obtain ⟨_, _, _, _, h5⟩ := perp_fin hf hk hd lb1 lb2
  obtain ⟨hd2, m1, m2⟩ := perp_bd hf hk hd lb1 lb2
  obtain ⟨c1, c2⟩ := perpMc_bd (p := p) (k := k) (la := la) (lb := lb) (ax := ax) (ay := ay) (by omega)
  have hm := lineB_mk (by omega) hd2 m1 m2 c1 c2
  constructor
  · unfold perpOf
    rw [if_pos (ask_mk' hf (by simp only [linesB, List.all_cons, List.all_nil, hk, hl, hm, Bool.and_self])), h5]
  · unfold onOf
    rw [if_pos (ask_mk' hf (by simp only [ha, hm, Bool.and_self])), perp_on]
theorem foot_bd {p k ax ay la lb lc : Int} (hp : 1 ≤ p) : (0 ≤ footX p k ax ay la lb lc ∧ footX p k ax ay la lb lc < p) ∧ 0 ≤ footY p k ax ay la lb lc ∧ footY p k ax ay la lb lc < p := meet_bd hp
/-- The foot is on the line and on the perpendicular through the point. -/
theorem foot_law {p k ax ay la lb lc : Int} (h : ask p (colB k && ptB p ax ay && lineB p la lb lc) = 0) (hn : nullB p k la lb = false) :
    onOf p (footX p k ax ay la lb lc) (footY p k ax ay la lb lc) la lb lc = (true, 0) ∧ perpTOf p k la lb lc ax ay = ((perpMa p k la lb, perpMb p k la lb, perpMc p k la lb ax ay), 0) ∧
      onOf p (footX p k ax ay la lb lc) (footY p k ax ay la lb lc) (perpMa p k la lb) (perpMb p k la lb) (perpMc p k la lb ax ay) = (true, 0) := by
  obtain ⟨hf, hv⟩ := ask_ok h
  have hp := field_bd hf
  simp only [Bool.and_eq_true] at hv
  obtain ⟨⟨hk, ha⟩, hl⟩ := hv
  obtain ⟨la1, la2, lb1, lb2, lc1, lc2, hd⟩ := lineB_bd hl
  obtain ⟨hd2, m1, m2⟩ := perp_bd hf hk hd lb1 lb2
  obtain ⟨c1, c2⟩ := perpMc_bd (p := p) (k := k) (la := la) (lb := lb) (ax := ax) (ay := ay) (by omega)
  have hm := lineB_mk (by omega) hd2 m1 m2 c1 c2
  have hpar := perp_par hf hk hd lb1 lb2 hn
  obtain ⟨o1, o2⟩ := meet_on (lc := lc) (mc := perpMc p k la lb ax ay) hf hpar
  obtain ⟨⟨f1, f2⟩, f3, f4⟩ := foot_bd (p := p) (k := k) (ax := ax) (ay := ay) (la := la) (lb := lb) (lc := lc) (by omega)
  have hpt : ptB p (footX p k ax ay la lb lc) (footY p k ax ay la lb lc) = true := by simp only [ptB, numB_mk f1 f2, numB_mk f3 f4, Bool.and_self]
  refine ⟨?_, ?_, ?_⟩
  · unfold onOf
    rw [if_pos (ask_mk' hf (by simp only [hpt, hl, Bool.and_self]))]
    exact congrArg (·, (0 : Int)) o1
  · unfold perpTOf
    rw [if_pos (ask_mk' hf (by simp only [hk, hl, ha, Bool.and_self]))]
  · unfold onOf
    rw [if_pos (ask_mk' hf (by simp only [hpt, hm, Bool.and_self]))]
    exact congrArg (·, (0 : Int)) o2
/-- The number of lines through a point of a kind that hangs on the direction alone. -/
def dirsN (P : Int → Int → Bool) (p : Int) : Nat := (if P 0 1 = true then 1 else 0) + (List.range p.toNat).countP fun b : Nat => P 1 (b : Int)
theorem lnsW_dirs (P : Int → Int → Bool) (p ax ay : Int) : (lnsW (fun m => P m.1 m.2.1) p ax ay).length = dirsN P p := by
  unfold lnsW ltAll ltTo dirsN
  rw [List.filter_cons]
  have h : (((List.range p.toNat).map fun b : Nat => ((1 : Int), (b : Int), (-ax - (b : Int) * ay) % p)).filter fun m => P m.1 m.2.1).length = (List.range p.toNat).countP fun b : Nat => P 1 (b : Int) := by
    rw [← List.countP_eq_length_filter, List.countP_map]
    rfl
  split
  · rw [List.length_cons, h]
    simp_all
    omega
  · rw [h]
    simp_all
theorem null_count {p k ax ay : Int} (hf : fieldB p = true) (hk : colB k = true) :
    let n := (lnsW (fun m => nullB p k m.1 m.2.1) p ax ay).length
    (n = 0 ∨ n = 2) ∧ (0 < k → n = 2) := by
  intro n
  have hn : n = dirsN (nullB p k) p := lnsW_dirs _ _ _ _
  have h := primesB_spec (f := fun p => colsB fun k => (dirsN (nullB p k) p == 0 || dirsN (nullB p k) p == 2) && (decide (k ≤ 0) || dirsN (nullB p k) p == 2)) (by decide +kernel) hf
  have h := colsB_spec h hk
  simp only [Bool.and_eq_true, Bool.or_eq_true, beq_iff_eq, decide_eq_true_eq] at h
  rw [hn]
  exact ⟨h.1, fun hk0 => h.2.resolve_left (by omega)⟩
/-- A null line through a point. -/
theorem null_mem {p k ax ay : Int} {m : Int × Int × Int} (h : ask p (colB k && ptsB p [(ax, ay)]) = 0) (hm : m ∈ lnsW (fun m => nullB p k m.1 m.2.1) p ax ay) :
    nullOf p k m.1 m.2.1 m.2.2 = (true, 0) ∧ onOf p ax ay m.1 m.2.1 m.2.2 = (true, 0) ∧ (0 ≤ m.1 ∧ m.1 ≤ 31) ∧ (0 ≤ m.2.1 ∧ m.2.1 ≤ 31) ∧ 0 ≤ m.2.2 ∧ m.2.2 ≤ 31 := by
  obtain ⟨hf, hv⟩ := ask_ok h
  have hp := field_bd hf
  simp only [Bool.and_eq_true] at hv
  obtain ⟨hk, ha⟩ := hv
  rw [ptsB1] at ha
  obtain ⟨hm1, hm2⟩ := List.mem_filter.1 hm
  obtain ⟨a, b, c⟩ := m
  obtain ⟨hd, b1, b2, c1, c2⟩ := mem_ltAll (by omega) hm1
  have hl := lineB_mk (by omega) hd b1 b2 c1 c2
  refine ⟨?_, ?_, by dsimp only; omega, by dsimp only; omega, by dsimp only; omega⟩
  · unfold nullOf
    rw [if_pos (ask_mk' hf (by simp only [linesB, List.all_cons, List.all_nil, hk, hl, Bool.and_self]))]
    exact congrArg (·, (0 : Int)) hm2
  · unfold onOf
    rw [if_pos (ask_mk' hf (by simp only [ha, hl, Bool.and_self]))]
    exact congrArg (·, (0 : Int)) (lt_on hm1)
end Go.Proofs.YtbjcbbnfgfmllaaGreatDoor.Pl
