/- Plain law: lines through two points, the points of a line, the lines of a point, meets, parallels. No program in sight. -/
import Derived.Test.YtbjcbbnfgfmllaaGreatDoorPl15
set_option linter.unusedVariables false
set_option linter.unusedSimpArgs false
namespace Go.Proofs.YtbjcbbnfgfmllaaGreatDoor.Pl
theorem first_ne {p a b : Int} (h : a % p ≠ 0 ∨ b % p ≠ 0) : first p a b ≠ 0 := by
  unfold first
  by_cases h0 : a % p = 0
  · rw [if_pos h0]; exact h.resolve_left fun k => k h0
  · rw [if_neg h0]; exact h0
/-- The numbers of a line that is made are those of a line. -/
theorem nrm_dir {p a b : Int} (hf : fieldB p = true) (h : a % p ≠ 0 ∨ b % p ≠ 0) : nrm p a b a = 1 ∨ nrm p a b a = 0 ∧ nrm p a b b = 1 := by
  have hp := field_bd hf
  have hb := first_bd (p := p) (a := a) (b := b) (by omega)
  have hi := (inv_facts hf hb.1 hb.2).1 (first_ne h)
  by_cases h0 : a % p = 0
  · right
    have hfi : first p a b = b % p := by unfold first; rw [if_pos h0]
    rw [hfi] at hi
    constructor
    · unfold nrm; rw [cgM (show a % p = 0 % p by rw [h0]; simp) rfl]; simp
    · unfold nrm; rw [hfi, ← mulL]; exact hi
  · left
    have hfi : first p a b = a % p := by unfold first; rw [if_neg h0]
    rw [hfi] at hi
    unfold nrm; rw [hfi, ← mulL]; exact hi
theorem th_on {p ax ay bx by_ : Int} : onB p ax ay (thA p ax ay bx by_) (thB p ax ay bx by_) (thC p ax ay bx by_) = true ∧ onB p bx by_ (thA p ax ay bx by_) (thB p ax ay bx by_) (thC p ax ay bx by_) = true := by
  unfold onB thA thB thC nrm
  simp only [beq_iff_eq]
  generalize inv p (first p ((by_ - ay) % p) (-((bx - ax) % p))) = i
  have e1 := mm p (by_ - ay)
  have e2 := mm p (bx - ax)
  constructor
  · rw [cgA (cgA (cgM (mm p _) rfl) (cgM (mm p _) rfl)) (mm p _)]
    rw [show (by_ - ay) % p * i * ax + -((bx - ax) % p) * i * ay + -((by_ - ay) % p * ax + -((bx - ax) % p) * ay) * i = 0 by grind]
    simp
  · rw [cgA (cgA (cgM (mm p _) rfl) (cgM (mm p _) rfl)) (mm p _)]
    rw [show (by_ - ay) % p * i * bx + -((bx - ax) % p) * i * by_ + -((by_ - ay) % p * ax + -((bx - ax) % p) * ay) * i = i * ((by_ - ay) % p * (bx - ax) - (bx - ax) % p * (by_ - ay)) by grind]
    rw [cgM (rfl : i % p = i % p) (cgS (cgM e1 (rfl : (bx - ax) % p = (bx - ax) % p)) (cgM e2 (rfl : (by_ - ay) % p = (by_ - ay) % p)))]
    rw [show i * ((by_ - ay) * (bx - ax) - (bx - ax) * (by_ - ay)) = 0 by grind]
    simp
/-- Every line through a point is among those of the point. -/
theorem lt_mem {p ax ay a b c : Int} (hl : lineB p a b c = true) (ho : onB p ax ay a b c = true) : (a, b, c) ∈ ltAll p ax ay := by
  obtain ⟨a1, a2, b1, b2, c1, c2, hd⟩ := lineB_bd hl
  unfold onB at ho
  simp only [beq_iff_eq] at ho
  have hc : c = (-(a * ax + b * ay)) % p := by
    have h1 : (c - -(a * ax + b * ay)) % p = 0 := by rw [show c - -(a * ax + b * ay) = a * ax + b * ay + c by omega]; exact ho
    have h2 := Int.emod_eq_emod_iff_emod_sub_eq_zero.2 h1
    rwa [Int.emod_eq_of_lt c1 c2] at h2
  simp only [ltAll, ltTo, List.mem_cons, List.mem_map, List.mem_range, Prod.mk.injEq]
  rcases hd with rfl | ⟨rfl, rfl⟩
  · exact .inr ⟨b.toNat, by omega, rfl, by omega, by rw [hc, Int.toNat_of_nonneg b1]; exact (par1 p ax ay b).symm⟩
  · exact .inl ⟨rfl, rfl, by rw [hc]; exact par0 p ax ay⟩
theorem sum_const (n : Nat) {α : Type} : ∀ (L : List α) (f : α → Nat), (∀ x ∈ L, f x = n) → (L.map f).sum = L.length * n
  | [], f, h => by simp
  | x :: L, f, h => by
    rw [List.map_cons, List.sum_cons, sum_const n L f fun y hy => h y (List.mem_cons_of_mem _ hy), h x (List.mem_cons_self ..), List.length_cons, Nat.succ_mul]
    omega
theorem sum_add {α : Type} (f g : α → Nat) : ∀ L : List α, (L.map fun x => f x + g x).sum = (L.map f).sum + (L.map g).sum
  | [] => rfl
  | x :: L => by simp only [List.map_cons, List.sum_cons, sum_add f g L]; omega
theorem cnt_swap (P : Nat → Nat → Bool) (M : List Nat) : ∀ L : List Nat, (L.map fun i => M.countP fun j => P i j).sum = (M.map fun j => L.countP fun i => P i j).sum
  | [] => by
    have h := sum_const 0 M (fun _ => 0) fun _ _ => rfl
    simp only [List.map_nil, List.sum_nil, List.countP_nil]
    omega
  | x :: L => by
    rw [List.map_cons, List.sum_cons, cnt_swap P M L]
    have h : (M.map fun j => (x :: L).countP fun i => P i j) = M.map fun j => (if P x j = true then 1 else 0) + L.countP fun i => P i j := by
      apply List.map_congr_left
      intro j _
      rw [List.countP_cons]
      omega
    rw [h, sum_add]
    congr 1
    clear h
    induction M with
    | nil => rfl
    | cons y M ih => rw [List.countP_cons, List.map_cons, List.sum_cons, ← ih]; omega
theorem count_zero {n : Nat} (h : 0 < n) : (List.range n).countP (fun j => j == 0) = 1 := by
  obtain ⟨m, rfl⟩ : ∃ m, n = m + 1 := ⟨n - 1, by omega⟩
  rw [List.range_succ_eq_map, List.countP_cons, List.countP_map]
  rw [List.countP_eq_zero.2 (by intro a _; simp)]
  rfl
theorem count_one {n : Nat} (h : 0 < n) (k : Int) : (List.range n).countP (fun j : Nat => ((j : Int) + k) % (n : Int) == 0) = 1 := by
  have hk0 := Int.emod_nonneg k (show (n : Int) ≠ 0 by omega)
  have hk1 := Int.emod_lt_of_pos k (show (0 : Int) < n by omega)
  obtain ⟨b, hb⟩ := Int.eq_ofNat_of_zero_le hk0
  have e : (fun j : Nat => ((j : Int) + k) % (n : Int) == 0) = fun j : Nat => (fun m : Nat => m == 0) ((j + b) % n) := by
    funext j
    have h1 : ((j : Int) + k) % (n : Int) = (((j + b) % n : Nat) : Int) := by
      rw [← addR, hb, Int.natCast_emod, Int.natCast_add]
    rw [h1]
    show _ = ((j + b) % n == 0)
    rw [Bool.eq_iff_iff, beq_iff_eq, beq_iff_eq]
    constructor
    · intro h; exact Int.ofNat_eq_zero.1 h
    · intro h; rw [h]; rfl
  rw [e, countP_shift (fun m => m == 0) (show b ≤ n by omega)]
  exact count_zero h
/-- A line has as many points as there are numbers. -/
theorem points_len {p a b c : Int} (hp : 1 ≤ p) (hd : a = 1 ∨ a = 0 ∧ b = 1) : ((ptsW (fun x => onB p x.1 x.2 a b c) p).length : Int) = p := by
  obtain ⟨n, rfl⟩ := Int.eq_ofNat_of_zero_le (show 0 ≤ p by omega)
  rw [ptsW_cnt]
  have hn : 0 < n := by omega
  unfold cnt2
  rcases hd with rfl | ⟨rfl, rfl⟩
  · rw [cnt_swap (fun i j : Nat => onB n i j 1 b c), sum_const 1 _ _ (by
      intro j _
      have e : (fun i : Nat => onB n i j 1 b c) = fun i : Nat => ((i : Int) + (b * j + c)) % (n : Int) == 0 := by
        funext i
        unfold onB
        rw [show 1 * (i : Int) + b * j + c = i + (b * j + c) by omega]
      rw [e]
      exact count_one hn _)]
    simp
  · rw [sum_const 1 _ _ (by
      intro i _
      have e : (fun j : Nat => onB n i j 0 1 c) = fun j : Nat => ((j : Int) + c) % (n : Int) == 0 := by
        funext j
        unfold onB
        rw [show 0 * (i : Int) + 1 * j + c = j + c by omega]
      rw [e]
      exact count_one hn _)]
    simp
def sm3 (a b c : Int) : Prop := (0 ≤ a ∧ a ≤ 31) ∧ (0 ≤ b ∧ b ≤ 31) ∧ 0 ≤ c ∧ c ≤ 31
def sm2 (a b : Int) : Prop := (0 ≤ a ∧ a ≤ 31) ∧ 0 ≤ b ∧ b ≤ 31
theorem lineB_mk' {p a b c : Int} (hd : a = 1 ∨ a = 0 ∧ b = 1) (hp : 2 ≤ p) (h1 : 0 ≤ b ∧ b < p) (h2 : 0 ≤ c ∧ c < p) : lineB p a b c = true := lineB_mk hp hd h1.1 h1.2 h2.1 h2.2
/-- What a great law asks of the line through two points. -/
theorem lt_ex (p ax ay bx by_ : Int) : ∃ a b c q, ltOf p ax ay bx by_ = ((a, b, c), q) ∧ sm3 a b c ∧ (q = 0 → 3 ≤ p ∧ p ≤ 31 ∧ onOf p ax ay a b c = (true, 0) ∧ onOf p bx by_ a b c = (true, 0) ∧
    ask p (linesB p [(a, b, c)]) = 0 ∧ ((ptsW (fun x => onB p x.1 x.2 a b c) p).length : Int) = p ∧ ask p (ptsB p [(ax, ay)]) = 0 ∧ ((ltAll p ax ay).length : Int) = p + 1 ∧ (a, b, c) ∈ ltAll p ax ay ∧ ∀ m ∈ ltAll p ax ay, sm3 m.1 m.2.1 m.2.2) := by
  by_cases h : ask p (ptsB p [(ax, ay), (bx, by_)]) = 0
  · obtain ⟨hf, hv⟩ := ask_ok h
    have hp := field_bd hf
    obtain ⟨⟨a1, a2, a3, a4⟩, b1, b2, b3, b4⟩ := pts2_bd hv
    by_cases he : ax = bx ∧ ay = by_
    · exact ⟨0, 0, 0, 5, by unfold ltOf; rw [if_pos h, if_pos he], ⟨by omega, by omega, by omega⟩, fun hq => by omega⟩
    · have hne := ne_pt a1 a2 a3 a4 b1 b2 b3 b4 he
      obtain ⟨t1, t2, t3⟩ := th_bd (p := p) (ax := ax) (ay := ay) (bx := bx) (by_ := by_) (by omega)
      have hne' : ((by_ - ay) % p) % p ≠ 0 ∨ (-((bx - ax) % p)) % p ≠ 0 := by
        rcases hne with h | h
        · left; rw [mm]; exact h
        · right; rw [negM]; exact neg_ne h
      have hd : thA p ax ay bx by_ = 1 ∨ thA p ax ay bx by_ = 0 ∧ thB p ax ay bx by_ = 1 := nrm_dir hf hne'
      have hl := lineB_mk' hd (by omega) t2 t3
      obtain ⟨o1, o2⟩ := th_on (p := p) (ax := ax) (ay := ay) (bx := bx) (by_ := by_)
      have pa : ptB p ax ay = true := by simp only [ptB, numB_mk a1 a2, numB_mk a3 a4, Bool.and_self]
      have pb : ptB p bx by_ = true := by simp only [ptB, numB_mk b1 b2, numB_mk b3 b4, Bool.and_self]
      refine ⟨_, _, _, 0, by unfold ltOf; rw [if_pos h, if_neg he], ⟨by omega, by omega, by omega⟩, fun _ => ⟨hp.1, hp.2, ?_, ?_, ?_, points_len (by omega) hd, ?_, ?_, lt_mem hl o1, ?_⟩⟩
      · unfold onOf; rw [if_pos (ask_mk' hf (by simp only [pa, hl, Bool.and_self])), o1]
      · unfold onOf; rw [if_pos (ask_mk' hf (by simp only [pb, hl, Bool.and_self])), o2]
      · exact ask_mk' hf (by rw [linesB1]; exact hl)
      · exact ask_mk' hf (by rw [ptsB1]; exact pa)
      · rw [ltAll_len]; omega
      · intro m hm
        obtain ⟨x, y, z⟩ := m
        obtain ⟨d, y1, y2, z1, z2⟩ := mem_ltAll (by omega) hm
        exact ⟨by dsimp only; omega, by dsimp only; omega, by dsimp only; omega⟩
  · exact ⟨0, 0, 0, _, by unfold ltOf; rw [if_neg h], ⟨by omega, by omega, by omega⟩, fun hq => absurd hq h⟩
theorem meet_ex (p la lb lc ma mb mc : Int) : ∃ x y q b q2, meetOf p la lb lc ma mb mc = ((x, y), q) ∧ parOf p la lb lc ma mb mc = (b, q2) ∧ sm2 x y ∧ (q2 = 0 → b = (q == 5)) ∧
    (q = 0 → onOf p x y la lb lc = (true, 0) ∧ onOf p x y ma mb mc = (true, 0)) := by
  by_cases h : ask p (linesB p [(la, lb, lc), (ma, mb, mc)]) = 0
  · obtain ⟨hf, hv⟩ := ask_ok h
    have hp := field_bd hf
    have hv2 : lineB p la lb lc = true ∧ lineB p ma mb mc = true := by simpa [linesB] using hv
    cases hb : parB p la lb ma mb with
    | true => exact ⟨0, 0, 5, true, 0, by unfold meetOf; rw [if_pos h, if_pos hb], by unfold parOf; rw [if_pos h, hb], ⟨by omega, by omega⟩, fun _ => rfl, fun hq => by omega⟩
    | false =>
      obtain ⟨⟨x1, x2⟩, y1, y2⟩ := meet_bd (p := p) (la := la) (lb := lb) (lc := lc) (ma := ma) (mb := mb) (mc := mc) (by omega)
      obtain ⟨o1, o2⟩ := meet_on (lc := lc) (mc := mc) hf hb
      have hpt : ptB p (meetX p la lb lc ma mb mc) (meetY p la lb lc ma mb mc) = true := by simp only [ptB, numB_mk x1 x2, numB_mk y1 y2, Bool.and_self]
      refine ⟨_, _, 0, false, 0, by unfold meetOf; rw [if_pos h, if_neg (by rw [hb]; decide)], by unfold parOf; rw [if_pos h, hb], ⟨by omega, by omega⟩, fun _ => rfl, fun _ => ⟨?_, ?_⟩⟩
      · unfold onOf; rw [if_pos (ask_mk' hf (by simp only [hpt, hv2.1, Bool.and_self])), o1]
      · unfold onOf; rw [if_pos (ask_mk' hf (by simp only [hpt, hv2.2, Bool.and_self])), o2]
  · exact ⟨0, 0, _, false, _, by unfold meetOf; rw [if_neg h], by unfold parOf; rw [if_neg h], ⟨by omega, by omega⟩, fun hq => absurd hq h, fun hq => absurd hq h⟩
theorem par_ex (p la lb lc ax ay : Int) : ∃ a b c q, parThOf p la lb lc ax ay = ((a, b, c), q) ∧ sm3 a b c ∧ (q = 0 → onOf p ax ay a b c = (true, 0) ∧ parOf p la lb lc a b c = (true, 0)) := by
  by_cases h : ask p (ptB p ax ay && lineB p la lb lc) = 0
  · obtain ⟨hf, hv⟩ := ask_ok h
    have hp := field_bd hf
    simp only [Bool.and_eq_true] at hv
    obtain ⟨ha, hl⟩ := hv
    obtain ⟨la1, la2, lb1, lb2, lc1, lc2, hd⟩ := lineB_bd hl
    have c1 : 0 ≤ (-(la * ax + lb * ay)) % p := Int.emod_nonneg _ (by omega)
    have c2 : (-(la * ax + lb * ay)) % p < p := Int.emod_lt_of_pos _ (by omega)
    have hm := lineB_mk (by omega) hd lb1 lb2 c1 c2
    refine ⟨_, _, _, 0, by unfold parThOf; rw [if_pos h], ⟨by omega, by omega, by omega⟩, fun _ => ⟨?_, ?_⟩⟩
    · unfold onOf
      rw [if_pos (ask_mk' hf (by simp only [ha, hm, Bool.and_self]))]
      unfold onB
      rw [cgA (rfl : (la * ax + lb * ay) % p = (la * ax + lb * ay) % p) (mm p _), show la * ax + lb * ay + -(la * ax + lb * ay) = 0 by omega]
      simp
    · unfold parOf
      rw [if_pos (ask_mk' hf (by simp only [linesB, List.all_cons, List.all_nil, hl, hm, Bool.and_self]))]
      unfold parB
      rw [show la * lb - lb * la = 0 by rw [Int.mul_comm]; omega]
      simp
  · exact ⟨0, 0, 0, _, by unfold parThOf; rw [if_neg h], ⟨by omega, by omega, by omega⟩, fun hq => absurd hq h⟩
theorem line_ex (p a b c : Int) : ∃ x y z q, lineOf p a b c = ((x, y, z), q) ∧ sm3 x y z := by
  by_cases h : ask p (numB p a && numB p b && numB p c) = 0
  · have hp := field_bd (ask_ok h).1
    by_cases h0 : a = 0 ∧ b = 0
    · exact ⟨0, 0, 0, 5, by unfold lineOf; rw [if_pos h, if_pos h0], ⟨by omega, by omega, by omega⟩⟩
    · have b1 := nrm_bd (p := p) (a := a) (b := b) (x := a) (by omega)
      have b2 := nrm_bd (p := p) (a := a) (b := b) (x := b) (by omega)
      have b3 := nrm_bd (p := p) (a := a) (b := b) (x := c) (by omega)
      exact ⟨_, _, _, 0, by unfold lineOf; rw [if_pos h, if_neg h0], ⟨by omega, by omega, by omega⟩⟩
  · exact ⟨0, 0, 0, _, by unfold lineOf; rw [if_neg h], ⟨by omega, by omega, by omega⟩⟩
theorem mid_ex (p ax ay bx by_ : Int) : ∃ x y q, midOf p ax ay bx by_ = ((x, y), q) ∧ sm2 x y := by
  by_cases h : ask p (ptsB p [(ax, ay), (bx, by_)]) = 0
  · have hp := field_bd (ask_ok h).1
    have b1 := comb_bd (p := p) (a := ax) (b := bx) (t := inv p 2) (by omega)
    have b2 := comb_bd (p := p) (a := ay) (b := by_) (t := inv p 2) (by omega)
    exact ⟨_, _, 0, by unfold midOf; rw [if_pos h], ⟨by omega, by omega⟩⟩
  · exact ⟨0, 0, _, by unfold midOf; rw [if_neg h], ⟨by omega, by omega⟩⟩
theorem on_small {p a b c : Int} {x : Int × Int} (hp : 0 ≤ p) (hp2 : p ≤ 31) (h : x ∈ ptsW (fun x => onB p x.1 x.2 a b c) p) : 0 ≤ x.1 ∧ x.1 ≤ 31 ∧ 0 ≤ x.2 ∧ x.2 ≤ 31 := by
  obtain ⟨_, h1, h2, h3, h4⟩ := mem_ptsW h
  exact ⟨h1, by omega, h3, by omega⟩
end Go.Proofs.YtbjcbbnfgfmllaaGreatDoor.Pl
