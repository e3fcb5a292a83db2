/- Plain law: numbers that are read from texts. No program in sight. -/
import Derived.IntWalk
set_option linter.unusedVariables false
set_option linter.unusedSimpArgs false
namespace Go.Proofs.YtbjcbbnfgfmllaaGreatDoor.Pl
def isD (c : UInt8) : Bool := decide (48 ≤ c.toNat) && decide (c.toNat ≤ 57)
def decV (l : List UInt8) : Int := l.foldl (fun n c => 10 * n + ((c.toNat : Int) - 48)) 0
/-- The digits in front, three at most. -/
def front (l : List UInt8) : List UInt8 := (l.take 3).takeWhile isD
def badF (p : Int) (d : List UInt8) : Bool := d.isEmpty || (decide (1 < d.length) && d.head? == some 48) || decide (p ≤ decV d)
/-- What readNumbers reads where k + 1 numbers are asked. -/
def readN (p : Int) : Nat → List UInt8 → Option (List Int)
  | 0, l => if badF p (front l) then none else if (l.drop (front l).length).isEmpty then some [decV (front l)] else none
  | k + 1, l =>
    if badF p (front l) then none
    else match l.drop (front l).length with
      | [] => none
      | c :: r => if c = 44 then (readN p k r).map (decV (front l) :: ·) else none
/-- The parts of a text between the commas. -/
def splitC : List UInt8 → List (List UInt8)
  | [] => [[]]
  | x :: r => if x = 44 then [] :: splitC r else match splitC r with
    | h :: t => (x :: h) :: t
    | [] => [[x]]
/-- The number of a part, or -1. -/
def numI (s : List UInt8) : Int := if s.isEmpty || decide (9 < s.length) || (decide (1 < s.length) && s.head? == some 48) || !(s.all isD) then -1 else decV s
theorem splitC_ne (l : List UInt8) : splitC l ≠ [] := by
  cases l with
  | nil => simp [splitC]
  | cons x r =>
    rw [splitC]
    split
    · simp
    · split <;> simp
theorem splitC_free : ∀ a : List UInt8, (∀ x ∈ a, x ≠ 44) → splitC a = [a]
  | [], _ => rfl
  | x :: r, h => by
    rw [splitC, if_neg (h x (by simp)), splitC_free r (fun y hy => h y (by simp [hy]))]
theorem splitC_cut : ∀ (a r : List UInt8), (∀ x ∈ a, x ≠ 44) → splitC (a ++ 44 :: r) = a :: splitC r
  | [], r, _ => by simp [splitC]
  | x :: a, r, h => by
    rw [List.cons_append, splitC, if_neg (h x (by simp)), splitC_cut a r (fun y hy => h y (by simp [hy]))]
/-- A text is one part, or a part, a comma and a rest. -/
theorem part_cases : ∀ l : List UInt8, (∀ x ∈ l, x ≠ 44) ∨ ∃ a r, l = a ++ 44 :: r ∧ ∀ x ∈ a, x ≠ 44
  | [] => .inl (by simp)
  | x :: l => by
    by_cases hx : x = 44
    · exact .inr ⟨[], l, by simp [hx], by simp⟩
    · rcases part_cases l with h | ⟨a, r, rfl, h⟩
      · refine .inl fun y hy => ?_
        rcases List.mem_cons.1 hy with rfl | hy
        · exact hx
        · exact h y hy
      · refine .inr ⟨x :: a, r, by simp, fun y hy => ?_⟩
        rcases List.mem_cons.1 hy with rfl | hy
        · exact hx
        · exact h y hy
theorem tw_self : ∀ {l : List UInt8}, (∀ c ∈ l, isD c = true) → l.takeWhile isD = l
  | [], _ => rfl
  | x :: l, h => by rw [List.takeWhile_cons_of_pos (h x (by simp)), tw_self (fun c hc => h c (by simp [hc]))]
theorem decV_snoc (l : List UInt8) (c : UInt8) : decV (l ++ [c]) = 10 * decV l + ((c.toNat : Int) - 48) := by simp [decV]
theorem fold_bd : ∀ (l : List UInt8) (n : Int), (∀ c ∈ l, isD c = true) → n * 10 ^ l.length ≤ l.foldl (fun n c => 10 * n + ((c.toNat : Int) - 48)) n ∧ l.foldl (fun n c => 10 * n + ((c.toNat : Int) - 48)) n < (n + 1) * 10 ^ l.length
  | [], n, _ => by simp; omega
  | c :: l, n, h => by
    have hc := h c (by simp)
    simp only [isD, Bool.and_eq_true, decide_eq_true_eq] at hc
    have ih := fold_bd l (10 * n + ((c.toNat : Int) - 48)) (fun x hx => h x (by simp [hx]))
    rw [List.foldl_cons, List.length_cons, Int.pow_succ]
    have hp : (0 : Int) < 10 ^ l.length := Int.pow_pos (by omega)
    generalize (10 : Int) ^ l.length = X at *
    have h1 : n * (X * 10) ≤ (10 * n + ((c.toNat : Int) - 48)) * X := by
      rw [show n * (X * 10) = (10 * n) * X by grind]
      exact Int.mul_le_mul_of_nonneg_right (by omega) (by omega)
    have h2 : (10 * n + ((c.toNat : Int) - 48) + 1) * X ≤ (n + 1) * (X * 10) := by
      rw [show (n + 1) * (X * 10) = (10 * n + 10) * X by grind]
      exact Int.mul_le_mul_of_nonneg_right (by omega) (by omega)
    omega
theorem decV_bd (l : List UInt8) (h : ∀ c ∈ l, isD c = true) : 0 ≤ decV l ∧ decV l < 10 ^ l.length := by
  have := fold_bd l 0 h
  unfold decV
  omega
theorem decV_long {l : List UInt8} (h : ∀ c ∈ l, isD c = true) (hh : l.head? ≠ some 48) (hl : 4 ≤ l.length) : 1000 ≤ decV l := by
  match l, hl with
  | c :: r, hl =>
    have hc := h c (by simp)
    have hr := fold_bd r ((c.toNat : Int) - 48) (fun x hx => h x (by simp [hx]))
    simp only [isD, Bool.and_eq_true, decide_eq_true_eq] at hc
    have hne : c.toNat ≠ 48 := fun e => hh (by simp; exact UInt8.toNat_inj.1 (by simpa using e))
    have e : decV (c :: r) = r.foldl (fun n c => 10 * n + ((c.toNat : Int) - 48)) ((c.toNat : Int) - 48) := by simp [decV]
    rw [e]
    have h3 : (10 : Int) ^ 3 ≤ 10 ^ r.length := by
      have : r.length = 3 + (r.length - 3) := by simp at hl; omega
      rw [this, Int.pow_add]
      have : (0 : Int) < 10 ^ (r.length - 3) := Int.pow_pos (by omega)
      omega
    have h4 : 1 * (10 : Int) ^ r.length ≤ ((c.toNat : Int) - 48) * 10 ^ r.length := Int.mul_le_mul_of_nonneg_right (by omega) (by omega)
    omega
theorem notD (x : UInt8) (h : isD x = true) : x ≠ 44 := by rintro rfl; simp [isD] at h
/-- The first part is a number below p just where its digits in front are all of it and good. -/
theorem front_spec (s r : List UInt8) (hr : ∀ c r', r = c :: r' → c = 44) : (front (s ++ r)).length ≤ s.length ∧ front (s ++ r) = s.take (front (s ++ r)).length ∧ ((front (s ++ r)).length < s.length ∨ front (s ++ r) = s) := by
  have key : front (s ++ r) = front s := by
    unfold front
    by_cases h3 : 3 ≤ s.length
    · rw [List.take_append_of_le_length h3]
    · rw [List.take_append, List.take_of_length_le (show s.length ≤ 3 by omega)]
      match r, hr with
      | [], _ => simp
      | c :: r', hr =>
        obtain rfl := hr c r' rfl
        have e : List.take (3 - s.length) (44 :: r') = 44 :: List.take (2 - s.length) r' := by
          rw [show 3 - s.length = (2 - s.length) + 1 by omega, List.take_succ_cons]
        rw [e, List.takeWhile_append]
        split
        · rename_i h
          rw [List.takeWhile_cons_of_neg (by decide)]
          have := (List.takeWhile_prefix (p := isD) (l := s)).eq_of_length h
          rw [this]
          simp
        · rfl
  rw [key]
  have h1 : front s <+: s := (List.takeWhile_prefix _).trans (List.take_prefix _ _)
  refine ⟨h1.length_le, (List.prefix_iff_eq_take.1 h1), ?_⟩
  rcases Nat.lt_or_ge (front s).length s.length with h | h
  · exact .inl h
  · exact .inr (h1.eq_of_length (Nat.le_antisymm h1.length_le h))
theorem front_len (l : List UInt8) : (front l).length ≤ 3 ∧ ∀ c ∈ front l, isD c = true := by
  refine ⟨?_, fun c hc => ?_⟩
  · have := (List.takeWhile_prefix (p := isD) (l := l.take 3)).length_le
    simp at this
    unfold front
    omega
  · have := List.all_takeWhile (p := isD) (l := l.take 3)
    exact List.all_eq_true.1 this c hc
def good (p : Int) (s : List UInt8) : Bool := decide (0 ≤ numI s) && decide (numI s < p)
theorem good_all {p : Int} (hp : p ≤ 1000) {s : List UInt8} (h : good p s = true) : (∀ c ∈ s, isD c = true) ∧ s.length ≤ 3 ∧ badF p s = false ∧ numI s = decV s := by
  simp only [good, Bool.and_eq_true, decide_eq_true_eq] at h
  unfold numI at h ⊢
  split at h
  · omega
  · rename_i hh
    simp only [Bool.or_eq_true, not_or, Bool.and_eq_true, decide_eq_true_eq, beq_iff_eq, Bool.not_eq_true', Bool.not_eq_false, List.all_eq_true, List.isEmpty_iff] at hh
    obtain ⟨⟨⟨h1, h2⟩, h3⟩, h4⟩ := hh
    have h5 : s.length ≤ 3 := by
      apply Classical.byContradiction
      intro hl
      have := decV_long h4 (fun e => h3 ⟨by omega, e⟩) (by omega)
      omega
    refine ⟨h4, h5, ?_, ?_⟩
    · simp only [badF, Bool.or_eq_false_iff, Bool.and_eq_false_iff, decide_eq_false_iff_not]
      refine ⟨⟨by cases s <;> simp_all, ?_⟩, by omega⟩
      by_cases hl : 1 < s.length
      · right
        simp only [beq_eq_false_iff_ne]
        exact fun e => h3 ⟨hl, e⟩
      · exact .inl hl
    · rw [if_neg]
      simp only [Bool.or_eq_true, not_or, Bool.and_eq_true, decide_eq_true_eq, beq_iff_eq, Bool.not_eq_true', Bool.not_eq_false, List.all_eq_true, List.isEmpty_iff]
      exact ⟨⟨⟨h1, h2⟩, h3⟩, h4⟩
theorem good_of {p : Int} {s : List UInt8} (hd : ∀ c ∈ s, isD c = true) (hl : s.length ≤ 3) (hb : badF p s = false) : good p s = true := by
  simp only [badF, Bool.or_eq_false_iff, Bool.and_eq_false_iff, decide_eq_false_iff_not, beq_eq_false_iff_ne] at hb
  have h0 := (decV_bd s hd).1
  have e : numI s = decV s := by
    unfold numI
    rw [if_neg]
    simp only [Bool.or_eq_true, not_or, Bool.and_eq_true, decide_eq_true_eq, beq_iff_eq, Bool.not_eq_true', Bool.not_eq_false, List.all_eq_true, List.isEmpty_iff]
    refine ⟨⟨⟨by rintro rfl; simp at hb, by omega⟩, fun h => ?_⟩, hd⟩
    rcases hb.1.2 with h' | h'
    · exact h' h.1
    · exact h' h.2
  simp only [good, Bool.and_eq_true, decide_eq_true_eq, e]
  omega
/-- What is read is what the parts are. -/
theorem readN_split (p : Int) (hp : p ≤ 1000) : ∀ (k : Nat) (l : List UInt8), readN p k l = if (splitC l).length = k + 1 ∧ (splitC l).all (good p) = true then some ((splitC l).map numI) else none := by
  intro k
  induction k with
  | zero =>
    intro l
    rw [readN]
    rcases part_cases l with hf | ⟨a, r, rfl, hf⟩
    · rw [splitC_free l hf]
      have hs := front_spec l [] (by simp)
      rw [List.append_nil] at hs
      have hl := front_len l
      by_cases hg : good p l = true
      · obtain ⟨g1, g2, g3, g4⟩ := good_all hp hg
        have e : front l = l := by unfold front; rw [List.take_of_length_le g2]; exact tw_self g1
        simp [e, g3, g4, hg]
      · rcases hs.2.2 with h | h
        · have hne : l.drop (front l).length ≠ [] := by simp; omega
          obtain ⟨c, r, hd⟩ := List.exists_cons_of_ne_nil hne
          rw [hd]
          simp [hg]
        · rw [h] at hl
          have hb : badF p l = true := by
            apply Classical.byContradiction
            intro hb
            exact hg (good_of hl.2 hl.1 (by simpa using hb))
          simp [h, hb, hg]
    · rw [splitC_cut a r hf]
      have hne := splitC_ne r
      have hs := front_spec a (44 :: r) (by intro c r' h; simp at h; exact h.1.symm)
      have hd : (a ++ 44 :: r).drop (front (a ++ 44 :: r)).length ≠ [] := by simp; omega
      have hlen : ¬ ((a :: splitC r).length = 0 + 1) := by
        simp only [List.length_cons]
        have := List.length_pos_iff.2 hne
        omega
      rw [if_neg (c := (a :: splitC r).length = 0 + 1 ∧ _) (fun h => hlen h.1)]
      obtain ⟨c, r', hd'⟩ := List.exists_cons_of_ne_nil hd
      rw [hd']
      cases badF p (front (a ++ 44 :: r)) <;> rfl
  | succ k ih =>
    intro l
    rw [readN]
    rcases part_cases l with hf | ⟨a, r, rfl, hf⟩
    · rw [splitC_free l hf]
      rw [if_neg (c := [l].length = k + 1 + 1 ∧ _) (by simp)]
      cases badF p (front l) with
      | true => rfl
      | false =>
        rcases hd' : l.drop (front l).length with _ | ⟨c, r'⟩
        · rfl
        · have : c ≠ 44 := hf c (List.mem_of_mem_drop (by rw [hd']; simp))
          simp [this]
    · rw [splitC_cut a r hf]
      have hs := front_spec a (44 :: r) (by intro c r' h; simp at h; exact h.1.symm)
      have hl := front_len (a ++ 44 :: r)
      by_cases hg : good p a = true
      · obtain ⟨g1, g2, g3, g4⟩ := good_all hp hg
        have e : front (a ++ 44 :: r) = a := by
          rcases hs.2.2 with h | h
          · exfalso
            have e1 : front (a ++ 44 :: r) = front a := by
              unfold front
              by_cases h3 : 3 ≤ a.length
              · rw [List.take_append_of_le_length h3]
              · rw [List.take_append, List.take_of_length_le (show a.length ≤ 3 by omega), show 3 - a.length = (2 - a.length) + 1 by omega, List.take_succ_cons, List.takeWhile_append]
                split
                · rw [List.takeWhile_cons_of_neg (by decide), tw_self g1]; simp
                · rfl
            have e2 : front a = a := by unfold front; rw [List.take_of_length_le g2]; exact tw_self g1
            rw [e1, e2] at h
            omega
          · exact h
        rw [e, g3]
        simp only [Bool.false_eq_true, if_false, List.drop_left, if_true]
        rw [ih r]
        simp only [List.length_cons, Nat.add_right_cancel_iff, List.all_cons, hg, Bool.true_and, List.map_cons, g4]
        split <;> simp
      · rw [if_neg (c := (a :: splitC r).length = k + 1 + 1 ∧ (a :: splitC r).all (good p) = true) (by simp [hg])]
        rcases hs.2.2 with h | h
        · have hne : a.drop (front (a ++ 44 :: r)).length ≠ [] := by simp; omega
          obtain ⟨x, y, hd2⟩ := List.exists_cons_of_ne_nil hne
          have hx : x ≠ 44 := hf x (List.mem_of_mem_drop (by rw [hd2]; simp))
          have e2 : (a ++ 44 :: r).drop (front (a ++ 44 :: r)).length = x :: (y ++ 44 :: r) := by
            rw [List.drop_append_of_le_length (by omega), hd2]; rfl
          rw [e2]
          cases badF p (front (a ++ 44 :: r)) <;> simp [hx]
        · rw [h] at hl
          have hb : badF p a = true := by
            apply Classical.byContradiction
            intro hb
            exact hg (good_of hl.2 hl.1 (by simpa using hb))
          simp [h, hb]
end Go.Proofs.YtbjcbbnfgfmllaaGreatDoor.Pl
