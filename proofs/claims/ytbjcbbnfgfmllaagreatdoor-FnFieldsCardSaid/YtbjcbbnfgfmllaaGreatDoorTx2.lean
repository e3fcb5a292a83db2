/- Plain law: the loops over texts, and what points and lines are read. No program in sight. -/
import Derived.Test.YtbjcbbnfgfmllaaGreatDoorTx
import Derived.Test.YtbjcbbnfgfmllaaGreatDoorPlA
set_option linter.unusedVariables false
set_option linter.unusedSimpArgs false
namespace Go.Proofs.YtbjcbbnfgfmllaaGreatDoor.Pl
theorem front_exit {l : List UInt8} {j : Nat} (hj : j ≤ 3) (hl : j ≤ l.length) (hd : ∀ c ∈ l.take j, isD c = true) (he : j = 3 ∨ j = l.length ∨ ∃ h : j < l.length, isD l[j] = false) : front l = l.take j := by
  unfold front
  rcases he with h | h | ⟨h, hn⟩
  · subst h; exact tw_self hd
  · rw [List.take_of_length_le (show l.length ≤ 3 by omega), List.take_of_length_le (show l.length ≤ j by omega)]
    rw [List.take_of_length_le (show l.length ≤ j by omega)] at hd
    exact tw_self hd
  · rcases Nat.eq_or_lt_of_le hj with h3 | h3
    · subst h3; exact tw_self hd
    · have e : l.take 3 = l.take j ++ l[j] :: (l.drop (j + 1)).take (2 - j) := by
        rw [show l[j] :: (l.drop (j + 1)).take (2 - j) = (l.drop j).take (3 - j) by rw [List.drop_eq_getElem_cons h, show 3 - j = (2 - j) + 1 by omega, List.take_succ_cons], ← List.take_add, show j + (3 - j) = 3 by omega]
      rw [e, List.takeWhile_append, tw_self hd]
      simp [hn]
theorem readN_bad {p : Int} {l : List UInt8} (h : badF p (front l) = true) (k : Nat) : readN p k l = none := by
  cases k <;> simp [readN, h]
theorem readN_end0 {p : Int} {l : List UInt8} (h : badF p (front l) = false) (he : l.length ≤ (front l).length) : readN p 0 l = some [decV (front l)] := by
  simp [readN, h, he]
theorem readN_end1 {p : Int} {l : List UInt8} (he : l.length ≤ (front l).length) (k : Nat) : readN p (k + 1) l = none := by
  rw [readN, List.drop_of_length_le he]
  split <;> rfl
theorem readN_more0 {p : Int} {l : List UInt8} (he : (front l).length < l.length) : readN p 0 l = none := by
  rw [readN, List.drop_eq_getElem_cons he]
  split <;> rfl
theorem readN_no {p : Int} {l : List UInt8} (he : (front l).length < l.length) (hc : l[(front l).length] ≠ 44) (k : Nat) : readN p k l = none := by
  cases k with
  | zero => exact readN_more0 he
  | succ k =>
    rw [readN, List.drop_eq_getElem_cons he]
    split
    · rfl
    · simp [hc]
theorem readN_more {p : Int} {l : List UInt8} (h : badF p (front l) = false) (he : (front l).length < l.length) (hc : l[(front l).length] = 44) (k : Nat) : readN p (k + 1) l = (readN p k (l.drop ((front l).length + 1))).map (decV (front l) :: ·) := by
  rw [readN, List.drop_eq_getElem_cons he, h]
  simp [hc]
theorem readN_len {p : Int} : ∀ {k : Nat} {l : List UInt8} {xs : List Int}, readN p k l = some xs → xs.length = k + 1
  | 0, l, xs, h => by
    rw [readN] at h
    split at h
    · cases h
    · split at h
      · cases h; rfl
      · cases h
  | k + 1, l, xs, h => by
    rw [readN] at h
    split at h
    · cases h
    · split at h
      · cases h
      · split at h
        · rename_i r _ _
          cases hr : readN p k r with
          | none => rw [hr] at h; cases h
          | some ys => rw [hr] at h; cases h; simp [readN_len hr]
        · cases h
/-- One round of the outer loop: what was read, and the rest. -/
theorem readN_acc {p : Int} {l l' : List UInt8} {acc : List Int} {o : Option (List Int)} {d : Int} {m : Nat} (h : o = (readN p (m + 1) l).map (acc ++ ·)) (h2 : readN p (m + 1) l = (readN p m l').map (d :: ·)) : o = (readN p m l').map ((acc ++ [d]) ++ ·) := by
  rw [h, h2, Option.map_map]
  congr 1
  funext x
  simp
theorem get_drop {l : List UInt8} {k j : Nat} (h : k + j < l.length) : (l.drop k)[j]'(by simp; omega) = l[k + j] := by simp
theorem front_len_of {l : List UInt8} {k j : Nat} (hj : k + j ≤ l.length) (h : front (l.drop k) = (l.drop k).take j) : (front (l.drop k)).length = j := by
  rw [h]; simp; omega
theorem head_take {l : List UInt8} {k j : Nat} (h : k < l.length) (hj : 0 < j) : ((l.drop k).take j).head? = some l[k] := by
  rw [List.head?_take, if_neg (by omega), List.head?_drop, List.getElem?_eq_getElem h]
theorem splitC_step {l : List UInt8} {i j : Nat} (hj : j ≤ i) (hi : i < l.length) (hf : ∀ c ∈ (l.drop j).take (i - j), c ≠ 44) (hc : l[i] = 44) : splitC (l.drop j) = (l.drop j).take (i - j) :: splitC (l.drop (i + 1)) := by
  have e : l.drop j = (l.drop j).take (i - j) ++ 44 :: l.drop (i + 1) := by
    rw [← hc, ← List.drop_eq_getElem_cons hi, show l.drop i = (l.drop j).drop (i - j) by rw [List.drop_drop, show j + (i - j) = i by omega], List.take_append_drop]
  rw [show splitC (l.drop j) = splitC ((l.drop j).take (i - j) ++ 44 :: l.drop (i + 1)) by rw [← e]]
  exact splitC_cut _ _ hf
theorem free_step {l : List UInt8} {i j : Nat} (hj : j ≤ i) (hi : i < l.length) (hf : ∀ c ∈ (l.drop j).take (i - j), c ≠ 44) (hc : l[i] ≠ 44) : ∀ c ∈ (l.drop j).take (i + 1 - j), c ≠ 44 := by
  have e : (l.drop j).take (i + 1 - j) = (l.drop j).take (i - j) ++ [l[i]] := by
    rw [show i + 1 - j = (i - j) + 1 by omega, List.take_succ_eq_append_getElem (by simp; omega)]
    simp [show j + (i - j) = i by omega]
  intro c h
  rw [e, List.mem_append] at h
  rcases h with h | h
  · exact hf c h
  · rw [List.mem_singleton.1 h]; exact hc
theorem decV_step {l : List UInt8} {i : Nat} (hi : i < l.length) : decV (l.take (i + 1)) = 10 * decV (l.take i) + ((l[i].toNat : Int) - 48) := by
  rw [List.take_succ_eq_append_getElem hi, decV_snoc]
theorem dig_step {l : List UInt8} {i : Nat} (hi : i < l.length) (h : ∀ c ∈ l.take i, isD c = true) (hc : isD l[i] = true) : ∀ c ∈ l.take (i + 1), isD c = true := by
  intro c hm
  rw [List.take_succ_eq_append_getElem hi, List.mem_append] at hm
  rcases hm with h' | h'
  · exact h c h'
  · rw [List.mem_singleton.1 h']; exact hc
/-- Fewer than ten digits: the number stays small. -/
theorem decV_small {l : List UInt8} (h : ∀ c ∈ l, isD c = true) (hl : l.length ≤ 9) : 0 ≤ decV l ∧ decV l < 1000000000 := by
  have h1 := decV_bd l h
  have h2 : (10 : Int) ^ l.length ≤ 10 ^ 9 := by
    have e : 9 = l.length + (9 - l.length) := by omega
    rw [show (10 : Int) ^ 9 = 10 ^ l.length * 10 ^ (9 - l.length) by rw [← Int.pow_add, ← e]]
    have a1 : (0 : Int) < 10 ^ l.length := Int.pow_pos (by omega)
    have a2 : (0 : Int) < 10 ^ (9 - l.length) := Int.pow_pos (by omega)
    have := Int.mul_le_mul_of_nonneg_left (show (1 : Int) ≤ 10 ^ (9 - l.length) by omega) (show (0 : Int) ≤ 10 ^ l.length by omega)
    omega
  omega
theorem numI_0 {l : List UInt8} (h : l.length = 0) : numI l = -1 := by
  rw [List.length_eq_zero_iff.1 h]; rfl
theorem numI_9 {l : List UInt8} (h : 9 < l.length) : numI l = -1 := by simp [numI, h]
theorem numI_z {l : List UInt8} (h : 1 < l.length) (h2 : l[0] = 48) : numI l = -1 := by
  have : l.head? = some 48 := by rw [List.head?_eq_getElem?, List.getElem?_eq_getElem (by omega), h2]
  simp [numI, h, this]
theorem numI_d {l : List UInt8} {i : Nat} (h : i < l.length) (h2 : isD l[i] = false) : numI l = -1 := by
  have : l.all isD = false := by
    rw [List.all_eq_false]
    exact ⟨l[i], List.getElem_mem _, by simp [h2]⟩
  simp [numI, this]
theorem numI_v {l : List UInt8} (h0 : 0 < l.length) (h9 : l.length ≤ 9) (hz : l.length ≤ 1 ∨ l[0] ≠ 48) (hd : ∀ c ∈ l, isD c = true) : numI l = decV l := by
  unfold numI
  rw [if_neg]
  simp only [Bool.or_eq_true, not_or, Bool.and_eq_true, decide_eq_true_eq, beq_iff_eq, Bool.not_eq_true', Bool.not_eq_false, List.all_eq_true, List.isEmpty_iff]
  refine ⟨⟨⟨fun e => by rw [e] at h0; simp at h0, by omega⟩, fun hh => ?_⟩, hd⟩
  rcases hz with hz | hz
  · omega
  · rw [List.head?_eq_getElem?, List.getElem?_eq_getElem (by omega)] at hh
    exact hz (by simpa using hh.2)
def parsePt (p : Int) (l : List UInt8) : (Int × Int) × Int :=
  if fieldB p then (match readN p 1 l with | some xs => ((xs.getD 0 0, xs.getD 1 0), 0) | none => ((0, 0), 6)) else ((0, 0), 1)
def parseLn (p : Int) (l : List UInt8) : (Int × Int × Int) × Int :=
  if fieldB p then (match readN p 2 l with | some xs => (if lineB p (xs.getD 0 0) (xs.getD 1 0) (xs.getD 2 0) then ((xs.getD 0 0, xs.getD 1 0, xs.getD 2 0), 0) else ((0, 0, 0), 6)) | none => ((0, 0, 0), 6)) else ((0, 0, 0), 1)
theorem parsePt_f {p : Int} {l : List UInt8} (h : fieldB p = false) : parsePt p l = ((0, 0), 1) := by simp [parsePt, h]
theorem parsePt_n {p : Int} {l : List UInt8} (h : fieldB p = true) (h2 : readN p 1 l = none) : parsePt p l = ((0, 0), 6) := by simp [parsePt, h, h2]
theorem parsePt_s {p : Int} {l : List UInt8} {x y : Int} (h : fieldB p = true) (h2 : readN p 1 l = some [x, y]) : parsePt p l = ((x, y), 0) := by simp [parsePt, h, h2]
theorem parseLn_f {p : Int} {l : List UInt8} (h : fieldB p = false) : parseLn p l = ((0, 0, 0), 1) := by simp [parseLn, h]
theorem parseLn_n {p : Int} {l : List UInt8} (h : fieldB p = true) (h2 : readN p 2 l = none) : parseLn p l = ((0, 0, 0), 6) := by simp [parseLn, h, h2]
theorem parseLn_s {p : Int} {l : List UInt8} {x y z : Int} (h : fieldB p = true) (h2 : readN p 2 l = some [x, y, z]) (h3 : lineB p x y z = true) : parseLn p l = ((x, y, z), 0) := by simp [parseLn, h, h2, h3]
theorem parseLn_t {p : Int} {l : List UInt8} {x y z : Int} (h : fieldB p = true) (h2 : readN p 2 l = some [x, y, z]) (h3 : lineB p x y z = false) : parseLn p l = ((0, 0, 0), 6) := by simp [parseLn, h, h2, h3]
theorem len2 {xs : List Int} (h : xs.length = 2) : ∃ x y, xs = [x, y] := by
  match xs, h with
  | [x, y], _ => exact ⟨x, y, rfl⟩
theorem len3 {xs : List Int} (h : xs.length = 3) : ∃ x y z, xs = [x, y, z] := by
  match xs, h with
  | [x, y, z], _ => exact ⟨x, y, z, rfl⟩
/-- A part is good where its number is one of the field. -/
theorem good_num (p : Int) (s : List UInt8) : good p s = numB p (numI s) := rfl
theorem read_parts2 {p : Int} (hp : p ≤ 1000) {l : List UInt8} {x y : Int} (h : (splitC l).map numI = [x, y]) : readN p 1 l = if numB p x && numB p y then some [x, y] else none := by
  rw [readN_split p hp 1 l]
  have e1 : (splitC l).length = 2 := by have := congrArg List.length h; simpa using this
  have e2 : (splitC l).all (good p) = (numB p x && numB p y) := by
    have : (splitC l).all (good p) = ((splitC l).map numI).all (numB p) := by rw [List.all_map]; rfl
    rw [this, h]
    simp
  rw [e1, e2, h]
  simp
theorem read_parts3 {p : Int} (hp : p ≤ 1000) {l : List UInt8} {x y z : Int} (h : (splitC l).map numI = [x, y, z]) : readN p 2 l = if numB p x && numB p y && numB p z then some [x, y, z] else none := by
  rw [readN_split p hp 2 l]
  have e1 : (splitC l).length = 3 := by have := congrArg List.length h; simpa using this
  have e2 : (splitC l).all (good p) = (numB p x && numB p y && numB p z) := by
    have : (splitC l).all (good p) = ((splitC l).map numI).all (numB p) := by rw [List.all_map]; rfl
    rw [this, h]
    simp [Bool.and_assoc]
  rw [e1, e2, h]
  simp
theorem read_none {p : Int} (hp : p ≤ 1000) {l : List UInt8} {k : Nat} (h : (splitC l).length ≠ k + 1) : readN p k l = none := by
  rw [readN_split p hp k l, if_neg (fun hh => h hh.1)]
end Go.Proofs.YtbjcbbnfgfmllaaGreatDoor.Pl
