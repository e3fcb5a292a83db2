/- Plain law, numbers modulo p: no program in sight. -/
import Derived.IntWalk
set_option linter.unusedVariables false
set_option linter.unusedSimpArgs false
namespace Go.Proofs.Ytbjcbbnfgfmllaa.Pl
/-- p is one of the ten primes, as the program's switch asks it. -/
def fieldB (p : Int) : Bool := p == 3 || p == 5 || p == 7 || p == 11 || p == 13 || p == 17 || p == 19 || p == 23 || p == 29 || p == 31
def numB (p x : Int) : Bool := decide (0 ≤ x) && decide (x < p)
def inB (n lo hi : Int) : Bool := decide (lo ≤ n) && decide (n ≤ hi)
/-- A claim on all numbers below n, for the kernel. -/
def allTo (f : Int → Bool) : Nat → Bool
  | 0 => true
  | n + 1 => f n && allTo f n
theorem allTo_spec {f : Int → Bool} : ∀ {n : Nat}, allTo f n = true → ∀ a : Int, 0 ≤ a → a < n → f a = true
  | 0, _, a, h0, h1 => by omega
  | n + 1, h, a, h0, h1 => by
    simp only [allTo, Bool.and_eq_true] at h
    by_cases e : a = n
    · rw [e]; exact h.1
    · exact allTo_spec h.2 a h0 (by omega)
theorem inB_num (p x : Int) : inB x 0 (p - 1) = numB p x := by
  unfold inB numB
  congr 1
  exact decide_eq_decide.2 (by omega)
theorem numB_true {p x : Int} (h : numB p x = true) : 0 ≤ x ∧ x < p := by
  simpa [numB] using h
theorem numB_mk {p x : Int} (h : 0 ≤ x) (h2 : x < p) : numB p x = true := by
  simp [numB, h, h2]
theorem field_bd {p : Int} (h : fieldB p = true) : 3 ≤ p ∧ p ≤ 31 := by
  simp [fieldB] at h
  omega
theorem field_cases {p : Int} (h : fieldB p = true) : p = 3 ∨ p = 5 ∨ p = 7 ∨ p = 11 ∨ p = 13 ∨ p = 17 ∨ p = 19 ∨ p = 23 ∨ p = 29 ∨ p = 31 := by
  simp [fieldB] at h
  omega
theorem rest_eq (p x : Int) (hp : 1 ≤ p) : (x.tmod p + p).tmod p = x % p := by
  have h1 := Int.tmod_lt_of_pos x (show 0 < p by omega)
  have h0 : -p < x.tmod p := by
    have := Int.lt_tmod_of_pos x (show 0 < p by omega)
    omega
  rw [Int.tmod_eq_emod_of_nonneg (by omega)]
  rw [Int.add_emod_right]
  have : x.tmod p % p = x % p := by
    rw [Int.tmod_eq_emod]
    split
    · simp
    · have hd : (p.natAbs : Int) = p := by omega
      rw [hd, Int.sub_emod_right, Int.emod_emod]
  exact this
theorem rest_eq2 (p x : Int) (hp : 1 ≤ p) : (x.tmod p + p) % p = x % p := by
  have h0 : -p < x.tmod p := Int.lt_tmod_of_pos x (show 0 < p by omega)
  have h := rest_eq p x hp
  rwa [Int.tmod_eq_emod_of_nonneg (by omega)] at h
/-- No number from 2 below d divides p. -/
def okTo (p d : Int) : Bool := (decide (d ≤ 2) || p % 2 != 0) && (decide (d ≤ 3) || p % 3 != 0) && (decide (d ≤ 4) || p % 4 != 0) && (decide (d ≤ 5) || p % 5 != 0)
theorem ok2 {p : Int} (h : okTo p 2 = true) (h2 : ¬ p % 2 = 0) : okTo p 3 = true := by
  simp [okTo] at *
  simp [*]
theorem ok3 {p : Int} (h : okTo p 3 = true) (h2 : ¬ p % 3 = 0) : okTo p 4 = true := by
  simp [okTo] at *
  simp [*]
theorem ok4 {p : Int} (h : okTo p 4 = true) (h2 : ¬ p % 4 = 0) : okTo p 5 = true := by
  simp [okTo] at *
  simp [*]
theorem ok5 {p : Int} (h : okTo p 5 = true) (h2 : ¬ p % 5 = 0) : okTo p 6 = true := by
  simp [okTo] at *
  simp [*]
theorem field_out {p : Int} (h : inB p 3 31 = false) : fieldB p = false := by
  simp [inB, fieldB] at *
  omega
theorem in_bd {p lo hi : Int} (h : inB p lo hi = true) : lo ≤ p ∧ p ≤ hi := by
  simpa [inB] using h
def rangeB (f : Int → Bool) : Bool := allTo (fun p => f (p + 3)) 29
theorem rangeB_spec {f : Int → Bool} (h : rangeB f = true) {p : Int} (h0 : 3 ≤ p) (h1 : p ≤ 31) : f p = true := by
  have := allTo_spec h (p - 3) (by omega) (by omega)
  rwa [show p - 3 + 3 = p by omega] at this
theorem noB_spec {p d : Int} (h : rangeB (fun p => decide (p < d * d) || p % d != 0 || !fieldB p) = true) (h0 : 3 ≤ p) (h1 : p ≤ 31) (hsq : d * d ≤ p) (hr : p % d = 0) : fieldB p = false := by
  have h := rangeB_spec h h0 h1
  simp only [Bool.or_eq_true, decide_eq_true_eq, bne_iff_ne, Bool.not_eq_true'] at h
  rcases h with (h | h) | h
  · omega
  · exact absurd hr h
  · exact h
theorem field_no {p d : Int} (h0 : 3 ≤ p) (h1 : p ≤ 31) (hd : 2 ≤ d) (hd2 : d ≤ 5) (hsq : d * d ≤ p) (hr : p % d = 0) : fieldB p = false := by
  have : d = 2 ∨ d = 3 ∨ d = 4 ∨ d = 5 := by omega
  rcases this with rfl | rfl | rfl | rfl <;> exact noB_spec (by decide +kernel) h0 h1 hsq hr
theorem yesB_spec {p d : Int} (h : rangeB (fun p => decide (d * d ≤ p) || !okTo p d || fieldB p) = true) (h0 : 3 ≤ p) (h1 : p ≤ 31) (hsq : p < d * d) (hr : okTo p d = true) : fieldB p = true := by
  have h := rangeB_spec h h0 h1
  simp only [Bool.or_eq_true, decide_eq_true_eq, Bool.not_eq_true'] at h
  rcases h with (h | h) | h
  · omega
  · rw [hr] at h; cases h
  · exact h
theorem field_yes {p d : Int} (h0 : 3 ≤ p) (h1 : p ≤ 31) (hd : 2 ≤ d) (hd2 : d ≤ 6) (hsq : p < d * d) (hr : okTo p d = true) : fieldB p = true := by
  have : d = 2 ∨ d = 3 ∨ d = 4 ∨ d = 5 ∨ d = 6 := by omega
  rcases this with rfl | rfl | rfl | rfl | rfl <;> exact yesB_spec (by decide +kernel) h0 h1 hsq hr
theorem mulB {x y A B : Int} (h0 : 0 ≤ x) (h1 : x ≤ A) (h2 : 0 ≤ y) (h3 : y ≤ B) : 0 ≤ x * y ∧ x * y ≤ A * B :=
  ⟨Int.mul_nonneg h0 h2, Int.mul_le_mul h1 h3 h2 (Int.le_trans h0 h1)⟩
/-- Bounds of a product of numbers of either sign. -/
theorem mulA {x y A B : Int} (h0 : -A ≤ x) (h1 : x ≤ A) (h2 : -B ≤ y) (h3 : y ≤ B) : -(A * B) ≤ x * y ∧ x * y ≤ A * B := by
  have ha : 0 ≤ A := by omega
  have hb : 0 ≤ B := by omega
  have hx : x.natAbs ≤ A.toNat := by omega
  have hy : y.natAbs ≤ B.toNat := by omega
  have h : (x * y).natAbs ≤ A.toNat * B.toNat := by
    rw [Int.natAbs_mul]
    exact Nat.mul_le_mul hx hy
  have hc : ((A.toNat * B.toNat : Nat) : Int) = A * B := by
    rw [Int.natCast_mul, Int.toNat_of_nonneg ha, Int.toNat_of_nonneg hb]
  omega
/-- The search of 'inverse', n rounds from x on. -/
def invFrom (p a : Int) : Nat → Int → Int
  | 0, _ => 0
  | n + 1, x => if a * x % p = 1 then x else invFrom p a n (x + 1)
def inv (p a : Int) : Int := invFrom p a (p - 1).toNat 1
/-- The search of 'root', n rounds from x on. -/
def rootFrom (p a : Int) : Nat → Int → Int
  | 0, _ => -1
  | n + 1, x => if x * x % p = a then x else rootFrom p a n (x + 1)
def root (p a : Int) : Int := rootFrom p a p.toNat 0
/-- The reference's power. -/
def powFrom (p : Int) : Nat → Int → Int → Int → Int
  | 0, out, _, _ => out
  | n + 1, out, base, k => if 0 < k then powFrom p n (if k % 2 = 1 then out * base % p else out) (base * base % p) (k / 2) else out
def sinv (p a : Int) : Int := powFrom p 6 1 (a % p) (p - 2)
theorem invFrom_step {p a x : Int} (h : x < p) : invFrom p a (p - x).toNat x = if a * x % p = 1 then x else invFrom p a (p - (x + 1)).toNat (x + 1) := by
  obtain ⟨n, hn⟩ : ∃ n, (p - x).toNat = n + 1 := ⟨(p - x).toNat - 1, by omega⟩
  rw [hn, invFrom]
  have : (p - (x + 1)).toNat = n := by omega
  rw [this]
theorem rootFrom_step {p a x : Int} (h : x < p) : rootFrom p a (p - x).toNat x = if x * x % p = a then x else rootFrom p a (p - (x + 1)).toNat (x + 1) := by
  obtain ⟨n, hn⟩ : ∃ n, (p - x).toNat = n + 1 := ⟨(p - x).toNat - 1, by omega⟩
  rw [hn, rootFrom]
  have : (p - (x + 1)).toNat = n := by omega
  rw [this]
theorem powFrom_step {p out base k : Int} (n : Nat) (h : 0 < k) : powFrom p (n + 1) out base k = powFrom p n (if k % 2 = 1 then out * base % p else out) (base * base % p) (k / 2) := by
  rw [powFrom, if_pos h]
theorem powFrom_done {p out base k : Int} (n : Nat) (h : ¬ 0 < k) : powFrom p n out base k = out := by
  cases n with
  | zero => rfl
  | succ n => rw [powFrom, if_neg h]
def primesB (f : Int → Bool) : Bool := f 3 && f 5 && f 7 && f 11 && f 13 && f 17 && f 19 && f 23 && f 29 && f 31
theorem primesB_spec {f : Int → Bool} (h : primesB f = true) {p : Int} (hp : fieldB p = true) : f p = true := by
  simp only [primesB, Bool.and_eq_true] at h
  rcases field_cases hp with rfl | rfl | rfl | rfl | rfl | rfl | rfl | rfl | rfl | rfl <;> simp [h]
theorem finite {f : Int → Int → Bool} (h : primesB (fun p => allTo (f p) p.toNat) = true) {p a : Int} (hp : fieldB p = true) (h0 : 0 ≤ a) (h1 : a < p) : f p a = true := by
  have := primesB_spec h hp
  exact allTo_spec this a h0 (by omega)
theorem sinv_inv {p a : Int} (hp : fieldB p = true) (h0 : 0 ≤ a) (h1 : a < p) : sinv p a = inv p a := by
  have := finite (f := fun p a => sinv p a == inv p a) (by decide +kernel) hp h0 h1
  simpa using this
theorem inv_facts {p a : Int} (hp : fieldB p = true) (h0 : 0 ≤ a) (h1 : a < p) : (a ≠ 0 → a * inv p a % p = 1) ∧ 0 ≤ inv p a ∧ inv p a < p ∧ (a = 0 → inv p a = 0) := by
  have := finite (f := fun p a => (a == 0 || a * inv p a % p == 1) && decide (0 ≤ inv p a) && decide (inv p a < p) && (a != 0 || inv p a == 0)) (by decide +kernel) hp h0 h1
  simp at this
  omega
/-- The code of the first two errors. -/
def ask (p : Int) (b : Bool) : Int := if fieldB p then (if b then 0 else 2) else 1
theorem all_step {f : Int → Bool} {xs : List Int} {k : Nat} (h : k < xs.length) (h1 : (xs.take k).all f = true) (h2 : f (xs.getD k 0) = true) : (xs.take (k + 1)).all f = true := by
  rw [List.take_succ_eq_append_getElem h, List.all_append, h1]
  have e : xs.getD k 0 = xs[k] := by simp [h]
  rw [e] at h2
  simp [h2]
theorem all_stop {f : Int → Bool} {xs : List Int} {k : Nat} (h : k < xs.length) (h2 : f (xs.getD k 0) = false) : xs.all f = false := by
  have e : xs.getD k 0 = xs[k] := by simp [h]
  rw [e] at h2
  rw [List.all_eq_false]
  exact ⟨xs[k], List.getElem_mem h, by simp [h2]⟩
/-- RootOf, value and code. -/
def rootOf (p a : Int) : Int × Int := if ask p (numB p a) = 0 then (if root p a < 0 then (0, 4) else (root p a, 0)) else (0, ask p (numB p a))
theorem ask_f {p : Int} {b : Bool} (h : fieldB p = false) : ask p b = 1 := by simp [ask, h]
theorem ask_tf {p : Int} (h : fieldB p = true) : ask p false = 2 := by simp [ask, h]
theorem ask_tt {p : Int} (h : fieldB p = true) : ask p true = 0 := by simp [ask, h]
theorem ask_ok {p : Int} {b : Bool} (h : ask p b = 0) : fieldB p = true ∧ b = true := by
  unfold ask at h
  cases hf : fieldB p <;> cases b <;> simp [hf] at h ⊢
theorem ask_val (p : Int) (b : Bool) : ask p b = 0 ∨ ask p b = 1 ∨ ask p b = 2 := by
  unfold ask
  split
  · split <;> simp
  · simp
/-- InverseOf and SquareKind, value and code. -/
def inverseOf (p a : Int) : Int × Int := if ask p (numB p a) = 0 then (if a = 0 then (0, 5) else (inv p a, 0)) else (0, ask p (numB p a))
def kind (p a : Int) : Int := if a = 0 then 0 else if root p a < 0 then -1 else 1
def squareKind (p a : Int) : Int × Int := if ask p (numB p a) = 0 then (kind p a, 0) else (0, ask p (numB p a))
theorem nums1 (p a : Int) : [a].all (numB p) = numB p a := by simp
theorem nums2 (p a b : Int) : [a, b].all (numB p) = (numB p a && numB p b) := by simp
theorem nums3 (p a b c : Int) : [a, b, c].all (numB p) = (numB p a && numB p b && numB p c) := by simp [Bool.and_assoc]
theorem root_bd {p a : Int} : ∀ (n : Nat) (x : Int), 0 ≤ x → -1 ≤ rootFrom p a n x ∧ rootFrom p a n x < x + n + 1
  | 0, x, h => by simp [rootFrom]; omega
  | n + 1, x, h => by
    have ih := root_bd (p := p) (a := a) n (x + 1) (by omega)
    rw [rootFrom]
    split <;> omega
def rootV (p a : Int) : Int := if root p a < 0 then 0 else root p a
def rootB (p a : Int) : Bool := !decide (root p a < 0)
theorem rootV_neg {p a : Int} (h : root p a < 0) : rootV p a = 0 ∧ rootB p a = false := by simp [rootV, rootB, h]
theorem rootV_pos {p a : Int} (h : ¬ root p a < 0) : rootV p a = root p a ∧ rootB p a = true := by simp [rootV, rootB, h]
theorem kind_0 {p a : Int} (h : a = 0) : kind p a = 0 := by simp [kind, h]
theorem kind_neg {p a : Int} (h : ¬ a = 0) (h2 : root p a < 0) : kind p a = -1 := by simp [kind, h, h2]
theorem kind_pos {p a : Int} (h : ¬ a = 0) (h2 : ¬ root p a < 0) : kind p a = 1 := by simp [kind, h, h2]
def arch (p a b c : Int) : Int := ((a + b + c) * (a + b + c) - 2 * (a * a + b * b + c * c)) % p
def tripleB (p a b c : Int) : Bool := ((a + b + c) * (a + b + c) - 2 * (a * a + b * b + c * c) - 4 * a * b * c) % p == 0
def archOf (p a b c : Int) : Int × Int := if ask p (numB p a && numB p b && numB p c) = 0 then (arch p a b c, 0) else (0, ask p (numB p a && numB p b && numB p c))
def tripleOf (p a b c : Int) : Bool × Int := if ask p (numB p a && numB p b && numB p c) = 0 then (tripleB p a b c, 0) else (false, ask p (numB p a && numB p b && numB p c))
theorem num3 {p a b c : Int} (h : (numB p a && numB p b && numB p c) = true) : (0 ≤ a ∧ a < p) ∧ (0 ≤ b ∧ b < p) ∧ 0 ≤ c ∧ c < p := by
  simp only [Bool.and_eq_true] at h
  exact ⟨numB_true h.1.1, numB_true h.1.2, numB_true h.2⟩
def ptB (p x y : Int) : Bool := numB p x && numB p y
def lineB (p a b c : Int) : Bool := numB p a && numB p b && numB p c && (a == 1 || a == 0 && b == 1)
def area (p ax ay bx by_ cx cy : Int) : Int := ((bx - ax) * (cy - ay) - (by_ - ay) * (cx - ax)) % p
def ptsB (p : Int) (xs : List (Int × Int)) : Bool := xs.all fun x => ptB p x.1 x.2
def linesB (p : Int) (xs : List (Int × Int × Int)) : Bool := xs.all fun x => lineB p x.1 x.2.1 x.2.2
theorem allD_step {α : Type} {f : α → Bool} {xs : List α} {k : Nat} {d : α} (h : k < xs.length) (h1 : (xs.take k).all f = true) (h2 : f (xs.getD k d) = true) : (xs.take (k + 1)).all f = true := by
  rw [List.take_succ_eq_append_getElem h, List.all_append, h1]
  have e : xs.getD k d = xs[k] := by simp [h]
  rw [e] at h2
  simp [h2]
theorem allD_stop {α : Type} {f : α → Bool} {xs : List α} {k : Nat} {d : α} (h : k < xs.length) (h2 : f (xs.getD k d) = false) : xs.all f = false := by
  have e : xs.getD k d = xs[k] := by simp [h]
  rw [e] at h2
  rw [List.all_eq_false]
  exact ⟨xs[k], List.getElem_mem h, by simp [h2]⟩
def parB (p la lb ma mb : Int) : Bool := (la * mb - lb * ma) % p == 0
def onB (p x y a b c : Int) : Bool := (a * x + b * y + c) % p == 0
/-- The product of two points by a colour. -/
def prod (p k x y z v : Int) : Int := if k = 0 then (x * z + y * v) % p else if k = 1 then (x * z - y * v) % p else (x * v + y * z) % p
def colB (k : Int) : Bool := decide (0 ≤ k) && decide (k ≤ 2)
theorem prod_0 {p k x y z v : Int} (h : k = 0) : prod p k x y z v = (x * z + y * v) % p := by simp [prod, h]
theorem prod_1 {p k x y z v : Int} (h : ¬ k = 0) (h1 : k = 1) : prod p k x y z v = (x * z - y * v) % p := by simp [prod, h1]
theorem prod_2 {p k x y z v : Int} (h : ¬ k = 0) (h1 : ¬ k = 1) : prod p k x y z v = (x * v + y * z) % p := by simp [prod, h, h1]
theorem sub_emod' (p x y : Int) : (x % p - y % p) % p = (x - y) % p := (Int.sub_emod x y p).symm
theorem area_eq (p ax ay bx by_ cx cy : Int) : ((bx - ax) % p * ((cy - ay) % p) - (by_ - ay) % p * ((cx - ax) % p)) % p = area p ax ay bx by_ cx cy := by
  unfold area
  rw [Int.sub_emod, Int.mul_emod, Int.emod_emod, Int.emod_emod, ← Int.mul_emod]
  rw [Int.mul_emod ((by_ - ay) % p), Int.emod_emod, Int.emod_emod, ← Int.mul_emod, ← Int.sub_emod]
theorem ptB_bd {p x y : Int} (h : ptB p x y = true) : 0 ≤ x ∧ x < p ∧ 0 ≤ y ∧ y < p := by
  simp only [ptB, Bool.and_eq_true] at h
  have h1 := numB_true h.1
  have h2 := numB_true h.2
  omega
theorem lineB_bd {p a b c : Int} (h : lineB p a b c = true) : 0 ≤ a ∧ a < p ∧ 0 ≤ b ∧ b < p ∧ 0 ≤ c ∧ c < p ∧ (a = 1 ∨ a = 0 ∧ b = 1) := by
  simp only [lineB, Bool.and_eq_true, Bool.or_eq_true, beq_iff_eq] at h
  have h1 := numB_true h.1.1.1
  have h2 := numB_true h.1.1.2
  have h3 := numB_true h.1.2
  refine ⟨h1.1, h1.2, h2.1, h2.2, h3.1, h3.2, h.2⟩
theorem pts1_bd {p ax ay : Int} (h : ptsB p [(ax, ay)] = true) : 0 ≤ ax ∧ ax < p ∧ 0 ≤ ay ∧ ay < p := by
  simp only [ptsB, List.all_cons, List.all_nil, Bool.and_true, Bool.and_eq_true] at h
  exact ptB_bd h
theorem pts2_bd {p ax ay bx by_ : Int} (h : ptsB p [(ax, ay), (bx, by_)] = true) : (0 ≤ ax ∧ ax < p ∧ 0 ≤ ay ∧ ay < p) ∧ 0 ≤ bx ∧ bx < p ∧ 0 ≤ by_ ∧ by_ < p := by
  simp only [ptsB, List.all_cons, List.all_nil, Bool.and_true, Bool.and_eq_true] at h
  exact ⟨ptB_bd h.1, ptB_bd h.2⟩
theorem pts3_bd {p ax ay bx by_ cx cy : Int} (h : ptsB p [(ax, ay), (bx, by_), (cx, cy)] = true) : (0 ≤ ax ∧ ax < p ∧ 0 ≤ ay ∧ ay < p) ∧ (0 ≤ bx ∧ bx < p ∧ 0 ≤ by_ ∧ by_ < p) ∧ 0 ≤ cx ∧ cx < p ∧ 0 ≤ cy ∧ cy < p := by
  simp only [ptsB, List.all_cons, List.all_nil, Bool.and_true, Bool.and_eq_true] at h
  exact ⟨ptB_bd h.1, ptB_bd h.2.1, ptB_bd h.2.2⟩
theorem lines1_bd {p la lb lc : Int} (h : linesB p [(la, lb, lc)] = true) : 0 ≤ la ∧ la < p ∧ 0 ≤ lb ∧ lb < p ∧ 0 ≤ lc ∧ lc < p ∧ (la = 1 ∨ la = 0 ∧ lb = 1) := by
  simp only [linesB, List.all_cons, List.all_nil, Bool.and_true, Bool.and_eq_true] at h
  exact lineB_bd h
theorem lines2_bd {p la lb lc ma mb mc : Int} (h : linesB p [(la, lb, lc), (ma, mb, mc)] = true) : (0 ≤ la ∧ la < p ∧ 0 ≤ lb ∧ lb < p ∧ 0 ≤ lc ∧ lc < p ∧ (la = 1 ∨ la = 0 ∧ lb = 1)) ∧ 0 ≤ ma ∧ ma < p ∧ 0 ≤ mb ∧ mb < p ∧ 0 ≤ mc ∧ mc < p ∧ (ma = 1 ∨ ma = 0 ∧ mb = 1) := by
  simp only [linesB, List.all_cons, List.all_nil, Bool.and_true, Bool.and_eq_true] at h
  exact ⟨lineB_bd h.1, lineB_bd h.2⟩
theorem ptsB1 (p ax ay : Int) : ptsB p [(ax, ay)] = ptB p ax ay := by simp [ptsB]
theorem linesB1 (p a b c : Int) : linesB p [(a, b, c)] = lineB p a b c := by simp [linesB]
/-- Parallel lines, as the reference tells them. -/
theorem parB_eq {p la lb ma mb : Int} (hp : 3 ≤ p) (h1 : 0 ≤ lb) (h2 : lb < p) (h3 : 0 ≤ mb) (h4 : mb < p) (hl : la = 1 ∨ la = 0 ∧ lb = 1) (hm : ma = 1 ∨ ma = 0 ∧ mb = 1) : parB p la lb ma mb = (la == ma && lb == mb) := by
  unfold parB
  rcases hl with rfl | ⟨rfl, rfl⟩ <;> rcases hm with rfl | ⟨rfl, rfl⟩
  · simp only [Int.one_mul, Int.mul_one, beq_self_eq_true, Bool.true_and]
    rw [Bool.eq_iff_iff]
    simp only [beq_iff_eq]
    constructor
    · intro h
      by_cases hlt : mb < lb
      · rw [show mb - lb = (p + mb - lb) - p by omega, Int.sub_emod_right, Int.emod_eq_of_lt (by omega) (by omega)] at h
        omega
      · rw [Int.emod_eq_of_lt (by omega) (by omega)] at h
        omega
    · rintro rfl
      simp
  · have : (1 * 1 - lb * 0) % p = 1 := by
      rw [show (1 * 1 - lb * 0 : Int) = 1 by simp]
      exact Int.emod_eq_of_lt (by omega) (by omega)
    rw [this]
    rfl
  · have : (0 * mb - 1 * 1) % p = p - 1 := by
      rw [show (0 * mb - 1 * 1 : Int) = (p - 1) - p by simp; omega, Int.sub_emod_right]
      exact Int.emod_eq_of_lt (by omega) (by omega)
    rw [this]
    rw [Bool.eq_iff_iff]
    simp
    omega
  · simp
def parOf (p la lb lc ma mb mc : Int) : Bool × Int := if ask p (linesB p [(la, lb, lc), (ma, mb, mc)]) = 0 then (parB p la lb ma mb, 0) else (false, ask p (linesB p [(la, lb, lc), (ma, mb, mc)]))
def collOf (p ax ay bx by_ cx cy : Int) : Bool × Int := if ask p (ptsB p [(ax, ay), (bx, by_), (cx, cy)]) = 0 then (area p ax ay bx by_ cx cy == 0, 0) else (false, ask p (ptsB p [(ax, ay), (bx, by_), (cx, cy)]))
def areaOf (p ax ay bx by_ cx cy : Int) : Int × Int := if ask p (ptsB p [(ax, ay), (bx, by_), (cx, cy)]) = 0 then (area p ax ay bx by_ cx cy, 0) else (0, ask p (ptsB p [(ax, ay), (bx, by_), (cx, cy)]))
def onOf (p ax ay la lb lc : Int) : Bool × Int := if ask p (ptB p ax ay && lineB p la lb lc) = 0 then (onB p ax ay la lb lc, 0) else (false, ask p (ptB p ax ay && lineB p la lb lc))
def prodOf (p k ax ay bx by_ : Int) : Int × Int := if ask p (colB k && ptsB p [(ax, ay), (bx, by_)]) = 0 then (prod p k ax ay bx by_, 0) else (0, ask p (colB k && ptsB p [(ax, ay), (bx, by_)]))
theorem ask_and {p : Int} {a b : Bool} (h : ask p a = 0) (hb : b = true) : ask p (a && b) = 0 := by
  obtain ⟨h1, h2⟩ := ask_ok h
  simp [ask, h1, h2, hb]
theorem ask_and_f {p : Int} {a b : Bool} (h : ask p a = 0) (hb : b = false) : ask p (a && b) = 2 := by
  obtain ⟨h1, h2⟩ := ask_ok h
  simp [ask, h1, h2, hb]
theorem ask_and_n {p : Int} {a b : Bool} (h : ¬ ask p a = 0) : ask p (a && b) = ask p a := by
  cases hf : fieldB p <;> cases a <;> simp [ask, hf] at h ⊢
theorem sinv_unfold (p a : Int) : sinv p (a % p) = powFrom p 6 1 (a % p) (p - 2) := by rw [sinv, Int.emod_emod]
end Go.Proofs.Ytbjcbbnfgfmllaa.Pl
