/- Plain law: numbers modulo p, points, lines, quadrances, spreads. No program in sight. -/
import Derived.IntWalk
set_option linter.unusedVariables false
set_option linter.unusedSimpArgs false
namespace Go.Proofs.YtbjcbbnfgfmllaaGreatDoor.Pl
/-- p is one of the ten primes, as the program's switch asks it. -/
def fieldB (p : Int) : Bool := p == 3 || p == 5 || p == 7 || p == 11 || p == 13 || p == 17 || p == 19 || p == 23 || p == 29 || p == 31
def numB (p x : Int) : Bool := decide (0 ≤ x) && decide (x < p)
def inB (n lo hi : Int) : Bool := decide (lo ≤ n) && decide (n ≤ hi)
/-- A claim on all numbers below n, for the kernel. -/
def allTo (f : Int → Bool) : Nat → Bool
  | 0 => true
  | n + 1 => f n && allTo f n
theorem allTo_spec {f : Int → Bool} : ∀ {n : Nat}, allTo f n = true → ∀ a : Int, 0 ≤ a → a < n → f a = true
  | 0, _, a, h0, h1 => by omega
  | n + 1, h, a, h0, h1 => by
    simp only [allTo, Bool.and_eq_true] at h
    by_cases e : a = n
    · rw [e]; exact h.1
    · exact allTo_spec h.2 a h0 (by omega)
theorem inB_num (p x : Int) : inB x 0 (p - 1) = numB p x := by
  unfold inB numB
  congr 1
  exact decide_eq_decide.2 (by omega)
theorem numB_true {p x : Int} (h : numB p x = true) : 0 ≤ x ∧ x < p := by
  simpa [numB] using h
theorem numB_mk {p x : Int} (h : 0 ≤ x) (h2 : x < p) : numB p x = true := by
  simp [numB, h, h2]
theorem field_bd {p : Int} (h : fieldB p = true) : 3 ≤ p ∧ p ≤ 31 := by
  simp [fieldB] at h
  omega
theorem field_cases {p : Int} (h : fieldB p = true) : p = 3 ∨ p = 5 ∨ p = 7 ∨ p = 11 ∨ p = 13 ∨ p = 17 ∨ p = 19 ∨ p = 23 ∨ p = 29 ∨ p = 31 := by
  simp [fieldB] at h
  omega
theorem rest_eq (p x : Int) (hp : 1 ≤ p) : (x.tmod p + p).tmod p = x % p := by
  have h1 := Int.tmod_lt_of_pos x (show 0 < p by omega)
  have h0 : -p < x.tmod p := by
    have := Int.lt_tmod_of_pos x (show 0 < p by omega)
    omega
  rw [Int.tmod_eq_emod_of_nonneg (by omega)]
  rw [Int.add_emod_right]
  have : x.tmod p % p = x % p := by
    rw [Int.tmod_eq_emod]
    split
    · simp
    · have hd : (p.natAbs : Int) = p := by omega
      rw [hd, Int.sub_emod_right, Int.emod_emod]
  exact this
theorem rest_eq2 (p x : Int) (hp : 1 ≤ p) : (x.tmod p + p) % p = x % p := by
  have h0 : -p < x.tmod p := Int.lt_tmod_of_pos x (show 0 < p by omega)
  have h := rest_eq p x hp
  rwa [Int.tmod_eq_emod_of_nonneg (by omega)] at h
/-- No number from 2 below d divides p. -/
def okTo (p d : Int) : Bool := (decide (d ≤ 2) || p % 2 != 0) && (decide (d ≤ 3) || p % 3 != 0) && (decide (d ≤ 4) || p % 4 != 0) && (decide (d ≤ 5) || p % 5 != 0)
theorem ok2 {p : Int} (h : okTo p 2 = true) (h2 : ¬ p % 2 = 0) : okTo p 3 = true := by
  simp [okTo] at *
  simp [*]
theorem ok3 {p : Int} (h : okTo p 3 = true) (h2 : ¬ p % 3 = 0) : okTo p 4 = true := by
  simp [okTo] at *
  simp [*]
theorem ok4 {p : Int} (h : okTo p 4 = true) (h2 : ¬ p % 4 = 0) : okTo p 5 = true := by
  simp [okTo] at *
  simp [*]
theorem ok5 {p : Int} (h : okTo p 5 = true) (h2 : ¬ p % 5 = 0) : okTo p 6 = true := by
  simp [okTo] at *
  simp [*]
theorem field_out {p : Int} (h : inB p 3 31 = false) : fieldB p = false := by
  simp [inB, fieldB] at *
  omega
theorem in_bd {p lo hi : Int} (h : inB p lo hi = true) : lo ≤ p ∧ p ≤ hi := by
  simpa [inB] using h
def rangeB (f : Int → Bool) : Bool := allTo (fun p => f (p + 3)) 29
theorem rangeB_spec {f : Int → Bool} (h : rangeB f = true) {p : Int} (h0 : 3 ≤ p) (h1 : p ≤ 31) : f p = true := by
  have := allTo_spec h (p - 3) (by omega) (by omega)
  rwa [show p - 3 + 3 = p by omega] at this
theorem noB_spec {p d : Int} (h : rangeB (fun p => decide (p < d * d) || p % d != 0 || !fieldB p) = true) (h0 : 3 ≤ p) (h1 : p ≤ 31) (hsq : d * d ≤ p) (hr : p % d = 0) : fieldB p = false := by
  have h := rangeB_spec h h0 h1
  simp only [Bool.or_eq_true, decide_eq_true_eq, bne_iff_ne, Bool.not_eq_true'] at h
  rcases h with (h | h) | h
  · omega
  · exact absurd hr h
  · exact h
theorem field_no {p d : Int} (h0 : 3 ≤ p) (h1 : p ≤ 31) (hd : 2 ≤ d) (hd2 : d ≤ 5) (hsq : d * d ≤ p) (hr : p % d = 0) : fieldB p = false := by
  have : d = 2 ∨ d = 3 ∨ d = 4 ∨ d = 5 := by omega
  rcases this with rfl | rfl | rfl | rfl <;> exact noB_spec (by decide +kernel) h0 h1 hsq hr
theorem yesB_spec {p d : Int} (h : rangeB (fun p => decide (d * d ≤ p) || !okTo p d || fieldB p) = true) (h0 : 3 ≤ p) (h1 : p ≤ 31) (hsq : p < d * d) (hr : okTo p d = true) : fieldB p = true := by
  have h := rangeB_spec h h0 h1
  simp only [Bool.or_eq_true, decide_eq_true_eq, Bool.not_eq_true'] at h
  rcases h with (h | h) | h
  · omega
  · rw [hr] at h; cases h
  · exact h
theorem field_yes {p d : Int} (h0 : 3 ≤ p) (h1 : p ≤ 31) (hd : 2 ≤ d) (hd2 : d ≤ 6) (hsq : p < d * d) (hr : okTo p d = true) : fieldB p = true := by
  have : d = 2 ∨ d = 3 ∨ d = 4 ∨ d = 5 ∨ d = 6 := by omega
  rcases this with rfl | rfl | rfl | rfl | rfl <;> exact yesB_spec (by decide +kernel) h0 h1 hsq hr
theorem mulB {x y A B : Int} (h0 : 0 ≤ x) (h1 : x ≤ A) (h2 : 0 ≤ y) (h3 : y ≤ B) : 0 ≤ x * y ∧ x * y ≤ A * B :=
  ⟨Int.mul_nonneg h0 h2, Int.mul_le_mul h1 h3 h2 (Int.le_trans h0 h1)⟩
/-- Bounds of a product of numbers of either sign. -/
theorem mulA {x y A B : Int} (h0 : -A ≤ x) (h1 : x ≤ A) (h2 : -B ≤ y) (h3 : y ≤ B) : -(A * B) ≤ x * y ∧ x * y ≤ A * B := by
  have ha : 0 ≤ A := by omega
  have hb : 0 ≤ B := by omega
  have hx : x.natAbs ≤ A.toNat := by omega
  have hy : y.natAbs ≤ B.toNat := by omega
  have h : (x * y).natAbs ≤ A.toNat * B.toNat := by
    rw [Int.natAbs_mul]
    exact Nat.mul_le_mul hx hy
  have hc : ((A.toNat * B.toNat : Nat) : Int) = A * B := by
    rw [Int.natCast_mul, Int.toNat_of_nonneg ha, Int.toNat_of_nonneg hb]
  omega
/-- The search of 'inverse', n rounds from x on. -/
def invFrom (p a : Int) : Nat → Int → Int
  | 0, _ => 0
  | n + 1, x => if a * x % p = 1 then x else invFrom p a n (x + 1)
def inv (p a : Int) : Int := invFrom p a (p - 1).toNat 1
/-- The search of 'root', n rounds from x on. -/
def rootFrom (p a : Int) : Nat → Int → Int
  | 0, _ => -1
  | n + 1, x => if x * x % p = a then x else rootFrom p a n (x + 1)
def root (p a : Int) : Int := rootFrom p a p.toNat 0
/-- The reference's power. -/
def powFrom (p : Int) : Nat → Int → Int → Int → Int
  | 0, out, _, _ => out
  | n + 1, out, base, k => if 0 < k then powFrom p n (if k % 2 = 1 then out * base % p else out) (base * base % p) (k / 2) else out
def sinv (p a : Int) : Int := powFrom p 6 1 (a % p) (p - 2)
theorem invFrom_step {p a x : Int} (h : x < p) : invFrom p a (p - x).toNat x = if a * x % p = 1 then x else invFrom p a (p - (x + 1)).toNat (x + 1) := by
  obtain ⟨n, hn⟩ : ∃ n, (p - x).toNat = n + 1 := ⟨(p - x).toNat - 1, by omega⟩
  rw [hn, invFrom]
  have : (p - (x + 1)).toNat = n := by omega
  rw [this]
theorem rootFrom_step {p a x : Int} (h : x < p) : rootFrom p a (p - x).toNat x = if x * x % p = a then x else rootFrom p a (p - (x + 1)).toNat (x + 1) := by
  obtain ⟨n, hn⟩ : ∃ n, (p - x).toNat = n + 1 := ⟨(p - x).toNat - 1, by omega⟩
  rw [hn, rootFrom]
  have : (p - (x + 1)).toNat = n := by omega
  rw [this]
theorem powFrom_step {p out base k : Int} (n : Nat) (h : 0 < k) : powFrom p (n + 1) out base k = powFrom p n (if k % 2 = 1 then out * base % p else out) (base * base % p) (k / 2) := by
  rw [powFrom, if_pos h]
theorem powFrom_done {p out base k : Int} (n : Nat) (h : ¬ 0 < k) : powFrom p n out base k = out := by
  cases n with
  | zero => rfl
  | succ n => rw [powFrom, if_neg h]
def primesB (f : Int → Bool) : Bool := f 3 && f 5 && f 7 && f 11 && f 13 && f 17 && f 19 && f 23 && f 29 && f 31
theorem primesB_spec {f : Int → Bool} (h : primesB f = true) {p : Int} (hp : fieldB p = true) : f p = true := by
  simp only [primesB, Bool.and_eq_true] at h
  rcases field_cases hp with rfl | rfl | rfl | rfl | rfl | rfl | rfl | rfl | rfl | rfl <;> simp [h]
theorem finite {f : Int → Int → Bool} (h : primesB (fun p => allTo (f p) p.toNat) = true) {p a : Int} (hp : fieldB p = true) (h0 : 0 ≤ a) (h1 : a < p) : f p a = true := by
  have := primesB_spec h hp
  exact allTo_spec this a h0 (by omega)
theorem sinv_inv {p a : Int} (hp : fieldB p = true) (h0 : 0 ≤ a) (h1 : a < p) : sinv p a = inv p a := by
  have := finite (f := fun p a => sinv p a == inv p a) (by decide +kernel) hp h0 h1
  simpa using this
theorem inv_facts {p a : Int} (hp : fieldB p = true) (h0 : 0 ≤ a) (h1 : a < p) : (a ≠ 0 → a * inv p a % p = 1) ∧ 0 ≤ inv p a ∧ inv p a < p ∧ (a = 0 → inv p a = 0) := by
  have := finite (f := fun p a => (a == 0 || a * inv p a % p == 1) && decide (0 ≤ inv p a) && decide (inv p a < p) && (a != 0 || inv p a == 0)) (by decide +kernel) hp h0 h1
  simp at this
  omega
/-- The code of the first two errors. -/
def ask (p : Int) (b : Bool) : Int := if fieldB p then (if b then 0 else 2) else 1
theorem all_step {f : Int → Bool} {xs : List Int} {k : Nat} (h : k < xs.length) (h1 : (xs.take k).all f = true) (h2 : f (xs.getD k 0) = true) : (xs.take (k + 1)).all f = true := by
  rw [List.take_succ_eq_append_getElem h, List.all_append, h1]
  have e : xs.getD k 0 = xs[k] := by simp [h]
  rw [e] at h2
  simp [h2]
theorem all_stop {f : Int → Bool} {xs : List Int} {k : Nat} (h : k < xs.length) (h2 : f (xs.getD k 0) = false) : xs.all f = false := by
  have e : xs.getD k 0 = xs[k] := by simp [h]
  rw [e] at h2
  rw [List.all_eq_false]
  exact ⟨xs[k], List.getElem_mem h, by simp [h2]⟩
/-- RootOf, value and code. -/
def rootOf (p a : Int) : Int × Int := if ask p (numB p a) = 0 then (if root p a < 0 then (0, 4) else (root p a, 0)) else (0, ask p (numB p a))
theorem ask_f {p : Int} {b : Bool} (h : fieldB p = false) : ask p b = 1 := by simp [ask, h]
theorem ask_tf {p : Int} (h : fieldB p = true) : ask p false = 2 := by simp [ask, h]
theorem ask_tt {p : Int} (h : fieldB p = true) : ask p true = 0 := by simp [ask, h]
theorem ask_ok {p : Int} {b : Bool} (h : ask p b = 0) : fieldB p = true ∧ b = true := by
  unfold ask at h
  cases hf : fieldB p <;> cases b <;> simp [hf] at h ⊢
theorem ask_val (p : Int) (b : Bool) : ask p b = 0 ∨ ask p b = 1 ∨ ask p b = 2 := by
  unfold ask
  split
  · split <;> simp
  · simp
/-- InverseOf and SquareKind, value and code. -/
def inverseOf (p a : Int) : Int × Int := if ask p (numB p a) = 0 then (if a = 0 then (0, 5) else (inv p a, 0)) else (0, ask p (numB p a))
def kind (p a : Int) : Int := if a = 0 then 0 else if root p a < 0 then -1 else 1
def squareKind (p a : Int) : Int × Int := if ask p (numB p a) = 0 then (kind p a, 0) else (0, ask p (numB p a))
theorem nums1 (p a : Int) : [a].all (numB p) = numB p a := by simp
theorem nums2 (p a b : Int) : [a, b].all (numB p) = (numB p a && numB p b) := by simp
theorem nums3 (p a b c : Int) : [a, b, c].all (numB p) = (numB p a && numB p b && numB p c) := by simp [Bool.and_assoc]
theorem root_bd {p a : Int} : ∀ (n : Nat) (x : Int), 0 ≤ x → -1 ≤ rootFrom p a n x ∧ rootFrom p a n x < x + n + 1
  | 0, x, h => by simp [rootFrom]; omega
  | n + 1, x, h => by
    have ih := root_bd (p := p) (a := a) n (x + 1) (by omega)
    rw [rootFrom]
    split <;> omega
def rootV (p a : Int) : Int := if root p a < 0 then 0 else root p a
def rootB (p a : Int) : Bool := !decide (root p a < 0)
theorem rootV_neg {p a : Int} (h : root p a < 0) : rootV p a = 0 ∧ rootB p a = false := by simp [rootV, rootB, h]
theorem rootV_pos {p a : Int} (h : ¬ root p a < 0) : rootV p a = root p a ∧ rootB p a = true := by simp [rootV, rootB, h]
theorem kind_0 {p a : Int} (h : a = 0) : kind p a = 0 := by simp [kind, h]
theorem kind_neg {p a : Int} (h : ¬ a = 0) (h2 : root p a < 0) : kind p a = -1 := by simp [kind, h, h2]
theorem kind_pos {p a : Int} (h : ¬ a = 0) (h2 : ¬ root p a < 0) : kind p a = 1 := by simp [kind, h, h2]
def arch (p a b c : Int) : Int := ((a + b + c) * (a + b + c) - 2 * (a * a + b * b + c * c)) % p
def tripleB (p a b c : Int) : Bool := ((a + b + c) * (a + b + c) - 2 * (a * a + b * b + c * c) - 4 * a * b * c) % p == 0
def archOf (p a b c : Int) : Int × Int := if ask p (numB p a && numB p b && numB p c) = 0 then (arch p a b c, 0) else (0, ask p (numB p a && numB p b && numB p c))
def tripleOf (p a b c : Int) : Bool × Int := if ask p (numB p a && numB p b && numB p c) = 0 then (tripleB p a b c, 0) else (false, ask p (numB p a && numB p b && numB p c))
theorem num3 {p a b c : Int} (h : (numB p a && numB p b && numB p c) = true) : (0 ≤ a ∧ a < p) ∧ (0 ≤ b ∧ b < p) ∧ 0 ≤ c ∧ c < p := by
  simp only [Bool.and_eq_true] at h
  exact ⟨numB_true h.1.1, numB_true h.1.2, numB_true h.2⟩
def ptB (p x y : Int) : Bool := numB p x && numB p y
def lineB (p a b c : Int) : Bool := numB p a && numB p b && numB p c && (a == 1 || a == 0 && b == 1)
def area (p ax ay bx by_ cx cy : Int) : Int := ((bx - ax) * (cy - ay) - (by_ - ay) * (cx - ax)) % p
def ptsB (p : Int) (xs : List (Int × Int)) : Bool := xs.all fun x => ptB p x.1 x.2
def linesB (p : Int) (xs : List (Int × Int × Int)) : Bool := xs.all fun x => lineB p x.1 x.2.1 x.2.2
theorem allD_step {α : Type} {f : α → Bool} {xs : List α} {k : Nat} {d : α} (h : k < xs.length) (h1 : (xs.take k).all f = true) (h2 : f (xs.getD k d) = true) : (xs.take (k + 1)).all f = true := by
  rw [List.take_succ_eq_append_getElem h, List.all_append, h1]
  have e : xs.getD k d = xs[k] := by simp [h]
  rw [e] at h2
  simp [h2]
theorem allD_stop {α : Type} {f : α → Bool} {xs : List α} {k : Nat} {d : α} (h : k < xs.length) (h2 : f (xs.getD k d) = false) : xs.all f = false := by
  have e : xs.getD k d = xs[k] := by simp [h]
  rw [e] at h2
  rw [List.all_eq_false]
  exact ⟨xs[k], List.getElem_mem h, by simp [h2]⟩
def parB (p la lb ma mb : Int) : Bool := (la * mb - lb * ma) % p == 0
def onB (p x y a b c : Int) : Bool := (a * x + b * y + c) % p == 0
/-- The product of two points by a colour. -/
def prod (p k x y z v : Int) : Int := if k = 0 then (x * z + y * v) % p else if k = 1 then (x * z - y * v) % p else (x * v + y * z) % p
def colB (k : Int) : Bool := decide (0 ≤ k) && decide (k ≤ 2)
theorem prod_0 {p k x y z v : Int} (h : k = 0) : prod p k x y z v = (x * z + y * v) % p := by simp [prod, h]
theorem prod_1 {p k x y z v : Int} (h : ¬ k = 0) (h1 : k = 1) : prod p k x y z v = (x * z - y * v) % p := by simp [prod, h1]
theorem prod_2 {p k x y z v : Int} (h : ¬ k = 0) (h1 : ¬ k = 1) : prod p k x y z v = (x * v + y * z) % p := by simp [prod, h, h1]
theorem sub_emod' (p x y : Int) : (x % p - y % p) % p = (x - y) % p := (Int.sub_emod x y p).symm
theorem area_eq (p ax ay bx by_ cx cy : Int) : ((bx - ax) % p * ((cy - ay) % p) - (by_ - ay) % p * ((cx - ax) % p)) % p = area p ax ay bx by_ cx cy := by
  unfold area
  rw [Int.sub_emod, Int.mul_emod, Int.emod_emod, Int.emod_emod, ← Int.mul_emod]
  rw [Int.mul_emod ((by_ - ay) % p), Int.emod_emod, Int.emod_emod, ← Int.mul_emod, ← Int.sub_emod]
theorem ptB_bd {p x y : Int} (h : ptB p x y = true) : 0 ≤ x ∧ x < p ∧ 0 ≤ y ∧ y < p := by
  simp only [ptB, Bool.and_eq_true] at h
  have h1 := numB_true h.1
  have h2 := numB_true h.2
  omega
theorem lineB_bd {p a b c : Int} (h : lineB p a b c = true) : 0 ≤ a ∧ a < p ∧ 0 ≤ b ∧ b < p ∧ 0 ≤ c ∧ c < p ∧ (a = 1 ∨ a = 0 ∧ b = 1) := by
  simp only [lineB, Bool.and_eq_true, Bool.or_eq_true, beq_iff_eq] at h
  have h1 := numB_true h.1.1.1
  have h2 := numB_true h.1.1.2
  have h3 := numB_true h.1.2
  refine ⟨h1.1, h1.2, h2.1, h2.2, h3.1, h3.2, h.2⟩
theorem pts1_bd {p ax ay : Int} (h : ptsB p [(ax, ay)] = true) : 0 ≤ ax ∧ ax < p ∧ 0 ≤ ay ∧ ay < p := by
  simp only [ptsB, List.all_cons, List.all_nil, Bool.and_true, Bool.and_eq_true] at h
  exact ptB_bd h
theorem pts2_bd {p ax ay bx by_ : Int} (h : ptsB p [(ax, ay), (bx, by_)] = true) : (0 ≤ ax ∧ ax < p ∧ 0 ≤ ay ∧ ay < p) ∧ 0 ≤ bx ∧ bx < p ∧ 0 ≤ by_ ∧ by_ < p := by
  simp only [ptsB, List.all_cons, List.all_nil, Bool.and_true, Bool.and_eq_true] at h
  exact ⟨ptB_bd h.1, ptB_bd h.2⟩
theorem pts3_bd {p ax ay bx by_ cx cy : Int} (h : ptsB p [(ax, ay), (bx, by_), (cx, cy)] = true) : (0 ≤ ax ∧ ax < p ∧ 0 ≤ ay ∧ ay < p) ∧ (0 ≤ bx ∧ bx < p ∧ 0 ≤ by_ ∧ by_ < p) ∧ 0 ≤ cx ∧ cx < p ∧ 0 ≤ cy ∧ cy < p := by
  simp only [ptsB, List.all_cons, List.all_nil, Bool.and_true, Bool.and_eq_true] at h
  exact ⟨ptB_bd h.1, ptB_bd h.2.1, ptB_bd h.2.2⟩
theorem lines1_bd {p la lb lc : Int} (h : linesB p [(la, lb, lc)] = true) : 0 ≤ la ∧ la < p ∧ 0 ≤ lb ∧ lb < p ∧ 0 ≤ lc ∧ lc < p ∧ (la = 1 ∨ la = 0 ∧ lb = 1) := by
  simp only [linesB, List.all_cons, List.all_nil, Bool.and_true, Bool.and_eq_true] at h
  exact lineB_bd h
theorem lines2_bd {p la lb lc ma mb mc : Int} (h : linesB p [(la, lb, lc), (ma, mb, mc)] = true) : (0 ≤ la ∧ la < p ∧ 0 ≤ lb ∧ lb < p ∧ 0 ≤ lc ∧ lc < p ∧ (la = 1 ∨ la = 0 ∧ lb = 1)) ∧ 0 ≤ ma ∧ ma < p ∧ 0 ≤ mb ∧ mb < p ∧ 0 ≤ mc ∧ mc < p ∧ (ma = 1 ∨ ma = 0 ∧ mb = 1) := by
  simp only [linesB, List.all_cons, List.all_nil, Bool.and_true, Bool.and_eq_true] at h
  exact ⟨lineB_bd h.1, lineB_bd h.2⟩
theorem ptsB1 (p ax ay : Int) : ptsB p [(ax, ay)] = ptB p ax ay := by simp [ptsB]
theorem linesB1 (p a b c : Int) : linesB p [(a, b, c)] = lineB p a b c := by simp [linesB]
/-- Parallel lines, as the reference tells them. -/
theorem parB_eq {p la lb ma mb : Int} (hp : 3 ≤ p) (h1 : 0 ≤ lb) (h2 : lb < p) (h3 : 0 ≤ mb) (h4 : mb < p) (hl : la = 1 ∨ la = 0 ∧ lb = 1) (hm : ma = 1 ∨ ma = 0 ∧ mb = 1) : parB p la lb ma mb = (la == ma && lb == mb) := by
  unfold parB
  rcases hl with rfl | ⟨rfl, rfl⟩ <;> rcases hm with rfl | ⟨rfl, rfl⟩
  · simp only [Int.one_mul, Int.mul_one, beq_self_eq_true, Bool.true_and]
    rw [Bool.eq_iff_iff]
    simp only [beq_iff_eq]
    constructor
    · intro h
      by_cases hlt : mb < lb
      · rw [show mb - lb = (p + mb - lb) - p by omega, Int.sub_emod_right, Int.emod_eq_of_lt (by omega) (by omega)] at h
        omega
      · rw [Int.emod_eq_of_lt (by omega) (by omega)] at h
        omega
    · rintro rfl
      simp
  · have : (1 * 1 - lb * 0) % p = 1 := by
      rw [show (1 * 1 - lb * 0 : Int) = 1 by simp]
      exact Int.emod_eq_of_lt (by omega) (by omega)
    rw [this]
    rfl
  · have : (0 * mb - 1 * 1) % p = p - 1 := by
      rw [show (0 * mb - 1 * 1 : Int) = (p - 1) - p by simp; omega, Int.sub_emod_right]
      exact Int.emod_eq_of_lt (by omega) (by omega)
    rw [this]
    rw [Bool.eq_iff_iff]
    simp
    omega
  · simp
def parOf (p la lb lc ma mb mc : Int) : Bool × Int := if ask p (linesB p [(la, lb, lc), (ma, mb, mc)]) = 0 then (parB p la lb ma mb, 0) else (false, ask p (linesB p [(la, lb, lc), (ma, mb, mc)]))
def collOf (p ax ay bx by_ cx cy : Int) : Bool × Int := if ask p (ptsB p [(ax, ay), (bx, by_), (cx, cy)]) = 0 then (area p ax ay bx by_ cx cy == 0, 0) else (false, ask p (ptsB p [(ax, ay), (bx, by_), (cx, cy)]))
def areaOf (p ax ay bx by_ cx cy : Int) : Int × Int := if ask p (ptsB p [(ax, ay), (bx, by_), (cx, cy)]) = 0 then (area p ax ay bx by_ cx cy, 0) else (0, ask p (ptsB p [(ax, ay), (bx, by_), (cx, cy)]))
def onOf (p ax ay la lb lc : Int) : Bool × Int := if ask p (ptB p ax ay && lineB p la lb lc) = 0 then (onB p ax ay la lb lc, 0) else (false, ask p (ptB p ax ay && lineB p la lb lc))
def prodOf (p k ax ay bx by_ : Int) : Int × Int := if ask p (colB k && ptsB p [(ax, ay), (bx, by_)]) = 0 then (prod p k ax ay bx by_, 0) else (0, ask p (colB k && ptsB p [(ax, ay), (bx, by_)]))
theorem ask_and {p : Int} {a b : Bool} (h : ask p a = 0) (hb : b = true) : ask p (a && b) = 0 := by
  obtain ⟨h1, h2⟩ := ask_ok h
  simp [ask, h1, h2, hb]
theorem ask_and_f {p : Int} {a b : Bool} (h : ask p a = 0) (hb : b = false) : ask p (a && b) = 2 := by
  obtain ⟨h1, h2⟩ := ask_ok h
  simp [ask, h1, h2, hb]
theorem ask_and_n {p : Int} {a b : Bool} (h : ¬ ask p a = 0) : ask p (a && b) = ask p a := by
  cases hf : fieldB p <;> cases a <;> simp [ask, hf] at h ⊢
theorem sinv_unfold (p a : Int) : sinv p (a % p) = powFrom p 6 1 (a % p) (p - 2) := by rw [sinv, Int.emod_emod]
end Go.Proofs.YtbjcbbnfgfmllaaGreatDoor.Pl
namespace Go.Proofs.YtbjcbbnfgfmllaaGreatDoor.Pl
theorem mulL (p x y : Int) : (x % p * y) % p = (x * y) % p := by rw [Int.mul_emod, Int.emod_emod, ← Int.mul_emod]
theorem mulR (p x y : Int) : (x * (y % p)) % p = (x * y) % p := by rw [Int.mul_emod, Int.emod_emod, ← Int.mul_emod]
theorem addL (p x y : Int) : (x % p + y) % p = (x + y) % p := by rw [Int.add_emod, Int.emod_emod, ← Int.add_emod]
theorem addR (p x y : Int) : (x + y % p) % p = (x + y) % p := by rw [Int.add_emod, Int.emod_emod, ← Int.add_emod]
theorem subL (p x y : Int) : (x % p - y) % p = (x - y) % p := by rw [Int.sub_emod, Int.emod_emod, ← Int.sub_emod]
theorem subR (p x y : Int) : (x - y % p) % p = (x - y) % p := by rw [Int.sub_emod, Int.emod_emod, ← Int.sub_emod]
theorem negM (p x : Int) : (-(x % p)) % p = (-x) % p := by
  have := subR p 0 x
  simpa using this
theorem tmodL (p x y : Int) (hp : 1 ≤ p) : (x.tmod p * y) % p = (x * y) % p := by
  have h := rest_eq2 p x hp
  rw [Int.add_emod_right] at h
  rw [Int.mul_emod, h, ← Int.mul_emod]
/-- Two numbers whose difference is a multiple of something that is 0 modulo p. -/
theorem lc {p e A B : Int} (R : Int) (he : e % p = 0) (h : A - B = e * R) : A % p = B % p := by
  have h1 : (A - B) % p = 0 := by rw [h, Int.mul_emod, he]; simp
  exact Int.emod_eq_emod_iff_emod_sub_eq_zero.2 h1
theorem lc2 {p e f A B : Int} (R S : Int) (he : e % p = 0) (hf : f % p = 0) (h : A - B = e * R + f * S) : A % p = B % p := by
  have h1 : (A - B) % p = 0 := by
    rw [h, Int.add_emod, Int.mul_emod, he, Int.mul_emod f, hf]
    simp
  exact Int.emod_eq_emod_iff_emod_sub_eq_zero.2 h1
theorem sub_one {p x : Int} (h : x % p = 1) (hp : 2 ≤ p) : (x - 1) % p = 0 := by
  have h1 : (1 : Int) % p = 1 := Int.emod_eq_of_lt (by omega) (by omega)
  rw [Int.sub_emod, h, h1]
  simp
/-- The line that three numbers make. -/
def first (p a b : Int) : Int := if a % p = 0 then b % p else a % p
def nrm (p a b x : Int) : Int := (x * inv p (first p a b)) % p
theorem nrm_rest (p a b x : Int) : nrm p (a % p) (b % p) (x % p) = nrm p a b x := by
  unfold nrm first
  rw [Int.emod_emod, Int.emod_emod, mulL]
theorem nrm_bd {p a b x : Int} (hp : 1 ≤ p) : 0 ≤ nrm p a b x ∧ nrm p a b x < p := ⟨Int.emod_nonneg _ (by omega), Int.emod_lt_of_pos _ (by omega)⟩
theorem first_bd {p a b : Int} (hp : 1 ≤ p) : 0 ≤ first p a b ∧ first p a b < p := by
  unfold first
  split <;> exact ⟨Int.emod_nonneg _ (by omega), Int.emod_lt_of_pos _ (by omega)⟩
/-- LineOf. -/
theorem zero3 {p a b c : Int} (hp : 1 ≤ p) (h : 0 ≤ a ∧ a < p) : a % p = a := Int.emod_eq_of_lt h.1 h.2
def lineOfC (p a b c : Int) : Int := if ask p (numB p a && numB p b && numB p c) = 0 then (if a = 0 ∧ b = 0 then 5 else 0) else ask p (numB p a && numB p b && numB p c)
def lineOfX (p a b c x : Int) : Int := if lineOfC p a b c = 0 then nrm p a b x else 0
/-- Combination. -/
def comb (p a b t : Int) : Int := (a + t * (b - a)) % p
theorem comb_spec (p a b t : Int) : (a + (t * ((b - a) % p)) % p) % p = comb p a b t := by
  unfold comb
  rw [addR, Int.add_emod, mulR, ← Int.add_emod]
theorem comb_bd {p a b t : Int} (hp : 1 ≤ p) : 0 ≤ comb p a b t ∧ comb p a b t < p := ⟨Int.emod_nonneg _ (by omega), Int.emod_lt_of_pos _ (by omega)⟩
/-- The half of 1. -/
theorem half_eq {p : Int} (hp : fieldB p = true) : (p + 1) / 2 = inv p 2 := by
  have := primesB_spec (f := fun p => (p + 1) / 2 == inv p 2) (by decide +kernel) hp
  simpa using this
theorem half_two {p : Int} (hp : fieldB p = true) : (2 * inv p 2) % p = 1 := by
  have h := (inv_facts hp (show (0 : Int) ≤ 2 by omega) (by have := (field_bd hp).1; omega)).1 (by omega)
  exact h
theorem mid_spec {p a b : Int} (hp : fieldB p = true) : (inv p 2 * ((a + b) % p)) % p = comb p a b (inv p 2) := by
  unfold comb
  rw [mulR]
  refine lc a (sub_one (half_two hp) (by have := (field_bd hp).1; omega)) ?_
  grind
/-- RatioOf: the search of the program. -/
def ratFrom (p ax ay bx by_ cx cy : Int) : Nat → Int → Int
  | 0, _ => -1
  | n + 1, t => if comb p ax bx t = cx ∧ comb p ay by_ t = cy then t else ratFrom p ax ay bx by_ cx cy n (t + 1)
def rat (p ax ay bx by_ cx cy : Int) : Int := ratFrom p ax ay bx by_ cx cy p.toNat 0
theorem ratFrom_step {p ax ay bx by_ cx cy t : Int} (h : t < p) : ratFrom p ax ay bx by_ cx cy (p - t).toNat t = if comb p ax bx t = cx ∧ comb p ay by_ t = cy then t else ratFrom p ax ay bx by_ cx cy (p - (t + 1)).toNat (t + 1) := by
  obtain ⟨n, hn⟩ : ∃ n, (p - t).toNat = n + 1 := ⟨(p - t).toNat - 1, by omega⟩
  rw [hn, ratFrom]
  have : (p - (t + 1)).toNat = n := by omega
  rw [this]
/-- The search finds the only number that serves. -/
theorem ratFrom_hit {p ax ay bx by_ cx cy s : Int} (hs : comb p ax bx s = cx ∧ comb p ay by_ s = cy) (hu : ∀ t, 0 ≤ t → t < p → comb p ax bx t = cx ∧ comb p ay by_ t = cy → t = s) :
    ∀ (n : Nat) (t : Int), 0 ≤ t → t ≤ s → s < t + n → t + n ≤ p → ratFrom p ax ay bx by_ cx cy n t = s
  | 0, t, h0, h1, h2, h3 => by omega
  | n + 1, t, h0, h1, h2, h3 => by
    rw [ratFrom]
    by_cases h : comb p ax bx t = cx ∧ comb p ay by_ t = cy
    · rw [if_pos h]
      exact hu t h0 (by omega) h
    · rw [if_neg h]
      have hne : t ≠ s := by rintro rfl; exact h hs
      exact ratFrom_hit hs hu n (t + 1) (by omega) (by omega) (by omega) (by omega)
theorem ratFrom_miss {p ax ay bx by_ cx cy : Int} (hu : ∀ t, ¬ (comb p ax bx t = cx ∧ comb p ay by_ t = cy)) : ∀ (n : Nat) (t : Int), ratFrom p ax ay bx by_ cx cy n t = -1
  | 0, _ => rfl
  | n + 1, t => by rw [ratFrom, if_neg (hu t)]; exact ratFrom_miss hu n (t + 1)
theorem modeq_sub {p x y : Int} (h : x % p = y % p) : (x - y) % p = 0 := Int.emod_eq_emod_iff_emod_sub_eq_zero.1 h
theorem inv_one {p a : Int} (hp : fieldB p = true) (h : a % p ≠ 0) : (a * inv p (a % p) - 1) % p = 0 := by
  have hb := field_bd hp
  have h1 := (inv_facts hp (Int.emod_nonneg a (show p ≠ 0 by omega)) (Int.emod_lt_of_pos a (show 0 < p by omega))).1 h
  rw [mulL] at h1
  exact sub_one h1 (by omega)
/-- The number that solves u t = v. -/
theorem solve {p u v t : Int} (hp : fieldB p = true) (hu : u % p ≠ 0) (ht : 0 ≤ t ∧ t < p) (h : (u * t) % p = v % p) : t = (v * inv p (u % p)) % p := by
  have h1 : (v * inv p (u % p)) % p = t % p := by
    refine lc2 t (-(inv p (u % p))) (inv_one hp hu) (modeq_sub h) ?_
    grind
  rw [h1, Int.emod_eq_of_lt ht.1 ht.2]
/-- RatioOf of the reference. -/
def ratS (p ax ay bx by_ cx cy : Int) : Int :=
  if (bx - ax) % p ≠ 0 then ((cx - ax) % p * inv p ((bx - ax) % p)) % p else ((cy - ay) % p * inv p ((by_ - ay) % p)) % p
theorem comb_iff {p a b c t : Int} (hc : 0 ≤ c ∧ c < p) : comb p a b t = c ↔ ((b - a) * t - (c - a)) % p = 0 := by
  unfold comb
  constructor
  · intro h
    have h1 : (a + t * (b - a)) % p = c % p := by rw [h, Int.emod_eq_of_lt hc.1 hc.2]
    have := modeq_sub h1
    rw [show (b - a) * t - (c - a) = a + t * (b - a) - c by grind]
    exact this
  · intro h
    have h1 : (a + t * (b - a)) % p = c % p := by
      refine Int.emod_eq_emod_iff_emod_sub_eq_zero.2 ?_
      rw [show a + t * (b - a) - c = (b - a) * t - (c - a) by grind]
      exact h
    rw [h1, Int.emod_eq_of_lt hc.1 hc.2]
theorem rat_eq {p ax ay bx by_ cx cy : Int} (hp : fieldB p = true) (h1 : 0 ≤ ax ∧ ax < p) (h2 : 0 ≤ ay ∧ ay < p) (h3 : 0 ≤ bx ∧ bx < p) (h4 : 0 ≤ by_ ∧ by_ < p) (h5 : 0 ≤ cx ∧ cx < p) (h6 : 0 ≤ cy ∧ cy < p) (hne : ¬ (ax = bx ∧ ay = by_)) :
    rat p ax ay bx by_ cx cy = if area p ax ay bx by_ cx cy = 0 then ratS p ax ay bx by_ cx cy else -1 := by
  have hb := field_bd hp
  have zero_of : ∀ {x y : Int}, 0 ≤ x ∧ x < p → 0 ≤ y ∧ y < p → (y - x) % p = 0 → x = y := by
    intro x y hx hy h
    have : y % p = x % p := Int.emod_eq_emod_iff_emod_sub_eq_zero.2 h
    rw [Int.emod_eq_of_lt hx.1 hx.2, Int.emod_eq_of_lt hy.1 hy.2] at this
    exact this.symm
  by_cases ha : area p ax ay bx by_ cx cy = 0
  · rw [if_pos ha]
    unfold area at ha
    by_cases hu : (bx - ax) % p ≠ 0
    · have hs : ratS p ax ay bx by_ cx cy = ((cx - ax) * inv p ((bx - ax) % p)) % p := by
        unfold ratS
        rw [if_pos hu, mulL]
      rw [hs]
      have hi := inv_one hp hu
      generalize inv p ((bx - ax) % p) = i at *
      have e1 : comb p ax bx (((cx - ax) * i) % p) = cx := by
        rw [comb_iff h5]
        have : (((bx - ax) * (((cx - ax) * i) % p)) - (cx - ax)) % p = ((bx - ax) * ((cx - ax) * i) - (cx - ax)) % p := by rw [← subL, mulR, subL]
        rw [this, show (bx - ax) * ((cx - ax) * i) - (cx - ax) = ((bx - ax) * i - 1) * (cx - ax) by grind, Int.mul_emod, hi]
        simp
      have e2 : comb p ay by_ (((cx - ax) * i) % p) = cy := by
        rw [comb_iff h6]
        have : (((by_ - ay) * (((cx - ax) * i) % p)) - (cy - ay)) % p = ((by_ - ay) * ((cx - ax) * i) - (cy - ay)) % p := by rw [← subL, mulR, subL]
        rw [this]
        have := lc2 (A := (by_ - ay) * ((cx - ax) * i) - (cy - ay)) (B := 0) (cy - ay) (-i) hi ha (by grind)
        simpa using this
      refine ratFrom_hit ⟨e1, e2⟩ (fun t ht0 ht1 h => ?_) p.toNat 0 (by omega) (Int.emod_nonneg _ (by omega)) (by have := Int.emod_lt_of_pos ((cx - ax) * i) (show 0 < p by omega); omega) (by omega)
      have h7 := (comb_iff h5).1 h.1
      have h8 : ((cx - ax) * i) % p = t % p := by
        refine lc2 t (-i) hi h7 ?_
        grind
      rw [h8, Int.emod_eq_of_lt ht0 ht1]
    · have hu' : (bx - ax) % p = 0 := by simpa using hu
      have hx : ax = bx := zero_of h1 h3 hu'
      have hv : (by_ - ay) % p ≠ 0 := fun h => hne ⟨hx, zero_of h2 h4 h⟩
      have hs : ratS p ax ay bx by_ cx cy = ((cy - ay) * inv p ((by_ - ay) % p)) % p := by
        unfold ratS
        rw [if_neg hu, mulL]
      rw [hs]
      have hi := inv_one hp hv
      generalize inv p ((by_ - ay) % p) = i at *
      have hcx : (cx - ax) % p = 0 := by
        have := lc2 (A := cx - ax) (B := 0) (-(cx - ax)) (-i) hi ha (by rw [← hx]; grind)
        simpa using this
      have e2 : comb p ay by_ (((cy - ay) * i) % p) = cy := by
        rw [comb_iff h6]
        have : (((by_ - ay) * (((cy - ay) * i) % p)) - (cy - ay)) % p = ((by_ - ay) * ((cy - ay) * i) - (cy - ay)) % p := by rw [← subL, mulR, subL]
        rw [this, show (by_ - ay) * ((cy - ay) * i) - (cy - ay) = ((by_ - ay) * i - 1) * (cy - ay) by grind, Int.mul_emod, hi]
        simp
      have e1 : ∀ t, comb p ax bx t = cx := by
        intro t
        rw [comb_iff h5, ← hx]
        rw [show (ax - ax) * t - (cx - ax) = -(cx - ax) by grind, ← negM, hcx]
        simp
      refine ratFrom_hit ⟨e1 _, e2⟩ (fun t ht0 ht1 h => ?_) p.toNat 0 (by omega) (Int.emod_nonneg _ (by omega)) (by have := Int.emod_lt_of_pos ((cy - ay) * i) (show 0 < p by omega); omega) (by omega)
      have h7 := (comb_iff h6).1 h.2
      have h8 : ((cy - ay) * i) % p = t % p := by
        refine lc2 t (-i) hi h7 ?_
        grind
      rw [h8, Int.emod_eq_of_lt ht0 ht1]
  · rw [if_neg ha]
    refine ratFrom_miss (fun t h => ha ?_) _ _
    have h7 := (comb_iff h5).1 h.1
    have h8 := (comb_iff h6).1 h.2
    unfold area
    have := lc2 (A := (bx - ax) * (cy - ay) - (by_ - ay) * (cx - ax)) (B := 0) (by_ - ay) (-(bx - ax)) h7 h8 (by grind)
    simpa using this
/-- Directions of lines, perpendicular lines. -/
def perpB (p k la lb ma mb : Int) : Bool := prod p k ((-lb) % p) la ((-mb) % p) ma == 0
def nullB (p k la lb : Int) : Bool := perpB p k la lb la lb
/-- The lines through a point, in order. -/
def ltFrom (p ax ay : Int) : Nat → Int → List (Int × Int × Int)
  | 0, _ => []
  | n + 1, b => (1, b, (-ax - b * ay) % p) :: ltFrom p ax ay n (b + 1)
def LT (p ax ay : Int) : List (Int × Int × Int) := (0, 1, (-ay) % p) :: ltFrom p ax ay p.toNat 0
/-- The search of 'perpendicular', and the reference's u, v. -/
def perpFrom (p k la lb : Int) : Nat → Int → Int
  | 0, _ => -1
  | n + 1, b => if perpB p k la lb 1 b then b else perpFrom p k la lb n (b + 1)
def perpF (p k la lb : Int) : Int := if perpB p k la lb 0 1 then -2 else perpFrom p k la lb p.toNat 0
def perpU (p k la lb : Int) : Int := if k = 2 then la else (-lb) % p
def perpV (p k la lb : Int) : Int := if k = 1 then (-la) % p else if k = 2 then (-lb) % p else la
def perpMa (p k la lb : Int) : Int := if perpB p k la lb 0 1 then 0 else 1
def perpMb (p k la lb : Int) : Int := if perpB p k la lb 0 1 then 1 else perpFrom p k la lb p.toNat 0
def colsB (f : Int → Bool) : Bool := f 0 && f 1 && f 2
theorem colsB_spec {f : Int → Bool} (h : colsB f = true) {k : Int} (hk : colB k = true) : f k = true := by
  simp only [colsB, Bool.and_eq_true] at h
  simp only [colB, Bool.and_eq_true, decide_eq_true_eq] at hk
  have : k = 0 ∨ k = 1 ∨ k = 2 := by omega
  rcases this with rfl | rfl | rfl <;> simp [h]
/-- A claim on all directions of lines. -/
def dirsB (p : Int) (f : Int → Int → Bool) : Bool := f 0 1 && allTo (fun b => f 1 b) p.toNat
theorem dirsB_spec {p : Int} {f : Int → Int → Bool} (h : dirsB p f = true) {la lb : Int} (hl : la = 1 ∨ la = 0 ∧ lb = 1) (h0 : 0 ≤ lb) (h1 : lb < p) : f la lb = true := by
  simp only [dirsB, Bool.and_eq_true] at h
  rcases hl with rfl | ⟨rfl, rfl⟩
  · exact allTo_spec h.2 lb h0 (by omega)
  · exact h.1
theorem perp_fin {p k la lb : Int} (hp : fieldB p = true) (hk : colB k = true) (hl : la = 1 ∨ la = 0 ∧ lb = 1) (h0 : 0 ≤ lb) (h1 : lb < p) :
    nrm p (perpU p k la lb) (perpV p k la lb) (perpU p k la lb) = perpMa p k la lb ∧ nrm p (perpU p k la lb) (perpV p k la lb) (perpV p k la lb) = perpMb p k la lb ∧ 0 ≤ perpMb p k la lb ∧ perpMb p k la lb < p ∧ perpB p k la lb (perpMa p k la lb) (perpMb p k la lb) = true := by
  have h := primesB_spec (f := fun p => colsB fun k => dirsB p fun la lb => nrm p (perpU p k la lb) (perpV p k la lb) (perpU p k la lb) == perpMa p k la lb && nrm p (perpU p k la lb) (perpV p k la lb) (perpV p k la lb) == perpMb p k la lb && decide (0 ≤ perpMb p k la lb) && decide (perpMb p k la lb < p) && perpB p k la lb (perpMa p k la lb) (perpMb p k la lb)) (by decide +kernel) hp
  have h := dirsB_spec (colsB_spec h hk) hl h0 h1
  simp only [Bool.and_eq_true, beq_iff_eq, decide_eq_true_eq] at h
  exact ⟨h.1.1.1.1, h.1.1.1.2, h.1.1.2, h.1.2, h.2⟩
end Go.Proofs.YtbjcbbnfgfmllaaGreatDoor.Pl
namespace Go.Proofs.YtbjcbbnfgfmllaaGreatDoor.Pl
theorem prod_bd' {p k x y z v : Int} (hp : 1 ≤ p) : 0 ≤ prod p k x y z v ∧ prod p k x y z v < p := by
  unfold prod
  split
  · exact ⟨Int.emod_nonneg _ (by omega), Int.emod_lt_of_pos _ (by omega)⟩
  · split <;> exact ⟨Int.emod_nonneg _ (by omega), Int.emod_lt_of_pos _ (by omega)⟩
theorem prod_rest (p k x y z v : Int) : prod p k (x % p) (y % p) (z % p) (v % p) = prod p k x y z v := by
  unfold prod
  split
  · rw [Int.add_emod, mulL, mulR, mulL, mulR, ← Int.add_emod]
  · split
    · rw [Int.sub_emod, mulL, mulR, mulL, mulR, ← Int.sub_emod]
    · rw [Int.add_emod, mulL, mulR, mulL, mulR, ← Int.add_emod]
theorem prod_neg (p k x y : Int) : prod p k (-x) (-y) (-x) (-y) = prod p k x y x y := by
  unfold prod
  rw [Int.neg_mul_neg, Int.neg_mul_neg, Int.neg_mul_neg, Int.neg_mul_neg]
/-- The quadrance of two points. -/
def quad (p k ax ay bx by_ : Int) : Int := prod p k ((ax - bx) % p) ((ay - by_) % p) ((ax - bx) % p) ((ay - by_) % p)
theorem quad_sym (p k ax ay bx by_ : Int) : quad p k bx by_ ax ay = quad p k ax ay bx by_ := by
  unfold quad
  rw [prod_rest, prod_rest, ← prod_neg, show -(bx - ax) = ax - bx by omega, show -(by_ - ay) = ay - by_ by omega]
theorem quad_bd {p k ax ay bx by_ : Int} (hp : 1 ≤ p) : 0 ≤ quad p k ax ay bx by_ ∧ quad p k ax ay bx by_ < p := prod_bd' hp
def right (p k ax ay bx by_ cx cy : Int) : Bool := prod p k ((bx - ax) % p) ((by_ - ay) % p) ((cx - ax) % p) ((cy - ay) % p) == 0
def quadOf (p k ax ay bx by_ : Int) : Int × Int := if ask p (colB k && ptsB p [(ax, ay), (bx, by_)]) = 0 then (quad p k ax ay bx by_, 0) else (0, ask p (colB k && ptsB p [(ax, ay), (bx, by_)]))
def rightOf (p k ax ay bx by_ cx cy : Int) : Bool × Int := if ask p (colB k && ptsB p [(ax, ay), (bx, by_), (cx, cy)]) = 0 then (right p k ax ay bx by_ cx cy, 0) else (false, ask p (colB k && ptsB p [(ax, ay), (bx, by_), (cx, cy)]))
def perpOf (p k la lb lc ma mb mc : Int) : Bool × Int := if ask p (colB k && linesB p [(la, lb, lc), (ma, mb, mc)]) = 0 then (perpB p k la lb ma mb, 0) else (false, ask p (colB k && linesB p [(la, lb, lc), (ma, mb, mc)]))
def nullOf (p k la lb lc : Int) : Bool × Int := if ask p (colB k && linesB p [(la, lb, lc)]) = 0 then (nullB p k la lb, 0) else (false, ask p (colB k && linesB p [(la, lb, lc)]))
def combOf (p ax ay bx by_ t : Int) : (Int × Int) × Int := if ask p (ptsB p [(ax, ay), (bx, by_)] && numB p t) = 0 then ((comb p ax bx t, comb p ay by_ t), 0) else ((0, 0), ask p (ptsB p [(ax, ay), (bx, by_)] && numB p t))
def midOf (p ax ay bx by_ : Int) : (Int × Int) × Int := if ask p (ptsB p [(ax, ay), (bx, by_)]) = 0 then ((comb p ax bx (inv p 2), comb p ay by_ (inv p 2)), 0) else ((0, 0), ask p (ptsB p [(ax, ay), (bx, by_)]))
def parTOf (p la lb lc ax ay : Int) : (Int × Int × Int) × Int := if ask p (lineB p la lb lc && ptB p ax ay) = 0 then ((la, lb, (-(la * ax + lb * ay)) % p), 0) else ((0, 0, 0), ask p (lineB p la lb lc && ptB p ax ay))
def lineOf (p a b c : Int) : (Int × Int × Int) × Int := if ask p (numB p a && numB p b && numB p c) = 0 then (if a = 0 ∧ b = 0 then ((0, 0, 0), 5) else ((nrm p a b a, nrm p a b b, nrm p a b c), 0)) else ((0, 0, 0), ask p (numB p a && numB p b && numB p c))
def ratOf (p ax ay bx by_ cx cy : Int) : Int × Int := if ask p (ptsB p [(ax, ay), (bx, by_), (cx, cy)]) = 0 then (if ax = bx ∧ ay = by_ then (0, 5) else if rat p ax ay bx by_ cx cy = -1 then (0, 5) else (rat p ax ay bx by_ cx cy, 0)) else (0, ask p (ptsB p [(ax, ay), (bx, by_), (cx, cy)]))
theorem nrm_z {p a b x : Int} (h : a % p = 0) : (x % p * inv p (b % p)) % p = nrm p a b x := by unfold nrm first; rw [if_pos h, mulL]
theorem nrm_n {p a b x : Int} (h : ¬ a % p = 0) : (x % p * inv p (a % p)) % p = nrm p a b x := by unfold nrm first; rw [if_neg h, mulL]
theorem nrm_zs {p a b x : Int} (h : a % p = 0) : (x * inv p (b % p)) % p = nrm p a b x := by unfold nrm first; rw [if_pos h]
theorem nrm_ns {p a b x : Int} (h : ¬ a % p = 0) : (x * inv p (a % p)) % p = nrm p a b x := by unfold nrm first; rw [if_neg h]
theorem inv_bd {p a : Int} (hp : fieldB p = true) : 0 ≤ inv p (a % p) ∧ inv p (a % p) < p := by
  have hb := field_bd hp
  have h := inv_facts hp (Int.emod_nonneg a (show p ≠ 0 by omega)) (Int.emod_lt_of_pos a (show 0 < p by omega))
  exact ⟨h.2.1, h.2.2.1⟩
end Go.Proofs.YtbjcbbnfgfmllaaGreatDoor.Pl
namespace Go.Proofs.YtbjcbbnfgfmllaaGreatDoor.Pl
def parThOf (p la lb lc ax ay : Int) : (Int × Int × Int) × Int := if ask p (ptB p ax ay && lineB p la lb lc) = 0 then ((la, lb, (-(la * ax + lb * ay)) % p), 0) else ((0, 0, 0), ask p (ptB p ax ay && lineB p la lb lc))
theorem inv_1 {p : Int} (hp : fieldB p = true) : inv p 1 = 1 := by
  have hb := field_bd hp
  have h := inv_facts hp (show (0 : Int) ≤ 1 by omega) (show (1 : Int) < p by omega)
  have h1 := h.1 (by omega)
  rw [Int.one_mul, Int.emod_eq_of_lt h.2.1 h.2.2.1] at h1
  exact h1
theorem nrm_line {p la lb x : Int} (hp : fieldB p = true) (hl : la = 1 ∨ la = 0 ∧ lb = 1) : nrm p la lb x = x % p := by
  have hb := field_bd hp
  have h1 : (1 : Int) % p = 1 := Int.emod_eq_of_lt (by omega) (by omega)
  have hf : first p la lb = 1 := by
    unfold first
    rcases hl with rfl | ⟨rfl, rfl⟩
    · rw [h1]; simp
    · rw [h1]; simp
  unfold nrm
  rw [hf, inv_1 hp, Int.mul_one]
theorem half_mid {p a b : Int} (hp : fieldB p = true) : ((p + 1) / 2 * ((a + b) % p)) % p = comb p a b (inv p 2) := by rw [half_eq hp, mid_spec hp]
theorem par_neg (p a b c d : Int) : (-a * b - c * d) % p = (-(a * b + c * d)) % p := by congr 1; grind
theorem small {p x : Int} (h0 : 0 ≤ x) (h1 : x < p) : x % p = x := Int.emod_eq_of_lt h0 h1
theorem inv2_bd {p : Int} (hp : fieldB p = true) : 0 ≤ inv p 2 ∧ inv p 2 < p := by
  have hb := field_bd hp
  have h := inv_facts hp (show (0 : Int) ≤ 2 by omega) (show (2 : Int) < p by omega)
  exact ⟨h.2.1, h.2.2.1⟩
end Go.Proofs.YtbjcbbnfgfmllaaGreatDoor.Pl
namespace Go.Proofs.YtbjcbbnfgfmllaaGreatDoor.Pl
theorem cgM {p a b c d : Int} (h : a % p = b % p) (h' : c % p = d % p) : (a * c) % p = (b * d) % p := by rw [Int.mul_emod, h, h', ← Int.mul_emod]
theorem cgA {p a b c d : Int} (h : a % p = b % p) (h' : c % p = d % p) : (a + c) % p = (b + d) % p := by rw [Int.add_emod, h, h', ← Int.add_emod]
theorem cgS {p a b c d : Int} (h : a % p = b % p) (h' : c % p = d % p) : (a - c) % p = (b - d) % p := by rw [Int.sub_emod, h, h', ← Int.sub_emod]
theorem cgN {p a b : Int} (h : a % p = b % p) : (-a) % p = (-b) % p := by rw [← negM, h, negM]
def crossN (p n D : Int) : Int := (n * n * inv p (D % p)) % p
/-- The cross of two vectors by a colour. -/
def crossV (p k x y z v : Int) : Int := crossN p (prod p k x y z v) (prod p k x y x y * prod p k z v z v)
def cross (p k la lb ma mb : Int) : Int := crossV p k ((-lb) % p) la ((-mb) % p) ma
def spread (p k la lb ma mb : Int) : Int := (1 - cross p k la lb ma mb) % p
def spreadV (p k x y z v : Int) : Int := (1 - crossV p k x y z v) % p
theorem cross_spec (p n D : Int) : (n * n % p * inv p (D % p)) % p = crossN p n D := by unfold crossN; rw [mulL]
theorem prod_bd {p k x y z v : Int} (hp : 1 ≤ p) : 0 ≤ prod p k x y z v ∧ prod p k x y z v < p := by
  unfold prod
  split
  · exact ⟨Int.emod_nonneg _ (by omega), Int.emod_lt_of_pos _ (by omega)⟩
  · split <;> exact ⟨Int.emod_nonneg _ (by omega), Int.emod_lt_of_pos _ (by omega)⟩
theorem cross_bd {p k la lb ma mb : Int} (hp : 1 ≤ p) : 0 ≤ cross p k la lb ma mb ∧ cross p k la lb ma mb < p := ⟨Int.emod_nonneg _ (by omega), Int.emod_lt_of_pos _ (by omega)⟩
theorem spread_bd {p k la lb ma mb : Int} (hp : 1 ≤ p) : 0 ≤ spread p k la lb ma mb ∧ spread p k la lb ma mb < p := ⟨Int.emod_nonneg _ (by omega), Int.emod_lt_of_pos _ (by omega)⟩
/-- Products go with multiples. -/
theorem prod_scale (p k s t x y z v : Int) : prod p k ((s * x) % p) ((s * y) % p) ((t * z) % p) ((t * v) % p) = (s * t * prod p k x y z v) % p := by
  unfold prod
  split
  · rw [mulR, Int.add_emod, mulL, mulR, mulL, mulR, ← Int.add_emod]
    congr 1
    grind
  · split
    · rw [mulR, Int.sub_emod, mulL, mulR, mulL, mulR, ← Int.sub_emod]
      congr 1
      grind
    · rw [mulR, Int.add_emod, mulL, mulR, mulL, mulR, ← Int.add_emod]
      congr 1
      grind
theorem inv_scale {p z D : Int} (hp : fieldB p = true) (hz : z % p ≠ 0) (hD : D % p ≠ 0) (hzD : (z * D) % p ≠ 0) : (z * inv p ((z * D) % p)) % p = inv p (D % p) := by
  have hb := field_bd hp
  have h1 := inv_one hp hD
  have h2 := inv_one hp hzD
  have h3 : (z * inv p ((z * D) % p)) % p = inv p (D % p) % p := by
    refine lc2 (-(z * inv p ((z * D) % p))) (inv p (D % p)) h1 h2 ?_
    grind
  rw [h3]
  have h4 := inv_facts hp (Int.emod_nonneg D (show p ≠ 0 by omega)) (Int.emod_lt_of_pos D (show 0 < p by omega))
  exact Int.emod_eq_of_lt h4.2.1 h4.2.2.1
/-- A product of numbers other than 0 is not 0: over the fields in question. -/
theorem mul_ne {p x y : Int} (hp : fieldB p = true) (hx : x % p ≠ 0) (hy : y % p ≠ 0) : (x * y) % p ≠ 0 := by
  have hb := field_bd hp
  intro h
  have h1 := inv_one hp hx
  have h2 := lc2 (A := y) (B := 0) (-y) (inv p (x % p)) h1 h (by grind)
  simp at h2
  exact hy h2
theorem cross_scale {p k s t x y z v : Int} (hp : fieldB p = true) (hs : s % p ≠ 0) (ht : t % p ≠ 0) (hu : prod p k x y x y ≠ 0) (hv : prod p k z v z v ≠ 0) :
    crossV p k ((s * x) % p) ((s * y) % p) ((t * z) % p) ((t * v) % p) = crossV p k x y z v := by
  have hb := field_bd hp
  unfold crossV crossN
  rw [prod_scale, prod_scale, prod_scale]
  have bu := prod_bd (p := p) (k := k) (x := x) (y := y) (z := x) (v := y) (by omega)
  have bv := prod_bd (p := p) (k := k) (x := z) (y := v) (z := z) (v := v) (by omega)
  generalize prod p k x y z v = n
  generalize hU : prod p k x y x y = U at *
  generalize hV : prod p k z v z v = V at *
  have hU' : U % p ≠ 0 := by rw [Int.emod_eq_of_lt bu.1 bu.2]; exact hu
  have hV' : V % p ≠ 0 := by rw [Int.emod_eq_of_lt bv.1 bv.2]; exact hv
  have hD := mul_ne hp hU' hV'
  have hst := mul_ne hp hs ht
  have hz := mul_ne hp hst hst
  have hzD := mul_ne hp hz hD
  have e : ((s * s * U) % p * ((t * t * V) % p)) % p = (s * t * (s * t) * (U * V)) % p := by
    rw [mulL, mulR]
    congr 1
    grind
  rw [e]
  have h1 := inv_scale hp hz hD hzD
  have h2 : ((s * t * n) % p * ((s * t * n) % p) * inv p ((s * t * (s * t) * (U * V)) % p)) % p = (n * n * (s * t * (s * t) * inv p ((s * t * (s * t) * (U * V)) % p))) % p := by
    refine (cgM (cgM (Int.emod_emod _ _) (Int.emod_emod _ _)) rfl).trans ?_
    congr 1
    grind
  rw [h2, ← mulR, h1]
/-- The line through two points: its direction is a multiple of the difference. -/
def thF (p ax ay bx by_ : Int) : Int := first p ((by_ - ay) % p) (-((bx - ax) % p))
def thA (p ax ay bx by_ : Int) : Int := nrm p ((by_ - ay) % p) (-((bx - ax) % p)) ((by_ - ay) % p)
def thB (p ax ay bx by_ : Int) : Int := nrm p ((by_ - ay) % p) (-((bx - ax) % p)) (-((bx - ax) % p))
def thC (p ax ay bx by_ : Int) : Int := nrm p ((by_ - ay) % p) (-((bx - ax) % p)) (-((by_ - ay) % p * ax + -((bx - ax) % p) * ay))
end Go.Proofs.YtbjcbbnfgfmllaaGreatDoor.Pl
namespace Go.Proofs.YtbjcbbnfgfmllaaGreatDoor.Pl
theorem neg1 {p : Int} (hp : 3 ≤ p) : (-1 : Int) % p ≠ 0 := by
  rw [show (-1 : Int) = (p - 1) - p by omega, Int.sub_emod_right, Int.emod_eq_of_lt (by omega) (by omega)]
  omega
theorem nrm_cg {p a b x a' b' x' : Int} (ha : a % p = a' % p) (hb : b % p = b' % p) (hx : x % p = x' % p) : nrm p a b x = nrm p a' b' x' := by
  have h1 := nrm_rest p a b x
  have h2 := nrm_rest p a' b' x'
  rw [← h1, ← h2, ha, hb, hx]
theorem nrm_scale {p s a b x : Int} (hp : fieldB p = true) (hs : s % p ≠ 0) (hab : a % p ≠ 0 ∨ b % p ≠ 0) : nrm p (s * a) (s * b) (s * x) = nrm p a b x := by
  have key : ∀ f, f % p ≠ 0 → (s * x * inv p ((s * f) % p)) % p = (x * inv p (f % p)) % p := by
    intro f hf
    have h := inv_scale hp hs hf (mul_ne hp hs hf)
    rw [show s * x * inv p ((s * f) % p) = x * (s * inv p ((s * f) % p)) by grind, ← mulR, h]
  unfold nrm first
  by_cases ha : a % p = 0
  · have h0 : (s * a) % p = 0 := by rw [Int.mul_emod, ha]; simp
    rw [if_pos h0, if_pos ha]
    exact key b (hab.resolve_left fun h => h ha)
  · rw [if_neg (mul_ne hp hs ha), if_neg ha]
    exact key a ha
theorem ne_of {p a b : Int} (ha : 0 ≤ a) (ha2 : a < p) (hb : 0 ≤ b) (hb2 : b < p) (h : a ≠ b) : (b - a) % p ≠ 0 := by
  intro h0
  have h1 : b % p = a % p := Int.emod_eq_emod_iff_emod_sub_eq_zero.2 h0
  rw [Int.emod_eq_of_lt ha ha2, Int.emod_eq_of_lt hb hb2] at h1
  exact h h1.symm
theorem ne_pt {p ax ay bx by_ : Int} (h1 : 0 ≤ ax) (h2 : ax < p) (h3 : 0 ≤ ay) (h4 : ay < p) (h5 : 0 ≤ bx) (h6 : bx < p) (h7 : 0 ≤ by_) (h8 : by_ < p) (h : ¬ (ax = bx ∧ ay = by_)) : (by_ - ay) % p ≠ 0 ∨ (bx - ax) % p ≠ 0 := by
  by_cases hx : ax = bx
  · exact .inl (ne_of h3 h4 h7 h8 fun hy => h ⟨hx, hy⟩)
  · exact .inr (ne_of h1 h2 h5 h6 hx)
theorem neg_ne {p x : Int} (h : x % p ≠ 0) : (-x) % p ≠ 0 := by
  intro h0
  have h1 := negM p (-x)
  rw [h0, Int.neg_neg] at h1
  simp at h1
  exact h h1.symm
/-- The line through two points, as the reference makes it. -/
theorem th_spec {p ax ay bx by_ : Int} (hp : fieldB p = true) (h : (by_ - ay) % p ≠ 0 ∨ (bx - ax) % p ≠ 0) :
    nrm p (ay - by_) (bx - ax) (ay - by_) = thA p ax ay bx by_ ∧ nrm p (ay - by_) (bx - ax) (bx - ax) = thB p ax ay bx by_ ∧ nrm p (ay - by_) (bx - ax) (ax * by_ - bx * ay) = thC p ax ay bx by_ := by
  have hb := field_bd hp
  have h' : (ay - by_) % p ≠ 0 ∨ (bx - ax) % p ≠ 0 := by
    rcases h with h | h
    · left
      have := neg_ne h
      rwa [show -(by_ - ay) = ay - by_ by omega] at this
    · exact .inr h
  have e1 : (-1 * (ay - by_)) % p = ((by_ - ay) % p) % p := by rw [Int.emod_emod]; congr 1; omega
  have e2 : (-1 * (bx - ax)) % p = (-((bx - ax) % p)) % p := by rw [negM]; congr 1; omega
  have e3 : (-1 * (ax * by_ - bx * ay)) % p = (-((by_ - ay) % p * ax + -((bx - ax) % p) * ay)) % p := by
    have e4 : ((by_ - ay) % p * ax + -((bx - ax) % p) * ay) % p = ((by_ - ay) * ax + -(bx - ax) * ay) % p := cgA (cgM (Int.emod_emod _ _) rfl) (cgM (negM _ _) rfl)
    rw [cgN e4]
    congr 1
    grind
  refine ⟨?_, ?_, ?_⟩
  · rw [← nrm_scale hp (neg1 hb.1) h', nrm_cg e1 e2 e1]; rfl
  · rw [← nrm_scale hp (neg1 hb.1) h', nrm_cg e1 e2 e2]; rfl
  · rw [← nrm_scale hp (neg1 hb.1) h', nrm_cg e1 e2 e3]; rfl
def ltOf (p ax ay bx by_ : Int) : (Int × Int × Int) × Int := if ask p (ptsB p [(ax, ay), (bx, by_)]) = 0 then (if ax = bx ∧ ay = by_ then ((0, 0, 0), 5) else ((thA p ax ay bx by_, thB p ax ay bx by_, thC p ax ay bx by_), 0)) else ((0, 0, 0), ask p (ptsB p [(ax, ay), (bx, by_)]))
theorem th_bd {p ax ay bx by_ : Int} (hp : 1 ≤ p) : (0 ≤ thA p ax ay bx by_ ∧ thA p ax ay bx by_ < p) ∧ (0 ≤ thB p ax ay bx by_ ∧ thB p ax ay bx by_ < p) ∧ 0 ≤ thC p ax ay bx by_ ∧ thC p ax ay bx by_ < p := ⟨nrm_bd hp, nrm_bd hp, nrm_bd hp⟩
/-- The meet of two lines. -/
def meetX (p la lb lc ma mb mc : Int) : Int := ((lb * mc - lc * mb) * inv p ((la * mb - lb * ma) % p)) % p
def meetY (p la lb lc ma mb mc : Int) : Int := ((lc * ma - la * mc) * inv p ((la * mb - lb * ma) % p)) % p
def meetOf (p la lb lc ma mb mc : Int) : (Int × Int) × Int := if ask p (linesB p [(la, lb, lc), (ma, mb, mc)]) = 0 then (if parB p la lb ma mb = true then ((0, 0), 5) else ((meetX p la lb lc ma mb mc, meetY p la lb lc ma mb mc), 0)) else ((0, 0), ask p (linesB p [(la, lb, lc), (ma, mb, mc)]))
theorem meetX_i (p la lb lc ma mb mc : Int) : ((lb * mc - lc * mb) % p * inv p ((la * mb - lb * ma) % p)) % p = meetX p la lb lc ma mb mc := by unfold meetX; rw [mulL]
theorem meetY_i (p la lb lc ma mb mc : Int) : ((lc * ma - la * mc) % p * inv p ((la * mb - lb * ma) % p)) % p = meetY p la lb lc ma mb mc := by unfold meetY; rw [mulL]
theorem meetX_s (p la lb lc ma mb mc : Int) (hp : 1 ≤ p) : ((lb * mc - mb * lc).tmod p * inv p ((la * mb - lb * ma) % p)) % p = meetX p la lb lc ma mb mc := by rw [tmodL _ _ _ hp, Int.mul_comm mb lc]; rfl
theorem meetY_s (p la lb lc ma mb mc : Int) (hp : 1 ≤ p) : ((ma * lc - la * mc).tmod p * inv p ((la * mb - lb * ma) % p)) % p = meetY p la lb lc ma mb mc := by rw [tmodL _ _ _ hp, Int.mul_comm ma lc]; rfl
theorem meet_bd {p la lb lc ma mb mc : Int} (hp : 1 ≤ p) : (0 ≤ meetX p la lb lc ma mb mc ∧ meetX p la lb lc ma mb mc < p) ∧ 0 ≤ meetY p la lb lc ma mb mc ∧ meetY p la lb lc ma mb mc < p := ⟨⟨Int.emod_nonneg _ (by omega), Int.emod_lt_of_pos _ (by omega)⟩, Int.emod_nonneg _ (by omega), Int.emod_lt_of_pos _ (by omega)⟩
/-- The line through two points has their difference, or a multiple of it, for its direction. -/
theorem th_dir {p ax ay bx by_ : Int} (hp : fieldB p = true) (h : (by_ - ay) % p ≠ 0 ∨ (bx - ax) % p ≠ 0) :
    ∃ s, s % p ≠ 0 ∧ (-(thB p ax ay bx by_)) % p = (s * ((bx - ax) % p)) % p ∧ thA p ax ay bx by_ = (s * ((by_ - ay) % p)) % p := by
  have hb := field_bd hp
  refine ⟨inv p (first p ((by_ - ay) % p) (-((bx - ax) % p))), ?_, ?_, ?_⟩
  · have hf : first p ((by_ - ay) % p) (-((bx - ax) % p)) ≠ 0 := by
      unfold first
      rw [Int.emod_emod, negM]
      by_cases h0 : (by_ - ay) % p = 0
      · rw [if_pos h0]
        exact neg_ne (h.resolve_left fun k => k h0)
      · rw [if_neg h0]
        exact h0
    have hbd := first_bd (p := p) (a := (by_ - ay) % p) (b := -((bx - ax) % p)) (by omega)
    have hi := (inv_facts hp hbd.1 hbd.2).1 hf
    intro h0
    rw [Int.mul_emod, h0] at hi
    simp at hi
  · unfold thB nrm
    rw [negM]
    congr 1
    grind
  · unfold thA nrm
    congr 1
    grind
theorem null_th {p k ax ay bx by_ : Int} (hp : fieldB p = true) (h : (by_ - ay) % p ≠ 0 ∨ (bx - ax) % p ≠ 0) :
    nullB p k (thA p ax ay bx by_) (thB p ax ay bx by_) = (quad p k ax ay bx by_ == 0) := by
  have hb := field_bd hp
  obtain ⟨s, hs, h1, h2⟩ := th_dir hp h
  unfold nullB perpB
  rw [h1, h2, prod_scale, ← quad_sym]
  have hq := quad_bd (p := p) (k := k) (ax := bx) (ay := by_) (bx := ax) (by_ := ay) (by omega)
  unfold quad at hq ⊢
  generalize prod p k ((bx - ax) % p) ((by_ - ay) % p) ((bx - ax) % p) ((by_ - ay) % p) = U at *
  rw [Bool.eq_iff_iff]
  simp only [beq_iff_eq]
  constructor
  · intro h0
    refine Decidable.byContradiction fun hU => ?_
    have hU' : U % p ≠ 0 := by rw [Int.emod_eq_of_lt hq.1 hq.2]; exact hU
    exact mul_ne hp (mul_ne hp hs hs) hU' h0
  · rintro rfl
    simp
/-- The spread at a of b and c. -/
def spreadP (p k ax ay bx by_ cx cy : Int) : Int := spreadV p k ((bx - ax) % p) ((by_ - ay) % p) ((cx - ax) % p) ((cy - ay) % p)
theorem spread_th {p k ax ay bx by_ cx cy : Int} (hp : fieldB p = true) (h : (by_ - ay) % p ≠ 0 ∨ (bx - ax) % p ≠ 0) (h' : (cy - ay) % p ≠ 0 ∨ (cx - ax) % p ≠ 0)
    (hq : quad p k ax ay bx by_ ≠ 0) (hq' : quad p k ax ay cx cy ≠ 0) :
    spread p k (thA p ax ay bx by_) (thB p ax ay bx by_) (thA p ax ay cx cy) (thB p ax ay cx cy) = spreadP p k ax ay bx by_ cx cy := by
  obtain ⟨s, hs, h1, h2⟩ := th_dir hp h
  obtain ⟨t, ht, h3, h4⟩ := th_dir hp h'
  rw [← quad_sym] at hq hq'
  unfold quad at hq hq'
  unfold spread cross spreadP spreadV
  rw [h1, h2, h3, h4, cross_scale hp hs ht hq hq']
theorem quad_same {p k ax ay : Int} (hp : 1 ≤ p) : quad p k ax ay ax ay = 0 := by
  unfold quad prod
  simp
def crossOf (p k la lb lc ma mb mc : Int) : Int × Int := if ask p (colB k && linesB p [(la, lb, lc), (ma, mb, mc)]) = 0 then (if nullB p k la lb = true ∨ nullB p k ma mb = true then (0, 5) else (cross p k la lb ma mb, 0)) else (0, ask p (colB k && linesB p [(la, lb, lc), (ma, mb, mc)]))
def spreadOf (p k la lb lc ma mb mc : Int) : Int × Int := if ask p (colB k && linesB p [(la, lb, lc), (ma, mb, mc)]) = 0 then (if nullB p k la lb = true ∨ nullB p k ma mb = true then (0, 5) else (spread p k la lb ma mb, 0)) else (0, ask p (colB k && linesB p [(la, lb, lc), (ma, mb, mc)]))
def twistN (p c : Int) : Int := ((1 - c) * inv p c) % p
def twistOf (p k la lb lc ma mb mc : Int) : Int × Int := if ask p (colB k && linesB p [(la, lb, lc), (ma, mb, mc)]) = 0 then (if nullB p k la lb = true ∨ nullB p k ma mb = true then (0, 5) else if cross p k la lb ma mb = 0 then (0, 5) else (twistN p (cross p k la lb ma mb), 0)) else (0, ask p (colB k && linesB p [(la, lb, lc), (ma, mb, mc)]))
theorem twist_i (p c : Int) : ((1 - c) % p * inv p c) % p = twistN p c := by unfold twistN; rw [mulL]
def satOf (p k ax ay bx by_ cx cy : Int) : Int × Int := if ask p (colB k && ptsB p [(ax, ay), (bx, by_), (cx, cy)]) = 0 then (if quad p k ax ay bx by_ = 0 ∨ quad p k ax ay cx cy = 0 then (0, 5) else (spreadP p k ax ay bx by_ cx cy, 0)) else (0, ask p (colB k && ptsB p [(ax, ay), (bx, by_), (cx, cy)]))
/-- The code of two lines that are not null. -/
def twoL (p k la lb lc ma mb mc : Int) : Int := if ask p (colB k && linesB p [(la, lb, lc), (ma, mb, mc)]) = 0 then (if nullB p k la lb = true ∨ nullB p k ma mb = true then 5 else 0) else ask p (colB k && linesB p [(la, lb, lc), (ma, mb, mc)])
/-- The code of a triangle whose quadrances are not 0. -/
def triC (p k ax ay bx by_ cx cy : Int) : Int := if ask p (colB k && ptsB p [(ax, ay), (bx, by_), (cx, cy)]) = 0 then (if area p ax ay bx by_ cx cy = 0 ∨ quad p k ax ay bx by_ = 0 ∨ quad p k ax ay cx cy = 0 ∨ quad p k bx by_ cx cy = 0 then 5 else 0) else ask p (colB k && ptsB p [(ax, ay), (bx, by_), (cx, cy)])
def ratioN (p s q : Int) : Int := (s * inv p q) % p
def sratOf (p k ax ay bx by_ cx cy : Int) : Int × Int := if triC p k ax ay bx by_ cx cy = 0 then (ratioN p (spreadP p k ax ay bx by_ cx cy) (quad p k bx by_ cx cy), 0) else (0, triC p k ax ay bx by_ cx cy)
/-- Lists: numbers for which something holds. -/
def upTo (k : Nat) : List Int := (List.range k).map fun j : Nat => (j : Int)
def numsW (P : Int → Bool) (k : Nat) : List Int := (upTo k).filter P
theorem upTo_succ (k : Nat) : upTo (k + 1) = upTo k ++ [(k : Int)] := by simp [upTo, List.range_succ]
theorem numsW_hit {P : Int → Bool} {k : Nat} (h : P k = true) : numsW P (k + 1) = numsW P k ++ [(k : Int)] := by simp [numsW, upTo_succ, List.filter_append, h]
theorem numsW_miss {P : Int → Bool} {k : Nat} (h : P k = false) : numsW P (k + 1) = numsW P k := by simp [numsW, upTo_succ, List.filter_append, h]
theorem numsW_len (P : Int → Bool) (k : Nat) : (numsW P k).length ≤ k := by
  have := List.length_filter_le P (upTo k)
  simpa [numsW, upTo] using this
def flat2 (l : List (Int × Int)) : List Int := l.flatMap fun x => [x.1, x.2]
def flat3 (l : List (Int × Int × Int)) : List Int := l.flatMap fun x => [x.1, x.2.1, x.2.2]
theorem flat2_app (l : List (Int × Int)) (x : Int × Int) : flat2 (l ++ [x]) = flat2 l ++ [x.1, x.2] := by simp [flat2]
theorem flat3_app (l : List (Int × Int × Int)) (x : Int × Int × Int) : flat3 (l ++ [x]) = flat3 l ++ [x.1, x.2.1, x.2.2] := by simp [flat3]
theorem flat2_len : ∀ l : List (Int × Int), (flat2 l).length = l.length * 2
  | [] => rfl
  | x :: l => by
    have := flat2_len l
    simp only [flat2, List.flatMap_cons, List.length_append, List.length_cons, List.length_nil] at this ⊢
    omega
theorem flat3_len : ∀ l : List (Int × Int × Int), (flat3 l).length = l.length * 3
  | [] => rfl
  | x :: l => by
    have := flat3_len l
    simp only [flat3, List.flatMap_cons, List.length_append, List.length_cons, List.length_nil] at this ⊢
    omega
theorem flat2_get : ∀ (l : List (Int × Int)) (j : Nat), j < l.length → (flat2 l).getD (j * 2) 0 = (l.getD j (0, 0)).1 ∧ (flat2 l).getD (j * 2 + 1) 0 = (l.getD j (0, 0)).2
  | [], j, h => by simp at h
  | x :: l, 0, h => by simp [flat2]
  | x :: l, j + 1, h => by
    have ih := flat2_get l j (by simpa using h)
    rw [show (j + 1) * 2 = j * 2 + 2 by omega, show flat2 (x :: l) = x.1 :: x.2 :: flat2 l by simp [flat2]]
    simpa using ih
theorem flat3_get : ∀ (l : List (Int × Int × Int)) (j : Nat), j < l.length → (flat3 l).getD (j * 3) 0 = (l.getD j (0, 0, 0)).1 ∧ (flat3 l).getD (j * 3 + 1) 0 = (l.getD j (0, 0, 0)).2.1 ∧ (flat3 l).getD (j * 3 + 2) 0 = (l.getD j (0, 0, 0)).2.2
  | [], j, h => by simp at h
  | x :: l, 0, h => by simp [flat3]
  | x :: l, j + 1, h => by
    have ih := flat3_get l j (by simpa using h)
    rw [show (j + 1) * 3 = j * 3 + 3 by omega, show flat3 (x :: l) = x.1 :: x.2.1 :: x.2.2 :: flat3 l by simp [flat3]]
    simpa using ih
theorem take_hit {α : Type} {P : α → Bool} {l : List α} {k : Nat} {d : α} (hk : k < l.length) (h : P (l.getD k d) = true) : (l.take (k + 1)).filter P = (l.take k).filter P ++ [l.getD k d] := by
  have e : l.getD k d = l[k] := by simp [hk]
  rw [List.take_succ_eq_append_getElem hk, List.filter_append, e]
  rw [e] at h
  simp [h]
theorem take_miss {α : Type} {P : α → Bool} {l : List α} {k : Nat} {d : α} (hk : k < l.length) (h : P (l.getD k d) = false) : (l.take (k + 1)).filter P = (l.take k).filter P := by
  have e : l.getD k d = l[k] := by simp [hk]
  rw [List.take_succ_eq_append_getElem hk, List.filter_append]
  rw [e] at h
  simp [h]
theorem take_len {α : Type} (P : α → Bool) (l : List α) (k : Nat) : ((l.take k).filter P).length ≤ k := by
  have := List.length_filter_le P (l.take k)
  have h2 := List.length_take_le k l
  omega
theorem filter_app {α : Type} (P : α → Bool) (l : List α) (x : α) : (l ++ [x]).filter P = if P x = true then l.filter P ++ [x] else l.filter P := by
  rw [List.filter_append]
  by_cases h : P x = true <;> simp [h]
/-- All points, in order. -/
def rowTo (i y : Nat) : List (Int × Int) := (List.range y).map fun j : Nat => ((i : Int), (j : Int))
def ptsTo (p x : Nat) : List (Int × Int) := (List.range x).flatMap fun i => rowTo i p
theorem rowTo_succ (i y : Nat) : rowTo i (y + 1) = rowTo i y ++ [((i : Int), (y : Int))] := by simp [rowTo, List.range_succ]
theorem ptsTo_succ (p x : Nat) : ptsTo p (x + 1) = ptsTo p x ++ rowTo x p := by simp [ptsTo, List.range_succ]
theorem rowTo_len (i y : Nat) : (rowTo i y).length = y := by simp [rowTo]
theorem ptsTo_len (p : Nat) : ∀ x, (ptsTo p x).length = x * p
  | 0 => by simp [ptsTo]
  | x + 1 => by rw [ptsTo_succ, List.length_append, ptsTo_len p x, rowTo_len, Nat.succ_mul]
/-- The points before x, y, in order. -/
def before (p x y : Nat) : List (Int × Int) := ptsTo p x ++ rowTo x y
theorem before_0 (p : Nat) : before p 0 0 = [] := by simp [before, ptsTo, rowTo]
theorem before_y (p x y : Nat) : before p x (y + 1) = before p x y ++ [((x : Int), (y : Int))] := by rw [before, rowTo_succ, ← List.append_assoc]; rfl
theorem before_x (p x : Nat) : before p (x + 1) 0 = before p x p := by simp [before, ptsTo_succ, rowTo]
theorem before_end (p : Nat) : before p p 0 = ptsTo p p := by simp [before, rowTo]
theorem before_len {p x y : Nat} (hp : p ≤ 31) (hx : x ≤ p) (hy : y ≤ p) : (before p x y).length ≤ 1000 := by
  rw [before, List.length_append, ptsTo_len, rowTo_len]
  have := Nat.mul_le_mul (show x ≤ 31 by omega) hp
  omega
theorem mem_before {p : Nat} {a b : Int} (h : (a, b) ∈ ptsTo p p) : 0 ≤ a ∧ a < p ∧ 0 ≤ b ∧ b < p := by
  simp only [ptsTo, rowTo, List.mem_flatMap, List.mem_map, List.mem_range, Prod.mk.injEq] at h
  obtain ⟨i, hi, j, hj, rfl, rfl⟩ := h
  omega
/-- The lines through a point, in order: the first k + 1 of them. -/
def ltTo (p ax ay : Int) (k : Nat) : List (Int × Int × Int) := (0, 1, (-ay) % p) :: (List.range k).map fun b : Nat => (1, (b : Int), (-ax - (b : Int) * ay) % p)
theorem ltTo_succ (p ax ay : Int) (k : Nat) : ltTo p ax ay (k + 1) = ltTo p ax ay k ++ [(1, (k : Int), (-ax - (k : Int) * ay) % p)] := by simp [ltTo, List.range_succ]
theorem ltTo_len (p ax ay : Int) (k : Nat) : (ltTo p ax ay k).length = k + 1 := by simp [ltTo]
def ltAll (p ax ay : Int) : List (Int × Int × Int) := ltTo p ax ay p.toNat
theorem ltAll_len (p ax ay : Int) : (ltAll p ax ay).length = p.toNat + 1 := ltTo_len _ _ _ _
theorem mem_ltAll {p ax ay a b c : Int} (hp : 1 < p) (h : (a, b, c) ∈ ltAll p ax ay) : (a = 1 ∨ a = 0 ∧ b = 1) ∧ 0 ≤ b ∧ b < p ∧ 0 ≤ c ∧ c < p := by
  simp only [ltAll, ltTo, List.mem_cons, List.mem_map, List.mem_range, Prod.mk.injEq] at h
  rcases h with ⟨rfl, rfl, rfl⟩ | ⟨i, hi, rfl, rfl, rfl⟩
  · exact ⟨.inr ⟨rfl, rfl⟩, by omega, by omega, Int.emod_nonneg _ (by omega), Int.emod_lt_of_pos _ (by omega)⟩
  · exact ⟨.inl rfl, by omega, by omega, Int.emod_nonneg _ (by omega), Int.emod_lt_of_pos _ (by omega)⟩
theorem getD_mem {α : Type} {l : List α} {k : Nat} (d : α) (h : k < l.length) : l.getD k d ∈ l := by
  have e : l.getD k d = l[k] := by simp [h]
  rw [e]
  exact List.getElem_mem h
end Go.Proofs.YtbjcbbnfgfmllaaGreatDoor.Pl
namespace Go.Proofs.YtbjcbbnfgfmllaaGreatDoor.Pl
theorem twoL_ok {p k la lb lc ma mb mc : Int} (h : twoL p k la lb lc ma mb mc = 0) : ask p (colB k && linesB p [(la, lb, lc), (ma, mb, mc)]) = 0 ∧ nullB p k la lb = false ∧ nullB p k ma mb = false := by
  unfold twoL at h
  by_cases h0 : ask p (colB k && linesB p [(la, lb, lc), (ma, mb, mc)]) = 0
  · rw [if_pos h0] at h
    by_cases h1 : nullB p k la lb = true ∨ nullB p k ma mb = true
    · rw [if_pos h1] at h; omega
    · exact ⟨h0, by simpa using fun e => h1 (.inl e), by simpa using fun e => h1 (.inr e)⟩
  · rw [if_neg h0] at h
    exact absurd h h0
def crossTo (p k la lb lc ma mb mc : Int) : Int × Int := if twoL p k la lb lc ma mb mc = 0 then (cross p k la lb ma mb, 0) else (0, twoL p k la lb lc ma mb mc)
def spreadTo (p k la lb lc ma mb mc : Int) : Int × Int := if twoL p k la lb lc ma mb mc = 0 then (spread p k la lb ma mb, 0) else (0, twoL p k la lb lc ma mb mc)
def twistTo (p k la lb lc ma mb mc : Int) : Int × Int := if twoL p k la lb lc ma mb mc = 0 then (if cross p k la lb ma mb = 0 then (0, 5) else (twistN p (cross p k la lb ma mb), 0)) else (0, twoL p k la lb lc ma mb mc)
theorem triC_ok {p k ax ay bx by_ cx cy : Int} (h : triC p k ax ay bx by_ cx cy = 0) : ask p (colB k && ptsB p [(ax, ay), (bx, by_), (cx, cy)]) = 0 ∧ area p ax ay bx by_ cx cy ≠ 0 ∧ quad p k ax ay bx by_ ≠ 0 ∧ quad p k ax ay cx cy ≠ 0 ∧ quad p k bx by_ cx cy ≠ 0 := by
  unfold triC at h
  by_cases h0 : ask p (colB k && ptsB p [(ax, ay), (bx, by_), (cx, cy)]) = 0
  · rw [if_pos h0] at h
    by_cases h1 : area p ax ay bx by_ cx cy = 0 ∨ quad p k ax ay bx by_ = 0 ∨ quad p k ax ay cx cy = 0 ∨ quad p k bx by_ cx cy = 0
    · rw [if_pos h1] at h; omega
    · exact ⟨h0, fun e => h1 (.inl e), fun e => h1 (.inr (.inl e)), fun e => h1 (.inr (.inr (.inl e))), fun e => h1 (.inr (.inr (.inr e)))⟩
  · rw [if_neg h0] at h
    exact absurd h h0
theorem quad_diff {p k ax ay bx by_ : Int} (hp : 1 ≤ p) (h : quad p k ax ay bx by_ ≠ 0) : ¬ (ax = bx ∧ ay = by_) := by
  rintro ⟨rfl, rfl⟩
  exact h (quad_same hp)
theorem spreadP_bd {p k ax ay bx by_ cx cy : Int} (hp : 1 ≤ p) : 0 ≤ spreadP p k ax ay bx by_ cx cy ∧ spreadP p k ax ay bx by_ cx cy < p := ⟨Int.emod_nonneg _ (by omega), Int.emod_lt_of_pos _ (by omega)⟩
/-- The spread as the program reckons it, at three points: value and whether there is one. -/
def satB (p k ax ay bx by_ cx cy : Int) : Bool := !(decide (quad p k ax ay bx by_ = 0) || decide (quad p k ax ay cx cy = 0))
def satV (p k ax ay bx by_ cx cy : Int) : Int := if satB p k ax ay bx by_ cx cy = true then spreadP p k ax ay bx by_ cx cy else 0
theorem sat_t {p k ax ay bx by_ cx cy : Int} (h : quad p k ax ay bx by_ ≠ 0) (h' : quad p k ax ay cx cy ≠ 0) : satB p k ax ay bx by_ cx cy = true ∧ satV p k ax ay bx by_ cx cy = spreadP p k ax ay bx by_ cx cy := by
  have : satB p k ax ay bx by_ cx cy = true := by simp [satB, h, h']
  exact ⟨this, by rw [satV, if_pos this]⟩
theorem sat_f {p k ax ay bx by_ cx cy : Int} (h : quad p k ax ay bx by_ = 0 ∨ quad p k ax ay cx cy = 0) : satB p k ax ay bx by_ cx cy = false ∧ satV p k ax ay bx by_ cx cy = 0 := by
  have : satB p k ax ay bx by_ cx cy = false := by rcases h with h | h <;> simp [satB, h]
  exact ⟨this, by rw [satV, this]; rfl⟩
theorem spreadP_s (p k x y z v : Int) : (1 - (prod p k x y z v * prod p k x y z v) % p * inv p ((prod p k x y x y * prod p k z v z v) % p)) % p = spreadV p k x y z v := by
  unfold spreadV crossV crossN
  rw [subR]
  refine cgS rfl ?_
  rw [mulL]
end Go.Proofs.YtbjcbbnfgfmllaaGreatDoor.Pl
namespace Go.Proofs.YtbjcbbnfgfmllaaGreatDoor.Pl
def bf (P : Int × Int → Bool) (p x y : Nat) : List (Int × Int) := (before p x y).filter P
theorem bf_0 (P : Int × Int → Bool) (p : Nat) : bf P p 0 0 = [] := by simp [bf, before_0]
theorem bf_hit {P : Int × Int → Bool} {p x y : Nat} (h : P ((x : Int), (y : Int)) = true) : bf P p x (y + 1) = bf P p x y ++ [((x : Int), (y : Int))] := by
  rw [bf, before_y, filter_app, if_pos h]; rfl
theorem bf_miss {P : Int × Int → Bool} {p x y : Nat} (h : P ((x : Int), (y : Int)) = false) : bf P p x (y + 1) = bf P p x y := by
  rw [bf, before_y, filter_app, h, if_neg (by decide)]; rfl
theorem bf_x (P : Int × Int → Bool) (p x : Nat) : bf P p (x + 1) 0 = bf P p x p := by rw [bf, before_x]; rfl
theorem bf_len {P : Int × Int → Bool} {p x y : Nat} (hp : p ≤ 31) (hx : x ≤ p) (hy : y ≤ p) : (bf P p x y).length ≤ 1000 :=
  Nat.le_trans (List.length_filter_le _ _) (before_len hp hx hy)
/-- The points for which something holds. -/
def ptsW (P : Int × Int → Bool) (p : Int) : List (Int × Int) := (ptsTo p.toNat p.toNat).filter P
theorem bf_end (P : Int × Int → Bool) (n : Nat) : bf P n n 0 = ptsW P n := by rw [bf, before_end, ptsW, Int.toNat_natCast]
theorem bf_fin {P : Int × Int → Bool} {n : Nat} {p : Int} (h1 : p ≤ n) (h2 : (n : Int) ≤ p) : bf P n n 0 = ptsW P p := by
  rw [bf_end, show (n : Int) = p by omega]
theorem ptsW_len {P : Int × Int → Bool} {p : Int} (hp : 0 ≤ p) (hp2 : p ≤ 31) : (ptsW P p).length ≤ 1000 := by
  obtain ⟨n, rfl⟩ := Int.eq_ofNat_of_zero_le hp
  rw [← bf_end]
  exact bf_len (by omega) (Nat.le_refl _) (by omega)
def ptsAll (p : Int) : List (Int × Int) := ptsTo p.toNat p.toNat
theorem ptsAll_eq (p : Int) : ptsW (fun _ => true) p = ptsAll p := by simp [ptsW, ptsAll]
theorem ptsAll_len {p : Int} (hp : 0 ≤ p) (hp2 : p ≤ 31) : (ptsAll p).length ≤ 1000 := by rw [← ptsAll_eq]; exact ptsW_len hp hp2
theorem mem_ptsAll {p a b : Int} (hp : 0 ≤ p) (h : (a, b) ∈ ptsAll p) : 0 ≤ a ∧ a < p ∧ 0 ≤ b ∧ b < p := by
  have := mem_before h
  omega
theorem ptsW_filter (P : Int × Int → Bool) (p : Int) : (ptsAll p).filter P = ptsW P p := rfl
/-- The lines through a point for which something holds. -/
def lnsW (P : Int × Int × Int → Bool) (p ax ay : Int) : List (Int × Int × Int) := (ltAll p ax ay).filter P
theorem lnsW_len {P : Int × Int × Int → Bool} {p ax ay : Int} (hp : 0 ≤ p) (hp2 : p ≤ 31) : (lnsW P p ax ay).length ≤ 1000 := by
  have := List.length_filter_le P (ltAll p ax ay)
  rw [ltAll_len] at this
  unfold lnsW
  omega
theorem ltAll_ok (p ax ay : Int) : (ltAll p ax ay).length = p.toNat + 1 := ltAll_len p ax ay
theorem take_all {α : Type} {P : α → Bool} {l : List α} {k : Nat} (h : l.length ≤ k) : (l.take k).filter P = l.filter P := by rw [List.take_of_length_le h]
theorem flat2_one (x : Int × Int) : [x.1, x.2] = flat2 [x] := by simp [flat2]
theorem app2 (l : List (Int × Int)) (a b : Int) : flat2 l ++ [a, b] = flat2 (l ++ [(a, b)]) := by simp [flat2]
theorem app3 (l : List (Int × Int × Int)) (a b c : Int) : flat3 l ++ [a, b, c] = flat3 (l ++ [(a, b, c)]) := by simp [flat3]
theorem par0 (p ax ay : Int) : (-(0 * ax + 1 * ay)) % p = (-ay) % p := by simp
theorem par1 (p ax ay b : Int) : (-(1 * ax + b * ay)) % p = (-ax - b * ay) % p := by congr 1; grind
def cntAt (p k q : Int) : Int := ((ptsW (fun b => quad p k 0 0 b.1 b.2 == q) p).length : Int)
def cntOf (p k q : Int) : Int × Int := if ask p (colB k && numB p q) = 0 then (cntAt p k q, 0) else (0, ask p (colB k && numB p q))
end Go.Proofs.YtbjcbbnfgfmllaaGreatDoor.Pl
namespace Go.Proofs.YtbjcbbnfgfmllaaGreatDoor.Pl
theorem lt_get0 (p ax ay : Int) : (ltAll p ax ay).getD 0 (0, 0, 0) = (0, 1, (-ay) % p) := rfl
theorem lt_getS (p ax ay : Int) {j : Nat} (h : (j : Int) < p) : (ltAll p ax ay).getD (j + 1) (0, 0, 0) = (1, (j : Int), (-ax - (j : Int) * ay) % p) := by
  have hj : j < p.toNat := by omega
  simp [ltAll, ltTo, hj]
theorem nrm01 {p x : Int} (hp : fieldB p = true) : nrm p 0 1 x = x % p := nrm_line hp (.inr ⟨rfl, rfl⟩)
theorem nrm1b {p b x : Int} (hp : fieldB p = true) : nrm p 1 b x = x % p := nrm_line hp (.inl rfl)
theorem one_mod {p : Int} (hp : 2 ≤ p) : (1 : Int) % p = 1 := Int.emod_eq_of_lt (by omega) (by omega)
theorem negadd (p ax ay b : Int) : (-(ax + b * ay)) % p = (-ax - b * ay) % p := by congr 1; omega
def perpMc (p k la lb ax ay : Int) : Int := (-(perpMa p k la lb * ax + perpMb p k la lb * ay)) % p
theorem perp_one {p k la lb a b : Int} (hp : fieldB p = true) (hk : colB k = true) (hl : la = 1 ∨ la = 0 ∧ lb = 1) (h0 : 0 ≤ lb) (h1 : lb < p) (hm : a = 1 ∨ a = 0 ∧ b = 1) (h2 : 0 ≤ b) (h3 : b < p) (h : perpB p k la lb a b = true) : a = perpMa p k la lb ∧ b = perpMb p k la lb := by
  have h' := primesB_spec (f := fun p => colsB fun k => dirsB p fun la lb => dirsB p fun a b => !perpB p k la lb a b || (a == perpMa p k la lb && b == perpMb p k la lb)) (by decide +kernel) hp
  have h' := dirsB_spec (dirsB_spec (colsB_spec h' hk) hl h0 h1) hm h2 h3
  rw [h] at h'
  simpa using h'
theorem perp_hit {p k la lb ax ay a b c : Int} (hp : fieldB p = true) (hk : colB k = true) (hl : la = 1 ∨ la = 0 ∧ lb = 1) (h0 : 0 ≤ lb) (h1 : lb < p) (hm : (a, b, c) ∈ ltAll p ax ay) (h : perpB p k la lb a b = true) : a = perpMa p k la lb ∧ b = perpMb p k la lb ∧ c = perpMc p k la lb ax ay := by
  have hb := field_bd hp
  obtain ⟨hd, h2, h3, h4, h5⟩ := mem_ltAll (by omega) hm
  obtain ⟨e1, e2⟩ := perp_one hp hk hl h0 h1 hd h2 h3 h
  refine ⟨e1, e2, ?_⟩
  unfold perpMc
  rw [← e1, ← e2]
  simp only [ltAll, ltTo, List.mem_cons, List.mem_map, List.mem_range, Prod.mk.injEq] at hm
  rcases hm with ⟨rfl, rfl, rfl⟩ | ⟨i, hi, rfl, rfl, rfl⟩
  · exact (par0 p ax ay).symm
  · exact (par1 p ax ay i).symm
theorem perp_mem {p k la lb ax ay : Int} (hp : fieldB p = true) (hk : colB k = true) (hl : la = 1 ∨ la = 0 ∧ lb = 1) (h0 : 0 ≤ lb) (h1 : lb < p) : ∃ m ∈ ltAll p ax ay, perpB p k la lb m.1 m.2.1 = true := by
  have hb := field_bd hp
  obtain ⟨_, _, h2, h3, h4⟩ := perp_fin hp hk hl h0 h1
  by_cases hz : perpB p k la lb 0 1 = true
  · exact ⟨(0, 1, (-ay) % p), by simp [ltAll, ltTo], hz⟩
  · have ha : perpMa p k la lb = 1 := by unfold perpMa; rw [if_neg hz]
    refine ⟨(1, perpMb p k la lb, (-ax - perpMb p k la lb * ay) % p), ?_, by rw [ha] at h4; exact h4⟩
    simp only [ltAll, ltTo, List.mem_cons, List.mem_map, List.mem_range, Prod.mk.injEq]
    exact .inr ⟨(perpMb p k la lb).toNat, by omega, trivial, by omega, by rw [Int.toNat_of_nonneg h2]⟩
theorem perp_none {p k la lb ax ay : Int} (hp : fieldB p = true) (hk : colB k = true) (hl : la = 1 ∨ la = 0 ∧ lb = 1) (h0 : 0 ≤ lb) (h1 : lb < p) (h : (ltAll p ax ay).all (fun m => !perpB p k la lb m.1 m.2.1) = true) : False := by
  obtain ⟨m, hm, h2⟩ := perp_mem (ax := ax) (ay := ay) hp hk hl h0 h1
  have := List.all_eq_true.1 h m hm
  rw [h2] at this
  cases this
theorem perp_bd {p k la lb : Int} (hp : fieldB p = true) (hk : colB k = true) (hl : la = 1 ∨ la = 0 ∧ lb = 1) (h0 : 0 ≤ lb) (h1 : lb < p) : (perpMa p k la lb = 1 ∨ perpMa p k la lb = 0 ∧ perpMb p k la lb = 1) ∧ 0 ≤ perpMb p k la lb ∧ perpMb p k la lb < p := by
  obtain ⟨_, _, h2, h3, h4⟩ := perp_fin hp hk hl h0 h1
  refine ⟨?_, h2, h3⟩
  unfold perpMa perpMb
  by_cases hz : perpB p k la lb 0 1 = true
  · rw [if_pos hz, if_pos hz]; exact .inr ⟨rfl, rfl⟩
  · rw [if_neg hz]; exact .inl rfl
/-- The reference's line. -/
theorem perp_third {p k la lb ax ay x : Int} (hp : fieldB p = true) (hk : colB k = true) (hl : la = 1 ∨ la = 0 ∧ lb = 1) (h0 : 0 ≤ lb) (h1 : lb < p) (hx : x = -(perpU p k la lb * ax + perpV p k la lb * ay)) :
    nrm p (perpU p k la lb) (perpV p k la lb) (x % p) = perpMc p k la lb ax ay := by
  obtain ⟨e1, e2, _⟩ := perp_fin hp hk hl h0 h1
  subst hx
  unfold perpMc
  rw [← e1, ← e2]
  unfold nrm
  generalize inv p (first p (perpU p k la lb) (perpV p k la lb)) = i
  generalize perpU p k la lb = u
  generalize perpV p k la lb = v
  have h3 : (-(u * i % p * ax + v * i % p * ay)) % p = (-(u * i * ax + v * i * ay)) % p := cgN (cgA (cgM (Int.emod_emod _ _) rfl) (cgM (Int.emod_emod _ _) rfl))
  rw [h3, mulL]
  congr 1
  grind
def perpTOf (p k la lb lc ax ay : Int) : (Int × Int × Int) × Int := if ask p (colB k && lineB p la lb lc && ptB p ax ay) = 0 then ((perpMa p k la lb, perpMb p k la lb, perpMc p k la lb ax ay), 0) else ((0, 0, 0), ask p (colB k && lineB p la lb lc && ptB p ax ay))
end Go.Proofs.YtbjcbbnfgfmllaaGreatDoor.Pl
namespace Go.Proofs.YtbjcbbnfgfmllaaGreatDoor.Pl
theorem perp_par {p k la lb : Int} (hp : fieldB p = true) (hk : colB k = true) (hl : la = 1 ∨ la = 0 ∧ lb = 1) (h0 : 0 ≤ lb) (h1 : lb < p) (hn : nullB p k la lb = false) : parB p la lb (perpMa p k la lb) (perpMb p k la lb) = false := by
  have hb := field_bd hp
  obtain ⟨_, _, h2, h3, h4⟩ := perp_fin hp hk hl h0 h1
  obtain ⟨hd, _, _⟩ := perp_bd hp hk hl h0 h1
  rw [parB_eq hb.1 h0 h1 h2 h3 hl hd]
  cases h : (la == perpMa p k la lb && lb == perpMb p k la lb) with
  | false => rfl
  | true =>
    simp only [Bool.and_eq_true, beq_iff_eq] at h
    rw [← h.1, ← h.2] at h4
    rw [nullB, h4] at hn
    cases hn
def footX (p k ax ay la lb lc : Int) : Int := meetX p la lb lc (perpMa p k la lb) (perpMb p k la lb) (perpMc p k la lb ax ay)
def footY (p k ax ay la lb lc : Int) : Int := meetY p la lb lc (perpMa p k la lb) (perpMb p k la lb) (perpMc p k la lb ax ay)
def footOf (p k ax ay la lb lc : Int) : (Int × Int) × Int := if ask p (colB k && ptB p ax ay && lineB p la lb lc) = 0 then (if nullB p k la lb = true then ((0, 0), 5) else ((footX p k ax ay la lb lc, footY p k ax ay la lb lc), 0)) else ((0, 0), ask p (colB k && ptB p ax ay && lineB p la lb lc))
theorem perpMc_bd {p k la lb ax ay : Int} (hp : 1 ≤ p) : 0 ≤ perpMc p k la lb ax ay ∧ perpMc p k la lb ax ay < p := ⟨Int.emod_nonneg _ (by omega), Int.emod_lt_of_pos _ (by omega)⟩
/-- The three spreads of a triangle. -/
def sot (p k ax ay bx by_ cx cy : Int) : List Int := [spreadP p k ax ay bx by_ cx cy, spreadP p k bx by_ ax ay cx cy, spreadP p k cx cy ax ay bx by_]
theorem triC_sym {p k ax ay bx by_ cx cy : Int} (h : triC p k ax ay bx by_ cx cy = 0) : quad p k ax ay bx by_ ≠ 0 ∧ quad p k ax ay cx cy ≠ 0 ∧ quad p k bx by_ ax ay ≠ 0 ∧ quad p k bx by_ cx cy ≠ 0 ∧ quad p k cx cy ax ay ≠ 0 ∧ quad p k cx cy bx by_ ≠ 0 := by
  obtain ⟨_, _, h1, h2, h3⟩ := triC_ok h
  exact ⟨h1, h2, by rw [quad_sym]; exact h1, h3, by rw [quad_sym]; exact h2, by rw [quad_sym]; exact h3⟩
end Go.Proofs.YtbjcbbnfgfmllaaGreatDoor.Pl
namespace Go.Proofs.YtbjcbbnfgfmllaaGreatDoor.Pl
def lwsV (p k la lb lc ax ay s : Int) : Bool := colB k && lineB p la lb lc && ptB p ax ay && numB p s
def lwsC (p k la lb lc ax ay s : Int) : Int := if ask p (lwsV p k la lb lc ax ay s) = 0 then (if nullB p k la lb = true then 5 else 0) else ask p (lwsV p k la lb lc ax ay s)
theorem lwsC_ok {p k la lb lc ax ay s : Int} (h : lwsC p k la lb lc ax ay s = 0) : ask p (lwsV p k la lb lc ax ay s) = 0 ∧ nullB p k la lb = false := by
  unfold lwsC at h
  by_cases h0 : ask p (lwsV p k la lb lc ax ay s) = 0
  · rw [if_pos h0] at h
    cases h1 : nullB p k la lb with
    | true => rw [h1] at h; simp at h
    | false => exact ⟨h0, rfl⟩
  · rw [if_neg h0] at h
    exact absurd h h0
theorem lwsC_null {p k la lb lc ax ay s : Int} (h0 : ask p (lwsV p k la lb lc ax ay s) = 0) (h : ¬ lwsC p k la lb lc ax ay s = 0) : nullB p k la lb = true ∧ lwsC p k la lb lc ax ay s = 5 := by
  unfold lwsC at h ⊢
  rw [if_pos h0] at h ⊢
  cases h1 : nullB p k la lb with
  | true => simp
  | false => rw [h1] at h; simp at h
theorem lwsC_err {p k la lb lc ax ay s : Int} (h0 : ¬ ask p (lwsV p k la lb lc ax ay s) = 0) : lwsC p k la lb lc ax ay s = ask p (lwsV p k la lb lc ax ay s) := by unfold lwsC; rw [if_neg h0]
def bisC (p k la lb lc ma mb mc : Int) : Int := if twoL p k la lb lc ma mb mc = 0 then (if parB p la lb ma mb = true then 5 else 0) else twoL p k la lb lc ma mb mc
theorem bisC_ok {p k la lb lc ma mb mc : Int} (h : bisC p k la lb lc ma mb mc = 0) : twoL p k la lb lc ma mb mc = 0 ∧ parB p la lb ma mb = false := by
  unfold bisC at h
  by_cases h0 : twoL p k la lb lc ma mb mc = 0
  · rw [if_pos h0] at h
    cases h1 : parB p la lb ma mb with
    | true => rw [h1] at h; simp at h
    | false => exact ⟨h0, rfl⟩
  · rw [if_neg h0] at h
    exact absurd h h0
theorem bisC_par {p k la lb lc ma mb mc : Int} (h0 : twoL p k la lb lc ma mb mc = 0) (h : ¬ bisC p k la lb lc ma mb mc = 0) : parB p la lb ma mb = true ∧ bisC p k la lb lc ma mb mc = 5 := by
  unfold bisC at h ⊢
  rw [if_pos h0] at h ⊢
  cases h1 : parB p la lb ma mb with
  | true => simp
  | false => rw [h1] at h; simp at h
theorem bisC_err {p k la lb lc ma mb mc : Int} (h0 : ¬ twoL p k la lb lc ma mb mc = 0) : bisC p k la lb lc ma mb mc = twoL p k la lb lc ma mb mc := by unfold bisC; rw [if_neg h0]
theorem lnsW_and (N S : Int × Int × Int → Bool) (p ax ay : Int) : (lnsW N p ax ay).filter S = lnsW (fun m => N m && S m) p ax ay := by
  unfold lnsW
  rw [List.filter_filter]
  congr 1
  funext m
  exact Bool.and_comm _ _
theorem mem_lnsW {N : Int × Int × Int → Bool} {p ax ay : Int} {m : Int × Int × Int} (h : m ∈ lnsW N p ax ay) : m ∈ ltAll p ax ay := (List.mem_filter.1 h).1
end Go.Proofs.YtbjcbbnfgfmllaaGreatDoor.Pl
namespace Go.Proofs.YtbjcbbnfgfmllaaGreatDoor.Pl
def bump (l : List Int) (i : Int) : List Int := l.set i.toNat (l.getD i.toNat 0 + 1)
def cbs (p k la lb : Int) (ms : List (Int × Int × Int)) : List Int := ms.foldl (fun acc m => if !nullB p k m.1 m.2.1 then bump acc (spread p k la lb m.1 m.2.1) else acc) (List.replicate p.toNat 0)
def cbs2 (p k la lb : Int) (ms : List (Int × Int × Int)) : List Int := ms.foldl (fun acc m => bump acc (spread p k la lb m.1 m.2.1)) (List.replicate p.toNat 0)
theorem cbs_filter (p k la lb : Int) (ms : List (Int × Int × Int)) : cbs2 p k la lb (ms.filter fun m => !nullB p k m.1 m.2.1) = cbs p k la lb ms := by
  unfold cbs cbs2
  rw [List.foldl_filter]
theorem cbs_nil (p k la lb : Int) : cbs p k la lb [] = List.replicate p.toNat 0 := rfl
theorem cbs2_nil (p k la lb : Int) : cbs2 p k la lb [] = List.replicate p.toNat 0 := rfl
theorem bump_len (l : List Int) (i : Int) : (bump l i).length = l.length := by simp [bump]
theorem cbs_len (p k la lb : Int) (ms : List (Int × Int × Int)) : (cbs p k la lb ms).length = p.toNat := by
  suffices h : ∀ (ms : List (Int × Int × Int)) (acc : List Int), (ms.foldl (fun acc m => if !nullB p k m.1 m.2.1 then bump acc (spread p k la lb m.1 m.2.1) else acc) acc).length = acc.length by
    unfold cbs; rw [h]; simp
  intro ms
  induction ms with
  | nil => intro acc; rfl
  | cons m ms ih => intro acc; rw [List.foldl_cons, ih]; split <;> simp [bump_len]
theorem cbs2_len (p k la lb : Int) (ms : List (Int × Int × Int)) : (cbs2 p k la lb ms).length = p.toNat := by
  suffices h : ∀ (ms : List (Int × Int × Int)) (acc : List Int), (ms.foldl (fun acc m => bump acc (spread p k la lb m.1 m.2.1)) acc).length = acc.length by
    unfold cbs2; rw [h]; simp
  intro ms
  induction ms with
  | nil => intro acc; rfl
  | cons m ms ih => intro acc; rw [List.foldl_cons, ih, bump_len]
theorem cbs_step (p k la lb : Int) {L : List (Int × Int × Int)} {j : Nat} (h : j < L.length) : cbs p k la lb (L.take (j + 1)) = if !nullB p k (L.getD j (0, 0, 0)).1 (L.getD j (0, 0, 0)).2.1 then bump (cbs p k la lb (L.take j)) (spread p k la lb (L.getD j (0, 0, 0)).1 (L.getD j (0, 0, 0)).2.1) else cbs p k la lb (L.take j) := by
  have e : L.getD j (0, 0, 0) = L[j] := by simp [h]
  rw [List.take_succ_eq_append_getElem h, e]
  unfold cbs
  rw [List.foldl_append]
  rfl
theorem cbs2_step (p k la lb : Int) {L : List (Int × Int × Int)} {j : Nat} (h : j < L.length) : cbs2 p k la lb (L.take (j + 1)) = bump (cbs2 p k la lb (L.take j)) (spread p k la lb (L.getD j (0, 0, 0)).1 (L.getD j (0, 0, 0)).2.1) := by
  have e : L.getD j (0, 0, 0) = L[j] := by simp [h]
  rw [List.take_succ_eq_append_getElem h, e]
  unfold cbs2
  rw [List.foldl_append]
  rfl
/-- All counts are small. -/
def smallL (l : List Int) (b : Int) : Prop := ∀ x ∈ l, 0 ≤ x ∧ x ≤ b
theorem small_getD {l : List Int} {b : Int} (hb : 0 ≤ b) (h : smallL l b) (i : Nat) : 0 ≤ l.getD i 0 ∧ l.getD i 0 ≤ b := by
  by_cases hi : i < l.length
  · have e : l.getD i 0 = l[i] := by simp [hi]
    rw [e]; exact h _ (List.getElem_mem hi)
  · have e : l.getD i 0 = 0 := by simp [List.getElem?_eq_none (show l.length ≤ i by omega)]
    rw [e]; omega
theorem small_bump {l : List Int} {b i : Int} (hb : 0 ≤ b) (h : smallL l b) : smallL (bump l i) (b + 1) := by
  intro x hx
  have h2 := small_getD hb h i.toNat
  rcases List.mem_or_eq_of_mem_set hx with h1 | h1
  · have := h x h1; omega
  · omega
theorem small_mono {l : List Int} {b c : Int} (h : smallL l b) (hc : b ≤ c) : smallL l c := fun x hx => by have := h x hx; omega
theorem cbs_small (p k la lb : Int) : ∀ (L : List (Int × Int × Int)) (j : Nat), j ≤ L.length → smallL (cbs p k la lb (L.take j)) j
  | L, 0, _ => by intro x hx; simp [cbs_nil] at hx; omega
  | L, j + 1, h => by
    have ih := cbs_small p k la lb L j (by omega)
    rw [cbs_step p k la lb (by omega)]
    split
    · have := small_bump (i := spread p k la lb (L.getD j (0, 0, 0)).1 (L.getD j (0, 0, 0)).2.1) (by omega) ih; push_cast; exact this
    · exact small_mono ih (by omega)
theorem cbs2_small (p k la lb : Int) : ∀ (L : List (Int × Int × Int)) (j : Nat), j ≤ L.length → smallL (cbs2 p k la lb (L.take j)) j
  | L, 0, _ => by intro x hx; simp [cbs2_nil] at hx; omega
  | L, j + 1, h => by
    have ih := cbs2_small p k la lb L j (by omega)
    rw [cbs2_step p k la lb (by omega)]
    have := small_bump (i := spread p k la lb (L.getD j (0, 0, 0)).1 (L.getD j (0, 0, 0)).2.1) (by omega) ih; push_cast; exact this
theorem bump_nat (l : List Int) (s : Nat) : bump l (s : Int) = l.set s (l.getD s 0 + 1) := by simp [bump]
/-- CountBySpread's list and code. -/
def cbsL (p k la lb : Int) : List Int := cbs p k la lb (ltAll p 0 0)
def cbsC (p k la lb lc : Int) : Int := if ask p (colB k && linesB p [(la, lb, lc)]) = 0 then (if nullB p k la lb = true then 5 else 0) else ask p (colB k && linesB p [(la, lb, lc)])
theorem cbsC_ok {p k la lb lc : Int} (h : cbsC p k la lb lc = 0) : ask p (colB k && linesB p [(la, lb, lc)]) = 0 ∧ nullB p k la lb = false := by
  unfold cbsC at h
  by_cases h0 : ask p (colB k && linesB p [(la, lb, lc)]) = 0
  · rw [if_pos h0] at h
    cases h1 : nullB p k la lb with
    | true => rw [h1] at h; simp at h
    | false => exact ⟨h0, rfl⟩
  · rw [if_neg h0] at h
    exact absurd h h0
theorem cbsC_null {p k la lb lc : Int} (h0 : ask p (colB k && linesB p [(la, lb, lc)]) = 0) (h : ¬ cbsC p k la lb lc = 0) : nullB p k la lb = true ∧ cbsC p k la lb lc = 5 := by
  unfold cbsC at h ⊢
  rw [if_pos h0] at h ⊢
  cases h1 : nullB p k la lb with
  | true => simp
  | false => rw [h1] at h; simp at h
theorem cbsC_err {p k la lb lc : Int} (h0 : ¬ ask p (colB k && linesB p [(la, lb, lc)]) = 0) : cbsC p k la lb lc = ask p (colB k && linesB p [(la, lb, lc)]) := by unfold cbsC; rw [if_neg h0]
theorem mem_filt {N : Int × Int × Int → Bool} {p ax ay : Int} {m : Int × Int × Int} (h : m ∈ lnsW N p ax ay) : m ∈ ltAll p ax ay := (List.mem_filter.1 h).1
end Go.Proofs.YtbjcbbnfgfmllaaGreatDoor.Pl
namespace Go.Proofs.YtbjcbbnfgfmllaaGreatDoor.Pl
/-- The product of two differences, not yet reduced. -/
def praw (k x y z v : Int) : Int := if k = 0 then x * z + y * v else if k = 1 then x * z - y * v else x * v + y * z
theorem praw0 (x y z v : Int) : praw 0 x y z v = x * z + y * v := rfl
theorem praw1 (x y z v : Int) : praw 1 x y z v = x * z - y * v := rfl
theorem praw2 (x y z v : Int) : praw 2 x y z v = x * v + y * z := rfl
theorem prod_raw (p k x y z v : Int) : prod p k x y z v = praw k x y z v % p := by
  unfold prod praw
  split
  · rfl
  · split <;> rfl
theorem quad_raw (p k ax ay bx by_ : Int) : quad p k ax ay bx by_ = praw k (ax - bx) (ay - by_) (ax - bx) (ay - by_) % p := by
  unfold quad
  rw [prod_rest, prod_raw]
theorem tmod_iff {p t : Int} : t.tmod p = 0 ↔ t % p = 0 :=
  ⟨fun h => Int.emod_eq_zero_of_dvd (Int.dvd_of_tmod_eq_zero h), fun h => Int.tmod_eq_zero_of_dvd (Int.dvd_of_emod_eq_zero h)⟩
theorem two_ne {p : Int} (hp : 3 ≤ p) : (2 : Int) % p ≠ 0 := by rw [Int.emod_eq_of_lt (by omega) (by omega)]; omega
theorem pol (k a1 a2 b1 b2 c1 c2 : Int) : praw k (a1 - c1) (a2 - c2) (a1 - c1) (a2 - c2) + praw k (a1 - b1) (a2 - b2) (a1 - b1) (a2 - b2) - praw k (b1 - c1) (b2 - c2) (b1 - c1) (b2 - c2) = 2 * praw k (b1 - a1) (b2 - a2) (c1 - a1) (c2 - a2) := by
  unfold praw
  split
  · grind
  · split <;> grind
theorem right_law {p k ax ay bx by_ cx cy : Int} (hf : fieldB p = true) :
    right p k ax ay bx by_ cx cy = ((quad p k ax ay cx cy + quad p k ax ay bx by_ - quad p k bx by_ cx cy).tmod p == 0) := by
  have hp := field_bd hf
  have h1 : (quad p k ax ay cx cy + quad p k ax ay bx by_ - quad p k bx by_ cx cy) % p = (2 * praw k (bx - ax) (by_ - ay) (cx - ax) (cy - ay)) % p := by
    rw [← pol, quad_raw, quad_raw, quad_raw]
    exact cgS (cgA (Int.emod_emod_of_dvd _ (Int.dvd_refl p)) (Int.emod_emod_of_dvd _ (Int.dvd_refl p))) (Int.emod_emod_of_dvd _ (Int.dvd_refl p))
  have h2 : right p k ax ay bx by_ cx cy = (praw k (bx - ax) (by_ - ay) (cx - ax) (cy - ay) % p == 0) := by
    unfold right
    rw [prod_rest, prod_raw]
  rw [h2, Bool.eq_iff_iff]
  simp only [beq_iff_eq, tmod_iff, h1]
  constructor
  · intro h
    rw [Int.mul_emod, h]
    simp
  · intro h
    by_cases h3 : praw k (bx - ax) (by_ - ay) (cx - ax) (cy - ay) % p = 0
    · exact h3
    · exact absurd h (mul_ne hf (two_ne hp.1) h3)
theorem arch_cg {p x y z x' y' z' : Int} (hx : x % p = x' % p) (hy : y % p = y' % p) (hz : z % p = z' % p) : arch p x y z = ((x' + y' + z') * (x' + y' + z') - 2 * (x' * x' + y' * y' + z' * z')) % p := by
  unfold arch
  exact cgS (cgM (cgA (cgA hx hy) hz) (cgA (cgA hx hy) hz)) (cgM rfl (cgA (cgA (cgM hx hx) (cgM hy hy)) (cgM hz hz)))
theorem mm (p x : Int) : (x % p) % p = x % p := Int.emod_emod_of_dvd _ (Int.dvd_refl p)
theorem arch_law {p k ax ay bx by_ cx cy : Int} (hk : colB k = true) :
    ((if 0 < k then -(4 * area p ax ay bx by_ cx cy * area p ax ay bx by_ cx cy) else 4 * area p ax ay bx by_ cx cy * area p ax ay bx by_ cx cy) - arch p (quad p k bx by_ cx cy) (quad p k ax ay cx cy) (quad p k ax ay bx by_)).tmod p = 0 := by
  rw [tmod_iff, arch_cg (x' := praw k (bx - cx) (by_ - cy) (bx - cx) (by_ - cy)) (y' := praw k (ax - cx) (ay - cy) (ax - cx) (ay - cy)) (z' := praw k (ax - bx) (ay - by_) (ax - bx) (ay - by_)) (by rw [quad_raw, mm]) (by rw [quad_raw, mm]) (by rw [quad_raw, mm])]
  have hA : area p ax ay bx by_ cx cy % p = ((bx - ax) * (cy - ay) - (by_ - ay) * (cx - ax)) % p := by unfold area; rw [mm]
  generalize area p ax ay bx by_ cx cy = A at hA
  have hkc : k = 0 ∨ k = 1 ∨ k = 2 := by simp [colB] at hk; omega
  rw [Int.sub_emod, mm, ← Int.sub_emod]
  rcases hkc with rfl | rfl | rfl
  · rw [if_neg (by omega)]
    rw [cgS (cgM (cgM (rfl : (4 : Int) % p = 4 % p) hA) hA) rfl]
    simp only [praw0]
    rw [show (4 * ((bx - ax) * (cy - ay) - (by_ - ay) * (cx - ax)) * ((bx - ax) * (cy - ay) - (by_ - ay) * (cx - ax)) - (((bx - cx) * (bx - cx) + (by_ - cy) * (by_ - cy) + ((ax - cx) * (ax - cx) + (ay - cy) * (ay - cy)) + ((ax - bx) * (ax - bx) + (ay - by_) * (ay - by_))) * ((bx - cx) * (bx - cx) + (by_ - cy) * (by_ - cy) + ((ax - cx) * (ax - cx) + (ay - cy) * (ay - cy)) + ((ax - bx) * (ax - bx) + (ay - by_) * (ay - by_))) - 2 * (((bx - cx) * (bx - cx) + (by_ - cy) * (by_ - cy)) * ((bx - cx) * (bx - cx) + (by_ - cy) * (by_ - cy)) + ((ax - cx) * (ax - cx) + (ay - cy) * (ay - cy)) * ((ax - cx) * (ax - cx) + (ay - cy) * (ay - cy)) + ((ax - bx) * (ax - bx) + (ay - by_) * (ay - by_)) * ((ax - bx) * (ax - bx) + (ay - by_) * (ay - by_))))) = 0 by grind]
    simp
  · rw [if_pos (by omega)]
    rw [cgS (cgN (cgM (cgM (rfl : (4 : Int) % p = 4 % p) hA) hA)) rfl]
    simp only [praw1]
    rw [show ∀ t : Int, t = 0 → t % p = 0 from fun t h => by rw [h]; simp]
    grind
  · rw [if_pos (by omega)]
    rw [cgS (cgN (cgM (cgM (rfl : (4 : Int) % p = 4 % p) hA) hA)) rfl]
    simp only [praw2]
    rw [show ∀ t : Int, t = 0 → t % p = 0 from fun t h => by rw [h]; simp]
    grind
end Go.Proofs.YtbjcbbnfgfmllaaGreatDoor.Pl
namespace Go.Proofs.YtbjcbbnfgfmllaaGreatDoor.Pl
theorem polar (k a1 a2 b1 b2 : Int) : praw k (0 - a1) (0 - a2) (0 - a1) (0 - a2) + praw k (0 - b1) (0 - b2) (0 - b1) (0 - b2) - 2 * praw k a1 a2 b1 b2 = praw k (a1 - b1) (a2 - b2) (a1 - b1) (a2 - b2) := by
  unfold praw
  split
  · grind
  · split <;> grind
theorem polar_law {p k ax ay bx by_ : Int} : (quad p k 0 0 ax ay + quad p k 0 0 bx by_ - 2 * prod p k ax ay bx by_ - quad p k ax ay bx by_).tmod p = 0 := by
  rw [tmod_iff, quad_raw, quad_raw, quad_raw, prod_raw]
  rw [cgS (cgS (cgA (mm p _) (mm p _)) (cgM (rfl : (2 : Int) % p = 2 % p) (mm p _))) (mm p _), polar]
  simp
/-- The numbers below n, moved by a. -/
theorem perm_shift {n a : Nat} (h : a ≤ n) : List.Perm ((List.range n).map fun x => (x + a) % n) (List.range n) := by
  by_cases hn : n = 0
  · subst hn; simp
  obtain ⟨m, rfl⟩ := Nat.exists_eq_add_of_le h
  have h1 : List.range (a + m) = List.range m ++ (List.range a).map (m + ·) := by rw [Nat.add_comm, List.range_add]
  have h2 : ((List.range (a + m)).map fun x => (x + a) % (a + m)) = (List.range m).map (a + ·) ++ List.range a := by
    rw [h1, List.map_append, List.map_map]
    congr 1
    · apply List.map_congr_left
      intro x hx
      have := List.mem_range.1 hx
      rw [Nat.mod_eq_of_lt (by omega), Nat.add_comm]
    · conv => rhs; rw [← List.map_id (List.range a)]
      apply List.map_congr_left
      intro x hx
      have := List.mem_range.1 hx
      show (m + x + a) % (a + m) = x
      rw [show m + x + a = x + (a + m) by omega, Nat.add_mod_right, Nat.mod_eq_of_lt (by omega)]
  rw [h2]
  exact List.perm_append_comm.trans (by rw [List.range_add])
def cnt2 (P : Nat → Nat → Bool) (n : Nat) : Nat := ((List.range n).map fun i => (List.range n).countP fun j => P i j).sum
theorem countP_shift (f : Nat → Bool) {n b : Nat} (hb : b ≤ n) : (List.range n).countP (fun j => f ((j + b) % n)) = (List.range n).countP f := by
  have h := (perm_shift hb).countP_eq f
  rw [List.countP_map] at h
  exact h
theorem cnt2_shift (P : Nat → Nat → Bool) {n a b : Nat} (ha : a ≤ n) (hb : b ≤ n) : cnt2 (fun i j => P ((i + a) % n) ((j + b) % n)) n = cnt2 P n := by
  unfold cnt2
  have h1 : (fun i => (List.range n).countP fun j => P ((i + a) % n) ((j + b) % n)) = (fun i => (List.range n).countP fun j => P i j) ∘ (fun i => (i + a) % n) := by
    funext i
    exact countP_shift (fun j => P ((i + a) % n) j) hb
  rw [h1, ← List.map_map]
  exact ((perm_shift ha).map _).sum_nat
theorem ptsTo_cnt (P : Int × Int → Bool) (n : Nat) : ∀ x, ((ptsTo n x).filter P).length = ((List.range x).map fun i : Nat => (List.range n).countP fun j : Nat => P ((i : Int), (j : Int))).sum
  | 0 => by simp [ptsTo]
  | x + 1 => by
    rw [ptsTo_succ, List.filter_append, List.length_append, ptsTo_cnt P n x, List.range_succ, List.map_append, List.sum_append]
    congr 1
    simp only [List.map_cons, List.map_nil, List.sum_cons, List.sum_nil, Nat.add_zero]
    rw [rowTo, ← List.countP_eq_length_filter, List.countP_map]
    rfl
theorem ptsW_cnt (P : Int × Int → Bool) (n : Nat) : (ptsW P n).length = cnt2 (fun i j : Nat => P ((i : Int), (j : Int))) n := by
  rw [ptsW, Int.toNat_natCast]
  exact ptsTo_cnt P n n
theorem shift_emod {n i a : Nat} : ((a : Int) - (((i + a) % n : Nat) : Int)) % (n : Int) = (0 - (i : Int)) % (n : Int) := by
  rw [Int.natCast_emod, Int.natCast_add]
  rw [cgS (rfl : (a : Int) % (n : Int) = (a : Int) % (n : Int)) (mm (n : Int) ((i : Int) + (a : Int)))]
  congr 1
  omega
/-- As many points have a quadrance from one centre as from another. -/
theorem count_law {p k ax ay q : Int} (hp : 0 ≤ p) (a1 : 0 ≤ ax) (a2 : ax < p) (b1 : 0 ≤ ay) (b2 : ay < p) :
    ((ptsW (fun b => quad p k ax ay b.1 b.2 == q) p).length : Int) = cntAt p k q := by
  obtain ⟨n, rfl⟩ := Int.eq_ofNat_of_zero_le hp
  obtain ⟨a, rfl⟩ := Int.eq_ofNat_of_zero_le a1
  obtain ⟨b, rfl⟩ := Int.eq_ofNat_of_zero_le b1
  unfold cntAt
  rw [ptsW_cnt, ptsW_cnt, ← cnt2_shift _ (show a ≤ n by omega) (show b ≤ n by omega)]
  congr 2
  funext i j
  show (quad _ k _ _ _ _ == q) = (quad _ k _ _ _ _ == q)
  unfold quad
  rw [shift_emod, shift_emod]
theorem mem_ptsW {P : Int × Int → Bool} {p : Int} {b : Int × Int} (h : b ∈ ptsW P p) : P b = true ∧ 0 ≤ b.1 ∧ b.1 < p ∧ 0 ≤ b.2 ∧ b.2 < p := by
  unfold ptsW at h
  obtain ⟨h1, h2⟩ := List.mem_filter.1 h
  obtain ⟨x, y⟩ := b
  have := mem_before h1
  exact ⟨h2, by dsimp only; omega, by dsimp only; omega, by dsimp only; omega, by dsimp only; omega⟩
end Go.Proofs.YtbjcbbnfgfmllaaGreatDoor.Pl
