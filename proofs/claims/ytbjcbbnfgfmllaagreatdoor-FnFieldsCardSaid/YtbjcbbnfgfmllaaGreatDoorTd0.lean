/- Plain law: small numbers in decimal, lists of them. No program in sight. -/
import Derived.Test.YtbjcbbnfgfmllaaGreatDoorTx2
set_option linter.unusedVariables false
set_option linter.unusedSimpArgs false
namespace Go.Proofs.YtbjcbbnfgfmllaaGreatDoor.Pl
def dig (n : Int) : UInt8 := UInt8.ofNat (48 + n).toNat
/-- A number of at most two digits in decimal. -/
def decT (n : Int) : List UInt8 := if n < 10 then [dig n] else [dig (n / 10), dig (n % 10)]
/-- What follows the first number: commas and numbers. -/
def joinR : List Int → List UInt8
  | [] => []
  | x :: r => 44 :: (decT x ++ joinR r)
def joinT : List Int → List UInt8
  | [] => []
  | x :: r => decT x ++ joinR r
theorem joinR_snoc (x : Int) : ∀ a : List Int, joinR (a ++ [x]) = joinR a ++ 44 :: decT x
  | [] => by simp [joinR]
  | y :: a => by simp [joinR, joinR_snoc x a]
theorem joinT_snoc (a : List Int) (x : Int) (h : a ≠ []) : joinT (a ++ [x]) = joinT a ++ 44 :: decT x := by
  match a, h with
  | y :: a, _ => simp [joinT, joinR_snoc]
theorem joinT_one (x : Int) : joinT [x] = decT x := by simp [joinT, joinR]
theorem dec_cases {n : Int} (h0 : 0 ≤ n) (h1 : n ≤ 31) {P : Int → Prop} (h : ∀ k : Fin 32, P (k.val : Int)) : P n := by
  have := h ⟨n.toNat, by omega⟩
  rwa [show ((⟨n.toNat, by omega⟩ : Fin 32).val : Int) = n by simp; omega] at this
theorem decT_len (n : Int) : (decT n).length ≤ 2 := by unfold decT; split <;> simp
theorem decT_num {n : Int} (h0 : 0 ≤ n) (h1 : n ≤ 31) : numI (decT n) = n := dec_cases (P := fun n => numI (decT n) = n) h0 h1 (by decide +kernel)
theorem decT_free {n : Int} (h0 : 0 ≤ n) (h1 : n ≤ 31) : ∀ x ∈ decT n, x ≠ 44 := dec_cases (P := fun n => ∀ x ∈ decT n, x ≠ 44) h0 h1 (by decide +kernel)
/-- Texts of points and lines are read as they were written. -/
theorem parts_join : ∀ (r : List Int) (x : Int), (∀ y ∈ x :: r, 0 ≤ y ∧ y ≤ 31) → (splitC (joinT (x :: r))).map numI = x :: r
  | [], x, h => by
    have hx := h x (by simp)
    rw [joinT_one, splitC_free _ (decT_free hx.1 hx.2)]
    simp [decT_num hx.1 hx.2]
  | y :: r, x, h => by
    have hx := h x (by simp)
    have e : joinT (x :: y :: r) = decT x ++ 44 :: joinT (y :: r) := rfl
    rw [e, splitC_cut _ _ (decT_free hx.1 hx.2), List.map_cons, decT_num hx.1 hx.2, parts_join r y (fun z hz => h z (by simp [hz]))]
theorem joinR_len : ∀ r : List Int, (joinR r).length ≤ 3 * r.length
  | [] => by simp [joinR]
  | x :: r => by
    have := decT_len x
    have := joinR_len r
    simp [joinR]; omega
theorem joinT_len (r : List Int) : (joinT r).length ≤ 3 * r.length := by
  cases r with
  | nil => simp [joinT]
  | cons x r =>
    have := decT_len x
    have := joinR_len r
    simp [joinT]; omega
/-- What PointText, LineText answer. -/
def textPt (p x y : Int) : List UInt8 × Int := if ask p (ptsB p [(x, y)]) = 0 then (joinT [x, y], 0) else ([], ask p (ptsB p [(x, y)]))
def textLn (p a b c : Int) : List UInt8 × Int := if ask p (linesB p [(a, b, c)]) = 0 then (joinT [a, b, c], 0) else ([], ask p (linesB p [(a, b, c)]))
end Go.Proofs.YtbjcbbnfgfmllaaGreatDoor.Pl
