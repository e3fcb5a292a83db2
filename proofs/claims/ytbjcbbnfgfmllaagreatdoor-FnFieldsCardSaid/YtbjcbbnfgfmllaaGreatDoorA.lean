/- Leaf contracts: numbers modulo p. -/
import Derived.Test.YtbjcbbnfgfmllaaGreatDoorProg
import Derived.Test.YtbjcbbnfgfmllaaGreatDoorPlA
import Derived.WalkKit
import Derived.Handy

set_option linter.unusedVariables false
set_option linter.unusedSimpArgs false
set_option maxRecDepth 100000
set_option maxHeartbeats 1000000
namespace Go.Proofs.YtbjcbbnfgfmllaaGreatDoor
open Go.RowKit

theorem hid {p : Prop} (h : p) : Hid p := h
theorem ret_int {k : IntKind} {a b : Int} (h : a = b) : Ending.returned (.int k a) = .returned (.int k b) := by rw [h]
theorem ret_bool {a b : Bool} (h : a = b) : Ending.returned (.bool a) = .returned (.bool b) := by rw [h]
theorem ret_ii {a b c d : Int} (h : a = b) (h' : c = d) : Ending.returned (.tuple #[.int .i64 a, .int .i64 c]) = .returned (.tuple #[.int .i64 b, .int .i64 d]) := by rw [h, h']
theorem ret_ib {a b : Int} {c d : Bool} (h : a = b) (h' : c = d) : Ending.returned (.tuple #[.int .i64 a, .bool c]) = .returned (.tuple #[.int .i64 b, .bool d]) := by rw [h, h']
theorem ret_bi {a b : Bool} {c d : Int} (h : a = b) (h' : c = d) : Ending.returned (.tuple #[.bool a, .int .i64 c]) = .returned (.tuple #[.bool b, .int .i64 d]) := by rw [h, h']
theorem val_int {k : IntKind} {a b : Int} (h : a = b) : Value.int k a = .int k b := by rw [h]
theorem rest_any (p x : Int) (w : World) (hp : 1 ≤ p) (hp2 : p ≤ 4294967296) :
    Calls Tryz.prog 87 #[.int .i64 p, .int .i64 x] w fun e w' => e = .returned (.int .i64 (x % p)) ∧ w = w' := by
  have h1 := Int.tmod_lt_of_pos x (show 0 < p by omega)
  have h0 : -p < x.tmod p := Int.lt_tmod_of_pos x (show 0 < p by omega)
  go_enter Tryz.func87, Tryz.ntmps87
  go_wp2
  go_ret
  exact ⟨ret_int (Pl.rest_eq2 p x hp), rfl⟩
theorem l01Mod_any (x p : Int) (w : World) (hp : 1 ≤ p) (hp2 : p ≤ 4294967296) :
    Calls Tryz.prog 85 #[.int .i64 x, .int .i64 p] w fun e w' => e = .returned (.int .i64 (x % p)) ∧ w = w' := by
  have h1 := Int.tmod_lt_of_pos x (show 0 < p by omega)
  have h0 : -p < x.tmod p := Int.lt_tmod_of_pos x (show 0 < p by omega)
  go_enter Tryz.func85, Tryz.ntmps85
  go_wp2
  go_ret
  exact ⟨ret_int (Pl.rest_eq2 p x hp), rfl⟩
theorem isNumber_any (p x : Int) (w : World) :
    Calls Tryz.prog 38 #[.int .i64 p, .int .i64 x] w fun e w' => e = .returned (.bool (Pl.numB p x)) ∧ w = w' := by
  unfold Pl.numB
  by_cases h : 0 ≤ x
  · go_enter Tryz.func38, Tryz.ntmps38
    go_wp2
    go_ret
    exact ⟨ret_bool (by simp [h]), rfl⟩
  · go_enter Tryz.func38, Tryz.ntmps38
    go_wp2
    go_ret
    exact ⟨ret_bool (by rw [decide_eq_false (by omega)]; rfl), rfl⟩
theorem l01In_any (n lo hi : Int) (w : World) :
    Calls Tryz.prog 84 #[.int .i64 n, .int .i64 lo, .int .i64 hi] w fun e w' => e = .returned (.bool (Pl.inB n lo hi)) ∧ w = w' := by
  unfold Pl.inB
  by_cases h : lo ≤ n
  · go_enter Tryz.func84, Tryz.ntmps84
    go_wp2
    go_ret
    exact ⟨ret_bool (by simp [h]), rfl⟩
  · go_enter Tryz.func84, Tryz.ntmps84
    go_wp2
    go_ret
    exact ⟨ret_bool (by rw [decide_eq_false (by omega)]; rfl), rfl⟩
theorem isField_any (p : Int) (w : World) :
    Calls Tryz.prog 12 #[.int .i64 p] w fun e w' => e = .returned (.bool (Pl.fieldB p)) ∧ w = w' := by
  go_enter Tryz.func12, Tryz.ntmps12
  go_wp2
  all_goals go_ret
  all_goals exact ⟨ret_bool (by unfold Pl.fieldB; simp [*]), rfl⟩
theorem l01Field_any (p : Int) (w : World) :
    Calls Tryz.prog 48 #[.int .i64 p] w fun e w' => e = .returned (.bool (Pl.fieldB p)) ∧ w = w' := by
  cases hin : Pl.inB p 3 31 with
  | false =>
    have hf := hid (Pl.field_out hin)
    go_enter Tryz.func48, Tryz.ntmps48
    go_wp2_with (go_at_call 84; refine (l01In_any _ _ _ _).mono ?_; rintro e w' ⟨rfl, rfl⟩)
    go_ret
    exact ⟨ret_bool (by rw [hf.out]), rfl⟩
  | true =>
    have hb := Pl.in_bd hin
    obtain ⟨hb0, hb1⟩ := hb
    go_enter Tryz.func48, Tryz.ntmps48
    go_wp2_with (go_at_call 84; refine (l01In_any _ _ _ _).mono ?_; rintro e w' ⟨rfl, rfl⟩)
    go_loop [3] (fun d => ∃ n : Int, 2 ≤ n ∧ n ≤ 6 ∧ Hid (Pl.okTo p n = true) ∧ d = .int .i64 n) (fun d => (6 - intOf d).toNat)
    case atStart => exact ⟨2, by omega, by omega, by simp [Hid, Pl.okTo], rfl⟩
    case round =>
      obtain ⟨n, hn, hn2, hok, rfl⟩ := hrel
      have hc : n = 2 ∨ n = 3 ∨ n = 4 ∨ n = 5 ∨ n = 6 := by omega
      rcases hc with rfl | rfl | rfl | rfl | rfl
      · go_wp2
        · have hd : (p % 2 == 0) = true := by assumption
          go_ret
          exact ⟨ret_bool (Pl.field_no (d := 2) hb0 hb1 (by omega) (by omega) (by omega) (by simpa using hd)).symm, rfl⟩
        · have hd : (p % 2 == 0) = false := by assumption
          exact ⟨⟨3, by omega, by omega, Pl.ok2 hok.out (by simpa using hd), rfl⟩, by simp [intOf]⟩
        · go_ret
          exact ⟨ret_bool (Pl.field_yes hb0 hb1 hn hn2 (by omega) hok.out).symm, rfl⟩
      · go_wp2
        · have hd : (p % 3 == 0) = true := by assumption
          go_ret
          exact ⟨ret_bool (Pl.field_no (d := 3) hb0 hb1 (by omega) (by omega) (by omega) (by simpa using hd)).symm, rfl⟩
        · have hd : (p % 3 == 0) = false := by assumption
          exact ⟨⟨4, by omega, by omega, Pl.ok3 hok.out (by simpa using hd), rfl⟩, by simp [intOf]⟩
        · go_ret
          exact ⟨ret_bool (Pl.field_yes hb0 hb1 hn hn2 (by omega) hok.out).symm, rfl⟩
      · go_wp2
        · have hd : (p % 4 == 0) = true := by assumption
          go_ret
          exact ⟨ret_bool (Pl.field_no (d := 4) hb0 hb1 (by omega) (by omega) (by omega) (by simpa using hd)).symm, rfl⟩
        · have hd : (p % 4 == 0) = false := by assumption
          exact ⟨⟨5, by omega, by omega, Pl.ok4 hok.out (by simpa using hd), rfl⟩, by simp [intOf]⟩
        · go_ret
          exact ⟨ret_bool (Pl.field_yes hb0 hb1 hn hn2 (by omega) hok.out).symm, rfl⟩
      · go_wp2
        · have hd : (p % 5 == 0) = true := by assumption
          go_ret
          exact ⟨ret_bool (Pl.field_no (d := 5) hb0 hb1 (by omega) (by omega) (by omega) (by simpa using hd)).symm, rfl⟩
        · have hd : (p % 5 == 0) = false := by assumption
          exact ⟨⟨6, by omega, by omega, Pl.ok5 hok.out (by simpa using hd), rfl⟩, by simp [intOf]⟩
        · go_ret
          exact ⟨ret_bool (Pl.field_yes hb0 hb1 hn hn2 (by omega) hok.out).symm, rfl⟩
      · go_wp2
        go_ret
        exact ⟨ret_bool (Pl.field_yes hb0 hb1 hn hn2 (by omega) hok.out).symm, rfl⟩
end Go.Proofs.YtbjcbbnfgfmllaaGreatDoor
