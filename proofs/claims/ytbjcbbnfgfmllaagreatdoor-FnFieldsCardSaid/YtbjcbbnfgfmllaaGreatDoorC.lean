/- Contracts: roots, inverses, kinds, numbers of Archimedes, triple spreads, of both sides. -/
import Derived.Test.YtbjcbbnfgfmllaaGreatDoorB
set_option linter.unusedVariables false
set_option linter.unusedSimpArgs false
set_option maxRecDepth 100000
set_option maxHeartbeats 1000000
namespace Go.Proofs.YtbjcbbnfgfmllaaGreatDoor
open Go.RowKit
theorem root_any (p a : Int) (w : World) (hp : 1 ≤ p) (hp2 : p ≤ 31) :
    Calls Tryz.prog 39 #[.int .i64 p, .int .i64 a] w fun e w' => e = .returned (.int .i64 (Pl.root p a)) ∧ w = w' := by
  go_enter Tryz.func39, Tryz.ntmps39
  go_wp2_with fail
  go_loop [5] (fun i => ∃ x : Int, 0 ≤ x ∧ x ≤ p ∧ i = .int .i64 x ∧ Hid (Pl.rootFrom p a (p - x).toNat x = Pl.root p a)) (fun i => (p - intOf i).toNat)
  case atStart => exact ⟨0, by omega, by omega, rfl, by simp [Hid, Pl.root]⟩
  case round =>
    obtain ⟨x, hx, hx2, rfl, hr⟩ := hrel
    by_cases hlt : x < p
    · have hm := Pl.mulB hx (show x ≤ 31 by omega) hx (show x ≤ 31 by omega)
      obtain ⟨hm1, hm2⟩ := hm
      cases hb : (x * x % p == a) with
      | true =>
        go_wp2_with fail
        go_ret
        refine ⟨ret_int ?_, rfl⟩
        have h := hr.out
        rw [Pl.rootFrom_step hlt, if_pos (by simpa using hb)] at h
        exact h
      | false =>
        go_wp2_with fail
        go_round
        case rel => exact ⟨x + 1, by omega, by omega, rfl, by have h := hr.out; rw [Pl.rootFrom_step hlt, if_neg (by simpa using hb)] at h; exact h⟩
        case measure => simp [intOf]; omega
    · go_wp2_with fail
      go_ret
      refine ⟨ret_int ?_, rfl⟩
      have h := hr.out
      rw [show (p - x).toNat = 0 by omega] at h
      exact h
theorem l01Root_any (a p : Int) (w : World) (hp : 1 ≤ p) (hp2 : p ≤ 31) :
    Calls Tryz.prog 41 #[.int .i64 a, .int .i64 p] w fun e w' => e = .returned (.tuple #[.int .i64 (Pl.rootV p a), .bool (Pl.rootB p a)]) ∧ w = w' := by
  go_enter Tryz.func41, Tryz.ntmps41
  go_wp2_with fail
  go_loop [6] (fun i => ∃ x : Int, 0 ≤ x ∧ x ≤ p ∧ i = .int .i64 x ∧ Hid (Pl.rootFrom p a (p - x).toNat x = Pl.root p a)) (fun i => (p - intOf i).toNat)
  case atStart => exact ⟨0, by omega, by omega, rfl, by simp [Hid, Pl.root]⟩
  case round =>
    obtain ⟨x, hx, hx2, rfl, hr⟩ := hrel
    by_cases hlt : x < p
    · have hm := Pl.mulB hx (show x ≤ 31 by omega) hx (show x ≤ 31 by omega)
      obtain ⟨hm1, hm2⟩ := hm
      cases hb : (x * x % p == a) with
      | true =>
        go_wp2_with fail
        go_ret2
        have h := hr.out
        rw [Pl.rootFrom_step hlt, if_pos (by simpa using hb)] at h
        have h2 := Pl.rootV_pos (p := p) (a := a) (by omega)
        exact ⟨ret_ib (h.trans h2.1.symm) h2.2.symm, rfl⟩
      | false =>
        go_wp2_with fail
        go_round
        case rel => exact ⟨x + 1, by omega, by omega, rfl, by have h := hr.out; rw [Pl.rootFrom_step hlt, if_neg (by simpa using hb)] at h; exact h⟩
        case measure => simp [intOf]; omega
    · go_wp2_with fail
      go_ret2
      have h := hr.out
      rw [show (p - x).toNat = 0 by omega, Pl.rootFrom] at h
      have h2 := Pl.rootV_neg (p := p) (a := a) (by omega)
      exact ⟨ret_ib h2.1.symm h2.2.symm, rfl⟩
theorem inverse_any (p a : Int) (w : World) (hp : 1 ≤ p) (hp2 : p ≤ 31) (ha : 0 ≤ a) (ha2 : a ≤ 31) :
    Calls Tryz.prog 43 #[.int .i64 p, .int .i64 a] w fun e w' => e = .returned (.int .i64 (Pl.inv p a)) ∧ w = w' := by
  go_enter Tryz.func43, Tryz.ntmps43
  go_wp2_with fail
  go_loop [5] (fun i => ∃ x : Int, 1 ≤ x ∧ x ≤ p ∧ i = .int .i64 x ∧ Hid (Pl.invFrom p a (p - x).toNat x = Pl.inv p a)) (fun i => (p - intOf i).toNat)
  case atStart => exact ⟨1, by omega, by omega, rfl, by simp [Hid, Pl.inv]⟩
  case round =>
    obtain ⟨x, hx, hx2, rfl, hr⟩ := hrel
    by_cases hlt : x < p
    · have hm := Pl.mulB ha ha2 (show 0 ≤ x by omega) (show x ≤ 31 by omega)
      obtain ⟨hm1, hm2⟩ := hm
      cases hb : (a * x % p == 1) with
      | true =>
        go_wp2_with fail
        go_ret
        refine ⟨ret_int ?_, rfl⟩
        have h := hr.out
        rw [Pl.invFrom_step hlt, if_pos (by simpa using hb)] at h
        exact h
      | false =>
        go_wp2_with fail
        go_round
        case rel => exact ⟨x + 1, by omega, by omega, rfl, by have h := hr.out; rw [Pl.invFrom_step hlt, if_neg (by simpa using hb)] at h; exact h⟩
        case measure => simp [intOf]; omega
    · go_wp2_with fail
      go_ret
      refine ⟨ret_int ?_, rfl⟩
      have h := hr.out
      rw [show (p - x).toNat = 0 by omega] at h
      exact h
theorem l01Inverse_any (a p : Int) (w : World) (hf : Pl.fieldB p = true) :
    Calls Tryz.prog 44 #[.int .i64 a, .int .i64 p] w fun e w' => e = .returned (.int .i64 (Pl.inv p (a % p))) ∧ w = w' := by
  have hp := Pl.field_bd hf
  obtain ⟨hp1, hp2⟩ := hp
  have hm1 := Int.emod_nonneg a (show p ≠ 0 by omega)
  have hm2 := Int.emod_lt_of_pos a (show 0 < p by omega)
  have hfin := hid (Pl.sinv_inv hf hm1 hm2)
  have hrr := hid (Pl.sinv_unfold p a)
  generalize hq : a % p = q at *
  have HQ := hid hq
  clear hq
  have HF := hid hf
  clear hf
  go_enter Tryz.func44, Tryz.ntmps44
  go_wp2_with (go_at_call 85; refine (l01Mod_any _ _ _ (by omega) (by omega)).mono ?_; rintro e w' ⟨rfl, rfl⟩; rw [HQ.out])
  go_loop [5, 6, 7] (fun o b k => ∃ (x y z : Int) (n : Nat), 0 ≤ x ∧ x < p ∧ 0 ≤ y ∧ y < p ∧ 0 ≤ z ∧ z ≤ 100 ∧ z < 2 ^ n ∧ o = .int .i64 x ∧ b = .int .i64 y ∧ k = .int .i64 z ∧ Hid (Pl.powFrom p n x y z = Pl.inv p q)) (fun _ _ k => (intOf k).toNat)
  case atStart => exact ⟨1, q, p - 2, 6, by omega, by omega, by omega, by omega, by omega, by omega, by omega, rfl, rfl, rfl, by unfold Hid; rw [← hfin.out]; exact hrr.out.symm⟩
  case round =>
    obtain ⟨x, y, z, n, hx0, hx1, hy0, hy1, hz0, hz1, hzn, rfl, rfl, rfl, hpow⟩ := hrel
    by_cases hlt : 0 < z
    · have hn : n ≠ 0 := by rintro rfl; simp at hzn; omega
      obtain ⟨m, hm⟩ : ∃ m, n = m + 1 := ⟨n - 1, by omega⟩
      have hzm : z / 2 < 2 ^ m := by rw [hm, Int.pow_succ] at hzn; omega
      have hpow' : Hid (Pl.powFrom p m (if z % 2 = 1 then x * y % p else x) (y * y % p) (z / 2) = Pl.inv p q) := by
        have h := hpow.out
        rw [hm, Pl.powFrom_step m hlt] at h
        exact h
      clear hm hzn hpow
      have hxy := Pl.mulB hx0 (show x ≤ 31 by omega) hy0 (show y ≤ 31 by omega)
      obtain ⟨hxy1, hxy2⟩ := hxy
      have hyy := Pl.mulB hy0 (show y ≤ 31 by omega) hy0 (show y ≤ 31 by omega)
      obtain ⟨hyy1, hyy2⟩ := hyy
      have e1 := Int.emod_nonneg (x * y) (show p ≠ 0 by omega)
      have e2 := Int.emod_lt_of_pos (x * y) (show 0 < p by omega)
      have e3 := Int.emod_nonneg (y * y) (show p ≠ 0 by omega)
      have e4 := Int.emod_lt_of_pos (y * y) (show 0 < p by omega)
      cases hodd : (z % 2 == 1) with
      | true =>
        go_wp2_with fail
        go_round
        case rel => exact ⟨_, _, _, m, e1, e2, e3, e4, by omega, by omega, hzm, rfl, rfl, rfl, by have h := hpow'.out; rw [if_pos (by simpa using hodd)] at h; exact h⟩
        case measure => simp [intOf]; omega
      | false =>
        go_wp2_with fail
        go_round
        case rel => exact ⟨_, _, _, m, hx0, hx1, e3, e4, by omega, by omega, hzm, rfl, rfl, rfl, by have h := hpow'.out; rw [if_neg (by simpa using hodd)] at h; exact h⟩
        case measure => simp [intOf]; omega
    · have hd := hid (Pl.powFrom_done (p := p) (out := x) (base := y) n hlt)
      go_wp2_with fail
      go_ret
      exact ⟨ret_int (hd.out.symm.trans hpow.out), rfl⟩
theorem squareKind_any (p a : Int) (w : World) (hp : 1 ≤ p) (hp2 : p ≤ 31) :
    Calls Tryz.prog 46 #[.int .i64 p, .int .i64 a] w fun e w' => e = .returned (.int .i64 (Pl.kind p a)) ∧ w = w' := by
  by_cases h : a = 0
  · have h1 : (a == 0) = true := by simpa using h
    have h2 := hid h
    clear h
    go_enter Tryz.func46, Tryz.ntmps46
    go_wp2_with fail
    go_ret
    exact ⟨ret_int (Pl.kind_0 h2.out).symm, rfl⟩
  · have h1 : (a == 0) = false := by simpa using h
    by_cases hr : Pl.root p a < 0
    · go_enter Tryz.func46, Tryz.ntmps46
      go_wp2_with (go_at_call 39; refine (root_any _ _ _ (by omega) (by omega)).mono ?_; rintro e w' ⟨rfl, rfl⟩)
      go_ret
      exact ⟨ret_int (Pl.kind_neg h hr).symm, rfl⟩
    · go_enter Tryz.func46, Tryz.ntmps46
      go_wp2_with (go_at_call 39; refine (root_any _ _ _ (by omega) (by omega)).mono ?_; rintro e w' ⟨rfl, rfl⟩)
      go_ret
      exact ⟨ret_int (Pl.kind_pos h (by omega)).symm, rfl⟩
theorem l01Square_any (a p : Int) (w : World) (hp : 1 ≤ p) (hp2 : p ≤ 31) :
    Calls Tryz.prog 47 #[.int .i64 a, .int .i64 p] w fun e w' => e = .returned (.int .i64 (Pl.kind p a)) ∧ w = w' := by
  by_cases h : a = 0
  · have h1 : (a == 0) = true := by simpa using h
    have h2 := hid h
    clear h
    go_enter Tryz.func47, Tryz.ntmps47
    go_wp2_with fail
    go_ret
    exact ⟨ret_int (Pl.kind_0 h2.out).symm, rfl⟩
  · have h1 : (a == 0) = false := by simpa using h
    by_cases hr : Pl.root p a < 0
    · have hrb := (Pl.rootV_neg hr).2
      go_enter Tryz.func47, Tryz.ntmps47
      go_wp2_with (go_at_call 41; refine (l01Root_any _ _ _ (by omega) (by omega)).mono ?_; rintro e w' ⟨rfl, rfl⟩)
      go_ret
      exact ⟨ret_int (Pl.kind_neg h hr).symm, rfl⟩
    · have hrb := (Pl.rootV_pos hr).2
      go_enter Tryz.func47, Tryz.ntmps47
      go_wp2_with (go_at_call 41; refine (l01Root_any _ _ _ (by omega) (by omega)).mono ?_; rintro e w' ⟨rfl, rfl⟩)
      go_ret
      exact ⟨ret_int (Pl.kind_pos h (by omega)).symm, rfl⟩
theorem RootOf1_any (p a : Int) (b0 b1 : Nat) (w : World) (c00 : w.cell? ⟨b0, 0, none⟩ = some (.int .i64 p)) (c10 : w.cell? ⟨b1, 0, none⟩ = some (.int .i64 a)) :
    Calls Tryz.prog 37 #[.pointer (some ⟨b0, 0, none⟩), .pointer (some ⟨b1, 0, none⟩)] w fun e w' => e = .returned (.bool (Pl.numB p a)) ∧ Below w.heap.size w w' := by
  go_enter Tryz.func37, Tryz.ntmps37
  go_wp2_with (go_at_call 38; refine (isNumber_any _ _ _).mono ?_; rintro e w' ⟨rfl, rfl⟩)
  go_ret
  exact ⟨rfl, Below.refl _ _⟩
theorem InverseOf1_any (p a : Int) (b0 b1 : Nat) (w : World) (c00 : w.cell? ⟨b0, 0, none⟩ = some (.int .i64 p)) (c10 : w.cell? ⟨b1, 0, none⟩ = some (.int .i64 a)) :
    Calls Tryz.prog 42 #[.pointer (some ⟨b0, 0, none⟩), .pointer (some ⟨b1, 0, none⟩)] w fun e w' => e = .returned (.bool (Pl.numB p a)) ∧ Below w.heap.size w w' := by
  go_enter Tryz.func42, Tryz.ntmps42
  go_wp2_with (go_at_call 38; refine (isNumber_any _ _ _).mono ?_; rintro e w' ⟨rfl, rfl⟩)
  go_ret
  exact ⟨rfl, Below.refl _ _⟩
theorem SquareKind1_any (p a : Int) (b0 b1 : Nat) (w : World) (c00 : w.cell? ⟨b0, 0, none⟩ = some (.int .i64 p)) (c10 : w.cell? ⟨b1, 0, none⟩ = some (.int .i64 a)) :
    Calls Tryz.prog 45 #[.pointer (some ⟨b0, 0, none⟩), .pointer (some ⟨b1, 0, none⟩)] w fun e w' => e = .returned (.bool (Pl.numB p a)) ∧ Below w.heap.size w w' := by
  go_enter Tryz.func45, Tryz.ntmps45
  go_wp2_with (go_at_call 38; refine (isNumber_any _ _ _).mono ?_; rintro e w' ⟨rfl, rfl⟩)
  go_ret
  exact ⟨rfl, Below.refl _ _⟩
theorem RootOf_any (p a : Int) (w : World) :
    Calls Tryz.prog 6 #[.int .i64 p, .int .i64 a] w fun e w' => e = .returned (.tuple #[.int .i64 ((Pl.rootOf p a).1), .int .i64 ((Pl.rootOf p a).2)]) ∧ Below w.heap.size w w' := by
  by_cases h0 : Pl.ask p (Pl.numB p a) = 0
  · have hfin : Hid (Pl.rootOf p a = (if Pl.root p a < 0 then (0, 4) else (Pl.root p a, 0))) := by unfold Hid Pl.rootOf; rw [if_pos h0]
    have hv : Hid (Pl.fieldB p = true ∧ (Pl.numB p a) = true) := Pl.ask_ok h0
    have hp := Pl.field_bd hv.out.1
    obtain ⟨hp1, hp2⟩ := hp
    go_enter Tryz.func6, Tryz.ntmps6
    go_wp2_with fail
    refine (asked_any p _ _ (Pl.numB p a) _ (by kernel_rfl) ?_).mono ?_
    · intro _
      exact RootOf1_any p a _ _ _ (by go_simp) (by go_simp)
    · rintro e w1 ⟨rfl, hb⟩
      have c00 : w1.cell? ⟨w.heap.size, 0, none⟩ = some (.int .i64 p) := cellOf hb (by go_simp) (by simp <;> omega)
      have c10 : w1.cell? ⟨w.heap.size + 1, 0, none⟩ = some (.int .i64 a) := cellOf hb (by go_simp) (by simp <;> omega)
      have hz : w.heap.size + 2 ≤ w1.heap.size := by have := hb.size; simp at this; omega
      have hB : Below w.heap.size w w1 := below_of (by go_grown) hb (by simp <;> omega)
      clear hb
      by_cases hr : Pl.root p a < 0
      · go_wp2_with (go_at_call 39; refine (root_any _ _ _ (by omega) (by omega)).mono ?_; rintro e w' ⟨rfl, rfl⟩)
        go_ret2
        exact ⟨ret_ii (by rw [hfin.out, if_pos hr]) (by rw [hfin.out, if_pos hr]), hB⟩
      · go_wp2_with (go_at_call 39; refine (root_any _ _ _ (by omega) (by omega)).mono ?_; rintro e w' ⟨rfl, rfl⟩)
        go_ret2
        exact ⟨ret_ii (by rw [hfin.out, if_neg (show ¬ Pl.root p a < 0 by omega)]) (by rw [hfin.out, if_neg (show ¬ Pl.root p a < 0 by omega)]), hB⟩
  · have hne : (Pl.ask p (Pl.numB p a) != 0) = true := by simpa using h0
    have hfin : Hid (Pl.rootOf p a = (0, Pl.ask p (Pl.numB p a))) := by unfold Hid Pl.rootOf; rw [if_neg h0]
    clear h0
    go_enter Tryz.func6, Tryz.ntmps6
    go_wp2_with fail
    refine (asked_any p _ _ (Pl.numB p a) _ (by kernel_rfl) ?_).mono ?_
    · intro _
      exact RootOf1_any p a _ _ _ (by go_simp) (by go_simp)
    · rintro e w1 ⟨rfl, hb⟩
      have hB : Below w.heap.size w w1 := below_of (by go_grown) hb (by simp <;> omega)
      clear hb
      go_wp2_with fail
      go_ret2
      exact ⟨ret_ii (by rw [hfin.out]) (by rw [hfin.out]), hB⟩
theorem InverseOf_any (p a : Int) (w : World) :
    Calls Tryz.prog 8 #[.int .i64 p, .int .i64 a] w fun e w' => e = .returned (.tuple #[.int .i64 ((Pl.inverseOf p a).1), .int .i64 ((Pl.inverseOf p a).2)]) ∧ Below w.heap.size w w' := by
  by_cases h0 : Pl.ask p (Pl.numB p a) = 0
  · have hfin : Hid (Pl.inverseOf p a = (if a = 0 then (0, 5) else (Pl.inv p a, 0))) := by unfold Hid Pl.inverseOf; rw [if_pos h0]
    have hv : Hid (Pl.fieldB p = true ∧ (Pl.numB p a) = true) := Pl.ask_ok h0
    have hp := Pl.field_bd hv.out.1
    obtain ⟨hp1, hp2⟩ := hp
    have ha := Pl.numB_true hv.out.2
    obtain ⟨ha1, ha2⟩ := ha
    go_enter Tryz.func8, Tryz.ntmps8
    go_wp2_with fail
    refine (asked_any p _ _ (Pl.numB p a) _ (by kernel_rfl) ?_).mono ?_
    · intro _
      exact InverseOf1_any p a _ _ _ (by go_simp) (by go_simp)
    · rintro e w1 ⟨rfl, hb⟩
      have c00 : w1.cell? ⟨w.heap.size, 0, none⟩ = some (.int .i64 p) := cellOf hb (by go_simp) (by simp <;> omega)
      have c10 : w1.cell? ⟨w.heap.size + 1, 0, none⟩ = some (.int .i64 a) := cellOf hb (by go_simp) (by simp <;> omega)
      have hz : w.heap.size + 2 ≤ w1.heap.size := by have := hb.size; simp at this; omega
      have hB : Below w.heap.size w w1 := below_of (by go_grown) hb (by simp <;> omega)
      clear hb
      by_cases hr : a = 0
      · have hr2 : (a == 0) = true := by simpa using hr
        have hr3 := hid hr
        clear hr
        go_wp2_with fail
        go_ret2
        exact ⟨ret_ii (by rw [hfin.out, if_pos hr3.out]) (by rw [hfin.out, if_pos hr3.out]), hB⟩
      · have hr2 : (a == 0) = false := by simpa using hr
        go_wp2_with (go_at_call 43; refine (inverse_any _ _ _ (by omega) (by omega) (by omega) (by omega)).mono ?_; rintro e w' ⟨rfl, rfl⟩)
        go_ret2
        exact ⟨ret_ii (by rw [hfin.out, if_neg hr]) (by rw [hfin.out, if_neg hr]), hB⟩
  · have hne : (Pl.ask p (Pl.numB p a) != 0) = true := by simpa using h0
    have hfin : Hid (Pl.inverseOf p a = (0, Pl.ask p (Pl.numB p a))) := by unfold Hid Pl.inverseOf; rw [if_neg h0]
    clear h0
    go_enter Tryz.func8, Tryz.ntmps8
    go_wp2_with fail
    refine (asked_any p _ _ (Pl.numB p a) _ (by kernel_rfl) ?_).mono ?_
    · intro _
      exact InverseOf1_any p a _ _ _ (by go_simp) (by go_simp)
    · rintro e w1 ⟨rfl, hb⟩
      have hB : Below w.heap.size w w1 := below_of (by go_grown) hb (by simp <;> omega)
      clear hb
      go_wp2_with fail
      go_ret2
      exact ⟨ret_ii (by rw [hfin.out]) (by rw [hfin.out]), hB⟩
theorem SquareKind_any (p a : Int) (w : World) :
    Calls Tryz.prog 10 #[.int .i64 p, .int .i64 a] w fun e w' => e = .returned (.tuple #[.int .i64 ((Pl.squareKind p a).1), .int .i64 ((Pl.squareKind p a).2)]) ∧ Below w.heap.size w w' := by
  by_cases h0 : Pl.ask p (Pl.numB p a) = 0
  · have hfin : Hid (Pl.squareKind p a = (Pl.kind p a, 0)) := by unfold Hid Pl.squareKind; rw [if_pos h0]
    have hv : Hid (Pl.fieldB p = true ∧ (Pl.numB p a) = true) := Pl.ask_ok h0
    have hp := Pl.field_bd hv.out.1
    obtain ⟨hp1, hp2⟩ := hp
    go_enter Tryz.func10, Tryz.ntmps10
    go_wp2_with fail
    refine (asked_any p _ _ (Pl.numB p a) _ (by kernel_rfl) ?_).mono ?_
    · intro _
      exact SquareKind1_any p a _ _ _ (by go_simp) (by go_simp)
    · rintro e w1 ⟨rfl, hb⟩
      have c00 : w1.cell? ⟨w.heap.size, 0, none⟩ = some (.int .i64 p) := cellOf hb (by go_simp) (by simp <;> omega)
      have c10 : w1.cell? ⟨w.heap.size + 1, 0, none⟩ = some (.int .i64 a) := cellOf hb (by go_simp) (by simp <;> omega)
      have hz : w.heap.size + 2 ≤ w1.heap.size := by have := hb.size; simp at this; omega
      have hB : Below w.heap.size w w1 := below_of (by go_grown) hb (by simp <;> omega)
      clear hb
      go_wp2_with (go_at_call 46; refine (squareKind_any _ _ _ (by omega) (by omega)).mono ?_; rintro e w' ⟨rfl, rfl⟩)
      go_ret2
      exact ⟨ret_ii (by rw [hfin.out]) (by rw [hfin.out]), hB⟩
  · have hne : (Pl.ask p (Pl.numB p a) != 0) = true := by simpa using h0
    have hfin : Hid (Pl.squareKind p a = (0, Pl.ask p (Pl.numB p a))) := by unfold Hid Pl.squareKind; rw [if_neg h0]
    clear h0
    go_enter Tryz.func10, Tryz.ntmps10
    go_wp2_with fail
    refine (asked_any p _ _ (Pl.numB p a) _ (by kernel_rfl) ?_).mono ?_
    · intro _
      exact SquareKind1_any p a _ _ _ (by go_simp) (by go_simp)
    · rintro e w1 ⟨rfl, hb⟩
      have hB : Below w.heap.size w w1 := below_of (by go_grown) hb (by simp <;> omega)
      clear hb
      go_wp2_with fail
      go_ret2
      exact ⟨ret_ii (by rw [hfin.out]) (by rw [hfin.out]), hB⟩
theorem sRootOf_any (p a : Int) (w : World) :
    Calls Tryz.prog 7 #[.int .i64 p, .int .i64 a] w fun e w' => e = .returned (.tuple #[.int .i64 ((Pl.rootOf p a).1), .int .i64 ((Pl.rootOf p a).2)]) ∧ Below w.heap.size w w' := by
  by_cases h0 : Pl.ask p (Pl.numB p a) = 0
  · have hfin : Hid (Pl.rootOf p a = (if Pl.root p a < 0 then (0, 4) else (Pl.root p a, 0))) := by unfold Hid Pl.rootOf; rw [if_pos h0]
    have hv : Hid (Pl.fieldB p = true ∧ (Pl.numB p a) = true) := Pl.ask_ok h0
    have hp := Pl.field_bd hv.out.1
    obtain ⟨hp1, hp2⟩ := hp
    go_enter Tryz.func7, Tryz.ntmps7
    go_wp2_with fail
    refine (l01Numbers_any p _ 0 1 1 [a] rfl (by omega) _ ?_).mono ?_
    · intro j hj
      match j, hj with
      | 0, _ => go_simp
    · rintro e w' ⟨rfl, rfl⟩
      rw [Pl.nums1]
      by_cases hr : Pl.root p a < 0
      · obtain ⟨hv1, hv2⟩ := Pl.rootV_neg hr
        go_wp2_with (go_at_call 41; refine (l01Root_any _ _ _ (by omega) (by omega)).mono ?_; rintro e w' ⟨rfl, rfl⟩)
        go_ret2
        exact ⟨ret_ii (by rw [hfin.out, if_pos hr]) (by rw [hfin.out, if_pos hr]), by go_grown⟩
      · obtain ⟨hv1, hv2⟩ := Pl.rootV_pos hr
        go_wp2_with (go_at_call 41; refine (l01Root_any _ _ _ (by omega) (by omega)).mono ?_; rintro e w' ⟨rfl, rfl⟩)
        go_ret2
        exact ⟨ret_ii (by rw [hfin.out, if_neg (show ¬ Pl.root p a < 0 by omega)]) (by rw [hfin.out, if_neg (show ¬ Pl.root p a < 0 by omega)]), by go_grown⟩
  · have hne : (Pl.ask p (Pl.numB p a) != 0) = true := by simpa using h0
    have hfin : Hid (Pl.rootOf p a = (0, Pl.ask p (Pl.numB p a))) := by unfold Hid Pl.rootOf; rw [if_neg h0]
    clear h0
    go_enter Tryz.func7, Tryz.ntmps7
    go_wp2_with fail
    refine (l01Numbers_any p _ 0 1 1 [a] rfl (by omega) _ ?_).mono ?_
    · intro j hj
      match j, hj with
      | 0, _ => go_simp
    · rintro e w' ⟨rfl, rfl⟩
      rw [Pl.nums1]
      go_wp2_with fail
      go_ret2
      exact ⟨ret_ii (by rw [hfin.out]) (by rw [hfin.out]), by go_grown⟩
theorem sInverseOf_any (p a : Int) (w : World) :
    Calls Tryz.prog 9 #[.int .i64 p, .int .i64 a] w fun e w' => e = .returned (.tuple #[.int .i64 ((Pl.inverseOf p a).1), .int .i64 ((Pl.inverseOf p a).2)]) ∧ Below w.heap.size w w' := by
  by_cases h0 : Pl.ask p (Pl.numB p a) = 0
  · have hfin : Hid (Pl.inverseOf p a = (if a = 0 then (0, 5) else (Pl.inv p a, 0))) := by unfold Hid Pl.inverseOf; rw [if_pos h0]
    have hv : Hid (Pl.fieldB p = true ∧ (Pl.numB p a) = true) := Pl.ask_ok h0
    have hp := Pl.field_bd hv.out.1
    obtain ⟨hp1, hp2⟩ := hp
    have ha := Pl.numB_true hv.out.2
    obtain ⟨ha1, ha2⟩ := ha
    go_enter Tryz.func9, Tryz.ntmps9
    go_wp2_with fail
    refine (l01Numbers_any p _ 0 1 1 [a] rfl (by omega) _ ?_).mono ?_
    · intro j hj
      match j, hj with
      | 0, _ => go_simp
    · rintro e w' ⟨rfl, rfl⟩
      rw [Pl.nums1]
      by_cases hr : a = 0
      · have hr2 : (a == 0) = true := by simpa using hr
        have hr3 := hid hr
        clear hr
        go_wp2_with fail
        go_ret2
        exact ⟨ret_ii (by rw [hfin.out, if_pos hr3.out]) (by rw [hfin.out, if_pos hr3.out]), by go_grown⟩
      · have hr2 : (a == 0) = false := by simpa using hr
        go_wp2_with (go_at_call 44; refine (l01Inverse_any _ _ _ hv.out.1).mono ?_; rintro e w' ⟨rfl, rfl⟩)
        go_ret2
        exact ⟨ret_ii (by rw [hfin.out, if_neg hr, Int.emod_eq_of_lt ha1 ha2]) (by rw [hfin.out, if_neg hr]), by go_grown⟩
  · have hne : (Pl.ask p (Pl.numB p a) != 0) = true := by simpa using h0
    have hfin : Hid (Pl.inverseOf p a = (0, Pl.ask p (Pl.numB p a))) := by unfold Hid Pl.inverseOf; rw [if_neg h0]
    clear h0
    go_enter Tryz.func9, Tryz.ntmps9
    go_wp2_with fail
    refine (l01Numbers_any p _ 0 1 1 [a] rfl (by omega) _ ?_).mono ?_
    · intro j hj
      match j, hj with
      | 0, _ => go_simp
    · rintro e w' ⟨rfl, rfl⟩
      rw [Pl.nums1]
      go_wp2_with fail
      go_ret2
      exact ⟨ret_ii (by rw [hfin.out]) (by rw [hfin.out]), by go_grown⟩
theorem sSquareKind_any (p a : Int) (w : World) :
    Calls Tryz.prog 11 #[.int .i64 p, .int .i64 a] w fun e w' => e = .returned (.tuple #[.int .i64 ((Pl.squareKind p a).1), .int .i64 ((Pl.squareKind p a).2)]) ∧ Below w.heap.size w w' := by
  by_cases h0 : Pl.ask p (Pl.numB p a) = 0
  · have hfin : Hid (Pl.squareKind p a = (Pl.kind p a, 0)) := by unfold Hid Pl.squareKind; rw [if_pos h0]
    have hv : Hid (Pl.fieldB p = true ∧ (Pl.numB p a) = true) := Pl.ask_ok h0
    have hp := Pl.field_bd hv.out.1
    obtain ⟨hp1, hp2⟩ := hp
    go_enter Tryz.func11, Tryz.ntmps11
    go_wp2_with fail
    refine (l01Numbers_any p _ 0 1 1 [a] rfl (by omega) _ ?_).mono ?_
    · intro j hj
      match j, hj with
      | 0, _ => go_simp
    · rintro e w' ⟨rfl, rfl⟩
      rw [Pl.nums1]
      go_wp2_with (go_at_call 47; refine (l01Square_any _ _ _ (by omega) (by omega)).mono ?_; rintro e w' ⟨rfl, rfl⟩)
      go_ret2
      exact ⟨ret_ii (by rw [hfin.out]) (by rw [hfin.out]), by go_grown⟩
  · have hne : (Pl.ask p (Pl.numB p a) != 0) = true := by simpa using h0
    have hfin : Hid (Pl.squareKind p a = (0, Pl.ask p (Pl.numB p a))) := by unfold Hid Pl.squareKind; rw [if_neg h0]
    clear h0
    go_enter Tryz.func11, Tryz.ntmps11
    go_wp2_with fail
    refine (l01Numbers_any p _ 0 1 1 [a] rfl (by omega) _ ?_).mono ?_
    · intro j hj
      match j, hj with
      | 0, _ => go_simp
    · rintro e w' ⟨rfl, rfl⟩
      rw [Pl.nums1]
      go_wp2_with fail
      go_ret2
      exact ⟨ret_ii (by rw [hfin.out]) (by rw [hfin.out]), by go_grown⟩
end Go.Proofs.YtbjcbbnfgfmllaaGreatDoor
