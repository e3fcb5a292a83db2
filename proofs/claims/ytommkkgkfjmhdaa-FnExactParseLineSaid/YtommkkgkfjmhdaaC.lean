/- Contracts: roots, inverses, kinds, numbers of Archimedes, triple spreads, of both sides. -/
import Derived.Test.YtommkkgkfjmhdaaB
set_option linter.unusedVariables false
set_option linter.unusedSimpArgs false
set_option maxRecDepth 100000
set_option maxHeartbeats 1000000
namespace Go.Proofs.Ytommkkgkfjmhdaa
open Go.RowKit
theorem inverse_any (p a : Int) (w : World) (hp : 1 ≤ p) (hp2 : p ≤ 31) (ha : 0 ≤ a) (ha2 : a ≤ 31) :
    Calls Try.prog 128 #[.int .i64 p, .int .i64 a] w fun e w' => e = .returned (.int .i64 (Pl.inv p a)) ∧ w = w' := by
  go_enter Try.func128, Try.ntmps128
  go_wp2_with fail
  go_loop [5] (fun i => ∃ x : Int, 1 ≤ x ∧ x ≤ p ∧ i = .int .i64 x ∧ Hid (Pl.invFrom p a (p - x).toNat x = Pl.inv p a)) (fun i => (p - intOf i).toNat)
  case atStart => exact ⟨1, by omega, by omega, rfl, by simp [Hid, Pl.inv]⟩
  case round =>
    obtain ⟨x, hx, hx2, rfl, hr⟩ := hrel
    by_cases hlt : x < p
    · have hm := Pl.mulB ha ha2 (show 0 ≤ x by omega) (show x ≤ 31 by omega)
      obtain ⟨hm1, hm2⟩ := hm
      cases hb : (a * x % p == 1) with
      | true =>
        go_wp2_with fail
        go_ret
        refine ⟨ret_int ?_, rfl⟩
        have h := hr.out
        rw [Pl.invFrom_step hlt, if_pos (by simpa using hb)] at h
        exact h
      | false =>
        go_wp2_with fail
        go_round
        case rel => exact ⟨x + 1, by omega, by omega, rfl, by have h := hr.out; rw [Pl.invFrom_step hlt, if_neg (by simpa using hb)] at h; exact h⟩
        case measure => simp [intOf]; omega
    · go_wp2_with fail
      go_ret
      refine ⟨ret_int ?_, rfl⟩
      have h := hr.out
      rw [show (p - x).toNat = 0 by omega] at h
      exact h
theorem l01Inverse_any (a p : Int) (w : World) (hf : Pl.fieldB p = true) :
    Calls Try.prog 107 #[.int .i64 a, .int .i64 p] w fun e w' => e = .returned (.int .i64 (Pl.inv p (a % p))) ∧ w = w' := by
  have hp := Pl.field_bd hf
  obtain ⟨hp1, hp2⟩ := hp
  have hm1 := Int.emod_nonneg a (show p ≠ 0 by omega)
  have hm2 := Int.emod_lt_of_pos a (show 0 < p by omega)
  have hfin := hid (Pl.sinv_inv hf hm1 hm2)
  have hrr := hid (Pl.sinv_unfold p a)
  generalize hq : a % p = q at *
  have HQ := hid hq
  clear hq
  have HF := hid hf
  clear hf
  go_enter Try.func107, Try.ntmps107
  go_wp2_with (go_at_call 106; refine (l01Mod_any _ _ _ (by omega) (by omega)).mono ?_; rintro e w' ⟨rfl, rfl⟩; rw [HQ.out])
  go_loop [5, 6, 7] (fun o b k => ∃ (x y z : Int) (n : Nat), 0 ≤ x ∧ x < p ∧ 0 ≤ y ∧ y < p ∧ 0 ≤ z ∧ z ≤ 100 ∧ z < 2 ^ n ∧ o = .int .i64 x ∧ b = .int .i64 y ∧ k = .int .i64 z ∧ Hid (Pl.powFrom p n x y z = Pl.inv p q)) (fun _ _ k => (intOf k).toNat)
  case atStart => exact ⟨1, q, p - 2, 6, by omega, by omega, by omega, by omega, by omega, by omega, by omega, rfl, rfl, rfl, by unfold Hid; rw [← hfin.out]; exact hrr.out.symm⟩
  case round =>
    obtain ⟨x, y, z, n, hx0, hx1, hy0, hy1, hz0, hz1, hzn, rfl, rfl, rfl, hpow⟩ := hrel
    by_cases hlt : 0 < z
    · have hn : n ≠ 0 := by rintro rfl; simp at hzn; omega
      obtain ⟨m, hm⟩ : ∃ m, n = m + 1 := ⟨n - 1, by omega⟩
      have hzm : z / 2 < 2 ^ m := by rw [hm, Int.pow_succ] at hzn; omega
      have hpow' : Hid (Pl.powFrom p m (if z % 2 = 1 then x * y % p else x) (y * y % p) (z / 2) = Pl.inv p q) := by
        have h := hpow.out
        rw [hm, Pl.powFrom_step m hlt] at h
        exact h
      clear hm hzn hpow
      have hxy := Pl.mulB hx0 (show x ≤ 31 by omega) hy0 (show y ≤ 31 by omega)
      obtain ⟨hxy1, hxy2⟩ := hxy
      have hyy := Pl.mulB hy0 (show y ≤ 31 by omega) hy0 (show y ≤ 31 by omega)
      obtain ⟨hyy1, hyy2⟩ := hyy
      have e1 := Int.emod_nonneg (x * y) (show p ≠ 0 by omega)
      have e2 := Int.emod_lt_of_pos (x * y) (show 0 < p by omega)
      have e3 := Int.emod_nonneg (y * y) (show p ≠ 0 by omega)
      have e4 := Int.emod_lt_of_pos (y * y) (show 0 < p by omega)
      cases hodd : (z % 2 == 1) with
      | true =>
        go_wp2_with fail
        go_round
        case rel => exact ⟨_, _, _, m, e1, e2, e3, e4, by omega, by omega, hzm, rfl, rfl, rfl, by have h := hpow'.out; rw [if_pos (by simpa using hodd)] at h; exact h⟩
        case measure => simp [intOf]; omega
      | false =>
        go_wp2_with fail
        go_round
        case rel => exact ⟨_, _, _, m, hx0, hx1, e3, e4, by omega, by omega, hzm, rfl, rfl, rfl, by have h := hpow'.out; rw [if_neg (by simpa using hodd)] at h; exact h⟩
        case measure => simp [intOf]; omega
    · have hd := hid (Pl.powFrom_done (p := p) (out := x) (base := y) n hlt)
      go_wp2_with fail
      go_ret
      exact ⟨ret_int (hd.out.symm.trans hpow.out), rfl⟩
end Go.Proofs.Ytommkkgkfjmhdaa
