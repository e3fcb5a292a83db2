/- Contracts: lists of numbers, the code of the first two errors. -/
import Derived.Test.YtbjcbbnfgfmllaaGreatDoorA
set_option linter.unusedVariables false
set_option linter.unusedSimpArgs false
set_option maxRecDepth 100000
set_option maxHeartbeats 1000000
namespace Go.Proofs.YtbjcbbnfgfmllaaGreatDoor
open Go.RowKit

theorem areNumbers_any (p : Int) (b off n c : Nat) (xs : List Int) (hn : xs.length = n) (hm : n ≤ 1048576) (w : World) (hc : ∀ j, j < n → w.cell? ⟨b, off + j, none⟩ = some (.int .i64 (xs.getD j 0))) :
    Calls Tryz.prog 92 #[.int .i64 p, .slice (some ⟨b, off, none⟩) n c] w fun e w' => e = .returned (.bool (xs.all (Pl.numB p))) ∧ w = w' := by
  have HN := hid hn
  have HC := hid hc
  clear hn hc
  go_enter Tryz.func92, Tryz.ntmps92
  go_wp2_with fail
  go_loop [9] (fun i => ∃ k : Nat, k ≤ n ∧ i = .int .i64 k ∧ Hid ((xs.take k).all (Pl.numB p) = true)) (fun i => n - (intOf i).toNat)
  case atStart => exact ⟨0, Nat.zero_le _, rfl, by simp [Hid]⟩
  case round =>
    obtain ⟨k, hk, rfl, hall⟩ := hrel
    by_cases hlt : k < n
    · have hcell := HC.out k hlt
      have hkl : k < xs.length := by have := HN.out; omega
      clear HC
      generalize hx : xs.getD k 0 = x at *
      have HX := hid hx
      clear hx
      cases hb : Pl.numB p x with
      | true =>
        go_wp2_with (go_at_call 38; refine (isNumber_any _ _ _).mono ?_; rintro e w' ⟨rfl, rfl⟩)
        go_round
        case rel => exact ⟨k + 1, by omega, by go_num, Pl.all_step hkl hall.out (by rw [HX.out]; exact hb)⟩
        case measure => simp [intOf]; omega
      | false =>
        go_wp2_with (go_at_call 38; refine (isNumber_any _ _ _).mono ?_; rintro e w' ⟨rfl, rfl⟩)
        go_ret
        exact ⟨ret_bool (Pl.all_stop hkl (by rw [HX.out]; exact hb)).symm, rfl⟩
    · go_wp2_with fail
      go_ret
      refine ⟨ret_bool ?_, rfl⟩
      have h := hall.out
      rw [List.take_of_length_le (by have := HN.out; omega)] at h
      exact h.symm
theorem l01Numbers_any (p : Int) (b off n c : Nat) (xs : List Int) (hn : xs.length = n) (hm : n ≤ 1048576) (w : World) (hc : ∀ j, j < n → w.cell? ⟨b, off + j, none⟩ = some (.int .i64 (xs.getD j 0))) :
    Calls Tryz.prog 40 #[.int .i64 p, .slice (some ⟨b, off, none⟩) n c] w fun e w' => e = .returned (.int .i64 (Pl.ask p (xs.all (Pl.numB p)))) ∧ w = w' := by
  cases hf : Pl.fieldB p with
  | false =>
    go_enter Tryz.func40, Tryz.ntmps40
    go_wp2_with (go_at_call 48; refine (l01Field_any _ _).mono ?_; rintro e w' ⟨rfl, rfl⟩)
    go_ret
    exact ⟨ret_int (Pl.ask_f hf).symm, rfl⟩
  | true =>
    have hp := Pl.field_bd hf
    obtain ⟨hp1, hp2⟩ := hp
    have HN := hid hn
    have HC := hid hc
    clear hn hc
    go_enter Tryz.func40, Tryz.ntmps40
    go_wp2_with (go_at_call 48; refine (l01Field_any _ _).mono ?_; rintro e w' ⟨rfl, rfl⟩)
    go_loop [5] (fun i => ∃ k : Nat, k ≤ n ∧ i = .int .i64 k ∧ Hid ((xs.take k).all (Pl.numB p) = true)) (fun i => n - (intOf i).toNat)
    case atStart => exact ⟨0, Nat.zero_le _, rfl, by simp [Hid]⟩
    case round =>
      obtain ⟨k, hk, rfl, hall⟩ := hrel
      by_cases hlt : k < n
      · have hcell := HC.out k hlt
        have hkl : k < xs.length := by have := HN.out; omega
        clear HC
        generalize hx : xs.getD k 0 = x at *
        have HX := hid hx
        clear hx
        cases hb : Pl.inB x 0 (p - 1) with
        | true =>
          go_wp2_with (go_at_call 84; refine (l01In_any _ _ _ _).mono ?_; rintro e w' ⟨rfl, rfl⟩)
          go_round
          case rel => exact ⟨k + 1, by omega, by go_num, Pl.all_step hkl hall.out (by rw [HX.out, ← Pl.inB_num]; exact hb)⟩
          case measure => simp [intOf]; omega
        | false =>
          go_wp2_with (go_at_call 84; refine (l01In_any _ _ _ _).mono ?_; rintro e w' ⟨rfl, rfl⟩)
          go_ret
          exact ⟨ret_int (by rw [Pl.all_stop hkl (by rw [HX.out, ← Pl.inB_num]; exact hb), Pl.ask_tf hf]), rfl⟩
      · go_wp2_with fail
        go_ret
        refine ⟨ret_int ?_, rfl⟩
        have h := hall.out
        rw [List.take_of_length_le (by have := HN.out; omega)] at h
        rw [h, Pl.ask_tt hf]
theorem asked_any (p : Int) (fn : Nat) (cap : Array Value) (b : Bool) (w : World) (hrun : (callFunc fn cap).run Tryz.prog w = .ok (.enter fn cap) w)
    (h : Pl.fieldB p = true → Calls Tryz.prog fn cap w fun e w' => e = .returned (.bool b) ∧ Below w.heap.size w w') :
    Calls Tryz.prog 36 #[.int .i64 p, .func (.func fn) #[] cap] w fun e w' => e = .returned (.int .i64 (Pl.ask p b)) ∧ Below w.heap.size w w' := by
  cases hf : Pl.fieldB p with
  | false =>
    go_enter Tryz.func36, Tryz.ntmps36
    go_wp2_with (go_at_call 12; refine (isField_any _ _).mono ?_; rintro e w' ⟨rfl, rfl⟩)
    go_ret
    exact ⟨ret_int (Pl.ask_f hf).symm, Below.refl _ _⟩
  | true =>
    have H := hid (h hf)
    clear h
    go_enter Tryz.func36, Tryz.ntmps36
    go_wp2_with (go_at_call 12; refine (isField_any _ _).mono ?_; rintro e w' ⟨rfl, rfl⟩)
    refine H.out.mono ?_
    rintro e w' ⟨rfl, hb⟩
    clear H hrun
    cases b with
    | true =>
      go_wp2_with fail
      go_ret
      exact ⟨ret_int (Pl.ask_tt hf).symm, hb⟩
    | false =>
      go_wp2_with fail
      go_ret
      exact ⟨ret_int (Pl.ask_tf hf).symm, hb⟩
theorem cellOf {B : Nat} {w w' : World} (hb : Below B w w') {a : Addr} {v : Value} (h : w.cell? a = some v) (hlt : a.block < B) : w'.cell? a = some v := (hb.cell hlt).trans h
theorem keepC {w w' : World} (hb : Below w.heap.size w w') {a : Addr} {v : Value} (h : w.cell? a = some v) : w'.cell? a = some v := cellOf hb h (World.block_lt_of_cell? w _ h)
theorem keepA {w : World} (o : Obj) {a : Addr} {v : Value} (h : w.cell? a = some v) : (w.alloc o).cell? a = some v := (World.cell?_alloc_lt w o a (World.block_lt_of_cell? w _ h)).trans h
theorem keepAll {w w' : World} (hb : Below w.heap.size w w') : (∀ b o, b < w.heap.size → w'.cell? ⟨b, o, none⟩ = w.cell? ⟨b, o, none⟩) ∧ (∀ b o, b < w.heap.size → w'.frozen? ⟨b, o, none⟩ = w.frozen? ⟨b, o, none⟩) :=
  ⟨fun b o h => hb.cell (p := ⟨b, o, none⟩) h, fun b o h => hb.frozen (p := ⟨b, o, none⟩) h⟩
theorem below_of {B : Nat} {a w w' : World} (h : Below B a w) (h' : Below w.heap.size w w') (hB : B ≤ w.heap.size) : Below B a w' := h.trans (h'.mono hB)
end Go.Proofs.YtbjcbbnfgfmllaaGreatDoor
