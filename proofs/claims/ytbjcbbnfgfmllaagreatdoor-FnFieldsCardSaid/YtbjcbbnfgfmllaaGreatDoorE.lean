/- Contracts: points and lines as both sides test them, differences, areas, products, tests on lines. -/
import Derived.Test.YtbjcbbnfgfmllaaGreatDoorB
import Derived.Deep.RegionHeld3
set_option linter.unusedVariables false
set_option linter.unusedSimpArgs false
set_option maxRecDepth 100000
set_option maxHeartbeats 1000000
namespace Go.Proofs.YtbjcbbnfgfmllaaGreatDoor
open Go.RowKit
theorem isPoint_any (p x y : Int) (w : World) :
    Calls Tryz.prog 64 #[.int .i64 p, .agg #[.int .i64 x, .int .i64 y]] w fun e w' => e = .returned (.bool (Pl.ptB p x y)) ∧ Below w.heap.size w w' := by
  go_enter Tryz.func64, Tryz.ntmps64
  go_wp2_with fail
  refine (areNumbers_any p _ 0 2 2 [x, y] rfl (by omega) _ ?_).mono ?_
  · intro j hj
    match j, hj with
    | 0, _ => go_simp
    | 1, _ => go_simp
  · rintro e w' ⟨rfl, rfl⟩
    rw [Pl.nums2]
    go_wp2_with fail
    go_ret
    exact ⟨rfl, by go_grown⟩
theorem isLine_any (p a b c : Int) (w : World) :
    Calls Tryz.prog 69 #[.int .i64 p, .agg #[.int .i64 a, .int .i64 b, .int .i64 c]] w fun e w' => e = .returned (.bool (Pl.lineB p a b c)) ∧ Below w.heap.size w w' := by
  cases hn : (Pl.numB p a && Pl.numB p b && Pl.numB p c) with
  | false =>
    go_enter Tryz.func69, Tryz.ntmps69
    go_wp2_with fail
    refine (areNumbers_any p _ 0 3 3 [a, b, c] rfl (by omega) _ ?_).mono ?_
    · intro j hj
      match j, hj with
      | 0, _ => go_simp
      | 1, _ => go_simp
      | 2, _ => go_simp
    · rintro e w' ⟨rfl, rfl⟩
      rw [Pl.nums3]
      go_wp2_with fail
      go_ret
      exact ⟨ret_bool (by unfold Pl.lineB; rw [hn]; rfl), by go_grown⟩
  | true =>
    cases e1 : (a == 1) with
    | true =>
      go_enter Tryz.func69, Tryz.ntmps69
      go_wp2_with fail
      refine (areNumbers_any p _ 0 3 3 [a, b, c] rfl (by omega) _ ?_).mono ?_
      · intro j hj
        match j, hj with
        | 0, _ => go_simp
        | 1, _ => go_simp
        | 2, _ => go_simp
      · rintro e w' ⟨rfl, rfl⟩
        rw [Pl.nums3]
        go_wp2_with fail
        go_ret
        exact ⟨ret_bool (by unfold Pl.lineB; rw [hn]; simp [*]), by go_grown⟩
    | false =>
      cases e2 : (a == 0) with
      | false =>
        go_enter Tryz.func69, Tryz.ntmps69
        go_wp2_with fail
        refine (areNumbers_any p _ 0 3 3 [a, b, c] rfl (by omega) _ ?_).mono ?_
        · intro j hj
          match j, hj with
          | 0, _ => go_simp
          | 1, _ => go_simp
          | 2, _ => go_simp
        · rintro e w' ⟨rfl, rfl⟩
          rw [Pl.nums3]
          go_wp2_with fail
          go_ret
          exact ⟨ret_bool (by unfold Pl.lineB; rw [hn]; simp [*]), by go_grown⟩
      | true =>
        cases e3 : (b == 1) with
        | true =>
          go_enter Tryz.func69, Tryz.ntmps69
          go_wp2_with fail
          refine (areNumbers_any p _ 0 3 3 [a, b, c] rfl (by omega) _ ?_).mono ?_
          · intro j hj
            match j, hj with
            | 0, _ => go_simp
            | 1, _ => go_simp
            | 2, _ => go_simp
          · rintro e w' ⟨rfl, rfl⟩
            rw [Pl.nums3]
            go_wp2_with fail
            go_ret
            exact ⟨ret_bool (by unfold Pl.lineB; rw [hn]; simp [*]), by go_grown⟩
        | false =>
          go_enter Tryz.func69, Tryz.ntmps69
          go_wp2_with fail
          refine (areNumbers_any p _ 0 3 3 [a, b, c] rfl (by omega) _ ?_).mono ?_
          · intro j hj
            match j, hj with
            | 0, _ => go_simp
            | 1, _ => go_simp
            | 2, _ => go_simp
          · rintro e w' ⟨rfl, rfl⟩
            rw [Pl.nums3]
            go_wp2_with fail
            go_ret
            exact ⟨ret_bool (by unfold Pl.lineB; rw [hn]; simp [*]), by go_grown⟩
theorem l01Point_any (p x y : Int) (w : World) (hp1 : 1 ≤ p) (hp2 : p ≤ 31) :
    Calls Tryz.prog 88 #[.int .i64 p, .agg #[.int .i64 x, .int .i64 y]] w fun e w' => e = .returned (.bool (Pl.ptB p x y)) ∧ Below w.heap.size w w' := by
  cases h1 : Pl.inB x 0 (p - 1) with
  | false =>
    go_enter Tryz.func88, Tryz.ntmps88
    go_wp2_with (go_at_call 84; refine (l01In_any _ _ _ _).mono ?_; rintro e w' ⟨rfl, rfl⟩)
    go_ret
    exact ⟨ret_bool (by unfold Pl.ptB; rw [← Pl.inB_num, ← Pl.inB_num]; simp [*]), by go_grown⟩
  | true =>
    go_enter Tryz.func88, Tryz.ntmps88
    go_wp2_with (go_at_call 84; refine (l01In_any _ _ _ _).mono ?_; rintro e w' ⟨rfl, rfl⟩)
    go_ret
    exact ⟨ret_bool (by unfold Pl.ptB; rw [← Pl.inB_num, ← Pl.inB_num]; simp [*]), by go_grown⟩
theorem l01Line_any (p a b c : Int) (w : World) (hp1 : 1 ≤ p) (hp2 : p ≤ 31) :
    Calls Tryz.prog 80 #[.int .i64 p, .agg #[.int .i64 a, .int .i64 b, .int .i64 c]] w fun e w' => e = .returned (.bool (Pl.lineB p a b c)) ∧ Below w.heap.size w w' := by
  cases h1 : Pl.inB a 0 (p - 1) with
  | false =>
    go_enter Tryz.func80, Tryz.ntmps80
    go_wp2_with (go_at_call 84; refine (l01In_any _ _ _ _).mono ?_; rintro e w' ⟨rfl, rfl⟩)
    go_ret
    exact ⟨ret_bool (by unfold Pl.lineB; rw [← Pl.inB_num, ← Pl.inB_num, ← Pl.inB_num]; simp [*]), by go_grown⟩
  | true =>
    cases h2 : Pl.inB b 0 (p - 1) with
    | false =>
      go_enter Tryz.func80, Tryz.ntmps80
      go_wp2_with (go_at_call 84; refine (l01In_any _ _ _ _).mono ?_; rintro e w' ⟨rfl, rfl⟩)
      go_ret
      exact ⟨ret_bool (by unfold Pl.lineB; rw [← Pl.inB_num, ← Pl.inB_num, ← Pl.inB_num]; simp [*]), by go_grown⟩
    | true =>
      cases h3 : Pl.inB c 0 (p - 1) with
      | false =>
        go_enter Tryz.func80, Tryz.ntmps80
        go_wp2_with (go_at_call 84; refine (l01In_any _ _ _ _).mono ?_; rintro e w' ⟨rfl, rfl⟩)
        go_ret
        exact ⟨ret_bool (by unfold Pl.lineB; rw [← Pl.inB_num, ← Pl.inB_num, ← Pl.inB_num]; simp [*]), by go_grown⟩
      | true =>
        cases e1 : (a == 1) with
        | true =>
            go_enter Tryz.func80, Tryz.ntmps80
            go_wp2_with (go_at_call 84; refine (l01In_any _ _ _ _).mono ?_; rintro e w' ⟨rfl, rfl⟩)
            go_ret
            exact ⟨ret_bool (by unfold Pl.lineB; rw [← Pl.inB_num, ← Pl.inB_num, ← Pl.inB_num]; simp [*]), by go_grown⟩
        | false =>
          cases e2 : (a == 0) with
          | false =>
              go_enter Tryz.func80, Tryz.ntmps80
              go_wp2_with (go_at_call 84; refine (l01In_any _ _ _ _).mono ?_; rintro e w' ⟨rfl, rfl⟩)
              go_ret
              exact ⟨ret_bool (by unfold Pl.lineB; rw [← Pl.inB_num, ← Pl.inB_num, ← Pl.inB_num]; simp [*]), by go_grown⟩
          | true =>
            cases e3 : (b == 1) with
            | true =>
                go_enter Tryz.func80, Tryz.ntmps80
                go_wp2_with (go_at_call 84; refine (l01In_any _ _ _ _).mono ?_; rintro e w' ⟨rfl, rfl⟩)
                go_ret
                exact ⟨ret_bool (by unfold Pl.lineB; rw [← Pl.inB_num, ← Pl.inB_num, ← Pl.inB_num]; simp [*]), by go_grown⟩
            | false =>
                go_enter Tryz.func80, Tryz.ntmps80
                go_wp2_with (go_at_call 84; refine (l01In_any _ _ _ _).mono ?_; rintro e w' ⟨rfl, rfl⟩)
                go_ret
                exact ⟨ret_bool (by unfold Pl.lineB; rw [← Pl.inB_num, ← Pl.inB_num, ← Pl.inB_num]; simp [*]), by go_grown⟩
theorem arePoints_any (p : Int) (b off n c : Nat) (xs : List (Int × Int)) (hn : xs.length = n) (hm : n ≤ 1000) (w : World) (hb : b < w.heap.size)
    (hc : ∀ j, j < n → w.cell? ⟨b, off + j * 2, none⟩ = some (.int .i64 (xs.getD j (0, 0)).1) ∧ w.cell? ⟨b, off + j * 2 + 1, none⟩ = some (.int .i64 (xs.getD j (0, 0)).2)) :
    Calls Tryz.prog 51 #[.int .i64 p, .slice (some ⟨b, off, none⟩) n c] w fun e w' => e = .returned (.bool (Pl.ptsB p xs)) ∧ Below w.heap.size w w' := by
  have HN := hid hn
  have HC := hid hc
  clear hn hc
  go_enter Tryz.func51, Tryz.ntmps51
  go_wp2_with fail
  go_loopw [9] (fun i wr => ∃ k : Nat, k ≤ n ∧ i = .int .i64 k ∧ Hid ((xs.take k).all (fun x => Pl.ptB p x.1 x.2) = true) ∧ Below w.heap.size w wr) (fun i _ => n - (intOf i).toNat)
  case atStart => exact ⟨0, Nat.zero_le _, rfl, by simp [Hid], Below.refl _ _⟩
  case round =>
    obtain ⟨k, hk, rfl, hall, hB⟩ := hrel
    have hs := hB.size
    by_cases hlt : k < n
    · have hcell := HC.out k hlt
      obtain ⟨hc0, hc1⟩ := hcell
      have hkl : k < xs.length := by have := HN.out; omega
      clear HC
      generalize hx0 : (xs.getD k (0, 0)).1 = x at *
      have HX0 := hid hx0
      clear hx0
      generalize hx1 : (xs.getD k (0, 0)).2 = y at *
      have HX1 := hid hx1
      clear hx1
      replace hc0 := cellOf hB hc0 hb
      replace hc1 := cellOf hB hc1 hb
      cases hbb : Pl.ptB p x y with
      | true =>
        go_wp2_with fail
        refine (isPoint_any _ _ _ _  ).mono ?_
        rintro e w2 ⟨rfl, hb2⟩
        have hB2 : Below w.heap.size w w2 := below_of (by go_grown) hb2 (by first | omega | (simp <;> omega))
        clear hb2 hB
        go_wp2_with fail
        go_roundw
        case rel => exact ⟨k + 1, by omega, by go_num, Pl.allD_step (d := (0, 0)) hkl hall.out (by rw [HX0.out, HX1.out]; exact hbb), hB2⟩
        case measure => simp [intOf]; omega
      | false =>
        go_wp2_with fail
        refine (isPoint_any _ _ _ _  ).mono ?_
        rintro e w2 ⟨rfl, hb2⟩
        have hB2 : Below w.heap.size w w2 := below_of (by go_grown) hb2 (by first | omega | (simp <;> omega))
        clear hb2 hB
        go_wp2_with fail
        go_ret
        exact ⟨ret_bool (Pl.allD_stop (d := (0, 0)) hkl (by rw [HX0.out, HX1.out]; exact hbb)).symm, hB2⟩
    · go_wp2_with fail
      go_ret
      have h := hall.out
      rw [List.take_of_length_le (by have := HN.out; omega)] at h
      exact ⟨ret_bool h.symm, hB⟩
theorem l01Code_any (p : Int) (b off n c : Nat) (xs : List (Int × Int)) (hn : xs.length = n) (hm : n ≤ 1000) (w : World) (hb : b < w.heap.size)
    (hc : ∀ j, j < n → w.cell? ⟨b, off + j * 2, none⟩ = some (.int .i64 (xs.getD j (0, 0)).1) ∧ w.cell? ⟨b, off + j * 2 + 1, none⟩ = some (.int .i64 (xs.getD j (0, 0)).2)) :
    Calls Tryz.prog 53 #[.int .i64 p, .slice (some ⟨b, off, none⟩) n c] w fun e w' => e = .returned (.int .i64 (Pl.ask p (Pl.ptsB p xs))) ∧ Below w.heap.size w w' := by
  cases hf : Pl.fieldB p with
  | false =>
    go_enter Tryz.func53, Tryz.ntmps53
    go_wp2_with (go_at_call 48; refine (l01Field_any _ _).mono ?_; rintro e w' ⟨rfl, rfl⟩)
    go_ret
    exact ⟨ret_int (Pl.ask_f hf).symm, Below.refl _ _⟩
  | true =>
    have hp := Pl.field_bd hf
    obtain ⟨hp1, hp2⟩ := hp
    have HN := hid hn
    have HC := hid hc
    clear hn hc
    go_enter Tryz.func53, Tryz.ntmps53
    go_wp2_with (go_at_call 48; refine (l01Field_any _ _).mono ?_; rintro e w' ⟨rfl, rfl⟩)
    go_loopw [5] (fun i wr => ∃ k : Nat, k ≤ n ∧ i = .int .i64 k ∧ Hid ((xs.take k).all (fun x => Pl.ptB p x.1 x.2) = true) ∧ Below w.heap.size w wr) (fun i _ => n - (intOf i).toNat)
    case atStart => exact ⟨0, Nat.zero_le _, rfl, by simp [Hid], Below.refl _ _⟩
    case round =>
      obtain ⟨k, hk, rfl, hall, hB⟩ := hrel
      have hs := hB.size
      by_cases hlt : k < n
      · have hcell := HC.out k hlt
        obtain ⟨hc0, hc1⟩ := hcell
        have hkl : k < xs.length := by have := HN.out; omega
        clear HC
        generalize hx0 : (xs.getD k (0, 0)).1 = x at *
        have HX0 := hid hx0
        clear hx0
        generalize hx1 : (xs.getD k (0, 0)).2 = y at *
        have HX1 := hid hx1
        clear hx1
        replace hc0 := cellOf hB hc0 hb
        replace hc1 := cellOf hB hc1 hb
        cases hbb : Pl.ptB p x y with
        | true =>
          go_wp2_with fail
          refine (l01Point_any _ _ _ _  (by omega) (by omega)).mono ?_
          rintro e w2 ⟨rfl, hb2⟩
          have hB2 : Below w.heap.size w w2 := below_of (by go_grown) hb2 (by first | omega | (simp <;> omega))
          clear hb2 hB
          go_wp2_with fail
          go_roundw
          case rel => exact ⟨k + 1, by omega, by go_num, Pl.allD_step (d := (0, 0)) hkl hall.out (by rw [HX0.out, HX1.out]; exact hbb), hB2⟩
          case measure => simp [intOf]; omega
        | false =>
          go_wp2_with fail
          refine (l01Point_any _ _ _ _  (by omega) (by omega)).mono ?_
          rintro e w2 ⟨rfl, hb2⟩
          have hB2 : Below w.heap.size w w2 := below_of (by go_grown) hb2 (by first | omega | (simp <;> omega))
          clear hb2 hB
          go_wp2_with fail
          go_ret
          exact ⟨ret_int (by rw [show Pl.ptsB p xs = false from Pl.allD_stop (d := (0, 0)) hkl (by rw [HX0.out, HX1.out]; exact hbb), Pl.ask_tf hf]), hB2⟩
      · go_wp2_with fail
        go_ret
        have h := hall.out
        rw [List.take_of_length_le (by have := HN.out; omega)] at h
        exact ⟨ret_int (by rw [show Pl.ptsB p xs = true from h, Pl.ask_tt hf]), hB⟩
theorem l01Lines_any (p : Int) (b off n c : Nat) (xs : List (Int × Int × Int)) (hn : xs.length = n) (hm : n ≤ 1000) (w : World) (hb : b < w.heap.size)
    (hc : ∀ j, j < n → w.cell? ⟨b, off + j * 3, none⟩ = some (.int .i64 (xs.getD j (0, 0, 0)).1) ∧ w.cell? ⟨b, off + j * 3 + 1, none⟩ = some (.int .i64 (xs.getD j (0, 0, 0)).2.1) ∧ w.cell? ⟨b, off + j * 3 + 2, none⟩ = some (.int .i64 (xs.getD j (0, 0, 0)).2.2)) :
    Calls Tryz.prog 71 #[.int .i64 p, .slice (some ⟨b, off, none⟩) n c] w fun e w' => e = .returned (.int .i64 (Pl.ask p (Pl.linesB p xs))) ∧ Below w.heap.size w w' := by
  cases hf : Pl.fieldB p with
  | false =>
    go_enter Tryz.func71, Tryz.ntmps71
    go_wp2_with (go_at_call 48; refine (l01Field_any _ _).mono ?_; rintro e w' ⟨rfl, rfl⟩)
    go_ret
    exact ⟨ret_int (Pl.ask_f hf).symm, Below.refl _ _⟩
  | true =>
    have hp := Pl.field_bd hf
    obtain ⟨hp1, hp2⟩ := hp
    have HN := hid hn
    have HC := hid hc
    clear hn hc
    go_enter Tryz.func71, Tryz.ntmps71
    go_wp2_with (go_at_call 48; refine (l01Field_any _ _).mono ?_; rintro e w' ⟨rfl, rfl⟩)
    go_loopw [5] (fun i wr => ∃ k : Nat, k ≤ n ∧ i = .int .i64 k ∧ Hid ((xs.take k).all (fun x => Pl.lineB p x.1 x.2.1 x.2.2) = true) ∧ Below w.heap.size w wr) (fun i _ => n - (intOf i).toNat)
    case atStart => exact ⟨0, Nat.zero_le _, rfl, by simp [Hid], Below.refl _ _⟩
    case round =>
      obtain ⟨k, hk, rfl, hall, hB⟩ := hrel
      have hs := hB.size
      by_cases hlt : k < n
      · have hcell := HC.out k hlt
        obtain ⟨hc0, hc1, hc2⟩ := hcell
        have hkl : k < xs.length := by have := HN.out; omega
        clear HC
        generalize hx0 : (xs.getD k (0, 0, 0)).1 = x at *
        have HX0 := hid hx0
        clear hx0
        generalize hx1 : (xs.getD k (0, 0, 0)).2.1 = y at *
        have HX1 := hid hx1
        clear hx1
        generalize hx2 : (xs.getD k (0, 0, 0)).2.2 = z at *
        have HX2 := hid hx2
        clear hx2
        replace hc0 := cellOf hB hc0 hb
        replace hc1 := cellOf hB hc1 hb
        replace hc2 := cellOf hB hc2 hb
        cases hbb : Pl.lineB p x y z with
        | true =>
          go_wp2_with fail
          refine (l01Line_any _ _ _ _ _  (by omega) (by omega)).mono ?_
          rintro e w2 ⟨rfl, hb2⟩
          have hB2 : Below w.heap.size w w2 := below_of (by go_grown) hb2 (by first | omega | (simp <;> omega))
          clear hb2 hB
          go_wp2_with fail
          go_roundw
          case rel => exact ⟨k + 1, by omega, by go_num, Pl.allD_step (d := (0, 0, 0)) hkl hall.out (by rw [HX0.out, HX1.out, HX2.out]; exact hbb), hB2⟩
          case measure => simp [intOf]; omega
        | false =>
          go_wp2_with fail
          refine (l01Line_any _ _ _ _ _  (by omega) (by omega)).mono ?_
          rintro e w2 ⟨rfl, hb2⟩
          have hB2 : Below w.heap.size w w2 := below_of (by go_grown) hb2 (by first | omega | (simp <;> omega))
          clear hb2 hB
          go_wp2_with fail
          go_ret
          exact ⟨ret_int (by rw [show Pl.linesB p xs = false from Pl.allD_stop (d := (0, 0, 0)) hkl (by rw [HX0.out, HX1.out, HX2.out]; exact hbb), Pl.ask_tf hf]), hB2⟩
      · go_wp2_with fail
        go_ret
        have h := hall.out
        rw [List.take_of_length_le (by have := HN.out; omega)] at h
        exact ⟨ret_int (by rw [show Pl.linesB p xs = true from h, Pl.ask_tt hf]), hB⟩
end Go.Proofs.YtbjcbbnfgfmllaaGreatDoor
