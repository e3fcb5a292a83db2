/- Contracts: numbers of Archimedes, triple spreads, of both sides. -/
import Derived.Test.YtbjcbbnfgfmllaaB
set_option linter.unusedVariables false
set_option linter.unusedSimpArgs false
set_option maxRecDepth 100000
set_option maxHeartbeats 1000000
namespace Go.Proofs.Ytbjcbbnfgfmllaa
open Go.RowKit
theorem archimedes_any (p a b c : Int) (w : World) (hp : 1 ≤ p) (hp2 : p ≤ 31) (ha : 0 ≤ a) (ha2 : a ≤ 31) (hb : 0 ≤ b) (hb2 : b ≤ 31) (hc : 0 ≤ c) (hc2 : c ≤ 31) :
    Calls Try.prog 119 #[.int .i64 p, .int .i64 a, .int .i64 b, .int .i64 c] w fun e w' => e = .returned (.int .i64 (Pl.arch p a b c)) ∧ w = w' := by
  have h1 := Pl.mulB (show 0 ≤ a + b + c by omega) (show a + b + c ≤ 93 by omega) (show 0 ≤ a + b + c by omega) (show a + b + c ≤ 93 by omega)
  have h2 := Pl.mulB ha ha2 ha ha2
  have h3 := Pl.mulB hb hb2 hb hb2
  have h4 := Pl.mulB hc hc2 hc hc2
  obtain ⟨h11, h12⟩ := h1
  obtain ⟨h21, h22⟩ := h2
  obtain ⟨h31, h32⟩ := h3
  obtain ⟨h41, h42⟩ := h4
  go_enter Try.func119, Try.ntmps119
  go_wp2_with (go_at_call 70; refine (rest_any _ _ _ hp (by omega)).mono ?_; rintro e w' ⟨rfl, rfl⟩)
  go_ret
  exact ⟨rfl, rfl⟩
theorem l02Archimedes_any (p a b c : Int) (w : World) (hp : 1 ≤ p) (hp2 : p ≤ 31) (ha : 0 ≤ a) (ha2 : a ≤ 31) (hb : 0 ≤ b) (hb2 : b ≤ 31) (hc : 0 ≤ c) (hc2 : c ≤ 31) :
    Calls Try.prog 120 #[.int .i64 p, .int .i64 a, .int .i64 b, .int .i64 c] w fun e w' => e = .returned (.int .i64 (Pl.arch p a b c)) ∧ w = w' := by
  have h1 := Pl.mulB (show 0 ≤ a + b + c by omega) (show a + b + c ≤ 93 by omega) (show 0 ≤ a + b + c by omega) (show a + b + c ≤ 93 by omega)
  have h2 := Pl.mulB ha ha2 ha ha2
  have h3 := Pl.mulB hb hb2 hb hb2
  have h4 := Pl.mulB hc hc2 hc hc2
  obtain ⟨h11, h12⟩ := h1
  obtain ⟨h21, h22⟩ := h2
  obtain ⟨h31, h32⟩ := h3
  obtain ⟨h41, h42⟩ := h4
  go_enter Try.func120, Try.ntmps120
  go_wp2_with (go_at_call 71; refine (l01Mod_any _ _ _ hp (by omega)).mono ?_; rintro e w' ⟨rfl, rfl⟩)
  go_ret
  exact ⟨rfl, rfl⟩
theorem areTriple_any (p a b c : Int) (w : World) (hp : 1 ≤ p) (hp2 : p ≤ 31) (ha : 0 ≤ a) (ha2 : a ≤ 31) (hb : 0 ≤ b) (hb2 : b ≤ 31) (hc : 0 ≤ c) (hc2 : c ≤ 31) :
    Calls Try.prog 87 #[.int .i64 p, .int .i64 a, .int .i64 b, .int .i64 c] w fun e w' => e = .returned (.bool (Pl.tripleB p a b c)) ∧ w = w' := by
  have h1 := Pl.mulB (show 0 ≤ a + b + c by omega) (show a + b + c ≤ 93 by omega) (show 0 ≤ a + b + c by omega) (show a + b + c ≤ 93 by omega)
  have h2 := Pl.mulB ha ha2 ha ha2
  have h3 := Pl.mulB hb hb2 hb hb2
  have h4 := Pl.mulB hc hc2 hc hc2
  obtain ⟨h11, h12⟩ := h1
  obtain ⟨h21, h22⟩ := h2
  obtain ⟨h31, h32⟩ := h3
  obtain ⟨h41, h42⟩ := h4
  have h5 := Pl.mulB (show 0 ≤ 4 * a by omega) (show 4 * a ≤ 124 by omega) hb hb2
  obtain ⟨h51, h52⟩ := h5
  have h6 := Pl.mulB h51 h52 hc hc2
  obtain ⟨h61, h62⟩ := h6
  go_enter Try.func87, Try.ntmps87
  go_wp2_with (go_at_call 70; refine (rest_any _ _ _ hp (by omega)).mono ?_; rintro e w' ⟨rfl, rfl⟩)
  go_ret
  exact ⟨rfl, rfl⟩
theorem l03Triple_any (p a b c : Int) (w : World) (hp : 1 ≤ p) (hp2 : p ≤ 31) (ha : 0 ≤ a) (ha2 : a ≤ 31) (hb : 0 ≤ b) (hb2 : b ≤ 31) (hc : 0 ≤ c) (hc2 : c ≤ 31) :
    Calls Try.prog 98 #[.int .i64 p, .int .i64 a, .int .i64 b, .int .i64 c] w fun e w' => e = .returned (.bool (Pl.tripleB p a b c)) ∧ w = w' := by
  have h1 := Pl.mulB (show 0 ≤ a + b + c by omega) (show a + b + c ≤ 93 by omega) (show 0 ≤ a + b + c by omega) (show a + b + c ≤ 93 by omega)
  have h2 := Pl.mulB ha ha2 ha ha2
  have h3 := Pl.mulB hb hb2 hb hb2
  have h4 := Pl.mulB hc hc2 hc hc2
  obtain ⟨h11, h12⟩ := h1
  obtain ⟨h21, h22⟩ := h2
  obtain ⟨h31, h32⟩ := h3
  obtain ⟨h41, h42⟩ := h4
  have h5 := Pl.mulB (show 0 ≤ 4 * a by omega) (show 4 * a ≤ 124 by omega) hb hb2
  obtain ⟨h51, h52⟩ := h5
  have h6 := Pl.mulB h51 h52 hc hc2
  obtain ⟨h61, h62⟩ := h6
  go_enter Try.func98, Try.ntmps98
  go_wp2_with (go_at_call 71; refine (l01Mod_any _ _ _ hp (by omega)).mono ?_; rintro e w' ⟨rfl, rfl⟩)
  go_ret
  exact ⟨rfl, rfl⟩
theorem ArchimedesOf1_any (p a b c : Int) (b0 b1 b2 b3 : Nat) (w : World) (c00 : w.cell? ⟨b0, 0, none⟩ = some (.int .i64 p)) (c10 : w.cell? ⟨b1, 0, none⟩ = some (.int .i64 a)) (c20 : w.cell? ⟨b2, 0, none⟩ = some (.int .i64 b)) (c30 : w.cell? ⟨b3, 0, none⟩ = some (.int .i64 c)) :
    Calls Try.prog 118 #[.pointer (some ⟨b0, 0, none⟩), .pointer (some ⟨b1, 0, none⟩), .pointer (some ⟨b2, 0, none⟩), .pointer (some ⟨b3, 0, none⟩)] w fun e w' => e = .returned (.bool (Pl.numB p a && Pl.numB p b && Pl.numB p c)) ∧ Below w.heap.size w w' := by
  go_enter Try.func118, Try.ntmps118
  go_wp2_with fail
  refine (areNumbers_any p _ 0 3 3 [a, b, c] rfl (by omega) _ ?_).mono ?_
  · intro j hj
    match j, hj with
    | 0, _ => go_simp
    | 1, _ => go_simp
    | 2, _ => go_simp
  · rintro e w' ⟨rfl, rfl⟩
    rw [Pl.nums3]
    go_wp2_with fail
    go_ret
    exact ⟨rfl, by go_grown⟩
theorem ArchimedesOf_any (p a b c : Int) (w : World) :
    Calls Try.prog 44 #[.int .i64 p, .int .i64 a, .int .i64 b, .int .i64 c] w fun e w' => e = .returned (.tuple #[.int .i64 ((Pl.archOf p a b c).1), .int .i64 ((Pl.archOf p a b c).2)]) ∧ Below w.heap.size w w' := by
  by_cases h0 : Pl.ask p (Pl.numB p a && Pl.numB p b && Pl.numB p c) = 0
  · have hfin : Hid (Pl.archOf p a b c = (Pl.arch p a b c, 0)) := by unfold Hid Pl.archOf; rw [if_pos h0]
    have hv : Hid (Pl.fieldB p = true ∧ (Pl.numB p a && Pl.numB p b && Pl.numB p c) = true) := Pl.ask_ok h0
    have hp := Pl.field_bd hv.out.1
    obtain ⟨hp1, hp2⟩ := hp
    obtain ⟨⟨ha1, ha2⟩, ⟨hb1, hb2⟩, hc1, hc2⟩ := Pl.num3 hv.out.2
    go_enter Try.func44, Try.ntmps44
    go_wp2_with fail
    refine (asked_any p _ _ (Pl.numB p a && Pl.numB p b && Pl.numB p c) _ (by kernel_rfl) ?_).mono ?_
    · intro _
      exact ArchimedesOf1_any p a b c _ _ _ _ _ (by go_simp) (by go_simp) (by go_simp) (by go_simp)
    · rintro e w1 ⟨rfl, hb⟩
      have c00 : w1.cell? ⟨w.heap.size, 0, none⟩ = some (.int .i64 p) := cellOf hb (by go_simp) (by simp <;> omega)
      have c10 : w1.cell? ⟨w.heap.size + 1, 0, none⟩ = some (.int .i64 a) := cellOf hb (by go_simp) (by simp <;> omega)
      have c20 : w1.cell? ⟨w.heap.size + 2, 0, none⟩ = some (.int .i64 b) := cellOf hb (by go_simp) (by simp <;> omega)
      have c30 : w1.cell? ⟨w.heap.size + 3, 0, none⟩ = some (.int .i64 c) := cellOf hb (by go_simp) (by simp <;> omega)
      have hz : w.heap.size + 4 ≤ w1.heap.size := by have := hb.size; simp at this; omega
      have hB : Below w.heap.size w w1 := below_of (by go_grown) hb (by simp <;> omega)
      clear hb
      go_wp2_with (go_at_call 119; refine (archimedes_any _ _ _ _ _ (by omega) (by omega) (by omega) (by omega) (by omega) (by omega) (by omega) (by omega)).mono ?_; rintro e w' ⟨rfl, rfl⟩)
      go_ret2
      exact ⟨ret_ii (by rw [hfin.out]) (by rw [hfin.out]), hB⟩
  · have hne : (Pl.ask p (Pl.numB p a && Pl.numB p b && Pl.numB p c) != 0) = true := by simpa using h0
    have hfin : Hid (Pl.archOf p a b c = (0, Pl.ask p (Pl.numB p a && Pl.numB p b && Pl.numB p c))) := by unfold Hid Pl.archOf; rw [if_neg h0]
    clear h0
    go_enter Try.func44, Try.ntmps44
    go_wp2_with fail
    refine (asked_any p _ _ (Pl.numB p a && Pl.numB p b && Pl.numB p c) _ (by kernel_rfl) ?_).mono ?_
    · intro _
      exact ArchimedesOf1_any p a b c _ _ _ _ _ (by go_simp) (by go_simp) (by go_simp) (by go_simp)
    · rintro e w1 ⟨rfl, hb⟩
      have hB : Below w.heap.size w w1 := below_of (by go_grown) hb (by simp <;> omega)
      clear hb
      go_wp2_with fail
      go_ret2
      exact ⟨ret_ii (by rw [hfin.out]) (by rw [hfin.out]), hB⟩
theorem sArchimedesOf_any (p a b c : Int) (w : World) :
    Calls Try.prog 45 #[.int .i64 p, .int .i64 a, .int .i64 b, .int .i64 c] w fun e w' => e = .returned (.tuple #[.int .i64 ((Pl.archOf p a b c).1), .int .i64 ((Pl.archOf p a b c).2)]) ∧ Below w.heap.size w w' := by
  by_cases h0 : Pl.ask p (Pl.numB p a && Pl.numB p b && Pl.numB p c) = 0
  · have hfin : Hid (Pl.archOf p a b c = (Pl.arch p a b c, 0)) := by unfold Hid Pl.archOf; rw [if_pos h0]
    have hv : Hid (Pl.fieldB p = true ∧ (Pl.numB p a && Pl.numB p b && Pl.numB p c) = true) := Pl.ask_ok h0
    have hp := Pl.field_bd hv.out.1
    obtain ⟨hp1, hp2⟩ := hp
    obtain ⟨⟨ha1, ha2⟩, ⟨hb1, hb2⟩, hc1, hc2⟩ := Pl.num3 hv.out.2
    go_enter Try.func45, Try.ntmps45
    go_wp2_with fail
    refine (l01Numbers_any p _ 0 3 3 [a, b, c] rfl (by omega) _ ?_).mono ?_
    · intro j hj
      match j, hj with
      | 0, _ => go_simp
      | 1, _ => go_simp
      | 2, _ => go_simp
    · rintro e w' ⟨rfl, rfl⟩
      rw [Pl.nums3]
      go_wp2_with (go_at_call 120; refine (l02Archimedes_any _ _ _ _ _ (by omega) (by omega) (by omega) (by omega) (by omega) (by omega) (by omega) (by omega)).mono ?_; rintro e w' ⟨rfl, rfl⟩)
      go_ret2
      exact ⟨ret_ii (by rw [hfin.out]) (by rw [hfin.out]), by go_grown⟩
  · have hne : (Pl.ask p (Pl.numB p a && Pl.numB p b && Pl.numB p c) != 0) = true := by simpa using h0
    have hfin : Hid (Pl.archOf p a b c = (0, Pl.ask p (Pl.numB p a && Pl.numB p b && Pl.numB p c))) := by unfold Hid Pl.archOf; rw [if_neg h0]
    clear h0
    go_enter Try.func45, Try.ntmps45
    go_wp2_with fail
    refine (l01Numbers_any p _ 0 3 3 [a, b, c] rfl (by omega) _ ?_).mono ?_
    · intro j hj
      match j, hj with
      | 0, _ => go_simp
      | 1, _ => go_simp
      | 2, _ => go_simp
    · rintro e w' ⟨rfl, rfl⟩
      rw [Pl.nums3]
      go_wp2_with fail
      go_ret2
      exact ⟨ret_ii (by rw [hfin.out]) (by rw [hfin.out]), by go_grown⟩
theorem AreTripleSpreads1_any (p a b c : Int) (b0 b1 b2 b3 : Nat) (w : World) (c00 : w.cell? ⟨b0, 0, none⟩ = some (.int .i64 p)) (c10 : w.cell? ⟨b1, 0, none⟩ = some (.int .i64 a)) (c20 : w.cell? ⟨b2, 0, none⟩ = some (.int .i64 b)) (c30 : w.cell? ⟨b3, 0, none⟩ = some (.int .i64 c)) :
    Calls Try.prog 85 #[.pointer (some ⟨b0, 0, none⟩), .pointer (some ⟨b1, 0, none⟩), .pointer (some ⟨b2, 0, none⟩), .pointer (some ⟨b3, 0, none⟩)] w fun e w' => e = .returned (.bool (Pl.numB p a && Pl.numB p b && Pl.numB p c)) ∧ Below w.heap.size w w' := by
  go_enter Try.func85, Try.ntmps85
  go_wp2_with fail
  refine (areNumbers_any p _ 0 3 3 [a, b, c] rfl (by omega) _ ?_).mono ?_
  · intro j hj
    match j, hj with
    | 0, _ => go_simp
    | 1, _ => go_simp
    | 2, _ => go_simp
  · rintro e w' ⟨rfl, rfl⟩
    rw [Pl.nums3]
    go_wp2_with fail
    go_ret
    exact ⟨rfl, by go_grown⟩
theorem AreTripleSpreads_any (p a b c : Int) (w : World) :
    Calls Try.prog 21 #[.int .i64 p, .int .i64 a, .int .i64 b, .int .i64 c] w fun e w' => e = .returned (.tuple #[.bool ((Pl.tripleOf p a b c).1), .int .i64 ((Pl.tripleOf p a b c).2)]) ∧ Below w.heap.size w w' := by
  by_cases h0 : Pl.ask p (Pl.numB p a && Pl.numB p b && Pl.numB p c) = 0
  · have hfin : Hid (Pl.tripleOf p a b c = (Pl.tripleB p a b c, 0)) := by unfold Hid Pl.tripleOf; rw [if_pos h0]
    have hv : Hid (Pl.fieldB p = true ∧ (Pl.numB p a && Pl.numB p b && Pl.numB p c) = true) := Pl.ask_ok h0
    have hp := Pl.field_bd hv.out.1
    obtain ⟨hp1, hp2⟩ := hp
    obtain ⟨⟨ha1, ha2⟩, ⟨hb1, hb2⟩, hc1, hc2⟩ := Pl.num3 hv.out.2
    go_enter Try.func21, Try.ntmps21
    go_wp2_with fail
    refine (asked_any p _ _ (Pl.numB p a && Pl.numB p b && Pl.numB p c) _ (by kernel_rfl) ?_).mono ?_
    · intro _
      exact AreTripleSpreads1_any p a b c _ _ _ _ _ (by go_simp) (by go_simp) (by go_simp) (by go_simp)
    · rintro e w1 ⟨rfl, hb⟩
      have c00 : w1.cell? ⟨w.heap.size, 0, none⟩ = some (.int .i64 p) := cellOf hb (by go_simp) (by simp <;> omega)
      have c10 : w1.cell? ⟨w.heap.size + 1, 0, none⟩ = some (.int .i64 a) := cellOf hb (by go_simp) (by simp <;> omega)
      have c20 : w1.cell? ⟨w.heap.size + 2, 0, none⟩ = some (.int .i64 b) := cellOf hb (by go_simp) (by simp <;> omega)
      have c30 : w1.cell? ⟨w.heap.size + 3, 0, none⟩ = some (.int .i64 c) := cellOf hb (by go_simp) (by simp <;> omega)
      have hz : w.heap.size + 4 ≤ w1.heap.size := by have := hb.size; simp at this; omega
      have hB : Below w.heap.size w w1 := below_of (by go_grown) hb (by simp <;> omega)
      clear hb
      go_wp2_with (go_at_call 87; refine (areTriple_any _ _ _ _ _ (by omega) (by omega) (by omega) (by omega) (by omega) (by omega) (by omega) (by omega)).mono ?_; rintro e w' ⟨rfl, rfl⟩)
      go_ret2
      exact ⟨ret_bi (by rw [hfin.out]) (by rw [hfin.out]), hB⟩
  · have hne : (Pl.ask p (Pl.numB p a && Pl.numB p b && Pl.numB p c) != 0) = true := by simpa using h0
    have hfin : Hid (Pl.tripleOf p a b c = (false, Pl.ask p (Pl.numB p a && Pl.numB p b && Pl.numB p c))) := by unfold Hid Pl.tripleOf; rw [if_neg h0]
    clear h0
    go_enter Try.func21, Try.ntmps21
    go_wp2_with fail
    refine (asked_any p _ _ (Pl.numB p a && Pl.numB p b && Pl.numB p c) _ (by kernel_rfl) ?_).mono ?_
    · intro _
      exact AreTripleSpreads1_any p a b c _ _ _ _ _ (by go_simp) (by go_simp) (by go_simp) (by go_simp)
    · rintro e w1 ⟨rfl, hb⟩
      have hB : Below w.heap.size w w1 := below_of (by go_grown) hb (by simp <;> omega)
      clear hb
      go_wp2_with fail
      go_ret2
      exact ⟨ret_bi (by rw [hfin.out]) (by rw [hfin.out]), hB⟩
theorem sAreTripleSpreads_any (p a b c : Int) (w : World) :
    Calls Try.prog 26 #[.int .i64 p, .int .i64 a, .int .i64 b, .int .i64 c] w fun e w' => e = .returned (.tuple #[.bool ((Pl.tripleOf p a b c).1), .int .i64 ((Pl.tripleOf p a b c).2)]) ∧ Below w.heap.size w w' := by
  by_cases h0 : Pl.ask p (Pl.numB p a && Pl.numB p b && Pl.numB p c) = 0
  · have hfin : Hid (Pl.tripleOf p a b c = (Pl.tripleB p a b c, 0)) := by unfold Hid Pl.tripleOf; rw [if_pos h0]
    have hv : Hid (Pl.fieldB p = true ∧ (Pl.numB p a && Pl.numB p b && Pl.numB p c) = true) := Pl.ask_ok h0
    have hp := Pl.field_bd hv.out.1
    obtain ⟨hp1, hp2⟩ := hp
    obtain ⟨⟨ha1, ha2⟩, ⟨hb1, hb2⟩, hc1, hc2⟩ := Pl.num3 hv.out.2
    go_enter Try.func26, Try.ntmps26
    go_wp2_with fail
    refine (l01Numbers_any p _ 0 3 3 [a, b, c] rfl (by omega) _ ?_).mono ?_
    · intro j hj
      match j, hj with
      | 0, _ => go_simp
      | 1, _ => go_simp
      | 2, _ => go_simp
    · rintro e w' ⟨rfl, rfl⟩
      rw [Pl.nums3]
      go_wp2_with (go_at_call 98; refine (l03Triple_any _ _ _ _ _ (by omega) (by omega) (by omega) (by omega) (by omega) (by omega) (by omega) (by omega)).mono ?_; rintro e w' ⟨rfl, rfl⟩)
      go_ret2
      exact ⟨ret_bi (by rw [hfin.out]) (by rw [hfin.out]), by go_grown⟩
  · have hne : (Pl.ask p (Pl.numB p a && Pl.numB p b && Pl.numB p c) != 0) = true := by simpa using h0
    have hfin : Hid (Pl.tripleOf p a b c = (false, Pl.ask p (Pl.numB p a && Pl.numB p b && Pl.numB p c))) := by unfold Hid Pl.tripleOf; rw [if_neg h0]
    clear h0
    go_enter Try.func26, Try.ntmps26
    go_wp2_with fail
    refine (l01Numbers_any p _ 0 3 3 [a, b, c] rfl (by omega) _ ?_).mono ?_
    · intro j hj
      match j, hj with
      | 0, _ => go_simp
      | 1, _ => go_simp
      | 2, _ => go_simp
    · rintro e w' ⟨rfl, rfl⟩
      rw [Pl.nums3]
      go_wp2_with fail
      go_ret2
      exact ⟨ret_bi (by rw [hfin.out]) (by rw [hfin.out]), by go_grown⟩
end Go.Proofs.Ytbjcbbnfgfmllaa
