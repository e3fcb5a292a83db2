/- Contracts: points at a quadrance and their number: exported functions of both sides. -/
import Derived.Test.YtbjcbbnfgfmllaaSu
set_option linter.unusedVariables false
set_option linter.unusedSimpArgs false
set_option maxHeartbeats 1000000
set_option maxRecDepth 100000
namespace Go.Proofs.Ytbjcbbnfgfmllaa
open Go.RowKit
theorem CountAt1_any (p k q : Int) (b0 b1 b2 : Nat) (w : World) (c00 : w.cell? ⟨b0, 0, none⟩ = some (.int .i64 p)) (c10 : w.cell? ⟨b1, 0, none⟩ = some (.int .i64 k)) (c20 : w.cell? ⟨b2, 0, none⟩ = some (.int .i64 q)) :
    Calls Try.prog 116 #[.pointer (some ⟨b1, 0, none⟩), .pointer (some ⟨b0, 0, none⟩), .pointer (some ⟨b2, 0, none⟩)] w fun e w' => e = .returned (.bool (Pl.colB k && Pl.numB p q)) ∧ Below w.heap.size w w' := by
  cases hk : Pl.colB k with
  | false =>
    go_enter Try.func116, Try.ntmps116
    go_wp2_with (first | (go_at_call 75; refine (isColour_any _ _).mono ?_; rintro e w' ⟨rfl, rfl⟩) | (go_at_call 113; refine (isNumber_any _ _ _).mono ?_; rintro e w' ⟨rfl, rfl⟩))
    go_ret
    exact ⟨rfl, Below.refl _ _⟩
  | true =>
    go_enter Try.func116, Try.ntmps116
    go_wp2_with (first | (go_at_call 75; refine (isColour_any _ _).mono ?_; rintro e w' ⟨rfl, rfl⟩) | (go_at_call 113; refine (isNumber_any _ _ _).mono ?_; rintro e w' ⟨rfl, rfl⟩))
    go_ret
    exact ⟨rfl, Below.refl _ _⟩
theorem CountAt_any (p k q : Int) (w : World) :
    Calls Try.prog 41 #[.int .i64 p, .int .i64 k, .int .i64 q] w fun e w' => e = .returned (.tuple #[.int .i64 ((Pl.cntOf p k q).1), .int .i64 ((Pl.cntOf p k q).2)]) ∧ Below w.heap.size w w' := by
  by_cases h0 : Pl.ask p (Pl.colB k && Pl.numB p q) = 0
  · have hfin : Hid (Pl.cntOf p k q = (Pl.cntAt p k q, 0)) := by unfold Hid Pl.cntOf; rw [if_pos h0]
    have hv : Hid (Pl.fieldB p = true ∧ (Pl.colB k && Pl.numB p q) = true) := Pl.ask_ok h0
    have hp := Pl.field_bd hv.out.1
    obtain ⟨hp1, hp2⟩ := hp
    have hv2 := hv.out.2
    simp only [Bool.and_eq_true] at hv2
    obtain ⟨q1, q2⟩ := Pl.numB_true hv2.2
    clear hv2
    go_enter Try.func41, Try.ntmps41
    go_wp2_with fail
    refine (asked_any p _ _ (Pl.colB k && Pl.numB p q) _ (by kernel_rfl) ?_).mono ?_
    · intro _
      exact CountAt1_any p k q _ _ _ _ (by go_simp) (by go_simp) (by go_simp)
    · rintro e w1 ⟨rfl, hb⟩
      have c00 : w1.cell? ⟨w.heap.size, 0, none⟩ = some (.int .i64 p) := cellOf hb (by go_simp) (by simp <;> omega)
      have c10 : w1.cell? ⟨w.heap.size + 1, 0, none⟩ = some (.int .i64 k) := cellOf hb (by go_simp) (by simp <;> omega)
      have c20 : w1.cell? ⟨w.heap.size + 2, 0, none⟩ = some (.int .i64 q) := cellOf hb (by go_simp) (by simp <;> omega)
      have hz : w.heap.size + 3 ≤ w1.heap.size := by have := hb.size; simp at this; omega
      have hB : Below w.heap.size w w1 := below_of (by go_grown) hb (by simp <;> omega)
      clear hb
      go_wp2_with fail
      refine (pointsAt_any p k 0 0 q w1 (by omega) (by omega) (by omega) (by omega) (by omega) (by omega)).mono ?_
      rintro e w2 ⟨g, c, rfl, hO, hb⟩
      have hln := hid (Pl.ptsW_len (P := fun b => Pl.quad p k 0 0 b.1 b.2 == q) (p := p) (by omega) (by omega))
      have hB' := below_of hB hb hB.size
      clear hO hB hb
      generalize hX : (Pl.ptsW (fun b => Pl.quad p k 0 0 b.1 b.2 == q) p).length = m at *
      have HX := hid hX
      clear hX
      have hm := hln.out
      have hcast : IntKind.i64.wrap (m : Int) = (m : Int) := IntWalk.i64_in _ (by omega)
      go_wp2_with fail
      go_ret2
      exact ⟨ret_ii (by rw [hfin.out, ← HX.out]; rfl) (by rw [hfin.out]), hB'⟩
  · have hne : (Pl.ask p (Pl.colB k && Pl.numB p q) != 0) = true := by simpa using h0
    have hne2 : (Pl.ask p (Pl.colB k && Pl.numB p q) == 0) = false := by simpa using h0
    have hfin : Hid (Pl.cntOf p k q = (0, Pl.ask p (Pl.colB k && Pl.numB p q))) := by unfold Hid Pl.cntOf; rw [if_neg h0]
    clear h0
    go_enter Try.func41, Try.ntmps41
    go_wp2_with fail
    refine (asked_any p _ _ (Pl.colB k && Pl.numB p q) _ (by kernel_rfl) ?_).mono ?_
    · intro _
      exact CountAt1_any p k q _ _ _ _ (by go_simp) (by go_simp) (by go_simp)
    · rintro e w1 ⟨rfl, hb⟩
      have hB : Below w.heap.size w w1 := below_of (by go_grown) hb (by simp <;> omega)
      clear hb
      go_wp2_with fail
      go_ret2
      exact ⟨ret_ii (by rw [hfin.out]) (by rw [hfin.out]), hB⟩
theorem sCountAt_any (p k q : Int) (w : World) :
    Calls Try.prog 42 #[.int .i64 p, .int .i64 k, .int .i64 q] w fun e w' => e = .returned (.tuple #[.int .i64 ((Pl.cntOf p k q).1), .int .i64 ((Pl.cntOf p k q).2)]) ∧ Below w.heap.size w w' := by
  by_cases h1 : Pl.ask p (Pl.numB p q) = 0
  · have hv := Pl.ask_ok h1
    have hf := hv.1
    have hp := Pl.field_bd hf
    obtain ⟨hp1, hp2⟩ := hp
    obtain ⟨q1, q2⟩ := Pl.numB_true hv.2
    have hq := hid (show Pl.ask p (Pl.colB k && Pl.numB p q) = if Pl.colB k = true then 0 else 2 by rw [hv.2, Bool.and_true]; unfold Pl.ask; rw [if_pos hf])
    clear hv
    have H1 := hid h1
    clear h1
    cases hk : Pl.colB k with
    | false =>
      have hz := hid (show Pl.ask p (Pl.colB k && Pl.numB p q) = 2 by rw [hq.out, hk]; rfl)
      have hfin : Hid (Pl.cntOf p k q = (0, 2)) := by unfold Hid Pl.cntOf; rw [hz.out]; rfl
      go_enter Try.func42, Try.ntmps42
      go_wp2_with fail
      refine (l01Numbers_any p _ 0 1 1 [q] rfl (by omega) _ ?_).mono ?_
      · intro j hj
        match j, hj with
        | 0, _ => go_simp
      · rintro e w1 ⟨rfl, rfl⟩
        rw [Pl.nums1, H1.out]
        go_wp2_with (go_at_call 117; refine (l02Colour_any _ _).mono ?_; rintro e w' ⟨rfl, rfl⟩)
        go_ret2
        exact ⟨ret_ii (by rw [hfin.out]) (by rw [hfin.out]), by go_grown⟩
    | true =>
      have hz := hid (show Pl.ask p (Pl.colB k && Pl.numB p q) = 0 by rw [hq.out, hk]; rfl)
      have hfin : Hid (Pl.cntOf p k q = (Pl.cntAt p k q, 0)) := by unfold Hid Pl.cntOf; rw [if_pos hz.out]
      go_enter Try.func42, Try.ntmps42
      go_wp2_with fail
      refine (l01Numbers_any p _ 0 1 1 [q] rfl (by omega) _ ?_).mono ?_
      · intro j hj
        match j, hj with
        | 0, _ => go_simp
      · rintro e w1 ⟨rfl, rfl⟩
        rw [Pl.nums1, H1.out]
        go_wp2_with (go_at_call 117; refine (l02Colour_any _ _).mono ?_; rintro e w' ⟨rfl, rfl⟩)
        have hB : Below w.heap.size w (World.alloc w (.cells #[.int .i64 q] 2)) := (Below.refl _ _).alloc (Nat.le_refl _) _
        refine (l02At_any p k 0 0 q _ (by omega) (by omega) (by omega) (by omega) (by omega) (by omega)).mono ?_
        rintro e w2 ⟨g, c, rfl, hO, hb⟩
        have hln := hid (Pl.ptsW_len (P := fun b => Pl.quad p k 0 0 b.1 b.2 == q) (p := p) (by omega) (by omega))
        have hB' := below_of hB hb hB.size
        clear hO hB hb
        generalize hX : (Pl.ptsW (fun b => Pl.quad p k 0 0 b.1 b.2 == q) p).length = m at *
        have HX := hid hX
        clear hX
        have hm := hln.out
        have hcast : IntKind.i64.wrap (m : Int) = (m : Int) := IntWalk.i64_in _ (by omega)
        go_wp2_with fail
        go_ret2
        exact ⟨ret_ii (by rw [hfin.out, ← HX.out]; rfl) (by rw [hfin.out]), hB'⟩
  · have hne : (Pl.ask p (Pl.numB p q) != 0) = true := by simpa using h1
    have hne2 : (Pl.ask p (Pl.numB p q) == 0) = false := by simpa using h1
    have hq : Pl.ask p (Pl.colB k && Pl.numB p q) = Pl.ask p (Pl.numB p q) := by rw [Bool.and_comm]; exact Pl.ask_and_n h1
    have hfin : Hid (Pl.cntOf p k q = (0, Pl.ask p (Pl.numB p q))) := by unfold Hid Pl.cntOf; rw [hq, if_neg h1]
    clear h1 hq
    go_enter Try.func42, Try.ntmps42
    go_wp2_with fail
    refine (l01Numbers_any p _ 0 1 1 [q] rfl (by omega) _ ?_).mono ?_
    · intro j hj
      match j, hj with
      | 0, _ => go_simp
    · rintro e w1 ⟨rfl, rfl⟩
      rw [Pl.nums1]
      go_wp2_with fail
      go_ret2
      exact ⟨ret_ii (by rw [hfin.out]) (by rw [hfin.out]), by go_grown⟩
theorem PointsAt1_any (p k ax ay q : Int) (b0 b1 b2 b3 : Nat) (w : World) (c00 : w.cell? ⟨b0, 0, none⟩ = some (.int .i64 p)) (c10 : w.cell? ⟨b1, 0, none⟩ = some (.int .i64 k)) (c20 : w.cell? ⟨b2, 0, none⟩ = some (.int .i64 ax)) (c21 : w.cell? ⟨b2, 1, none⟩ = some (.int .i64 ay)) (c30 : w.cell? ⟨b3, 0, none⟩ = some (.int .i64 q)) :
    Calls Try.prog 111 #[.pointer (some ⟨b1, 0, none⟩), .pointer (some ⟨b0, 0, none⟩), .pointer (some ⟨b2, 0, none⟩), .pointer (some ⟨b3, 0, none⟩)] w fun e w' => e = .returned (.bool (Pl.colB k && Pl.ptsB p [(ax, ay)] && Pl.numB p q)) ∧ Below w.heap.size w w' := by
  rw [Pl.ptsB1]
  cases hk : Pl.colB k with
  | false =>
    have hB := Below.refl w.heap.size w
    go_enter Try.func111, Try.ntmps111
    go_wp2_with (go_at_call 75; refine (isColour_any _ _).mono ?_; rintro e w' ⟨rfl, rfl⟩)
    go_ret
    exact ⟨rfl, hB⟩
  | true =>
    cases hpt : Pl.ptB p ax ay with
    | false =>
      have hB := Below.refl w.heap.size w
      go_enter Try.func111, Try.ntmps111
      go_wp2_with (first | (go_at_call 75; refine (isColour_any _ _).mono ?_; rintro e w' ⟨rfl, rfl⟩) | (go_at_call 112; refine (isPoint_any _ _ _ _).mono ?_; rintro e w' ⟨rfl, hbn⟩; replace c00 := keepC hbn c00; replace c10 := keepC hbn c10; replace c20 := keepC hbn c20; replace c21 := keepC hbn c21; replace c30 := keepC hbn c30; replace hB := below_of hB hbn hB.size; clear hbn) | (go_at_call 113; refine (isNumber_any _ _ _).mono ?_; rintro e w' ⟨rfl, rfl⟩))
      go_ret
      exact ⟨rfl, hB⟩
    | true =>
      have hB := Below.refl w.heap.size w
      go_enter Try.func111, Try.ntmps111
      go_wp2_with (first | (go_at_call 75; refine (isColour_any _ _).mono ?_; rintro e w' ⟨rfl, rfl⟩) | (go_at_call 112; refine (isPoint_any _ _ _ _).mono ?_; rintro e w' ⟨rfl, hbn⟩; replace c00 := keepC hbn c00; replace c10 := keepC hbn c10; replace c20 := keepC hbn c20; replace c21 := keepC hbn c21; replace c30 := keepC hbn c30; replace hB := below_of hB hbn hB.size; clear hbn) | (go_at_call 113; refine (isNumber_any _ _ _).mono ?_; rintro e w' ⟨rfl, rfl⟩))
      go_ret
      exact ⟨rfl, hB⟩
theorem PointsAt_ok (p k ax ay q : Int) (w : World) (h0 : Pl.ask p (Pl.colB k && Pl.ptsB p [(ax, ay)] && Pl.numB p q) = 0) :
    Calls Try.prog 37 #[.int .i64 p, .int .i64 k, .agg #[.int .i64 ax, .int .i64 ay], .int .i64 q] w fun e w' => ∃ g c, e = .returned (.tuple #[.slice (some ⟨g, 0, none⟩) (Pl.ptsW (fun b => Pl.quad p k ax ay b.1 b.2 == q) p).length c, .int .i64 0]) ∧ Own w' (w.heap.size) 33 2 g (Pl.ptsW (fun b => Pl.quad p k ax ay b.1 b.2 == q) p).length c (Pl.flat2 ((Pl.ptsW (fun b => Pl.quad p k ax ay b.1 b.2 == q) p))) ∧ Below w.heap.size w w' := by
  have hv : Hid (Pl.fieldB p = true ∧ (Pl.colB k && Pl.ptsB p [(ax, ay)] && Pl.numB p q) = true) := Pl.ask_ok h0
  have hp := Pl.field_bd hv.out.1
  obtain ⟨hp1, hp2⟩ := hp
  have hv2 := hv.out.2
  simp only [Bool.and_eq_true] at hv2
  obtain ⟨ax1, ax2, ay1, ay2⟩ := Pl.pts1_bd hv2.1.2
  obtain ⟨q1, q2⟩ := Pl.numB_true hv2.2
  clear hv2
  go_enter Try.func37, Try.ntmps37
  go_wp2_with fail
  refine (asked_any p _ _ (Pl.colB k && Pl.ptsB p [(ax, ay)] && Pl.numB p q) _ (by kernel_rfl) ?_).mono ?_
  · intro _
    exact PointsAt1_any p k ax ay q _ _ _ _ _ (by go_simp) (by go_simp) (by go_simp) (by go_simp) (by go_simp)
  · rintro e w1 ⟨rfl, hb⟩
    have c00 : w1.cell? ⟨w.heap.size, 0, none⟩ = some (.int .i64 p) := cellOf hb (by go_simp) (by simp <;> omega)
    have c10 : w1.cell? ⟨w.heap.size + 1, 0, none⟩ = some (.int .i64 k) := cellOf hb (by go_simp) (by simp <;> omega)
    have c20 : w1.cell? ⟨w.heap.size + 2, 0, none⟩ = some (.int .i64 ax) := cellOf hb (by go_simp) (by simp <;> omega)
    have c21 : w1.cell? ⟨w.heap.size + 2, 1, none⟩ = some (.int .i64 ay) := cellOf hb (by go_simp) (by simp <;> omega)
    have c30 : w1.cell? ⟨w.heap.size + 3, 0, none⟩ = some (.int .i64 q) := cellOf hb (by go_simp) (by simp <;> omega)
    have hz : w.heap.size + 4 ≤ w1.heap.size := by have := hb.size; simp at this; omega
    have hB : Below w.heap.size w w1 := below_of (by go_grown) hb (by simp <;> omega)
    clear hb
    go_wp2_with fail
    refine (pointsAt_any p k ax ay q w1 (by omega) (by omega) (by omega) (by omega) (by omega) (by omega)).mono ?_
    rintro e w9 ⟨g, c, rfl, hO, hb⟩
    have hO' := hO.low hB.size
    have hB' := below_of hB hb hB.size
    clear hO hB hb
    go_wp2_with fail
    go_ret2
    exact ⟨g, c, rfl, hO', hB'⟩
theorem PointsAt_err (p k ax ay q : Int) (w : World) (h0 : ¬ Pl.ask p (Pl.colB k && Pl.ptsB p [(ax, ay)] && Pl.numB p q) = 0) :
    Calls Try.prog 37 #[.int .i64 p, .int .i64 k, .agg #[.int .i64 ax, .int .i64 ay], .int .i64 q] w fun e w' => e = .returned (.tuple #[.slice none 0 0, .int .i64 (Pl.ask p (Pl.colB k && Pl.ptsB p [(ax, ay)] && Pl.numB p q))]) ∧ Below w.heap.size w w' := by
  have hne : (Pl.ask p (Pl.colB k && Pl.ptsB p [(ax, ay)] && Pl.numB p q) != 0) = true := by simpa using h0
  have hne2 : (Pl.ask p (Pl.colB k && Pl.ptsB p [(ax, ay)] && Pl.numB p q) == 0) = false := by simpa using h0
  clear h0
  go_enter Try.func37, Try.ntmps37
  go_wp2_with fail
  refine (asked_any p _ _ (Pl.colB k && Pl.ptsB p [(ax, ay)] && Pl.numB p q) _ (by kernel_rfl) ?_).mono ?_
  · intro _
    exact PointsAt1_any p k ax ay q _ _ _ _ _ (by go_simp) (by go_simp) (by go_simp) (by go_simp) (by go_simp)
  · rintro e w1 ⟨rfl, hb⟩
    have hz : w.heap.size + 4 ≤ w1.heap.size := by have := hb.size; simp at this; omega
    have hB : Below w.heap.size w w1 := below_of (by go_grown) hb (by simp <;> omega)
    clear hb
    go_wp2_with fail
    go_ret2
    exact ⟨rfl, hB⟩
theorem sPointsAt_ok (p k ax ay q : Int) (w : World) (h0 : Pl.ask p (Pl.colB k && Pl.ptsB p [(ax, ay)] && Pl.numB p q) = 0) :
    Calls Try.prog 38 #[.int .i64 p, .int .i64 k, .agg #[.int .i64 ax, .int .i64 ay], .int .i64 q] w fun e w' => ∃ g c, e = .returned (.tuple #[.slice (some ⟨g, 0, none⟩) (Pl.ptsW (fun b => Pl.quad p k ax ay b.1 b.2 == q) p).length c, .int .i64 0]) ∧ Own w' (w.heap.size) 33 2 g (Pl.ptsW (fun b => Pl.quad p k ax ay b.1 b.2 == q) p).length c (Pl.flat2 ((Pl.ptsW (fun b => Pl.quad p k ax ay b.1 b.2 == q) p))) ∧ Below w.heap.size w w' := by
  have hv := hid (Pl.ask_ok h0)
  have hp := Pl.field_bd hv.out.1
  obtain ⟨hp1, hp2⟩ := hp
  have hv2 := hv.out.2
  simp only [Bool.and_eq_true] at hv2
  obtain ⟨ax1, ax2, ay1, ay2⟩ := Pl.pts1_bd hv2.1.2
  obtain ⟨q1, q2⟩ := Pl.numB_true hv2.2
  clear hv2
  have H1 : Hid (Pl.ask p (Pl.colB k && Pl.ptsB p [(ax, ay)]) = 0) := by have h := hv.out; simp only [Bool.and_eq_true] at h; unfold Hid; rw [h.2.1.1, h.2.1.2, Bool.and_true, Pl.ask_tt h.1]
  have hn : Hid (Pl.ask p (Pl.numB p q) = 0) := by have h := hv.out; simp only [Bool.and_eq_true] at h; unfold Hid; rw [h.2.2, Pl.ask_tt h.1]
  clear h0
  go_enter Try.func38, Try.ntmps38
  go_wp2_with fail
  refine (l02Code_any p k _ 0 1 1 [(ax, ay)] rfl (by omega) _ (by simp) ?_).mono ?_
  · intro j hj
    match j, hj with
    | 0, _ => exact ⟨by go_simp, by go_simp⟩
  · rintro e w1 ⟨rfl, hb⟩
    rw [H1.out]
    have c00 : w1.cell? ⟨w.heap.size, 0, none⟩ = some (.int .i64 ax) := keepC hb (by go_simp)
    have c01 : w1.cell? ⟨w.heap.size, 1, none⟩ = some (.int .i64 ay) := keepC hb (by go_simp)
    have hB : Below w.heap.size w w1 := below_of (by go_grown) hb (by simp <;> omega)
    clear hb
    go_wp2_with fail
    refine (l01Numbers_any p _ 0 1 1 [q] rfl (by omega) _ ?_).mono ?_
    · intro j hj
      match j, hj with
      | 0, _ => go_simp
    · rintro e w2 ⟨rfl, rfl⟩
      rw [Pl.nums1, hn.out]
      replace c00 := keepA (.cells #[.int .i64 q] 2) c00
      replace c01 := keepA (.cells #[.int .i64 q] 2) c01
      replace hB := hB.alloc hB.size (.cells #[.int .i64 q] 2)
      generalize hW : (World.alloc w1 (.cells #[.int .i64 q] 2)) = W at *
      clear hW
      go_wp2_with fail
      refine (l02At_any p k ax ay q W (by omega) (by omega) (by omega) (by omega) (by omega) (by omega)).mono ?_
      rintro e w9 ⟨g, c, rfl, hO, hb⟩
      have hO' := hO.low hB.size
      have hB' := below_of hB hb hB.size
      clear hO hB hb
      go_wp2_with fail
      go_ret2
      exact ⟨g, c, rfl, hO', hB'⟩
theorem sPointsAt_err (p k ax ay q : Int) (w : World) (h0 : ¬ Pl.ask p (Pl.colB k && Pl.ptsB p [(ax, ay)] && Pl.numB p q) = 0) :
    Calls Try.prog 38 #[.int .i64 p, .int .i64 k, .agg #[.int .i64 ax, .int .i64 ay], .int .i64 q] w fun e w' => e = .returned (.tuple #[.slice none 0 0, .int .i64 (Pl.ask p (Pl.colB k && Pl.ptsB p [(ax, ay)] && Pl.numB p q))]) ∧ Below w.heap.size w w' := by
  by_cases h1 : Pl.ask p (Pl.colB k && Pl.ptsB p [(ax, ay)]) = 0
  · have hn : Hid (Pl.ask p (Pl.numB p q) = Pl.ask p (Pl.colB k && Pl.ptsB p [(ax, ay)] && Pl.numB p q)) := by have h := Pl.ask_ok h1; unfold Hid; rw [h.2, Bool.true_and]
    have hne : (Pl.ask p (Pl.colB k && Pl.ptsB p [(ax, ay)] && Pl.numB p q) != 0) = true := by simpa using h0
    have H1 := hid h1
    clear h0 h1
    go_enter Try.func38, Try.ntmps38
    go_wp2_with fail
    refine (l02Code_any p k _ 0 1 1 [(ax, ay)] rfl (by omega) _ (by simp) ?_).mono ?_
    · intro j hj
      match j, hj with
      | 0, _ => exact ⟨by go_simp, by go_simp⟩
    · rintro e w1 ⟨rfl, hb⟩
      rw [H1.out]
      have hB : Below w.heap.size w w1 := below_of (by go_grown) hb (by simp <;> omega)
      clear hb
      go_wp2_with fail
      refine (l01Numbers_any p _ 0 1 1 [q] rfl (by omega) _ ?_).mono ?_
      · intro j hj
        match j, hj with
        | 0, _ => go_simp
      · rintro e w2 ⟨rfl, rfl⟩
        rw [Pl.nums1, hn.out]
        replace hB := hB.alloc hB.size (.cells #[.int .i64 q] 2)
        go_wp2_with fail
        go_ret2
        exact ⟨rfl, hB⟩
  · have hne : (Pl.ask p (Pl.colB k && Pl.ptsB p [(ax, ay)]) != 0) = true := by simpa using h1
    have hne2 : (Pl.ask p (Pl.colB k && Pl.ptsB p [(ax, ay)]) == 0) = false := by simpa using h1
    have hq := hid (show Pl.ask p (Pl.colB k && Pl.ptsB p [(ax, ay)] && Pl.numB p q) = Pl.ask p (Pl.colB k && Pl.ptsB p [(ax, ay)]) from Pl.ask_and_n h1)
    clear h0 h1
    go_enter Try.func38, Try.ntmps38
    go_wp2_with fail
    refine (l02Code_any p k _ 0 1 1 [(ax, ay)] rfl (by omega) _ (by simp) ?_).mono ?_
    · intro j hj
      match j, hj with
      | 0, _ => exact ⟨by go_simp, by go_simp⟩
    · rintro e w1 ⟨rfl, hb⟩
      have hB : Below w.heap.size w w1 := below_of (by go_grown) hb (by simp <;> omega)
      clear hb
      go_wp2_with fail
      go_ret2
      exact ⟨by rw [hq.out]; rfl, hB⟩
end Go.Proofs.Ytbjcbbnfgfmllaa
