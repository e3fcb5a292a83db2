/- Contracts: differences, areas, products, tests on lines. -/
import Derived.Test.YteocnenjllddaaaE
import Derived.Deep.RegionHeld3
import Derived.Test.YteocnenjllddaaaReg
import Derived.Deep.DeepCutAuto
set_option linter.unusedVariables false
set_option linter.unusedSimpArgs false
set_option maxHeartbeats 1000000
set_option maxRecDepth 100000
namespace Go.Proofs.Yteocnenjllddaaa
open Go.RowKit
theorem l01Area_any (p ax ay bx by_ cx cy : Int) (w : World) (hp1 : 1 ≤ p) (hp2 : p ≤ 31) (ax1 : 0 ≤ ax) (ax2 : ax ≤ 31) (ay1 : 0 ≤ ay) (ay2 : ay ≤ 31) (bx1 : 0 ≤ bx) (bx2 : bx ≤ 31) (by_1 : 0 ≤ by_) (by_2 : by_ ≤ 31) (cx1 : 0 ≤ cx) (cx2 : cx ≤ 31) (cy1 : 0 ≤ cy) (cy2 : cy ≤ 31) :
    Calls Try.prog 65 #[.int .i64 p, .agg #[.int .i64 ax, .int .i64 ay], .agg #[.int .i64 bx, .int .i64 by_], .agg #[.int .i64 cx, .int .i64 cy]] w fun e w' => e = .returned (.int .i64 (Pl.area p ax ay bx by_ cx cy)) ∧ Below w.heap.size w w' := by
  have h1 := Pl.mulA (show -31 ≤ (bx - ax) by omega) (show (bx - ax) ≤ 31 by omega) (show -31 ≤ (cy - ay) by omega) (show (cy - ay) ≤ 31 by omega)
  obtain ⟨h1a, h1b⟩ := h1
  have h2 := Pl.mulA (show -31 ≤ (by_ - ay) by omega) (show (by_ - ay) ≤ 31 by omega) (show -31 ≤ (cx - ax) by omega) (show (cx - ax) ≤ 31 by omega)
  obtain ⟨h2a, h2b⟩ := h2
  go_enter Try.func65, Try.ntmps65
  go_wp2_with (go_at_call 105; refine (l01Mod_any _ _ _ hp1 (by omega)).mono ?_; rintro e w' ⟨rfl, rfl⟩)
  go_ret
  exact ⟨rfl, by go_grown⟩
theorem less_ex (p ax ay bx by_ : Int) (w : World) (hp1 : 1 ≤ p) (hp2 : p ≤ 31) (ax1 : 0 ≤ ax) (ax2 : ax ≤ 31) (ay1 : 0 ≤ ay) (ay2 : ay ≤ 31) (bx1 : 0 ≤ bx) (bx2 : bx ≤ 31) (by_1 : 0 ≤ by_) (by_2 : by_ ≤ 31) :
    Calls Try.prog 109 #[.int .i64 p, .agg #[.int .i64 ax, .int .i64 ay], .agg #[.int .i64 bx, .int .i64 by_]] w fun e w' => e = .returned (.agg #[.int .i64 ((ax - bx) % p), .int .i64 ((ay - by_) % p)]) ∧
      (((w.alloc (.cells #[.int .i64 ax, .int .i64 ay] 23)).alloc (.cells #[.int .i64 bx, .int .i64 by_] 23)).alloc (.cells #[.int .i64 ((ax - bx) % p), .int .i64 ((ay - by_) % p)] 23)).drew = w' := by
  have e1 : IntKind.i64.wrap (ax - bx) = ax - bx := IntWalk.i64_in _ (by omega)
  have e2 : IntKind.i64.wrap (ay - by_) = ay - by_ := IntWalk.i64_in _ (by omega)
  go_enter Try.func109, Try.ntmps109
  go_wp2_with fail
  go_region_held3 (fun w' => w'.cell? ⟨w.heap.size, 0, none⟩ = some (.int .i64 ax) ∧ w'.cell? ⟨w.heap.size, 1, none⟩ = some (.int .i64 ay) ∧ w'.cell? ⟨w.heap.size + 1, 0, none⟩ = some (.int .i64 bx) ∧ w'.cell? ⟨w.heap.size + 1, 1, none⟩ = some (.int .i64 by_)) (go_keep) (first | (go_at_call 106; refine (rest_any _ _ _ hp1 (by omega)).mono ?_; rintro e w' ⟨rfl, rfl⟩))
  go_wp2_with fail
  go_returns
  exact ⟨rfl, rfl⟩
theorem less_any (p ax ay bx by_ : Int) (w : World) (hp1 : 1 ≤ p) (hp2 : p ≤ 31) (ax1 : 0 ≤ ax) (ax2 : ax ≤ 31) (ay1 : 0 ≤ ay) (ay2 : ay ≤ 31) (bx1 : 0 ≤ bx) (bx2 : bx ≤ 31) (by_1 : 0 ≤ by_) (by_2 : by_ ≤ 31) :
    Calls Try.prog 109 #[.int .i64 p, .agg #[.int .i64 ax, .int .i64 ay], .agg #[.int .i64 bx, .int .i64 by_]] w fun e w' => e = .returned (.agg #[.int .i64 ((ax - bx) % p), .int .i64 ((ay - by_) % p)]) ∧ Below w.heap.size w w' :=
  (less_ex p ax ay bx by_ w hp1 hp2 ax1 ax2 ay1 ay2 bx1 bx2 by_1 by_2).mono fun e w' ⟨he, hw⟩ => ⟨he, by rw [← hw]; go_grown⟩

theorem product_any (p k ax ay bx by_ : Int) (w : World) (hp1 : 1 ≤ p) (hp2 : p ≤ 31) (ax1 : 0 ≤ ax) (ax2 : ax ≤ 31) (ay1 : 0 ≤ ay) (ay2 : ay ≤ 31) (bx1 : 0 ≤ bx) (bx2 : bx ≤ 31) (by_1 : 0 ≤ by_) (by_2 : by_ ≤ 31) :
    Calls Try.prog 108 #[.int .i64 p, .int .i64 k, .agg #[.int .i64 ax, .int .i64 ay], .agg #[.int .i64 bx, .int .i64 by_]] w fun e w' => e = .returned (.int .i64 (Pl.prod p k ax ay bx by_)) ∧ Below w.heap.size w w' := by
  have h1 := Pl.mulB (show 0 ≤ ax by omega) (show ax ≤ 31 by omega) (show 0 ≤ bx by omega) (show bx ≤ 31 by omega)
  obtain ⟨h1a, h1b⟩ := h1
  have h2 := Pl.mulB (show 0 ≤ ay by omega) (show ay ≤ 31 by omega) (show 0 ≤ by_ by omega) (show by_ ≤ 31 by omega)
  obtain ⟨h2a, h2b⟩ := h2
  have h3 := Pl.mulB (show 0 ≤ ax by omega) (show ax ≤ 31 by omega) (show 0 ≤ by_ by omega) (show by_ ≤ 31 by omega)
  obtain ⟨h3a, h3b⟩ := h3
  have h4 := Pl.mulB (show 0 ≤ ay by omega) (show ay ≤ 31 by omega) (show 0 ≤ bx by omega) (show bx ≤ 31 by omega)
  obtain ⟨h4a, h4b⟩ := h4
  by_cases e0 : k = 0
  · have f0 : (k == 0) = true := by simpa using e0
    have e0h := hid e0
    clear e0
    go_enter Try.func108, Try.ntmps108
    go_wp2_with (go_at_call 106; refine (rest_any _ _ _ hp1 (by omega)).mono ?_; rintro e w' ⟨rfl, rfl⟩)
    go_ret
    exact ⟨ret_int (Pl.prod_0 e0h.out).symm, by go_grown⟩
  · have f0 : (k == 0) = false := by simpa using e0
    by_cases e1 : k = 1
    · have f1 : (k == 1) = true := by simpa using e1
      have e1h := hid e1
      clear e1
      go_enter Try.func108, Try.ntmps108
      go_wp2_with (go_at_call 106; refine (rest_any _ _ _ hp1 (by omega)).mono ?_; rintro e w' ⟨rfl, rfl⟩)
      go_ret
      exact ⟨ret_int (Pl.prod_1 e0 e1h.out).symm, by go_grown⟩
    · have f1 : (k == 1) = false := by simpa using e1
      go_enter Try.func108, Try.ntmps108
      go_wp2_with (go_at_call 106; refine (rest_any _ _ _ hp1 (by omega)).mono ?_; rintro e w' ⟨rfl, rfl⟩)
      go_ret
      exact ⟨ret_int (Pl.prod_2 e0 e1).symm, by go_grown⟩
theorem l02Product_any (p k ax ay bx by_ : Int) (w : World) (hp1 : 1 ≤ p) (hp2 : p ≤ 31) (ax1 : 0 ≤ ax) (ax2 : ax ≤ 31) (ay1 : 0 ≤ ay) (ay2 : ay ≤ 31) (bx1 : 0 ≤ bx) (bx2 : bx ≤ 31) (by_1 : 0 ≤ by_) (by_2 : by_ ≤ 31) :
    Calls Try.prog 71 #[.int .i64 p, .int .i64 k, .agg #[.int .i64 ax, .int .i64 ay], .agg #[.int .i64 bx, .int .i64 by_]] w fun e w' => e = .returned (.int .i64 (Pl.prod p k ax ay bx by_)) ∧ Below w.heap.size w w' := by
  have h1 := Pl.mulB (show 0 ≤ ax by omega) (show ax ≤ 31 by omega) (show 0 ≤ bx by omega) (show bx ≤ 31 by omega)
  obtain ⟨h1a, h1b⟩ := h1
  have h2 := Pl.mulB (show 0 ≤ ay by omega) (show ay ≤ 31 by omega) (show 0 ≤ by_ by omega) (show by_ ≤ 31 by omega)
  obtain ⟨h2a, h2b⟩ := h2
  have h3 := Pl.mulB (show 0 ≤ ax by omega) (show ax ≤ 31 by omega) (show 0 ≤ by_ by omega) (show by_ ≤ 31 by omega)
  obtain ⟨h3a, h3b⟩ := h3
  have h4 := Pl.mulB (show 0 ≤ ay by omega) (show ay ≤ 31 by omega) (show 0 ≤ bx by omega) (show bx ≤ 31 by omega)
  obtain ⟨h4a, h4b⟩ := h4
  by_cases e0 : k = 0
  · have f0 : (k == 0) = true := by simpa using e0
    have e0h := hid e0
    clear e0
    go_enter Try.func71, Try.ntmps71
    go_wp2_with (go_at_call 105; refine (l01Mod_any _ _ _ hp1 (by omega)).mono ?_; rintro e w' ⟨rfl, rfl⟩)
    go_ret
    exact ⟨ret_int (Pl.prod_0 e0h.out).symm, by go_grown⟩
  · have f0 : (k == 0) = false := by simpa using e0
    by_cases e1 : k = 1
    · have f1 : (k == 1) = true := by simpa using e1
      have e1h := hid e1
      clear e1
      go_enter Try.func71, Try.ntmps71
      go_wp2_with (go_at_call 105; refine (l01Mod_any _ _ _ hp1 (by omega)).mono ?_; rintro e w' ⟨rfl, rfl⟩)
      go_ret
      exact ⟨ret_int (Pl.prod_1 e0 e1h.out).symm, by go_grown⟩
    · have f1 : (k == 1) = false := by simpa using e1
      go_enter Try.func71, Try.ntmps71
      go_wp2_with (go_at_call 105; refine (l01Mod_any _ _ _ hp1 (by omega)).mono ?_; rintro e w' ⟨rfl, rfl⟩)
      go_ret
      exact ⟨ret_int (Pl.prod_2 e0 e1).symm, by go_grown⟩
theorem isColour_any (k : Int) (w : World) : Calls Try.prog 73 #[.int .i64 k] w fun e w' => e = .returned (.bool (Pl.colB k)) ∧ w = w' := by
  unfold Pl.colB
  by_cases h : 0 ≤ k
  · go_enter Try.func73, Try.ntmps73
    go_wp2
    go_ret
    exact ⟨ret_bool (by simp [h]), rfl⟩
  · go_enter Try.func73, Try.ntmps73
    go_wp2
    go_ret
    exact ⟨ret_bool (by rw [decide_eq_false (by omega)]; rfl), rfl⟩
theorem l02Colour_any (k : Int) (w : World) : Calls Try.prog 90 #[.int .i64 k] w fun e w' => e = .returned (.bool (Pl.colB k)) ∧ w = w' := by
  go_enter Try.func90, Try.ntmps90
  go_wp2_with (go_at_call 104; refine (l01In_any _ _ _ _).mono ?_; rintro e w' ⟨rfl, rfl⟩)
  go_ret
  exact ⟨rfl, rfl⟩
theorem l02Code_any (p k : Int) (b off n c : Nat) (xs : List (Int × Int)) (hn : xs.length = n) (hm : n ≤ 1000) (w : World) (hb : b < w.heap.size)
    (hc : ∀ j, j < n → w.cell? ⟨b, off + j * 2, none⟩ = some (.int .i64 (xs.getD j (0, 0)).1) ∧ w.cell? ⟨b, off + j * 2 + 1, none⟩ = some (.int .i64 (xs.getD j (0, 0)).2)) :
    Calls Try.prog 70 #[.int .i64 p, .int .i64 k, .slice (some ⟨b, off, none⟩) n c] w fun e w' => e = .returned (.int .i64 (Pl.ask p (Pl.colB k && Pl.ptsB p xs))) ∧ Below w.heap.size w w' := by
  have H := hid (l01Code_any p b off n c xs hn hm w hb hc)
  clear hc hn
  by_cases h0 : Pl.ask p (Pl.ptsB p xs) = 0
  · cases hk : Pl.colB k with
    | true =>
      have hfin := hid (Pl.ask_and h0 hk)
      have hk2 : Pl.inB k 0 2 = true := hk
      go_enter Try.func70, Try.ntmps70
      go_wp2_with fail
      refine H.out.mono ?_
      rintro e w1 ⟨rfl, hB⟩
      clear H
      go_wp2_with (go_at_call 90; refine (l02Colour_any _ _).mono ?_; rintro e w' ⟨rfl, rfl⟩)
      go_ret
      exact ⟨ret_int (by rw [Bool.and_comm, ← hfin.out, hk]), hB⟩
    | false =>
      have hfin := hid (Pl.ask_and_f h0 hk)
      have hk2 : Pl.inB k 0 2 = false := hk
      go_enter Try.func70, Try.ntmps70
      go_wp2_with fail
      refine H.out.mono ?_
      rintro e w1 ⟨rfl, hB⟩
      clear H
      go_wp2_with (go_at_call 90; refine (l02Colour_any _ _).mono ?_; rintro e w' ⟨rfl, rfl⟩)
      go_ret
      exact ⟨ret_int (by rw [Bool.and_comm, ← hfin.out, hk]), hB⟩
  · have hne : (Pl.ask p (Pl.ptsB p xs) == 0) = false := by simpa using h0
    have hfin := hid (Pl.ask_and_n (b := Pl.colB k) h0)
    clear h0
    go_enter Try.func70, Try.ntmps70
    go_wp2_with fail
    refine H.out.mono ?_
    rintro e w1 ⟨rfl, hB⟩
    clear H
    go_wp2_with (go_at_call 90; refine (l02Colour_any _ _).mono ?_; rintro e w' ⟨rfl, rfl⟩)
    go_ret
    exact ⟨ret_int (by rw [Bool.and_comm]; exact hfin.out.symm), hB⟩
theorem l02Lines_any (p k : Int) (b off n c : Nat) (xs : List (Int × Int × Int)) (hn : xs.length = n) (hm : n ≤ 1000) (w : World) (hb : b < w.heap.size)
    (hc : ∀ j, j < n → w.cell? ⟨b, off + j * 3, none⟩ = some (.int .i64 (xs.getD j (0, 0, 0)).1) ∧ w.cell? ⟨b, off + j * 3 + 1, none⟩ = some (.int .i64 (xs.getD j (0, 0, 0)).2.1) ∧ w.cell? ⟨b, off + j * 3 + 2, none⟩ = some (.int .i64 (xs.getD j (0, 0, 0)).2.2)) :
    Calls Try.prog 79 #[.int .i64 p, .int .i64 k, .slice (some ⟨b, off, none⟩) n c] w fun e w' => e = .returned (.int .i64 (Pl.ask p (Pl.colB k && Pl.linesB p xs))) ∧ Below w.heap.size w w' := by
  have H := hid (l01Lines_any p b off n c xs hn hm w hb hc)
  clear hc hn
  by_cases h0 : Pl.ask p (Pl.linesB p xs) = 0
  · cases hk : Pl.colB k with
    | true =>
      have hfin := hid (Pl.ask_and h0 hk)
      have hk2 : Pl.inB k 0 2 = true := hk
      go_enter Try.func79, Try.ntmps79
      go_wp2_with fail
      refine H.out.mono ?_
      rintro e w1 ⟨rfl, hB⟩
      clear H
      go_wp2_with (go_at_call 90; refine (l02Colour_any _ _).mono ?_; rintro e w' ⟨rfl, rfl⟩)
      go_ret
      exact ⟨ret_int (by rw [Bool.and_comm, ← hfin.out, hk]), hB⟩
    | false =>
      have hfin := hid (Pl.ask_and_f h0 hk)
      have hk2 : Pl.inB k 0 2 = false := hk
      go_enter Try.func79, Try.ntmps79
      go_wp2_with fail
      refine H.out.mono ?_
      rintro e w1 ⟨rfl, hB⟩
      clear H
      go_wp2_with (go_at_call 90; refine (l02Colour_any _ _).mono ?_; rintro e w' ⟨rfl, rfl⟩)
      go_ret
      exact ⟨ret_int (by rw [Bool.and_comm, ← hfin.out, hk]), hB⟩
  · have hne : (Pl.ask p (Pl.linesB p xs) == 0) = false := by simpa using h0
    have hfin := hid (Pl.ask_and_n (b := Pl.colB k) h0)
    clear h0
    go_enter Try.func79, Try.ntmps79
    go_wp2_with fail
    refine H.out.mono ?_
    rintro e w1 ⟨rfl, hB⟩
    clear H
    go_wp2_with (go_at_call 90; refine (l02Colour_any _ _).mono ?_; rintro e w' ⟨rfl, rfl⟩)
    go_ret
    exact ⟨ret_int (by rw [Bool.and_comm]; exact hfin.out.symm), hB⟩
theorem l01Both_any (p ax ay la lb lc : Int) (w : World) :
    Calls Try.prog 98 #[.int .i64 p, .agg #[.int .i64 ax, .int .i64 ay], .agg #[.int .i64 la, .int .i64 lb, .int .i64 lc]] w fun e w' => e = .returned (.int .i64 (Pl.ask p (Pl.ptB p ax ay && Pl.lineB p la lb lc))) ∧ Below w.heap.size w w' := by
  by_cases h0 : Pl.ask p (Pl.ptsB p [(ax, ay)]) = 0
  · have hv := hid (Pl.ask_ok h0)
    go_enter Try.func98, Try.ntmps98
    go_wp2_with fail
    refine (l01Code_any p _ 0 1 1 [(ax, ay)] rfl (by omega) _ (by simp) ?_).mono ?_
    · intro j hj
      match j, hj with
      | 0, _ => exact ⟨by go_simp, by go_simp⟩
    · rintro e w1 ⟨rfl, hb⟩
      have c0 : w1.cell? ⟨w.heap.size + 1, 0, none⟩ = some (.int .i64 la) := keepC hb (by go_simp)
      have c1 : w1.cell? ⟨w.heap.size + 1, 1, none⟩ = some (.int .i64 lb) := keepC hb (by go_simp)
      have c2 : w1.cell? ⟨w.heap.size + 1, 2, none⟩ = some (.int .i64 lc) := keepC hb (by go_simp)
      have hB : Below w.heap.size w w1 := below_of (by go_grown) hb (by simp <;> omega)
      clear hb
      go_wp2_with fail
      refine (l01Lines_any p _ 0 1 1 [(la, lb, lc)] rfl (by omega) _ (by simp) ?_).mono ?_
      · intro j hj
        match j, hj with
        | 0, _ => exact ⟨by go_simp, by go_simp, by go_simp⟩
      · rintro e w2 ⟨rfl, hb⟩
        have hB2 : Below w.heap.size w w2 := below_of (by have := hB.size; go_grown) hb (by have := hB.size; simp <;> omega)
        clear hb
        go_wp2_with fail
        go_ret
        exact ⟨ret_int (by have h := hv.out.2; rw [Pl.ptsB1] at h; rw [h, Pl.linesB1]; rfl), hB2⟩
  · have hne : (Pl.ask p (Pl.ptsB p [(ax, ay)]) != 0) = true := by simpa using h0
    have hfin := hid (Pl.ask_and_n (b := Pl.lineB p la lb lc) h0)
    clear h0
    go_enter Try.func98, Try.ntmps98
    go_wp2_with fail
    refine (l01Code_any p _ 0 1 1 [(ax, ay)] rfl (by omega) _ (by simp) ?_).mono ?_
    · intro j hj
      match j, hj with
      | 0, _ => exact ⟨by go_simp, by go_simp⟩
    · rintro e w1 ⟨rfl, hb⟩
      have hB : Below w.heap.size w w1 := below_of (by go_grown) hb (by simp <;> omega)
      clear hb
      go_wp2_with fail
      go_ret
      exact ⟨ret_int (by rw [← hfin.out, Pl.ptsB1]), hB⟩
end Go.Proofs.Yteocnenjllddaaa
