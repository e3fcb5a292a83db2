/- Contracts: numbers and texts in decimal: the program's, by Go's library. -/
import Derived.Test.YtbjcbbnfgfmllaaGreatDoorTd
import Derived.Test.YtbjcbbnfgfmllaaGreatDoorE
import Derived.Laws.Strings2
set_option linter.unusedVariables false
set_option linter.unusedSimpArgs false
set_option maxRecDepth 100000
set_option maxHeartbeats 1000000
namespace Go.Proofs.YtbjcbbnfgfmllaaGreatDoor
open Go.RowKit
theorem ext_one {s : ByteArray} {n : Int} (h0 : 0 ≤ n) (h1 : n < 10) (h : ∀ k : Fin 10, s.extract k.val (k.val + 1) = ⟨(Pl.decT (k.val : Int)).toArray⟩) : s.extract n.toNat (n + 1).toNat = ⟨(Pl.decT n).toArray⟩ := by
  have := h ⟨n.toNat, by omega⟩
  rw [show (n + 1).toNat = n.toNat + 1 by omega]
  simp only at this
  rw [this, show ((n.toNat : Nat) : Int) = n by omega]
theorem ext_two {s : ByteArray} {n : Int} (h0 : 10 ≤ n) (h1 : n < 32) (h : ∀ k : Fin 22, s.extract ((k.val + 10) * 2) ((k.val + 10) * 2 + 2) = ⟨(Pl.decT ((k.val + 10 : Nat) : Int)).toArray⟩) : s.extract (n * 2).toNat (n * 2 + 2).toNat = ⟨(Pl.decT n).toArray⟩ := by
  have := h ⟨n.toNat - 10, by omega⟩
  rw [show (n * 2 + 2).toNat = (n.toNat - 10 + 10) * 2 + 2 by omega, show (n * 2).toNat = (n.toNat - 10 + 10) * 2 by omega]
  simp only at this
  rw [this, show ((n.toNat - 10 + 10 : Nat) : Int) = n by omega]
theorem ret_s {a b : ByteArray} (h : a = b) : Ending.returned (.string a) = .returned (.string b) := by rw [h]
theorem small_any (n : Int) (w : World) (h0 : 0 ≤ n) (h1 : n ≤ 31) :
    Calls Tryz.prog 100 #[.int .i64 n] w fun e w' => e = .returned (.string ⟨(Pl.decT n).toArray⟩) ∧ w = w' := by
  by_cases hs : n < 10
  · go_enter Tryz.func100, Tryz.ntmps100
    go_wp2_with fail
    rw [run_slice_string _ _ _ _ _ _ _ Tryz.underlying9 (by omega) (by omega) (by show n + 1 ≤ ((36 : Nat) : Int); omega)]
    rw [ext_one h0 hs (by decide +kernel)]
    go_wp2_with fail
    go_ret
    exact ⟨rfl, rfl⟩
  · go_enter Tryz.func100, Tryz.ntmps100
    go_wp2_with fail
    rw [run_slice_string _ _ _ _ _ _ _ Tryz.underlying9 (by omega) (by omega) (by show n * 2 + 2 ≤ ((200 : Nat) : Int); omega)]
    rw [ext_two (by omega) (by omega) (by decide +kernel)]
    go_wp2_with fail
    go_ret
    exact ⟨rfl, rfl⟩
theorem formatIn_any (n : Int) (w : World) (h0 : 0 ≤ n) (h1 : n ≤ 31) :
    Calls Tryz.prog 99 #[.int .i64 n, .int .i64 10] w fun e w' => e = .returned (.string ⟨(Pl.decT n).toArray⟩) ∧ w = w' := by
  go_enter Tryz.func99, Tryz.ntmps99
  go_wp2_with (go_at_call 100; refine (small_any n _ h0 h1).mono ?_; rintro e w' ⟨rfl, rfl⟩)
  go_ret
  exact ⟨rfl, rfl⟩
theorem format_any (n : Int) (w : World) (h0 : 0 ≤ n) (h1 : n ≤ 31) :
    Calls Tryz.prog 98 #[.int .i64 n, .int .i64 10] w fun e w' => e = .returned (.string ⟨(Pl.decT n).toArray⟩) ∧ w = w' := by
  go_enter Tryz.func98, Tryz.ntmps98
  go_wp2_with (go_at_call 99; refine (formatIn_any n _ h0 h1).mono ?_; rintro e w' ⟨rfl, rfl⟩)
  go_ret
  exact ⟨rfl, rfl⟩
theorem numbersText_any (b off n c : Nat) (xs : List Int) (hn : xs.length = n) (hm : n ≤ 100) (hx : ∀ x ∈ xs, 0 ≤ x ∧ x ≤ 31) (w : World) (hc : ∀ j, j < n → w.cell? ⟨b, off + j, none⟩ = some (.int .i64 (xs.getD j 0))) :
    Calls Tryz.prog 93 #[.slice (some ⟨b, off, none⟩) n c, .string ⟨#[44]⟩] w fun e w' => e = .returned (.string ⟨(Pl.joinT xs).toArray⟩) ∧ w = w' := by
  have HN := hid hn
  have HC := hid hc
  have HX := hid hx
  clear hn hc hx
  go_enter Tryz.func93, Tryz.ntmps93
  go_wp2_with fail
  go_loop [5, 6, 7, 10] (fun v _ _ i => ∃ (k : Nat) (s : ByteArray), k ≤ n ∧ i = .int .i64 k ∧ v = .string s ∧ s.size ≤ 3 * k ∧ Hid (s.data.toList = Pl.joinT (xs.take k))) (fun _ _ _ i => n - (intOf i).toNat)
  case atStart => exact ⟨0, ⟨#[]⟩, Nat.zero_le _, rfl, rfl, by decide, hid rfl⟩
  case round =>
    obtain ⟨k, s, hk, rfl, rfl, hsz, hs⟩ := hrel
    by_cases hlt : k < n
    · have hkl : k < xs.length := by have := HN.out; omega
      have hcell := HC.out k hlt
      have hget : xs.getD k 0 = xs[k] := by simp [hkl]
      rw [hget] at hcell
      obtain ⟨x0, x1⟩ := HX.out _ (List.getElem_mem hkl)
      have hlen := dec_size xs[k]
      have hlen2 := Pl.decT_len xs[k]
      have hcs := comma_size
      by_cases hk0 : k = 0
      · have hst := hid (joinT_step0 xs (by omega))
        subst hk0
        rw [Nat.add_zero] at hcell
        have hs0 : s.data.toList = [] := hs.out
        clear HC HX HN hget
        generalize xs[0] = x at *
        go_wp2_with (go_at_call 98; refine (format_any x _ x0 x1).mono ?_; rintro e w' ⟨rfl, rfl⟩)
        go_round
        case rel => exact ⟨1, _, by omega, by go_num, rfl, by rw [ByteArray.size_append']; omega, hid (by rw [hst.out]; simp [ByteArray.data_append, hs0])⟩
        case measure => simp [intOf]; omega
      · have hst := hid (joinT_step xs k (by omega) (by omega))
        have hk1 : 0 < k := by omega
        clear HC HX HN hget
        generalize xs[k] = x at *
        go_wp2_with (go_at_call 98; refine (format_any x _ x0 x1).mono ?_; rintro e w' ⟨rfl, rfl⟩)
        go_round
        case rel => exact ⟨k + 1, _, by omega, by go_num, rfl, by rw [ByteArray.size_append', ByteArray.size_append', hcs]; omega, hid (by rw [hst.out]; simp [ByteArray.data_append, hs.out])⟩
        case measure => simp [intOf]; omega
    · have hkn : k = n := by omega
      subst hkn
      have hfin : s = ⟨(Pl.joinT xs).toArray⟩ := bytes_of (by rw [hs.out, List.take_of_length_le (by have := HN.out; omega)])
      replace hfin := hid hfin
      clear HC HX HN hs
      go_wp2_with fail
      go_ret
      exact ⟨ret_str hfin.out, rfl⟩
theorem pointText_any (ax ay : Int) (w : World) (ax1 : 0 ≤ ax) (ax2 : ax ≤ 31) (ay1 : 0 ≤ ay) (ay2 : ay ≤ 31) :
    Calls Tryz.prog 65 #[.agg #[.int .i64 ax, .int .i64 ay]] w fun e w' => e = .returned (.string ⟨(Pl.joinT [ax, ay]).toArray⟩) ∧ Below w.heap.size w w' := by
  go_enter Tryz.func65, Tryz.ntmps65
  go_wp2_with fail
  refine (numbersText_any _ 0 2 2 [ax, ay] rfl (by omega) ?_ _ ?_).mono ?_
  · intro x hx
    simp at hx
    rcases hx with rfl | rfl
    all_goals omega
  · intro j hj
    match j, hj with
    | 0, _ => go_simp
    | 1, _ => go_simp
  rintro e w' ⟨rfl, rfl⟩
  go_wp2_with fail
  go_ret
  exact ⟨rfl, by go_grown⟩
theorem PointText1_any (p ax ay : Int) (b0 b1 : Nat) (w : World) (c00 : w.cell? ⟨b0, 0, none⟩ = some (.int .i64 p)) (c10 : w.cell? ⟨b1, 0, none⟩ = some (.int .i64 ax)) (c11 : w.cell? ⟨b1, 1, none⟩ = some (.int .i64 ay)) :
    Calls Tryz.prog 63 #[.pointer (some ⟨b0, 0, none⟩), .pointer (some ⟨b1, 0, none⟩)] w fun e w' => e = .returned (.bool (Pl.ptsB p [(ax, ay)])) ∧ Below w.heap.size w w' := by
  rw [Pl.ptsB1]
  go_enter Tryz.func63, Tryz.ntmps63
  go_wp2_with fail
  refine (isPoint_any p ax ay _).mono ?_
  rintro e w' ⟨rfl, hb⟩
  go_wp2_with fail
  go_ret
  exact ⟨rfl, hb⟩
theorem PointText_any (p ax ay : Int) (w : World) :
    Calls Tryz.prog 22 #[.int .i64 p, .agg #[.int .i64 ax, .int .i64 ay]] w fun e w' => e = .returned (.tuple #[.string ⟨(Pl.textPt p ax ay).1.toArray⟩, .int .i64 (Pl.textPt p ax ay).2]) ∧ Below w.heap.size w w' := by
  by_cases h0 : Pl.ask p (Pl.ptsB p [(ax, ay)]) = 0
  · have hfin : Hid (Pl.textPt p ax ay = (Pl.joinT [ax, ay], 0)) := by unfold Hid Pl.textPt; rw [if_pos h0]
    rw [hfin.out]
    dsimp only
    have hv := Pl.ask_ok h0
    obtain ⟨ax1, ax2, ay1, ay2⟩ := Pl.pts1_bd hv.2
    have hp := Pl.field_bd hv.1
    obtain ⟨hp1, hp2⟩ := hp
    clear hv
    go_enter Tryz.func22, Tryz.ntmps22
    go_wp2_with fail
    refine (asked_any p _ _ (Pl.ptsB p [(ax, ay)]) _ (by kernel_rfl) ?_).mono ?_
    · intro _
      exact PointText1_any p ax ay _ _ _ (by go_simp) (by go_simp) (by go_simp)
    · rintro e w1 ⟨rfl, hb⟩
      have c00 : w1.cell? ⟨w.heap.size, 0, none⟩ = some (.int .i64 p) := cellOf hb (by go_simp) (by simp <;> omega)
      have c10 : w1.cell? ⟨w.heap.size + 1, 0, none⟩ = some (.int .i64 ax) := cellOf hb (by go_simp) (by simp <;> omega)
      have c11 : w1.cell? ⟨w.heap.size + 1, 1, none⟩ = some (.int .i64 ay) := cellOf hb (by go_simp) (by simp <;> omega)
      have hB : Below w.heap.size w w1 := below_of (by go_grown) hb (by simp <;> omega)
      clear hb
      go_wp2_with fail
      refine (pointText_any ax ay _ (by omega) (by omega) (by omega) (by omega)).mono ?_
      rintro e w2 ⟨rfl, hb⟩
      replace hB := below_of hB hb hB.size
      go_wp2_with fail
      go_ret2
      exact ⟨by first | rfl | (rw [h0]), hB⟩
  · have hne : (Pl.ask p (Pl.ptsB p [(ax, ay)]) != 0) = true := by simpa using h0
    have hfin : Hid (Pl.textPt p ax ay = ([], Pl.ask p (Pl.ptsB p [(ax, ay)]))) := by unfold Hid Pl.textPt; rw [if_neg h0]
    rw [hfin.out]
    dsimp only
    clear h0
    go_enter Tryz.func22, Tryz.ntmps22
    go_wp2_with fail
    refine (asked_any p _ _ (Pl.ptsB p [(ax, ay)]) _ (by kernel_rfl) ?_).mono ?_
    · intro _
      exact PointText1_any p ax ay _ _ _ (by go_simp) (by go_simp) (by go_simp)
    · rintro e w1 ⟨rfl, hb⟩
      have c00 : w1.cell? ⟨w.heap.size, 0, none⟩ = some (.int .i64 p) := cellOf hb (by go_simp) (by simp <;> omega)
      have c10 : w1.cell? ⟨w.heap.size + 1, 0, none⟩ = some (.int .i64 ax) := cellOf hb (by go_simp) (by simp <;> omega)
      have c11 : w1.cell? ⟨w.heap.size + 1, 1, none⟩ = some (.int .i64 ay) := cellOf hb (by go_simp) (by simp <;> omega)
      have hB : Below w.heap.size w w1 := below_of (by go_grown) hb (by simp <;> omega)
      clear hb
      go_wp2_with fail
      go_ret2
      exact ⟨rfl, hB⟩
theorem sPointText_any (p ax ay : Int) (w : World) :
    Calls Tryz.prog 23 #[.int .i64 p, .agg #[.int .i64 ax, .int .i64 ay]] w fun e w' => e = .returned (.tuple #[.string ⟨(Pl.textPt p ax ay).1.toArray⟩, .int .i64 (Pl.textPt p ax ay).2]) ∧ Below w.heap.size w w' := by
  by_cases h0 : Pl.ask p (Pl.ptsB p [(ax, ay)]) = 0
  · have hfin : Hid (Pl.textPt p ax ay = (Pl.joinT [ax, ay], 0)) := by unfold Hid Pl.textPt; rw [if_pos h0]
    rw [hfin.out]
    dsimp only
    have hv := Pl.ask_ok h0
    obtain ⟨ax1, ax2, ay1, ay2⟩ := Pl.pts1_bd hv.2
    have hp := Pl.field_bd hv.1
    obtain ⟨hp1, hp2⟩ := hp
    clear hv
    go_enter Tryz.func23, Tryz.ntmps23
    go_wp2_with fail
    refine (l01Code_any p _ 0 1 1 [(ax, ay)] rfl (by omega) _ (by simp) ?_).mono ?_
    · intro j hj
      match j, hj with
      | 0, _ => exact ⟨by go_simp, by go_simp⟩
    · rintro e w1 ⟨rfl, hb⟩
      have c0 : w1.cell? ⟨w.heap.size, 0, none⟩ = some (.int .i64 ax) := keepC hb (by go_simp)
      have c1 : w1.cell? ⟨w.heap.size, 1, none⟩ = some (.int .i64 ay) := keepC hb (by go_simp)
      have hB : Below w.heap.size w w1 := below_of (by go_grown) hb (by simp <;> omega)
      clear hb
      go_wp2_with fail
      refine (l01Joined_any _ 0 2 2 [ax, ay] rfl (by omega) ?_ _ (by simp) ?_).mono ?_
      · intro x hx
        simp at hx
        rcases hx with rfl | rfl
        all_goals omega
      · intro j hj
        match j, hj with
        | 0, _ => go_simp
        | 1, _ => go_simp
      rintro e w2 ⟨rfl, hb⟩
      have hB2 : Below w.heap.size w w2 := below_of (by have := hB.size; go_grown) hb (by have := hB.size; simp <;> omega)
      go_wp2_with fail
      go_ret2
      exact ⟨by first | rfl | (rw [h0]), hB2⟩
  · have hne : (Pl.ask p (Pl.ptsB p [(ax, ay)]) != 0) = true := by simpa using h0
    have hfin : Hid (Pl.textPt p ax ay = ([], Pl.ask p (Pl.ptsB p [(ax, ay)]))) := by unfold Hid Pl.textPt; rw [if_neg h0]
    rw [hfin.out]
    dsimp only
    clear h0
    go_enter Tryz.func23, Tryz.ntmps23
    go_wp2_with fail
    refine (l01Code_any p _ 0 1 1 [(ax, ay)] rfl (by omega) _ (by simp) ?_).mono ?_
    · intro j hj
      match j, hj with
      | 0, _ => exact ⟨by go_simp, by go_simp⟩
    · rintro e w1 ⟨rfl, hb⟩
      have c0 : w1.cell? ⟨w.heap.size, 0, none⟩ = some (.int .i64 ax) := keepC hb (by go_simp)
      have c1 : w1.cell? ⟨w.heap.size, 1, none⟩ = some (.int .i64 ay) := keepC hb (by go_simp)
      have hB : Below w.heap.size w w1 := below_of (by go_grown) hb (by simp <;> omega)
      clear hb
      go_wp2_with fail
      go_ret2
      exact ⟨rfl, hB⟩
theorem lineText_any (la lb lc : Int) (w : World) (la1 : 0 ≤ la) (la2 : la ≤ 31) (lb1 : 0 ≤ lb) (lb2 : lb ≤ 31) (lc1 : 0 ≤ lc) (lc2 : lc ≤ 31) :
    Calls Tryz.prog 70 #[.agg #[.int .i64 la, .int .i64 lb, .int .i64 lc]] w fun e w' => e = .returned (.string ⟨(Pl.joinT [la, lb, lc]).toArray⟩) ∧ Below w.heap.size w w' := by
  go_enter Tryz.func70, Tryz.ntmps70
  go_wp2_with fail
  refine (numbersText_any _ 0 3 3 [la, lb, lc] rfl (by omega) ?_ _ ?_).mono ?_
  · intro x hx
    simp at hx
    rcases hx with rfl | rfl | rfl
    all_goals omega
  · intro j hj
    match j, hj with
    | 0, _ => go_simp
    | 1, _ => go_simp
    | 2, _ => go_simp
  rintro e w' ⟨rfl, rfl⟩
  go_wp2_with fail
  go_ret
  exact ⟨rfl, by go_grown⟩
theorem LineText1_any (p la lb lc : Int) (b0 b1 : Nat) (w : World) (c00 : w.cell? ⟨b0, 0, none⟩ = some (.int .i64 p)) (c10 : w.cell? ⟨b1, 0, none⟩ = some (.int .i64 la)) (c11 : w.cell? ⟨b1, 1, none⟩ = some (.int .i64 lb)) (c12 : w.cell? ⟨b1, 2, none⟩ = some (.int .i64 lc)) :
    Calls Tryz.prog 68 #[.pointer (some ⟨b0, 0, none⟩), .pointer (some ⟨b1, 0, none⟩)] w fun e w' => e = .returned (.bool (Pl.linesB p [(la, lb, lc)])) ∧ Below w.heap.size w w' := by
  rw [Pl.linesB1]
  go_enter Tryz.func68, Tryz.ntmps68
  go_wp2_with fail
  refine (isLine_any p la lb lc _).mono ?_
  rintro e w' ⟨rfl, hb⟩
  go_wp2_with fail
  go_ret
  exact ⟨rfl, hb⟩
theorem LineText_any (p la lb lc : Int) (w : World) :
    Calls Tryz.prog 26 #[.int .i64 p, .agg #[.int .i64 la, .int .i64 lb, .int .i64 lc]] w fun e w' => e = .returned (.tuple #[.string ⟨(Pl.textLn p la lb lc).1.toArray⟩, .int .i64 (Pl.textLn p la lb lc).2]) ∧ Below w.heap.size w w' := by
  by_cases h0 : Pl.ask p (Pl.linesB p [(la, lb, lc)]) = 0
  · have hfin : Hid (Pl.textLn p la lb lc = (Pl.joinT [la, lb, lc], 0)) := by unfold Hid Pl.textLn; rw [if_pos h0]
    rw [hfin.out]
    dsimp only
    have hv := Pl.ask_ok h0
    obtain ⟨la1, la2, lb1, lb2, lc1, lc2⟩ := Pl.lines1_bd hv.2
    have hp := Pl.field_bd hv.1
    obtain ⟨hp1, hp2⟩ := hp
    clear hv
    go_enter Tryz.func26, Tryz.ntmps26
    go_wp2_with fail
    refine (asked_any p _ _ (Pl.linesB p [(la, lb, lc)]) _ (by kernel_rfl) ?_).mono ?_
    · intro _
      exact LineText1_any p la lb lc _ _ _ (by go_simp) (by go_simp) (by go_simp) (by go_simp)
    · rintro e w1 ⟨rfl, hb⟩
      have c00 : w1.cell? ⟨w.heap.size, 0, none⟩ = some (.int .i64 p) := cellOf hb (by go_simp) (by simp <;> omega)
      have c10 : w1.cell? ⟨w.heap.size + 1, 0, none⟩ = some (.int .i64 la) := cellOf hb (by go_simp) (by simp <;> omega)
      have c11 : w1.cell? ⟨w.heap.size + 1, 1, none⟩ = some (.int .i64 lb) := cellOf hb (by go_simp) (by simp <;> omega)
      have c12 : w1.cell? ⟨w.heap.size + 1, 2, none⟩ = some (.int .i64 lc) := cellOf hb (by go_simp) (by simp <;> omega)
      have hB : Below w.heap.size w w1 := below_of (by go_grown) hb (by simp <;> omega)
      clear hb
      go_wp2_with fail
      refine (lineText_any la lb lc _ (by omega) (by omega) (by omega) (by omega) (by omega) (by omega)).mono ?_
      rintro e w2 ⟨rfl, hb⟩
      replace hB := below_of hB hb hB.size
      go_wp2_with fail
      go_ret2
      exact ⟨by first | rfl | (rw [h0]), hB⟩
  · have hne : (Pl.ask p (Pl.linesB p [(la, lb, lc)]) != 0) = true := by simpa using h0
    have hfin : Hid (Pl.textLn p la lb lc = ([], Pl.ask p (Pl.linesB p [(la, lb, lc)]))) := by unfold Hid Pl.textLn; rw [if_neg h0]
    rw [hfin.out]
    dsimp only
    clear h0
    go_enter Tryz.func26, Tryz.ntmps26
    go_wp2_with fail
    refine (asked_any p _ _ (Pl.linesB p [(la, lb, lc)]) _ (by kernel_rfl) ?_).mono ?_
    · intro _
      exact LineText1_any p la lb lc _ _ _ (by go_simp) (by go_simp) (by go_simp) (by go_simp)
    · rintro e w1 ⟨rfl, hb⟩
      have c00 : w1.cell? ⟨w.heap.size, 0, none⟩ = some (.int .i64 p) := cellOf hb (by go_simp) (by simp <;> omega)
      have c10 : w1.cell? ⟨w.heap.size + 1, 0, none⟩ = some (.int .i64 la) := cellOf hb (by go_simp) (by simp <;> omega)
      have c11 : w1.cell? ⟨w.heap.size + 1, 1, none⟩ = some (.int .i64 lb) := cellOf hb (by go_simp) (by simp <;> omega)
      have c12 : w1.cell? ⟨w.heap.size + 1, 2, none⟩ = some (.int .i64 lc) := cellOf hb (by go_simp) (by simp <;> omega)
      have hB : Below w.heap.size w w1 := below_of (by go_grown) hb (by simp <;> omega)
      clear hb
      go_wp2_with fail
      go_ret2
      exact ⟨rfl, hB⟩
theorem sLineText_any (p la lb lc : Int) (w : World) :
    Calls Tryz.prog 27 #[.int .i64 p, .agg #[.int .i64 la, .int .i64 lb, .int .i64 lc]] w fun e w' => e = .returned (.tuple #[.string ⟨(Pl.textLn p la lb lc).1.toArray⟩, .int .i64 (Pl.textLn p la lb lc).2]) ∧ Below w.heap.size w w' := by
  by_cases h0 : Pl.ask p (Pl.linesB p [(la, lb, lc)]) = 0
  · have hfin : Hid (Pl.textLn p la lb lc = (Pl.joinT [la, lb, lc], 0)) := by unfold Hid Pl.textLn; rw [if_pos h0]
    rw [hfin.out]
    dsimp only
    have hv := Pl.ask_ok h0
    obtain ⟨la1, la2, lb1, lb2, lc1, lc2⟩ := Pl.lines1_bd hv.2
    have hp := Pl.field_bd hv.1
    obtain ⟨hp1, hp2⟩ := hp
    clear hv
    go_enter Tryz.func27, Tryz.ntmps27
    go_wp2_with fail
    refine (l01Lines_any p _ 0 1 1 [(la, lb, lc)] rfl (by omega) _ (by simp) ?_).mono ?_
    · intro j hj
      match j, hj with
      | 0, _ => exact ⟨by go_simp, by go_simp, by go_simp⟩
    · rintro e w1 ⟨rfl, hb⟩
      have c0 : w1.cell? ⟨w.heap.size, 0, none⟩ = some (.int .i64 la) := keepC hb (by go_simp)
      have c1 : w1.cell? ⟨w.heap.size, 1, none⟩ = some (.int .i64 lb) := keepC hb (by go_simp)
      have c2 : w1.cell? ⟨w.heap.size, 2, none⟩ = some (.int .i64 lc) := keepC hb (by go_simp)
      have hB : Below w.heap.size w w1 := below_of (by go_grown) hb (by simp <;> omega)
      clear hb
      go_wp2_with fail
      refine (l01Joined_any _ 0 3 3 [la, lb, lc] rfl (by omega) ?_ _ (by simp) ?_).mono ?_
      · intro x hx
        simp at hx
        rcases hx with rfl | rfl | rfl
        all_goals omega
      · intro j hj
        match j, hj with
        | 0, _ => go_simp
        | 1, _ => go_simp
        | 2, _ => go_simp
      rintro e w2 ⟨rfl, hb⟩
      have hB2 : Below w.heap.size w w2 := below_of (by have := hB.size; go_grown) hb (by have := hB.size; simp <;> omega)
      go_wp2_with fail
      go_ret2
      exact ⟨by first | rfl | (rw [h0]), hB2⟩
  · have hne : (Pl.ask p (Pl.linesB p [(la, lb, lc)]) != 0) = true := by simpa using h0
    have hfin : Hid (Pl.textLn p la lb lc = ([], Pl.ask p (Pl.linesB p [(la, lb, lc)]))) := by unfold Hid Pl.textLn; rw [if_neg h0]
    rw [hfin.out]
    dsimp only
    clear h0
    go_enter Tryz.func27, Tryz.ntmps27
    go_wp2_with fail
    refine (l01Lines_any p _ 0 1 1 [(la, lb, lc)] rfl (by omega) _ (by simp) ?_).mono ?_
    · intro j hj
      match j, hj with
      | 0, _ => exact ⟨by go_simp, by go_simp, by go_simp⟩
    · rintro e w1 ⟨rfl, hb⟩
      have c0 : w1.cell? ⟨w.heap.size, 0, none⟩ = some (.int .i64 la) := keepC hb (by go_simp)
      have c1 : w1.cell? ⟨w.heap.size, 1, none⟩ = some (.int .i64 lb) := keepC hb (by go_simp)
      have c2 : w1.cell? ⟨w.heap.size, 2, none⟩ = some (.int .i64 lc) := keepC hb (by go_simp)
      have hB : Below w.heap.size w w1 := below_of (by go_grown) hb (by simp <;> omega)
      clear hb
      go_wp2_with fail
      go_ret2
      exact ⟨rfl, hB⟩
end Go.Proofs.YtbjcbbnfgfmllaaGreatDoor
