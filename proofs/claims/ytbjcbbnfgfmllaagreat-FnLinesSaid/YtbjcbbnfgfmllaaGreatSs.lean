/- Contracts: lines through a point, points on a line: exported functions of both sides. -/
import Derived.Test.YtbjcbbnfgfmllaaGreatSr
import Derived.Test.YtbjcbbnfgfmllaaGreatJ
set_option linter.unusedVariables false
set_option linter.unusedSimpArgs false
set_option maxHeartbeats 1000000
set_option maxRecDepth 100000
namespace Go.Proofs.YtbjcbbnfgfmllaaGreat
open Go.RowKit
theorem LinesThrough1_any (p ax ay : Int) (b0 b1 : Nat) (w : World) (c00 : w.cell? ⟨b0, 0, none⟩ = some (.int .i64 p)) (c10 : w.cell? ⟨b1, 0, none⟩ = some (.int .i64 ax)) (c11 : w.cell? ⟨b1, 1, none⟩ = some (.int .i64 ay)) :
    Calls Tryz.prog 52 #[.pointer (some ⟨b0, 0, none⟩), .pointer (some ⟨b1, 0, none⟩)] w fun e w' => e = .returned (.bool (Pl.ptsB p [(ax, ay)])) ∧ Below w.heap.size w w' := by
  rw [Pl.ptsB1]
  have hB := Below.refl w.heap.size w
  go_enter Tryz.func52, Tryz.ntmps52
  go_wp2_with (go_at_call 46; refine (isPoint_any _ _ _ _).mono ?_; rintro e w' ⟨rfl, hbn⟩; replace c00 := keepC hbn c00; replace c10 := keepC hbn c10; replace c11 := keepC hbn c11; replace hB := below_of hB hbn hB.size; clear hbn)
  go_ret
  exact ⟨rfl, hB⟩
theorem LinesThrough_ok (p ax ay : Int) (w : World) (h0 : Pl.ask p (Pl.ptsB p [(ax, ay)]) = 0) :
    Calls Tryz.prog 10 #[.int .i64 p, .agg #[.int .i64 ax, .int .i64 ay]] w fun e w' => ∃ g c, e = .returned (.tuple #[.slice (some ⟨g, 0, none⟩) (Pl.ltAll p ax ay).length c, .int .i64 0]) ∧ Own w' (w.heap.size) 29 3 g (Pl.ltAll p ax ay).length c (Pl.flat3 ((Pl.ltAll p ax ay))) ∧ Below w.heap.size w w' := by
  have hv : Hid (Pl.fieldB p = true ∧ (Pl.ptsB p [(ax, ay)]) = true) := Pl.ask_ok h0
  have hp := Pl.field_bd hv.out.1
  obtain ⟨hp1, hp2⟩ := hp
  obtain ⟨ax1, ax2, ay1, ay2⟩ := Pl.pts1_bd hv.out.2
  go_enter Tryz.func10, Tryz.ntmps10
  go_wp2_with fail
  refine (asked_any p _ _ (Pl.ptsB p [(ax, ay)]) _ (by kernel_rfl) ?_).mono ?_
  · intro _
    exact LinesThrough1_any p ax ay _ _ _ (by go_simp) (by go_simp) (by go_simp)
  · rintro e w1 ⟨rfl, hb⟩
    have c00 : w1.cell? ⟨w.heap.size, 0, none⟩ = some (.int .i64 p) := cellOf hb (by go_simp) (by simp <;> omega)
    have c10 : w1.cell? ⟨w.heap.size + 1, 0, none⟩ = some (.int .i64 ax) := cellOf hb (by go_simp) (by simp <;> omega)
    have c11 : w1.cell? ⟨w.heap.size + 1, 1, none⟩ = some (.int .i64 ay) := cellOf hb (by go_simp) (by simp <;> omega)
    have hz : w.heap.size + 2 ≤ w1.heap.size := by have := hb.size; simp at this; omega
    have hB : Below w.heap.size w w1 := below_of (by go_grown) hb (by simp <;> omega)
    clear hb
    go_wp2_with fail
    refine (linesThrough_any p ax ay w1 (by omega) (by omega) (by omega) (by omega) (by omega) (by omega)).mono ?_
    rintro e w2 ⟨g, c, rfl, hO, hb⟩
    have hO' := hO.low hB.size
    have hB' := below_of hB hb hB.size
    clear hO hB hb
    go_wp2_with fail
    go_ret2
    exact ⟨g, c, rfl, hO', hB'⟩
theorem LinesThrough_err (p ax ay : Int) (w : World) (h0 : ¬ Pl.ask p (Pl.ptsB p [(ax, ay)]) = 0) :
    Calls Tryz.prog 10 #[.int .i64 p, .agg #[.int .i64 ax, .int .i64 ay]] w fun e w' => e = .returned (.tuple #[.slice none 0 0, .int .i64 (Pl.ask p (Pl.ptsB p [(ax, ay)]))]) ∧ Below w.heap.size w w' := by
  have hne : (Pl.ask p (Pl.ptsB p [(ax, ay)]) != 0) = true := by simpa using h0
  have hne2 : (Pl.ask p (Pl.ptsB p [(ax, ay)]) == 0) = false := by simpa using h0
  clear h0
  go_enter Tryz.func10, Tryz.ntmps10
  go_wp2_with fail
  refine (asked_any p _ _ (Pl.ptsB p [(ax, ay)]) _ (by kernel_rfl) ?_).mono ?_
  · intro _
    exact LinesThrough1_any p ax ay _ _ _ (by go_simp) (by go_simp) (by go_simp)
  · rintro e w1 ⟨rfl, hb⟩
    have hz : w.heap.size + 2 ≤ w1.heap.size := by have := hb.size; simp at this; omega
    have hB : Below w.heap.size w w1 := below_of (by go_grown) hb (by simp <;> omega)
    clear hb
    go_wp2_with fail
    go_ret2
    exact ⟨rfl, hB⟩
theorem sLinesThrough_ok (p ax ay : Int) (w : World) (h0 : Pl.ask p (Pl.ptsB p [(ax, ay)]) = 0) :
    Calls Tryz.prog 25 #[.int .i64 p, .agg #[.int .i64 ax, .int .i64 ay]] w fun e w' => ∃ g c, e = .returned (.tuple #[.slice (some ⟨g, 0, none⟩) (Pl.ltAll p ax ay).length c, .int .i64 0]) ∧ Own w' (w.heap.size) 29 3 g (Pl.ltAll p ax ay).length c (Pl.flat3 ((Pl.ltAll p ax ay))) ∧ Below w.heap.size w w' := by
  have hv : Hid (Pl.fieldB p = true ∧ (Pl.ptsB p [(ax, ay)]) = true) := Pl.ask_ok h0
  have hp := Pl.field_bd hv.out.1
  obtain ⟨hp1, hp2⟩ := hp
  obtain ⟨ax1, ax2, ay1, ay2⟩ := Pl.pts1_bd hv.out.2
  go_enter Tryz.func25, Tryz.ntmps25
  go_wp2_with fail
  refine (l01Code_any p _ 0 1 1 [(ax, ay)] rfl (by omega) _ (by simp) ?_).mono ?_
  · intro j hj
    match j, hj with
    | 0, _ => exact ⟨by go_simp, by go_simp⟩
  · rintro e w1 ⟨rfl, hb⟩
    have c00 : w1.cell? ⟨w.heap.size, 0, none⟩ = some (.int .i64 ax) := keepC hb (by go_simp)
    have c01 : w1.cell? ⟨w.heap.size, 1, none⟩ = some (.int .i64 ay) := keepC hb (by go_simp)
    have hB : Below w.heap.size w w1 := below_of (by go_grown) hb (by simp <;> omega)
    clear hb
    have hs1 := hB.size
    go_wp2_with fail
    refine (l01Parallel_any p 0 1 0 ax ay _ (by omega) (by omega) (by omega) (by omega) (by omega) (by omega) (by omega) (by omega) (by omega) (by omega) (by omega) (by omega)).mono ?_
    rintro e w2 ⟨rfl, hb⟩
    rw [Pl.par0]
    have c02 := keepC hb c00
    have c12 := keepC hb c01
    have hB2 := below_of hB hb hB.size
    have hs2 := hB2.size
    have hs3 := World.block_lt_of_cell? w2 _ c02
    clear hb hB c00 c01 hs1
    go_wp2_with fail
    go_loopw [7, 8] (fun v i wr => ∃ k g c : Nat, (k : Int) ≤ p ∧ i = .int .i64 k ∧ v = .slice (some ⟨g, 0, none⟩) (Pl.ltTo p ax ay (k)).length c ∧ Own wr (w.heap.size + 1) 29 3 g (Pl.ltTo p ax ay (k)).length c (Pl.flat3 ((Pl.ltTo p ax ay (k)))) ∧ wr.cell? ⟨w.heap.size, 0, none⟩ = some (.int .i64 ax) ∧ wr.cell? ⟨w.heap.size, 1, none⟩ = some (.int .i64 ay) ∧ Below w.heap.size w wr) (fun _ i _ => (p - intOf i).toNat)
    case atStart => exact ⟨0, _, 1, by omega, rfl, rfl, Own.lit' _ _ _ _ _ 1 [0, 1, (-ay) % p] _ rfl rfl hs3 (by omega) rfl, keepA _ c02, keepA _ c12, hB2.alloc hs2 _⟩
    case round =>
      clear c02 c12 hB2
      obtain ⟨k, g, c, hk, rfl, rfl, hO, c0, c1, hB⟩ := hrel
      have hs := hB.size
      have hs4 := World.block_lt_of_cell? wr _ c0
      have hnl := hid (Pl.ltTo_len p ax ay k)
      by_cases hlt : (k : Int) < p
      · have hl := hid (Pl.ltTo_succ p ax ay k)
        go_wp2_with fail
        refine (l01Parallel_any p 1 (k : Int) 0 ax ay _ (by omega) (by omega) (by omega) (by omega) (by omega) (by omega) (by omega) (by omega) (by omega) (by omega) (by omega) (by omega)).mono ?_
        rintro e w5 ⟨rfl, hb⟩
        rw [Pl.par1]
        have c05 := keepC hb c0
        have c15 := keepC hb c1
        have hO5 := hO.keep hb
        have hB5 := below_of hB hb hs
        have hs5 := hB5.size
        have hs6 := World.block_lt_of_cell? w5 _ c05
        clear hb hB c0 c1 hO
        go_wp2_with (at_builtin; refine wp_push rfl _ _ 37 rfl (w.heap.size + 1) 29 3 24 (.agg #[.int .i64 0, .int .i64 0, .int .i64 0]) Tryz.underlying37 info_ln rfl (by decide) (by decide) _ _ _ _ rfl (hO5.alloc _) (by rw [hnl.out]; omega) ⟨w5.heap.size, 0, none⟩ 1 [1, (k : Int), ((-ax - (k : Int) * ay) % p)] rfl rfl (new3 _ _ _ _ _) (by simp; exact Nat.le_of_lt hs6) ?_; intro g3 c3 w3 hO3 hb3 hg3 hn3)
        have hO4 := hO3.cast (show (Pl.ltTo p ax ay (k)).length + 1 = (Pl.ltTo p ax ay (k + 1)).length by rw [hl.out]; simp) (show _ = Pl.flat3 (Pl.ltTo p ax ay (k + 1)) by rw [hl.out, Pl.app3])
        have hB4 := (hB5.alloc hs5 _).trans (hb3.mono (Nat.le_succ _))
        have c04 := cellOf hb3 (keepA (.cells #[.int .i64 1, .int .i64 (k : Int), .int .i64 ((-ax - (k : Int) * ay) % p)] 29) c05) (by simp)
        have c14 := cellOf hb3 (keepA (.cells #[.int .i64 1, .int .i64 (k : Int), .int .i64 ((-ax - (k : Int) * ay) % p)] 29) c15) (by simp)
        clear hg3 hn3 hO3 hb3 hO5 hB5 c05 c15
        go_roundw
        case rel => exact ⟨k + 1, g3, c3, by omega, by go_num, by rw [hl.out]; simp, hO4, c04, c14, hB4⟩
        case measure => simp [intOf]; omega
      · go_wp2_with fail
        go_ret2
        have : k = p.toNat := by omega
        subst this
        exact ⟨g, c, rfl, hO.low (Nat.le_succ _), hB⟩
theorem sLinesThrough_err (p ax ay : Int) (w : World) (h0 : ¬ Pl.ask p (Pl.ptsB p [(ax, ay)]) = 0) :
    Calls Tryz.prog 25 #[.int .i64 p, .agg #[.int .i64 ax, .int .i64 ay]] w fun e w' => e = .returned (.tuple #[.slice none 0 0, .int .i64 (Pl.ask p (Pl.ptsB p [(ax, ay)]))]) ∧ Below w.heap.size w w' := by
  have hne : (Pl.ask p (Pl.ptsB p [(ax, ay)]) != 0) = true := by simpa using h0
  have hne2 : (Pl.ask p (Pl.ptsB p [(ax, ay)]) == 0) = false := by simpa using h0
  clear h0
  go_enter Tryz.func25, Tryz.ntmps25
  go_wp2_with fail
  refine (l01Code_any p _ 0 1 1 [(ax, ay)] rfl (by omega) _ (by simp) ?_).mono ?_
  · intro j hj
    match j, hj with
    | 0, _ => exact ⟨by go_simp, by go_simp⟩
  · rintro e w1 ⟨rfl, hb⟩
    have hB : Below w.heap.size w w1 := below_of (by go_grown) hb (by simp <;> omega)
    clear hb
    go_wp2_with fail
    go_ret2
    exact ⟨rfl, hB⟩
theorem PointsOn1_any (p la lb lc : Int) (b0 b1 : Nat) (w : World) (c00 : w.cell? ⟨b0, 0, none⟩ = some (.int .i64 p)) (c10 : w.cell? ⟨b1, 0, none⟩ = some (.int .i64 la)) (c11 : w.cell? ⟨b1, 1, none⟩ = some (.int .i64 lb)) (c12 : w.cell? ⟨b1, 2, none⟩ = some (.int .i64 lc)) :
    Calls Tryz.prog 49 #[.pointer (some ⟨b0, 0, none⟩), .pointer (some ⟨b1, 0, none⟩)] w fun e w' => e = .returned (.bool (Pl.linesB p [(la, lb, lc)])) ∧ Below w.heap.size w w' := by
  rw [Pl.linesB1]
  have hB := Below.refl w.heap.size w
  go_enter Tryz.func49, Tryz.ntmps49
  go_wp2_with (go_at_call 47; refine (isLine_any _ _ _ _ _).mono ?_; rintro e w' ⟨rfl, hbn⟩; replace c00 := keepC hbn c00; replace c10 := keepC hbn c10; replace c11 := keepC hbn c11; replace c12 := keepC hbn c12; replace hB := below_of hB hbn hB.size; clear hbn)
  go_ret
  exact ⟨rfl, hB⟩
theorem PointsOn2_any (p ax ay la lb lc : Int) (b0 b1 : Nat) (w : World) (hp1 : 1 ≤ p) (hp2 : p ≤ 31) (ax1 : 0 ≤ ax) (ax2 : ax ≤ 31) (ay1 : 0 ≤ ay) (ay2 : ay ≤ 31) (la1 : 0 ≤ la) (la2 : la ≤ 31) (lb1 : 0 ≤ lb) (lb2 : lb ≤ 31) (lc1 : 0 ≤ lc) (lc2 : lc ≤ 31) (c00 : w.cell? ⟨b0, 0, none⟩ = some (.int .i64 p)) (c10 : w.cell? ⟨b1, 0, none⟩ = some (.int .i64 la)) (c11 : w.cell? ⟨b1, 1, none⟩ = some (.int .i64 lb)) (c12 : w.cell? ⟨b1, 2, none⟩ = some (.int .i64 lc)) :
    Calls Tryz.prog 51 #[.agg #[.int .i64 ax, .int .i64 ay], .pointer (some ⟨b0, 0, none⟩), .pointer (some ⟨b1, 0, none⟩)] w fun e w' => e = .returned (.bool (Pl.onB p ax ay la lb lc)) ∧ Below w.heap.size w w' := by
  have hB := (Below.refl w.heap.size w).alloc (Nat.le_refl _) (.cells #[.int .i64 ax, .int .i64 ay] 25)
  replace c00 := keepA (.cells #[.int .i64 ax, .int .i64 ay] 25) c00
  replace c10 := keepA (.cells #[.int .i64 ax, .int .i64 ay] 25) c10
  replace c11 := keepA (.cells #[.int .i64 ax, .int .i64 ay] 25) c11
  replace c12 := keepA (.cells #[.int .i64 ax, .int .i64 ay] 25) c12
  go_enter Tryz.func51, Tryz.ntmps51
  go_wp2_with (go_at_call 48; refine (isOn_any _ _ _ _ _ _ _ (by omega) (by omega) (by omega) (by omega) (by omega) (by omega) (by omega) (by omega) (by omega) (by omega) (by omega) (by omega)).mono ?_; rintro e w' ⟨rfl, hbn⟩; replace hB := below_of (B := w.heap.size) (a := w) (by first | exact hB | (have := hB.size; go_grown)) hbn (by first | exact hB.size | (have := hB.size; simp <;> omega)); clear hbn)
  go_ret
  exact ⟨rfl, by first | exact hB | go_grown⟩
theorem PointsOn_ok (p la lb lc : Int) (w : World) (h0 : Pl.ask p (Pl.linesB p [(la, lb, lc)]) = 0) :
    Calls Tryz.prog 9 #[.int .i64 p, .agg #[.int .i64 la, .int .i64 lb, .int .i64 lc]] w fun e w' => ∃ g c, e = .returned (.tuple #[.slice (some ⟨g, 0, none⟩) (Pl.ptsW (fun b => Pl.onB p b.1 b.2 la lb lc) p).length c, .int .i64 0]) ∧ Own w' (w.heap.size) 25 2 g (Pl.ptsW (fun b => Pl.onB p b.1 b.2 la lb lc) p).length c (Pl.flat2 ((Pl.ptsW (fun b => Pl.onB p b.1 b.2 la lb lc) p))) ∧ Below w.heap.size w w' := by
  have hv : Hid (Pl.fieldB p = true ∧ (Pl.linesB p [(la, lb, lc)]) = true) := Pl.ask_ok h0
  have hp := Pl.field_bd hv.out.1
  obtain ⟨hp1, hp2⟩ := hp
  obtain ⟨la1, la2, lb1, lb2, lc1, lc2, hl⟩ := Pl.lines1_bd hv.out.2
  clear hl
  go_enter Tryz.func9, Tryz.ntmps9
  go_wp2_with fail
  refine (asked_any p _ _ (Pl.linesB p [(la, lb, lc)]) _ (by kernel_rfl) ?_).mono ?_
  · intro _
    exact PointsOn1_any p la lb lc _ _ _ (by go_simp) (by go_simp) (by go_simp) (by go_simp)
  · rintro e w1 ⟨rfl, hb⟩
    have c00 : w1.cell? ⟨w.heap.size, 0, none⟩ = some (.int .i64 p) := cellOf hb (by go_simp) (by simp <;> omega)
    have c10 : w1.cell? ⟨w.heap.size + 1, 0, none⟩ = some (.int .i64 la) := cellOf hb (by go_simp) (by simp <;> omega)
    have c11 : w1.cell? ⟨w.heap.size + 1, 1, none⟩ = some (.int .i64 lb) := cellOf hb (by go_simp) (by simp <;> omega)
    have c12 : w1.cell? ⟨w.heap.size + 1, 2, none⟩ = some (.int .i64 lc) := cellOf hb (by go_simp) (by simp <;> omega)
    have hz : w.heap.size + 2 ≤ w1.heap.size := by have := hb.size; simp at this; omega
    have hB : Below w.heap.size w w1 := below_of (by go_grown) hb (by simp <;> omega)
    clear hb
    go_wp2_with fail
    refine (pointsWith_any p _ _ (fun x y => #[.agg #[.int .i64 x, .int .i64 y], .pointer (some ⟨w.heap.size, 0, none⟩), .pointer (some ⟨w.heap.size + 1, 0, none⟩)]) (fun b => Pl.onB p b.1 b.2 la lb lc) w1 (by omega) (by omega) (fun x y => by first | rfl | simp) (fun x y w' => by kernel_rfl) (fun x y w' hm hb => ?_)).mono ?_
    · obtain ⟨x1, x2, y1, y2⟩ := Pl.mem_ptsAll (by omega) hm
      exact PointsOn2_any p x y la lb lc _ _ w' (by omega) (by omega) (by omega) (by omega) (by omega) (by omega) (by omega) (by omega) (by omega) (by omega) (by omega) (by omega) (keepC hb c00) (keepC hb c10) (keepC hb c11) (keepC hb c12)
    rintro e w2 ⟨g, c, rfl, hO, hb⟩
    have hO' := hO.low hB.size
    have hB' := below_of hB hb hB.size
    clear hO hB hb
    go_wp2_with fail
    go_ret2
    exact ⟨g, c, rfl, hO', hB'⟩
theorem PointsOn_err (p la lb lc : Int) (w : World) (h0 : ¬ Pl.ask p (Pl.linesB p [(la, lb, lc)]) = 0) :
    Calls Tryz.prog 9 #[.int .i64 p, .agg #[.int .i64 la, .int .i64 lb, .int .i64 lc]] w fun e w' => e = .returned (.tuple #[.slice none 0 0, .int .i64 (Pl.ask p (Pl.linesB p [(la, lb, lc)]))]) ∧ Below w.heap.size w w' := by
  have hne : (Pl.ask p (Pl.linesB p [(la, lb, lc)]) != 0) = true := by simpa using h0
  have hne2 : (Pl.ask p (Pl.linesB p [(la, lb, lc)]) == 0) = false := by simpa using h0
  clear h0
  go_enter Tryz.func9, Tryz.ntmps9
  go_wp2_with fail
  refine (asked_any p _ _ (Pl.linesB p [(la, lb, lc)]) _ (by kernel_rfl) ?_).mono ?_
  · intro _
    exact PointsOn1_any p la lb lc _ _ _ (by go_simp) (by go_simp) (by go_simp) (by go_simp)
  · rintro e w1 ⟨rfl, hb⟩
    have hz : w.heap.size + 2 ≤ w1.heap.size := by have := hb.size; simp at this; omega
    have hB : Below w.heap.size w w1 := below_of (by go_grown) hb (by simp <;> omega)
    clear hb
    go_wp2_with fail
    go_ret2
    exact ⟨rfl, hB⟩
theorem sPointsOn_ok (p la lb lc : Int) (w : World) (h0 : Pl.ask p (Pl.linesB p [(la, lb, lc)]) = 0) :
    Calls Tryz.prog 23 #[.int .i64 p, .agg #[.int .i64 la, .int .i64 lb, .int .i64 lc]] w fun e w' => ∃ g c, e = .returned (.tuple #[.slice (some ⟨g, 0, none⟩) (Pl.ptsW (fun b => Pl.onB p b.1 b.2 la lb lc) p).length c, .int .i64 0]) ∧ Own w' (w.heap.size) 25 2 g (Pl.ptsW (fun b => Pl.onB p b.1 b.2 la lb lc) p).length c (Pl.flat2 ((Pl.ptsW (fun b => Pl.onB p b.1 b.2 la lb lc) p))) ∧ Below w.heap.size w w' := by
  have hv : Hid (Pl.fieldB p = true ∧ (Pl.linesB p [(la, lb, lc)]) = true) := Pl.ask_ok h0
  have hp := Pl.field_bd hv.out.1
  obtain ⟨hp1, hp2⟩ := hp
  obtain ⟨la1, la2, lb1, lb2, lc1, lc2, hl⟩ := Pl.lines1_bd hv.out.2
  clear hl
  go_enter Tryz.func23, Tryz.ntmps23
  go_wp2_with fail
  refine (l01Lines_any p _ 0 1 1 [(la, lb, lc)] rfl (by omega) _ (by simp) ?_).mono ?_
  · intro j hj
    match j, hj with
    | 0, _ => exact ⟨by go_simp, by go_simp, by go_simp⟩
  · rintro e w1 ⟨rfl, hb⟩
    have c00 : w1.cell? ⟨w.heap.size, 0, none⟩ = some (.int .i64 la) := keepC hb (by go_simp)
    have c01 : w1.cell? ⟨w.heap.size, 1, none⟩ = some (.int .i64 lb) := keepC hb (by go_simp)
    have c02 : w1.cell? ⟨w.heap.size, 2, none⟩ = some (.int .i64 lc) := keepC hb (by go_simp)
    have hB : Below w.heap.size w w1 := below_of (by go_grown) hb (by simp <;> omega)
    clear hb
    have hs1 := hB.size
    go_wp2_with fail
    obtain ⟨n, hn1, hn2⟩ : ∃ n : Nat, p ≤ n ∧ (n : Int) ≤ p := ⟨p.toNat, by omega, by omega⟩
    have HBB := hid hB
    clear hB
    go_loopw [7, 8] (fun v i wr => ∃ x g c : Nat, x ≤ n ∧ i = .int .i64 x ∧ v = .slice (some ⟨g, 0, none⟩) (Pl.bf (fun b => Pl.onB p b.1 b.2 la lb lc) n x 0).length c ∧ Own wr (w1.heap.size) 25 2 g (Pl.bf (fun b => Pl.onB p b.1 b.2 la lb lc) n x 0).length c (Pl.flat2 ((Pl.bf (fun b => Pl.onB p b.1 b.2 la lb lc) n x 0))) ∧ Below w1.heap.size w1 wr) (fun _ i _ => n - (intOf i).toNat)
    case atStart => exact ⟨0, _, 0, by omega, rfl, by rw [Pl.bf_0]; rfl, by rw [Pl.bf_0]; exact Own.lit0 _ _ _ _ _ rfl (Nat.le_refl _), (Below.refl _ _).alloc (Nat.le_refl _) _⟩
    case round =>
      obtain ⟨x, g, c, hx, rfl, rfl, hO, hB⟩ := hrel
      by_cases hlt : x < n
      · have hltp : (x : Int) < p := by omega
        go_wp2_with fail
        go_loopw [7, 9] (fun v i wr => ∃ y g c : Nat, y ≤ n ∧ i = .int .i64 y ∧ v = .slice (some ⟨g, 0, none⟩) (Pl.bf (fun b => Pl.onB p b.1 b.2 la lb lc) n x y).length c ∧ Own wr (w1.heap.size) 25 2 g (Pl.bf (fun b => Pl.onB p b.1 b.2 la lb lc) n x y).length c (Pl.flat2 ((Pl.bf (fun b => Pl.onB p b.1 b.2 la lb lc) n x y))) ∧ Below w1.heap.size w1 wr) (fun _ i _ => n - (intOf i).toNat)
        case atStart => exact ⟨0, g, c, by omega, rfl, rfl, hO, hB⟩
        case round =>
          clear hO hB
          obtain ⟨y, g, c, hy, rfl, rfl, hO, hB⟩ := hrel
          have hs := hB.size
          have hnl := hid (Pl.bf_len (P := fun b => Pl.onB p b.1 b.2 la lb lc) (p := n) (x := x) (y := y) (by omega) hx hy)
          by_cases hlt2 : y < n
          · have hlt2p : (y : Int) < p := by omega
            have kc00 := keepA (.cells #[.int .i64 (x : Int), .int .i64 (y : Int)] 25) (keepC hB c00)
            have kc01 := keepA (.cells #[.int .i64 (x : Int), .int .i64 (y : Int)] 25) (keepC hB c01)
            have kc02 := keepA (.cells #[.int .i64 (x : Int), .int .i64 (y : Int)] 25) (keepC hB c02)
            go_wp2_with fail
            generalize hW : (World.alloc wr (.cells #[.int .i64 (x : Int), .int .i64 (y : Int)] 25)) = W2
            have b0 : W2.cell? ⟨wr.heap.size, 0, none⟩ = some (.int .i64 (x : Int)) := by subst hW; go_simp
            have b1 : W2.cell? ⟨wr.heap.size, 1, none⟩ = some (.int .i64 (y : Int)) := by subst hW; go_simp
            rw [hW] at kc00
            rw [hW] at kc01
            rw [hW] at kc02
            have hO2 : Own W2 (w1.heap.size) 25 2 g (Pl.bf (fun b => Pl.onB p b.1 b.2 la lb lc) n x y).length c (Pl.flat2 ((Pl.bf (fun b => Pl.onB p b.1 b.2 la lb lc) n x y))) := by subst hW; exact hO.alloc _
            have hB2 : Below w1.heap.size w1 W2 := by subst hW; exact hB.alloc hs _
            clear hW hO hB hs
            refine (l01On_any p x y la lb lc _ (by omega) (by omega) (by omega) (by omega) (by omega) (by omega) (by omega) (by omega) (by omega) (by omega) (by omega) (by omega)).mono ?_
            rintro e w2 ⟨rfl, hb⟩
            replace b0 := keepC hb b0
            replace b1 := keepC hb b1
            replace kc00 := keepC hb kc00
            replace kc01 := keepC hb kc01
            replace kc02 := keepC hb kc02
            have hO3 := hO2.keep hb
            have hB3 := below_of hB2 hb hB2.size
            have hs3 := hB3.size
            clear hO2 hB2 hb
            cases hP : (Pl.onB p x y la lb lc) with
            | true =>
              have hl := hid (Pl.bf_hit (P := fun b => Pl.onB p b.1 b.2 la lb lc) (p := n) (x := x) (y := y) hP)
              go_wp2_with (at_builtin; refine wp_push rfl _ _ 34 rfl (w1.heap.size) 25 2 16 (.agg #[.int .i64 0, .int .i64 0]) Tryz.underlying34 info_pt rfl (by decide) (by decide) _ _ _ _ rfl (hO3.alloc _) (by have := hnl.out; omega) ⟨w2.heap.size, 0, none⟩ 1 [(x : Int), (y : Int)] rfl rfl (new2 _ _ _ _) (by simp; omega) ?_; intro g5 c5 w5 hO5 hb5 hg5 hn5)
              have hO6 := hO5.cast (show (Pl.bf (fun b => Pl.onB p b.1 b.2 la lb lc) n x y).length + 1 = (Pl.bf (fun b => Pl.onB p b.1 b.2 la lb lc) n x (y + 1)).length by rw [hl.out]; simp) (show _ = Pl.flat2 (Pl.bf (fun b => Pl.onB p b.1 b.2 la lb lc) n x (y + 1)) by rw [hl.out, Pl.app2])
              have hB6 := (hB3.alloc hs3 _).trans hb5
              clear hO5 hb5 hg5 hn5 hO3 hB3
              go_roundw
              case rel => exact ⟨y + 1, g5, c5, by omega, by go_num, by rw [hl.out]; simp, hO6, hB6⟩
              case measure => simp [intOf]; omega
            | false =>
              have hl := hid (Pl.bf_miss (P := fun b => Pl.onB p b.1 b.2 la lb lc) (p := n) (x := x) (y := y) hP)
              go_wp2_with fail
              go_roundw
              case rel => exact ⟨y + 1, g, c, by omega, by go_num, by rw [hl.out], by rw [hl.out]; exact hO3, hB3⟩
              case measure => simp [intOf]; omega
          · have hyn : y = n := by omega
            subst hyn
            have hl := hid (Pl.bf_x (fun b => Pl.onB p b.1 b.2 la lb lc) y x)
            go_wp2_with fail
            go_roundw
            case rel => exact ⟨x + 1, g, c, by omega, by go_num, by rw [hl.out], by rw [hl.out]; exact hO, hB⟩
            case measure => simp [intOf]; omega
      · go_wp2_with fail
        have hxn : x = n := by omega
        subst hxn
        have hfin := Pl.bf_fin (P := fun b => Pl.onB p b.1 b.2 la lb lc) hn1 hn2
        rw [hfin] at hO
        go_ret2
        exact ⟨g, c, by rw [hfin]; rfl, hO.low HBB.out.size, below_of HBB.out hB HBB.out.size⟩
theorem sPointsOn_err (p la lb lc : Int) (w : World) (h0 : ¬ Pl.ask p (Pl.linesB p [(la, lb, lc)]) = 0) :
    Calls Tryz.prog 23 #[.int .i64 p, .agg #[.int .i64 la, .int .i64 lb, .int .i64 lc]] w fun e w' => e = .returned (.tuple #[.slice none 0 0, .int .i64 (Pl.ask p (Pl.linesB p [(la, lb, lc)]))]) ∧ Below w.heap.size w w' := by
  have hne : (Pl.ask p (Pl.linesB p [(la, lb, lc)]) != 0) = true := by simpa using h0
  have hne2 : (Pl.ask p (Pl.linesB p [(la, lb, lc)]) == 0) = false := by simpa using h0
  clear h0
  go_enter Tryz.func23, Tryz.ntmps23
  go_wp2_with fail
  refine (l01Lines_any p _ 0 1 1 [(la, lb, lc)] rfl (by omega) _ (by simp) ?_).mono ?_
  · intro j hj
    match j, hj with
    | 0, _ => exact ⟨by go_simp, by go_simp, by go_simp⟩
  · rintro e w1 ⟨rfl, hb⟩
    have hB : Below w.heap.size w w1 := below_of (by go_grown) hb (by simp <;> omega)
    clear hb
    go_wp2_with fail
    go_ret2
    exact ⟨rfl, hB⟩
end Go.Proofs.YtbjcbbnfgfmllaaGreat
