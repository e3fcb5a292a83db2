/- Contracts: lines through a point, points on a line: exported functions of both sides. -/
import Derived.Test.YteocnenjllddaaaSr
import Derived.Test.YteocnenjllddaaaJ
set_option linter.unusedVariables false
set_option linter.unusedSimpArgs false
set_option maxHeartbeats 1000000
set_option maxRecDepth 100000
namespace Go.Proofs.Yteocnenjllddaaa
open Go.RowKit
theorem LinesThrough1_any (p ax ay : Int) (b0 b1 : Nat) (w : World) (c00 : w.cell? ⟨b0, 0, none⟩ = some (.int .i64 p)) (c10 : w.cell? ⟨b1, 0, none⟩ = some (.int .i64 ax)) (c11 : w.cell? ⟨b1, 1, none⟩ = some (.int .i64 ay)) :
    Calls Try.prog 95 #[.pointer (some ⟨b0, 0, none⟩), .pointer (some ⟨b1, 0, none⟩)] w fun e w' => e = .returned (.bool (Pl.ptsB p [(ax, ay)])) ∧ Below w.heap.size w w' := by
  rw [Pl.ptsB1]
  have hB := Below.refl w.heap.size w
  go_enter Try.func95, Try.ntmps95
  go_wp2_with (go_at_call 96; refine (isPoint_any _ _ _ _).mono ?_; rintro e w' ⟨rfl, hbn⟩; replace c00 := keepC hbn c00; replace c10 := keepC hbn c10; replace c11 := keepC hbn c11; replace hB := below_of hB hbn hB.size; clear hbn)
  go_ret
  exact ⟨rfl, hB⟩
theorem LinesThrough_ok (p ax ay : Int) (w : World) (h0 : Pl.ask p (Pl.ptsB p [(ax, ay)]) = 0) :
    Calls Try.prog 43 #[.int .i64 p, .agg #[.int .i64 ax, .int .i64 ay]] w fun e w' => ∃ g c, e = .returned (.tuple #[.slice (some ⟨g, 0, none⟩) (Pl.ltAll p ax ay).length c, .int .i64 0]) ∧ Own w' (w.heap.size) 30 3 g (Pl.ltAll p ax ay).length c (Pl.flat3 ((Pl.ltAll p ax ay))) ∧ Below w.heap.size w w' := by
  have hv : Hid (Pl.fieldB p = true ∧ (Pl.ptsB p [(ax, ay)]) = true) := Pl.ask_ok h0
  have hp := Pl.field_bd hv.out.1
  obtain ⟨hp1, hp2⟩ := hp
  obtain ⟨ax1, ax2, ay1, ay2⟩ := Pl.pts1_bd hv.out.2
  go_enter Try.func43, Try.ntmps43
  go_wp2_with fail
  refine (asked_any p _ _ (Pl.ptsB p [(ax, ay)]) _ (by kernel_rfl) ?_).mono ?_
  · intro _
    exact LinesThrough1_any p ax ay _ _ _ (by go_simp) (by go_simp) (by go_simp)
  · rintro e w1 ⟨rfl, hb⟩
    have c00 : w1.cell? ⟨w.heap.size, 0, none⟩ = some (.int .i64 p) := cellOf hb (by go_simp) (by simp <;> omega)
    have c10 : w1.cell? ⟨w.heap.size + 1, 0, none⟩ = some (.int .i64 ax) := cellOf hb (by go_simp) (by simp <;> omega)
    have c11 : w1.cell? ⟨w.heap.size + 1, 1, none⟩ = some (.int .i64 ay) := cellOf hb (by go_simp) (by simp <;> omega)
    have hz : w.heap.size + 2 ≤ w1.heap.size := by have := hb.size; simp at this; omega
    have hB : Below w.heap.size w w1 := below_of (by go_grown) hb (by simp <;> omega)
    clear hb
    go_wp2_with fail
    refine (linesThrough_any p ax ay w1 (by omega) (by omega) (by omega) (by omega) (by omega) (by omega)).mono ?_
    rintro e w2 ⟨g, c, rfl, hO, hb⟩
    have hO' := hO.low hB.size
    have hB' := below_of hB hb hB.size
    clear hO hB hb
    go_wp2_with fail
    go_ret2
    exact ⟨g, c, rfl, hO', hB'⟩
theorem LinesThrough_err (p ax ay : Int) (w : World) (h0 : ¬ Pl.ask p (Pl.ptsB p [(ax, ay)]) = 0) :
    Calls Try.prog 43 #[.int .i64 p, .agg #[.int .i64 ax, .int .i64 ay]] w fun e w' => e = .returned (.tuple #[.slice none 0 0, .int .i64 (Pl.ask p (Pl.ptsB p [(ax, ay)]))]) ∧ Below w.heap.size w w' := by
  have hne : (Pl.ask p (Pl.ptsB p [(ax, ay)]) != 0) = true := by simpa using h0
  have hne2 : (Pl.ask p (Pl.ptsB p [(ax, ay)]) == 0) = false := by simpa using h0
  clear h0
  go_enter Try.func43, Try.ntmps43
  go_wp2_with fail
  refine (asked_any p _ _ (Pl.ptsB p [(ax, ay)]) _ (by kernel_rfl) ?_).mono ?_
  · intro _
    exact LinesThrough1_any p ax ay _ _ _ (by go_simp) (by go_simp) (by go_simp)
  · rintro e w1 ⟨rfl, hb⟩
    have hz : w.heap.size + 2 ≤ w1.heap.size := by have := hb.size; simp at this; omega
    have hB : Below w.heap.size w w1 := below_of (by go_grown) hb (by simp <;> omega)
    clear hb
    go_wp2_with fail
    go_ret2
    exact ⟨rfl, hB⟩
theorem sLinesThrough_ok (p ax ay : Int) (w : World) (h0 : Pl.ask p (Pl.ptsB p [(ax, ay)]) = 0) :
    Calls Try.prog 42 #[.int .i64 p, .agg #[.int .i64 ax, .int .i64 ay]] w fun e w' => ∃ g c, e = .returned (.tuple #[.slice (some ⟨g, 0, none⟩) (Pl.ltAll p ax ay).length c, .int .i64 0]) ∧ Own w' (w.heap.size) 30 3 g (Pl.ltAll p ax ay).length c (Pl.flat3 ((Pl.ltAll p ax ay))) ∧ Below w.heap.size w w' := by
  have hv : Hid (Pl.fieldB p = true ∧ (Pl.ptsB p [(ax, ay)]) = true) := Pl.ask_ok h0
  have hp := Pl.field_bd hv.out.1
  obtain ⟨hp1, hp2⟩ := hp
  obtain ⟨ax1, ax2, ay1, ay2⟩ := Pl.pts1_bd hv.out.2
  go_enter Try.func42, Try.ntmps42
  go_wp2_with fail
  refine (l01Code_any p _ 0 1 1 [(ax, ay)] rfl (by omega) _ (by simp) ?_).mono ?_
  · intro j hj
    match j, hj with
    | 0, _ => exact ⟨by go_simp, by go_simp⟩
  · rintro e w1 ⟨rfl, hb⟩
    have c00 : w1.cell? ⟨w.heap.size, 0, none⟩ = some (.int .i64 ax) := keepC hb (by go_simp)
    have c01 : w1.cell? ⟨w.heap.size, 1, none⟩ = some (.int .i64 ay) := keepC hb (by go_simp)
    have hB : Below w.heap.size w w1 := below_of (by go_grown) hb (by simp <;> omega)
    clear hb
    have hs1 := hB.size
    go_wp2_with fail
    refine (l01Parallel_any p 0 1 0 ax ay _ (by omega) (by omega) (by omega) (by omega) (by omega) (by omega) (by omega) (by omega) (by omega) (by omega) (by omega) (by omega)).mono ?_
    rintro e w2 ⟨rfl, hb⟩
    rw [Pl.par0]
    have c02 := keepC hb c00
    have c12 := keepC hb c01
    have hB2 := below_of hB hb hB.size
    have hs2 := hB2.size
    have hs3 := World.block_lt_of_cell? w2 _ c02
    clear hb hB c00 c01 hs1
    go_wp2_with fail
    go_loopw [7, 8] (fun v i wr => ∃ k g c : Nat, (k : Int) ≤ p ∧ i = .int .i64 k ∧ v = .slice (some ⟨g, 0, none⟩) (Pl.ltTo p ax ay (k)).length c ∧ Own wr (w.heap.size + 1) 30 3 g (Pl.ltTo p ax ay (k)).length c (Pl.flat3 ((Pl.ltTo p ax ay (k)))) ∧ wr.cell? ⟨w.heap.size, 0, none⟩ = some (.int .i64 ax) ∧ wr.cell? ⟨w.heap.size, 1, none⟩ = some (.int .i64 ay) ∧ Below w.heap.size w wr) (fun _ i _ => (p - intOf i).toNat)
    case atStart => exact ⟨0, _, 1, by omega, rfl, rfl, Own.lit' _ _ _ _ _ 1 [0, 1, (-ay) % p] _ rfl rfl hs3 (by omega) rfl, keepA _ c02, keepA _ c12, hB2.alloc hs2 _⟩
    case round =>
      clear c02 c12 hB2
      obtain ⟨k, g, c, hk, rfl, rfl, hO, c0, c1, hB⟩ := hrel
      have hs := hB.size
      have hs4 := World.block_lt_of_cell? wr _ c0
      have hnl := hid (Pl.ltTo_len p ax ay k)
      by_cases hlt : (k : Int) < p
      · have hl := hid (Pl.ltTo_succ p ax ay k)
        go_wp2_with fail
        refine (l01Parallel_any p 1 (k : Int) 0 ax ay _ (by omega) (by omega) (by omega) (by omega) (by omega) (by omega) (by omega) (by omega) (by omega) (by omega) (by omega) (by omega)).mono ?_
        rintro e w5 ⟨rfl, hb⟩
        rw [Pl.par1]
        have c05 := keepC hb c0
        have c15 := keepC hb c1
        have hO5 := hO.keep hb
        have hB5 := below_of hB hb hs
        have hs5 := hB5.size
        have hs6 := World.block_lt_of_cell? w5 _ c05
        clear hb hB c0 c1 hO
        go_wp2_with (at_builtin; refine wp_push rfl _ _ 57 rfl (w.heap.size + 1) 30 3 24 (.agg #[.int .i64 0, .int .i64 0, .int .i64 0]) Try.underlying57 info_ln rfl (by decide) (by decide) _ _ _ _ rfl (hO5.alloc _) (by rw [hnl.out]; omega) ⟨w5.heap.size, 0, none⟩ 1 [1, (k : Int), ((-ax - (k : Int) * ay) % p)] rfl rfl (new3 _ _ _ _ _) (by simp; exact Nat.le_of_lt hs6) ?_; intro g3 c3 w3 hO3 hb3 hg3 hn3)
        have hO4 := hO3.cast (show (Pl.ltTo p ax ay (k)).length + 1 = (Pl.ltTo p ax ay (k + 1)).length by rw [hl.out]; simp) (show _ = Pl.flat3 (Pl.ltTo p ax ay (k + 1)) by rw [hl.out, Pl.app3])
        have hB4 := (hB5.alloc hs5 _).trans (hb3.mono (Nat.le_succ _))
        have c04 := cellOf hb3 (keepA (.cells #[.int .i64 1, .int .i64 (k : Int), .int .i64 ((-ax - (k : Int) * ay) % p)] 30) c05) (by simp)
        have c14 := cellOf hb3 (keepA (.cells #[.int .i64 1, .int .i64 (k : Int), .int .i64 ((-ax - (k : Int) * ay) % p)] 30) c15) (by simp)
        clear hg3 hn3 hO3 hb3 hO5 hB5 c05 c15
        go_roundw
        case rel => exact ⟨k + 1, g3, c3, by omega, by go_num, by rw [hl.out]; simp, hO4, c04, c14, hB4⟩
        case measure => simp [intOf]; omega
      · go_wp2_with fail
        go_ret2
        have : k = p.toNat := by omega
        subst this
        exact ⟨g, c, rfl, hO.low (Nat.le_succ _), hB⟩
theorem sLinesThrough_err (p ax ay : Int) (w : World) (h0 : ¬ Pl.ask p (Pl.ptsB p [(ax, ay)]) = 0) :
    Calls Try.prog 42 #[.int .i64 p, .agg #[.int .i64 ax, .int .i64 ay]] w fun e w' => e = .returned (.tuple #[.slice none 0 0, .int .i64 (Pl.ask p (Pl.ptsB p [(ax, ay)]))]) ∧ Below w.heap.size w w' := by
  have hne : (Pl.ask p (Pl.ptsB p [(ax, ay)]) != 0) = true := by simpa using h0
  have hne2 : (Pl.ask p (Pl.ptsB p [(ax, ay)]) == 0) = false := by simpa using h0
  clear h0
  go_enter Try.func42, Try.ntmps42
  go_wp2_with fail
  refine (l01Code_any p _ 0 1 1 [(ax, ay)] rfl (by omega) _ (by simp) ?_).mono ?_
  · intro j hj
    match j, hj with
    | 0, _ => exact ⟨by go_simp, by go_simp⟩
  · rintro e w1 ⟨rfl, hb⟩
    have hB : Below w.heap.size w w1 := below_of (by go_grown) hb (by simp <;> omega)
    clear hb
    go_wp2_with fail
    go_ret2
    exact ⟨rfl, hB⟩
end Go.Proofs.Yteocnenjllddaaa
