/- Contracts: null lines through a point: both sides. -/
import Derived.Test.YtbjcbbnfgfmllaaSr
import Derived.Test.YtbjcbbnfgfmllaaH2
import Derived.Test.YtbjcbbnfgfmllaaPlA
import Derived.Test.YtbjcbbnfgfmllaaK
set_option linter.unusedVariables false
set_option linter.unusedSimpArgs false
set_option maxHeartbeats 1000000
set_option maxRecDepth 100000
namespace Go.Proofs.Ytbjcbbnfgfmllaa
open Go.RowKit
theorem NullLines1_any (p k ax ay : Int) (b0 b1 b2 : Nat) (w : World) (c00 : w.cell? ⟨b0, 0, none⟩ = some (.int .i64 p)) (c10 : w.cell? ⟨b1, 0, none⟩ = some (.int .i64 k)) (c20 : w.cell? ⟨b2, 0, none⟩ = some (.int .i64 ax)) (c21 : w.cell? ⟨b2, 1, none⟩ = some (.int .i64 ay)) :
    Calls Try.prog 133 #[.pointer (some ⟨b1, 0, none⟩), .pointer (some ⟨b0, 0, none⟩), .pointer (some ⟨b2, 0, none⟩)] w fun e w' => e = .returned (.bool (Pl.colB k && Pl.ptsB p [(ax, ay)])) ∧ Below w.heap.size w w' := by
  rw [Pl.ptsB1]
  cases hk : Pl.colB k with
  | false =>
    have hB := Below.refl w.heap.size w
    go_enter Try.func133, Try.ntmps133
    go_wp2_with (first | (go_at_call 75; refine (isColour_any _ _).mono ?_; rintro e w' ⟨rfl, rfl⟩) | (go_at_call 112; refine (isPoint_any _ _ _ _).mono ?_; rintro e w' ⟨rfl, hbn⟩; replace c00 := keepC hbn c00; replace c10 := keepC hbn c10; replace c20 := keepC hbn c20; replace c21 := keepC hbn c21; replace hB := below_of hB hbn hB.size; clear hbn))
    go_ret
    exact ⟨rfl, hB⟩
  | true =>
    have hB := Below.refl w.heap.size w
    go_enter Try.func133, Try.ntmps133
    go_wp2_with (first | (go_at_call 75; refine (isColour_any _ _).mono ?_; rintro e w' ⟨rfl, rfl⟩) | (go_at_call 112; refine (isPoint_any _ _ _ _).mono ?_; rintro e w' ⟨rfl, hbn⟩; replace c00 := keepC hbn c00; replace c10 := keepC hbn c10; replace c20 := keepC hbn c20; replace c21 := keepC hbn c21; replace hB := below_of hB hbn hB.size; clear hbn))
    go_ret
    exact ⟨rfl, hB⟩
theorem NullLines2_any (la lb lc p k : Int) (b0 b1 : Nat) (w : World) (hp1 : 1 ≤ p) (hp2 : p ≤ 31) (la1 : 0 ≤ la) (la2 : la ≤ 31) (lb1 : 0 ≤ lb) (lb2 : lb ≤ 31) (lc1 : 0 ≤ lc) (lc2 : lc ≤ 31) (c00 : w.cell? ⟨b0, 0, none⟩ = some (.int .i64 p)) (c10 : w.cell? ⟨b1, 0, none⟩ = some (.int .i64 k)) :
    Calls Try.prog 135 #[.agg #[.int .i64 la, .int .i64 lb, .int .i64 lc], .pointer (some ⟨b0, 0, none⟩), .pointer (some ⟨b1, 0, none⟩)] w fun e w' => e = .returned (.bool (Pl.nullB p k la lb)) ∧ Below w.heap.size w w' := by
  have hB := (Below.refl w.heap.size w).alloc (Nat.le_refl _) (.cells #[.int .i64 la, .int .i64 lb, .int .i64 lc] 25)
  replace c00 := keepA (.cells #[.int .i64 la, .int .i64 lb, .int .i64 lc] 25) c00
  replace c10 := keepA (.cells #[.int .i64 la, .int .i64 lb, .int .i64 lc] 25) c10
  go_enter Try.func135, Try.ntmps135
  go_wp2_with (go_at_call 132; refine (isNull_any _ _ _ _ _ _ (by omega) (by omega) (by omega) (by omega) (by omega) (by omega) (by omega) (by omega)).mono ?_; rintro e w' ⟨rfl, hbn⟩; replace hB := below_of (B := w.heap.size) (a := w) (by first | exact hB | (have := hB.size; go_grown)) hbn (by first | exact hB.size | (have := hB.size; simp <;> omega)); clear hbn)
  go_ret
  exact ⟨rfl, by first | exact hB | go_grown⟩
theorem NullLines_ok (p k ax ay : Int) (w : World) (h0 : Pl.ask p (Pl.colB k && Pl.ptsB p [(ax, ay)]) = 0) :
    Calls Try.prog 55 #[.int .i64 p, .int .i64 k, .agg #[.int .i64 ax, .int .i64 ay]] w fun e w' => ∃ g c, e = .returned (.tuple #[.slice (some ⟨g, 0, none⟩) (Pl.lnsW (fun m => Pl.nullB p k m.1 m.2.1) p ax ay).length c, .int .i64 0]) ∧ Own w' (w.heap.size) 25 3 g (Pl.lnsW (fun m => Pl.nullB p k m.1 m.2.1) p ax ay).length c (Pl.flat3 ((Pl.lnsW (fun m => Pl.nullB p k m.1 m.2.1) p ax ay))) ∧ Below w.heap.size w w' := by
  have hv : Hid (Pl.fieldB p = true ∧ (Pl.colB k && Pl.ptsB p [(ax, ay)]) = true) := Pl.ask_ok h0
  have hp := Pl.field_bd hv.out.1
  obtain ⟨hp1, hp2⟩ := hp
  have hv2 := hv.out.2
  simp only [Bool.and_eq_true] at hv2
  obtain ⟨ax1, ax2, ay1, ay2⟩ := Pl.pts1_bd hv2.2
  clear hv2
  have hf := hv.out.1
  go_enter Try.func55, Try.ntmps55
  go_wp2_with fail
  refine (asked_any p _ _ (Pl.colB k && Pl.ptsB p [(ax, ay)]) _ (by kernel_rfl) ?_).mono ?_
  · intro _
    exact NullLines1_any p k ax ay _ _ _ _ (by go_simp) (by go_simp) (by go_simp) (by go_simp)
  · rintro e w1 ⟨rfl, hb⟩
    have c00 : w1.cell? ⟨w.heap.size, 0, none⟩ = some (.int .i64 p) := cellOf hb (by go_simp) (by simp <;> omega)
    have c10 : w1.cell? ⟨w.heap.size + 1, 0, none⟩ = some (.int .i64 k) := cellOf hb (by go_simp) (by simp <;> omega)
    have c20 : w1.cell? ⟨w.heap.size + 2, 0, none⟩ = some (.int .i64 ax) := cellOf hb (by go_simp) (by simp <;> omega)
    have c21 : w1.cell? ⟨w.heap.size + 2, 1, none⟩ = some (.int .i64 ay) := cellOf hb (by go_simp) (by simp <;> omega)
    have hz : w.heap.size + 3 ≤ w1.heap.size := by have := hb.size; simp at this; omega
    have hB : Below w.heap.size w w1 := below_of (by go_grown) hb (by simp <;> omega)
    clear hb
    go_wp2_with fail
    refine (linesWith_any p ax ay _ _ (fun x y z => #[.agg #[.int .i64 x, .int .i64 y, .int .i64 z], .pointer (some ⟨w.heap.size, 0, none⟩), .pointer (some ⟨w.heap.size + 1, 0, none⟩)]) (fun m => Pl.nullB p k m.1 m.2.1) w1 (by omega) (by omega) (by omega) (by omega) (by omega) (by omega) (fun x y z => by first | rfl | simp) (fun x y z w' => by kernel_rfl) (fun x y z w' hm hb => ?_)).mono ?_
    · obtain ⟨hd, y1, y2, z1, z2⟩ := Pl.mem_ltAll (by omega) hm
      have x12 : 0 ≤ x ∧ x ≤ 31 := by omega
      exact NullLines2_any x y z p k _ _ w' (by omega) (by omega) x12.1 x12.2 (by omega) (by omega) (by omega) (by omega) (keepC hb c00) (keepC hb c10)
    rintro e w9 ⟨g, c, rfl, hO, hb⟩
    have hO' := hO.low hB.size
    have hB' := below_of hB hb hB.size
    clear hO hB hb
    go_wp2_with fail
    go_ret2
    exact ⟨g, c, rfl, hO', hB'⟩
theorem NullLines_err (p k ax ay : Int) (w : World) (h0 : ¬ Pl.ask p (Pl.colB k && Pl.ptsB p [(ax, ay)]) = 0) :
    Calls Try.prog 55 #[.int .i64 p, .int .i64 k, .agg #[.int .i64 ax, .int .i64 ay]] w fun e w' => e = .returned (.tuple #[.slice none 0 0, .int .i64 (Pl.ask p (Pl.colB k && Pl.ptsB p [(ax, ay)]))]) ∧ Below w.heap.size w w' := by
  have hne : (Pl.ask p (Pl.colB k && Pl.ptsB p [(ax, ay)]) != 0) = true := by simpa using h0
  have hne2 : (Pl.ask p (Pl.colB k && Pl.ptsB p [(ax, ay)]) == 0) = false := by simpa using h0
  clear h0
  go_enter Try.func55, Try.ntmps55
  go_wp2_with fail
  refine (asked_any p _ _ (Pl.colB k && Pl.ptsB p [(ax, ay)]) _ (by kernel_rfl) ?_).mono ?_
  · intro _
    exact NullLines1_any p k ax ay _ _ _ _ (by go_simp) (by go_simp) (by go_simp) (by go_simp)
  · rintro e w1 ⟨rfl, hb⟩
    have hz : w.heap.size + 3 ≤ w1.heap.size := by have := hb.size; simp at this; omega
    have hB : Below w.heap.size w w1 := below_of (by go_grown) hb (by simp <;> omega)
    clear hb
    go_wp2_with fail
    go_ret2
    exact ⟨rfl, hB⟩
theorem sNullLines_ok (p k ax ay : Int) (w : World) (h0 : Pl.ask p (Pl.colB k && Pl.ptsB p [(ax, ay)]) = 0) :
    Calls Try.prog 56 #[.int .i64 p, .int .i64 k, .agg #[.int .i64 ax, .int .i64 ay]] w fun e w' => ∃ g c, e = .returned (.tuple #[.slice (some ⟨g, 0, none⟩) (Pl.lnsW (fun m => Pl.nullB p k m.1 m.2.1) p ax ay).length c, .int .i64 0]) ∧ Own w' (w.heap.size) 25 3 g (Pl.lnsW (fun m => Pl.nullB p k m.1 m.2.1) p ax ay).length c (Pl.flat3 ((Pl.lnsW (fun m => Pl.nullB p k m.1 m.2.1) p ax ay))) ∧ Below w.heap.size w w' := by
  have hv : Hid (Pl.fieldB p = true ∧ (Pl.colB k && Pl.ptsB p [(ax, ay)]) = true) := Pl.ask_ok h0
  have hp := Pl.field_bd hv.out.1
  obtain ⟨hp1, hp2⟩ := hp
  have hv2 := hv.out.2
  simp only [Bool.and_eq_true] at hv2
  obtain ⟨ax1, ax2, ay1, ay2⟩ := Pl.pts1_bd hv2.2
  clear hv2
  have hf := hv.out.1
  go_enter Try.func56, Try.ntmps56
  go_wp2_with fail
  refine (l02Code_any p k _ 0 1 1 [(ax, ay)] rfl (by omega) _ (by simp) ?_).mono ?_
  · intro j hj
    match j, hj with
    | 0, _ => exact ⟨by go_simp, by go_simp⟩
  · rintro e w1 ⟨rfl, hb⟩
    have c00 : w1.cell? ⟨w.heap.size, 0, none⟩ = some (.int .i64 ax) := keepC hb (by go_simp)
    have c01 : w1.cell? ⟨w.heap.size, 1, none⟩ = some (.int .i64 ay) := keepC hb (by go_simp)
    have hB : Below w.heap.size w w1 := below_of (by go_grown) hb (by simp <;> omega)
    clear hb
    have hs1 := hB.size
    go_wp2_with fail
    have HBB := hid hB
    clear hB hs1
    go_loopw [9, 10] (fun v i wr => ∃ (kk : Nat) (z : Int) (g c : Nat), z + 1 ≤ kk ∧ (kk : Int) ≤ z + 1 ∧ z ≤ p ∧ i = .int .i64 z ∧ v = .slice (some ⟨g, 0, none⟩) (((Pl.ltAll p ax ay).take (kk)).filter (fun m => Pl.nullB p k m.1 m.2.1)).length c ∧ Own wr (w1.heap.size) 25 3 g (((Pl.ltAll p ax ay).take (kk)).filter (fun m => Pl.nullB p k m.1 m.2.1)).length c (Pl.flat3 ((((Pl.ltAll p ax ay).take (kk)).filter (fun m => Pl.nullB p k m.1 m.2.1)))) ∧ Below w1.heap.size w1 wr) (fun _ i _ => (p - intOf i).toNat)
    case atStart => exact ⟨0, -1, _, 0, by omega, by omega, by omega, rfl, rfl, Own.lit0 _ _ _ _ _ rfl (Nat.le_refl _), (Below.refl _ _).alloc (Nat.le_refl _) _⟩
    case round =>
      obtain ⟨kk, z, g, c, hk1, hk2, hz, rfl, rfl, hO, hB⟩ := hrel
      have hs := hB.size
      have hnl := hid (Pl.take_len (fun m => Pl.nullB p k m.1 m.2.1) (Pl.ltAll p ax ay) kk)
      by_cases hlt : z < p
      · have hay := Int.emod_nonneg (-ay) (show p ≠ 0 by omega)
        have hay2 := Int.emod_lt_of_pos (-ay) (show 0 < p by omega)
        have e0 : IntKind.i64.wrap (-ay) = -ay := IntWalk.i64_in _ (by omega)
        by_cases hz0 : z = -1
        · obtain rfl := hz0
          obtain rfl : kk = 0 := by omega
          have hq := hid (show (Pl.ltAll p ax ay).getD (0) (0, 0, 0) = (0, 1, (-ay) % p) from Pl.lt_get0 p ax ay)
          have hkl : 0 < (Pl.ltAll p ax ay).length := by rw [Pl.ltAll_len]; omega
          have hP1 := hid (fun h => Pl.take_hit (P := fun m => Pl.nullB p k m.1 m.2.1) (l := Pl.ltAll p ax ay) (k := 0) (d := (0, 0, 0)) hkl h)
          have hP2 := hid (fun h => Pl.take_miss (P := fun m => Pl.nullB p k m.1 m.2.1) (l := Pl.ltAll p ax ay) (k := 0) (d := (0, 0, 0)) hkl h)
          have kc0 := keepC hB c00
          have kc1 := keepC hB c01
          go_wp2_with fail
          refine (l01Normal_any p 0 1 (-ay) _ hf (by omega) (by omega) (by omega) (by omega) (by omega) (by omega)).mono ?_
          rintro e w2 ⟨rfl, hb⟩
          rw [Pl.nrm01 hf, Pl.nrm01 hf, Pl.nrm01 hf, Pl.one_mod (by omega), Int.zero_emod]
          replace kc0 := keepC hb kc0
          replace kc1 := keepC hb kc1
          have hO1 := hO.keep hb
          have hB1 := below_of hB hb hB.size
          have hs2 := hB1.size
          clear hO hB hb
          go_wp2_with fail
          generalize hW : (World.alloc w2 (.cells #[.int .i64 0, .int .i64 1, .int .i64 ((-ay) % p)] 25)) = W2
          have b0 : W2.cell? ⟨w2.heap.size, 0, none⟩ = some (.int .i64 (0)) := by subst hW; go_simp
          have b1 : W2.cell? ⟨w2.heap.size, 1, none⟩ = some (.int .i64 (1)) := by subst hW; go_simp
          have b2 : W2.cell? ⟨w2.heap.size, 2, none⟩ = some (.int .i64 ((-ay) % p)) := by subst hW; go_simp
          have hO2 := hid hO1
          replace hO2 : Own W2 (w1.heap.size) 25 3 g (((Pl.ltAll p ax ay).take (0)).filter (fun m => Pl.nullB p k m.1 m.2.1)).length c (Pl.flat3 ((((Pl.ltAll p ax ay).take (0)).filter (fun m => Pl.nullB p k m.1 m.2.1)))) := by subst hW; exact hO1.alloc _
          have hB2 : Below w1.heap.size w1 W2 := by subst hW; exact hB1.alloc hs2 _
          clear hW hO1 hB1
          cases hP : Pl.perpB p k 0 1 0 1 with
          | true =>
            have hl := hid (hP1.out (by rw [hq.out]; exact hP))
            clear hP1 hP2
            refine (l02Perpendicular_any p k 0 1 ((-ay) % p) 0 1 ((-ay) % p) _ (by omega) (by omega) (by omega) (by omega) (by omega) (by omega) (by omega) (by omega) (by omega) (by omega) (by omega) (by omega) (by omega) (by omega)).mono ?_
            rintro e w4 ⟨rfl, hb⟩
            replace b0 := keepC hb b0
            replace b1 := keepC hb b1
            replace b2 := keepC hb b2
            have hO3 := hO2.keep hb
            have hB3 := below_of hB2 hb hB2.size
            have hs3 := hB3.size
            clear hO2 hB2 hb
            go_wp2_with (at_builtin; refine wp_push rfl _ _ 68 rfl (w1.heap.size) 25 3 24 (.agg #[.int .i64 0, .int .i64 0, .int .i64 0]) Try.underlying68 info_ln rfl (by decide) (by decide) _ _ _ _ rfl (hO3.alloc _) (by have := hnl.out; omega) ⟨w4.heap.size, 0, none⟩ 1 [0, 1, ((-ay) % p)] rfl rfl (new3 _ _ _ _ _) (by simp; omega) ?_; intro g5 c5 w5 hO5 hb5 hg5 hn5)
            have hO6 := hO5.cast (show (((Pl.ltAll p ax ay).take (0)).filter (fun m => Pl.nullB p k m.1 m.2.1)).length + 1 = (((Pl.ltAll p ax ay).take (0 + 1)).filter (fun m => Pl.nullB p k m.1 m.2.1)).length by rw [hl.out]; simp) (show _ = Pl.flat3 (((Pl.ltAll p ax ay).take (0 + 1)).filter (fun m => Pl.nullB p k m.1 m.2.1)) by rw [hl.out, hq.out, Pl.app3])
            have hB6 := (hB3.alloc hs3 _).trans hb5
            clear hO5 hb5 hg5 hn5 hO3 hB3
            go_roundw
            case rel => exact ⟨0 + 1, 0, g5, c5, by omega, by omega, by omega, by go_num, by rw [hl.out]; simp, hO6, hB6⟩
            case measure => simp [intOf]; omega
          | false =>
            have hl := hid (hP2.out (by rw [hq.out]; exact hP))
            clear hP1 hP2
            refine (l02Perpendicular_any p k 0 1 ((-ay) % p) 0 1 ((-ay) % p) _ (by omega) (by omega) (by omega) (by omega) (by omega) (by omega) (by omega) (by omega) (by omega) (by omega) (by omega) (by omega) (by omega) (by omega)).mono ?_
            rintro e w4 ⟨rfl, hb⟩
            replace b0 := keepC hb b0
            replace b1 := keepC hb b1
            replace b2 := keepC hb b2
            have hO3 := hO2.keep hb
            have hB3 := below_of hB2 hb hB2.size
            have hs3 := hB3.size
            clear hO2 hB2 hb
            go_wp2_with fail
            go_roundw
            case rel => exact ⟨0 + 1, 0, g, c, by omega, by omega, by omega, by go_num, by rw [hl.out]; first | done | rfl, by rw [hl.out]; exact hO3, hB3⟩
            case measure => simp [intOf]; omega
        · obtain ⟨j, rfl⟩ := Int.eq_ofNat_of_zero_le (show 0 ≤ z by omega)
          obtain rfl : kk = j + 1 := by omega
          have m1 := Pl.mulB (show 0 ≤ (j : Int) by omega) (show (j : Int) ≤ 31 by omega) (show 0 ≤ ay by omega) (show ay ≤ 31 by omega)
          obtain ⟨m1a, m1b⟩ := m1
          have e1 : IntKind.i64.wrap ((j : Int) * ay) = (j : Int) * ay := IntWalk.i64_in _ (by omega)
          have e2 : IntKind.i64.wrap (ax + (j : Int) * ay) = ax + (j : Int) * ay := IntWalk.i64_in _ (by omega)
          have e3 : IntKind.i64.wrap (-(ax + (j : Int) * ay)) = -(ax + (j : Int) * ay) := IntWalk.i64_in _ (by omega)
          have r1n := Int.emod_nonneg (-ax - (j : Int) * ay) (show p ≠ 0 by omega)
          have r1l := Int.emod_lt_of_pos (-ax - (j : Int) * ay) (show 0 < p by omega)
          have hq := hid (show (Pl.ltAll p ax ay).getD (j + 1) (0, 0, 0) = (1, (j : Int), (-ax - (j : Int) * ay) % p) from Pl.lt_getS p ax ay (by omega))
          have hkl : j + 1 < (Pl.ltAll p ax ay).length := by rw [Pl.ltAll_len]; omega
          have hP1 := hid (fun h => Pl.take_hit (P := fun m => Pl.nullB p k m.1 m.2.1) (l := Pl.ltAll p ax ay) (k := j + 1) (d := (0, 0, 0)) hkl h)
          have hP2 := hid (fun h => Pl.take_miss (P := fun m => Pl.nullB p k m.1 m.2.1) (l := Pl.ltAll p ax ay) (k := j + 1) (d := (0, 0, 0)) hkl h)
          have kc0 := keepC hB c00
          have kc1 := keepC hB c01
          go_wp2_with fail
          refine (l01Normal_any p 0 1 (-ay) _ hf (by omega) (by omega) (by omega) (by omega) (by omega) (by omega)).mono ?_
          rintro e w2 ⟨rfl, hb⟩
          rw [Pl.nrm01 hf, Pl.nrm01 hf, Pl.nrm01 hf, Pl.one_mod (by omega), Int.zero_emod]
          replace kc0 := keepC hb kc0
          replace kc1 := keepC hb kc1
          have hO1 := hO.keep hb
          have hB1 := below_of hB hb hB.size
          have hs2 := hB1.size
          clear hO hB hb
          replace kc0 := keepA (.cells #[.int .i64 0, .int .i64 1, .int .i64 ((-ay) % p)] 25) kc0
          replace kc1 := keepA (.cells #[.int .i64 0, .int .i64 1, .int .i64 ((-ay) % p)] 25) kc1
          go_wp2_with fail
          generalize hW : (World.alloc w2 (.cells #[.int .i64 0, .int .i64 1, .int .i64 ((-ay) % p)] 25)) = W2
          have b0 : W2.cell? ⟨w2.heap.size, 0, none⟩ = some (.int .i64 (0)) := by subst hW; go_simp
          have b1 : W2.cell? ⟨w2.heap.size, 1, none⟩ = some (.int .i64 (1)) := by subst hW; go_simp
          have b2 : W2.cell? ⟨w2.heap.size, 2, none⟩ = some (.int .i64 ((-ay) % p)) := by subst hW; go_simp
          have f0 : W2.frozen? ⟨w2.heap.size, 0, none⟩ = false := by subst hW; go_simp
          have f1 : W2.frozen? ⟨w2.heap.size, 1, none⟩ = false := by subst hW; go_simp
          have f2 : W2.frozen? ⟨w2.heap.size, 2, none⟩ = false := by subst hW; go_simp
          have hgb := hO1.lt.2
          have hbw := hB1.size
          rw [hW] at kc0 kc1
          have hO2 : Own W2 (w1.heap.size) 25 3 g (((Pl.ltAll p ax ay).take (j + 1)).filter (fun m => Pl.nullB p k m.1 m.2.1)).length c (Pl.flat3 ((((Pl.ltAll p ax ay).take (j + 1)).filter (fun m => Pl.nullB p k m.1 m.2.1)))) := by subst hW; exact hO1.alloc _
          have hB2 : Below w1.heap.size w1 W2 := by subst hW; exact hB1.alloc hs2 _
          clear hW hO1 hB1
          generalize w2.heap.size = bl at *
          refine (l01Normal_any p 1 (j : Int) (-(ax + (j : Int) * ay)) _ hf (by omega) (by omega) (by omega) (by omega) (by omega) (by omega)).mono ?_
          rintro e w3 ⟨rfl, hb⟩
          rw [Pl.nrm1b hf, Pl.nrm1b hf, Pl.nrm1b hf, Pl.one_mod (by omega), Int.emod_eq_of_lt (show 0 ≤ (j : Int) by omega) (show (j : Int) < p by omega), Pl.negadd]
          replace f0 := keepF hb b0 f0
          replace f1 := keepF hb b1 f1
          replace f2 := keepF hb b2 f2
          replace b0 := keepC hb b0
          replace b1 := keepC hb b1
          replace b2 := keepC hb b2
          have hO7 := hO2.keep hb
          have hB7 := below_of hB2 hb hB2.size
          have hs7 := hB7.size
          have hbl : bl < w3.heap.size := World.block_lt_of_cell? w3 _ b0
          clear hO2 hB2 hb
          go_wp2_with fail
          generalize hW : (World.setCell (World.setCell (World.setCell w3 ⟨bl, 0, none⟩ (.int .i64 1)) ⟨bl, 1, none⟩ (.int .i64 (j : Int))) ⟨bl, 2, none⟩ (.int .i64 ((-ax - (j : Int) * ay) % p))) = W4
          have d0 : W4.cell? ⟨bl, 0, none⟩ = some (.int .i64 (1)) := by rw [← hW]; simp [World.cell?_setCell_other, World.cell?_setCell_same, b0, b1, b2]
          have d1 : W4.cell? ⟨bl, 1, none⟩ = some (.int .i64 ((j : Int))) := by rw [← hW]; simp [World.cell?_setCell_other, World.cell?_setCell_same, b0, b1, b2]
          have d2 : W4.cell? ⟨bl, 2, none⟩ = some (.int .i64 ((-ax - (j : Int) * ay) % p)) := by rw [← hW]; simp [World.cell?_setCell_other, World.cell?_setCell_same, b0, b1, b2]
          have hO2 : Own W4 (w1.heap.size) 25 3 g (((Pl.ltAll p ax ay).take (j + 1)).filter (fun m => Pl.nullB p k m.1 m.2.1)).length c (Pl.flat3 ((((Pl.ltAll p ax ay).take (j + 1)).filter (fun m => Pl.nullB p k m.1 m.2.1)))) := by rw [← hW]; exact ((hO7.other (by simp; omega) _).other (by simp; omega) _).other (by simp; omega) _
          have hB2 : Below w1.heap.size w1 W4 := by rw [← hW]; exact ((hB7.setCell (by simp; omega) _).setCell (by simp; omega) _).setCell (by simp; omega) _
          clear hW hO7 hB7 b0 b1 b2 f0 f1 f2 kc0 kc1
          have b0 := d0
          have b1 := d1
          have b2 := d2
          clear d0 d1 d2
          cases hP : Pl.perpB p k 1 (j : Int) 1 (j : Int) with
          | true =>
            have hl := hid (hP1.out (by rw [hq.out]; exact hP))
            clear hP1 hP2
            refine (l02Perpendicular_any p k 1 (j : Int) ((-ax - (j : Int) * ay) % p) 1 (j : Int) ((-ax - (j : Int) * ay) % p) _ (by omega) (by omega) (by omega) (by omega) (by omega) (by omega) (by omega) (by omega) (by omega) (by omega) (by omega) (by omega) (by omega) (by omega)).mono ?_
            rintro e w4 ⟨rfl, hb⟩
            replace b0 := keepC hb b0
            replace b1 := keepC hb b1
            replace b2 := keepC hb b2
            have hO3 := hO2.keep hb
            have hB3 := below_of hB2 hb hB2.size
            have hs3 := hB3.size
            clear hO2 hB2 hb
            go_wp2_with (at_builtin; refine wp_push rfl _ _ 68 rfl (w1.heap.size) 25 3 24 (.agg #[.int .i64 0, .int .i64 0, .int .i64 0]) Try.underlying68 info_ln rfl (by decide) (by decide) _ _ _ _ rfl (hO3.alloc _) (by have := hnl.out; omega) ⟨w4.heap.size, 0, none⟩ 1 [1, (j : Int), ((-ax - (j : Int) * ay) % p)] rfl rfl (new3 _ _ _ _ _) (by simp; omega) ?_; intro g5 c5 w5 hO5 hb5 hg5 hn5)
            have hO6 := hO5.cast (show (((Pl.ltAll p ax ay).take (j + 1)).filter (fun m => Pl.nullB p k m.1 m.2.1)).length + 1 = (((Pl.ltAll p ax ay).take (j + 1 + 1)).filter (fun m => Pl.nullB p k m.1 m.2.1)).length by rw [hl.out]; simp) (show _ = Pl.flat3 (((Pl.ltAll p ax ay).take (j + 1 + 1)).filter (fun m => Pl.nullB p k m.1 m.2.1)) by rw [hl.out, hq.out, Pl.app3])
            have hB6 := (hB3.alloc hs3 _).trans hb5
            clear hO5 hb5 hg5 hn5 hO3 hB3
            go_roundw
            case rel => exact ⟨j + 1 + 1, ((j : Int) + 1), g5, c5, by omega, by omega, by omega, by go_num, by rw [hl.out]; simp, hO6, hB6⟩
            case measure => simp [intOf]; omega
          | false =>
            have hl := hid (hP2.out (by rw [hq.out]; exact hP))
            clear hP1 hP2
            refine (l02Perpendicular_any p k 1 (j : Int) ((-ax - (j : Int) * ay) % p) 1 (j : Int) ((-ax - (j : Int) * ay) % p) _ (by omega) (by omega) (by omega) (by omega) (by omega) (by omega) (by omega) (by omega) (by omega) (by omega) (by omega) (by omega) (by omega) (by omega)).mono ?_
            rintro e w4 ⟨rfl, hb⟩
            replace b0 := keepC hb b0
            replace b1 := keepC hb b1
            replace b2 := keepC hb b2
            have hO3 := hO2.keep hb
            have hB3 := below_of hB2 hb hB2.size
            have hs3 := hB3.size
            clear hO2 hB2 hb
            go_wp2_with fail
            go_roundw
            case rel => exact ⟨j + 1 + 1, ((j : Int) + 1), g, c, by omega, by omega, by omega, by go_num, by rw [hl.out]; first | done | rfl, by rw [hl.out]; exact hO3, hB3⟩
            case measure => simp [intOf]; omega
      · go_wp2_with fail
        go_ret2
        have hkl : (Pl.ltAll p ax ay).length ≤ kk := by rw [Pl.ltAll_len]; omega
        have ht := Pl.take_all (P := fun m => Pl.nullB p k m.1 m.2.1) hkl
        rw [ht] at hO
        exact ⟨g, c, by rw [ht]; rfl, hO.low HBB.out.size, below_of HBB.out hB HBB.out.size⟩
theorem sNullLines_err (p k ax ay : Int) (w : World) (h0 : ¬ Pl.ask p (Pl.colB k && Pl.ptsB p [(ax, ay)]) = 0) :
    Calls Try.prog 56 #[.int .i64 p, .int .i64 k, .agg #[.int .i64 ax, .int .i64 ay]] w fun e w' => e = .returned (.tuple #[.slice none 0 0, .int .i64 (Pl.ask p (Pl.colB k && Pl.ptsB p [(ax, ay)]))]) ∧ Below w.heap.size w w' := by
  have hne : (Pl.ask p (Pl.colB k && Pl.ptsB p [(ax, ay)]) != 0) = true := by simpa using h0
  have hne2 : (Pl.ask p (Pl.colB k && Pl.ptsB p [(ax, ay)]) == 0) = false := by simpa using h0
  clear h0
  go_enter Try.func56, Try.ntmps56
  go_wp2_with fail
  refine (l02Code_any p k _ 0 1 1 [(ax, ay)] rfl (by omega) _ (by simp) ?_).mono ?_
  · intro j hj
    match j, hj with
    | 0, _ => exact ⟨by go_simp, by go_simp⟩
  · rintro e w1 ⟨rfl, hb⟩
    have hB : Below w.heap.size w w1 := below_of (by go_grown) hb (by simp <;> omega)
    clear hb
    go_wp2_with fail
    go_ret2
    exact ⟨rfl, hB⟩
end Go.Proofs.Ytbjcbbnfgfmllaa
