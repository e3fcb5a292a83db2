/- FnRightAngles: the walk. -/
import Derived.Test.YtommkkgkfjmhdaaDr5
import Derived.Test.YtommkkgkfjmhdaaI
import Derived.Test.YtommkkgkfjmhdaaG
import Derived.Test.YtommkkgkfjmhdaaD
import Derived.Test.YtommkkgkfjmhdaaPlA
import Derived.Test.YtommkkgkfjmhdaaBig
set_option linter.unusedVariables false
set_option linter.unusedSimpArgs false
set_option maxHeartbeats 2000000
set_option maxRecDepth 100000
namespace Go.Proofs.Ytommkkgkfjmhdaa.fnRightAngles
open Go.RowKit
theorem walk (v : Value) (w : World) (hv : CodeArg w v) : Calls Try.prog 9 #[v] w fun e w' => e = .returned (.bool true) ∧ Below w.heap.size w w' := by
  obtain ⟨o, n, c, rfl, h0, hc⟩ := hv
  by_cases hn : 4096 < n
  · go_enter Try.func9, Try.ntmps9
    go_wp2_with (go_at_call 32; refine (big_yes _ _ _ _ hn).mono ?_; rintro e w' ⟨rfl, rfl⟩)
    go_ret
    exact ⟨rfl, Below.refl _ _⟩
  have hby : Bytes w w.heap.size (.slice o n c) := ⟨o, n, c, rfl, by omega, h0, hc⟩
  clear h0 hc
  go_enter Try.func9, Try.ntmps9
  go_wp2_with (go_at_call 32; refine (big_no _ _ _ _ (by omega)).mono ?_; rintro e w' ⟨rfl, rfl⟩)
  refine (drawHasRightAngle_any _ w hby).mono ?_
  rintro e w1 ⟨⟨p, k, ax, ay, bx, by_, cx, cy, rfl⟩, hb⟩
  go_wp2_with fail
  generalize hW : (World.alloc (World.alloc (World.alloc w1 (.cells #[.int .i64 ax, .int .i64 ay] 24)) (.cells #[.int .i64 bx, .int .i64 by_] 24)) (.cells #[.int .i64 cx, .int .i64 cy] 24)) = W
  have d00 : W.cell? ⟨w1.heap.size, 0, none⟩ = some (.int .i64 ax) := by subst hW; go_simp
  have d01 : W.cell? ⟨w1.heap.size, 1, none⟩ = some (.int .i64 ay) := by subst hW; go_simp
  have d10 : W.cell? ⟨w1.heap.size + 1, 0, none⟩ = some (.int .i64 bx) := by subst hW; go_simp
  have d11 : W.cell? ⟨w1.heap.size + 1, 1, none⟩ = some (.int .i64 by_) := by subst hW; go_simp
  have d20 : W.cell? ⟨w1.heap.size + 1 + 1, 0, none⟩ = some (.int .i64 cx) := by subst hW; go_simp
  have d21 : W.cell? ⟨w1.heap.size + 1 + 1, 1, none⟩ = some (.int .i64 cy) := by subst hW; go_simp
  have hB : Below w.heap.size w W := below_of hb (by subst hW; go_grown) hb.size
  clear hW hb hby hn
  generalize w1.heap.size = r at *
  clear w1
  by_cases h0 : Pl.ask p (Pl.colB k && Pl.ptsB p [(ax, ay), (bx, by_), (cx, cy)]) = 0
  · have hv := Pl.ask_ok h0
    obtain ⟨hf, hv2⟩ := hv
    have hp := Pl.field_bd hf
    obtain ⟨hp1, hp2⟩ := hp
    rw [Bool.and_eq_true] at hv2
    obtain ⟨hk, hpts⟩ := hv2
    have hpt : Pl.ptB p ax ay = true ∧ Pl.ptB p bx by_ = true ∧ Pl.ptB p cx cy = true := by simpa [Pl.ptsB] using hpts
    obtain ⟨hpa, hpb, hpc⟩ := hpt
    have HR : Hid (Pl.rightOf p k ax ay bx by_ cx cy = (Pl.right p k ax ay bx by_ cx cy, 0)) := by unfold Hid Pl.rightOf; rw [if_pos h0]
    have Qx : Hid (Pl.quadOf p k bx by_ cx cy = (Pl.quad p k bx by_ cx cy, 0)) := by unfold Hid Pl.quadOf; rw [if_pos (Pl.ask_mk hf (by simp [Pl.ptsB, hk, hpb, hpc]))]
    have Bx := Pl.quad_bd (p := p) (k := k) (ax := bx) (ay := by_) (bx := cx) (by_ := cy) (by omega)
    have Qy : Hid (Pl.quadOf p k ax ay cx cy = (Pl.quad p k ax ay cx cy, 0)) := by unfold Hid Pl.quadOf; rw [if_pos (Pl.ask_mk hf (by simp [Pl.ptsB, hk, hpa, hpc]))]
    have By := Pl.quad_bd (p := p) (k := k) (ax := ax) (ay := ay) (bx := cx) (by_ := cy) (by omega)
    have Qz : Hid (Pl.quadOf p k ax ay bx by_ = (Pl.quad p k ax ay bx by_, 0)) := by unfold Hid Pl.quadOf; rw [if_pos (Pl.ask_mk hf (by simp [Pl.ptsB, hk, hpa, hpb]))]
    have Bz := Pl.quad_bd (p := p) (k := k) (ax := ax) (ay := ay) (bx := bx) (by_ := by_) (by omega)
    have AL := hid (Pl.arch_law (p := p) (ax := ax) (ay := ay) (bx := bx) (by_ := by_) (cx := cx) (cy := cy) hk)
    have RL := hid (Pl.right_law (p := p) (k := k) (ax := ax) (ay := ay) (bx := bx) (by_ := by_) (cx := cx) (cy := cy) hf)
    have DA : Hid (Pl.areaOf p ax ay bx by_ cx cy = (Pl.area p ax ay bx by_ cx cy, 0)) := by unfold Hid Pl.areaOf; rw [if_pos (Pl.ask_mk hf hpts)]
    have BA : 0 ≤ Pl.area p ax ay bx by_ cx cy ∧ Pl.area p ax ay bx by_ cx cy < p := ⟨Int.emod_nonneg _ (by omega), Int.emod_lt_of_pos _ (by omega)⟩
    generalize Pl.right p k ax ay bx by_ cx cy = rg at *
    generalize Pl.area p ax ay bx by_ cx cy = D at *
    generalize Pl.quad p k bx by_ cx cy = x at *
    generalize Pl.quad p k ax ay cx cy = y at *
    generalize Pl.quad p k ax ay bx by_ = z at *
    obtain ⟨x1, x2⟩ := Bx
    obtain ⟨y1, y2⟩ := By
    obtain ⟨z1, z2⟩ := Bz
    obtain ⟨D1, D2⟩ := BA
    have AO : Hid (Pl.archOf p x y z = (Pl.arch p x y z, 0)) := by unfold Hid Pl.archOf; rw [if_pos (Pl.ask_mk hf (by simp [Pl.numB, x1, x2, y1, y2, z1, z2]))]
    have BN : 0 ≤ Pl.arch p x y z ∧ Pl.arch p x y z < p := ⟨Int.emod_nonneg _ (by omega), Int.emod_lt_of_pos _ (by omega)⟩
    generalize Pl.arch p x y z = N at *
    obtain ⟨N1, N2⟩ := BN
    have cR1 : ∀ w : World, Calls Try.prog 34 #[.int .i64 p, .int .i64 k, .agg #[.int .i64 ax, .int .i64 ay], .agg #[.int .i64 bx, .int .i64 by_], .agg #[.int .i64 cx, .int .i64 cy]] w fun e w' => e = .returned (.tuple #[.bool rg, .int .i64 0]) ∧ Below w.heap.size w w' := fun w => by
      have h := HasRightAngle_any p k ax ay bx by_ cx cy w
      rw [HR.out] at h
      exact h
    have cR2 : ∀ w : World, Calls Try.prog 35 #[.int .i64 p, .int .i64 k, .agg #[.int .i64 ax, .int .i64 ay], .agg #[.int .i64 bx, .int .i64 by_], .agg #[.int .i64 cx, .int .i64 cy]] w fun e w' => e = .returned (.tuple #[.bool rg, .int .i64 0]) ∧ Below w.heap.size w w' := fun w => by
      have h := sHasRightAngle_any p k ax ay bx by_ cx cy w
      rw [HR.out] at h
      exact h
    have cA : ∀ w : World, Calls Try.prog 37 #[.int .i64 p, .int .i64 x, .int .i64 y, .int .i64 z] w fun e w' => e = .returned (.tuple #[.int .i64 N, .int .i64 0]) ∧ Below w.heap.size w w' := fun w => by
      have h := ArchimedesOf_any p x y z w
      rw [AO.out] at h
      exact h
    have cD : ∀ w : World, Calls Try.prog 38 #[.int .i64 p, .agg #[.int .i64 ax, .int .i64 ay], .agg #[.int .i64 bx, .int .i64 by_], .agg #[.int .i64 cx, .int .i64 cy]] w fun e w' => e = .returned (.tuple #[.int .i64 D, .int .i64 0]) ∧ Below w.heap.size w w' := fun w => by
      have h := DoubledArea_any p ax ay bx by_ cx cy w
      rw [DA.out] at h
      exact h
    have m1 := Pl.mulB (show 0 ≤ (4 * D) by omega) (show (4 * D) ≤ 124 by omega) (show 0 ≤ D by omega) (show D ≤ 31 by omega)
    obtain ⟨m1a, m1b⟩ := m1
    clear HR DA AO hpts hpa hpb hpc h0 hf hk
    have e1 : IntKind.i64.wrap (4 * D) = 4 * D := IntWalk.i64_in _ (by omega)
    have e2 : IntKind.i64.wrap (4 * D * D) = 4 * D * D := IntWalk.i64_in _ (by omega)
    have e3 : IntKind.i64.wrap (-(4 * D * D)) = -(4 * D * D) := IntWalk.i64_in _ (by omega)
    by_cases ht : (y + z - x).tmod p = 0
    · obtain rfl : rg = true := by rw [RL.out]; simp [ht]
      clear RL
      by_cases hk : 0 < k
      · have hA : Hid ((-(4 * D * D) - N).tmod p = 0) := by have h := AL.out; unfold Hid; rw [if_pos hk] at h; exact h
        clear AL
        go_wp2_with (first | (go_at_call 34; refine (cR1 _).mono ?_; rintro e w' ⟨rfl, hbn⟩; replace d00 := keepC hbn d00; replace d01 := keepC hbn d01; replace d10 := keepC hbn d10; replace d11 := keepC hbn d11; replace d20 := keepC hbn d20; replace d21 := keepC hbn d21; replace hB := below_of hB hbn hB.size; clear hbn) | (go_at_call 35; refine (cR2 _).mono ?_; rintro e w' ⟨rfl, hbn⟩; replace d00 := keepC hbn d00; replace d01 := keepC hbn d01; replace d10 := keepC hbn d10; replace d11 := keepC hbn d11; replace d20 := keepC hbn d20; replace d21 := keepC hbn d21; replace hB := below_of hB hbn hB.size; clear hbn) | (go_at_call 36; refine (Quadrance_any _ _ _ _ _ _ _).mono ?_; rintro e w' ⟨he, hbn⟩; (first | rw [Qx.out] at he | rw [Qy.out] at he | rw [Qz.out] at he); dsimp only at he; subst he; replace d00 := keepC hbn d00; replace d01 := keepC hbn d01; replace d10 := keepC hbn d10; replace d11 := keepC hbn d11; replace d20 := keepC hbn d20; replace d21 := keepC hbn d21; replace hB := below_of hB hbn hB.size; clear hbn) | (go_at_call 37; refine (cA _).mono ?_; rintro e w' ⟨rfl, hbn⟩; replace d00 := keepC hbn d00; replace d01 := keepC hbn d01; replace d10 := keepC hbn d10; replace d11 := keepC hbn d11; replace d20 := keepC hbn d20; replace d21 := keepC hbn d21; replace hB := below_of hB hbn hB.size; clear hbn) | (go_at_call 38; refine (cD _).mono ?_; rintro e w' ⟨rfl, hbn⟩; replace d00 := keepC hbn d00; replace d01 := keepC hbn d01; replace d10 := keepC hbn d10; replace d11 := keepC hbn d11; replace d20 := keepC hbn d20; replace d21 := keepC hbn d21; replace hB := below_of hB hbn hB.size; clear hbn))
        have h9 : ((-(4 * D * D) - N).tmod p == 0) = true := by rw [hA.out]; rfl
        go_ret
        exact ⟨congrArg (fun b => Ending.returned (.bool b)) h9, hB⟩
      · have hA : Hid ((4 * D * D - N).tmod p = 0) := by have h := AL.out; unfold Hid; rw [if_neg hk] at h; exact h
        clear AL
        go_wp2_with (first | (go_at_call 34; refine (cR1 _).mono ?_; rintro e w' ⟨rfl, hbn⟩; replace d00 := keepC hbn d00; replace d01 := keepC hbn d01; replace d10 := keepC hbn d10; replace d11 := keepC hbn d11; replace d20 := keepC hbn d20; replace d21 := keepC hbn d21; replace hB := below_of hB hbn hB.size; clear hbn) | (go_at_call 35; refine (cR2 _).mono ?_; rintro e w' ⟨rfl, hbn⟩; replace d00 := keepC hbn d00; replace d01 := keepC hbn d01; replace d10 := keepC hbn d10; replace d11 := keepC hbn d11; replace d20 := keepC hbn d20; replace d21 := keepC hbn d21; replace hB := below_of hB hbn hB.size; clear hbn) | (go_at_call 36; refine (Quadrance_any _ _ _ _ _ _ _).mono ?_; rintro e w' ⟨he, hbn⟩; (first | rw [Qx.out] at he | rw [Qy.out] at he | rw [Qz.out] at he); dsimp only at he; subst he; replace d00 := keepC hbn d00; replace d01 := keepC hbn d01; replace d10 := keepC hbn d10; replace d11 := keepC hbn d11; replace d20 := keepC hbn d20; replace d21 := keepC hbn d21; replace hB := below_of hB hbn hB.size; clear hbn) | (go_at_call 37; refine (cA _).mono ?_; rintro e w' ⟨rfl, hbn⟩; replace d00 := keepC hbn d00; replace d01 := keepC hbn d01; replace d10 := keepC hbn d10; replace d11 := keepC hbn d11; replace d20 := keepC hbn d20; replace d21 := keepC hbn d21; replace hB := below_of hB hbn hB.size; clear hbn) | (go_at_call 38; refine (cD _).mono ?_; rintro e w' ⟨rfl, hbn⟩; replace d00 := keepC hbn d00; replace d01 := keepC hbn d01; replace d10 := keepC hbn d10; replace d11 := keepC hbn d11; replace d20 := keepC hbn d20; replace d21 := keepC hbn d21; replace hB := below_of hB hbn hB.size; clear hbn))
        have h9 : ((4 * D * D - N).tmod p == 0) = true := by rw [hA.out]; rfl
        go_ret
        exact ⟨congrArg (fun b => Ending.returned (.bool b)) h9, hB⟩
    · obtain rfl : rg = false := by rw [RL.out]; simp [ht]
      clear RL
      by_cases hk : 0 < k
      · have hA : Hid ((-(4 * D * D) - N).tmod p = 0) := by have h := AL.out; unfold Hid; rw [if_pos hk] at h; exact h
        clear AL
        go_wp2_with (first | (go_at_call 34; refine (cR1 _).mono ?_; rintro e w' ⟨rfl, hbn⟩; replace d00 := keepC hbn d00; replace d01 := keepC hbn d01; replace d10 := keepC hbn d10; replace d11 := keepC hbn d11; replace d20 := keepC hbn d20; replace d21 := keepC hbn d21; replace hB := below_of hB hbn hB.size; clear hbn) | (go_at_call 35; refine (cR2 _).mono ?_; rintro e w' ⟨rfl, hbn⟩; replace d00 := keepC hbn d00; replace d01 := keepC hbn d01; replace d10 := keepC hbn d10; replace d11 := keepC hbn d11; replace d20 := keepC hbn d20; replace d21 := keepC hbn d21; replace hB := below_of hB hbn hB.size; clear hbn) | (go_at_call 36; refine (Quadrance_any _ _ _ _ _ _ _).mono ?_; rintro e w' ⟨he, hbn⟩; (first | rw [Qx.out] at he | rw [Qy.out] at he | rw [Qz.out] at he); dsimp only at he; subst he; replace d00 := keepC hbn d00; replace d01 := keepC hbn d01; replace d10 := keepC hbn d10; replace d11 := keepC hbn d11; replace d20 := keepC hbn d20; replace d21 := keepC hbn d21; replace hB := below_of hB hbn hB.size; clear hbn) | (go_at_call 37; refine (cA _).mono ?_; rintro e w' ⟨rfl, hbn⟩; replace d00 := keepC hbn d00; replace d01 := keepC hbn d01; replace d10 := keepC hbn d10; replace d11 := keepC hbn d11; replace d20 := keepC hbn d20; replace d21 := keepC hbn d21; replace hB := below_of hB hbn hB.size; clear hbn) | (go_at_call 38; refine (cD _).mono ?_; rintro e w' ⟨rfl, hbn⟩; replace d00 := keepC hbn d00; replace d01 := keepC hbn d01; replace d10 := keepC hbn d10; replace d11 := keepC hbn d11; replace d20 := keepC hbn d20; replace d21 := keepC hbn d21; replace hB := below_of hB hbn hB.size; clear hbn))
        have h9 : ((-(4 * D * D) - N).tmod p == 0) = true := by rw [hA.out]; rfl
        go_ret
        exact ⟨congrArg (fun b => Ending.returned (.bool b)) h9, hB⟩
      · have hA : Hid ((4 * D * D - N).tmod p = 0) := by have h := AL.out; unfold Hid; rw [if_neg hk] at h; exact h
        clear AL
        go_wp2_with (first | (go_at_call 34; refine (cR1 _).mono ?_; rintro e w' ⟨rfl, hbn⟩; replace d00 := keepC hbn d00; replace d01 := keepC hbn d01; replace d10 := keepC hbn d10; replace d11 := keepC hbn d11; replace d20 := keepC hbn d20; replace d21 := keepC hbn d21; replace hB := below_of hB hbn hB.size; clear hbn) | (go_at_call 35; refine (cR2 _).mono ?_; rintro e w' ⟨rfl, hbn⟩; replace d00 := keepC hbn d00; replace d01 := keepC hbn d01; replace d10 := keepC hbn d10; replace d11 := keepC hbn d11; replace d20 := keepC hbn d20; replace d21 := keepC hbn d21; replace hB := below_of hB hbn hB.size; clear hbn) | (go_at_call 36; refine (Quadrance_any _ _ _ _ _ _ _).mono ?_; rintro e w' ⟨he, hbn⟩; (first | rw [Qx.out] at he | rw [Qy.out] at he | rw [Qz.out] at he); dsimp only at he; subst he; replace d00 := keepC hbn d00; replace d01 := keepC hbn d01; replace d10 := keepC hbn d10; replace d11 := keepC hbn d11; replace d20 := keepC hbn d20; replace d21 := keepC hbn d21; replace hB := below_of hB hbn hB.size; clear hbn) | (go_at_call 37; refine (cA _).mono ?_; rintro e w' ⟨rfl, hbn⟩; replace d00 := keepC hbn d00; replace d01 := keepC hbn d01; replace d10 := keepC hbn d10; replace d11 := keepC hbn d11; replace d20 := keepC hbn d20; replace d21 := keepC hbn d21; replace hB := below_of hB hbn hB.size; clear hbn) | (go_at_call 38; refine (cD _).mono ?_; rintro e w' ⟨rfl, hbn⟩; replace d00 := keepC hbn d00; replace d01 := keepC hbn d01; replace d10 := keepC hbn d10; replace d11 := keepC hbn d11; replace d20 := keepC hbn d20; replace d21 := keepC hbn d21; replace hB := below_of hB hbn hB.size; clear hbn))
        have h9 : ((4 * D * D - N).tmod p == 0) = true := by rw [hA.out]; rfl
        go_ret
        exact ⟨congrArg (fun b => Ending.returned (.bool b)) h9, hB⟩
  · have hcn : Hid (Pl.rightOf p k ax ay bx by_ cx cy = (false, Pl.ask p (Pl.colB k && Pl.ptsB p [(ax, ay), (bx, by_), (cx, cy)]))) := by unfold Hid Pl.rightOf; rw [if_neg h0]
    generalize Pl.ask p (Pl.colB k && Pl.ptsB p [(ax, ay), (bx, by_), (cx, cy)]) = q at *
    have cR1 : ∀ w : World, Calls Try.prog 34 #[.int .i64 p, .int .i64 k, .agg #[.int .i64 ax, .int .i64 ay], .agg #[.int .i64 bx, .int .i64 by_], .agg #[.int .i64 cx, .int .i64 cy]] w fun e w' => e = .returned (.tuple #[.bool false, .int .i64 q]) ∧ Below w.heap.size w w' := fun w => by
      have h := HasRightAngle_any p k ax ay bx by_ cx cy w
      rw [hcn.out] at h
      exact h
    have cR2 : ∀ w : World, Calls Try.prog 35 #[.int .i64 p, .int .i64 k, .agg #[.int .i64 ax, .int .i64 ay], .agg #[.int .i64 bx, .int .i64 by_], .agg #[.int .i64 cx, .int .i64 cy]] w fun e w' => e = .returned (.tuple #[.bool false, .int .i64 q]) ∧ Below w.heap.size w w' := fun w => by
      have h := sHasRightAngle_any p k ax ay bx by_ cx cy w
      rw [hcn.out] at h
      exact h
    clear hcn
    go_wp2_with (first | (go_at_call 34; refine (cR1 _).mono ?_; rintro e w' ⟨rfl, hbn⟩; replace d00 := keepC hbn d00; replace d01 := keepC hbn d01; replace d10 := keepC hbn d10; replace d11 := keepC hbn d11; replace d20 := keepC hbn d20; replace d21 := keepC hbn d21; replace hB := below_of hB hbn hB.size; clear hbn) | (go_at_call 35; refine (cR2 _).mono ?_; rintro e w' ⟨rfl, hbn⟩; replace d00 := keepC hbn d00; replace d01 := keepC hbn d01; replace d10 := keepC hbn d10; replace d11 := keepC hbn d11; replace d20 := keepC hbn d20; replace d21 := keepC hbn d21; replace hB := below_of hB hbn hB.size; clear hbn))
    go_ret
    exact ⟨rfl, hB⟩
end Go.Proofs.Ytommkkgkfjmhdaa.fnRightAngles
