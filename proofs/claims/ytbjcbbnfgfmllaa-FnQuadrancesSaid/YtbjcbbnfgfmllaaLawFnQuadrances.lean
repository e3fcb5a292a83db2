/- FnQuadrances: the walk. -/
import Derived.Test.YtbjcbbnfgfmllaaDr6
import Derived.Test.YtbjcbbnfgfmllaaI
import Derived.Test.YtbjcbbnfgfmllaaG
import Derived.Test.YtbjcbbnfgfmllaaD
import Derived.Test.YtbjcbbnfgfmllaaPlA
import Derived.Test.YtbjcbbnfgfmllaaBig
import Derived.Test.YtbjcbbnfgfmllaaPts
import Derived.Test.YtbjcbbnfgfmllaaSv
set_option linter.unusedVariables false
set_option linter.unusedSimpArgs false
set_option maxHeartbeats 4000000
set_option maxRecDepth 100000
namespace Go.Proofs.Ytbjcbbnfgfmllaa.fnQuadrances
open Go.RowKit
theorem walk (v : Value) (w : World) (hv : CodeArg w v) : Calls Try.prog 4 #[v] w fun e w' => e = .returned (.bool true) ∧ Below w.heap.size w w' := by
  obtain ⟨o, n, c, rfl, h0, hc⟩ := hv
  by_cases hn : 4096 < n
  · go_enter Try.func4, Try.ntmps4
    go_wp2_with (go_at_call 6; refine (big_yes _ _ _ _ hn).mono ?_; rintro e w' ⟨rfl, rfl⟩)
    go_ret
    exact ⟨rfl, Below.refl _ _⟩
  have hby : Bytes w w.heap.size (.slice o n c) := ⟨o, n, c, rfl, by omega, h0, hc⟩
  clear h0 hc
  go_enter Try.func4, Try.ntmps4
  go_wp2_with (go_at_call 6; refine (big_no _ _ _ _ (by omega)).mono ?_; rintro e w' ⟨rfl, rfl⟩)
  refine (drawQuadrance_any _ w hby).mono ?_
  rintro e w1 ⟨⟨p, k, ax, ay, bx, by_, rfl⟩, hb⟩
  have hby1 := hby.below hb
  go_wp2_with fail
  generalize hW : (World.alloc (World.alloc w1 (.cells #[.int .i64 ax, .int .i64 ay] 33)) (.cells #[.int .i64 bx, .int .i64 by_] 33)) = W
  have d00 : W.cell? ⟨w1.heap.size, 0, none⟩ = some (.int .i64 ax) := by subst hW; go_simp
  have d01 : W.cell? ⟨w1.heap.size, 1, none⟩ = some (.int .i64 ay) := by subst hW; go_simp
  have d10 : W.cell? ⟨w1.heap.size + 1, 0, none⟩ = some (.int .i64 bx) := by subst hW; go_simp
  have d11 : W.cell? ⟨w1.heap.size + 1, 1, none⟩ = some (.int .i64 by_) := by subst hW; go_simp
  have hB : Below w.heap.size w W := below_of hb (by subst hW; go_grown) hb.size
  clear hW hb hby1 hn
  generalize w1.heap.size = r1 at *
  clear w1
  by_cases h1 : Pl.ask p (Pl.colB k && Pl.ptsB p [(ax, ay), (bx, by_)]) = 0
  · have hv1 := Pl.ask_ok h1
    obtain ⟨hf1, hv1⟩ := hv1
    have hp1 := Pl.field_bd hf1
    obtain ⟨hp1, hp2⟩ := hp1
    rw [Bool.and_eq_true] at hv1
    obtain ⟨hk1, hpt1⟩ := hv1
    have hpt : Pl.ptB p ax ay = true ∧ Pl.ptB p bx by_ = true := by simpa [Pl.ptsB] using hpt1
    obtain ⟨hpa, hpb⟩ := hpt
    have hpo : Pl.ptB p 0 0 = true := by simp [Pl.ptB, Pl.numB]; omega
    have hq1 : Hid (Pl.quadOf p k ax ay bx by_ = (Pl.quad p k ax ay bx by_, 0)) := by unfold Hid Pl.quadOf; rw [if_pos h1]
    have hpr : Hid (Pl.prodOf p k ax ay bx by_ = (Pl.prod p k ax ay bx by_, 0)) := by unfold Hid Pl.prodOf; rw [if_pos h1]
    have hqb : Hid (Pl.quadOf p k bx by_ ax ay = (Pl.quad p k ax ay bx by_, 0)) := by unfold Hid Pl.quadOf; rw [if_pos (Pl.ask_mk hf1 (by simp [Pl.ptsB, hk1, hpa, hpb])), Pl.quad_sym]
    have hqc : Hid (Pl.quadOf p k 0 0 ax ay = (Pl.quad p k 0 0 ax ay, 0)) := by unfold Hid Pl.quadOf; rw [if_pos (Pl.ask_mk hf1 (by simp [Pl.ptsB, hk1, hpa, hpo]))]
    have hqd : Hid (Pl.quadOf p k 0 0 bx by_ = (Pl.quad p k 0 0 bx by_, 0)) := by unfold Hid Pl.quadOf; rw [if_pos (Pl.ask_mk hf1 (by simp [Pl.ptsB, hk1, hpb, hpo]))]
    have hT := hid (Pl.polar_law (p := p) (k := k) (ax := ax) (ay := ay) (bx := bx) (by_ := by_))
    have B1 := Pl.quad_bd (p := p) (k := k) (ax := ax) (ay := ay) (bx := bx) (by_ := by_) (by omega)
    have B2 := Pl.quad_bd (p := p) (k := k) (ax := 0) (ay := 0) (bx := ax) (by_ := ay) (by omega)
    have B3 := Pl.quad_bd (p := p) (k := k) (ax := 0) (ay := 0) (bx := bx) (by_ := by_) (by omega)
    have B4 := Pl.prod_bd' (p := p) (k := k) (x := ax) (y := ay) (z := bx) (v := by_) (by omega)
    generalize Pl.quad p k 0 0 ax ay = l at *
    generalize Pl.quad p k 0 0 bx by_ = f2 at *
    generalize Pl.quad p k ax ay bx by_ = x at *
    generalize Pl.prod p k ax ay bx by_ = pr at *
    obtain ⟨x1, x2⟩ := B1
    obtain ⟨l1, l2⟩ := B2
    obtain ⟨f1, f3⟩ := B3
    obtain ⟨pr1, pr2⟩ := B4
    clear h1 hpt1 hpa hpb hpo hk1 hf1
    go_wp2_with (first | (go_at_call 32; refine (Quadrance_any _ _ _ _ _ _ _).mono ?_; rintro e w' ⟨he, hbn⟩; (first | rw [hq1.out] at he | skip); dsimp only at he; subst he; replace d00 := keepC hbn d00; replace d01 := keepC hbn d01; replace d10 := keepC hbn d10; replace d11 := keepC hbn d11; replace hB := below_of hB hbn hB.size; clear hbn) | (go_at_call 33; refine (sQuadrance_any _ _ _ _ _ _ _).mono ?_; rintro e w' ⟨he, hbn⟩; (first | rw [hq1.out] at he | skip); dsimp only at he; subst he; replace d00 := keepC hbn d00; replace d01 := keepC hbn d01; replace d10 := keepC hbn d10; replace d11 := keepC hbn d11; replace hB := below_of hB hbn hB.size; clear hbn) | (go_at_call 34; refine (ProductOf_any _ _ _ _ _ _ _).mono ?_; rintro e w' ⟨he, hbn⟩; (first | rw [hpr.out] at he | skip); dsimp only at he; subst he; replace d00 := keepC hbn d00; replace d01 := keepC hbn d01; replace d10 := keepC hbn d10; replace d11 := keepC hbn d11; replace hB := below_of hB hbn hB.size; clear hbn) | (go_at_call 35; refine (sProductOf_any _ _ _ _ _ _ _).mono ?_; rintro e w' ⟨he, hbn⟩; (first | rw [hpr.out] at he | skip); dsimp only at he; subst he; replace d00 := keepC hbn d00; replace d01 := keepC hbn d01; replace d10 := keepC hbn d10; replace d11 := keepC hbn d11; replace hB := below_of hB hbn hB.size; clear hbn))
    refine (drawPointsAt_any _ w' ((hby.below hB).raise hB.size)).mono ?_
    rintro e w1 ⟨⟨r, s, cx, cy, q, rfl⟩, hbn⟩
    replace d00 := keepC hbn d00
    replace d01 := keepC hbn d01
    replace d10 := keepC hbn d10
    replace d11 := keepC hbn d11
    replace hB := below_of hB hbn hB.size
    clear hbn
    go_wp2_with fail
    generalize hW : (World.alloc w1 (.cells #[.int .i64 cx, .int .i64 cy] 33)) = W2
    have hbn : Below w1.heap.size w1 W2 := by subst hW; go_grown
    have d20 : W2.cell? ⟨w1.heap.size, 0, none⟩ = some (.int .i64 cx) := by subst hW; go_simp
    have d21 : W2.cell? ⟨w1.heap.size, 1, none⟩ = some (.int .i64 cy) := by subst hW; go_simp
    replace d00 := keepC hbn d00
    replace d01 := keepC hbn d01
    replace d10 := keepC hbn d10
    replace d11 := keepC hbn d11
    replace hB := below_of hB hbn hB.size
    clear hW hbn
    generalize w1.heap.size = r2 at *
    clear w1
    by_cases h3 : Pl.ask r (Pl.colB s && Pl.ptsB r [(cx, cy)] && Pl.numB r q) = 0
    · have hv3 := Pl.ask_ok h3
      obtain ⟨hf3, hv3⟩ := hv3
      have hp3 := Pl.field_bd hf3
      obtain ⟨hr1, hr2⟩ := hp3
      rw [Bool.and_eq_true, Bool.and_eq_true] at hv3
      obtain ⟨⟨hk3, hpt3⟩, hq3⟩ := hv3
      have hc3 : Pl.ptB r cx cy = true := by simpa [Pl.ptsB] using hpt3
      have hcb := Pl.ptB_bd hc3
      obtain ⟨cx1, cx2, cy1, cy2⟩ := hcb
      have hcnt : Hid (Pl.cntOf r s q = (Pl.cntAt r s q, 0)) := by unfold Hid Pl.cntOf; rw [if_pos (Pl.ask_mk hf3 (by simp [hk3, hq3]))]
      have hlen := Pl.count_law (k := s) (q := q) (show 0 ≤ r by omega) cx1 cx2 cy1 cy2
      rw [← hlen] at hcnt
      clear hlen
      have hnl := Pl.ptsW_len (P := fun b => Pl.quad r s cx cy b.1 b.2 == q) (show 0 ≤ r by omega) hr2
      have hmem : Hid (∀ j, j < (Pl.ptsW (fun b => Pl.quad r s cx cy b.1 b.2 == q) r).length → Pl.quadOf r s cx cy ((Pl.ptsW (fun b => Pl.quad r s cx cy b.1 b.2 == q) r).getD j (0, 0)).1 ((Pl.ptsW (fun b => Pl.quad r s cx cy b.1 b.2 == q) r).getD j (0, 0)).2 = (q, 0) ∧ 0 ≤ ((Pl.ptsW (fun b => Pl.quad r s cx cy b.1 b.2 == q) r).getD j (0, 0)).1 ∧ ((Pl.ptsW (fun b => Pl.quad r s cx cy b.1 b.2 == q) r).getD j (0, 0)).1 ≤ 31 ∧ 0 ≤ ((Pl.ptsW (fun b => Pl.quad r s cx cy b.1 b.2 == q) r).getD j (0, 0)).2 ∧ ((Pl.ptsW (fun b => Pl.quad r s cx cy b.1 b.2 == q) r).getD j (0, 0)).2 ≤ 31) := by
        intro j hj
        have hm := Pl.mem_ptsW (Pl.getD_mem (0, 0) hj)
        obtain ⟨m1, m2, m3, m4, m5⟩ := hm
        refine ⟨?_, m2, by omega, m4, by omega⟩
        have hpb : Pl.ptB r ((Pl.ptsW (fun b => Pl.quad r s cx cy b.1 b.2 == q) r).getD j (0, 0)).1 ((Pl.ptsW (fun b => Pl.quad r s cx cy b.1 b.2 == q) r).getD j (0, 0)).2 = true := by simp only [Pl.ptB, Pl.numB_mk m2 m3, Pl.numB_mk m4 m5, Bool.and_self]
        unfold Pl.quadOf
        rw [if_pos (Pl.ask_mk hf3 (by simp only [Pl.ptsB, List.all_cons, List.all_nil, hk3, hc3, hpb, Bool.and_self]))]
        simpa using m1
      refine (PointsAt_ok r s cx cy q _ h3).mono ?_
      rintro e w2 ⟨g1, c1, rfl, hS1, hbn⟩
      replace d00 := keepC hbn d00
      replace d01 := keepC hbn d01
      replace d10 := keepC hbn d10
      replace d11 := keepC hbn d11
      replace d20 := keepC hbn d20
      replace d21 := keepC hbn d21
      replace hB := below_of hB hbn hB.size
      clear hbn
      go_wp2_with fail
      refine (sPointsAt_ok r s cx cy q _ h3).mono ?_
      rintro e w3 ⟨g2, c2, rfl, hS2, hbn⟩
      replace hS1 := hS1.keep hbn
      replace d00 := keepC hbn d00
      replace d01 := keepC hbn d01
      replace d10 := keepC hbn d10
      replace d11 := keepC hbn d11
      replace d20 := keepC hbn d20
      replace d21 := keepC hbn d21
      replace hB := below_of hB hbn hB.size
      clear hbn h3 hpt3 hq3 hk3 hc3 hf3
      generalize Pl.ptsW (fun b => Pl.quad r s cx cy b.1 b.2 == q) r = LL at *
      go_wp2_with (go_at_call 39; refine (points9_same g1 c1 g2 c2 LL.length LL _ (by omega) (fun j hj => (hmem.out j hj).2) (fun j hj => hS1.cell2 hj) (fun j hj => hS2.cell2 hj)).mono ?_; rintro e w' ⟨rfl, hbn⟩; replace d00 := keepC hbn d00; replace d01 := keepC hbn d01; replace d10 := keepC hbn d10; replace d11 := keepC hbn d11; replace d20 := keepC hbn d20; replace d21 := keepC hbn d21; replace hS1 := hS1.keep hbn; replace hB := below_of hB hbn hB.size; clear hbn hS2)
      refine (drawCountAt_any _ w' ((hby.below hB).raise hB.size)).mono ?_
      rintro e w1 ⟨⟨t, tint, u, rfl⟩, hbn⟩
      replace d00 := keepC hbn d00
      replace d01 := keepC hbn d01
      replace d10 := keepC hbn d10
      replace d11 := keepC hbn d11
      replace d20 := keepC hbn d20
      replace d21 := keepC hbn d21
      replace hS1 := hS1.keep hbn
      replace hB := below_of hB hbn hB.size
      clear hbn
      go_wp2_with (first | (go_at_call 41; refine (CountAt_any _ _ _ _).mono ?_; rintro e w' ⟨he, hbn⟩; subst he; replace d00 := keepC hbn d00; replace d01 := keepC hbn d01; replace d10 := keepC hbn d10; replace d11 := keepC hbn d11; replace d20 := keepC hbn d20; replace d21 := keepC hbn d21; replace hS1 := hS1.keep hbn; replace hB := below_of hB hbn hB.size; clear hbn) | (go_at_call 42; refine (sCountAt_any _ _ _ _).mono ?_; rintro e w' ⟨he, hbn⟩; subst he; replace d00 := keepC hbn d00; replace d01 := keepC hbn d01; replace d10 := keepC hbn d10; replace d11 := keepC hbn d11; replace d20 := keepC hbn d20; replace d21 := keepC hbn d21; replace hS1 := hS1.keep hbn; replace hB := below_of hB hbn hB.size; clear hbn))
      refine (drawArchimedesOf_any _ w' ((hby.below hB).raise hB.size)).mono ?_
      rintro e w1 ⟨⟨a1, a2, a3, a4, rfl⟩, hbn⟩
      replace d00 := keepC hbn d00
      replace d01 := keepC hbn d01
      replace d10 := keepC hbn d10
      replace d11 := keepC hbn d11
      replace d20 := keepC hbn d20
      replace d21 := keepC hbn d21
      replace hS1 := hS1.keep hbn
      replace hB := below_of hB hbn hB.size
      clear hbn
      go_wp2_with (first | (go_at_call 44; refine (ArchimedesOf_any _ _ _ _ _).mono ?_; rintro e w' ⟨he, hbn⟩; subst he; replace d00 := keepC hbn d00; replace d01 := keepC hbn d01; replace d10 := keepC hbn d10; replace d11 := keepC hbn d11; replace d20 := keepC hbn d20; replace d21 := keepC hbn d21; replace hS1 := hS1.keep hbn; replace hB := below_of hB hbn hB.size; clear hbn) | (go_at_call 45; refine (sArchimedesOf_any _ _ _ _ _).mono ?_; rintro e w' ⟨he, hbn⟩; subst he; replace d00 := keepC hbn d00; replace d01 := keepC hbn d01; replace d10 := keepC hbn d10; replace d11 := keepC hbn d11; replace d20 := keepC hbn d20; replace d21 := keepC hbn d21; replace hS1 := hS1.keep hbn; replace hB := below_of hB hbn hB.size; clear hbn) | (go_at_call 41; refine (CountAt_any _ _ _ _).mono ?_; rintro e w' ⟨he, hbn⟩; (first | rw [hcnt.out] at he | skip); dsimp only at he; subst he; replace d00 := keepC hbn d00; replace d01 := keepC hbn d01; replace d10 := keepC hbn d10; replace d11 := keepC hbn d11; replace d20 := keepC hbn d20; replace d21 := keepC hbn d21; replace hS1 := hS1.keep hbn; replace hB := below_of hB hbn hB.size; clear hbn))
      go_loopw [40] (fun i wr => ∃ j : Nat, j ≤ LL.length ∧ i = .int .i64 j ∧ Below w'.heap.size w' wr) (fun i _ => LL.length - (intOf i).toNat)
      case atStart => exact ⟨0, Nat.zero_le _, rfl, Below.refl _ _⟩
      case round =>
        obtain ⟨j, hj, rfl, hb⟩ := hrel
        replace d00 := keepC hb d00
        replace d01 := keepC hb d01
        replace d10 := keepC hb d10
        replace d11 := keepC hb d11
        replace d20 := keepC hb d20
        replace d21 := keepC hb d21
        replace hS1 := hS1.keep hb
        replace hB := below_of hB hb hB.size
        by_cases hlt : j < LL.length
        · by_cases hl4 : j < 4
          · have hc2 := hS1.cell2 hlt
            obtain ⟨e0, e1⟩ := hc2
            have hmq := hid (hmem.out j hlt).1
            clear hmem
            generalize (LL.getD j (0, 0)).1 = px at *
            generalize (LL.getD j (0, 0)).2 = py at *
            go_wp2_with fail
            refine Reg.wp_region_grow (by kernel_rfl) 13 13 (fun _ => (#[.int .i64 0, .int .i64 0], 0)) (by kernel_rfl) ?_ ?_
            · intro k o h1 h2
              omega
            simp only [List.take_succ_cons, List.take_zero, List.drop_succ_cons, List.drop_zero]
            refine Reg.wpG_step (v := ?vr1x0) (fun wq hq => ?gr1x0) ?kr1x0
            case gr1x0 => (have q0 := keepC hq d20; have q1 := keepC hq d21; have q2 := keepC hq e0; have q3 := keepC hq e1; refine Reg.gAt_val ?_; go_simp; first | done | (with_reducible rfl) | rfl)
            try simp only [Act.put, List.setIfInBounds_toArray, List.set_cons_zero, List.set_cons_succ]
            refine Reg.wpG_step (v := ?vr1x1) (fun wq hq => ?gr1x1) ?kr1x1
            case gr1x1 => (have q0 := keepC hq d20; have q1 := keepC hq d21; have q2 := keepC hq e0; have q3 := keepC hq e1; refine Reg.gAt_val ?_; go_simp; first | done | (with_reducible rfl) | rfl)
            try simp only [Act.put, List.setIfInBounds_toArray, List.set_cons_zero, List.set_cons_succ]
            refine Reg.wpG_step (v := ?vr1x2) (fun wq hq => ?gr1x2) ?kr1x2
            case gr1x2 => (have q0 := keepC hq d20; have q1 := keepC hq d21; have q2 := keepC hq e0; have q3 := keepC hq e1; refine Reg.gAt_val ?_; go_simp; first | done | (with_reducible rfl) | rfl)
            try simp only [Act.put, List.setIfInBounds_toArray, List.set_cons_zero, List.set_cons_succ]
            refine Reg.wpG_step (v := ?vr1x3) (fun wq hq => ?gr1x3) ?kr1x3
            case gr1x3 => (have q0 := keepC hq d20; have q1 := keepC hq d21; have q2 := keepC hq e0; have q3 := keepC hq e1; refine Reg.gAt_val ?_; go_simp; first | done | (with_reducible rfl) | rfl)
            try simp only [Act.put, List.setIfInBounds_toArray, List.set_cons_zero, List.set_cons_succ]
            refine Reg.wpG_step (v := ?vr1x4) (fun wq hq => ?gr1x4) ?kr1x4
            case gr1x4 => (have q0 := keepC hq d20; have q1 := keepC hq d21; have q2 := keepC hq e0; have q3 := keepC hq e1; refine Reg.gAt_val ?_; go_simp; first | done | (with_reducible rfl) | rfl)
            try simp only [Act.put, List.setIfInBounds_toArray, List.set_cons_zero, List.set_cons_succ]
            refine Reg.wpG_step (v := ?vr1x5) (fun wq hq => ?gr1x5) ?kr1x5
            case gr1x5 => (have q0 := keepC hq d20; have q1 := keepC hq d21; have q2 := keepC hq e0; have q3 := keepC hq e1; refine Reg.gAt_val ?_; go_simp; first | done | (with_reducible rfl) | rfl)
            try simp only [Act.put, List.setIfInBounds_toArray, List.set_cons_zero, List.set_cons_succ]
            refine Reg.wpG_step (v := ?vr1x6) (fun wq hq => ?gr1x6) ?kr1x6
            case gr1x6 => (have q0 := keepC hq d20; have q1 := keepC hq d21; have q2 := keepC hq e0; have q3 := keepC hq e1; refine Reg.gAt_val ?_; go_simp; first | done | (with_reducible rfl) | rfl)
            try simp only [Act.put, List.setIfInBounds_toArray, List.set_cons_zero, List.set_cons_succ]
            refine Reg.wpG_step (v := .tuple #[.int .i64 q, .int .i64 0]) (fun wq hq => ?gr1x7) ?kr1x7
            case gr1x7 => (unfold Reg.gAt; go_simp; (try refine Reg.quiet_enter ?_); exact (Quadrance_any r s cx cy px py _).mono fun e w2 h => ⟨h.1.trans (by rw [hmq.out]), h.2⟩)
            try simp only [Act.put, List.setIfInBounds_toArray, List.set_cons_zero, List.set_cons_succ]
            refine Reg.wpG_step (v := ?vr1x8) (fun wq hq => ?gr1x8) ?kr1x8
            case gr1x8 => (have q0 := keepC hq d20; have q1 := keepC hq d21; have q2 := keepC hq e0; have q3 := keepC hq e1; refine Reg.gAt_val ?_; go_simp; first | done | (with_reducible rfl) | rfl)
            try simp only [Act.put, List.setIfInBounds_toArray, List.set_cons_zero, List.set_cons_succ]
            refine Reg.wpG_step (v := ?vr1x9) (fun wq hq => ?gr1x9) ?kr1x9
            case gr1x9 => (have q0 := keepC hq d20; have q1 := keepC hq d21; have q2 := keepC hq e0; have q3 := keepC hq e1; refine Reg.gAt_val ?_; go_simp; first | done | (with_reducible rfl) | rfl)
            try simp only [Act.put, List.setIfInBounds_toArray, List.set_cons_zero, List.set_cons_succ]
            refine Reg.wpG_step (v := ?vr1x10) (fun wq hq => ?gr1x10) ?kr1x10
            case gr1x10 => (have q0 := keepC hq d20; have q1 := keepC hq d21; have q2 := keepC hq e0; have q3 := keepC hq e1; refine Reg.gAt_val ?_; go_simp; first | done | (with_reducible rfl) | rfl)
            try simp only [Act.put, List.setIfInBounds_toArray, List.set_cons_zero, List.set_cons_succ]
            refine Reg.wpG_step (v := ?vr1x11) (fun wq hq => ?gr1x11) ?kr1x11
            case gr1x11 => (have q0 := keepC hq d20; have q1 := keepC hq d21; have q2 := keepC hq e0; have q3 := keepC hq e1; refine Reg.gAt_val ?_; go_simp; first | done | (with_reducible rfl) | rfl)
            try simp only [Act.put, List.setIfInBounds_toArray, List.set_cons_zero, List.set_cons_succ]
            refine Reg.wpG_step (v := ?vr1x12) (fun wq hq => ?gr1x12) ?kr1x12
            case gr1x12 => (have q0 := keepC hq d20; have q1 := keepC hq d21; have q2 := keepC hq e0; have q3 := keepC hq e1; refine Reg.gAt_val ?_; go_simp; first | done | (with_reducible rfl) | rfl)
            try simp only [Act.put, List.setIfInBounds_toArray, List.set_cons_zero, List.set_cons_succ]
            intro w2 g hB2 hg hd
            clear hg hd
            change wpList _ _ _ _ (Reg.putPtrs _ g [] _) _
            simp only [Reg.putPtrs]
            replace d20 := keepC hB2 d20
            replace d21 := keepC hB2 d21
            replace e0 := keepC hB2 e0
            replace e1 := keepC hB2 e1
            replace hb := below_of hb hB2 hb.size
            replace hB := below_of hB hB2 hB.size
            clear hB2 
            go_wp2_with fail
            go_roundw
            case rel => exact ⟨j + 1, by omega, by go_num, hb⟩
            case measure => simp [intOf]; omega
          · go_wp2_with (go_at_call 32; refine (Quadrance_any _ _ _ _ _ _ _).mono ?_; rintro e w' ⟨he, hbn⟩; (first | rw [hqb.out] at he | rw [hqc.out] at he | rw [hqd.out] at he | skip); dsimp only at he; subst he; replace d00 := keepC hbn d00; replace d01 := keepC hbn d01; replace d10 := keepC hbn d10; replace d11 := keepC hbn d11; replace d20 := keepC hbn d20; replace d21 := keepC hbn d21; replace hB := below_of hB hbn hB.size; clear hbn)
            have h9 : ((l + f2 - 2 * pr - x).tmod p == 0) = true := by rw [hT.out]; rfl
            go_ret
            exact ⟨congrArg (fun b => Ending.returned (.bool b)) h9, hB⟩
        · go_wp2_with (go_at_call 32; refine (Quadrance_any _ _ _ _ _ _ _).mono ?_; rintro e w' ⟨he, hbn⟩; (first | rw [hqb.out] at he | rw [hqc.out] at he | rw [hqd.out] at he | skip); dsimp only at he; subst he; replace d00 := keepC hbn d00; replace d01 := keepC hbn d01; replace d10 := keepC hbn d10; replace d11 := keepC hbn d11; replace d20 := keepC hbn d20; replace d21 := keepC hbn d21; replace hB := below_of hB hbn hB.size; clear hbn)
          have h9 : ((l + f2 - 2 * pr - x).tmod p == 0) = true := by rw [hT.out]; rfl
          go_ret
          exact ⟨congrArg (fun b => Ending.returned (.bool b)) h9, hB⟩
    · refine (PointsAt_err r s cx cy q _ h3).mono ?_
      rintro e w2 ⟨rfl, hbn⟩
      replace d00 := keepC hbn d00
      replace d01 := keepC hbn d01
      replace d10 := keepC hbn d10
      replace d11 := keepC hbn d11
      replace d20 := keepC hbn d20
      replace d21 := keepC hbn d21
      replace hB := below_of hB hbn hB.size
      clear hbn
      go_wp2_with fail
      refine (sPointsAt_err r s cx cy q _ h3).mono ?_
      rintro e w3 ⟨rfl, hbn⟩
      replace d00 := keepC hbn d00
      replace d01 := keepC hbn d01
      replace d10 := keepC hbn d10
      replace d11 := keepC hbn d11
      replace d20 := keepC hbn d20
      replace d21 := keepC hbn d21
      replace hB := below_of hB hbn hB.size
      clear hbn
      generalize Pl.ask r (Pl.colB s && Pl.ptsB r [(cx, cy)] && Pl.numB r q) = qc at *
      go_wp2_with (go_at_call 39; refine (points9_nil _).mono ?_; rintro e w' ⟨rfl, hbn⟩; replace d00 := keepC hbn d00; replace d01 := keepC hbn d01; replace d10 := keepC hbn d10; replace d11 := keepC hbn d11; replace d20 := keepC hbn d20; replace d21 := keepC hbn d21; replace hB := below_of hB hbn hB.size; clear hbn)
      refine (drawCountAt_any _ w' ((hby.below hB).raise hB.size)).mono ?_
      rintro e w1 ⟨⟨t, tint, u, rfl⟩, hbn⟩
      replace d00 := keepC hbn d00
      replace d01 := keepC hbn d01
      replace d10 := keepC hbn d10
      replace d11 := keepC hbn d11
      replace d20 := keepC hbn d20
      replace d21 := keepC hbn d21
      replace hB := below_of hB hbn hB.size
      clear hbn
      go_wp2_with (first | (go_at_call 41; refine (CountAt_any _ _ _ _).mono ?_; rintro e w' ⟨he, hbn⟩; subst he; replace d00 := keepC hbn d00; replace d01 := keepC hbn d01; replace d10 := keepC hbn d10; replace d11 := keepC hbn d11; replace d20 := keepC hbn d20; replace d21 := keepC hbn d21; replace hB := below_of hB hbn hB.size; clear hbn) | (go_at_call 42; refine (sCountAt_any _ _ _ _).mono ?_; rintro e w' ⟨he, hbn⟩; subst he; replace d00 := keepC hbn d00; replace d01 := keepC hbn d01; replace d10 := keepC hbn d10; replace d11 := keepC hbn d11; replace d20 := keepC hbn d20; replace d21 := keepC hbn d21; replace hB := below_of hB hbn hB.size; clear hbn))
      refine (drawArchimedesOf_any _ w' ((hby.below hB).raise hB.size)).mono ?_
      rintro e w1 ⟨⟨a1, a2, a3, a4, rfl⟩, hbn⟩
      replace d00 := keepC hbn d00
      replace d01 := keepC hbn d01
      replace d10 := keepC hbn d10
      replace d11 := keepC hbn d11
      replace d20 := keepC hbn d20
      replace d21 := keepC hbn d21
      replace hB := below_of hB hbn hB.size
      clear hbn
      go_wp2_with (first | (go_at_call 44; refine (ArchimedesOf_any _ _ _ _ _).mono ?_; rintro e w' ⟨he, hbn⟩; subst he; replace d00 := keepC hbn d00; replace d01 := keepC hbn d01; replace d10 := keepC hbn d10; replace d11 := keepC hbn d11; replace d20 := keepC hbn d20; replace d21 := keepC hbn d21; replace hB := below_of hB hbn hB.size; clear hbn) | (go_at_call 45; refine (sArchimedesOf_any _ _ _ _ _).mono ?_; rintro e w' ⟨he, hbn⟩; subst he; replace d00 := keepC hbn d00; replace d01 := keepC hbn d01; replace d10 := keepC hbn d10; replace d11 := keepC hbn d11; replace d20 := keepC hbn d20; replace d21 := keepC hbn d21; replace hB := below_of hB hbn hB.size; clear hbn))
      go_wp2_with (go_at_call 32; refine (Quadrance_any _ _ _ _ _ _ _).mono ?_; rintro e w' ⟨he, hbn⟩; (first | rw [hqb.out] at he | rw [hqc.out] at he | rw [hqd.out] at he | skip); dsimp only at he; subst he; replace d00 := keepC hbn d00; replace d01 := keepC hbn d01; replace d10 := keepC hbn d10; replace d11 := keepC hbn d11; replace d20 := keepC hbn d20; replace d21 := keepC hbn d21; replace hB := below_of hB hbn hB.size; clear hbn)
      have h9 : ((l + f2 - 2 * pr - x).tmod p == 0) = true := by rw [hT.out]; rfl
      go_ret
      exact ⟨congrArg (fun b => Ending.returned (.bool b)) h9, hB⟩
  · have hq1 : Hid (Pl.quadOf p k ax ay bx by_ = (0, Pl.ask p (Pl.colB k && Pl.ptsB p [(ax, ay), (bx, by_)]))) := by unfold Hid Pl.quadOf; rw [if_neg h1]
    have hpr : Hid (Pl.prodOf p k ax ay bx by_ = (0, Pl.ask p (Pl.colB k && Pl.ptsB p [(ax, ay), (bx, by_)]))) := by unfold Hid Pl.prodOf; rw [if_neg h1]
    generalize Pl.ask p (Pl.colB k && Pl.ptsB p [(ax, ay), (bx, by_)]) = q1 at *
    go_wp2_with (first | (go_at_call 32; refine (Quadrance_any _ _ _ _ _ _ _).mono ?_; rintro e w' ⟨he, hbn⟩; (first | rw [hq1.out] at he | skip); dsimp only at he; subst he; replace d00 := keepC hbn d00; replace d01 := keepC hbn d01; replace d10 := keepC hbn d10; replace d11 := keepC hbn d11; replace hB := below_of hB hbn hB.size; clear hbn) | (go_at_call 33; refine (sQuadrance_any _ _ _ _ _ _ _).mono ?_; rintro e w' ⟨he, hbn⟩; (first | rw [hq1.out] at he | skip); dsimp only at he; subst he; replace d00 := keepC hbn d00; replace d01 := keepC hbn d01; replace d10 := keepC hbn d10; replace d11 := keepC hbn d11; replace hB := below_of hB hbn hB.size; clear hbn) | (go_at_call 34; refine (ProductOf_any _ _ _ _ _ _ _).mono ?_; rintro e w' ⟨he, hbn⟩; (first | rw [hpr.out] at he | skip); dsimp only at he; subst he; replace d00 := keepC hbn d00; replace d01 := keepC hbn d01; replace d10 := keepC hbn d10; replace d11 := keepC hbn d11; replace hB := below_of hB hbn hB.size; clear hbn) | (go_at_call 35; refine (sProductOf_any _ _ _ _ _ _ _).mono ?_; rintro e w' ⟨he, hbn⟩; (first | rw [hpr.out] at he | skip); dsimp only at he; subst he; replace d00 := keepC hbn d00; replace d01 := keepC hbn d01; replace d10 := keepC hbn d10; replace d11 := keepC hbn d11; replace hB := below_of hB hbn hB.size; clear hbn))
    refine (drawPointsAt_any _ w' ((hby.below hB).raise hB.size)).mono ?_
    rintro e w1 ⟨⟨r, s, cx, cy, q, rfl⟩, hbn⟩
    replace d00 := keepC hbn d00
    replace d01 := keepC hbn d01
    replace d10 := keepC hbn d10
    replace d11 := keepC hbn d11
    replace hB := below_of hB hbn hB.size
    clear hbn
    go_wp2_with fail
    generalize hW : (World.alloc w1 (.cells #[.int .i64 cx, .int .i64 cy] 33)) = W2
    have hbn : Below w1.heap.size w1 W2 := by subst hW; go_grown
    have d20 : W2.cell? ⟨w1.heap.size, 0, none⟩ = some (.int .i64 cx) := by subst hW; go_simp
    have d21 : W2.cell? ⟨w1.heap.size, 1, none⟩ = some (.int .i64 cy) := by subst hW; go_simp
    replace d00 := keepC hbn d00
    replace d01 := keepC hbn d01
    replace d10 := keepC hbn d10
    replace d11 := keepC hbn d11
    replace hB := below_of hB hbn hB.size
    clear hW hbn
    generalize w1.heap.size = r2 at *
    clear w1
    by_cases h3 : Pl.ask r (Pl.colB s && Pl.ptsB r [(cx, cy)] && Pl.numB r q) = 0
    · have hv3 := Pl.ask_ok h3
      obtain ⟨hf3, hv3⟩ := hv3
      have hp3 := Pl.field_bd hf3
      obtain ⟨hr1, hr2⟩ := hp3
      rw [Bool.and_eq_true, Bool.and_eq_true] at hv3
      obtain ⟨⟨hk3, hpt3⟩, hq3⟩ := hv3
      have hc3 : Pl.ptB r cx cy = true := by simpa [Pl.ptsB] using hpt3
      have hcb := Pl.ptB_bd hc3
      obtain ⟨cx1, cx2, cy1, cy2⟩ := hcb
      have hcnt : Hid (Pl.cntOf r s q = (Pl.cntAt r s q, 0)) := by unfold Hid Pl.cntOf; rw [if_pos (Pl.ask_mk hf3 (by simp [hk3, hq3]))]
      have hlen := Pl.count_law (k := s) (q := q) (show 0 ≤ r by omega) cx1 cx2 cy1 cy2
      rw [← hlen] at hcnt
      clear hlen
      have hnl := Pl.ptsW_len (P := fun b => Pl.quad r s cx cy b.1 b.2 == q) (show 0 ≤ r by omega) hr2
      have hmem : Hid (∀ j, j < (Pl.ptsW (fun b => Pl.quad r s cx cy b.1 b.2 == q) r).length → Pl.quadOf r s cx cy ((Pl.ptsW (fun b => Pl.quad r s cx cy b.1 b.2 == q) r).getD j (0, 0)).1 ((Pl.ptsW (fun b => Pl.quad r s cx cy b.1 b.2 == q) r).getD j (0, 0)).2 = (q, 0) ∧ 0 ≤ ((Pl.ptsW (fun b => Pl.quad r s cx cy b.1 b.2 == q) r).getD j (0, 0)).1 ∧ ((Pl.ptsW (fun b => Pl.quad r s cx cy b.1 b.2 == q) r).getD j (0, 0)).1 ≤ 31 ∧ 0 ≤ ((Pl.ptsW (fun b => Pl.quad r s cx cy b.1 b.2 == q) r).getD j (0, 0)).2 ∧ ((Pl.ptsW (fun b => Pl.quad r s cx cy b.1 b.2 == q) r).getD j (0, 0)).2 ≤ 31) := by
        intro j hj
        have hm := Pl.mem_ptsW (Pl.getD_mem (0, 0) hj)
        obtain ⟨m1, m2, m3, m4, m5⟩ := hm
        refine ⟨?_, m2, by omega, m4, by omega⟩
        have hpb : Pl.ptB r ((Pl.ptsW (fun b => Pl.quad r s cx cy b.1 b.2 == q) r).getD j (0, 0)).1 ((Pl.ptsW (fun b => Pl.quad r s cx cy b.1 b.2 == q) r).getD j (0, 0)).2 = true := by simp only [Pl.ptB, Pl.numB_mk m2 m3, Pl.numB_mk m4 m5, Bool.and_self]
        unfold Pl.quadOf
        rw [if_pos (Pl.ask_mk hf3 (by simp only [Pl.ptsB, List.all_cons, List.all_nil, hk3, hc3, hpb, Bool.and_self]))]
        simpa using m1
      refine (PointsAt_ok r s cx cy q _ h3).mono ?_
      rintro e w2 ⟨g1, c1, rfl, hS1, hbn⟩
      replace d00 := keepC hbn d00
      replace d01 := keepC hbn d01
      replace d10 := keepC hbn d10
      replace d11 := keepC hbn d11
      replace d20 := keepC hbn d20
      replace d21 := keepC hbn d21
      replace hB := below_of hB hbn hB.size
      clear hbn
      go_wp2_with fail
      refine (sPointsAt_ok r s cx cy q _ h3).mono ?_
      rintro e w3 ⟨g2, c2, rfl, hS2, hbn⟩
      replace hS1 := hS1.keep hbn
      replace d00 := keepC hbn d00
      replace d01 := keepC hbn d01
      replace d10 := keepC hbn d10
      replace d11 := keepC hbn d11
      replace d20 := keepC hbn d20
      replace d21 := keepC hbn d21
      replace hB := below_of hB hbn hB.size
      clear hbn h3 hpt3 hq3 hk3 hc3 hf3
      generalize Pl.ptsW (fun b => Pl.quad r s cx cy b.1 b.2 == q) r = LL at *
      go_wp2_with (go_at_call 39; refine (points9_same g1 c1 g2 c2 LL.length LL _ (by omega) (fun j hj => (hmem.out j hj).2) (fun j hj => hS1.cell2 hj) (fun j hj => hS2.cell2 hj)).mono ?_; rintro e w' ⟨rfl, hbn⟩; replace d00 := keepC hbn d00; replace d01 := keepC hbn d01; replace d10 := keepC hbn d10; replace d11 := keepC hbn d11; replace d20 := keepC hbn d20; replace d21 := keepC hbn d21; replace hS1 := hS1.keep hbn; replace hB := below_of hB hbn hB.size; clear hbn hS2)
      refine (drawCountAt_any _ w' ((hby.below hB).raise hB.size)).mono ?_
      rintro e w1 ⟨⟨t, tint, u, rfl⟩, hbn⟩
      replace d00 := keepC hbn d00
      replace d01 := keepC hbn d01
      replace d10 := keepC hbn d10
      replace d11 := keepC hbn d11
      replace d20 := keepC hbn d20
      replace d21 := keepC hbn d21
      replace hS1 := hS1.keep hbn
      replace hB := below_of hB hbn hB.size
      clear hbn
      go_wp2_with (first | (go_at_call 41; refine (CountAt_any _ _ _ _).mono ?_; rintro e w' ⟨he, hbn⟩; subst he; replace d00 := keepC hbn d00; replace d01 := keepC hbn d01; replace d10 := keepC hbn d10; replace d11 := keepC hbn d11; replace d20 := keepC hbn d20; replace d21 := keepC hbn d21; replace hS1 := hS1.keep hbn; replace hB := below_of hB hbn hB.size; clear hbn) | (go_at_call 42; refine (sCountAt_any _ _ _ _).mono ?_; rintro e w' ⟨he, hbn⟩; subst he; replace d00 := keepC hbn d00; replace d01 := keepC hbn d01; replace d10 := keepC hbn d10; replace d11 := keepC hbn d11; replace d20 := keepC hbn d20; replace d21 := keepC hbn d21; replace hS1 := hS1.keep hbn; replace hB := below_of hB hbn hB.size; clear hbn))
      refine (drawArchimedesOf_any _ w' ((hby.below hB).raise hB.size)).mono ?_
      rintro e w1 ⟨⟨a1, a2, a3, a4, rfl⟩, hbn⟩
      replace d00 := keepC hbn d00
      replace d01 := keepC hbn d01
      replace d10 := keepC hbn d10
      replace d11 := keepC hbn d11
      replace d20 := keepC hbn d20
      replace d21 := keepC hbn d21
      replace hS1 := hS1.keep hbn
      replace hB := below_of hB hbn hB.size
      clear hbn
      go_wp2_with (first | (go_at_call 44; refine (ArchimedesOf_any _ _ _ _ _).mono ?_; rintro e w' ⟨he, hbn⟩; subst he; replace d00 := keepC hbn d00; replace d01 := keepC hbn d01; replace d10 := keepC hbn d10; replace d11 := keepC hbn d11; replace d20 := keepC hbn d20; replace d21 := keepC hbn d21; replace hS1 := hS1.keep hbn; replace hB := below_of hB hbn hB.size; clear hbn) | (go_at_call 45; refine (sArchimedesOf_any _ _ _ _ _).mono ?_; rintro e w' ⟨he, hbn⟩; subst he; replace d00 := keepC hbn d00; replace d01 := keepC hbn d01; replace d10 := keepC hbn d10; replace d11 := keepC hbn d11; replace d20 := keepC hbn d20; replace d21 := keepC hbn d21; replace hS1 := hS1.keep hbn; replace hB := below_of hB hbn hB.size; clear hbn) | (go_at_call 41; refine (CountAt_any _ _ _ _).mono ?_; rintro e w' ⟨he, hbn⟩; (first | rw [hcnt.out] at he | skip); dsimp only at he; subst he; replace d00 := keepC hbn d00; replace d01 := keepC hbn d01; replace d10 := keepC hbn d10; replace d11 := keepC hbn d11; replace d20 := keepC hbn d20; replace d21 := keepC hbn d21; replace hS1 := hS1.keep hbn; replace hB := below_of hB hbn hB.size; clear hbn))
      go_loopw [40] (fun i wr => ∃ j : Nat, j ≤ LL.length ∧ i = .int .i64 j ∧ Below w'.heap.size w' wr) (fun i _ => LL.length - (intOf i).toNat)
      case atStart => exact ⟨0, Nat.zero_le _, rfl, Below.refl _ _⟩
      case round =>
        obtain ⟨j, hj, rfl, hb⟩ := hrel
        replace d00 := keepC hb d00
        replace d01 := keepC hb d01
        replace d10 := keepC hb d10
        replace d11 := keepC hb d11
        replace d20 := keepC hb d20
        replace d21 := keepC hb d21
        replace hS1 := hS1.keep hb
        replace hB := below_of hB hb hB.size
        by_cases hlt : j < LL.length
        · by_cases hl4 : j < 4
          · have hc2 := hS1.cell2 hlt
            obtain ⟨e0, e1⟩ := hc2
            have hmq := hid (hmem.out j hlt).1
            clear hmem
            generalize (LL.getD j (0, 0)).1 = px at *
            generalize (LL.getD j (0, 0)).2 = py at *
            go_wp2_with fail
            refine Reg.wp_region_grow (by kernel_rfl) 13 13 (fun _ => (#[.int .i64 0, .int .i64 0], 0)) (by kernel_rfl) ?_ ?_
            · intro k o h1 h2
              omega
            simp only [List.take_succ_cons, List.take_zero, List.drop_succ_cons, List.drop_zero]
            refine Reg.wpG_step (v := ?vr2x0) (fun wq hq => ?gr2x0) ?kr2x0
            case gr2x0 => (have q0 := keepC hq d20; have q1 := keepC hq d21; have q2 := keepC hq e0; have q3 := keepC hq e1; refine Reg.gAt_val ?_; go_simp; first | done | (with_reducible rfl) | rfl)
            try simp only [Act.put, List.setIfInBounds_toArray, List.set_cons_zero, List.set_cons_succ]
            refine Reg.wpG_step (v := ?vr2x1) (fun wq hq => ?gr2x1) ?kr2x1
            case gr2x1 => (have q0 := keepC hq d20; have q1 := keepC hq d21; have q2 := keepC hq e0; have q3 := keepC hq e1; refine Reg.gAt_val ?_; go_simp; first | done | (with_reducible rfl) | rfl)
            try simp only [Act.put, List.setIfInBounds_toArray, List.set_cons_zero, List.set_cons_succ]
            refine Reg.wpG_step (v := ?vr2x2) (fun wq hq => ?gr2x2) ?kr2x2
            case gr2x2 => (have q0 := keepC hq d20; have q1 := keepC hq d21; have q2 := keepC hq e0; have q3 := keepC hq e1; refine Reg.gAt_val ?_; go_simp; first | done | (with_reducible rfl) | rfl)
            try simp only [Act.put, List.setIfInBounds_toArray, List.set_cons_zero, List.set_cons_succ]
            refine Reg.wpG_step (v := ?vr2x3) (fun wq hq => ?gr2x3) ?kr2x3
            case gr2x3 => (have q0 := keepC hq d20; have q1 := keepC hq d21; have q2 := keepC hq e0; have q3 := keepC hq e1; refine Reg.gAt_val ?_; go_simp; first | done | (with_reducible rfl) | rfl)
            try simp only [Act.put, List.setIfInBounds_toArray, List.set_cons_zero, List.set_cons_succ]
            refine Reg.wpG_step (v := ?vr2x4) (fun wq hq => ?gr2x4) ?kr2x4
            case gr2x4 => (have q0 := keepC hq d20; have q1 := keepC hq d21; have q2 := keepC hq e0; have q3 := keepC hq e1; refine Reg.gAt_val ?_; go_simp; first | done | (with_reducible rfl) | rfl)
            try simp only [Act.put, List.setIfInBounds_toArray, List.set_cons_zero, List.set_cons_succ]
            refine Reg.wpG_step (v := ?vr2x5) (fun wq hq => ?gr2x5) ?kr2x5
            case gr2x5 => (have q0 := keepC hq d20; have q1 := keepC hq d21; have q2 := keepC hq e0; have q3 := keepC hq e1; refine Reg.gAt_val ?_; go_simp; first | done | (with_reducible rfl) | rfl)
            try simp only [Act.put, List.setIfInBounds_toArray, List.set_cons_zero, List.set_cons_succ]
            refine Reg.wpG_step (v := ?vr2x6) (fun wq hq => ?gr2x6) ?kr2x6
            case gr2x6 => (have q0 := keepC hq d20; have q1 := keepC hq d21; have q2 := keepC hq e0; have q3 := keepC hq e1; refine Reg.gAt_val ?_; go_simp; first | done | (with_reducible rfl) | rfl)
            try simp only [Act.put, List.setIfInBounds_toArray, List.set_cons_zero, List.set_cons_succ]
            refine Reg.wpG_step (v := .tuple #[.int .i64 q, .int .i64 0]) (fun wq hq => ?gr2x7) ?kr2x7
            case gr2x7 => (unfold Reg.gAt; go_simp; (try refine Reg.quiet_enter ?_); exact (Quadrance_any r s cx cy px py _).mono fun e w2 h => ⟨h.1.trans (by rw [hmq.out]), h.2⟩)
            try simp only [Act.put, List.setIfInBounds_toArray, List.set_cons_zero, List.set_cons_succ]
            refine Reg.wpG_step (v := ?vr2x8) (fun wq hq => ?gr2x8) ?kr2x8
            case gr2x8 => (have q0 := keepC hq d20; have q1 := keepC hq d21; have q2 := keepC hq e0; have q3 := keepC hq e1; refine Reg.gAt_val ?_; go_simp; first | done | (with_reducible rfl) | rfl)
            try simp only [Act.put, List.setIfInBounds_toArray, List.set_cons_zero, List.set_cons_succ]
            refine Reg.wpG_step (v := ?vr2x9) (fun wq hq => ?gr2x9) ?kr2x9
            case gr2x9 => (have q0 := keepC hq d20; have q1 := keepC hq d21; have q2 := keepC hq e0; have q3 := keepC hq e1; refine Reg.gAt_val ?_; go_simp; first | done | (with_reducible rfl) | rfl)
            try simp only [Act.put, List.setIfInBounds_toArray, List.set_cons_zero, List.set_cons_succ]
            refine Reg.wpG_step (v := ?vr2x10) (fun wq hq => ?gr2x10) ?kr2x10
            case gr2x10 => (have q0 := keepC hq d20; have q1 := keepC hq d21; have q2 := keepC hq e0; have q3 := keepC hq e1; refine Reg.gAt_val ?_; go_simp; first | done | (with_reducible rfl) | rfl)
            try simp only [Act.put, List.setIfInBounds_toArray, List.set_cons_zero, List.set_cons_succ]
            refine Reg.wpG_step (v := ?vr2x11) (fun wq hq => ?gr2x11) ?kr2x11
            case gr2x11 => (have q0 := keepC hq d20; have q1 := keepC hq d21; have q2 := keepC hq e0; have q3 := keepC hq e1; refine Reg.gAt_val ?_; go_simp; first | done | (with_reducible rfl) | rfl)
            try simp only [Act.put, List.setIfInBounds_toArray, List.set_cons_zero, List.set_cons_succ]
            refine Reg.wpG_step (v := ?vr2x12) (fun wq hq => ?gr2x12) ?kr2x12
            case gr2x12 => (have q0 := keepC hq d20; have q1 := keepC hq d21; have q2 := keepC hq e0; have q3 := keepC hq e1; refine Reg.gAt_val ?_; go_simp; first | done | (with_reducible rfl) | rfl)
            try simp only [Act.put, List.setIfInBounds_toArray, List.set_cons_zero, List.set_cons_succ]
            intro w2 g hB2 hg hd
            clear hg hd
            change wpList _ _ _ _ (Reg.putPtrs _ g [] _) _
            simp only [Reg.putPtrs]
            replace d20 := keepC hB2 d20
            replace d21 := keepC hB2 d21
            replace e0 := keepC hB2 e0
            replace e1 := keepC hB2 e1
            replace hb := below_of hb hB2 hb.size
            replace hB := below_of hB hB2 hB.size
            clear hB2 
            go_wp2_with fail
            go_roundw
            case rel => exact ⟨j + 1, by omega, by go_num, hb⟩
            case measure => simp [intOf]; omega
          · go_wp2_with fail
            go_ret
            exact ⟨rfl, hB⟩
        · go_wp2_with fail
          go_ret
          exact ⟨rfl, hB⟩
    · refine (PointsAt_err r s cx cy q _ h3).mono ?_
      rintro e w2 ⟨rfl, hbn⟩
      replace d00 := keepC hbn d00
      replace d01 := keepC hbn d01
      replace d10 := keepC hbn d10
      replace d11 := keepC hbn d11
      replace d20 := keepC hbn d20
      replace d21 := keepC hbn d21
      replace hB := below_of hB hbn hB.size
      clear hbn
      go_wp2_with fail
      refine (sPointsAt_err r s cx cy q _ h3).mono ?_
      rintro e w3 ⟨rfl, hbn⟩
      replace d00 := keepC hbn d00
      replace d01 := keepC hbn d01
      replace d10 := keepC hbn d10
      replace d11 := keepC hbn d11
      replace d20 := keepC hbn d20
      replace d21 := keepC hbn d21
      replace hB := below_of hB hbn hB.size
      clear hbn
      generalize Pl.ask r (Pl.colB s && Pl.ptsB r [(cx, cy)] && Pl.numB r q) = qc at *
      go_wp2_with (go_at_call 39; refine (points9_nil _).mono ?_; rintro e w' ⟨rfl, hbn⟩; replace d00 := keepC hbn d00; replace d01 := keepC hbn d01; replace d10 := keepC hbn d10; replace d11 := keepC hbn d11; replace d20 := keepC hbn d20; replace d21 := keepC hbn d21; replace hB := below_of hB hbn hB.size; clear hbn)
      refine (drawCountAt_any _ w' ((hby.below hB).raise hB.size)).mono ?_
      rintro e w1 ⟨⟨t, tint, u, rfl⟩, hbn⟩
      replace d00 := keepC hbn d00
      replace d01 := keepC hbn d01
      replace d10 := keepC hbn d10
      replace d11 := keepC hbn d11
      replace d20 := keepC hbn d20
      replace d21 := keepC hbn d21
      replace hB := below_of hB hbn hB.size
      clear hbn
      go_wp2_with (first | (go_at_call 41; refine (CountAt_any _ _ _ _).mono ?_; rintro e w' ⟨he, hbn⟩; subst he; replace d00 := keepC hbn d00; replace d01 := keepC hbn d01; replace d10 := keepC hbn d10; replace d11 := keepC hbn d11; replace d20 := keepC hbn d20; replace d21 := keepC hbn d21; replace hB := below_of hB hbn hB.size; clear hbn) | (go_at_call 42; refine (sCountAt_any _ _ _ _).mono ?_; rintro e w' ⟨he, hbn⟩; subst he; replace d00 := keepC hbn d00; replace d01 := keepC hbn d01; replace d10 := keepC hbn d10; replace d11 := keepC hbn d11; replace d20 := keepC hbn d20; replace d21 := keepC hbn d21; replace hB := below_of hB hbn hB.size; clear hbn))
      refine (drawArchimedesOf_any _ w' ((hby.below hB).raise hB.size)).mono ?_
      rintro e w1 ⟨⟨a1, a2, a3, a4, rfl⟩, hbn⟩
      replace d00 := keepC hbn d00
      replace d01 := keepC hbn d01
      replace d10 := keepC hbn d10
      replace d11 := keepC hbn d11
      replace d20 := keepC hbn d20
      replace d21 := keepC hbn d21
      replace hB := below_of hB hbn hB.size
      clear hbn
      go_wp2_with (first | (go_at_call 44; refine (ArchimedesOf_any _ _ _ _ _).mono ?_; rintro e w' ⟨he, hbn⟩; subst he; replace d00 := keepC hbn d00; replace d01 := keepC hbn d01; replace d10 := keepC hbn d10; replace d11 := keepC hbn d11; replace d20 := keepC hbn d20; replace d21 := keepC hbn d21; replace hB := below_of hB hbn hB.size; clear hbn) | (go_at_call 45; refine (sArchimedesOf_any _ _ _ _ _).mono ?_; rintro e w' ⟨he, hbn⟩; subst he; replace d00 := keepC hbn d00; replace d01 := keepC hbn d01; replace d10 := keepC hbn d10; replace d11 := keepC hbn d11; replace d20 := keepC hbn d20; replace d21 := keepC hbn d21; replace hB := below_of hB hbn hB.size; clear hbn))
      go_ret
      exact ⟨rfl, hB⟩
end Go.Proofs.Ytbjcbbnfgfmllaa.fnQuadrances
