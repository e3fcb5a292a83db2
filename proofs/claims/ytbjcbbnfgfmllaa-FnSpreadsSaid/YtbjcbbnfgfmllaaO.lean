/- Contracts: crosses, spreads and twists of lines: helpers of both sides. -/
import Derived.Test.YtbjcbbnfgfmllaaH2
import Derived.Test.YtbjcbbnfgfmllaaPlA
import Derived.Test.YtbjcbbnfgfmllaaK
import Derived.Test.YtbjcbbnfgfmllaaAgg
set_option linter.unusedVariables false
set_option linter.unusedSimpArgs false
set_option maxHeartbeats 1000000
set_option maxRecDepth 100000
namespace Go.Proofs.Ytbjcbbnfgfmllaa
open Go.RowKit
theorem alloc_p (ρ : Operand → Value) (w : World) (d : Option Tmp) (pos : String) : (execOp ρ { dst := d, op := .alloc 33, type := 0, pos := pos, after := #[], guard := none }).run Try.prog w = .ok (.value (.pointer (some ⟨w.heap.size, 0, none⟩))) (w.alloc (.cells #[.int .i64 0, .int .i64 0] 33)) := by
  first | rfl | kernel_rfl
theorem alloc_l (ρ : Operand → Value) (w : World) (d : Option Tmp) (pos : String) : (execOp ρ { dst := d, op := .alloc 25, type := 0, pos := pos, after := #[], guard := none }).run Try.prog w = .ok (.value (.pointer (some ⟨w.heap.size, 0, none⟩))) (w.alloc (.cells #[.int .i64 0, .int .i64 0, .int .i64 0] 25)) := by
  first | rfl | kernel_rfl
theorem cross_any (p k la lb lc ma mb mc : Int) (w : World) (hf : Pl.fieldB p = true) (la1 : 0 ≤ la) (la2 : la ≤ 31) (lb1 : 0 ≤ lb) (lb2 : lb ≤ 31) (lc1 : 0 ≤ lc) (lc2 : lc ≤ 31) (ma1 : 0 ≤ ma) (ma2 : ma ≤ 31) (mb1 : 0 ≤ mb) (mb2 : mb ≤ 31) (mc1 : 0 ≤ mc) (mc2 : mc ≤ 31) :
    Calls Try.prog 67 #[.int .i64 p, .int .i64 k, .agg #[.int .i64 la, .int .i64 lb, .int .i64 lc], .agg #[.int .i64 ma, .int .i64 mb, .int .i64 mc]] w fun e w' => e = .returned (.int .i64 (Pl.cross p k la lb ma mb)) ∧ Below w.heap.size w w' := by
  have hp := Pl.field_bd hf
  obtain ⟨hp1, hp2⟩ := hp
  have r1n := Int.emod_nonneg (-lb) (show p ≠ 0 by omega)
  have r1l := Int.emod_lt_of_pos (-lb) (show 0 < p by omega)
  have r2n := Int.emod_nonneg (-mb) (show p ≠ 0 by omega)
  have r2l := Int.emod_lt_of_pos (-mb) (show 0 < p by omega)
  have bn := Pl.prod_bd' (p := p) (k := k) (x := ((-lb) % p)) (y := la) (z := ((-mb) % p)) (v := ma) (by omega)
  obtain ⟨bn1, bn2⟩ := bn
  have bu := Pl.prod_bd' (p := p) (k := k) (x := ((-lb) % p)) (y := la) (z := ((-lb) % p)) (v := la) (by omega)
  obtain ⟨bu1, bu2⟩ := bu
  have bv := Pl.prod_bd' (p := p) (k := k) (x := ((-mb) % p)) (y := ma) (z := ((-mb) % p)) (v := ma) (by omega)
  obtain ⟨bv1, bv2⟩ := bv
  go_enter Try.func67, Try.ntmps67
  go_wp2_with fail
  generalize hW : (World.alloc (World.alloc w (.cells #[.int .i64 la, .int .i64 lb, .int .i64 lc] 25)) (.cells #[.int .i64 ma, .int .i64 mb, .int .i64 mc] 25)) = W
  have d00 : W.cell? ⟨w.heap.size, 0, none⟩ = some (.int .i64 la) := by subst hW; go_simp
  have d01 : W.cell? ⟨w.heap.size, 1, none⟩ = some (.int .i64 lb) := by subst hW; go_simp
  have d02 : W.cell? ⟨w.heap.size, 2, none⟩ = some (.int .i64 lc) := by subst hW; go_simp
  have d10 : W.cell? ⟨w.heap.size + 1, 0, none⟩ = some (.int .i64 ma) := by subst hW; go_simp
  have d11 : W.cell? ⟨w.heap.size + 1, 1, none⟩ = some (.int .i64 mb) := by subst hW; go_simp
  have d12 : W.cell? ⟨w.heap.size + 1, 2, none⟩ = some (.int .i64 mc) := by subst hW; go_simp
  have hB : Below w.heap.size w W := by subst hW; go_grown
  clear hW
  refine Reg.wp_region_grow (by kernel_rfl) 6 8 (fun _ => (#[.int .i64 0, .int .i64 0], 33)) (by kernel_rfl) ?_ ?_
  · intro k o h1 h2 ho ρ wz
    obtain rfl | rfl : k = 6 ∨ k = 7 := by omega
    all_goals (simp at ho; subst ho; exact alloc_p _ _ _ _)
  simp only [List.take_succ_cons, List.take_zero, List.drop_succ_cons, List.drop_zero]
  refine Reg.wpG_step (v := ?vr1x0) (fun wq hq => ?gr1x0) ?kr1x0
  case gr1x0 => (have q0 := keepC hq d00; have q1 := keepC hq d01; have q2 := keepC hq d02; have q3 := keepC hq d10; have q4 := keepC hq d11; have q5 := keepC hq d12; refine Reg.gAt_val ?_; go_simp; first | done | (with_reducible rfl) | rfl)
  try simp only [Act.put, List.setIfInBounds_toArray, List.set_cons_zero, List.set_cons_succ]
  refine Reg.wpG_step (v := ?vr1x1) (fun wq hq => ?gr1x1) ?kr1x1
  case gr1x1 => (have q0 := keepC hq d00; have q1 := keepC hq d01; have q2 := keepC hq d02; have q3 := keepC hq d10; have q4 := keepC hq d11; have q5 := keepC hq d12; refine Reg.gAt_val ?_; go_simp; first | done | (with_reducible rfl) | rfl)
  try simp only [Act.put, List.setIfInBounds_toArray, List.set_cons_zero, List.set_cons_succ]
  refine Reg.wpG_step (v := .agg #[.int .i64 ((-lb) % p), .int .i64 la]) (fun wq hq => ?gr1x2) ?kr1x2
  case gr1x2 => (unfold Reg.gAt; go_simp; refine Reg.quiet_enter ?_; exact way_any _ _ _ _ _ (by omega) (by omega) (by omega) (by omega) (by omega) (by omega) (by omega) (by omega))
  try simp only [Act.put, List.setIfInBounds_toArray, List.set_cons_zero, List.set_cons_succ]
  refine Reg.wpG_step (v := ?vr1x3) (fun wq hq => ?gr1x3) ?kr1x3
  case gr1x3 => (have q0 := keepC hq d00; have q1 := keepC hq d01; have q2 := keepC hq d02; have q3 := keepC hq d10; have q4 := keepC hq d11; have q5 := keepC hq d12; refine Reg.gAt_val ?_; go_simp; first | done | (with_reducible rfl) | rfl)
  try simp only [Act.put, List.setIfInBounds_toArray, List.set_cons_zero, List.set_cons_succ]
  refine Reg.wpG_step (v := ?vr1x4) (fun wq hq => ?gr1x4) ?kr1x4
  case gr1x4 => (have q0 := keepC hq d00; have q1 := keepC hq d01; have q2 := keepC hq d02; have q3 := keepC hq d10; have q4 := keepC hq d11; have q5 := keepC hq d12; refine Reg.gAt_val ?_; go_simp; first | done | (with_reducible rfl) | rfl)
  try simp only [Act.put, List.setIfInBounds_toArray, List.set_cons_zero, List.set_cons_succ]
  refine Reg.wpG_step (v := .agg #[.int .i64 ((-mb) % p), .int .i64 ma]) (fun wq hq => ?gr1x5) ?kr1x5
  case gr1x5 => (unfold Reg.gAt; go_simp; refine Reg.quiet_enter ?_; exact way_any _ _ _ _ _ (by omega) (by omega) (by omega) (by omega) (by omega) (by omega) (by omega) (by omega))
  try simp only [Act.put, List.setIfInBounds_toArray, List.set_cons_zero, List.set_cons_succ]
  intro w2 g hB2 hg hd
  obtain ⟨hge6, hblk6⟩ := hg 6 (by omega) (by omega)
  obtain ⟨hge7, hblk7⟩ := hg 7 (by omega) (by omega)
  have hne67 : ¬ g 6 = g 7 := hd 6 7 (by omega) (by omega) (by omega) (by omega) (by omega)
  have hnf67 : ¬ g 7 = g 6 := fun e => hne67 e.symm
  clear hg hd
  simp only [List.range'_succ, List.range'_zero, Reg.putPtrs, Reg.dst, Act.put, List.setIfInBounds_toArray, List.set_cons_zero, List.set_cons_succ, List.getElem?_cons_zero, List.getElem?_cons_succ, Option.bind_some]
  generalize g 6 = g6 at *
  generalize g 7 = g7 at *
  obtain ⟨z60, z61, y60, y61⟩ := Reg.blk2 hblk6
  obtain ⟨z70, z71, y70, y71⟩ := Reg.blk2 hblk7
  clear hblk6 hblk7
  have hgw6 : w.heap.size ≤ g6 := Nat.le_trans hB.size hge6
  have hgw7 : w.heap.size ≤ g7 := Nat.le_trans hB.size hge7
  replace d00 := keepC hB2 d00
  replace d01 := keepC hB2 d01
  replace d02 := keepC hB2 d02
  replace d10 := keepC hB2 d10
  replace d11 := keepC hB2 d11
  replace d12 := keepC hB2 d12
  replace hB := below_of hB hB2 hB.size
  clear hB2 hge6 hge7
  go_wp2_with fail
  clear d00 d01 d02 d10 d11 d12
  generalize hW3 : (World.setCell (World.setCell (World.setCell (World.setCell w2 ⟨g6, 0, none⟩ (.int .i64 ((-lb) % p))) ⟨g6, 1, none⟩ (.int .i64 (la))) ⟨g7, 0, none⟩ (.int .i64 ((-mb) % p))) ⟨g7, 1, none⟩ (.int .i64 (ma))) = W3
  have s60 : W3.cell? ⟨g6, 0, none⟩ = some (.int .i64 (((-lb) % p))) := by rw [← hW3]; simp [World.cell?_setCell_other, World.cell?_setCell_same, z60, z61, z70, z71, hne67, hnf67]
  have s61 : W3.cell? ⟨g6, 1, none⟩ = some (.int .i64 (la)) := by rw [← hW3]; simp [World.cell?_setCell_other, World.cell?_setCell_same, z60, z61, z70, z71, hne67, hnf67]
  have s70 : W3.cell? ⟨g7, 0, none⟩ = some (.int .i64 (((-mb) % p))) := by rw [← hW3]; simp [World.cell?_setCell_other, World.cell?_setCell_same, z60, z61, z70, z71, hne67, hnf67]
  have s71 : W3.cell? ⟨g7, 1, none⟩ = some (.int .i64 (ma)) := by rw [← hW3]; simp [World.cell?_setCell_other, World.cell?_setCell_same, z60, z61, z70, z71, hne67, hnf67]
  replace hB : Below w.heap.size w W3 := by rw [← hW3]; go_grown
  clear hW3 z60 z61 z70 z71
  clear y60 y61 y70 y71
  go_wp2_with (go_at_call 105; refine (product_any _ _ _ _ _ _ _ (by omega) (by omega) (by omega) (by omega) (by omega) (by omega) (by omega) (by omega) (by omega) (by omega)).mono ?_; rintro e w' ⟨rfl, hbn⟩; replace s60 := keepC hbn (by first | exact s60 | exact keepA _ s60 | exact keepA _ (keepA _ s60)); replace s61 := keepC hbn (by first | exact s61 | exact keepA _ s61 | exact keepA _ (keepA _ s61)); replace s70 := keepC hbn (by first | exact s70 | exact keepA _ s70 | exact keepA _ (keepA _ s70)); replace s71 := keepC hbn (by first | exact s71 | exact keepA _ s71 | exact keepA _ (keepA _ s71)); replace hB := below_of (B := w.heap.size) (a := w) (by first | exact hB | (have := hB.size; go_grown)) hbn (by first | exact hB.size | (have := hB.size; simp <;> omega)); clear hbn)
  generalize hN : Pl.prod p k ((-lb) % p) la ((-mb) % p) ma = n at *
  generalize hU : Pl.prod p k ((-lb) % p) la ((-lb) % p) la = u at *
  generalize hV : Pl.prod p k ((-mb) % p) ma ((-mb) % p) ma = v at *
  have m1 := Pl.mulB (show 0 ≤ n by omega) (show n ≤ 31 by omega) (show 0 ≤ n by omega) (show n ≤ 31 by omega)
  obtain ⟨m1a, m1b⟩ := m1
  have m2 := Pl.mulB (show 0 ≤ u by omega) (show u ≤ 31 by omega) (show 0 ≤ v by omega) (show v ≤ 31 by omega)
  obtain ⟨m2a, m2b⟩ := m2
  have e1 : IntKind.i64.wrap (n * n) = n * n := IntWalk.i64_in _ (by omega)
  have e2 : IntKind.i64.wrap (u * v) = u * v := IntWalk.i64_in _ (by omega)
  have r3n := Int.emod_nonneg (u * v) (show p ≠ 0 by omega)
  have r3l := Int.emod_lt_of_pos (u * v) (show 0 < p by omega)
  refine Reg.wp_region_grow (by kernel_rfl) 18 18 (fun _ => (#[.int .i64 0, .int .i64 0], 0)) (by kernel_rfl) ?_ ?_
  · intro k o h1 h2
    omega
  simp only [List.take_succ_cons, List.take_zero, List.drop_succ_cons, List.drop_zero]
  refine Reg.wpG_step (v := ?vr2x0) (fun wq hq => ?gr2x0) ?kr2x0
  case gr2x0 => (have q0 := keepC hq s60; have q1 := keepC hq s61; have q2 := keepC hq s70; have q3 := keepC hq s71; refine Reg.gAt_val ?_; go_simp; first | done | (with_reducible rfl) | rfl)
  try simp only [Act.put, List.setIfInBounds_toArray, List.set_cons_zero, List.set_cons_succ]
  refine Reg.wpG_step (v := ?vr2x1) (fun wq hq => ?gr2x1) ?kr2x1
  case gr2x1 => (have q0 := keepC hq s60; have q1 := keepC hq s61; have q2 := keepC hq s70; have q3 := keepC hq s71; refine Reg.gAt_val ?_; go_simp; first | done | (with_reducible rfl) | rfl)
  try simp only [Act.put, List.setIfInBounds_toArray, List.set_cons_zero, List.set_cons_succ]
  refine Reg.wpG_step (v := ?vr2x2) (fun wq hq => ?gr2x2) ?kr2x2
  case gr2x2 => (have q0 := keepC hq s60; have q1 := keepC hq s61; have q2 := keepC hq s70; have q3 := keepC hq s71; refine Reg.gAt_val ?_; go_simp; first | done | (with_reducible rfl) | rfl)
  try simp only [Act.put, List.setIfInBounds_toArray, List.set_cons_zero, List.set_cons_succ]
  refine Reg.wpG_step (v := ?vr2x3) (fun wq hq => ?gr2x3) ?kr2x3
  case gr2x3 => (have q0 := keepC hq s60; have q1 := keepC hq s61; have q2 := keepC hq s70; have q3 := keepC hq s71; refine Reg.gAt_val ?_; go_simp; first | done | (with_reducible rfl) | rfl)
  try simp only [Act.put, List.setIfInBounds_toArray, List.set_cons_zero, List.set_cons_succ]
  refine Reg.wpG_step (v := ?vr2x4) (fun wq hq => ?gr2x4) ?kr2x4
  case gr2x4 => (have q0 := keepC hq s60; have q1 := keepC hq s61; have q2 := keepC hq s70; have q3 := keepC hq s71; refine Reg.gAt_val ?_; go_simp; first | done | (with_reducible rfl) | rfl)
  try simp only [Act.put, List.setIfInBounds_toArray, List.set_cons_zero, List.set_cons_succ]
  refine Reg.wpG_step (v := ?vr2x5) (fun wq hq => ?gr2x5) ?kr2x5
  case gr2x5 => (have q0 := keepC hq s60; have q1 := keepC hq s61; have q2 := keepC hq s70; have q3 := keepC hq s71; refine Reg.gAt_val ?_; go_simp; first | done | (with_reducible rfl) | rfl)
  try simp only [Act.put, List.setIfInBounds_toArray, List.set_cons_zero, List.set_cons_succ]
  refine Reg.wpG_step (v := ?vr2x6) (fun wq hq => ?gr2x6) ?kr2x6
  case gr2x6 => (have q0 := keepC hq s60; have q1 := keepC hq s61; have q2 := keepC hq s70; have q3 := keepC hq s71; refine Reg.gAt_val ?_; go_simp; first | done | (with_reducible rfl) | rfl)
  try simp only [Act.put, List.setIfInBounds_toArray, List.set_cons_zero, List.set_cons_succ]
  refine Reg.wpG_step (v := ?vr2x7) (fun wq hq => ?gr2x7) ?kr2x7
  case gr2x7 => (have q0 := keepC hq s60; have q1 := keepC hq s61; have q2 := keepC hq s70; have q3 := keepC hq s71; refine Reg.gAt_val ?_; go_simp; first | done | (with_reducible rfl) | rfl)
  try simp only [Act.put, List.setIfInBounds_toArray, List.set_cons_zero, List.set_cons_succ]
  refine Reg.wpG_step (v := ?vr2x8) (fun wq hq => ?gr2x8) ?kr2x8
  case gr2x8 => (have q0 := keepC hq s60; have q1 := keepC hq s61; have q2 := keepC hq s70; have q3 := keepC hq s71; refine Reg.gAt_val ?_; go_simp; first | done | (with_reducible rfl) | rfl)
  try simp only [Act.put, List.setIfInBounds_toArray, List.set_cons_zero, List.set_cons_succ]
  refine Reg.wpG_step (v := .int .i64 u) (fun wq hq => ?gr2x9) ?kr2x9
  case gr2x9 => (unfold Reg.gAt; go_simp; refine Reg.quiet_enter ?_; exact (product_any _ _ _ _ _ _ _ (by omega) (by omega) (by omega) (by omega) (by omega) (by omega) (by omega) (by omega) (by omega) (by omega)).mono fun e w2 ⟨he, hb⟩ => ⟨he.trans (ret_int hU), hb⟩)
  try simp only [Act.put, List.setIfInBounds_toArray, List.set_cons_zero, List.set_cons_succ]
  refine Reg.wpG_step (v := ?vr2x10) (fun wq hq => ?gr2x10) ?kr2x10
  case gr2x10 => (have q0 := keepC hq s60; have q1 := keepC hq s61; have q2 := keepC hq s70; have q3 := keepC hq s71; refine Reg.gAt_val ?_; go_simp; first | done | (with_reducible rfl) | rfl)
  try simp only [Act.put, List.setIfInBounds_toArray, List.set_cons_zero, List.set_cons_succ]
  refine Reg.wpG_step (v := ?vr2x11) (fun wq hq => ?gr2x11) ?kr2x11
  case gr2x11 => (have q0 := keepC hq s60; have q1 := keepC hq s61; have q2 := keepC hq s70; have q3 := keepC hq s71; refine Reg.gAt_val ?_; go_simp; first | done | (with_reducible rfl) | rfl)
  try simp only [Act.put, List.setIfInBounds_toArray, List.set_cons_zero, List.set_cons_succ]
  refine Reg.wpG_step (v := ?vr2x12) (fun wq hq => ?gr2x12) ?kr2x12
  case gr2x12 => (have q0 := keepC hq s60; have q1 := keepC hq s61; have q2 := keepC hq s70; have q3 := keepC hq s71; refine Reg.gAt_val ?_; go_simp; first | done | (with_reducible rfl) | rfl)
  try simp only [Act.put, List.setIfInBounds_toArray, List.set_cons_zero, List.set_cons_succ]
  refine Reg.wpG_step (v := ?vr2x13) (fun wq hq => ?gr2x13) ?kr2x13
  case gr2x13 => (have q0 := keepC hq s60; have q1 := keepC hq s61; have q2 := keepC hq s70; have q3 := keepC hq s71; refine Reg.gAt_val ?_; go_simp; first | done | (with_reducible rfl) | rfl)
  try simp only [Act.put, List.setIfInBounds_toArray, List.set_cons_zero, List.set_cons_succ]
  refine Reg.wpG_step (v := .int .i64 v) (fun wq hq => ?gr2x14) ?kr2x14
  case gr2x14 => (unfold Reg.gAt; go_simp; refine Reg.quiet_enter ?_; exact (product_any _ _ _ _ _ _ _ (by omega) (by omega) (by omega) (by omega) (by omega) (by omega) (by omega) (by omega) (by omega) (by omega)).mono fun e w2 ⟨he, hb⟩ => ⟨he.trans (ret_int hV), hb⟩)
  try simp only [Act.put, List.setIfInBounds_toArray, List.set_cons_zero, List.set_cons_succ]
  refine Reg.wpG_step (v := ?vr2x15) (fun wq hq => ?gr2x15) ?kr2x15
  case gr2x15 => (have q0 := keepC hq s60; have q1 := keepC hq s61; have q2 := keepC hq s70; have q3 := keepC hq s71; refine Reg.gAt_val ?_; go_simp; first | done | (with_reducible rfl) | rfl)
  try simp only [Act.put, List.setIfInBounds_toArray, List.set_cons_zero, List.set_cons_succ]
  refine Reg.wpG_step (v := .int .i64 ((u * v) % p)) (fun wq hq => ?gr2x16) ?kr2x16
  case gr2x16 => (unfold Reg.gAt; go_simp; refine Reg.quiet_enter ?_; exact (rest_any _ _ _ (by omega) (by omega)).mono fun e w2 ⟨he, hw⟩ => ⟨he, hw ▸ Below.refl _ _⟩)
  try simp only [Act.put, List.setIfInBounds_toArray, List.set_cons_zero, List.set_cons_succ]
  refine Reg.wpG_step (v := .int .i64 ((n * n * Pl.inv p ((u * v) % p)) % p)) (fun wq hq => ?gr2x17) ?kr2x17
  case gr2x17 => (unfold Reg.gAt; go_simp; refine Reg.quiet_enter ?_; exact (divide_any _ _ _ _ hf (by omega) (by omega) (by omega) (by omega)).mono fun e w2 ⟨he, hw⟩ => ⟨he, hw ▸ Below.refl _ _⟩)
  try simp only [Act.put, List.setIfInBounds_toArray, List.set_cons_zero, List.set_cons_succ]
  intro w2 g hB2 hg hd
  clear hg hd
  change wpList _ _ _ _ (Reg.putPtrs _ g [] _) _
  simp only [Reg.putPtrs]
  replace s60 := keepC hB2 s60
  replace s61 := keepC hB2 s61
  replace s70 := keepC hB2 s70
  replace s71 := keepC hB2 s71
  replace hB := below_of hB hB2 hB.size
  clear hB2 
  go_wp2_with fail
  go_ret
  exact ⟨ret_int (by rw [← hN, ← hU, ← hV]; rfl), hB⟩
theorem l03Cross_any (p k la lb lc ma mb mc : Int) (w : World) (hf : Pl.fieldB p = true) (la1 : 0 ≤ la) (la2 : la ≤ 31) (lb1 : 0 ≤ lb) (lb2 : lb ≤ 31) (lc1 : 0 ≤ lc) (lc2 : lc ≤ 31) (ma1 : 0 ≤ ma) (ma2 : ma ≤ 31) (mb1 : 0 ≤ mb) (mb2 : mb ≤ 31) (mc1 : 0 ≤ mc) (mc2 : mc ≤ 31) :
    Calls Try.prog 68 #[.int .i64 p, .int .i64 k, .agg #[.int .i64 la, .int .i64 lb, .int .i64 lc], .agg #[.int .i64 ma, .int .i64 mb, .int .i64 mc]] w fun e w' => e = .returned (.int .i64 (Pl.cross p k la lb ma mb)) ∧ Below w.heap.size w w' := by
  have hp := Pl.field_bd hf
  obtain ⟨hp1, hp2⟩ := hp
  have r1n := Int.emod_nonneg (-lb) (show p ≠ 0 by omega)
  have r1l := Int.emod_lt_of_pos (-lb) (show 0 < p by omega)
  have r2n := Int.emod_nonneg (-mb) (show p ≠ 0 by omega)
  have r2l := Int.emod_lt_of_pos (-mb) (show 0 < p by omega)
  have bn := Pl.prod_bd' (p := p) (k := k) (x := ((-lb) % p)) (y := la) (z := ((-mb) % p)) (v := ma) (by omega)
  obtain ⟨bn1, bn2⟩ := bn
  have bu := Pl.prod_bd' (p := p) (k := k) (x := ((-lb) % p)) (y := la) (z := ((-lb) % p)) (v := la) (by omega)
  obtain ⟨bu1, bu2⟩ := bu
  have bv := Pl.prod_bd' (p := p) (k := k) (x := ((-mb) % p)) (y := ma) (z := ((-mb) % p)) (v := ma) (by omega)
  obtain ⟨bv1, bv2⟩ := bv
  go_enter Try.func68, Try.ntmps68
  go_wp2_with fail
  generalize hW : (World.alloc (World.alloc w (.cells #[.int .i64 la, .int .i64 lb, .int .i64 lc] 25)) (.cells #[.int .i64 ma, .int .i64 mb, .int .i64 mc] 25)) = W
  have d00 : W.cell? ⟨w.heap.size, 0, none⟩ = some (.int .i64 la) := by subst hW; go_simp
  have d01 : W.cell? ⟨w.heap.size, 1, none⟩ = some (.int .i64 lb) := by subst hW; go_simp
  have d02 : W.cell? ⟨w.heap.size, 2, none⟩ = some (.int .i64 lc) := by subst hW; go_simp
  have d10 : W.cell? ⟨w.heap.size + 1, 0, none⟩ = some (.int .i64 ma) := by subst hW; go_simp
  have d11 : W.cell? ⟨w.heap.size + 1, 1, none⟩ = some (.int .i64 mb) := by subst hW; go_simp
  have d12 : W.cell? ⟨w.heap.size + 1, 2, none⟩ = some (.int .i64 mc) := by subst hW; go_simp
  have hB : Below w.heap.size w W := by subst hW; go_grown
  clear hW
  refine Reg.wp_region_grow (by kernel_rfl) 6 8 (fun _ => (#[.int .i64 0, .int .i64 0], 33)) (by kernel_rfl) ?_ ?_
  · intro k o h1 h2 ho ρ wz
    obtain rfl | rfl : k = 6 ∨ k = 7 := by omega
    all_goals (simp at ho; subst ho; exact alloc_p _ _ _ _)
  simp only [List.take_succ_cons, List.take_zero, List.drop_succ_cons, List.drop_zero]
  refine Reg.wpG_step (v := ?vr3x0) (fun wq hq => ?gr3x0) ?kr3x0
  case gr3x0 => (have q0 := keepC hq d00; have q1 := keepC hq d01; have q2 := keepC hq d02; have q3 := keepC hq d10; have q4 := keepC hq d11; have q5 := keepC hq d12; refine Reg.gAt_val ?_; go_simp; first | done | (with_reducible rfl) | rfl)
  try simp only [Act.put, List.setIfInBounds_toArray, List.set_cons_zero, List.set_cons_succ]
  refine Reg.wpG_step (v := ?vr3x1) (fun wq hq => ?gr3x1) ?kr3x1
  case gr3x1 => (have q0 := keepC hq d00; have q1 := keepC hq d01; have q2 := keepC hq d02; have q3 := keepC hq d10; have q4 := keepC hq d11; have q5 := keepC hq d12; refine Reg.gAt_val ?_; go_simp; first | done | (with_reducible rfl) | rfl)
  try simp only [Act.put, List.setIfInBounds_toArray, List.set_cons_zero, List.set_cons_succ]
  refine Reg.wpG_step (v := .agg #[.int .i64 ((-lb) % p), .int .i64 la]) (fun wq hq => ?gr3x2) ?kr3x2
  case gr3x2 => (unfold Reg.gAt; go_simp; refine Reg.quiet_enter ?_; exact l02Direction_any _ _ _ _ _ (by omega) (by omega) (by omega) (by omega) (by omega) (by omega) (by omega) (by omega))
  try simp only [Act.put, List.setIfInBounds_toArray, List.set_cons_zero, List.set_cons_succ]
  refine Reg.wpG_step (v := ?vr3x3) (fun wq hq => ?gr3x3) ?kr3x3
  case gr3x3 => (have q0 := keepC hq d00; have q1 := keepC hq d01; have q2 := keepC hq d02; have q3 := keepC hq d10; have q4 := keepC hq d11; have q5 := keepC hq d12; refine Reg.gAt_val ?_; go_simp; first | done | (with_reducible rfl) | rfl)
  try simp only [Act.put, List.setIfInBounds_toArray, List.set_cons_zero, List.set_cons_succ]
  refine Reg.wpG_step (v := ?vr3x4) (fun wq hq => ?gr3x4) ?kr3x4
  case gr3x4 => (have q0 := keepC hq d00; have q1 := keepC hq d01; have q2 := keepC hq d02; have q3 := keepC hq d10; have q4 := keepC hq d11; have q5 := keepC hq d12; refine Reg.gAt_val ?_; go_simp; first | done | (with_reducible rfl) | rfl)
  try simp only [Act.put, List.setIfInBounds_toArray, List.set_cons_zero, List.set_cons_succ]
  refine Reg.wpG_step (v := .agg #[.int .i64 ((-mb) % p), .int .i64 ma]) (fun wq hq => ?gr3x5) ?kr3x5
  case gr3x5 => (unfold Reg.gAt; go_simp; refine Reg.quiet_enter ?_; exact l02Direction_any _ _ _ _ _ (by omega) (by omega) (by omega) (by omega) (by omega) (by omega) (by omega) (by omega))
  try simp only [Act.put, List.setIfInBounds_toArray, List.set_cons_zero, List.set_cons_succ]
  intro w2 g hB2 hg hd
  obtain ⟨hge6, hblk6⟩ := hg 6 (by omega) (by omega)
  obtain ⟨hge7, hblk7⟩ := hg 7 (by omega) (by omega)
  have hne67 : ¬ g 6 = g 7 := hd 6 7 (by omega) (by omega) (by omega) (by omega) (by omega)
  have hnf67 : ¬ g 7 = g 6 := fun e => hne67 e.symm
  clear hg hd
  simp only [List.range'_succ, List.range'_zero, Reg.putPtrs, Reg.dst, Act.put, List.setIfInBounds_toArray, List.set_cons_zero, List.set_cons_succ, List.getElem?_cons_zero, List.getElem?_cons_succ, Option.bind_some]
  generalize g 6 = g6 at *
  generalize g 7 = g7 at *
  obtain ⟨z60, z61, y60, y61⟩ := Reg.blk2 hblk6
  obtain ⟨z70, z71, y70, y71⟩ := Reg.blk2 hblk7
  clear hblk6 hblk7
  have hgw6 : w.heap.size ≤ g6 := Nat.le_trans hB.size hge6
  have hgw7 : w.heap.size ≤ g7 := Nat.le_trans hB.size hge7
  replace d00 := keepC hB2 d00
  replace d01 := keepC hB2 d01
  replace d02 := keepC hB2 d02
  replace d10 := keepC hB2 d10
  replace d11 := keepC hB2 d11
  replace d12 := keepC hB2 d12
  replace hB := below_of hB hB2 hB.size
  clear hB2 hge6 hge7
  go_wp2_with fail
  clear d00 d01 d02 d10 d11 d12
  generalize hW3 : (World.setCell (World.setCell (World.setCell (World.setCell w2 ⟨g6, 0, none⟩ (.int .i64 ((-lb) % p))) ⟨g6, 1, none⟩ (.int .i64 (la))) ⟨g7, 0, none⟩ (.int .i64 ((-mb) % p))) ⟨g7, 1, none⟩ (.int .i64 (ma))) = W3
  have s60 : W3.cell? ⟨g6, 0, none⟩ = some (.int .i64 (((-lb) % p))) := by rw [← hW3]; simp [World.cell?_setCell_other, World.cell?_setCell_same, z60, z61, z70, z71, hne67, hnf67]
  have s61 : W3.cell? ⟨g6, 1, none⟩ = some (.int .i64 (la)) := by rw [← hW3]; simp [World.cell?_setCell_other, World.cell?_setCell_same, z60, z61, z70, z71, hne67, hnf67]
  have s70 : W3.cell? ⟨g7, 0, none⟩ = some (.int .i64 (((-mb) % p))) := by rw [← hW3]; simp [World.cell?_setCell_other, World.cell?_setCell_same, z60, z61, z70, z71, hne67, hnf67]
  have s71 : W3.cell? ⟨g7, 1, none⟩ = some (.int .i64 (ma)) := by rw [← hW3]; simp [World.cell?_setCell_other, World.cell?_setCell_same, z60, z61, z70, z71, hne67, hnf67]
  replace hB : Below w.heap.size w W3 := by rw [← hW3]; go_grown
  clear hW3 z60 z61 z70 z71
  clear y60 y61 y70 y71
  go_wp2_with (go_at_call 106; refine (l02Product_any _ _ _ _ _ _ _ (by omega) (by omega) (by omega) (by omega) (by omega) (by omega) (by omega) (by omega) (by omega) (by omega)).mono ?_; rintro e w' ⟨rfl, hbn⟩; replace s60 := keepC hbn (by first | exact s60 | exact keepA _ s60 | exact keepA _ (keepA _ s60)); replace s61 := keepC hbn (by first | exact s61 | exact keepA _ s61 | exact keepA _ (keepA _ s61)); replace s70 := keepC hbn (by first | exact s70 | exact keepA _ s70 | exact keepA _ (keepA _ s70)); replace s71 := keepC hbn (by first | exact s71 | exact keepA _ s71 | exact keepA _ (keepA _ s71)); replace hB := below_of (B := w.heap.size) (a := w) (by first | exact hB | (have := hB.size; go_grown)) hbn (by first | exact hB.size | (have := hB.size; simp <;> omega)); clear hbn)
  generalize hN : Pl.prod p k ((-lb) % p) la ((-mb) % p) ma = n at *
  generalize hU : Pl.prod p k ((-lb) % p) la ((-lb) % p) la = u at *
  generalize hV : Pl.prod p k ((-mb) % p) ma ((-mb) % p) ma = v at *
  have m1 := Pl.mulB (show 0 ≤ n by omega) (show n ≤ 31 by omega) (show 0 ≤ n by omega) (show n ≤ 31 by omega)
  obtain ⟨m1a, m1b⟩ := m1
  have m2 := Pl.mulB (show 0 ≤ u by omega) (show u ≤ 31 by omega) (show 0 ≤ v by omega) (show v ≤ 31 by omega)
  obtain ⟨m2a, m2b⟩ := m2
  have e1 : IntKind.i64.wrap (n * n) = n * n := IntWalk.i64_in _ (by omega)
  have e2 : IntKind.i64.wrap (u * v) = u * v := IntWalk.i64_in _ (by omega)
  have r3n := Int.emod_nonneg (u * v) (show p ≠ 0 by omega)
  have r3l := Int.emod_lt_of_pos (u * v) (show 0 < p by omega)
  have hi := Pl.inv_bd (a := u * v) hf
  obtain ⟨hi1, hi2⟩ := hi
  have r4n := Int.emod_nonneg (n * n) (show p ≠ 0 by omega)
  have r4l := Int.emod_lt_of_pos (n * n) (show 0 < p by omega)
  have m3 := Pl.mulB (show 0 ≤ ((n * n) % p) by omega) (show ((n * n) % p) ≤ 31 by omega) (show 0 ≤ (Pl.inv p ((u * v) % p)) by omega) (show (Pl.inv p ((u * v) % p)) ≤ 31 by omega)
  obtain ⟨m3a, m3b⟩ := m3
  have e3 : IntKind.i64.wrap ((n * n) % p * Pl.inv p ((u * v) % p)) = (n * n) % p * Pl.inv p ((u * v) % p) := IntWalk.i64_in _ (by omega)
  have t1 : Int.tmod (n * n) p = (n * n) % p := Int.tmod_eq_emod_of_nonneg m1a
  have t2 : Int.tmod ((n * n) % p * Pl.inv p ((u * v) % p)) p = ((n * n) % p * Pl.inv p ((u * v) % p)) % p := Int.tmod_eq_emod_of_nonneg m3a
  have hp0 : ¬ p = 0 := by omega
  refine Reg.wp_region_grow (by kernel_rfl) 21 21 (fun _ => (#[.int .i64 0, .int .i64 0], 0)) (by kernel_rfl) ?_ ?_
  · intro k o h1 h2
    omega
  simp only [List.take_succ_cons, List.take_zero, List.drop_succ_cons, List.drop_zero]
  refine Reg.wpG_step (v := ?vr4x0) (fun wq hq => ?gr4x0) ?kr4x0
  case gr4x0 => (have q0 := keepC hq s60; have q1 := keepC hq s61; have q2 := keepC hq s70; have q3 := keepC hq s71; refine Reg.gAt_val ?_; go_simp; first | done | (with_reducible rfl) | rfl)
  try simp only [Act.put, List.setIfInBounds_toArray, List.set_cons_zero, List.set_cons_succ]
  refine Reg.wpG_step (v := ?vr4x1) (fun wq hq => ?gr4x1) ?kr4x1
  case gr4x1 => (have q0 := keepC hq s60; have q1 := keepC hq s61; have q2 := keepC hq s70; have q3 := keepC hq s71; refine Reg.gAt_val ?_; go_simp; first | done | (with_reducible rfl) | rfl)
  try simp only [Act.put, List.setIfInBounds_toArray, List.set_cons_zero, List.set_cons_succ]
  refine Reg.wpG_step (v := ?vr4x2) (fun wq hq => ?gr4x2) ?kr4x2
  case gr4x2 => (have q0 := keepC hq s60; have q1 := keepC hq s61; have q2 := keepC hq s70; have q3 := keepC hq s71; refine Reg.gAt_val ?_; go_simp; first | done | (with_reducible rfl) | rfl)
  try simp only [Act.put, List.setIfInBounds_toArray, List.set_cons_zero, List.set_cons_succ]
  refine Reg.wpG_step (v := ?vr4x3) (fun wq hq => ?gr4x3) ?kr4x3
  case gr4x3 => (have q0 := keepC hq s60; have q1 := keepC hq s61; have q2 := keepC hq s70; have q3 := keepC hq s71; refine Reg.gAt_val ?_; go_simp; first | done | (with_reducible rfl) | rfl)
  try simp only [Act.put, List.setIfInBounds_toArray, List.set_cons_zero, List.set_cons_succ]
  refine Reg.wpG_step (v := ?vr4x4) (fun wq hq => ?gr4x4) ?kr4x4
  case gr4x4 => (have q0 := keepC hq s60; have q1 := keepC hq s61; have q2 := keepC hq s70; have q3 := keepC hq s71; refine Reg.gAt_val ?_; go_simp; first | done | (with_reducible rfl) | rfl)
  try simp only [Act.put, List.setIfInBounds_toArray, List.set_cons_zero, List.set_cons_succ]
  refine Reg.wpG_step (v := ?vr4x5) (fun wq hq => ?gr4x5) ?kr4x5
  case gr4x5 => (have q0 := keepC hq s60; have q1 := keepC hq s61; have q2 := keepC hq s70; have q3 := keepC hq s71; refine Reg.gAt_val ?_; go_simp; first | done | (with_reducible rfl) | rfl)
  try simp only [Act.put, List.setIfInBounds_toArray, List.set_cons_zero, List.set_cons_succ]
  refine Reg.wpG_step (v := ?vr4x6) (fun wq hq => ?gr4x6) ?kr4x6
  case gr4x6 => (have q0 := keepC hq s60; have q1 := keepC hq s61; have q2 := keepC hq s70; have q3 := keepC hq s71; refine Reg.gAt_val ?_; go_simp; first | done | (with_reducible rfl) | rfl)
  try simp only [Act.put, List.setIfInBounds_toArray, List.set_cons_zero, List.set_cons_succ]
  refine Reg.wpG_step (v := ?vr4x7) (fun wq hq => ?gr4x7) ?kr4x7
  case gr4x7 => (have q0 := keepC hq s60; have q1 := keepC hq s61; have q2 := keepC hq s70; have q3 := keepC hq s71; refine Reg.gAt_val ?_; go_simp; first | done | (with_reducible rfl) | rfl)
  try simp only [Act.put, List.setIfInBounds_toArray, List.set_cons_zero, List.set_cons_succ]
  refine Reg.wpG_step (v := ?vr4x8) (fun wq hq => ?gr4x8) ?kr4x8
  case gr4x8 => (have q0 := keepC hq s60; have q1 := keepC hq s61; have q2 := keepC hq s70; have q3 := keepC hq s71; refine Reg.gAt_val ?_; go_simp; first | done | (with_reducible rfl) | rfl)
  try simp only [Act.put, List.setIfInBounds_toArray, List.set_cons_zero, List.set_cons_succ]
  refine Reg.wpG_step (v := .int .i64 u) (fun wq hq => ?gr4x9) ?kr4x9
  case gr4x9 => (unfold Reg.gAt; go_simp; refine Reg.quiet_enter ?_; exact (l02Product_any _ _ _ _ _ _ _ (by omega) (by omega) (by omega) (by omega) (by omega) (by omega) (by omega) (by omega) (by omega) (by omega)).mono fun e w2 ⟨he, hb⟩ => ⟨he.trans (ret_int hU), hb⟩)
  try simp only [Act.put, List.setIfInBounds_toArray, List.set_cons_zero, List.set_cons_succ]
  refine Reg.wpG_step (v := ?vr4x10) (fun wq hq => ?gr4x10) ?kr4x10
  case gr4x10 => (have q0 := keepC hq s60; have q1 := keepC hq s61; have q2 := keepC hq s70; have q3 := keepC hq s71; refine Reg.gAt_val ?_; go_simp; first | done | (with_reducible rfl) | rfl)
  try simp only [Act.put, List.setIfInBounds_toArray, List.set_cons_zero, List.set_cons_succ]
  refine Reg.wpG_step (v := ?vr4x11) (fun wq hq => ?gr4x11) ?kr4x11
  case gr4x11 => (have q0 := keepC hq s60; have q1 := keepC hq s61; have q2 := keepC hq s70; have q3 := keepC hq s71; refine Reg.gAt_val ?_; go_simp; first | done | (with_reducible rfl) | rfl)
  try simp only [Act.put, List.setIfInBounds_toArray, List.set_cons_zero, List.set_cons_succ]
  refine Reg.wpG_step (v := ?vr4x12) (fun wq hq => ?gr4x12) ?kr4x12
  case gr4x12 => (have q0 := keepC hq s60; have q1 := keepC hq s61; have q2 := keepC hq s70; have q3 := keepC hq s71; refine Reg.gAt_val ?_; go_simp; first | done | (with_reducible rfl) | rfl)
  try simp only [Act.put, List.setIfInBounds_toArray, List.set_cons_zero, List.set_cons_succ]
  refine Reg.wpG_step (v := ?vr4x13) (fun wq hq => ?gr4x13) ?kr4x13
  case gr4x13 => (have q0 := keepC hq s60; have q1 := keepC hq s61; have q2 := keepC hq s70; have q3 := keepC hq s71; refine Reg.gAt_val ?_; go_simp; first | done | (with_reducible rfl) | rfl)
  try simp only [Act.put, List.setIfInBounds_toArray, List.set_cons_zero, List.set_cons_succ]
  refine Reg.wpG_step (v := .int .i64 v) (fun wq hq => ?gr4x14) ?kr4x14
  case gr4x14 => (unfold Reg.gAt; go_simp; refine Reg.quiet_enter ?_; exact (l02Product_any _ _ _ _ _ _ _ (by omega) (by omega) (by omega) (by omega) (by omega) (by omega) (by omega) (by omega) (by omega) (by omega)).mono fun e w2 ⟨he, hb⟩ => ⟨he.trans (ret_int hV), hb⟩)
  try simp only [Act.put, List.setIfInBounds_toArray, List.set_cons_zero, List.set_cons_succ]
  refine Reg.wpG_step (v := ?vr4x15) (fun wq hq => ?gr4x15) ?kr4x15
  case gr4x15 => (have q0 := keepC hq s60; have q1 := keepC hq s61; have q2 := keepC hq s70; have q3 := keepC hq s71; refine Reg.gAt_val ?_; go_simp; first | done | (with_reducible rfl) | rfl)
  try simp only [Act.put, List.setIfInBounds_toArray, List.set_cons_zero, List.set_cons_succ]
  refine Reg.wpG_step (v := ?vr4x16) (fun wq hq => ?gr4x16) ?kr4x16
  case gr4x16 => (have q0 := keepC hq s60; have q1 := keepC hq s61; have q2 := keepC hq s70; have q3 := keepC hq s71; refine Reg.gAt_val ?_; go_simp; first | done | (with_reducible rfl) | rfl)
  try simp only [Act.put, List.setIfInBounds_toArray, List.set_cons_zero, List.set_cons_succ]
  refine Reg.wpG_step (v := .int .i64 (Pl.inv p ((u * v) % p))) (fun wq hq => ?gr4x17) ?kr4x17
  case gr4x17 => (unfold Reg.gAt; go_simp; refine Reg.quiet_enter ?_; exact (l01Inverse_any _ _ _ hf).mono fun e w2 ⟨he, hw⟩ => ⟨he, hw ▸ Below.refl _ _⟩)
  try simp only [Act.put, List.setIfInBounds_toArray, List.set_cons_zero, List.set_cons_succ]
  refine Reg.wpG_step (v := ?vr4x18) (fun wq hq => ?gr4x18) ?kr4x18
  case gr4x18 => (have q0 := keepC hq s60; have q1 := keepC hq s61; have q2 := keepC hq s70; have q3 := keepC hq s71; refine Reg.gAt_val ?_; go_simp; first | done | (with_reducible rfl) | rfl)
  try simp only [Act.put, List.setIfInBounds_toArray, List.set_cons_zero, List.set_cons_succ]
  refine Reg.wpG_step (v := ?vr4x19) (fun wq hq => ?gr4x19) ?kr4x19
  case gr4x19 => (have q0 := keepC hq s60; have q1 := keepC hq s61; have q2 := keepC hq s70; have q3 := keepC hq s71; refine Reg.gAt_val ?_; go_simp; first | done | (with_reducible rfl) | rfl)
  try simp only [Act.put, List.setIfInBounds_toArray, List.set_cons_zero, List.set_cons_succ]
  refine Reg.wpG_step (v := ?vr4x20) (fun wq hq => ?gr4x20) ?kr4x20
  case gr4x20 => (have q0 := keepC hq s60; have q1 := keepC hq s61; have q2 := keepC hq s70; have q3 := keepC hq s71; refine Reg.gAt_val ?_; go_simp; first | done | (with_reducible rfl) | rfl)
  try simp only [Act.put, List.setIfInBounds_toArray, List.set_cons_zero, List.set_cons_succ]
  intro w2 g hB2 hg hd
  clear hg hd
  change wpList _ _ _ _ (Reg.putPtrs _ g [] _) _
  simp only [Reg.putPtrs]
  replace s60 := keepC hB2 s60
  replace s61 := keepC hB2 s61
  replace s70 := keepC hB2 s70
  replace s71 := keepC hB2 s71
  replace hB := below_of hB hB2 hB.size
  clear hB2 
  go_wp2_with fail
  go_ret
  exact ⟨ret_int (by rw [← hN, ← hU, ← hV]; exact Pl.cross_spec _ _ _), hB⟩
theorem spread_any (p k la lb lc ma mb mc : Int) (w : World) (hf : Pl.fieldB p = true) (la1 : 0 ≤ la) (la2 : la ≤ 31) (lb1 : 0 ≤ lb) (lb2 : lb ≤ 31) (lc1 : 0 ≤ lc) (lc2 : lc ≤ 31) (ma1 : 0 ≤ ma) (ma2 : ma ≤ 31) (mb1 : 0 ≤ mb) (mb2 : mb ≤ 31) (mc1 : 0 ≤ mc) (mc2 : mc ≤ 31) :
    Calls Try.prog 64 #[.int .i64 p, .int .i64 k, .agg #[.int .i64 la, .int .i64 lb, .int .i64 lc], .agg #[.int .i64 ma, .int .i64 mb, .int .i64 mc]] w fun e w' => e = .returned (.int .i64 (Pl.spread p k la lb ma mb)) ∧ Below w.heap.size w w' := by
  have hp := Pl.field_bd hf
  obtain ⟨hp1, hp2⟩ := hp
  have hc := Pl.cross_bd (p := p) (k := k) (la := la) (lb := lb) (ma := ma) (mb := mb) (by omega)
  obtain ⟨hc1, hc2⟩ := hc
  go_enter Try.func64, Try.ntmps64
  go_wp2_with fail
  generalize hW : (World.alloc (World.alloc w (.cells #[.int .i64 la, .int .i64 lb, .int .i64 lc] 25)) (.cells #[.int .i64 ma, .int .i64 mb, .int .i64 mc] 25)) = W
  have d00 : W.cell? ⟨w.heap.size, 0, none⟩ = some (.int .i64 la) := by subst hW; go_simp
  have d01 : W.cell? ⟨w.heap.size, 1, none⟩ = some (.int .i64 lb) := by subst hW; go_simp
  have d02 : W.cell? ⟨w.heap.size, 2, none⟩ = some (.int .i64 lc) := by subst hW; go_simp
  have d10 : W.cell? ⟨w.heap.size + 1, 0, none⟩ = some (.int .i64 ma) := by subst hW; go_simp
  have d11 : W.cell? ⟨w.heap.size + 1, 1, none⟩ = some (.int .i64 mb) := by subst hW; go_simp
  have d12 : W.cell? ⟨w.heap.size + 1, 2, none⟩ = some (.int .i64 mc) := by subst hW; go_simp
  have hB : Below w.heap.size w W := by subst hW; go_grown
  clear hW
  go_wp2_with (first | (go_at_call 67; refine (cross_any _ _ _ _ _ _ _ _ _ hf (by omega) (by omega) (by omega) (by omega) (by omega) (by omega) (by omega) (by omega) (by omega) (by omega) (by omega) (by omega)).mono ?_; rintro e w' ⟨rfl, hbn⟩; replace hB := below_of (B := w.heap.size) (a := w) (by first | exact hB | (have := hB.size; go_grown)) hbn (by first | exact hB.size | (have := hB.size; simp <;> omega)); clear hbn) | (go_at_call 70; refine (rest_any _ _ _ (by omega) (by omega)).mono ?_; rintro e w' ⟨rfl, rfl⟩))
  go_ret
  exact ⟨rfl, by first | exact hB | go_grown⟩
theorem l03Spread_any (p k la lb lc ma mb mc : Int) (w : World) (hf : Pl.fieldB p = true) (la1 : 0 ≤ la) (la2 : la ≤ 31) (lb1 : 0 ≤ lb) (lb2 : lb ≤ 31) (lc1 : 0 ≤ lc) (lc2 : lc ≤ 31) (ma1 : 0 ≤ ma) (ma2 : ma ≤ 31) (mb1 : 0 ≤ mb) (mb2 : mb ≤ 31) (mc1 : 0 ≤ mc) (mc2 : mc ≤ 31) :
    Calls Try.prog 66 #[.int .i64 p, .int .i64 k, .agg #[.int .i64 la, .int .i64 lb, .int .i64 lc], .agg #[.int .i64 ma, .int .i64 mb, .int .i64 mc]] w fun e w' => e = .returned (.int .i64 (Pl.spread p k la lb ma mb)) ∧ Below w.heap.size w w' := by
  have hp := Pl.field_bd hf
  obtain ⟨hp1, hp2⟩ := hp
  have hc := Pl.cross_bd (p := p) (k := k) (la := la) (lb := lb) (ma := ma) (mb := mb) (by omega)
  obtain ⟨hc1, hc2⟩ := hc
  go_enter Try.func66, Try.ntmps66
  go_wp2_with fail
  generalize hW : (World.alloc (World.alloc w (.cells #[.int .i64 la, .int .i64 lb, .int .i64 lc] 25)) (.cells #[.int .i64 ma, .int .i64 mb, .int .i64 mc] 25)) = W
  have d00 : W.cell? ⟨w.heap.size, 0, none⟩ = some (.int .i64 la) := by subst hW; go_simp
  have d01 : W.cell? ⟨w.heap.size, 1, none⟩ = some (.int .i64 lb) := by subst hW; go_simp
  have d02 : W.cell? ⟨w.heap.size, 2, none⟩ = some (.int .i64 lc) := by subst hW; go_simp
  have d10 : W.cell? ⟨w.heap.size + 1, 0, none⟩ = some (.int .i64 ma) := by subst hW; go_simp
  have d11 : W.cell? ⟨w.heap.size + 1, 1, none⟩ = some (.int .i64 mb) := by subst hW; go_simp
  have d12 : W.cell? ⟨w.heap.size + 1, 2, none⟩ = some (.int .i64 mc) := by subst hW; go_simp
  have hB : Below w.heap.size w W := by subst hW; go_grown
  clear hW
  go_wp2_with (first | (go_at_call 68; refine (l03Cross_any _ _ _ _ _ _ _ _ _ hf (by omega) (by omega) (by omega) (by omega) (by omega) (by omega) (by omega) (by omega) (by omega) (by omega) (by omega) (by omega)).mono ?_; rintro e w' ⟨rfl, hbn⟩; replace hB := below_of (B := w.heap.size) (a := w) (by first | exact hB | (have := hB.size; go_grown)) hbn (by first | exact hB.size | (have := hB.size; simp <;> omega)); clear hbn) | (go_at_call 71; refine (l01Mod_any _ _ _ (by omega) (by omega)).mono ?_; rintro e w' ⟨rfl, rfl⟩))
  go_ret
  exact ⟨rfl, by first | exact hB | go_grown⟩
end Go.Proofs.Ytbjcbbnfgfmllaa
