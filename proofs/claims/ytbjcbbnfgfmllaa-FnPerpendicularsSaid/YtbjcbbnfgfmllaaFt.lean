/- Contracts: feet of points: both sides. -/
import Derived.Test.YtbjcbbnfgfmllaaSx
import Derived.Test.YtbjcbbnfgfmllaaN
import Derived.Test.YtbjcbbnfgfmllaaPlA
set_option linter.unusedVariables false
set_option linter.unusedSimpArgs false
set_option maxHeartbeats 1000000
set_option maxRecDepth 100000
namespace Go.Proofs.Ytbjcbbnfgfmllaa
open Go.RowKit
theorem foot_any (p k ax ay la lb lc : Int) (w : World) (hf : Pl.fieldB p = true) (hk : Pl.colB k = true) (hl : la = 1 ∨ la = 0 ∧ lb = 1) (la1 : 0 ≤ la) (la2 : la < p) (lb1 : 0 ≤ lb) (lb2 : lb < p) (lc1 : 0 ≤ lc) (lc2 : lc < p) (ax1 : 0 ≤ ax) (ax2 : ax < p) (ay1 : 0 ≤ ay) (ay2 : ay < p) :
    Calls Try.prog 138 #[.int .i64 p, .int .i64 k, .agg #[.int .i64 ax, .int .i64 ay], .agg #[.int .i64 la, .int .i64 lb, .int .i64 lc]] w fun e w' => e = .returned (.agg #[.int .i64 (Pl.footX p k ax ay la lb lc), .int .i64 (Pl.footY p k ax ay la lb lc)]) ∧ Below w.heap.size w w' := by
  have hp := Pl.field_bd hf
  obtain ⟨hp1, hp2⟩ := hp
  have hpb := hid (Pl.perp_bd hf hk hl lb1 lb2)
  have hma : 0 ≤ Pl.perpMa p k la lb ∧ Pl.perpMa p k la lb ≤ 31 := by have := hpb.out.1; omega
  have hmb := hpb.out.2
  have hmc := Pl.perpMc_bd (p := p) (k := k) (la := la) (lb := lb) (ax := ax) (ay := ay) (by omega)
  obtain ⟨hma1, hma2⟩ := hma
  obtain ⟨hmb1, hmb2⟩ := hmb
  obtain ⟨hmc1, hmc2⟩ := hmc
  have HK := hid hk
  have HLL := hid hl
  clear hk hl
  go_enter Try.func138, Try.ntmps138
  go_wp2_with fail
  generalize hW : (World.alloc (World.alloc (World.alloc w (.cells #[.int .i64 ax, .int .i64 ay] 33)) (.cells #[.int .i64 la, .int .i64 lb, .int .i64 lc] 25)) (.cells #[.int .i64 0, .int .i64 0] 33)) = W
  have d00 : W.cell? ⟨w.heap.size, 0, none⟩ = some (.int .i64 ax) := by subst hW; go_simp
  have d01 : W.cell? ⟨w.heap.size, 1, none⟩ = some (.int .i64 ay) := by subst hW; go_simp
  have d10 : W.cell? ⟨w.heap.size + 1, 0, none⟩ = some (.int .i64 la) := by subst hW; go_simp
  have d11 : W.cell? ⟨w.heap.size + 1, 1, none⟩ = some (.int .i64 lb) := by subst hW; go_simp
  have d12 : W.cell? ⟨w.heap.size + 1, 2, none⟩ = some (.int .i64 lc) := by subst hW; go_simp
  have z0 : W.cell? ⟨w.heap.size + 1 + 1, 0, none⟩ = some (.int .i64 0) := by subst hW; go_simp
  have y0 : W.frozen? ⟨w.heap.size + 1 + 1, 0, none⟩ = false := by subst hW; go_simp
  have z1 : W.cell? ⟨w.heap.size + 1 + 1, 1, none⟩ = some (.int .i64 0) := by subst hW; go_simp
  have y1 : W.frozen? ⟨w.heap.size + 1 + 1, 1, none⟩ = false := by subst hW; go_simp
  have hgw0 : w.heap.size ≤ w.heap.size + 1 + 1 := by omega
  have hB : Below w.heap.size w W := by subst hW; go_grown
  clear hW
  generalize hgr : w.heap.size + 1 + 1 = r at *
  clear hgr
  refine Reg.wp_region_grow (by kernel_rfl) 8 8 (fun _ => (#[.int .i64 0, .int .i64 0], 0)) (by kernel_rfl) ?_ ?_
  · intro k o h1 h2
    omega
  simp only [List.take_succ_cons, List.take_zero, List.drop_succ_cons, List.drop_zero]
  refine Reg.wpG_step (v := ?vr1x0) (fun wq hq => ?gr1x0) ?kr1x0
  case gr1x0 => (have q0 := keepC hq d00; have q1 := keepC hq d01; have q2 := keepC hq d10; have q3 := keepC hq d11; have q4 := keepC hq d12; have q7 := keepC hq z0; have q8 := keepC hq z1; refine Reg.gAt_val ?_; go_simp; first | done | (with_reducible rfl) | rfl)
  try simp only [Act.put, List.setIfInBounds_toArray, List.set_cons_zero, List.set_cons_succ]
  refine Reg.wpG_step (v := ?vr1x1) (fun wq hq => ?gr1x1) ?kr1x1
  case gr1x1 => (have q0 := keepC hq d00; have q1 := keepC hq d01; have q2 := keepC hq d10; have q3 := keepC hq d11; have q4 := keepC hq d12; have q7 := keepC hq z0; have q8 := keepC hq z1; refine Reg.gAt_val ?_; go_simp; first | done | (with_reducible rfl) | rfl)
  try simp only [Act.put, List.setIfInBounds_toArray, List.set_cons_zero, List.set_cons_succ]
  refine Reg.wpG_step (v := ?vr1x2) (fun wq hq => ?gr1x2) ?kr1x2
  case gr1x2 => (have q0 := keepC hq d00; have q1 := keepC hq d01; have q2 := keepC hq d10; have q3 := keepC hq d11; have q4 := keepC hq d12; have q7 := keepC hq z0; have q8 := keepC hq z1; refine Reg.gAt_val ?_; go_simp; first | done | (with_reducible rfl) | rfl)
  try simp only [Act.put, List.setIfInBounds_toArray, List.set_cons_zero, List.set_cons_succ]
  refine Reg.wpG_step (v := ?vr1x3) (fun wq hq => ?gr1x3) ?kr1x3
  case gr1x3 => (have q0 := keepC hq d00; have q1 := keepC hq d01; have q2 := keepC hq d10; have q3 := keepC hq d11; have q4 := keepC hq d12; have q7 := keepC hq z0; have q8 := keepC hq z1; refine Reg.gAt_val ?_; go_simp; first | done | (with_reducible rfl) | rfl)
  try simp only [Act.put, List.setIfInBounds_toArray, List.set_cons_zero, List.set_cons_succ]
  refine Reg.wpG_step (v := ?vr1x4) (fun wq hq => ?gr1x4) ?kr1x4
  case gr1x4 => (have q0 := keepC hq d00; have q1 := keepC hq d01; have q2 := keepC hq d10; have q3 := keepC hq d11; have q4 := keepC hq d12; have q7 := keepC hq z0; have q8 := keepC hq z1; refine Reg.gAt_val ?_; go_simp; first | done | (with_reducible rfl) | rfl)
  try simp only [Act.put, List.setIfInBounds_toArray, List.set_cons_zero, List.set_cons_succ]
  refine Reg.wpG_step (v := ?vr1x5) (fun wq hq => ?gr1x5) ?kr1x5
  case gr1x5 => (have q0 := keepC hq d00; have q1 := keepC hq d01; have q2 := keepC hq d10; have q3 := keepC hq d11; have q4 := keepC hq d12; have q7 := keepC hq z0; have q8 := keepC hq z1; refine Reg.gAt_val ?_; go_simp; first | done | (with_reducible rfl) | rfl)
  try simp only [Act.put, List.setIfInBounds_toArray, List.set_cons_zero, List.set_cons_succ]
  refine Reg.wpG_step (v := .agg #[.int .i64 (Pl.perpMa p k la lb), .int .i64 (Pl.perpMb p k la lb), .int .i64 (Pl.perpMc p k la lb ax ay)]) (fun wq hq => ?gr1x6) ?kr1x6
  case gr1x6 => (unfold Reg.gAt; go_simp; refine Reg.quiet_enter ?_; exact perpendicular_any _ _ _ _ _ _ _ _ hf HK.out HLL.out (by omega) (by omega) (by omega) (by omega) (by omega) (by omega) (by omega) (by omega) (by omega) (by omega))
  try simp only [Act.put, List.setIfInBounds_toArray, List.set_cons_zero, List.set_cons_succ]
  refine Reg.wpG_step (v := .agg #[.int .i64 (Pl.footX p k ax ay la lb lc), .int .i64 (Pl.footY p k ax ay la lb lc)]) (fun wq hq => ?gr1x7) ?kr1x7
  case gr1x7 => (unfold Reg.gAt; go_simp; refine Reg.quiet_enter ?_; exact meet_any _ _ _ _ _ _ _ _ hf (by omega) (by omega) (by omega) (by omega) (by omega) (by omega) (by omega) (by omega) (by omega) (by omega) (by omega) (by omega))
  try simp only [Act.put, List.setIfInBounds_toArray, List.set_cons_zero, List.set_cons_succ]
  intro w2 g hB2 hg hd
  clear hg hd
  change wpList _ _ _ _ (Reg.putPtrs _ g [] _) _
  simp only [Reg.putPtrs]
  replace d00 := keepC hB2 d00
  replace d01 := keepC hB2 d01
  replace d10 := keepC hB2 d10
  replace d11 := keepC hB2 d11
  replace d12 := keepC hB2 d12
  replace y0 := keepF hB2 z0 y0
  replace y1 := keepF hB2 z1 y1
  replace z0 := keepC hB2 z0
  replace z1 := keepC hB2 z1
  replace hB := below_of hB hB2 hB.size
  clear hB2 
  go_wp2_with fail
  try simp only [Exit.inBlock, Exit.then]
  refine bodyPost_ret (by simp [results, Try.results138, go_sem, y0, y1, z0, z1]; try rfl) rfl ?_
  exact ⟨rfl, by go_grown⟩
theorem l02Foot_any (p k ax ay la lb lc : Int) (w : World) (hf : Pl.fieldB p = true) (hk : Pl.colB k = true) (hl : la = 1 ∨ la = 0 ∧ lb = 1) (la1 : 0 ≤ la) (la2 : la < p) (lb1 : 0 ≤ lb) (lb2 : lb < p) (lc1 : 0 ≤ lc) (lc2 : lc < p) (ax1 : 0 ≤ ax) (ax2 : ax < p) (ay1 : 0 ≤ ay) (ay2 : ay < p) (hn : Pl.nullB p k la lb = false) :
    Calls Try.prog 139 #[.int .i64 p, .int .i64 k, .agg #[.int .i64 ax, .int .i64 ay], .agg #[.int .i64 la, .int .i64 lb, .int .i64 lc]] w fun e w' => e = .returned (.tuple #[.agg #[.int .i64 (Pl.footX p k ax ay la lb lc), .int .i64 (Pl.footY p k ax ay la lb lc)], .bool true]) ∧ Below w.heap.size w w' := by
  have hp := Pl.field_bd hf
  obtain ⟨hp1, hp2⟩ := hp
  have hpb := hid (Pl.perp_bd hf hk hl lb1 lb2)
  have hma : 0 ≤ Pl.perpMa p k la lb ∧ Pl.perpMa p k la lb ≤ 31 := by have := hpb.out.1; omega
  have hmb := hpb.out.2
  have hmc := Pl.perpMc_bd (p := p) (k := k) (la := la) (lb := lb) (ax := ax) (ay := ay) (by omega)
  obtain ⟨hma1, hma2⟩ := hma
  obtain ⟨hmb1, hmb2⟩ := hmb
  obtain ⟨hmc1, hmc2⟩ := hmc
  have r0n := Int.emod_nonneg (-lb) (show p ≠ 0 by omega)
  have r0l := Int.emod_lt_of_pos (-lb) (show 0 < p by omega)
  have hpar := Pl.perp_par hf hk hl lb1 lb2 hn
  have HK := hid hk
  have HLL := hid hl
  have HN := hid hn
  clear hk hl hn
  go_enter Try.func139, Try.ntmps139
  go_wp2_with fail
  generalize hW : (World.alloc (World.alloc (World.alloc w (.cells #[.int .i64 ax, .int .i64 ay] 33)) (.cells #[.int .i64 la, .int .i64 lb, .int .i64 lc] 25)) (.cells #[.int .i64 0, .int .i64 0] 33)) = W
  have d00 : W.cell? ⟨w.heap.size, 0, none⟩ = some (.int .i64 ax) := by subst hW; go_simp
  have d01 : W.cell? ⟨w.heap.size, 1, none⟩ = some (.int .i64 ay) := by subst hW; go_simp
  have d10 : W.cell? ⟨w.heap.size + 1, 0, none⟩ = some (.int .i64 la) := by subst hW; go_simp
  have d11 : W.cell? ⟨w.heap.size + 1, 1, none⟩ = some (.int .i64 lb) := by subst hW; go_simp
  have d12 : W.cell? ⟨w.heap.size + 1, 2, none⟩ = some (.int .i64 lc) := by subst hW; go_simp
  have z0 : W.cell? ⟨w.heap.size + 1 + 1, 0, none⟩ = some (.int .i64 0) := by subst hW; go_simp
  have y0 : W.frozen? ⟨w.heap.size + 1 + 1, 0, none⟩ = false := by subst hW; go_simp
  have z1 : W.cell? ⟨w.heap.size + 1 + 1, 1, none⟩ = some (.int .i64 0) := by subst hW; go_simp
  have y1 : W.frozen? ⟨w.heap.size + 1 + 1, 1, none⟩ = false := by subst hW; go_simp
  have hgw0 : w.heap.size ≤ w.heap.size + 1 + 1 := by omega
  have hB : Below w.heap.size w W := by subst hW; go_grown
  clear hW
  generalize hgr : w.heap.size + 1 + 1 = r at *
  clear hgr
  refine Reg.wp_region_grow (by kernel_rfl) 12 12 (fun _ => (#[.int .i64 0, .int .i64 0], 0)) (by kernel_rfl) ?_ ?_
  · intro k o h1 h2
    omega
  simp only [List.take_succ_cons, List.take_zero, List.drop_succ_cons, List.drop_zero]
  refine Reg.wpG_step (v := ?vr2x0) (fun wq hq => ?gr2x0) ?kr2x0
  case gr2x0 => (have q0 := keepC hq d00; have q1 := keepC hq d01; have q2 := keepC hq d10; have q3 := keepC hq d11; have q4 := keepC hq d12; have q7 := keepC hq z0; have q8 := keepC hq z1; refine Reg.gAt_val ?_; go_simp; first | done | (with_reducible rfl) | rfl)
  try simp only [Act.put, List.setIfInBounds_toArray, List.set_cons_zero, List.set_cons_succ]
  refine Reg.wpG_step (v := ?vr2x1) (fun wq hq => ?gr2x1) ?kr2x1
  case gr2x1 => (have q0 := keepC hq d00; have q1 := keepC hq d01; have q2 := keepC hq d10; have q3 := keepC hq d11; have q4 := keepC hq d12; have q7 := keepC hq z0; have q8 := keepC hq z1; refine Reg.gAt_val ?_; go_simp; first | done | (with_reducible rfl) | rfl)
  try simp only [Act.put, List.setIfInBounds_toArray, List.set_cons_zero, List.set_cons_succ]
  refine Reg.wpG_step (v := ?vr2x2) (fun wq hq => ?gr2x2) ?kr2x2
  case gr2x2 => (have q0 := keepC hq d00; have q1 := keepC hq d01; have q2 := keepC hq d10; have q3 := keepC hq d11; have q4 := keepC hq d12; have q7 := keepC hq z0; have q8 := keepC hq z1; refine Reg.gAt_val ?_; go_simp; first | done | (with_reducible rfl) | rfl)
  try simp only [Act.put, List.setIfInBounds_toArray, List.set_cons_zero, List.set_cons_succ]
  refine Reg.wpG_step (v := ?vr2x3) (fun wq hq => ?gr2x3) ?kr2x3
  case gr2x3 => (have q0 := keepC hq d00; have q1 := keepC hq d01; have q2 := keepC hq d10; have q3 := keepC hq d11; have q4 := keepC hq d12; have q7 := keepC hq z0; have q8 := keepC hq z1; refine Reg.gAt_val ?_; go_simp; first | done | (with_reducible rfl) | rfl)
  try simp only [Act.put, List.setIfInBounds_toArray, List.set_cons_zero, List.set_cons_succ]
  refine Reg.wpG_step (v := ?vr2x4) (fun wq hq => ?gr2x4) ?kr2x4
  case gr2x4 => (have q0 := keepC hq d00; have q1 := keepC hq d01; have q2 := keepC hq d10; have q3 := keepC hq d11; have q4 := keepC hq d12; have q7 := keepC hq z0; have q8 := keepC hq z1; refine Reg.gAt_val ?_; go_simp; first | done | (with_reducible rfl) | rfl)
  try simp only [Act.put, List.setIfInBounds_toArray, List.set_cons_zero, List.set_cons_succ]
  refine Reg.wpG_step (v := ?vr2x5) (fun wq hq => ?gr2x5) ?kr2x5
  case gr2x5 => (have q0 := keepC hq d00; have q1 := keepC hq d01; have q2 := keepC hq d10; have q3 := keepC hq d11; have q4 := keepC hq d12; have q7 := keepC hq z0; have q8 := keepC hq z1; refine Reg.gAt_val ?_; go_simp; first | done | (with_reducible rfl) | rfl)
  try simp only [Act.put, List.setIfInBounds_toArray, List.set_cons_zero, List.set_cons_succ]
  refine Reg.wpG_step (v := .agg #[.int .i64 ((-lb) % p), .int .i64 la]) (fun wq hq => ?gr2x6) ?kr2x6
  case gr2x6 => (unfold Reg.gAt; go_simp; refine Reg.quiet_enter ?_; exact l02Direction_any _ _ _ _ _ (by omega) (by omega) (by omega) (by omega) (by omega) (by omega) (by omega) (by omega))
  try simp only [Act.put, List.setIfInBounds_toArray, List.set_cons_zero, List.set_cons_succ]
  refine Reg.wpG_step (v := ?vr2x7) (fun wq hq => ?gr2x7) ?kr2x7
  case gr2x7 => (have q0 := keepC hq d00; have q1 := keepC hq d01; have q2 := keepC hq d10; have q3 := keepC hq d11; have q4 := keepC hq d12; have q7 := keepC hq z0; have q8 := keepC hq z1; refine Reg.gAt_val ?_; go_simp; first | done | (with_reducible rfl) | rfl)
  try simp only [Act.put, List.setIfInBounds_toArray, List.set_cons_zero, List.set_cons_succ]
  refine Reg.wpG_step (v := .agg #[.int .i64 (Pl.perpMa p k la lb), .int .i64 (Pl.perpMb p k la lb), .int .i64 (Pl.perpMc p k la lb ax ay)]) (fun wq hq => ?gr2x8) ?kr2x8
  case gr2x8 => (unfold Reg.gAt; go_simp; refine Reg.quiet_enter ?_; exact l02Through_any _ _ _ _ _ _ _ hf HK.out HLL.out (by omega) (by omega) (by omega) (by omega) (by omega) (by omega) (by omega) (by omega))
  try simp only [Act.put, List.setIfInBounds_toArray, List.set_cons_zero, List.set_cons_succ]
  refine Reg.wpG_step (v := .tuple #[.agg #[.int .i64 (Pl.footX p k ax ay la lb lc), .int .i64 (Pl.footY p k ax ay la lb lc)], .bool true]) (fun wq hq => ?gr2x9) ?kr2x9
  case gr2x9 => (unfold Reg.gAt; go_simp; refine Reg.quiet_enter ?_; exact l01Meet_n _ _ _ _ _ _ _ _ hf (by omega) (by omega) (by omega) (by omega) (by omega) (by omega) (by omega) (by omega) (by omega) (by omega) (by omega) (by omega) hpar)
  try simp only [Act.put, List.setIfInBounds_toArray, List.set_cons_zero, List.set_cons_succ]
  refine Reg.wpG_step (v := ?vr2x10) (fun wq hq => ?gr2x10) ?kr2x10
  case gr2x10 => (have q0 := keepC hq d00; have q1 := keepC hq d01; have q2 := keepC hq d10; have q3 := keepC hq d11; have q4 := keepC hq d12; have q7 := keepC hq z0; have q8 := keepC hq z1; refine Reg.gAt_val ?_; go_simp; first | done | (with_reducible rfl) | rfl)
  try simp only [Act.put, List.setIfInBounds_toArray, List.set_cons_zero, List.set_cons_succ]
  refine Reg.wpG_step (v := ?vr2x11) (fun wq hq => ?gr2x11) ?kr2x11
  case gr2x11 => (have q0 := keepC hq d00; have q1 := keepC hq d01; have q2 := keepC hq d10; have q3 := keepC hq d11; have q4 := keepC hq d12; have q7 := keepC hq z0; have q8 := keepC hq z1; refine Reg.gAt_val ?_; go_simp; first | done | (with_reducible rfl) | rfl)
  try simp only [Act.put, List.setIfInBounds_toArray, List.set_cons_zero, List.set_cons_succ]
  intro w2 g hB2 hg hd
  clear hg hd
  change wpList _ _ _ _ (Reg.putPtrs _ g [] _) _
  simp only [Reg.putPtrs]
  replace d00 := keepC hB2 d00
  replace d01 := keepC hB2 d01
  replace d10 := keepC hB2 d10
  replace d11 := keepC hB2 d11
  replace d12 := keepC hB2 d12
  replace y0 := keepF hB2 z0 y0
  replace y1 := keepF hB2 z1 y1
  replace z0 := keepC hB2 z0
  replace z1 := keepC hB2 z1
  replace hB := below_of hB hB2 hB.size
  clear hB2 
  go_wp2_with fail
  try simp only [Exit.inBlock, Exit.then]
  refine bodyPost_ret (by simp [results, Try.results139, go_sem, y0, y1, z0, z1]; try rfl) rfl ?_
  exact ⟨rfl, by go_grown⟩
theorem FootOf1_any (p k ax ay la lb lc : Int) (b0 b1 b2 b3 : Nat) (w : World) (c00 : w.cell? ⟨b0, 0, none⟩ = some (.int .i64 p)) (c10 : w.cell? ⟨b1, 0, none⟩ = some (.int .i64 k)) (c20 : w.cell? ⟨b2, 0, none⟩ = some (.int .i64 ax)) (c21 : w.cell? ⟨b2, 1, none⟩ = some (.int .i64 ay)) (c30 : w.cell? ⟨b3, 0, none⟩ = some (.int .i64 la)) (c31 : w.cell? ⟨b3, 1, none⟩ = some (.int .i64 lb)) (c32 : w.cell? ⟨b3, 2, none⟩ = some (.int .i64 lc)) :
    Calls Try.prog 137 #[.pointer (some ⟨b1, 0, none⟩), .pointer (some ⟨b0, 0, none⟩), .pointer (some ⟨b2, 0, none⟩), .pointer (some ⟨b3, 0, none⟩)] w fun e w' => e = .returned (.bool (Pl.colB k && Pl.ptB p ax ay && Pl.lineB p la lb lc)) ∧ Below w.heap.size w w' := by
  cases hk : Pl.colB k with
  | false =>
    have hB := Below.refl w.heap.size w
    go_enter Try.func137, Try.ntmps137
    go_wp2_with (first | (go_at_call 75; refine (isColour_any _ _).mono ?_; rintro e w' ⟨rfl, rfl⟩) | (go_at_call 123; refine (isLine_any _ _ _ _ _).mono ?_; rintro e w' ⟨rfl, hbn⟩; replace c00 := keepC hbn c00; replace c10 := keepC hbn c10; replace c20 := keepC hbn c20; replace c21 := keepC hbn c21; replace c30 := keepC hbn c30; replace c31 := keepC hbn c31; replace c32 := keepC hbn c32; replace hB := below_of hB hbn hB.size; clear hbn) | (go_at_call 112; refine (isPoint_any _ _ _ _).mono ?_; rintro e w' ⟨rfl, hbn⟩; replace c00 := keepC hbn c00; replace c10 := keepC hbn c10; replace c20 := keepC hbn c20; replace c21 := keepC hbn c21; replace c30 := keepC hbn c30; replace c31 := keepC hbn c31; replace c32 := keepC hbn c32; replace hB := below_of hB hbn hB.size; clear hbn))
    go_ret
    exact ⟨rfl, hB⟩
  | true =>
    cases h2 : Pl.ptB p ax ay with
    | false =>
      have hB := Below.refl w.heap.size w
      go_enter Try.func137, Try.ntmps137
      go_wp2_with (first | (go_at_call 75; refine (isColour_any _ _).mono ?_; rintro e w' ⟨rfl, rfl⟩) | (go_at_call 123; refine (isLine_any _ _ _ _ _).mono ?_; rintro e w' ⟨rfl, hbn⟩; replace c00 := keepC hbn c00; replace c10 := keepC hbn c10; replace c20 := keepC hbn c20; replace c21 := keepC hbn c21; replace c30 := keepC hbn c30; replace c31 := keepC hbn c31; replace c32 := keepC hbn c32; replace hB := below_of hB hbn hB.size; clear hbn) | (go_at_call 112; refine (isPoint_any _ _ _ _).mono ?_; rintro e w' ⟨rfl, hbn⟩; replace c00 := keepC hbn c00; replace c10 := keepC hbn c10; replace c20 := keepC hbn c20; replace c21 := keepC hbn c21; replace c30 := keepC hbn c30; replace c31 := keepC hbn c31; replace c32 := keepC hbn c32; replace hB := below_of hB hbn hB.size; clear hbn))
      go_ret
      exact ⟨rfl, hB⟩
    | true =>
      have hB := Below.refl w.heap.size w
      go_enter Try.func137, Try.ntmps137
      go_wp2_with (first | (go_at_call 75; refine (isColour_any _ _).mono ?_; rintro e w' ⟨rfl, rfl⟩) | (go_at_call 123; refine (isLine_any _ _ _ _ _).mono ?_; rintro e w' ⟨rfl, hbn⟩; replace c00 := keepC hbn c00; replace c10 := keepC hbn c10; replace c20 := keepC hbn c20; replace c21 := keepC hbn c21; replace c30 := keepC hbn c30; replace c31 := keepC hbn c31; replace c32 := keepC hbn c32; replace hB := below_of hB hbn hB.size; clear hbn) | (go_at_call 112; refine (isPoint_any _ _ _ _).mono ?_; rintro e w' ⟨rfl, hbn⟩; replace c00 := keepC hbn c00; replace c10 := keepC hbn c10; replace c20 := keepC hbn c20; replace c21 := keepC hbn c21; replace c30 := keepC hbn c30; replace c31 := keepC hbn c31; replace c32 := keepC hbn c32; replace hB := below_of hB hbn hB.size; clear hbn))
      go_ret
      exact ⟨rfl, hB⟩
theorem FootOf_any (p k ax ay la lb lc : Int) (w : World) :
    Calls Try.prog 59 #[.int .i64 p, .int .i64 k, .agg #[.int .i64 ax, .int .i64 ay], .agg #[.int .i64 la, .int .i64 lb, .int .i64 lc]] w fun e w' => e = .returned (.tuple #[.agg #[.int .i64 ((Pl.footOf p k ax ay la lb lc).1.1), .int .i64 ((Pl.footOf p k ax ay la lb lc).1.2)], .int .i64 ((Pl.footOf p k ax ay la lb lc).2)]) ∧ Below w.heap.size w w' := by
  by_cases h0 : Pl.ask p (Pl.colB k && Pl.ptB p ax ay && Pl.lineB p la lb lc) = 0
  · have hfin : Hid (Pl.footOf p k ax ay la lb lc = (if Pl.nullB p k la lb = true then ((0, 0), 5) else ((Pl.footX p k ax ay la lb lc, Pl.footY p k ax ay la lb lc), 0))) := by unfold Hid Pl.footOf; rw [if_pos h0]
    have hv : Hid (Pl.fieldB p = true ∧ (Pl.colB k && Pl.ptB p ax ay && Pl.lineB p la lb lc) = true) := Pl.ask_ok h0
    have hp := Pl.field_bd hv.out.1
    obtain ⟨hp1, hp2⟩ := hp
    have hv2 := hv.out.2
    simp only [Bool.and_eq_true] at hv2
    obtain ⟨la1, la2, lb1, lb2, lc1, lc2, hl⟩ := Pl.lineB_bd hv2.2
    obtain ⟨ax1, ax2, ay1, ay2⟩ := Pl.ptB_bd hv2.1.2
    have hk := hid hv2.1.1
    have HLL := hid hl
    clear hv2 hl
    have hf := hv.out.1
    go_enter Try.func59, Try.ntmps59
    go_wp2_with fail
    refine (asked_any p _ _ (Pl.colB k && Pl.ptB p ax ay && Pl.lineB p la lb lc) _ (by kernel_rfl) ?_).mono ?_
    · intro _
      exact FootOf1_any p k ax ay la lb lc _ _ _ _ _ (by go_simp) (by go_simp) (by go_simp) (by go_simp) (by go_simp) (by go_simp) (by go_simp)
    · rintro e w1 ⟨rfl, hb⟩
      have c00 : w1.cell? ⟨w.heap.size, 0, none⟩ = some (.int .i64 p) := cellOf hb (by go_simp) (by simp <;> omega)
      have c10 : w1.cell? ⟨w.heap.size + 1, 0, none⟩ = some (.int .i64 k) := cellOf hb (by go_simp) (by simp <;> omega)
      have c20 : w1.cell? ⟨w.heap.size + 2, 0, none⟩ = some (.int .i64 ax) := cellOf hb (by go_simp) (by simp <;> omega)
      have c21 : w1.cell? ⟨w.heap.size + 2, 1, none⟩ = some (.int .i64 ay) := cellOf hb (by go_simp) (by simp <;> omega)
      have c30 : w1.cell? ⟨w.heap.size + 3, 0, none⟩ = some (.int .i64 la) := cellOf hb (by go_simp) (by simp <;> omega)
      have c31 : w1.cell? ⟨w.heap.size + 3, 1, none⟩ = some (.int .i64 lb) := cellOf hb (by go_simp) (by simp <;> omega)
      have c32 : w1.cell? ⟨w.heap.size + 3, 2, none⟩ = some (.int .i64 lc) := cellOf hb (by go_simp) (by simp <;> omega)
      have z0 : w1.cell? ⟨w.heap.size + 1 + 1 + 1 + 1, 0, none⟩ = some (.int .i64 0) := cellOf hb (by go_simp) (by simp <;> omega)
      have y0 : w1.frozen? ⟨w.heap.size + 1 + 1 + 1 + 1, 0, none⟩ = false := frozenOf hb (by go_simp) (by simp <;> omega)
      have z1 : w1.cell? ⟨w.heap.size + 1 + 1 + 1 + 1, 1, none⟩ = some (.int .i64 0) := cellOf hb (by go_simp) (by simp <;> omega)
      have y1 : w1.frozen? ⟨w.heap.size + 1 + 1 + 1 + 1, 1, none⟩ = false := frozenOf hb (by go_simp) (by simp <;> omega)
      have hz : w.heap.size + 4 ≤ w1.heap.size := by have := hb.size; simp at this; omega
      have hB : Below w.heap.size w w1 := below_of (by go_grown) hb (by simp <;> omega)
      clear hb
      cases hn : Pl.nullB p k la lb with
      | true =>
        have HP := hid hn
        go_wp2_with (first | (go_at_call 132; refine (isNull_any _ _ _ _ _ _ (by omega) (by omega) (by omega) (by omega) (by omega) (by omega) (by omega) (by omega)).mono ?_; rintro e w' ⟨rfl, hbn⟩; replace c00 := keepC hbn (by first | exact c00 | exact keepA _ c00 | exact keepA _ (keepA _ c00)); replace c10 := keepC hbn (by first | exact c10 | exact keepA _ c10 | exact keepA _ (keepA _ c10)); replace c20 := keepC hbn (by first | exact c20 | exact keepA _ c20 | exact keepA _ (keepA _ c20)); replace c21 := keepC hbn (by first | exact c21 | exact keepA _ c21 | exact keepA _ (keepA _ c21)); replace c30 := keepC hbn (by first | exact c30 | exact keepA _ c30 | exact keepA _ (keepA _ c30)); replace c31 := keepC hbn (by first | exact c31 | exact keepA _ c31 | exact keepA _ (keepA _ c31)); replace c32 := keepC hbn (by first | exact c32 | exact keepA _ c32 | exact keepA _ (keepA _ c32)); replace y0 := keepF hbn z0 y0; replace y1 := keepF hbn z1 y1; replace z0 := keepC hbn z0; replace z1 := keepC hbn z1; replace hB := below_of (B := w.heap.size) (a := w) (by first | exact hB | (have := hB.size; go_grown)) hbn (by first | exact hB.size | (have := hB.size; simp <;> omega)); clear hbn) | (go_at_call 138; refine (foot_any _ _ _ _ _ _ _ _ hf hk.out HLL.out (by omega) (by omega) (by omega) (by omega) (by omega) (by omega) (by omega) (by omega) (by omega) (by omega)).mono ?_; rintro e w' ⟨rfl, hbn⟩; replace c00 := keepC hbn (by first | exact c00 | exact keepA _ c00 | exact keepA _ (keepA _ c00)); replace c10 := keepC hbn (by first | exact c10 | exact keepA _ c10 | exact keepA _ (keepA _ c10)); replace c20 := keepC hbn (by first | exact c20 | exact keepA _ c20 | exact keepA _ (keepA _ c20)); replace c21 := keepC hbn (by first | exact c21 | exact keepA _ c21 | exact keepA _ (keepA _ c21)); replace c30 := keepC hbn (by first | exact c30 | exact keepA _ c30 | exact keepA _ (keepA _ c30)); replace c31 := keepC hbn (by first | exact c31 | exact keepA _ c31 | exact keepA _ (keepA _ c31)); replace c32 := keepC hbn (by first | exact c32 | exact keepA _ c32 | exact keepA _ (keepA _ c32)); replace y0 := keepF hbn z0 y0; replace y1 := keepF hbn z1 y1; replace z0 := keepC hbn z0; replace z1 := keepC hbn z1; replace hB := below_of (B := w.heap.size) (a := w) (by first | exact hB | (have := hB.size; go_grown)) hbn (by first | exact hB.size | (have := hB.size; simp <;> omega)); clear hbn))
        try simp only [Exit.inBlock, Exit.then]
        refine bodyPost_ret (by simp [results, Try.results59, go_sem, y0, y1, z0, z1]; try rfl) rfl ?_
        exact ⟨ret_pi (by rw [hfin.out, if_pos HP.out]) (by rw [hfin.out, if_pos HP.out]) (by rw [hfin.out, if_pos HP.out]), by first | exact hB | go_grown⟩
      | false =>
        have HP := hid hn
        go_wp2_with (first | (go_at_call 132; refine (isNull_any _ _ _ _ _ _ (by omega) (by omega) (by omega) (by omega) (by omega) (by omega) (by omega) (by omega)).mono ?_; rintro e w' ⟨rfl, hbn⟩; replace c00 := keepC hbn (by first | exact c00 | exact keepA _ c00 | exact keepA _ (keepA _ c00)); replace c10 := keepC hbn (by first | exact c10 | exact keepA _ c10 | exact keepA _ (keepA _ c10)); replace c20 := keepC hbn (by first | exact c20 | exact keepA _ c20 | exact keepA _ (keepA _ c20)); replace c21 := keepC hbn (by first | exact c21 | exact keepA _ c21 | exact keepA _ (keepA _ c21)); replace c30 := keepC hbn (by first | exact c30 | exact keepA _ c30 | exact keepA _ (keepA _ c30)); replace c31 := keepC hbn (by first | exact c31 | exact keepA _ c31 | exact keepA _ (keepA _ c31)); replace c32 := keepC hbn (by first | exact c32 | exact keepA _ c32 | exact keepA _ (keepA _ c32)); replace y0 := keepF hbn z0 y0; replace y1 := keepF hbn z1 y1; replace z0 := keepC hbn z0; replace z1 := keepC hbn z1; replace hB := below_of (B := w.heap.size) (a := w) (by first | exact hB | (have := hB.size; go_grown)) hbn (by first | exact hB.size | (have := hB.size; simp <;> omega)); clear hbn) | (go_at_call 138; refine (foot_any _ _ _ _ _ _ _ _ hf hk.out HLL.out (by omega) (by omega) (by omega) (by omega) (by omega) (by omega) (by omega) (by omega) (by omega) (by omega)).mono ?_; rintro e w' ⟨rfl, hbn⟩; replace c00 := keepC hbn (by first | exact c00 | exact keepA _ c00 | exact keepA _ (keepA _ c00)); replace c10 := keepC hbn (by first | exact c10 | exact keepA _ c10 | exact keepA _ (keepA _ c10)); replace c20 := keepC hbn (by first | exact c20 | exact keepA _ c20 | exact keepA _ (keepA _ c20)); replace c21 := keepC hbn (by first | exact c21 | exact keepA _ c21 | exact keepA _ (keepA _ c21)); replace c30 := keepC hbn (by first | exact c30 | exact keepA _ c30 | exact keepA _ (keepA _ c30)); replace c31 := keepC hbn (by first | exact c31 | exact keepA _ c31 | exact keepA _ (keepA _ c31)); replace c32 := keepC hbn (by first | exact c32 | exact keepA _ c32 | exact keepA _ (keepA _ c32)); replace y0 := keepF hbn z0 y0; replace y1 := keepF hbn z1 y1; replace z0 := keepC hbn z0; replace z1 := keepC hbn z1; replace hB := below_of (B := w.heap.size) (a := w) (by first | exact hB | (have := hB.size; go_grown)) hbn (by first | exact hB.size | (have := hB.size; simp <;> omega)); clear hbn))
        try simp only [Exit.inBlock, Exit.then]
        refine bodyPost_ret (by simp [results, Try.results59, go_sem, y0, y1, z0, z1]; try rfl) rfl ?_
        exact ⟨ret_pi (by rw [hfin.out, if_neg (by rw [HP.out]; decide)]) (by rw [hfin.out, if_neg (by rw [HP.out]; decide)]) (by rw [hfin.out, if_neg (by rw [HP.out]; decide)]), by first | exact hB | go_grown⟩
  · have hne : (Pl.ask p (Pl.colB k && Pl.ptB p ax ay && Pl.lineB p la lb lc) != 0) = true := by simpa using h0
    have hne2 : (Pl.ask p (Pl.colB k && Pl.ptB p ax ay && Pl.lineB p la lb lc) == 0) = false := by simpa using h0
    have hfin : Hid (Pl.footOf p k ax ay la lb lc = ((0, 0), Pl.ask p (Pl.colB k && Pl.ptB p ax ay && Pl.lineB p la lb lc))) := by unfold Hid Pl.footOf; rw [if_neg h0]
    clear h0
    go_enter Try.func59, Try.ntmps59
    go_wp2_with fail
    refine (asked_any p _ _ (Pl.colB k && Pl.ptB p ax ay && Pl.lineB p la lb lc) _ (by kernel_rfl) ?_).mono ?_
    · intro _
      exact FootOf1_any p k ax ay la lb lc _ _ _ _ _ (by go_simp) (by go_simp) (by go_simp) (by go_simp) (by go_simp) (by go_simp) (by go_simp)
    · rintro e w1 ⟨rfl, hb⟩
      have z0 : w1.cell? ⟨w.heap.size + 1 + 1 + 1 + 1, 0, none⟩ = some (.int .i64 0) := cellOf hb (by go_simp) (by simp <;> omega)
      have y0 : w1.frozen? ⟨w.heap.size + 1 + 1 + 1 + 1, 0, none⟩ = false := frozenOf hb (by go_simp) (by simp <;> omega)
      have z1 : w1.cell? ⟨w.heap.size + 1 + 1 + 1 + 1, 1, none⟩ = some (.int .i64 0) := cellOf hb (by go_simp) (by simp <;> omega)
      have y1 : w1.frozen? ⟨w.heap.size + 1 + 1 + 1 + 1, 1, none⟩ = false := frozenOf hb (by go_simp) (by simp <;> omega)
      have hB : Below w.heap.size w w1 := below_of (by go_grown) hb (by simp <;> omega)
      clear hb
      go_wp2_with fail
      try simp only [Exit.inBlock, Exit.then]
      refine bodyPost_ret (by simp [results, Try.results59, go_sem, y0, y1, z0, z1]; try rfl) rfl ?_
      exact ⟨ret_pi (by rw [hfin.out]) (by rw [hfin.out]) (by rw [hfin.out]), by go_grown⟩
theorem sFootOf_any (p k ax ay la lb lc : Int) (w : World) :
    Calls Try.prog 60 #[.int .i64 p, .int .i64 k, .agg #[.int .i64 ax, .int .i64 ay], .agg #[.int .i64 la, .int .i64 lb, .int .i64 lc]] w fun e w' => e = .returned (.tuple #[.agg #[.int .i64 ((Pl.footOf p k ax ay la lb lc).1.1), .int .i64 ((Pl.footOf p k ax ay la lb lc).1.2)], .int .i64 ((Pl.footOf p k ax ay la lb lc).2)]) ∧ Below w.heap.size w w' := by
  by_cases h1 : Pl.ask p (Pl.ptB p ax ay && Pl.lineB p la lb lc) = 0
  · have hv := Pl.ask_ok h1
    have hf := hv.1
    have hp := Pl.field_bd hf
    obtain ⟨hp1, hp2⟩ := hp
    have hv2 := hv.2
    simp only [Bool.and_eq_true] at hv2
    obtain ⟨la1, la2, lb1, lb2, lc1, lc2, hl⟩ := Pl.lineB_bd hv2.2
    obtain ⟨ax1, ax2, ay1, ay2⟩ := Pl.ptB_bd hv2.1
    have HLL := hid hl
    have hq := hid (show Pl.ask p (Pl.colB k && Pl.ptB p ax ay && Pl.lineB p la lb lc) = if Pl.colB k = true then 0 else 2 by rw [hv2.1, hv2.2, Bool.and_true, Bool.and_true]; unfold Pl.ask; rw [if_pos hf])
    clear hv hv2 hl
    have H1 := hid h1
    clear h1
    cases hkk : Pl.colB k with
    | false =>
      have hz := hid (show Pl.ask p (Pl.colB k && Pl.ptB p ax ay && Pl.lineB p la lb lc) = 2 by rw [hq.out, hkk]; rfl)
      have hfin : Hid (Pl.footOf p k ax ay la lb lc = ((0, 0), 2)) := by unfold Hid Pl.footOf; rw [hz.out]; rfl
      go_enter Try.func60, Try.ntmps60
      go_wp2_with fail
      refine (l01Both_any _ _ _ _ _ _ _).mono ?_
      rintro e w1 ⟨rfl, hb⟩
      rw [H1.out]
      have z0 : w1.cell? ⟨w.heap.size + 1 + 1, 0, none⟩ = some (.int .i64 0) := cellOf hb (by go_simp) (by simp <;> omega)
      have y0 : w1.frozen? ⟨w.heap.size + 1 + 1, 0, none⟩ = false := frozenOf hb (by go_simp) (by simp <;> omega)
      have z1 : w1.cell? ⟨w.heap.size + 1 + 1, 1, none⟩ = some (.int .i64 0) := cellOf hb (by go_simp) (by simp <;> omega)
      have y1 : w1.frozen? ⟨w.heap.size + 1 + 1, 1, none⟩ = false := frozenOf hb (by go_simp) (by simp <;> omega)
      have hB : Below w.heap.size w w1 := below_of (by go_grown) hb (by simp <;> omega)
      clear hb
      go_wp2_with (go_at_call 117; refine (l02Colour_any _ _).mono ?_; rintro e w' ⟨rfl, rfl⟩)
      try simp only [Exit.inBlock, Exit.then]
      refine bodyPost_ret (by simp [results, Try.results60, go_sem, y0, y1, z0, z1]; try rfl) rfl ?_
      exact ⟨ret_pi (by rw [hfin.out]) (by rw [hfin.out]) (by rw [hfin.out]), by first | exact hB | go_grown⟩
    | true =>
      have hz := hid (show Pl.ask p (Pl.colB k && Pl.ptB p ax ay && Pl.lineB p la lb lc) = 0 by rw [hq.out, hkk]; rfl)
      have hfin : Hid (Pl.footOf p k ax ay la lb lc = (if Pl.nullB p k la lb = true then ((0, 0), 5) else ((Pl.footX p k ax ay la lb lc, Pl.footY p k ax ay la lb lc), 0))) := by unfold Hid Pl.footOf; rw [if_pos hz.out]
      cases hn : Pl.nullB p k la lb with
      | true =>
        have HP := hid hn
        have hn2 : Pl.perpB p k la lb la lb = true := hn
        go_enter Try.func60, Try.ntmps60
        go_wp2_with fail
        refine (l01Both_any _ _ _ _ _ _ _).mono ?_
        rintro e w1 ⟨rfl, hb⟩
        rw [H1.out]
        have c00 : w1.cell? ⟨w.heap.size, 0, none⟩ = some (.int .i64 ax) := keepC hb (by go_simp)
        have c01 : w1.cell? ⟨w.heap.size, 1, none⟩ = some (.int .i64 ay) := keepC hb (by go_simp)
        have c10 : w1.cell? ⟨w.heap.size + 1, 0, none⟩ = some (.int .i64 la) := keepC hb (by go_simp)
        have c11 : w1.cell? ⟨w.heap.size + 1, 1, none⟩ = some (.int .i64 lb) := keepC hb (by go_simp)
        have c12 : w1.cell? ⟨w.heap.size + 1, 2, none⟩ = some (.int .i64 lc) := keepC hb (by go_simp)
        have z0 : w1.cell? ⟨w.heap.size + 1 + 1, 0, none⟩ = some (.int .i64 0) := cellOf hb (by go_simp) (by simp <;> omega)
        have y0 : w1.frozen? ⟨w.heap.size + 1 + 1, 0, none⟩ = false := frozenOf hb (by go_simp) (by simp <;> omega)
        have z1 : w1.cell? ⟨w.heap.size + 1 + 1, 1, none⟩ = some (.int .i64 0) := cellOf hb (by go_simp) (by simp <;> omega)
        have y1 : w1.frozen? ⟨w.heap.size + 1 + 1, 1, none⟩ = false := frozenOf hb (by go_simp) (by simp <;> omega)
        have hB : Below w.heap.size w w1 := below_of (by go_grown) hb (by simp <;> omega)
        clear hb
        go_wp2_with (first | (go_at_call 117; refine (l02Colour_any _ _).mono ?_; rintro e w' ⟨rfl, rfl⟩) | (go_at_call 130; refine (l02Perpendicular_any _ _ _ _ _ _ _ _ _ (by omega) (by omega) (by omega) (by omega) (by omega) (by omega) (by omega) (by omega) (by omega) (by omega) (by omega) (by omega) (by omega) (by omega)).mono ?_; rintro e w' ⟨rfl, hbn⟩; replace c00 := keepC hbn (by first | exact c00 | exact keepA _ c00 | exact keepA _ (keepA _ c00)); replace c01 := keepC hbn (by first | exact c01 | exact keepA _ c01 | exact keepA _ (keepA _ c01)); replace c10 := keepC hbn (by first | exact c10 | exact keepA _ c10 | exact keepA _ (keepA _ c10)); replace c11 := keepC hbn (by first | exact c11 | exact keepA _ c11 | exact keepA _ (keepA _ c11)); replace c12 := keepC hbn (by first | exact c12 | exact keepA _ c12 | exact keepA _ (keepA _ c12)); replace y0 := keepF hbn z0 y0; replace y1 := keepF hbn z1 y1; replace z0 := keepC hbn z0; replace z1 := keepC hbn z1; replace hB := below_of (B := w.heap.size) (a := w) (by first | exact hB | (have := hB.size; go_grown)) hbn (by first | exact hB.size | (have := hB.size; simp <;> omega)); clear hbn) | (go_at_call 139; refine (l02Foot_any _ _ _ _ _ _ _ _ hf hkk HLL.out (by omega) (by omega) (by omega) (by omega) (by omega) (by omega) (by omega) (by omega) (by omega) (by omega) hn).mono ?_; rintro e w' ⟨rfl, hbn⟩; replace c00 := keepC hbn (by first | exact c00 | exact keepA _ c00 | exact keepA _ (keepA _ c00)); replace c01 := keepC hbn (by first | exact c01 | exact keepA _ c01 | exact keepA _ (keepA _ c01)); replace c10 := keepC hbn (by first | exact c10 | exact keepA _ c10 | exact keepA _ (keepA _ c10)); replace c11 := keepC hbn (by first | exact c11 | exact keepA _ c11 | exact keepA _ (keepA _ c11)); replace c12 := keepC hbn (by first | exact c12 | exact keepA _ c12 | exact keepA _ (keepA _ c12)); replace y0 := keepF hbn z0 y0; replace y1 := keepF hbn z1 y1; replace z0 := keepC hbn z0; replace z1 := keepC hbn z1; replace hB := below_of (B := w.heap.size) (a := w) (by first | exact hB | (have := hB.size; go_grown)) hbn (by first | exact hB.size | (have := hB.size; simp <;> omega)); clear hbn; have hub : w.heap.size + 1 + 1 < w'.heap.size := World.block_lt_of_cell? w' _ z0))
        try simp only [Exit.inBlock, Exit.then]
        refine bodyPost_ret (by simp [results, Try.results60, go_sem, y0, y1, z0, z1]; try rfl) rfl ?_
        exact ⟨ret_pi (by rw [hfin.out, if_pos HP.out]) (by rw [hfin.out, if_pos HP.out]) (by rw [hfin.out, if_pos HP.out]), by first | exact hB | go_grown⟩
      | false =>
        have HP := hid hn
        have hn2 : Pl.perpB p k la lb la lb = false := hn
        go_enter Try.func60, Try.ntmps60
        go_wp2_with fail
        refine (l01Both_any _ _ _ _ _ _ _).mono ?_
        rintro e w1 ⟨rfl, hb⟩
        rw [H1.out]
        have c00 : w1.cell? ⟨w.heap.size, 0, none⟩ = some (.int .i64 ax) := keepC hb (by go_simp)
        have c01 : w1.cell? ⟨w.heap.size, 1, none⟩ = some (.int .i64 ay) := keepC hb (by go_simp)
        have c10 : w1.cell? ⟨w.heap.size + 1, 0, none⟩ = some (.int .i64 la) := keepC hb (by go_simp)
        have c11 : w1.cell? ⟨w.heap.size + 1, 1, none⟩ = some (.int .i64 lb) := keepC hb (by go_simp)
        have c12 : w1.cell? ⟨w.heap.size + 1, 2, none⟩ = some (.int .i64 lc) := keepC hb (by go_simp)
        have z0 : w1.cell? ⟨w.heap.size + 1 + 1, 0, none⟩ = some (.int .i64 0) := cellOf hb (by go_simp) (by simp <;> omega)
        have y0 : w1.frozen? ⟨w.heap.size + 1 + 1, 0, none⟩ = false := frozenOf hb (by go_simp) (by simp <;> omega)
        have z1 : w1.cell? ⟨w.heap.size + 1 + 1, 1, none⟩ = some (.int .i64 0) := cellOf hb (by go_simp) (by simp <;> omega)
        have y1 : w1.frozen? ⟨w.heap.size + 1 + 1, 1, none⟩ = false := frozenOf hb (by go_simp) (by simp <;> omega)
        have hB : Below w.heap.size w w1 := below_of (by go_grown) hb (by simp <;> omega)
        clear hb
        go_wp2_with (first | (go_at_call 117; refine (l02Colour_any _ _).mono ?_; rintro e w' ⟨rfl, rfl⟩) | (go_at_call 130; refine (l02Perpendicular_any _ _ _ _ _ _ _ _ _ (by omega) (by omega) (by omega) (by omega) (by omega) (by omega) (by omega) (by omega) (by omega) (by omega) (by omega) (by omega) (by omega) (by omega)).mono ?_; rintro e w' ⟨rfl, hbn⟩; replace c00 := keepC hbn (by first | exact c00 | exact keepA _ c00 | exact keepA _ (keepA _ c00)); replace c01 := keepC hbn (by first | exact c01 | exact keepA _ c01 | exact keepA _ (keepA _ c01)); replace c10 := keepC hbn (by first | exact c10 | exact keepA _ c10 | exact keepA _ (keepA _ c10)); replace c11 := keepC hbn (by first | exact c11 | exact keepA _ c11 | exact keepA _ (keepA _ c11)); replace c12 := keepC hbn (by first | exact c12 | exact keepA _ c12 | exact keepA _ (keepA _ c12)); replace y0 := keepF hbn z0 y0; replace y1 := keepF hbn z1 y1; replace z0 := keepC hbn z0; replace z1 := keepC hbn z1; replace hB := below_of (B := w.heap.size) (a := w) (by first | exact hB | (have := hB.size; go_grown)) hbn (by first | exact hB.size | (have := hB.size; simp <;> omega)); clear hbn) | (go_at_call 139; refine (l02Foot_any _ _ _ _ _ _ _ _ hf hkk HLL.out (by omega) (by omega) (by omega) (by omega) (by omega) (by omega) (by omega) (by omega) (by omega) (by omega) hn).mono ?_; rintro e w' ⟨rfl, hbn⟩; replace c00 := keepC hbn (by first | exact c00 | exact keepA _ c00 | exact keepA _ (keepA _ c00)); replace c01 := keepC hbn (by first | exact c01 | exact keepA _ c01 | exact keepA _ (keepA _ c01)); replace c10 := keepC hbn (by first | exact c10 | exact keepA _ c10 | exact keepA _ (keepA _ c10)); replace c11 := keepC hbn (by first | exact c11 | exact keepA _ c11 | exact keepA _ (keepA _ c11)); replace c12 := keepC hbn (by first | exact c12 | exact keepA _ c12 | exact keepA _ (keepA _ c12)); replace y0 := keepF hbn z0 y0; replace y1 := keepF hbn z1 y1; replace z0 := keepC hbn z0; replace z1 := keepC hbn z1; replace hB := below_of (B := w.heap.size) (a := w) (by first | exact hB | (have := hB.size; go_grown)) hbn (by first | exact hB.size | (have := hB.size; simp <;> omega)); clear hbn; have hub : w.heap.size + 1 + 1 < w'.heap.size := World.block_lt_of_cell? w' _ z0))
        try simp only [Exit.inBlock, Exit.then]
        refine bodyPost_ret (by simp [results, Try.results60, go_sem, y0, y1, z0, z1, World.cell?_alloc_lt, hub]; try rfl) rfl ?_
        exact ⟨ret_pi (by rw [hfin.out, if_neg (by rw [HP.out]; decide)]) (by rw [hfin.out, if_neg (by rw [HP.out]; decide)]) (by rw [hfin.out, if_neg (by rw [HP.out]; decide)]), by first | exact hB | go_grown⟩
  · have hne : (Pl.ask p (Pl.ptB p ax ay && Pl.lineB p la lb lc) != 0) = true := by simpa using h1
    have hne2 : (Pl.ask p (Pl.ptB p ax ay && Pl.lineB p la lb lc) == 0) = false := by simpa using h1
    have hq : Pl.ask p (Pl.colB k && Pl.ptB p ax ay && Pl.lineB p la lb lc) = Pl.ask p (Pl.ptB p ax ay && Pl.lineB p la lb lc) := by rw [show (Pl.colB k && Pl.ptB p ax ay && Pl.lineB p la lb lc) = ((Pl.ptB p ax ay && Pl.lineB p la lb lc) && Pl.colB k) by cases Pl.colB k <;> cases Pl.lineB p la lb lc <;> cases Pl.ptB p ax ay <;> rfl]; exact Pl.ask_and_n h1
    have hfin : Hid (Pl.footOf p k ax ay la lb lc = ((0, 0), Pl.ask p (Pl.ptB p ax ay && Pl.lineB p la lb lc))) := by unfold Hid Pl.footOf; rw [hq, if_neg h1]
    clear h1 hq
    go_enter Try.func60, Try.ntmps60
    go_wp2_with fail
    refine (l01Both_any _ _ _ _ _ _ _).mono ?_
    rintro e w1 ⟨rfl, hb⟩
    have z0 : w1.cell? ⟨w.heap.size + 1 + 1, 0, none⟩ = some (.int .i64 0) := cellOf hb (by go_simp) (by simp <;> omega)
    have y0 : w1.frozen? ⟨w.heap.size + 1 + 1, 0, none⟩ = false := frozenOf hb (by go_simp) (by simp <;> omega)
    have z1 : w1.cell? ⟨w.heap.size + 1 + 1, 1, none⟩ = some (.int .i64 0) := cellOf hb (by go_simp) (by simp <;> omega)
    have y1 : w1.frozen? ⟨w.heap.size + 1 + 1, 1, none⟩ = false := frozenOf hb (by go_simp) (by simp <;> omega)
    have hB : Below w.heap.size w w1 := below_of (by go_grown) hb (by simp <;> omega)
    clear hb
    go_wp2_with fail
    try simp only [Exit.inBlock, Exit.then]
    refine bodyPost_ret (by simp [results, Try.results60, go_sem, y0, y1, z0, z1]; try rfl) rfl ?_
    exact ⟨ret_pi (by rw [hfin.out]) (by rw [hfin.out]) (by rw [hfin.out]), by first | exact hB | go_grown⟩
end Go.Proofs.Ytbjcbbnfgfmllaa
