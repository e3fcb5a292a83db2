/- FnExactBisectorsOf: the walk. -/
import Derived.Test.YtommkkgkfjmhdaaFm
import Derived.Test.YtommkkgkfjmhdaaSp
import Derived.Test.YtommkkgkfjmhdaaG
import Derived.Test.YtommkkgkfjmhdaaOwn
import Derived.Test.YtommkkgkfjmhdaaReg3
set_option linter.unusedVariables false
set_option linter.unusedSimpArgs false
set_option maxHeartbeats 2000000
set_option maxRecDepth 100000
namespace Go.Proofs.Ytommkkgkfjmhdaa.fnExactBisectorsOf
open Go.RowKit
theorem walk (p k la lb lc ma mb mc : Int) (_ : (Lit.int .i64 p).wf = true) (_ : (Lit.int .i64 k).wf = true) (_ : (Lit.int .i64 la).wf = true) (_ : (Lit.int .i64 lb).wf = true) (_ : (Lit.int .i64 lc).wf = true) (_ : (Lit.int .i64 ma).wf = true) (_ : (Lit.int .i64 mb).wf = true) (_ : (Lit.int .i64 mc).wf = true) (w : World) : Calls Try.prog 6 #[.int .i64 p, .int .i64 k, .agg #[.int .i64 la, .int .i64 lb, .int .i64 lc], .agg #[.int .i64 ma, .int .i64 mb, .int .i64 mc]] w fun e w' => e = .returned (.bool true) ∧ Below w.heap.size w w' := by
  by_cases h0 : Pl.bisC p k la lb lc ma mb mc = 0
  · have hlen : (Pl.lnsW (fun m => !Pl.nullB p k m.1 m.2.1 && (Pl.spread p k la lb m.1 m.2.1 == Pl.spread p k ma mb m.1 m.2.1)) p (Pl.meetX p la lb lc ma mb mc) (Pl.meetY p la lb lc ma mb mc)).length ≤ 1000 := by have h2 := Pl.field_bd (Pl.ask_ok (Pl.twoL_ok (Pl.bisC_ok h0).1).1).1; exact Pl.lnsW_len (by omega) (by omega)
    have H0 := hid h0
    clear h0
    go_enter Try.func6, Try.ntmps6
    go_wp2_with fail
    generalize hW : (World.alloc (World.alloc w (.cells #[.int .i64 la, .int .i64 lb, .int .i64 lc] 23)) (.cells #[.int .i64 ma, .int .i64 mb, .int .i64 mc] 23)) = W
    have d00 : W.cell? ⟨w.heap.size, 0, none⟩ = some (.int .i64 la) := by subst hW; go_simp
    have d01 : W.cell? ⟨w.heap.size, 1, none⟩ = some (.int .i64 lb) := by subst hW; go_simp
    have d02 : W.cell? ⟨w.heap.size, 2, none⟩ = some (.int .i64 lc) := by subst hW; go_simp
    have d10 : W.cell? ⟨w.heap.size + 1, 0, none⟩ = some (.int .i64 ma) := by subst hW; go_simp
    have d11 : W.cell? ⟨w.heap.size + 1, 1, none⟩ = some (.int .i64 mb) := by subst hW; go_simp
    have d12 : W.cell? ⟨w.heap.size + 1, 2, none⟩ = some (.int .i64 mc) := by subst hW; go_simp
    have hB : Below w.heap.size w W := by subst hW; go_grown
    clear hW
    have hsz := hB.size
    refine Reg.wp_region_call (by kernel_rfl) 6 (by kernel_rfl) ?_
    simp only [List.take_succ_cons, List.take_zero, List.drop_succ_cons, List.drop_zero]
    refine Reg.wpG_step (v := ?vrc010) (fun wq hq => ?grc010) ?krc010
    case grc010 => (have q0 := keepC hq d00; have q1 := keepC hq d01; have q2 := keepC hq d02; have q3 := keepC hq d10; have q4 := keepC hq d11; have q5 := keepC hq d12; refine Reg.gAt_val ?_; go_simp; first | done | (with_reducible rfl) | rfl)
    try simp only [Act.put, List.setIfInBounds_toArray, List.set_cons_zero, List.set_cons_succ]
    refine Reg.wpG_step (v := ?vrc011) (fun wq hq => ?grc011) ?krc011
    case grc011 => (have q0 := keepC hq d00; have q1 := keepC hq d01; have q2 := keepC hq d02; have q3 := keepC hq d10; have q4 := keepC hq d11; have q5 := keepC hq d12; refine Reg.gAt_val ?_; go_simp; first | done | (with_reducible rfl) | rfl)
    try simp only [Act.put, List.setIfInBounds_toArray, List.set_cons_zero, List.set_cons_succ]
    refine Reg.wpG_step (v := ?vrc012) (fun wq hq => ?grc012) ?krc012
    case grc012 => (have q0 := keepC hq d00; have q1 := keepC hq d01; have q2 := keepC hq d02; have q3 := keepC hq d10; have q4 := keepC hq d11; have q5 := keepC hq d12; refine Reg.gAt_val ?_; go_simp; first | done | (with_reducible rfl) | rfl)
    try simp only [Act.put, List.setIfInBounds_toArray, List.set_cons_zero, List.set_cons_succ]
    refine Reg.wpG_step (v := .agg #[.int .i64 la, .int .i64 lb, .int .i64 lc]) (fun wq hq => ?grc013) ?krc013
    case grc013 => (unfold Reg.gAt; go_simp; refine Reg.quiet_enter ?_; exact toLine_any _ _ _ _)
    try simp only [Act.put, List.setIfInBounds_toArray, List.set_cons_zero, List.set_cons_succ]
    refine Reg.wpG_step (v := ?vrc014) (fun wq hq => ?grc014) ?krc014
    case grc014 => (have q0 := keepC hq d00; have q1 := keepC hq d01; have q2 := keepC hq d02; have q3 := keepC hq d10; have q4 := keepC hq d11; have q5 := keepC hq d12; refine Reg.gAt_val ?_; go_simp; first | done | (with_reducible rfl) | rfl)
    try simp only [Act.put, List.setIfInBounds_toArray, List.set_cons_zero, List.set_cons_succ]
    refine Reg.wpG_step (v := .agg #[.int .i64 ma, .int .i64 mb, .int .i64 mc]) (fun wq hq => ?grc015) ?krc015
    case grc015 => (unfold Reg.gAt; go_simp; refine Reg.quiet_enter ?_; exact toLine_any _ _ _ _)
    try simp only [Act.put, List.setIfInBounds_toArray, List.set_cons_zero, List.set_cons_succ]
    intro wr1 hbn
    replace d00 := keepC hbn d00
    replace d01 := keepC hbn d01
    replace d02 := keepC hbn d02
    replace d10 := keepC hbn d10
    replace d11 := keepC hbn d11
    replace d12 := keepC hbn d12
    replace hB := below_of hB hbn hB.size
    replace hsz := hB.size
    clear hbn
    refine ⟨25, #[.int .i64 p, .int .i64 k, .agg #[.int .i64 la, .int .i64 lb, .int .i64 lc], .agg #[.int .i64 ma, .int .i64 mb, .int .i64 mc]], ?rarc01, ?rbrc01⟩
    case rarc01 => (intro o ho; simp at ho; subst ho; first | rfl | (go_simp; done) | (go_simp; rfl))
    refine (sBisectorsOf_ok _ _ _ _ _ _ _ _ _ H0.out).mono ?_
    rintro e x1 ⟨g1, c1, rfl, o1, hbn⟩
    replace d00 := keepC hbn d00
    replace d01 := keepC hbn d01
    replace d02 := keepC hbn d02
    replace d10 := keepC hbn d10
    replace d11 := keepC hbn d11
    replace d12 := keepC hbn d12
    replace hB := below_of hB hbn hB.size
    replace hsz := hB.size
    clear hbn
    refine ⟨_, rfl, ?_⟩
    simp only [Reg.dst, Act.put, List.setIfInBounds_toArray, List.set_cons_zero, List.set_cons_succ, List.getElem?_cons_zero, List.getElem?_cons_succ, Option.bind_some]
    refine Reg.wpV_step (v := ?urc010) (fun wq => ?hrc010) ?jrc010
    case hrc010 => (go_simp; first | done | (with_reducible rfl) | rfl)
    try simp only [Act.put, List.setIfInBounds_toArray, List.set_cons_zero, List.set_cons_succ]
    refine Reg.wpV_step (v := ?urc011) (fun wq => ?hrc011) ?jrc011
    case hrc011 => (go_simp; first | done | (with_reducible rfl) | rfl)
    try simp only [Act.put, List.setIfInBounds_toArray, List.set_cons_zero, List.set_cons_succ]
    refine Reg.wpV_step (v := ?urc012) (fun wq => ?hrc012) ?jrc012
    case hrc012 => (go_simp; first | done | (with_reducible rfl) | rfl)
    try simp only [Act.put, List.setIfInBounds_toArray, List.set_cons_zero, List.set_cons_succ]
    refine Reg.wpV_step (v := ?urc013) (fun wq => ?hrc013) ?jrc013
    case hrc013 => (go_simp; first | done | (with_reducible rfl) | rfl)
    try simp only [Act.put, List.setIfInBounds_toArray, List.set_cons_zero, List.set_cons_succ]
    refine Reg.wpV_step (v := ?urc014) (fun wq => ?hrc014) ?jrc014
    case hrc014 => (go_simp; first | done | (with_reducible rfl) | rfl)
    try simp only [Act.put, List.setIfInBounds_toArray, List.set_cons_zero, List.set_cons_succ]
    change wpList _ _ _ _ _ _
    go_wp2_with fail
    refine Reg.wp_region_call (by kernel_rfl) 6 (by kernel_rfl) ?_
    simp only [List.take_succ_cons, List.take_zero, List.drop_succ_cons, List.drop_zero]
    refine Reg.wpG_step (v := ?vrc020) (fun wq hq => ?grc020) ?krc020
    case grc020 => (have q0 := keepC hq d00; have q1 := keepC hq d01; have q2 := keepC hq d02; have q3 := keepC hq d10; have q4 := keepC hq d11; have q5 := keepC hq d12; refine Reg.gAt_val ?_; go_simp; first | done | (with_reducible rfl) | rfl)
    try simp only [Act.put, List.setIfInBounds_toArray, List.set_cons_zero, List.set_cons_succ]
    refine Reg.wpG_step (v := ?vrc021) (fun wq hq => ?grc021) ?krc021
    case grc021 => (have q0 := keepC hq d00; have q1 := keepC hq d01; have q2 := keepC hq d02; have q3 := keepC hq d10; have q4 := keepC hq d11; have q5 := keepC hq d12; refine Reg.gAt_val ?_; go_simp; first | done | (with_reducible rfl) | rfl)
    try simp only [Act.put, List.setIfInBounds_toArray, List.set_cons_zero, List.set_cons_succ]
    refine Reg.wpG_step (v := ?vrc022) (fun wq hq => ?grc022) ?krc022
    case grc022 => (have q0 := keepC hq d00; have q1 := keepC hq d01; have q2 := keepC hq d02; have q3 := keepC hq d10; have q4 := keepC hq d11; have q5 := keepC hq d12; refine Reg.gAt_val ?_; go_simp; first | done | (with_reducible rfl) | rfl)
    try simp only [Act.put, List.setIfInBounds_toArray, List.set_cons_zero, List.set_cons_succ]
    refine Reg.wpG_step (v := .agg #[.int .i64 la, .int .i64 lb, .int .i64 lc]) (fun wq hq => ?grc023) ?krc023
    case grc023 => (unfold Reg.gAt; go_simp; refine Reg.quiet_enter ?_; exact toLine_any _ _ _ _)
    try simp only [Act.put, List.setIfInBounds_toArray, List.set_cons_zero, List.set_cons_succ]
    refine Reg.wpG_step (v := ?vrc024) (fun wq hq => ?grc024) ?krc024
    case grc024 => (have q0 := keepC hq d00; have q1 := keepC hq d01; have q2 := keepC hq d02; have q3 := keepC hq d10; have q4 := keepC hq d11; have q5 := keepC hq d12; refine Reg.gAt_val ?_; go_simp; first | done | (with_reducible rfl) | rfl)
    try simp only [Act.put, List.setIfInBounds_toArray, List.set_cons_zero, List.set_cons_succ]
    refine Reg.wpG_step (v := .agg #[.int .i64 ma, .int .i64 mb, .int .i64 mc]) (fun wq hq => ?grc025) ?krc025
    case grc025 => (unfold Reg.gAt; go_simp; refine Reg.quiet_enter ?_; exact toLine_any _ _ _ _)
    try simp only [Act.put, List.setIfInBounds_toArray, List.set_cons_zero, List.set_cons_succ]
    intro wr2 hbn
    replace d00 := keepC hbn d00
    replace d01 := keepC hbn d01
    replace d02 := keepC hbn d02
    replace d10 := keepC hbn d10
    replace d11 := keepC hbn d11
    replace d12 := keepC hbn d12
    replace o1 := o1.keep (by first | exact hbn | exact Below.trans (by go_grown) hbn)
    replace hB := below_of hB hbn hB.size
    replace hsz := hB.size
    clear hbn
    refine ⟨26, #[.int .i64 p, .int .i64 k, .agg #[.int .i64 la, .int .i64 lb, .int .i64 lc], .agg #[.int .i64 ma, .int .i64 mb, .int .i64 mc]], ?rarc02, ?rbrc02⟩
    case rarc02 => (intro o ho; simp at ho; subst ho; first | rfl | (go_simp; done) | (go_simp; rfl))
    refine (BisectorsOf_ok _ _ _ _ _ _ _ _ _ H0.out).mono ?_
    rintro e x2 ⟨g2, c2, rfl, o2, hbn⟩
    have hgl := o1.lt
    have hgg := o2.lt
    have hne : g1 ≠ g2 := by omega
    have hgw : w.heap.size ≤ g2 := by omega
    have hgd0 : w.heap.size < g2 := by have h1 := World.block_lt_of_cell? _ _ d00; simp at h1; omega
    have hgd1 : w.heap.size + 1 < g2 := by have h1 := World.block_lt_of_cell? _ _ d10; simp at h1; omega
    clear hgl hgg
    replace d00 := keepC hbn d00
    replace d01 := keepC hbn d01
    replace d02 := keepC hbn d02
    replace d10 := keepC hbn d10
    replace d11 := keepC hbn d11
    replace d12 := keepC hbn d12
    replace o1 := o1.keep (by first | exact hbn | exact Below.trans (by go_grown) hbn)
    replace hB := below_of hB hbn hB.size
    replace hsz := hB.size
    clear hbn
    refine ⟨_, rfl, ?_⟩
    simp only [Reg.dst, Act.put, List.setIfInBounds_toArray, List.set_cons_zero, List.set_cons_succ, List.getElem?_cons_zero, List.getElem?_cons_succ, Option.bind_some]
    refine Reg.wpV_step (v := ?urc020) (fun wq => ?hrc020) ?jrc020
    case hrc020 => (go_simp; first | done | (with_reducible rfl) | rfl)
    try simp only [Act.put, List.setIfInBounds_toArray, List.set_cons_zero, List.set_cons_succ]
    refine Reg.wpV_step (v := ?urc021) (fun wq => ?hrc021) ?jrc021
    case hrc021 => (go_simp; first | done | (with_reducible rfl) | rfl)
    try simp only [Act.put, List.setIfInBounds_toArray, List.set_cons_zero, List.set_cons_succ]
    refine Reg.wpV_step (v := ?urc022) (fun wq => ?hrc022) ?jrc022
    case hrc022 => (go_simp; first | done | (with_reducible rfl) | rfl)
    try simp only [Act.put, List.setIfInBounds_toArray, List.set_cons_zero, List.set_cons_succ]
    refine Reg.wpV_step (v := ?urc023) (fun wq => ?hrc023) ?jrc023
    case hrc023 => (go_simp; first | done | (with_reducible rfl) | rfl)
    try simp only [Act.put, List.setIfInBounds_toArray, List.set_cons_zero, List.set_cons_succ]
    refine Reg.wpV_step (v := ?urc024) (fun wq => ?hrc024) ?jrc024
    case hrc024 => (go_simp; first | done | (with_reducible rfl) | rfl)
    try simp only [Act.put, List.setIfInBounds_toArray, List.set_cons_zero, List.set_cons_succ]
    change wpList _ _ _ _ _ _
    go_wp2_with fail
    refine (eqLineS_same _ _ _ _ _ (Pl.lnsW (fun m => !Pl.nullB p k m.1 m.2.1 && (Pl.spread p k la lb m.1 m.2.1 == Pl.spread p k ma mb m.1 m.2.1)) p (Pl.meetX p la lb lc ma mb mc) (Pl.meetY p la lb lc ma mb mc)) _ (by omega) (fun j hj => o2.cell3 hj) (fun j hj => o1.cell3 hj)).mono ?_
    rintro e y2 ⟨rfl, hbn⟩
    replace d00 := keepC hbn d00
    replace d01 := keepC hbn d01
    replace d02 := keepC hbn d02
    replace d10 := keepC hbn d10
    replace d11 := keepC hbn d11
    replace d12 := keepC hbn d12
    replace o1 := o1.keep (by first | exact hbn | exact Below.trans (by go_grown) hbn)
    replace o2 := o2.keep (by first | exact hbn | exact Below.trans (by go_grown) hbn)
    replace hB := below_of hB hbn hB.size
    replace hsz := hB.size
    clear hbn
    go_wp2_with fail
    refine (markLineS_any _ _ _ _ _ _ 1 _ (by omega) (by omega) (by omega) o2).mono ?_
    rintro e y3 ⟨rfl, o3, hgn⟩
    replace d00 := hgn.cell d00 (by simp <;> omega)
    replace d01 := hgn.cell d01 (by simp <;> omega)
    replace d02 := hgn.cell d02 (by simp <;> omega)
    replace d10 := hgn.cell d10 (by simp <;> omega)
    replace d11 := hgn.cell d11 (by simp <;> omega)
    replace d12 := hgn.cell d12 (by simp <;> omega)
    replace o1 := o1.grown hgn (by simp; omega)
    replace hB := hB.grown hgn hsz (fun k hk => by cases hk; exact hgw)
    replace hsz := hB.size
    clear hgn
    go_wp2_with fail
    refine (heldLineS_any _ _ _ 1 _ (by omega) (by omega) (by omega) (fun j hj => by rw [o3.cell (by rw [marks_length]; exact hj), marks_getD 1 hj])).mono ?_
    rintro e z4 ⟨rfl, hgn⟩
    replace d00 := hgn.cell d00 (by simp)
    replace d01 := hgn.cell d01 (by simp)
    replace d02 := hgn.cell d02 (by simp)
    replace d10 := hgn.cell d10 (by simp)
    replace d11 := hgn.cell d11 (by simp)
    replace d12 := hgn.cell d12 (by simp)
    replace o1 := o1.grown hgn (by simp)
    replace o3 := o3.grown hgn (by simp)
    replace hB := hB.grown hgn hsz (fun k hk => by cases hk)
    replace hsz := hB.size
    clear hgn
    go_wp2_with fail
    refine Reg.wp_region_call (by kernel_rfl) 6 (by kernel_rfl) ?_
    simp only [List.take_succ_cons, List.take_zero, List.drop_succ_cons, List.drop_zero]
    refine Reg.wpG_step (v := ?vrc050) (fun wq hq => ?grc050) ?krc050
    case grc050 => (have q0 := keepC hq d00; have q1 := keepC hq d01; have q2 := keepC hq d02; have q3 := keepC hq d10; have q4 := keepC hq d11; have q5 := keepC hq d12; refine Reg.gAt_val ?_; go_simp; first | done | (with_reducible rfl) | rfl)
    try simp only [Act.put, List.setIfInBounds_toArray, List.set_cons_zero, List.set_cons_succ]
    refine Reg.wpG_step (v := ?vrc051) (fun wq hq => ?grc051) ?krc051
    case grc051 => (have q0 := keepC hq d00; have q1 := keepC hq d01; have q2 := keepC hq d02; have q3 := keepC hq d10; have q4 := keepC hq d11; have q5 := keepC hq d12; refine Reg.gAt_val ?_; go_simp; first | done | (with_reducible rfl) | rfl)
    try simp only [Act.put, List.setIfInBounds_toArray, List.set_cons_zero, List.set_cons_succ]
    refine Reg.wpG_step (v := ?vrc052) (fun wq hq => ?grc052) ?krc052
    case grc052 => (have q0 := keepC hq d00; have q1 := keepC hq d01; have q2 := keepC hq d02; have q3 := keepC hq d10; have q4 := keepC hq d11; have q5 := keepC hq d12; refine Reg.gAt_val ?_; go_simp; first | done | (with_reducible rfl) | rfl)
    try simp only [Act.put, List.setIfInBounds_toArray, List.set_cons_zero, List.set_cons_succ]
    refine Reg.wpG_step (v := .agg #[.int .i64 la, .int .i64 lb, .int .i64 lc]) (fun wq hq => ?grc053) ?krc053
    case grc053 => (unfold Reg.gAt; go_simp; refine Reg.quiet_enter ?_; exact toLine_any _ _ _ _)
    try simp only [Act.put, List.setIfInBounds_toArray, List.set_cons_zero, List.set_cons_succ]
    refine Reg.wpG_step (v := ?vrc054) (fun wq hq => ?grc054) ?krc054
    case grc054 => (have q0 := keepC hq d00; have q1 := keepC hq d01; have q2 := keepC hq d02; have q3 := keepC hq d10; have q4 := keepC hq d11; have q5 := keepC hq d12; refine Reg.gAt_val ?_; go_simp; first | done | (with_reducible rfl) | rfl)
    try simp only [Act.put, List.setIfInBounds_toArray, List.set_cons_zero, List.set_cons_succ]
    refine Reg.wpG_step (v := .agg #[.int .i64 ma, .int .i64 mb, .int .i64 mc]) (fun wq hq => ?grc055) ?krc055
    case grc055 => (unfold Reg.gAt; go_simp; refine Reg.quiet_enter ?_; exact toLine_any _ _ _ _)
    try simp only [Act.put, List.setIfInBounds_toArray, List.set_cons_zero, List.set_cons_succ]
    intro wr5 hbn
    replace d00 := keepC hbn d00
    replace d01 := keepC hbn d01
    replace d02 := keepC hbn d02
    replace d10 := keepC hbn d10
    replace d11 := keepC hbn d11
    replace d12 := keepC hbn d12
    replace o1 := o1.keep (by first | exact hbn | exact Below.trans (by go_grown) hbn)
    replace o3 := o3.keep (by first | exact hbn | exact Below.trans (by go_grown) hbn)
    replace hB := below_of hB hbn hB.size
    replace hsz := hB.size
    clear hbn
    refine ⟨26, #[.int .i64 p, .int .i64 k, .agg #[.int .i64 la, .int .i64 lb, .int .i64 lc], .agg #[.int .i64 ma, .int .i64 mb, .int .i64 mc]], ?rarc05, ?rbrc05⟩
    case rarc05 => (intro o ho; simp at ho; subst ho; first | rfl | (go_simp; done) | (go_simp; rfl))
    refine (BisectorsOf_ok _ _ _ _ _ _ _ _ _ H0.out).mono ?_
    rintro e x5 ⟨g5, c5, rfl, o5, hbn⟩
    replace d00 := keepC hbn d00
    replace d01 := keepC hbn d01
    replace d02 := keepC hbn d02
    replace d10 := keepC hbn d10
    replace d11 := keepC hbn d11
    replace d12 := keepC hbn d12
    replace o1 := o1.keep (by first | exact hbn | exact Below.trans (by go_grown) hbn)
    replace o3 := o3.keep (by first | exact hbn | exact Below.trans (by go_grown) hbn)
    replace hB := below_of hB hbn hB.size
    replace hsz := hB.size
    clear hbn
    refine ⟨_, rfl, ?_⟩
    simp only [Reg.dst, Act.put, List.setIfInBounds_toArray, List.set_cons_zero, List.set_cons_succ, List.getElem?_cons_zero, List.getElem?_cons_succ, Option.bind_some]
    refine Reg.wpV_step (v := ?urc050) (fun wq => ?hrc050) ?jrc050
    case hrc050 => (go_simp; first | done | (with_reducible rfl) | rfl)
    try simp only [Act.put, List.setIfInBounds_toArray, List.set_cons_zero, List.set_cons_succ]
    refine Reg.wpV_step (v := ?urc051) (fun wq => ?hrc051) ?jrc051
    case hrc051 => (go_simp; first | done | (with_reducible rfl) | rfl)
    try simp only [Act.put, List.setIfInBounds_toArray, List.set_cons_zero, List.set_cons_succ]
    refine Reg.wpV_step (v := ?urc052) (fun wq => ?hrc052) ?jrc052
    case hrc052 => (go_simp; first | done | (with_reducible rfl) | rfl)
    try simp only [Act.put, List.setIfInBounds_toArray, List.set_cons_zero, List.set_cons_succ]
    refine Reg.wpV_step (v := ?urc053) (fun wq => ?hrc053) ?jrc053
    case hrc053 => (go_simp; first | done | (with_reducible rfl) | rfl)
    try simp only [Act.put, List.setIfInBounds_toArray, List.set_cons_zero, List.set_cons_succ]
    refine Reg.wpV_step (v := ?urc054) (fun wq => ?hrc054) ?jrc054
    case hrc054 => (go_simp; first | done | (with_reducible rfl) | rfl)
    try simp only [Act.put, List.setIfInBounds_toArray, List.set_cons_zero, List.set_cons_succ]
    change wpList _ _ _ _ _ _
    go_wp2_with fail
    refine (eqLineS_same _ _ _ _ _ (Pl.lnsW (fun m => !Pl.nullB p k m.1 m.2.1 && (Pl.spread p k la lb m.1 m.2.1 == Pl.spread p k ma mb m.1 m.2.1)) p (Pl.meetX p la lb lc ma mb mc) (Pl.meetY p la lb lc ma mb mc)) _ (by omega) (fun j hj => o5.cell3 hj) (fun j hj => o1.cell3 hj)).mono ?_
    rintro e y5 ⟨rfl, hbn⟩
    replace d00 := keepC hbn d00
    replace d01 := keepC hbn d01
    replace d02 := keepC hbn d02
    replace d10 := keepC hbn d10
    replace d11 := keepC hbn d11
    replace d12 := keepC hbn d12
    replace o1 := o1.keep (by first | exact hbn | exact Below.trans (by go_grown) hbn)
    replace o3 := o3.keep (by first | exact hbn | exact Below.trans (by go_grown) hbn)
    replace o5 := o5.keep (by first | exact hbn | exact Below.trans (by go_grown) hbn)
    replace hB := below_of hB hbn hB.size
    replace hsz := hB.size
    clear hbn
    go_wp2_with fail
    refine (heldLineS_any _ _ _ 1 _ (by omega) (by omega) (by omega) (fun j hj => by rw [o3.cell (by rw [marks_length]; exact hj), marks_getD 1 hj])).mono ?_
    rintro e z6 ⟨rfl, hgn⟩
    replace d00 := hgn.cell d00 (by simp)
    replace d01 := hgn.cell d01 (by simp)
    replace d02 := hgn.cell d02 (by simp)
    replace d10 := hgn.cell d10 (by simp)
    replace d11 := hgn.cell d11 (by simp)
    replace d12 := hgn.cell d12 (by simp)
    replace o1 := o1.grown hgn (by simp)
    replace o3 := o3.grown hgn (by simp)
    replace o5 := o5.grown hgn (by simp)
    replace hB := hB.grown hgn hsz (fun k hk => by cases hk)
    replace hsz := hB.size
    clear hgn
    go_wp2_with fail
    go_ret
    exact ⟨rfl, hB⟩
  · have H0 := hid h0
    clear h0
    go_enter Try.func6, Try.ntmps6
    go_wp2_with fail
    generalize hW : (World.alloc (World.alloc w (.cells #[.int .i64 la, .int .i64 lb, .int .i64 lc] 23)) (.cells #[.int .i64 ma, .int .i64 mb, .int .i64 mc] 23)) = W
    have d00 : W.cell? ⟨w.heap.size, 0, none⟩ = some (.int .i64 la) := by subst hW; go_simp
    have d01 : W.cell? ⟨w.heap.size, 1, none⟩ = some (.int .i64 lb) := by subst hW; go_simp
    have d02 : W.cell? ⟨w.heap.size, 2, none⟩ = some (.int .i64 lc) := by subst hW; go_simp
    have d10 : W.cell? ⟨w.heap.size + 1, 0, none⟩ = some (.int .i64 ma) := by subst hW; go_simp
    have d11 : W.cell? ⟨w.heap.size + 1, 1, none⟩ = some (.int .i64 mb) := by subst hW; go_simp
    have d12 : W.cell? ⟨w.heap.size + 1, 2, none⟩ = some (.int .i64 mc) := by subst hW; go_simp
    have hB : Below w.heap.size w W := by subst hW; go_grown
    clear hW
    have hsz := hB.size
    refine Reg.wp_region_call (by kernel_rfl) 6 (by kernel_rfl) ?_
    simp only [List.take_succ_cons, List.take_zero, List.drop_succ_cons, List.drop_zero]
    refine Reg.wpG_step (v := ?vrc110) (fun wq hq => ?grc110) ?krc110
    case grc110 => (have q0 := keepC hq d00; have q1 := keepC hq d01; have q2 := keepC hq d02; have q3 := keepC hq d10; have q4 := keepC hq d11; have q5 := keepC hq d12; refine Reg.gAt_val ?_; go_simp; first | done | (with_reducible rfl) | rfl)
    try simp only [Act.put, List.setIfInBounds_toArray, List.set_cons_zero, List.set_cons_succ]
    refine Reg.wpG_step (v := ?vrc111) (fun wq hq => ?grc111) ?krc111
    case grc111 => (have q0 := keepC hq d00; have q1 := keepC hq d01; have q2 := keepC hq d02; have q3 := keepC hq d10; have q4 := keepC hq d11; have q5 := keepC hq d12; refine Reg.gAt_val ?_; go_simp; first | done | (with_reducible rfl) | rfl)
    try simp only [Act.put, List.setIfInBounds_toArray, List.set_cons_zero, List.set_cons_succ]
    refine Reg.wpG_step (v := ?vrc112) (fun wq hq => ?grc112) ?krc112
    case grc112 => (have q0 := keepC hq d00; have q1 := keepC hq d01; have q2 := keepC hq d02; have q3 := keepC hq d10; have q4 := keepC hq d11; have q5 := keepC hq d12; refine Reg.gAt_val ?_; go_simp; first | done | (with_reducible rfl) | rfl)
    try simp only [Act.put, List.setIfInBounds_toArray, List.set_cons_zero, List.set_cons_succ]
    refine Reg.wpG_step (v := .agg #[.int .i64 la, .int .i64 lb, .int .i64 lc]) (fun wq hq => ?grc113) ?krc113
    case grc113 => (unfold Reg.gAt; go_simp; refine Reg.quiet_enter ?_; exact toLine_any _ _ _ _)
    try simp only [Act.put, List.setIfInBounds_toArray, List.set_cons_zero, List.set_cons_succ]
    refine Reg.wpG_step (v := ?vrc114) (fun wq hq => ?grc114) ?krc114
    case grc114 => (have q0 := keepC hq d00; have q1 := keepC hq d01; have q2 := keepC hq d02; have q3 := keepC hq d10; have q4 := keepC hq d11; have q5 := keepC hq d12; refine Reg.gAt_val ?_; go_simp; first | done | (with_reducible rfl) | rfl)
    try simp only [Act.put, List.setIfInBounds_toArray, List.set_cons_zero, List.set_cons_succ]
    refine Reg.wpG_step (v := .agg #[.int .i64 ma, .int .i64 mb, .int .i64 mc]) (fun wq hq => ?grc115) ?krc115
    case grc115 => (unfold Reg.gAt; go_simp; refine Reg.quiet_enter ?_; exact toLine_any _ _ _ _)
    try simp only [Act.put, List.setIfInBounds_toArray, List.set_cons_zero, List.set_cons_succ]
    intro wr1 hbn
    replace d00 := keepC hbn d00
    replace d01 := keepC hbn d01
    replace d02 := keepC hbn d02
    replace d10 := keepC hbn d10
    replace d11 := keepC hbn d11
    replace d12 := keepC hbn d12
    replace hB := below_of hB hbn hB.size
    replace hsz := hB.size
    clear hbn
    refine ⟨25, #[.int .i64 p, .int .i64 k, .agg #[.int .i64 la, .int .i64 lb, .int .i64 lc], .agg #[.int .i64 ma, .int .i64 mb, .int .i64 mc]], ?rarc11, ?rbrc11⟩
    case rarc11 => (intro o ho; simp at ho; subst ho; first | rfl | (go_simp; done) | (go_simp; rfl))
    refine (sBisectorsOf_err _ _ _ _ _ _ _ _ _ H0.out).mono ?_
    rintro e x1 ⟨rfl, hbn⟩
    replace d00 := keepC hbn d00
    replace d01 := keepC hbn d01
    replace d02 := keepC hbn d02
    replace d10 := keepC hbn d10
    replace d11 := keepC hbn d11
    replace d12 := keepC hbn d12
    replace hB := below_of hB hbn hB.size
    replace hsz := hB.size
    clear hbn
    refine ⟨_, rfl, ?_⟩
    simp only [Reg.dst, Act.put, List.setIfInBounds_toArray, List.set_cons_zero, List.set_cons_succ, List.getElem?_cons_zero, List.getElem?_cons_succ, Option.bind_some]
    refine Reg.wpV_step (v := ?urc110) (fun wq => ?hrc110) ?jrc110
    case hrc110 => (go_simp; first | done | (with_reducible rfl) | rfl)
    try simp only [Act.put, List.setIfInBounds_toArray, List.set_cons_zero, List.set_cons_succ]
    refine Reg.wpV_step (v := ?urc111) (fun wq => ?hrc111) ?jrc111
    case hrc111 => (go_simp; first | done | (with_reducible rfl) | rfl)
    try simp only [Act.put, List.setIfInBounds_toArray, List.set_cons_zero, List.set_cons_succ]
    refine Reg.wpV_step (v := ?urc112) (fun wq => ?hrc112) ?jrc112
    case hrc112 => (go_simp; first | done | (with_reducible rfl) | rfl)
    try simp only [Act.put, List.setIfInBounds_toArray, List.set_cons_zero, List.set_cons_succ]
    refine Reg.wpV_step (v := ?urc113) (fun wq => ?hrc113) ?jrc113
    case hrc113 => (go_simp; first | done | (with_reducible rfl) | rfl)
    try simp only [Act.put, List.setIfInBounds_toArray, List.set_cons_zero, List.set_cons_succ]
    refine Reg.wpV_step (v := ?urc114) (fun wq => ?hrc114) ?jrc114
    case hrc114 => (go_simp; first | done | (with_reducible rfl) | rfl)
    try simp only [Act.put, List.setIfInBounds_toArray, List.set_cons_zero, List.set_cons_succ]
    change wpList _ _ _ _ _ _
    go_wp2_with fail
    refine Reg.wp_region_call (by kernel_rfl) 6 (by kernel_rfl) ?_
    simp only [List.take_succ_cons, List.take_zero, List.drop_succ_cons, List.drop_zero]
    refine Reg.wpG_step (v := ?vrc120) (fun wq hq => ?grc120) ?krc120
    case grc120 => (have q0 := keepC hq d00; have q1 := keepC hq d01; have q2 := keepC hq d02; have q3 := keepC hq d10; have q4 := keepC hq d11; have q5 := keepC hq d12; refine Reg.gAt_val ?_; go_simp; first | done | (with_reducible rfl) | rfl)
    try simp only [Act.put, List.setIfInBounds_toArray, List.set_cons_zero, List.set_cons_succ]
    refine Reg.wpG_step (v := ?vrc121) (fun wq hq => ?grc121) ?krc121
    case grc121 => (have q0 := keepC hq d00; have q1 := keepC hq d01; have q2 := keepC hq d02; have q3 := keepC hq d10; have q4 := keepC hq d11; have q5 := keepC hq d12; refine Reg.gAt_val ?_; go_simp; first | done | (with_reducible rfl) | rfl)
    try simp only [Act.put, List.setIfInBounds_toArray, List.set_cons_zero, List.set_cons_succ]
    refine Reg.wpG_step (v := ?vrc122) (fun wq hq => ?grc122) ?krc122
    case grc122 => (have q0 := keepC hq d00; have q1 := keepC hq d01; have q2 := keepC hq d02; have q3 := keepC hq d10; have q4 := keepC hq d11; have q5 := keepC hq d12; refine Reg.gAt_val ?_; go_simp; first | done | (with_reducible rfl) | rfl)
    try simp only [Act.put, List.setIfInBounds_toArray, List.set_cons_zero, List.set_cons_succ]
    refine Reg.wpG_step (v := .agg #[.int .i64 la, .int .i64 lb, .int .i64 lc]) (fun wq hq => ?grc123) ?krc123
    case grc123 => (unfold Reg.gAt; go_simp; refine Reg.quiet_enter ?_; exact toLine_any _ _ _ _)
    try simp only [Act.put, List.setIfInBounds_toArray, List.set_cons_zero, List.set_cons_succ]
    refine Reg.wpG_step (v := ?vrc124) (fun wq hq => ?grc124) ?krc124
    case grc124 => (have q0 := keepC hq d00; have q1 := keepC hq d01; have q2 := keepC hq d02; have q3 := keepC hq d10; have q4 := keepC hq d11; have q5 := keepC hq d12; refine Reg.gAt_val ?_; go_simp; first | done | (with_reducible rfl) | rfl)
    try simp only [Act.put, List.setIfInBounds_toArray, List.set_cons_zero, List.set_cons_succ]
    refine Reg.wpG_step (v := .agg #[.int .i64 ma, .int .i64 mb, .int .i64 mc]) (fun wq hq => ?grc125) ?krc125
    case grc125 => (unfold Reg.gAt; go_simp; refine Reg.quiet_enter ?_; exact toLine_any _ _ _ _)
    try simp only [Act.put, List.setIfInBounds_toArray, List.set_cons_zero, List.set_cons_succ]
    intro wr2 hbn
    replace d00 := keepC hbn d00
    replace d01 := keepC hbn d01
    replace d02 := keepC hbn d02
    replace d10 := keepC hbn d10
    replace d11 := keepC hbn d11
    replace d12 := keepC hbn d12
    replace hB := below_of hB hbn hB.size
    replace hsz := hB.size
    clear hbn
    refine ⟨26, #[.int .i64 p, .int .i64 k, .agg #[.int .i64 la, .int .i64 lb, .int .i64 lc], .agg #[.int .i64 ma, .int .i64 mb, .int .i64 mc]], ?rarc12, ?rbrc12⟩
    case rarc12 => (intro o ho; simp at ho; subst ho; first | rfl | (go_simp; done) | (go_simp; rfl))
    refine (BisectorsOf_err _ _ _ _ _ _ _ _ _ H0.out).mono ?_
    rintro e x2 ⟨rfl, hbn⟩
    replace d00 := keepC hbn d00
    replace d01 := keepC hbn d01
    replace d02 := keepC hbn d02
    replace d10 := keepC hbn d10
    replace d11 := keepC hbn d11
    replace d12 := keepC hbn d12
    replace hB := below_of hB hbn hB.size
    replace hsz := hB.size
    clear hbn
    refine ⟨_, rfl, ?_⟩
    simp only [Reg.dst, Act.put, List.setIfInBounds_toArray, List.set_cons_zero, List.set_cons_succ, List.getElem?_cons_zero, List.getElem?_cons_succ, Option.bind_some]
    refine Reg.wpV_step (v := ?urc120) (fun wq => ?hrc120) ?jrc120
    case hrc120 => (go_simp; first | done | (with_reducible rfl) | rfl)
    try simp only [Act.put, List.setIfInBounds_toArray, List.set_cons_zero, List.set_cons_succ]
    refine Reg.wpV_step (v := ?urc121) (fun wq => ?hrc121) ?jrc121
    case hrc121 => (go_simp; first | done | (with_reducible rfl) | rfl)
    try simp only [Act.put, List.setIfInBounds_toArray, List.set_cons_zero, List.set_cons_succ]
    refine Reg.wpV_step (v := ?urc122) (fun wq => ?hrc122) ?jrc122
    case hrc122 => (go_simp; first | done | (with_reducible rfl) | rfl)
    try simp only [Act.put, List.setIfInBounds_toArray, List.set_cons_zero, List.set_cons_succ]
    refine Reg.wpV_step (v := ?urc123) (fun wq => ?hrc123) ?jrc123
    case hrc123 => (go_simp; first | done | (with_reducible rfl) | rfl)
    try simp only [Act.put, List.setIfInBounds_toArray, List.set_cons_zero, List.set_cons_succ]
    refine Reg.wpV_step (v := ?urc124) (fun wq => ?hrc124) ?jrc124
    case hrc124 => (go_simp; first | done | (with_reducible rfl) | rfl)
    try simp only [Act.put, List.setIfInBounds_toArray, List.set_cons_zero, List.set_cons_succ]
    change wpList _ _ _ _ _ _
    go_wp2_with fail
    refine (eqLineS_nil _).mono ?_
    rintro e y2 ⟨rfl, hbn⟩
    replace d00 := keepC hbn d00
    replace d01 := keepC hbn d01
    replace d02 := keepC hbn d02
    replace d10 := keepC hbn d10
    replace d11 := keepC hbn d11
    replace d12 := keepC hbn d12
    replace hB := below_of hB hbn hB.size
    replace hsz := hB.size
    clear hbn
    go_wp2_with fail
    refine (markLineS_nil _ _).mono ?_
    rintro e y3 ⟨rfl, hgn⟩
    replace d00 := hgn.cell d00 (by simp)
    replace d01 := hgn.cell d01 (by simp)
    replace d02 := hgn.cell d02 (by simp)
    replace d10 := hgn.cell d10 (by simp)
    replace d11 := hgn.cell d11 (by simp)
    replace d12 := hgn.cell d12 (by simp)
    replace hB := hB.grown hgn hsz (fun k hk => by cases hk)
    replace hsz := hB.size
    clear hgn
    go_wp2_with fail
    refine (heldLineS_nil _ _).mono ?_
    rintro e z4 ⟨rfl, hgn⟩
    replace d00 := hgn.cell d00 (by simp)
    replace d01 := hgn.cell d01 (by simp)
    replace d02 := hgn.cell d02 (by simp)
    replace d10 := hgn.cell d10 (by simp)
    replace d11 := hgn.cell d11 (by simp)
    replace d12 := hgn.cell d12 (by simp)
    replace hB := hB.grown hgn hsz (fun k hk => by cases hk)
    replace hsz := hB.size
    clear hgn
    go_wp2_with fail
    refine Reg.wp_region_call (by kernel_rfl) 6 (by kernel_rfl) ?_
    simp only [List.take_succ_cons, List.take_zero, List.drop_succ_cons, List.drop_zero]
    refine Reg.wpG_step (v := ?vrc150) (fun wq hq => ?grc150) ?krc150
    case grc150 => (have q0 := keepC hq d00; have q1 := keepC hq d01; have q2 := keepC hq d02; have q3 := keepC hq d10; have q4 := keepC hq d11; have q5 := keepC hq d12; refine Reg.gAt_val ?_; go_simp; first | done | (with_reducible rfl) | rfl)
    try simp only [Act.put, List.setIfInBounds_toArray, List.set_cons_zero, List.set_cons_succ]
    refine Reg.wpG_step (v := ?vrc151) (fun wq hq => ?grc151) ?krc151
    case grc151 => (have q0 := keepC hq d00; have q1 := keepC hq d01; have q2 := keepC hq d02; have q3 := keepC hq d10; have q4 := keepC hq d11; have q5 := keepC hq d12; refine Reg.gAt_val ?_; go_simp; first | done | (with_reducible rfl) | rfl)
    try simp only [Act.put, List.setIfInBounds_toArray, List.set_cons_zero, List.set_cons_succ]
    refine Reg.wpG_step (v := ?vrc152) (fun wq hq => ?grc152) ?krc152
    case grc152 => (have q0 := keepC hq d00; have q1 := keepC hq d01; have q2 := keepC hq d02; have q3 := keepC hq d10; have q4 := keepC hq d11; have q5 := keepC hq d12; refine Reg.gAt_val ?_; go_simp; first | done | (with_reducible rfl) | rfl)
    try simp only [Act.put, List.setIfInBounds_toArray, List.set_cons_zero, List.set_cons_succ]
    refine Reg.wpG_step (v := .agg #[.int .i64 la, .int .i64 lb, .int .i64 lc]) (fun wq hq => ?grc153) ?krc153
    case grc153 => (unfold Reg.gAt; go_simp; refine Reg.quiet_enter ?_; exact toLine_any _ _ _ _)
    try simp only [Act.put, List.setIfInBounds_toArray, List.set_cons_zero, List.set_cons_succ]
    refine Reg.wpG_step (v := ?vrc154) (fun wq hq => ?grc154) ?krc154
    case grc154 => (have q0 := keepC hq d00; have q1 := keepC hq d01; have q2 := keepC hq d02; have q3 := keepC hq d10; have q4 := keepC hq d11; have q5 := keepC hq d12; refine Reg.gAt_val ?_; go_simp; first | done | (with_reducible rfl) | rfl)
    try simp only [Act.put, List.setIfInBounds_toArray, List.set_cons_zero, List.set_cons_succ]
    refine Reg.wpG_step (v := .agg #[.int .i64 ma, .int .i64 mb, .int .i64 mc]) (fun wq hq => ?grc155) ?krc155
    case grc155 => (unfold Reg.gAt; go_simp; refine Reg.quiet_enter ?_; exact toLine_any _ _ _ _)
    try simp only [Act.put, List.setIfInBounds_toArray, List.set_cons_zero, List.set_cons_succ]
    intro wr5 hbn
    replace d00 := keepC hbn d00
    replace d01 := keepC hbn d01
    replace d02 := keepC hbn d02
    replace d10 := keepC hbn d10
    replace d11 := keepC hbn d11
    replace d12 := keepC hbn d12
    replace hB := below_of hB hbn hB.size
    replace hsz := hB.size
    clear hbn
    refine ⟨26, #[.int .i64 p, .int .i64 k, .agg #[.int .i64 la, .int .i64 lb, .int .i64 lc], .agg #[.int .i64 ma, .int .i64 mb, .int .i64 mc]], ?rarc15, ?rbrc15⟩
    case rarc15 => (intro o ho; simp at ho; subst ho; first | rfl | (go_simp; done) | (go_simp; rfl))
    refine (BisectorsOf_err _ _ _ _ _ _ _ _ _ H0.out).mono ?_
    rintro e x5 ⟨rfl, hbn⟩
    replace d00 := keepC hbn d00
    replace d01 := keepC hbn d01
    replace d02 := keepC hbn d02
    replace d10 := keepC hbn d10
    replace d11 := keepC hbn d11
    replace d12 := keepC hbn d12
    replace hB := below_of hB hbn hB.size
    replace hsz := hB.size
    clear hbn
    refine ⟨_, rfl, ?_⟩
    simp only [Reg.dst, Act.put, List.setIfInBounds_toArray, List.set_cons_zero, List.set_cons_succ, List.getElem?_cons_zero, List.getElem?_cons_succ, Option.bind_some]
    refine Reg.wpV_step (v := ?urc150) (fun wq => ?hrc150) ?jrc150
    case hrc150 => (go_simp; first | done | (with_reducible rfl) | rfl)
    try simp only [Act.put, List.setIfInBounds_toArray, List.set_cons_zero, List.set_cons_succ]
    refine Reg.wpV_step (v := ?urc151) (fun wq => ?hrc151) ?jrc151
    case hrc151 => (go_simp; first | done | (with_reducible rfl) | rfl)
    try simp only [Act.put, List.setIfInBounds_toArray, List.set_cons_zero, List.set_cons_succ]
    refine Reg.wpV_step (v := ?urc152) (fun wq => ?hrc152) ?jrc152
    case hrc152 => (go_simp; first | done | (with_reducible rfl) | rfl)
    try simp only [Act.put, List.setIfInBounds_toArray, List.set_cons_zero, List.set_cons_succ]
    refine Reg.wpV_step (v := ?urc153) (fun wq => ?hrc153) ?jrc153
    case hrc153 => (go_simp; first | done | (with_reducible rfl) | rfl)
    try simp only [Act.put, List.setIfInBounds_toArray, List.set_cons_zero, List.set_cons_succ]
    refine Reg.wpV_step (v := ?urc154) (fun wq => ?hrc154) ?jrc154
    case hrc154 => (go_simp; first | done | (with_reducible rfl) | rfl)
    try simp only [Act.put, List.setIfInBounds_toArray, List.set_cons_zero, List.set_cons_succ]
    change wpList _ _ _ _ _ _
    go_wp2_with fail
    refine (eqLineS_nil _).mono ?_
    rintro e y5 ⟨rfl, hbn⟩
    replace d00 := keepC hbn d00
    replace d01 := keepC hbn d01
    replace d02 := keepC hbn d02
    replace d10 := keepC hbn d10
    replace d11 := keepC hbn d11
    replace d12 := keepC hbn d12
    replace hB := below_of hB hbn hB.size
    replace hsz := hB.size
    clear hbn
    go_wp2_with fail
    refine (heldLineS_nil _ _).mono ?_
    rintro e z6 ⟨rfl, hgn⟩
    replace d00 := hgn.cell d00 (by simp)
    replace d01 := hgn.cell d01 (by simp)
    replace d02 := hgn.cell d02 (by simp)
    replace d10 := hgn.cell d10 (by simp)
    replace d11 := hgn.cell d11 (by simp)
    replace d12 := hgn.cell d12 (by simp)
    replace hB := hB.grown hgn hsz (fun k hk => by cases hk)
    replace hsz := hB.size
    clear hgn
    go_wp2_with fail
    go_ret
    exact ⟨rfl, hB⟩
end Go.Proofs.Ytommkkgkfjmhdaa.fnExactBisectorsOf
