/- FnExactCountBySpread: the walk. -/
import Derived.Test.YtjjidjcflimhgaaCb
import Derived.Test.YtjjidjcflimhgaaSi
import Derived.Test.YtjjidjcflimhgaaG
import Derived.Test.YtjjidjcflimhgaaOwn
import Derived.Test.YtjjidjcflimhgaaReg3
set_option linter.unusedVariables false
set_option linter.unusedSimpArgs false
set_option maxHeartbeats 2000000
set_option maxRecDepth 100000
namespace Go.Proofs.Ytjjidjcflimhgaa.fnExactCountBySpread
open Go.RowKit
theorem walk (p k la lb lc : Int) (_ : (Lit.int .i64 p).wf = true) (_ : (Lit.int .i64 k).wf = true) (_ : (Lit.int .i64 la).wf = true) (_ : (Lit.int .i64 lb).wf = true) (_ : (Lit.int .i64 lc).wf = true) (w : World) : Calls Try.prog 14 #[.int .i64 p, .int .i64 k, .agg #[.int .i64 la, .int .i64 lb, .int .i64 lc]] w fun e w' => e = .returned (.bool true) ∧ Below w.heap.size w w' := by
  by_cases h0 : Pl.cbsC p k la lb lc = 0
  · have hlen : (Pl.cbsL p k la lb).length ≤ 1000 := by have h2 := Pl.field_bd (Pl.ask_ok (Pl.cbsC_ok h0).1).1; rw [Pl.cbsL, Pl.cbs_len]; omega
    have H0 := hid h0
    clear h0
    go_enter Try.func14, Try.ntmps14
    go_wp2_with fail
    generalize hW : (World.alloc w (.cells #[.int .i64 la, .int .i64 lb, .int .i64 lc] 22)) = W
    have d00 : W.cell? ⟨w.heap.size, 0, none⟩ = some (.int .i64 la) := by subst hW; go_simp
    have d01 : W.cell? ⟨w.heap.size, 1, none⟩ = some (.int .i64 lb) := by subst hW; go_simp
    have d02 : W.cell? ⟨w.heap.size, 2, none⟩ = some (.int .i64 lc) := by subst hW; go_simp
    have hB : Below w.heap.size w W := by subst hW; go_grown
    clear hW
    have hsz := hB.size
    refine (toLine_any _ _ _ _).mono ?_
    rintro e wt0 ⟨rfl, hbn⟩
    replace d00 := keepC hbn d00
    replace d01 := keepC hbn d01
    replace d02 := keepC hbn d02
    replace hB := below_of hB hbn hB.size
    replace hsz := hB.size
    clear hbn
    go_wp2_with fail
    refine (sCountBySpread_ok _ _ _ _ _ _ H0.out).mono ?_
    rintro e x1 ⟨g1, c1, rfl, o1, hbn⟩
    replace d00 := keepC hbn d00
    replace d01 := keepC hbn d01
    replace d02 := keepC hbn d02
    replace hB := below_of hB hbn hB.size
    replace hsz := hB.size
    clear hbn
    go_wp2_with fail
    refine (toLine_any _ _ _ _).mono ?_
    rintro e wt2 ⟨rfl, hbn⟩
    replace d00 := keepC hbn d00
    replace d01 := keepC hbn d01
    replace d02 := keepC hbn d02
    replace o1 := o1.keep (by first | exact hbn | exact Below.trans (by go_grown) hbn)
    replace hB := below_of hB hbn hB.size
    replace hsz := hB.size
    clear hbn
    go_wp2_with fail
    refine (CountBySpread_ok _ _ _ _ _ _ H0.out).mono ?_
    rintro e x2 ⟨g2, c2, rfl, o2, hbn⟩
    have hgl := o1.lt
    have hgg := o2.lt
    have hne : g1 ≠ g2 := by omega
    have hgw : w.heap.size ≤ g2 := by omega
    have hgd0 : w.heap.size < g2 := by have h1 := World.block_lt_of_cell? _ _ d00; simp at h1; omega
    clear hgl hgg
    replace d00 := keepC hbn d00
    replace d01 := keepC hbn d01
    replace d02 := keepC hbn d02
    replace o1 := o1.keep (by first | exact hbn | exact Below.trans (by go_grown) hbn)
    replace hB := below_of hB hbn hB.size
    replace hsz := hB.size
    clear hbn
    go_wp2_with fail
    refine (eqInt64S_same _ _ _ _ _ (Pl.cbsL p k la lb) _ (by omega) (fun j hj => o2.cell hj) (fun j hj => o1.cell hj)).mono ?_
    rintro e y2 ⟨rfl, hgn⟩
    replace d00 := hgn.cell d00 (by simp)
    replace d01 := hgn.cell d01 (by simp)
    replace d02 := hgn.cell d02 (by simp)
    replace o1 := o1.grown hgn (by simp)
    replace o2 := o2.grown hgn (by simp)
    replace hB := hB.grown hgn hsz (fun k hk => by cases hk)
    replace hsz := hB.size
    clear hgn
    go_wp2_with fail
    refine (markInt64S_any _ _ _ _ _ _ 1 _ (by omega) (by omega) (by omega) o2).mono ?_
    rintro e y3 ⟨rfl, o3, hgn⟩
    replace d00 := hgn.cell d00 (by simp <;> omega)
    replace d01 := hgn.cell d01 (by simp <;> omega)
    replace d02 := hgn.cell d02 (by simp <;> omega)
    replace o1 := o1.grown hgn (by simp; omega)
    replace hB := hB.grown hgn hsz (fun k hk => by cases hk; exact hgw)
    replace hsz := hB.size
    clear hgn
    go_wp2_with fail
    refine (heldInt64S_any _ _ _ 1 _ (by omega) (by omega) (by omega) (fun j hj => by rw [o3.cell (by rw [marks_length]; exact hj), marks_getD 1 hj])).mono ?_
    rintro e z4 ⟨rfl, hgn⟩
    replace d00 := hgn.cell d00 (by simp)
    replace d01 := hgn.cell d01 (by simp)
    replace d02 := hgn.cell d02 (by simp)
    replace o1 := o1.grown hgn (by simp)
    replace o3 := o3.grown hgn (by simp)
    replace hB := hB.grown hgn hsz (fun k hk => by cases hk)
    replace hsz := hB.size
    clear hgn
    go_wp2_with fail
    refine (toLine_any _ _ _ _).mono ?_
    rintro e wt4 ⟨rfl, hbn⟩
    replace d00 := keepC hbn d00
    replace d01 := keepC hbn d01
    replace d02 := keepC hbn d02
    replace o1 := o1.keep (by first | exact hbn | exact Below.trans (by go_grown) hbn)
    replace o3 := o3.keep (by first | exact hbn | exact Below.trans (by go_grown) hbn)
    replace hB := below_of hB hbn hB.size
    replace hsz := hB.size
    clear hbn
    go_wp2_with fail
    refine (CountBySpread_ok _ _ _ _ _ _ H0.out).mono ?_
    rintro e x5 ⟨g5, c5, rfl, o5, hbn⟩
    replace d00 := keepC hbn d00
    replace d01 := keepC hbn d01
    replace d02 := keepC hbn d02
    replace o1 := o1.keep (by first | exact hbn | exact Below.trans (by go_grown) hbn)
    replace o3 := o3.keep (by first | exact hbn | exact Below.trans (by go_grown) hbn)
    replace hB := below_of hB hbn hB.size
    replace hsz := hB.size
    clear hbn
    go_wp2_with fail
    refine (eqInt64S_same _ _ _ _ _ (Pl.cbsL p k la lb) _ (by omega) (fun j hj => o5.cell hj) (fun j hj => o1.cell hj)).mono ?_
    rintro e y5 ⟨rfl, hgn⟩
    replace d00 := hgn.cell d00 (by simp)
    replace d01 := hgn.cell d01 (by simp)
    replace d02 := hgn.cell d02 (by simp)
    replace o1 := o1.grown hgn (by simp)
    replace o3 := o3.grown hgn (by simp)
    replace o5 := o5.grown hgn (by simp)
    replace hB := hB.grown hgn hsz (fun k hk => by cases hk)
    replace hsz := hB.size
    clear hgn
    go_wp2_with fail
    refine (heldInt64S_any _ _ _ 1 _ (by omega) (by omega) (by omega) (fun j hj => by rw [o3.cell (by rw [marks_length]; exact hj), marks_getD 1 hj])).mono ?_
    rintro e z6 ⟨rfl, hgn⟩
    replace d00 := hgn.cell d00 (by simp)
    replace d01 := hgn.cell d01 (by simp)
    replace d02 := hgn.cell d02 (by simp)
    replace o1 := o1.grown hgn (by simp)
    replace o3 := o3.grown hgn (by simp)
    replace o5 := o5.grown hgn (by simp)
    replace hB := hB.grown hgn hsz (fun k hk => by cases hk)
    replace hsz := hB.size
    clear hgn
    go_wp2_with fail
    go_ret
    exact ⟨rfl, hB⟩
  · have H0 := hid h0
    clear h0
    go_enter Try.func14, Try.ntmps14
    go_wp2_with fail
    generalize hW : (World.alloc w (.cells #[.int .i64 la, .int .i64 lb, .int .i64 lc] 22)) = W
    have d00 : W.cell? ⟨w.heap.size, 0, none⟩ = some (.int .i64 la) := by subst hW; go_simp
    have d01 : W.cell? ⟨w.heap.size, 1, none⟩ = some (.int .i64 lb) := by subst hW; go_simp
    have d02 : W.cell? ⟨w.heap.size, 2, none⟩ = some (.int .i64 lc) := by subst hW; go_simp
    have hB : Below w.heap.size w W := by subst hW; go_grown
    clear hW
    have hsz := hB.size
    refine (toLine_any _ _ _ _).mono ?_
    rintro e wt0 ⟨rfl, hbn⟩
    replace d00 := keepC hbn d00
    replace d01 := keepC hbn d01
    replace d02 := keepC hbn d02
    replace hB := below_of hB hbn hB.size
    replace hsz := hB.size
    clear hbn
    go_wp2_with fail
    refine (sCountBySpread_err _ _ _ _ _ _ H0.out).mono ?_
    rintro e x1 ⟨rfl, hbn⟩
    replace d00 := keepC hbn d00
    replace d01 := keepC hbn d01
    replace d02 := keepC hbn d02
    replace hB := below_of hB hbn hB.size
    replace hsz := hB.size
    clear hbn
    go_wp2_with fail
    refine (toLine_any _ _ _ _).mono ?_
    rintro e wt2 ⟨rfl, hbn⟩
    replace d00 := keepC hbn d00
    replace d01 := keepC hbn d01
    replace d02 := keepC hbn d02
    replace hB := below_of hB hbn hB.size
    replace hsz := hB.size
    clear hbn
    go_wp2_with fail
    refine (CountBySpread_err _ _ _ _ _ _ H0.out).mono ?_
    rintro e x2 ⟨rfl, hbn⟩
    replace d00 := keepC hbn d00
    replace d01 := keepC hbn d01
    replace d02 := keepC hbn d02
    replace hB := below_of hB hbn hB.size
    replace hsz := hB.size
    clear hbn
    go_wp2_with fail
    refine (eqInt64S_nil _).mono ?_
    rintro e y2 ⟨rfl, hgn⟩
    replace d00 := hgn.cell d00 (by simp)
    replace d01 := hgn.cell d01 (by simp)
    replace d02 := hgn.cell d02 (by simp)
    replace hB := hB.grown hgn hsz (fun k hk => by cases hk)
    replace hsz := hB.size
    clear hgn
    go_wp2_with fail
    refine (markInt64S_nil _ _).mono ?_
    rintro e y3 ⟨rfl, hgn⟩
    replace d00 := hgn.cell d00 (by simp)
    replace d01 := hgn.cell d01 (by simp)
    replace d02 := hgn.cell d02 (by simp)
    replace hB := hB.grown hgn hsz (fun k hk => by cases hk)
    replace hsz := hB.size
    clear hgn
    go_wp2_with fail
    refine (heldInt64S_nil _ _).mono ?_
    rintro e z4 ⟨rfl, hgn⟩
    replace d00 := hgn.cell d00 (by simp)
    replace d01 := hgn.cell d01 (by simp)
    replace d02 := hgn.cell d02 (by simp)
    replace hB := hB.grown hgn hsz (fun k hk => by cases hk)
    replace hsz := hB.size
    clear hgn
    go_wp2_with fail
    refine (toLine_any _ _ _ _).mono ?_
    rintro e wt4 ⟨rfl, hbn⟩
    replace d00 := keepC hbn d00
    replace d01 := keepC hbn d01
    replace d02 := keepC hbn d02
    replace hB := below_of hB hbn hB.size
    replace hsz := hB.size
    clear hbn
    go_wp2_with fail
    refine (CountBySpread_err _ _ _ _ _ _ H0.out).mono ?_
    rintro e x5 ⟨rfl, hbn⟩
    replace d00 := keepC hbn d00
    replace d01 := keepC hbn d01
    replace d02 := keepC hbn d02
    replace hB := below_of hB hbn hB.size
    replace hsz := hB.size
    clear hbn
    go_wp2_with fail
    refine (eqInt64S_nil _).mono ?_
    rintro e y5 ⟨rfl, hgn⟩
    replace d00 := hgn.cell d00 (by simp)
    replace d01 := hgn.cell d01 (by simp)
    replace d02 := hgn.cell d02 (by simp)
    replace hB := hB.grown hgn hsz (fun k hk => by cases hk)
    replace hsz := hB.size
    clear hgn
    go_wp2_with fail
    refine (heldInt64S_nil _ _).mono ?_
    rintro e z6 ⟨rfl, hgn⟩
    replace d00 := hgn.cell d00 (by simp)
    replace d01 := hgn.cell d01 (by simp)
    replace d02 := hgn.cell d02 (by simp)
    replace hB := hB.grown hgn hsz (fun k hk => by cases hk)
    replace hsz := hB.size
    clear hgn
    go_wp2_with fail
    go_ret
    exact ⟨rfl, hB⟩
end Go.Proofs.Ytjjidjcflimhgaa.fnExactCountBySpread
