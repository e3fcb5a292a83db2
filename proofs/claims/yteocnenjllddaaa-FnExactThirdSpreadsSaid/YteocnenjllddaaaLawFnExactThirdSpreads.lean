/- FnExactThirdSpreads: the walk. -/
import Derived.Test.YteocnenjllddaaaSj
import Derived.Test.YteocnenjllddaaaOwn
set_option linter.unusedVariables false
set_option linter.unusedSimpArgs false
set_option maxHeartbeats 2000000
set_option maxRecDepth 100000
namespace Go.Proofs.Yteocnenjllddaaa.fnExactThirdSpreads
open Go.RowKit
theorem walk (p r s : Int) (_ : (Lit.int .i64 p).wf = true) (_ : (Lit.int .i64 r).wf = true) (_ : (Lit.int .i64 s).wf = true) (w : World) : Calls Try.prog 5 #[.int .i64 p, .int .i64 r, .int .i64 s] w fun e w' => e = .returned (.bool true) ∧ Below w.heap.size w w' := by
  by_cases h0 : Pl.ask p (Pl.numB p r && Pl.numB p s) = 0
  · have hlen : (Pl.numsW (fun t => Pl.tripleB p r s t) p.toNat).length ≤ 1000 := by have h1 := Pl.numsW_len (fun t => Pl.tripleB p r s t) p.toNat; have h2 := Pl.field_bd (Pl.ask_ok h0).1; omega
    have H0 := hid h0
    clear h0
    go_enter Try.func5, Try.ntmps5
    go_wp2_with fail
    generalize hW : w = W
    have hB : Below w.heap.size w W := by subst hW; go_grown
    clear hW
    have hsz := hB.size
    refine (sThirdSpreads_ok _ _ _ _ H0.out).mono ?_
    rintro e x1 ⟨g1, c1, rfl, o1, hbn⟩
    replace hB := below_of hB hbn hB.size
    replace hsz := hB.size
    clear hbn
    go_wp2_with fail
    refine (ThirdSpreads_ok _ _ _ _ H0.out).mono ?_
    rintro e x2 ⟨g2, c2, rfl, o2, hbn⟩
    have hgl := o1.lt
    have hgg := o2.lt
    have hne : g1 ≠ g2 := by omega
    have hgw : w.heap.size ≤ g2 := by omega
    clear hgl hgg
    replace o1 := o1.keep (by first | exact hbn | exact Below.trans (by go_grown) hbn)
    replace hB := below_of hB hbn hB.size
    replace hsz := hB.size
    clear hbn
    go_wp2_with fail
    refine (eqInt64S_same _ _ _ _ _ (Pl.numsW (fun t => Pl.tripleB p r s t) p.toNat) _ (by omega) (fun j hj => o2.cell hj) (fun j hj => o1.cell hj)).mono ?_
    rintro e y2 ⟨rfl, hgn⟩
    replace o1 := o1.grown hgn (by simp)
    replace o2 := o2.grown hgn (by simp)
    replace hB := hB.grown hgn hsz (fun k hk => by cases hk)
    replace hsz := hB.size
    clear hgn
    go_wp2_with fail
    refine (markInt64S_any _ _ _ _ _ _ 1 _ (by omega) (by omega) (by omega) o2).mono ?_
    rintro e y3 ⟨rfl, o3, hgn⟩
    replace o1 := o1.grown hgn (by simp; omega)
    replace hB := hB.grown hgn hsz (fun k hk => by cases hk; exact hgw)
    replace hsz := hB.size
    clear hgn
    go_wp2_with fail
    refine (heldInt64S_any _ _ _ 1 _ (by omega) (by omega) (by omega) (fun j hj => by rw [o3.cell (by rw [marks_length]; exact hj), marks_getD 1 hj])).mono ?_
    rintro e z4 ⟨rfl, hgn⟩
    replace o1 := o1.grown hgn (by simp)
    replace o3 := o3.grown hgn (by simp)
    replace hB := hB.grown hgn hsz (fun k hk => by cases hk)
    replace hsz := hB.size
    clear hgn
    go_wp2_with fail
    refine (ThirdSpreads_ok _ _ _ _ H0.out).mono ?_
    rintro e x5 ⟨g5, c5, rfl, o5, hbn⟩
    replace o1 := o1.keep (by first | exact hbn | exact Below.trans (by go_grown) hbn)
    replace o3 := o3.keep (by first | exact hbn | exact Below.trans (by go_grown) hbn)
    replace hB := below_of hB hbn hB.size
    replace hsz := hB.size
    clear hbn
    go_wp2_with fail
    refine (eqInt64S_same _ _ _ _ _ (Pl.numsW (fun t => Pl.tripleB p r s t) p.toNat) _ (by omega) (fun j hj => o5.cell hj) (fun j hj => o1.cell hj)).mono ?_
    rintro e y5 ⟨rfl, hgn⟩
    replace o1 := o1.grown hgn (by simp)
    replace o3 := o3.grown hgn (by simp)
    replace o5 := o5.grown hgn (by simp)
    replace hB := hB.grown hgn hsz (fun k hk => by cases hk)
    replace hsz := hB.size
    clear hgn
    go_wp2_with fail
    refine (heldInt64S_any _ _ _ 1 _ (by omega) (by omega) (by omega) (fun j hj => by rw [o3.cell (by rw [marks_length]; exact hj), marks_getD 1 hj])).mono ?_
    rintro e z6 ⟨rfl, hgn⟩
    replace o1 := o1.grown hgn (by simp)
    replace o3 := o3.grown hgn (by simp)
    replace o5 := o5.grown hgn (by simp)
    replace hB := hB.grown hgn hsz (fun k hk => by cases hk)
    replace hsz := hB.size
    clear hgn
    go_wp2_with fail
    go_ret
    exact ⟨rfl, hB⟩
  · have H0 := hid h0
    clear h0
    go_enter Try.func5, Try.ntmps5
    go_wp2_with fail
    generalize hW : w = W
    have hB : Below w.heap.size w W := by subst hW; go_grown
    clear hW
    have hsz := hB.size
    refine (sThirdSpreads_err _ _ _ _ H0.out).mono ?_
    rintro e x1 ⟨rfl, hbn⟩
    replace hB := below_of hB hbn hB.size
    replace hsz := hB.size
    clear hbn
    go_wp2_with fail
    refine (ThirdSpreads_err _ _ _ _ H0.out).mono ?_
    rintro e x2 ⟨rfl, hbn⟩
    replace hB := below_of hB hbn hB.size
    replace hsz := hB.size
    clear hbn
    go_wp2_with fail
    refine (eqInt64S_nil _).mono ?_
    rintro e y2 ⟨rfl, hgn⟩
    replace hB := hB.grown hgn hsz (fun k hk => by cases hk)
    replace hsz := hB.size
    clear hgn
    go_wp2_with fail
    refine (markInt64S_nil _ _).mono ?_
    rintro e y3 ⟨rfl, hgn⟩
    replace hB := hB.grown hgn hsz (fun k hk => by cases hk)
    replace hsz := hB.size
    clear hgn
    go_wp2_with fail
    refine (heldInt64S_nil _ _).mono ?_
    rintro e z4 ⟨rfl, hgn⟩
    replace hB := hB.grown hgn hsz (fun k hk => by cases hk)
    replace hsz := hB.size
    clear hgn
    go_wp2_with fail
    refine (ThirdSpreads_err _ _ _ _ H0.out).mono ?_
    rintro e x5 ⟨rfl, hbn⟩
    replace hB := below_of hB hbn hB.size
    replace hsz := hB.size
    clear hbn
    go_wp2_with fail
    refine (eqInt64S_nil _).mono ?_
    rintro e y5 ⟨rfl, hgn⟩
    replace hB := hB.grown hgn hsz (fun k hk => by cases hk)
    replace hsz := hB.size
    clear hgn
    go_wp2_with fail
    refine (heldInt64S_nil _ _).mono ?_
    rintro e z6 ⟨rfl, hgn⟩
    replace hB := hB.grown hgn hsz (fun k hk => by cases hk)
    replace hsz := hB.size
    clear hgn
    go_wp2_with fail
    go_ret
    exact ⟨rfl, hB⟩
end Go.Proofs.Yteocnenjllddaaa.fnExactThirdSpreads
