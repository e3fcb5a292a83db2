/- Contracts: spreads of triangles and third spreads, one post for all codes. -/
import Derived.Test.YtbjcbbnfgfmllaaLres
import Derived.Test.YtbjcbbnfgfmllaaFu
import Derived.Test.YtbjcbbnfgfmllaaSj
set_option linter.unusedVariables false
set_option linter.unusedSimpArgs false
set_option maxHeartbeats 1000000
set_option maxRecDepth 100000
namespace Go.Proofs.Ytbjcbbnfgfmllaa
open Go.RowKit
theorem SpreadsOfTriangle_res (p k ax ay bx by_ cx cy : Int) (w : World) : Calls Try.prog 16 #[.int .i64 p, .int .i64 k, .agg #[.int .i64 ax, .int .i64 ay], .agg #[.int .i64 bx, .int .i64 by_], .agg #[.int .i64 cx, .int .i64 cy]] w fun e w' => ∃ v, e = .returned (.tuple #[v, .int .i64 (Pl.triC p k ax ay bx by_ cx cy)]) ∧ LRes w' w.heap.size 2 1 (Pl.sot p k ax ay bx by_ cx cy).length (Pl.sot p k ax ay bx by_ cx cy) (Pl.triC p k ax ay bx by_ cx cy) v ∧ Below w.heap.size w w' := by
  refine calls_or (p := Pl.triC p k ax ay bx by_ cx cy = 0) (fun h0 => ?_) (fun h0 => ?_)
  · refine (SpreadsOfTriangle_ok p k ax ay bx by_ cx cy w h0).mono ?_
    rintro e w' ⟨g, c, rfl, h1, h2⟩
    exact ⟨_, by rw [h0], .inl ⟨h0, g, c, rfl, h1⟩, h2⟩
  · refine (SpreadsOfTriangle_err p k ax ay bx by_ cx cy w h0).mono ?_
    rintro e w' ⟨rfl, h2⟩
    exact ⟨_, rfl, .inr ⟨h0, rfl⟩, h2⟩
theorem sSpreadsOfTriangle_res (p k ax ay bx by_ cx cy : Int) (w : World) : Calls Try.prog 17 #[.int .i64 p, .int .i64 k, .agg #[.int .i64 ax, .int .i64 ay], .agg #[.int .i64 bx, .int .i64 by_], .agg #[.int .i64 cx, .int .i64 cy]] w fun e w' => ∃ v, e = .returned (.tuple #[v, .int .i64 (Pl.triC p k ax ay bx by_ cx cy)]) ∧ LRes w' w.heap.size 2 1 (Pl.sot p k ax ay bx by_ cx cy).length (Pl.sot p k ax ay bx by_ cx cy) (Pl.triC p k ax ay bx by_ cx cy) v ∧ Below w.heap.size w w' := by
  refine calls_or (p := Pl.triC p k ax ay bx by_ cx cy = 0) (fun h0 => ?_) (fun h0 => ?_)
  · refine (sSpreadsOfTriangle_ok p k ax ay bx by_ cx cy w h0).mono ?_
    rintro e w' ⟨g, c, rfl, h1, h2⟩
    exact ⟨_, by rw [h0], .inl ⟨h0, g, c, rfl, h1⟩, h2⟩
  · refine (sSpreadsOfTriangle_err p k ax ay bx by_ cx cy w h0).mono ?_
    rintro e w' ⟨rfl, h2⟩
    exact ⟨_, rfl, .inr ⟨h0, rfl⟩, h2⟩
theorem ThirdSpreads_res (p r s : Int) (w : World) : Calls Try.prog 22 #[.int .i64 p, .int .i64 r, .int .i64 s] w fun e w' => ∃ v, e = .returned (.tuple #[v, .int .i64 (Pl.ask p (Pl.numB p r && Pl.numB p s))]) ∧ LRes w' w.heap.size 2 1 (Pl.numsW (fun t => Pl.tripleB p r s t) p.toNat).length (Pl.numsW (fun t => Pl.tripleB p r s t) p.toNat) (Pl.ask p (Pl.numB p r && Pl.numB p s)) v ∧ Below w.heap.size w w' := by
  refine calls_or (p := Pl.ask p (Pl.numB p r && Pl.numB p s) = 0) (fun h0 => ?_) (fun h0 => ?_)
  · refine (ThirdSpreads_ok p r s w h0).mono ?_
    rintro e w' ⟨g, c, rfl, h1, h2⟩
    exact ⟨_, by rw [h0], .inl ⟨h0, g, c, rfl, h1⟩, h2⟩
  · refine (ThirdSpreads_err p r s w h0).mono ?_
    rintro e w' ⟨rfl, h2⟩
    exact ⟨_, rfl, .inr ⟨h0, rfl⟩, h2⟩
theorem sThirdSpreads_res (p r s : Int) (w : World) : Calls Try.prog 28 #[.int .i64 p, .int .i64 r, .int .i64 s] w fun e w' => ∃ v, e = .returned (.tuple #[v, .int .i64 (Pl.ask p (Pl.numB p r && Pl.numB p s))]) ∧ LRes w' w.heap.size 2 1 (Pl.numsW (fun t => Pl.tripleB p r s t) p.toNat).length (Pl.numsW (fun t => Pl.tripleB p r s t) p.toNat) (Pl.ask p (Pl.numB p r && Pl.numB p s)) v ∧ Below w.heap.size w w' := by
  refine calls_or (p := Pl.ask p (Pl.numB p r && Pl.numB p s) = 0) (fun h0 => ?_) (fun h0 => ?_)
  · refine (sThirdSpreads_ok p r s w h0).mono ?_
    rintro e w' ⟨g, c, rfl, h1, h2⟩
    exact ⟨_, by rw [h0], .inl ⟨h0, g, c, rfl, h1⟩, h2⟩
  · refine (sThirdSpreads_err p r s w h0).mono ?_
    rintro e w' ⟨rfl, h2⟩
    exact ⟨_, rfl, .inr ⟨h0, rfl⟩, h2⟩
end Go.Proofs.Ytbjcbbnfgfmllaa
