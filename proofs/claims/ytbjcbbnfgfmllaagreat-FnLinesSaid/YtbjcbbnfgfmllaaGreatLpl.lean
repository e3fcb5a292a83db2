/- Contracts: points of a line, lines of a point, one post for all codes. -/
import Derived.Test.YtbjcbbnfgfmllaaGreatLres
import Derived.Test.YtbjcbbnfgfmllaaGreatSs
set_option linter.unusedVariables false
set_option linter.unusedSimpArgs false
set_option maxHeartbeats 1000000
set_option maxRecDepth 100000
namespace Go.Proofs.YtbjcbbnfgfmllaaGreat
open Go.RowKit
theorem PointsOn_res (p la lb lc : Int) (w : World) : Calls Tryz.prog 9 #[.int .i64 p, .agg #[.int .i64 la, .int .i64 lb, .int .i64 lc]] w fun e w' => ∃ v, e = .returned (.tuple #[v, .int .i64 (Pl.ask p (Pl.linesB p [(la, lb, lc)]))]) ∧ LRes w' w.heap.size 25 2 (Pl.ptsW (fun b => Pl.onB p b.1 b.2 la lb lc) p).length (Pl.flat2 (Pl.ptsW (fun b => Pl.onB p b.1 b.2 la lb lc) p)) (Pl.ask p (Pl.linesB p [(la, lb, lc)])) v ∧ Below w.heap.size w w' := by
  refine calls_or (p := Pl.ask p (Pl.linesB p [(la, lb, lc)]) = 0) (fun h0 => ?_) (fun h0 => ?_)
  · refine (PointsOn_ok p la lb lc w h0).mono ?_
    rintro e w' ⟨g, c, rfl, h1, h2⟩
    exact ⟨_, by rw [h0], .inl ⟨h0, g, c, rfl, h1⟩, h2⟩
  · refine (PointsOn_err p la lb lc w h0).mono ?_
    rintro e w' ⟨rfl, h2⟩
    exact ⟨_, rfl, .inr ⟨h0, rfl⟩, h2⟩
theorem sPointsOn_res (p la lb lc : Int) (w : World) : Calls Tryz.prog 23 #[.int .i64 p, .agg #[.int .i64 la, .int .i64 lb, .int .i64 lc]] w fun e w' => ∃ v, e = .returned (.tuple #[v, .int .i64 (Pl.ask p (Pl.linesB p [(la, lb, lc)]))]) ∧ LRes w' w.heap.size 25 2 (Pl.ptsW (fun b => Pl.onB p b.1 b.2 la lb lc) p).length (Pl.flat2 (Pl.ptsW (fun b => Pl.onB p b.1 b.2 la lb lc) p)) (Pl.ask p (Pl.linesB p [(la, lb, lc)])) v ∧ Below w.heap.size w w' := by
  refine calls_or (p := Pl.ask p (Pl.linesB p [(la, lb, lc)]) = 0) (fun h0 => ?_) (fun h0 => ?_)
  · refine (sPointsOn_ok p la lb lc w h0).mono ?_
    rintro e w' ⟨g, c, rfl, h1, h2⟩
    exact ⟨_, by rw [h0], .inl ⟨h0, g, c, rfl, h1⟩, h2⟩
  · refine (sPointsOn_err p la lb lc w h0).mono ?_
    rintro e w' ⟨rfl, h2⟩
    exact ⟨_, rfl, .inr ⟨h0, rfl⟩, h2⟩
theorem LinesThrough_res (p ax ay : Int) (w : World) : Calls Tryz.prog 10 #[.int .i64 p, .agg #[.int .i64 ax, .int .i64 ay]] w fun e w' => ∃ v, e = .returned (.tuple #[v, .int .i64 (Pl.ask p (Pl.ptsB p [(ax, ay)]))]) ∧ LRes w' w.heap.size 29 3 (Pl.ltAll p ax ay).length (Pl.flat3 (Pl.ltAll p ax ay)) (Pl.ask p (Pl.ptsB p [(ax, ay)])) v ∧ Below w.heap.size w w' := by
  refine calls_or (p := Pl.ask p (Pl.ptsB p [(ax, ay)]) = 0) (fun h0 => ?_) (fun h0 => ?_)
  · refine (LinesThrough_ok p ax ay w h0).mono ?_
    rintro e w' ⟨g, c, rfl, h1, h2⟩
    exact ⟨_, by rw [h0], .inl ⟨h0, g, c, rfl, h1⟩, h2⟩
  · refine (LinesThrough_err p ax ay w h0).mono ?_
    rintro e w' ⟨rfl, h2⟩
    exact ⟨_, rfl, .inr ⟨h0, rfl⟩, h2⟩
theorem sLinesThrough_res (p ax ay : Int) (w : World) : Calls Tryz.prog 25 #[.int .i64 p, .agg #[.int .i64 ax, .int .i64 ay]] w fun e w' => ∃ v, e = .returned (.tuple #[v, .int .i64 (Pl.ask p (Pl.ptsB p [(ax, ay)]))]) ∧ LRes w' w.heap.size 29 3 (Pl.ltAll p ax ay).length (Pl.flat3 (Pl.ltAll p ax ay)) (Pl.ask p (Pl.ptsB p [(ax, ay)])) v ∧ Below w.heap.size w w' := by
  refine calls_or (p := Pl.ask p (Pl.ptsB p [(ax, ay)]) = 0) (fun h0 => ?_) (fun h0 => ?_)
  · refine (sLinesThrough_ok p ax ay w h0).mono ?_
    rintro e w' ⟨g, c, rfl, h1, h2⟩
    exact ⟨_, by rw [h0], .inl ⟨h0, g, c, rfl, h1⟩, h2⟩
  · refine (sLinesThrough_err p ax ay w h0).mono ?_
    rintro e w' ⟨rfl, h2⟩
    exact ⟨_, rfl, .inr ⟨h0, rfl⟩, h2⟩
end Go.Proofs.YtbjcbbnfgfmllaaGreat
