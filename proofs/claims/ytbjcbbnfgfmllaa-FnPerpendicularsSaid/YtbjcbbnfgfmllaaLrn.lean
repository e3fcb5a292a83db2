/- Contracts: null lines, one post for all codes. -/
import Derived.Test.YtbjcbbnfgfmllaaLres
import Derived.Test.YtbjcbbnfgfmllaaSw
set_option linter.unusedVariables false
set_option linter.unusedSimpArgs false
set_option maxHeartbeats 1000000
set_option maxRecDepth 100000
namespace Go.Proofs.Ytbjcbbnfgfmllaa
open Go.RowKit
theorem NullLines_res (p k ax ay : Int) (w : World) : Calls Try.prog 55 #[.int .i64 p, .int .i64 k, .agg #[.int .i64 ax, .int .i64 ay]] w fun e w' => ∃ v, e = .returned (.tuple #[v, .int .i64 (Pl.ask p (Pl.colB k && Pl.ptsB p [(ax, ay)]))]) ∧ LRes w' w.heap.size 25 3 (Pl.lnsW (fun m => Pl.nullB p k m.1 m.2.1) p ax ay).length (Pl.flat3 (Pl.lnsW (fun m => Pl.nullB p k m.1 m.2.1) p ax ay)) (Pl.ask p (Pl.colB k && Pl.ptsB p [(ax, ay)])) v ∧ Below w.heap.size w w' := by
  refine calls_or (p := Pl.ask p (Pl.colB k && Pl.ptsB p [(ax, ay)]) = 0) (fun h0 => ?_) (fun h0 => ?_)
  · refine (NullLines_ok p k ax ay w h0).mono ?_
    rintro e w' ⟨g, c, rfl, h1, h2⟩
    exact ⟨_, by rw [h0], .inl ⟨h0, g, c, rfl, h1⟩, h2⟩
  · refine (NullLines_err p k ax ay w h0).mono ?_
    rintro e w' ⟨rfl, h2⟩
    exact ⟨_, rfl, .inr ⟨h0, rfl⟩, h2⟩
theorem sNullLines_res (p k ax ay : Int) (w : World) : Calls Try.prog 56 #[.int .i64 p, .int .i64 k, .agg #[.int .i64 ax, .int .i64 ay]] w fun e w' => ∃ v, e = .returned (.tuple #[v, .int .i64 (Pl.ask p (Pl.colB k && Pl.ptsB p [(ax, ay)]))]) ∧ LRes w' w.heap.size 25 3 (Pl.lnsW (fun m => Pl.nullB p k m.1 m.2.1) p ax ay).length (Pl.flat3 (Pl.lnsW (fun m => Pl.nullB p k m.1 m.2.1) p ax ay)) (Pl.ask p (Pl.colB k && Pl.ptsB p [(ax, ay)])) v ∧ Below w.heap.size w w' := by
  refine calls_or (p := Pl.ask p (Pl.colB k && Pl.ptsB p [(ax, ay)]) = 0) (fun h0 => ?_) (fun h0 => ?_)
  · refine (sNullLines_ok p k ax ay w h0).mono ?_
    rintro e w' ⟨g, c, rfl, h1, h2⟩
    exact ⟨_, by rw [h0], .inl ⟨h0, g, c, rfl, h1⟩, h2⟩
  · refine (sNullLines_err p k ax ay w h0).mono ?_
    rintro e w' ⟨rfl, h2⟩
    exact ⟨_, rfl, .inr ⟨h0, rfl⟩, h2⟩
end Go.Proofs.Ytbjcbbnfgfmllaa
