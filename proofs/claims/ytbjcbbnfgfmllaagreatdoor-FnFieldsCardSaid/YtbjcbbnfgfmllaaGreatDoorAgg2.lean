/- Equality of two lines as the model reckons it. -/
import Derived.Test.YtbjcbbnfgfmllaaGreatDoorAgg
set_option linter.unusedVariables false
set_option linter.unusedSimpArgs false
set_option maxHeartbeats 1000000
set_option maxRecDepth 100000
namespace Go.Proofs.YtbjcbbnfgfmllaaGreatDoor
open Go.RowKit
theorem under_ln : Tryz.prog.underlying 44 = some (.array 3 2) := by kernel_rfl
theorem eqLn_run (a b c d e f : Int) (w : World) (wa : (Lit.int .i64 a).wf = true) (wb : (Lit.int .i64 b).wf = true) (wc : (Lit.int .i64 c).wf = true) (wd : (Lit.int .i64 d).wf = true) (we : (Lit.int .i64 e).wf = true) (wf : (Lit.int .i64 f).wf = true) :
    (Op.equalIn 10000 44 (.agg #[.int .i64 a, .int .i64 b, .int .i64 c]) (.agg #[.int .i64 d, .int .i64 e, .int .i64 f])).run Tryz.prog w = .ok (a == d && b == e && c == f) w := by
  obtain ⟨i, hi⟩ := info_i64
  rw [show (10000 : Nat) = 9999 + 1 from rfl, run_equalIn_array (w := w) (d := 9999) (xs := #[.int .i64 a, .int .i64 b, .int .i64 c]) (ys := #[.int .i64 d, .int .i64 e, .int .i64 f]) (hu := under_ln) (hi := hi)]
  have hp : Tryz.prog.plainKey 2 = true := by kernel_rfl
  have hc : Tryz.prog.cellsOf 2 = 1 := by kernel_rfl
  have k1 : ∀ x : Int, (Lit.int .i64 x).wf = true → Tryz.prog.keyLits 100 2 [.int .i64 x] = some [.int .i64 x] := by
    intro x hx
    simp [Program.keyLits, under_i64, hx]
  obtain ⟨r, hr, hiff⟩ := run_eqItems_plain (P := Tryz.prog) (w := w) (d := 9998) (he := hp) (xs := #[.int .i64 a, .int .i64 b, .int .i64 c]) (ys := #[.int .i64 d, .int .i64 e, .int .i64 f]) (D := 100) (D' := 100) (List.range 3) [[.int .i64 a], [.int .i64 b], [.int .i64 c]] [[.int .i64 d], [.int .i64 e], [.int .i64 f]]
    (by rw [hc]; simp [List.range_succ, k1 _ wa, k1 _ wb, k1 _ wc]) (by rw [hc]; simp [List.range_succ, k1 _ wd, k1 _ we, k1 _ wf])
  rw [show (9999 : Nat) = 9998 + 1 from rfl, hr]
  congr 1
  have : r = true ↔ (a == d && b == e && c == f) = true := by
    rw [hiff]
    simp [and_assoc]
  exact Bool.eq_iff_iff.2 this
theorem eqLn_small {a b c d e f : Int} (w : World) (a1 : 0 ≤ a) (a2 : a ≤ 31) (b1 : 0 ≤ b) (b2 : b ≤ 31) (c1 : 0 ≤ c) (c2 : c ≤ 31) (d1 : 0 ≤ d) (d2 : d ≤ 31) (e1 : 0 ≤ e) (e2 : e ≤ 31) (f1 : 0 ≤ f) (f2 : f ≤ 31) :
    (Op.equalIn 10000 44 (.agg #[.int .i64 a, .int .i64 b, .int .i64 c]) (.agg #[.int .i64 d, .int .i64 e, .int .i64 f])).run Tryz.prog w = .ok (a == d && b == e && c == f) w :=
  eqLn_run a b c d e f w (wf_small a1 (by omega)) (wf_small b1 (by omega)) (wf_small c1 (by omega)) (wf_small d1 (by omega)) (wf_small e1 (by omega)) (wf_small f1 (by omega))
theorem eqLn_same {a b c : Int} (w : World) (a1 : 0 ≤ a) (a2 : a ≤ 31) (b1 : 0 ≤ b) (b2 : b ≤ 31) (c1 : 0 ≤ c) (c2 : c ≤ 31) :
    (Op.equalIn 10000 44 (.agg #[.int .i64 a, .int .i64 b, .int .i64 c]) (.agg #[.int .i64 a, .int .i64 b, .int .i64 c])).run Tryz.prog w = .ok true w := by
  rw [eqLn_small w a1 a2 b1 b2 c1 c2 a1 a2 b1 b2 c1 c2]; simp
theorem eqPt_same {a b : Int} (w : World) (a1 : 0 ≤ a) (a2 : a ≤ 31) (b1 : 0 ≤ b) (b2 : b ≤ 31) :
    (Op.equalIn 10000 29 (.agg #[.int .i64 a, .int .i64 b]) (.agg #[.int .i64 a, .int .i64 b])).run Tryz.prog w = .ok true w := by
  rw [eqPt_small w a1 a2 b1 b2 a1 a2 b1 b2]; simp
end Go.Proofs.YtbjcbbnfgfmllaaGreatDoor
