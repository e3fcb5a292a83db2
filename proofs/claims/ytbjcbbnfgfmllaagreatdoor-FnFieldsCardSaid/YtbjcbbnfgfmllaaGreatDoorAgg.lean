/- Equality of two points as the model reckons it. -/
import Derived.Test.YtbjcbbnfgfmllaaGreatDoorB
import Derived.ChangeKeysEq
set_option linter.unusedVariables false
set_option linter.unusedSimpArgs false
set_option maxRecDepth 100000
set_option maxHeartbeats 1000000
namespace Go.Proofs.YtbjcbbnfgfmllaaGreatDoor
open Go.RowKit
theorem under_pt : Tryz.prog.underlying 29 = some (.array 2 2) := by kernel_rfl
theorem under_i64 : Tryz.prog.underlying 2 = some (.int .i64) := by kernel_rfl
theorem info_i64 : ∃ i, Tryz.prog.info? 2 = some i := by
  cases h : Tryz.prog.info? 2 with
  | some i => exact ⟨i, rfl⟩
  | none =>
    have h2 : (Tryz.prog.info? 2).isSome = true := by kernel_rfl
    rw [h] at h2
    cases h2
theorem wf_small {x : Int} (h0 : 0 ≤ x) (h1 : x ≤ 1000000) : (Lit.int .i64 x).wf = true := by
  have e1 : (IntKind.i64).min = -9223372036854775808 := by decide
  have e2 : (IntKind.i64).max = 9223372036854775807 := by decide
  simp only [Lit.wf, e1, e2, Bool.and_eq_true, decide_eq_true_eq]
  omega
theorem eqPt_run (a b c d : Int) (w : World) (wa : (Lit.int .i64 a).wf = true) (wb : (Lit.int .i64 b).wf = true) (wc : (Lit.int .i64 c).wf = true) (wd : (Lit.int .i64 d).wf = true) :
    (Op.equalIn 10000 29 (.agg #[.int .i64 a, .int .i64 b]) (.agg #[.int .i64 c, .int .i64 d])).run Tryz.prog w = .ok (a == c && b == d) w := by
  obtain ⟨i, hi⟩ := info_i64
  rw [show (10000 : Nat) = 9999 + 1 from rfl, run_equalIn_array (w := w) (d := 9999) (xs := #[.int .i64 a, .int .i64 b]) (ys := #[.int .i64 c, .int .i64 d]) (hu := under_pt) (hi := hi)]
  have hp : Tryz.prog.plainKey 2 = true := by kernel_rfl
  have hc : Tryz.prog.cellsOf 2 = 1 := by kernel_rfl
  have k1 : ∀ x : Int, (Lit.int .i64 x).wf = true → Tryz.prog.keyLits 100 2 [.int .i64 x] = some [.int .i64 x] := by
    intro x hx
    simp [Program.keyLits, under_i64, hx]
  obtain ⟨r, hr, hiff⟩ := run_eqItems_plain (P := Tryz.prog) (w := w) (d := 9998) (he := hp) (xs := #[.int .i64 a, .int .i64 b]) (ys := #[.int .i64 c, .int .i64 d]) (D := 100) (D' := 100) (List.range 2) [[.int .i64 a], [.int .i64 b]] [[.int .i64 c], [.int .i64 d]]
    (by rw [hc]; simp [List.range_succ, k1 _ wa, k1 _ wb]) (by rw [hc]; simp [List.range_succ, k1 _ wc, k1 _ wd])
  rw [show (9999 : Nat) = 9998 + 1 from rfl, hr]
  congr 1
  have : r = true ↔ (a == c && b == d) = true := by
    rw [hiff]
    simp
  exact Bool.eq_iff_iff.2 this
theorem eqPt_small {a b c d : Int} (w : World) (a1 : 0 ≤ a) (a2 : a ≤ 31) (b1 : 0 ≤ b) (b2 : b ≤ 31) (c1 : 0 ≤ c) (c2 : c ≤ 31) (d1 : 0 ≤ d) (d2 : d ≤ 31) :
    (Op.equalIn 10000 29 (.agg #[.int .i64 a, .int .i64 b]) (.agg #[.int .i64 c, .int .i64 d])).run Tryz.prog w = .ok (a == c && b == d) w :=
  eqPt_run a b c d w (wf_small a1 (by omega)) (wf_small b1 (by omega)) (wf_small c1 (by omega)) (wf_small d1 (by omega))
end Go.Proofs.YtbjcbbnfgfmllaaGreatDoor
