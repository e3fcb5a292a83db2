/- Contracts: numbers of Archimedes, triple spreads, of both sides. -/
import Derived.Test.YteocnenjllddaaaB
set_option linter.unusedVariables false
set_option linter.unusedSimpArgs false
set_option maxRecDepth 100000
set_option maxHeartbeats 1000000
namespace Go.Proofs.Yteocnenjllddaaa
open Go.RowKit
theorem areTriple_any (p a b c : Int) (w : World) (hp : 1 ≤ p) (hp2 : p ≤ 31) (ha : 0 ≤ a) (ha2 : a ≤ 31) (hb : 0 ≤ b) (hb2 : b ≤ 31) (hc : 0 ≤ c) (hc2 : c ≤ 31) :
    Calls Try.prog 64 #[.int .i64 p, .int .i64 a, .int .i64 b, .int .i64 c] w fun e w' => e = .returned (.bool (Pl.tripleB p a b c)) ∧ w = w' := by
  have h1 := Pl.mulB (show 0 ≤ a + b + c by omega) (show a + b + c ≤ 93 by omega) (show 0 ≤ a + b + c by omega) (show a + b + c ≤ 93 by omega)
  have h2 := Pl.mulB ha ha2 ha ha2
  have h3 := Pl.mulB hb hb2 hb hb2
  have h4 := Pl.mulB hc hc2 hc hc2
  obtain ⟨h11, h12⟩ := h1
  obtain ⟨h21, h22⟩ := h2
  obtain ⟨h31, h32⟩ := h3
  obtain ⟨h41, h42⟩ := h4
  have h5 := Pl.mulB (show 0 ≤ 4 * a by omega) (show 4 * a ≤ 124 by omega) hb hb2
  obtain ⟨h51, h52⟩ := h5
  have h6 := Pl.mulB h51 h52 hc hc2
  obtain ⟨h61, h62⟩ := h6
  go_enter Try.func64, Try.ntmps64
  go_wp2_with (go_at_call 106; refine (rest_any _ _ _ hp (by omega)).mono ?_; rintro e w' ⟨rfl, rfl⟩)
  go_ret
  exact ⟨rfl, rfl⟩
theorem l03Triple_any (p a b c : Int) (w : World) (hp : 1 ≤ p) (hp2 : p ≤ 31) (ha : 0 ≤ a) (ha2 : a ≤ 31) (hb : 0 ≤ b) (hb2 : b ≤ 31) (hc : 0 ≤ c) (hc2 : c ≤ 31) :
    Calls Try.prog 60 #[.int .i64 p, .int .i64 a, .int .i64 b, .int .i64 c] w fun e w' => e = .returned (.bool (Pl.tripleB p a b c)) ∧ w = w' := by
  have h1 := Pl.mulB (show 0 ≤ a + b + c by omega) (show a + b + c ≤ 93 by omega) (show 0 ≤ a + b + c by omega) (show a + b + c ≤ 93 by omega)
  have h2 := Pl.mulB ha ha2 ha ha2
  have h3 := Pl.mulB hb hb2 hb hb2
  have h4 := Pl.mulB hc hc2 hc hc2
  obtain ⟨h11, h12⟩ := h1
  obtain ⟨h21, h22⟩ := h2
  obtain ⟨h31, h32⟩ := h3
  obtain ⟨h41, h42⟩ := h4
  have h5 := Pl.mulB (show 0 ≤ 4 * a by omega) (show 4 * a ≤ 124 by omega) hb hb2
  obtain ⟨h51, h52⟩ := h5
  have h6 := Pl.mulB h51 h52 hc hc2
  obtain ⟨h61, h62⟩ := h6
  go_enter Try.func60, Try.ntmps60
  go_wp2_with (go_at_call 105; refine (l01Mod_any _ _ _ hp (by omega)).mono ?_; rintro e w' ⟨rfl, rfl⟩)
  go_ret
  exact ⟨rfl, rfl⟩
end Go.Proofs.Yteocnenjllddaaa
