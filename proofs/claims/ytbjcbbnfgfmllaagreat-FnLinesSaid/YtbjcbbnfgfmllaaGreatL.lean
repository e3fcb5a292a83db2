/- Contracts: combinations of points: exported functions of both sides. -/
import Derived.Test.YtbjcbbnfgfmllaaGreatH2
import Derived.Test.YtbjcbbnfgfmllaaGreatPlA
import Derived.Test.YtbjcbbnfgfmllaaGreatK
set_option linter.unusedVariables false
set_option linter.unusedSimpArgs false
set_option maxRecDepth 100000
set_option maxHeartbeats 1000000
namespace Go.Proofs.YtbjcbbnfgfmllaaGreat
open Go.RowKit
theorem comb_spec2 (p a b t : Int) : (a + t * ((b - a) % p)) % p = Pl.comb p a b t := by unfold Pl.comb; rw [Int.add_emod, Pl.mulR, ← Int.add_emod]
end Go.Proofs.YtbjcbbnfgfmllaaGreat
