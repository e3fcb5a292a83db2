/- Contracts: lists of whole numbers: how the laws compare and mark them; numbers for which something holds. -/
import Derived.Test.YtbjcbbnfgfmllaaOwn
import Derived.Test.YtbjcbbnfgfmllaaD
import Derived.Test.YtbjcbbnfgfmllaaPlA
set_option linter.unusedVariables false
set_option linter.unusedSimpArgs false
set_option maxRecDepth 100000
set_option maxHeartbeats 1000000
namespace Go.Proofs.Ytbjcbbnfgfmllaa
open Go.RowKit
theorem info_int : (Try.prog.info? 2).map (fun i => (i.zero, i.size, i.bytes)) = some (some (.int .i64 0), 1, 8) := by kernel_rfl
theorem numbersWith_any (p : Int) (fn : Nat) (cap : Array Value) (av : Int → Array Value) (P : Int → Bool) (w : World) (hp1 : 1 ≤ p) (hp2 : p ≤ 31) (hav : ∀ n : Int, #[Value.int .i64 n] ++ cap = av n)
    (hrun : ∀ (n : Int) (w' : World), (callFunc fn (av n)).run Try.prog w' = .ok (.enter fn (av n)) w')
    (h : ∀ (n : Nat) w', (n : Int) < p → Below w.heap.size w w' → Calls Try.prog fn (av n) w' fun e w'' => e = .returned (.bool (P n)) ∧ Below w'.heap.size w' w'') :
    Calls Try.prog 89 #[.int .i64 p, .func (.func fn) #[] cap] w fun e w' => ∃ g c, e = .returned (.slice (some ⟨g, 0, none⟩) (Pl.numsW P p.toNat).length c) ∧ Own w' w.heap.size 2 1 g (Pl.numsW P p.toNat).length c (Pl.numsW P p.toNat) ∧ Below w.heap.size w w' := by
  obtain rfl : (fun n : Int => #[Value.int .i64 n] ++ cap) = av := funext hav
  clear hav
  have H := hid h
  clear h
  go_enter Try.func89, Try.ntmps89
  go_wp2_with fail
  go_loopw [5, 6] (fun v i wr => ∃ k g c : Nat, (k : Int) ≤ p ∧ i = .int .i64 k ∧ v = .slice (some ⟨g, 0, none⟩) (Pl.numsW P k).length c ∧ Own wr w.heap.size 2 1 g (Pl.numsW P k).length c (Pl.numsW P k) ∧ Below w.heap.size w wr) (fun _ i _ => (p - intOf i).toNat)
  case atStart => exact ⟨0, w.heap.size, 0, by omega, rfl, rfl, Own.lit w _ _ 1 0 [] (Nat.le_refl _) (by omega) rfl, by go_grown⟩
  case round =>
    obtain ⟨k, g, c, hk, rfl, rfl, hO, hB⟩ := hrel
    have hs := hB.size
    have hnl := Pl.numsW_len P k
    by_cases hlt : (k : Int) < p
    · have hc := H.out k wr hlt hB
      have HC := hid hc
      clear hc H
      cases hP : P k with
      | true =>
        go_wp2_with fail
        refine HC.out.mono ?_
        rintro e w2 ⟨rfl, hb⟩
        clear HC
        have hO2 := hO.keep hb
        have hB2 := below_of hB hb hB.size
        clear hO hB hb
        have hs2 := hB2.size
        go_wp2_with (at_builtin; refine wp_push rfl _ _ 36 rfl w.heap.size 2 1 8 (.int .i64 0) Try.underlying36 info_int rfl (by decide) (by decide) _ _ _ _ rfl (hO2.alloc _) (by omega) ⟨w2.heap.size, 0, none⟩ 1 [(k : Int)] rfl rfl (new1 _ _ _) (by simp; omega) ?_; intro g3 c3 w3 hO3 hb3 hg3 hn3)
        have hO4 := hO3.cast (show (Pl.numsW P k).length + 1 = (Pl.numsW P (k + 1)).length by rw [Pl.numsW_hit hP]; simp) (Pl.numsW_hit hP).symm
        have hB4 := (hB2.alloc hs2 _).trans hb3
        go_roundw
        case rel => exact ⟨k + 1, g3, c3, by omega, by go_num, by rw [Pl.numsW_hit hP]; simp, hO4, hB4⟩
        case measure => simp [intOf]; omega
      | false =>
        go_wp2_with fail
        refine HC.out.mono ?_
        rintro e w2 ⟨rfl, hb⟩
        clear HC
        have hO2 := hO.keep hb
        have hB2 := below_of hB hb hB.size
        clear hO hB hb
        go_wp2_with fail
        go_roundw
        case rel => exact ⟨k + 1, g, c, by omega, by go_num, by rw [Pl.numsW_miss hP], hO2.cast (by rw [Pl.numsW_miss hP]) (Pl.numsW_miss hP).symm, hB2⟩
        case measure => simp [intOf]; omega
    · go_wp2_with fail
      go_ret
      have : k = p.toNat := by omega
      subst this
      exact ⟨g, c, rfl, hO, hB⟩
end Go.Proofs.Ytbjcbbnfgfmllaa
