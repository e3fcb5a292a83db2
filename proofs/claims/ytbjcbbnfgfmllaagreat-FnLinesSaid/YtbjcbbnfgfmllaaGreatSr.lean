/- Contracts: points and lines for which something holds. -/
import Derived.Test.YtbjcbbnfgfmllaaGreatSq
import Derived.Test.YtbjcbbnfgfmllaaGreatSp
set_option linter.unusedVariables false
set_option linter.unusedSimpArgs false
set_option maxHeartbeats 1000000
set_option maxRecDepth 100000
namespace Go.Proofs.YtbjcbbnfgfmllaaGreat
open Go.RowKit
theorem pointsWith_any (p : Int) (fn : Nat) (cap : Array Value) (av : Int → Int → Array Value) (P : Int × Int → Bool) (w : World) (hp1 : 1 ≤ p) (hp2 : p ≤ 31)
    (hav : ∀ x y : Int, #[Value.agg #[.int .i64 x, .int .i64 y]] ++ cap = av x y)
    (hrun : ∀ (x y : Int) (w' : World), (callFunc fn (av x y)).run Tryz.prog w' = .ok (.enter fn (av x y)) w')
    (h : ∀ (x y : Int) w', (x, y) ∈ Pl.ptsAll p → Below w.heap.size w w' → Calls Tryz.prog fn (av x y) w' fun e w'' => e = .returned (.bool (P (x, y))) ∧ Below w'.heap.size w' w'') :
    Calls Tryz.prog 50 #[.int .i64 p, .func (.func fn) #[] cap] w fun e w' => ∃ g c, e = .returned (.slice (some ⟨g, 0, none⟩) (Pl.ptsW P p).length c) ∧ Own w' (w.heap.size) 25 2 g (Pl.ptsW P p).length c (Pl.flat2 ((Pl.ptsW P p))) ∧ Below w.heap.size w w' := by
  obtain rfl : (fun x y : Int => #[Value.agg #[.int .i64 x, .int .i64 y]] ++ cap) = av := by funext x y; exact hav x y
  clear hav
  have H := hid h
  clear h
  go_enter Tryz.func50, Tryz.ntmps50
  go_wp2_with fail
  generalize hW : (World.alloc w (.cells #[] 25)) = W
  have hO0 : Own W w.heap.size 25 2 (w.heap.size) 0 0 [] := by subst hW; exact Own.lit0 _ _ _ _ _ (by simp) (by simp)
  have hB0 : Below w.heap.size w W := by subst hW; go_grown
  clear hW
  refine (allPoints_any p _ (by omega) (by omega)).mono ?_
  rintro e w1 ⟨g0, c0, rfl, hS, hb⟩
  have hne0 : w.heap.size ≠ g0 := by have h1 := hO0.lt; have h2 := hS.lt; omega
  have hO1 := hO0.keep hb
  have hS1 := hS.low (B' := w.heap.size) hB0.size
  have hB1 := below_of hB0 hb hB0.size
  clear hO0 hS hb hB0
  generalize hL : Pl.ptsAll p = L at *
  have HL := hid hL
  clear hL
  have hnl0 : L.length ≤ 1000 := by rw [← HL.out]; exact Pl.ptsAll_len (by omega) (by omega)
  go_wp2_with fail
  go_loopw [5, 12] (fun v i wr => ∃ k g c : Nat, k ≤ L.length ∧ i = .int .i64 k ∧ v = .slice (some ⟨g, 0, none⟩) ((L.take k).filter P).length c ∧ Own wr (w.heap.size) 25 2 g ((L.take k).filter P).length c (Pl.flat2 (((L.take k).filter P))) ∧ Hid (Own wr (w.heap.size) 25 2 g0 (L).length c0 (Pl.flat2 ((L)))) ∧ g ≠ g0 ∧ Below w.heap.size w wr) (fun _ i _ => L.length - (intOf i).toNat)
  case atStart => exact ⟨0, _, 0, by omega, rfl, rfl, hO1, hS1, hne0, hB1⟩
  case round =>
    clear hO1 hS1 hne0 hB1
    obtain ⟨k, g, c, hk, rfl, rfl, hO, hS, hne, hB⟩ := hrel
    have hs := hB.size
    have hnl := hid (Pl.take_len P L k)
    by_cases hlt : k < L.length
    · have hcell := hS.out.cell2 hlt
      have hmem := hid (Pl.getD_mem (0, 0) hlt)
      have hP1 := hid (fun h => Pl.take_hit (P := P) (l := L) (k := k) (d := (0, 0)) hlt h)
      have hP2 := hid (fun h => Pl.take_miss (P := P) (l := L) (k := k) (d := (0, 0)) hlt h)
      have hq := hid (show L.getD k (0, 0) = ((L.getD k (0, 0)).1, (L.getD k (0, 0)).2) from rfl)
      generalize hx0 : (L.getD k (0, 0)).1 = x at *
      have HX0 := hid hx0
      clear hx0
      generalize hx1 : (L.getD k (0, 0)).2 = y at *
      have HX1 := hid hx1
      clear hx1
      obtain ⟨e0, e1⟩ := hcell
      go_wp2_with fail
      generalize hW : (World.alloc wr (.cells #[.int .i64 x, .int .i64 y] 25)) = W2
      have b0 : W2.cell? ⟨wr.heap.size, 0, none⟩ = some (.int .i64 x) := by subst hW; go_simp
      have b1 : W2.cell? ⟨wr.heap.size, 1, none⟩ = some (.int .i64 y) := by subst hW; go_simp
      have hO2 : Own W2 (w.heap.size) 25 2 g ((L.take k).filter P).length c (Pl.flat2 (((L.take k).filter P))) := by subst hW; exact (hO.alloc _)
      have hS2 := hid (show Own W2 (w.heap.size) 25 2 g0 (L).length c0 (Pl.flat2 ((L))) from by subst hW; exact (hS.out.alloc _))
      have hB2 : Below w.heap.size w W2 := by subst hW; go_grown
      have hsW : wr.heap.size ≤ W2.heap.size := by subst hW; simp
      clear hW hO hS hB e0 e1
      have hm2 := hid (show (x, y) ∈ L from by have h1 := hmem.out; rw [hq.out] at h1; exact h1)
      refine (H.out x y W2 (by first | exact hm2.out | (rw [HL.out]; exact hm2.out)) hB2).mono ?_
      rintro e w2 ⟨rfl, hb⟩
      replace b0 := keepC hb b0
      replace b1 := keepC hb b1
      have hO3 := hO2.keep hb
      have hS3 := hid (hS2.out.keep hb)
      have hB3 := below_of hB2 hb hB2.size
      have hs3 := hB3.size
      clear hO2 hS2 hB2 hb H
      cases hP : P (x, y) with
      | true =>
        have hl := hid (hP1.out (by rw [hq.out]; exact hP))
        clear hP1 hP2
        go_wp2_with (at_builtin; refine wp_push rfl _ _ 34 rfl (w.heap.size) 25 2 16 (.agg #[.int .i64 0, .int .i64 0]) Tryz.underlying34 info_pt rfl (by decide) (by decide) _ _ _ _ rfl (hO3.alloc _) (by have := hnl.out; omega) ⟨w2.heap.size, 0, none⟩ 1 [x, y] rfl rfl (new2 _ _ _ _) (by simp; omega) ?_; intro g5 c5 w5 hO5 hb5 hg5 hn5)
        have hO6 := hO5.cast (show ((L.take k).filter P).length + 1 = ((L.take (k + 1)).filter P).length by rw [hl.out]; simp) (show _ = Pl.flat2 ((L.take (k + 1)).filter P) by rw [hl.out, hq.out, Pl.app2])
        have hS6 := hid ((hS3.out.alloc (.cells #[.int .i64 x, .int .i64 y] 25)).grown hg5 (by simp; exact hne))
        have hne6 : g5 ≠ g0 := by have h1 := hS3.out.lt; simp at hn5; omega
        have hB6 := (hB3.alloc hs3 _).trans hb5
        clear hO5 hb5 hg5 hn5 hO3 hS3 hB3
        go_roundw
        case rel => exact ⟨k + 1, g5, c5, by omega, by go_num, by rw [hl.out]; simp, hO6, hS6.out, hne6, hB6⟩
        case measure => simp [intOf]; omega
      | false =>
        have hl := hid (hP2.out (by rw [hq.out]; exact hP))
        clear hP1 hP2
        go_wp2_with fail
        go_roundw
        case rel => exact ⟨k + 1, g, c, by omega, by go_num, by rw [hl.out], by rw [hl.out]; exact hO3, hS3.out, hne, hB3⟩
        case measure => simp [intOf]; omega
    · go_wp2_with fail
      go_ret
      have hkl : L.length ≤ k := by omega
      have ht := Pl.take_all (P := P) hkl
      rw [ht, ← HL.out] at hO
      exact ⟨g, c, by rw [ht, ← HL.out]; rfl, hO, hB⟩
end Go.Proofs.YtbjcbbnfgfmllaaGreat
