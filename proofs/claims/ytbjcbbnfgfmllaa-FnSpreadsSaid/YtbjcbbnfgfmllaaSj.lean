/- Contracts: third spreads: both sides. -/
import Derived.Test.YtbjcbbnfgfmllaaSi
set_option linter.unusedVariables false
set_option linter.unusedSimpArgs false
set_option maxHeartbeats 1000000
set_option maxRecDepth 100000
namespace Go.Proofs.Ytbjcbbnfgfmllaa
open Go.RowKit
theorem ThirdSpreads1_any (p r s : Int) (b0 b1 b2 : Nat) (w : World) (c00 : w.cell? ⟨b0, 0, none⟩ = some (.int .i64 p)) (c10 : w.cell? ⟨b1, 0, none⟩ = some (.int .i64 r)) (c20 : w.cell? ⟨b2, 0, none⟩ = some (.int .i64 s)) :
    Calls Try.prog 88 #[.pointer (some ⟨b0, 0, none⟩), .pointer (some ⟨b1, 0, none⟩), .pointer (some ⟨b2, 0, none⟩)] w fun e w' => e = .returned (.bool (Pl.numB p r && Pl.numB p s)) ∧ Below w.heap.size w w' := by
  go_enter Try.func88, Try.ntmps88
  go_wp2_with fail
  refine (areNumbers_any p _ 0 2 2 [r, s] rfl (by omega) _ ?_).mono ?_
  · intro j hj
    match j, hj with
    | 0, _ => go_simp
    | 1, _ => go_simp
  · rintro e w' ⟨rfl, rfl⟩
    rw [Pl.nums2]
    go_wp2_with fail
    go_ret
    exact ⟨rfl, by go_grown⟩
theorem ThirdSpreads2_any (t p r s : Int) (b0 b1 b2 : Nat) (w : World) (hp1 : 1 ≤ p) (hp2 : p ≤ 31) (t1 : 0 ≤ t) (t2 : t ≤ 31) (r1 : 0 ≤ r) (r2 : r ≤ 31) (s1 : 0 ≤ s) (s2 : s ≤ 31) (c00 : w.cell? ⟨b0, 0, none⟩ = some (.int .i64 p)) (c10 : w.cell? ⟨b1, 0, none⟩ = some (.int .i64 r)) (c20 : w.cell? ⟨b2, 0, none⟩ = some (.int .i64 s)) :
    Calls Try.prog 90 #[.int .i64 t, .pointer (some ⟨b0, 0, none⟩), .pointer (some ⟨b1, 0, none⟩), .pointer (some ⟨b2, 0, none⟩)] w fun e w' => e = .returned (.bool (Pl.tripleB p r s t)) ∧ Below w.heap.size w w' := by
  go_enter Try.func90, Try.ntmps90
  go_wp2_with (go_at_call 87; refine (areTriple_any _ _ _ _ _ (by omega) (by omega) (by omega) (by omega) (by omega) (by omega) (by omega) (by omega)).mono ?_; rintro e w' ⟨rfl, rfl⟩)
  go_ret
  exact ⟨rfl, by go_grown⟩
theorem ThirdSpreads_ok (p r s : Int) (w : World) (h0 : Pl.ask p (Pl.numB p r && Pl.numB p s) = 0) :
    Calls Try.prog 22 #[.int .i64 p, .int .i64 r, .int .i64 s] w fun e w' => ∃ g c, e = .returned (.tuple #[.slice (some ⟨g, 0, none⟩) (Pl.numsW (fun t => Pl.tripleB p r s t) p.toNat).length c, .int .i64 0]) ∧ Own w' (w.heap.size) 2 1 g (Pl.numsW (fun t => Pl.tripleB p r s t) p.toNat).length c (Pl.numsW (fun t => Pl.tripleB p r s t) p.toNat) ∧ Below w.heap.size w w' := by
  have hv : Hid (Pl.fieldB p = true ∧ (Pl.numB p r && Pl.numB p s) = true) := Pl.ask_ok h0
  have hp := Pl.field_bd hv.out.1
  obtain ⟨hp1, hp2⟩ := hp
  have hn := hv.out.2
  simp only [Bool.and_eq_true] at hn
  obtain ⟨r1, r2⟩ := Pl.numB_true hn.1
  obtain ⟨s1, s2⟩ := Pl.numB_true hn.2
  clear hn
  go_enter Try.func22, Try.ntmps22
  go_wp2_with fail
  refine (asked_any p _ _ (Pl.numB p r && Pl.numB p s) _ (by kernel_rfl) ?_).mono ?_
  · intro _
    exact ThirdSpreads1_any p r s _ _ _ _ (by go_simp) (by go_simp) (by go_simp)
  · rintro e w1 ⟨rfl, hb⟩
    have c00 : w1.cell? ⟨w.heap.size, 0, none⟩ = some (.int .i64 p) := cellOf hb (by go_simp) (by simp <;> omega)
    have c10 : w1.cell? ⟨w.heap.size + 1, 0, none⟩ = some (.int .i64 r) := cellOf hb (by go_simp) (by simp <;> omega)
    have c20 : w1.cell? ⟨w.heap.size + 2, 0, none⟩ = some (.int .i64 s) := cellOf hb (by go_simp) (by simp <;> omega)
    have hz : w.heap.size + 3 ≤ w1.heap.size := by have := hb.size; simp at this; omega
    have hB : Below w.heap.size w w1 := below_of (by go_grown) hb (by simp <;> omega)
    clear hb
    go_wp2_with fail
    refine (numbersWith_any p _ _ (fun n => #[.int .i64 n, .pointer (some ⟨w.heap.size, 0, none⟩), .pointer (some ⟨w.heap.size + 1, 0, none⟩), .pointer (some ⟨w.heap.size + 1 + 1, 0, none⟩)]) (fun t => Pl.tripleB p r s t) w1 (by omega) (by omega) (fun n => by first | rfl | simp) (fun n w' => by kernel_rfl) (fun n w' hn hb => ThirdSpreads2_any n p r s _ _ _ w' (by omega) (by omega) (by omega) (by omega) (by omega) (by omega) (by omega) (by omega) (keepC hb c00) (keepC hb c10) (keepC hb c20))).mono ?_
    rintro e w2 ⟨g, c, rfl, hO, hb⟩
    have hO' := hO.low hB.size
    have hB' := below_of hB hb hB.size
    clear hO hB hb
    go_wp2_with fail
    go_ret2
    exact ⟨g, c, rfl, hO', hB'⟩
theorem ThirdSpreads_err (p r s : Int) (w : World) (h0 : ¬ Pl.ask p (Pl.numB p r && Pl.numB p s) = 0) :
    Calls Try.prog 22 #[.int .i64 p, .int .i64 r, .int .i64 s] w fun e w' => e = .returned (.tuple #[.slice none 0 0, .int .i64 (Pl.ask p (Pl.numB p r && Pl.numB p s))]) ∧ Below w.heap.size w w' := by
  have hne : (Pl.ask p (Pl.numB p r && Pl.numB p s) != 0) = true := by simpa using h0
  have hne2 : (Pl.ask p (Pl.numB p r && Pl.numB p s) == 0) = false := by simpa using h0
  clear h0
  go_enter Try.func22, Try.ntmps22
  go_wp2_with fail
  refine (asked_any p _ _ (Pl.numB p r && Pl.numB p s) _ (by kernel_rfl) ?_).mono ?_
  · intro _
    exact ThirdSpreads1_any p r s _ _ _ _ (by go_simp) (by go_simp) (by go_simp)
  · rintro e w1 ⟨rfl, hb⟩
    have hz : w.heap.size + 3 ≤ w1.heap.size := by have := hb.size; simp at this; omega
    have hB : Below w.heap.size w w1 := below_of (by go_grown) hb (by simp <;> omega)
    clear hb
    go_wp2_with fail
    go_ret2
    exact ⟨rfl, hB⟩
theorem sThirdSpreads_ok (p r s : Int) (w : World) (h0 : Pl.ask p (Pl.numB p r && Pl.numB p s) = 0) :
    Calls Try.prog 28 #[.int .i64 p, .int .i64 r, .int .i64 s] w fun e w' => ∃ g c, e = .returned (.tuple #[.slice (some ⟨g, 0, none⟩) (Pl.numsW (fun t => Pl.tripleB p r s t) p.toNat).length c, .int .i64 0]) ∧ Own w' (w.heap.size) 2 1 g (Pl.numsW (fun t => Pl.tripleB p r s t) p.toNat).length c (Pl.numsW (fun t => Pl.tripleB p r s t) p.toNat) ∧ Below w.heap.size w w' := by
  have hv : Hid (Pl.fieldB p = true ∧ (Pl.numB p r && Pl.numB p s) = true) := Pl.ask_ok h0
  have hp := Pl.field_bd hv.out.1
  obtain ⟨hp1, hp2⟩ := hp
  have hn := hv.out.2
  simp only [Bool.and_eq_true] at hn
  obtain ⟨r1, r2⟩ := Pl.numB_true hn.1
  obtain ⟨s1, s2⟩ := Pl.numB_true hn.2
  clear hn
  go_enter Try.func28, Try.ntmps28
  go_wp2_with fail
  refine (l01Numbers_any p _ 0 2 2 [r, s] rfl (by omega) _ ?_).mono ?_
  · intro j hj
    match j, hj with
    | 0, _ => go_simp
    | 1, _ => go_simp
  · rintro e w1 ⟨rfl, rfl⟩
    have hB : Below w.heap.size w w := Below.refl _ _
    rw [Pl.nums2]
    go_wp2_with fail
    go_loopw [9, 10] (fun v i wr => ∃ k g c : Nat, (k : Int) ≤ p ∧ i = .int .i64 k ∧ v = .slice (some ⟨g, 0, none⟩) (Pl.numsW (fun t => Pl.tripleB p r s t) (k)).length c ∧ Own wr w.heap.size 2 1 g (Pl.numsW (fun t => Pl.tripleB p r s t) (k)).length c (Pl.numsW (fun t => Pl.tripleB p r s t) (k)) ∧ Below w.heap.size w wr) (fun _ i _ => (p - intOf i).toNat)
    case atStart => exact ⟨0, _, 0, by omega, rfl, rfl, Own.lit0 _ _ _ _ _ (by simp) (by simp), by go_grown⟩
    case round =>
      clear hB
      obtain ⟨k, g, c, hk, rfl, rfl, hO, hB⟩ := hrel
      have hs := hB.size
      have hnl := Pl.numsW_len (fun t => Pl.tripleB p r s t) k
      by_cases hlt : (k : Int) < p
      · cases hP : Pl.tripleB p r s k with
        | true =>
          go_wp2_with (first | (go_at_call 98; refine (l03Triple_any _ _ _ _ _ (by omega) (by omega) (by omega) (by omega) (by omega) (by omega) (by omega) (by omega)).mono ?_; rintro e w' ⟨rfl, rfl⟩) | (at_builtin; refine wp_push rfl _ _ 36 rfl (w.heap.size) 2 1 8 (.int .i64 0) Try.underlying36 info_int rfl (by decide) (by decide) _ _ _ _ rfl (hO.alloc _) (by omega) ⟨wr.heap.size, 0, none⟩ 1 [(k : Int)] rfl rfl (new1 _ _ _) (by simp; omega) ?_; intro g3 c3 w3 hO3 hb3 hg3 hn3))
          have hl := hid (Pl.numsW_hit (P := (fun t => Pl.tripleB p r s t)) (k := k) hP)
          have hO4 := hO3.cast (show (Pl.numsW (fun t => Pl.tripleB p r s t) (k)).length + 1 = (Pl.numsW (fun t => Pl.tripleB p r s t) (k + 1)).length by rw [hl.out]; simp) hl.out.symm
          have hB4 := (hB.alloc hs _).trans hb3
          go_roundw
          case rel => exact ⟨k + 1, g3, c3, by omega, by go_num, by rw [hl.out]; simp, hO4, hB4⟩
          case measure => simp [intOf]; omega
        | false =>
          have hl := hid (Pl.numsW_miss (P := (fun t => Pl.tripleB p r s t)) (k := k) hP)
          go_wp2_with (go_at_call 98; refine (l03Triple_any _ _ _ _ _ (by omega) (by omega) (by omega) (by omega) (by omega) (by omega) (by omega) (by omega)).mono ?_; rintro e w' ⟨rfl, rfl⟩)
          go_roundw
          case rel => exact ⟨k + 1, g, c, by omega, by go_num, by rw [hl.out], hO.cast (by rw [hl.out]) hl.out.symm, hB⟩
          case measure => simp [intOf]; omega
      · go_wp2_with fail
        go_ret2
        have : k = p.toNat := by omega
        subst this
        exact ⟨g, c, rfl, hO, hB⟩
theorem sThirdSpreads_err (p r s : Int) (w : World) (h0 : ¬ Pl.ask p (Pl.numB p r && Pl.numB p s) = 0) :
    Calls Try.prog 28 #[.int .i64 p, .int .i64 r, .int .i64 s] w fun e w' => e = .returned (.tuple #[.slice none 0 0, .int .i64 (Pl.ask p (Pl.numB p r && Pl.numB p s))]) ∧ Below w.heap.size w w' := by
  have hne : (Pl.ask p (Pl.numB p r && Pl.numB p s) != 0) = true := by simpa using h0
  clear h0
  go_enter Try.func28, Try.ntmps28
  go_wp2_with fail
  refine (l01Numbers_any p _ 0 2 2 [r, s] rfl (by omega) _ ?_).mono ?_
  · intro j hj
    match j, hj with
    | 0, _ => go_simp
    | 1, _ => go_simp
  · rintro e w1 ⟨rfl, rfl⟩
    have hB : Below w.heap.size w w := Below.refl _ _
    rw [Pl.nums2]
    go_wp2_with fail
    go_ret2
    exact ⟨rfl, by go_grown⟩
end Go.Proofs.Ytbjcbbnfgfmllaa
