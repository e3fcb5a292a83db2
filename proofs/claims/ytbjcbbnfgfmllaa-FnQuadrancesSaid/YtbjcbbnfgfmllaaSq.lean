/- Contracts: all points, lines through a point, those for which something holds. -/
import Derived.Test.YtbjcbbnfgfmllaaOwn
import Derived.Test.YtbjcbbnfgfmllaaPlA
import Derived.Test.YtbjcbbnfgfmllaaH
set_option linter.unusedVariables false
set_option linter.unusedSimpArgs false
set_option maxHeartbeats 1000000
set_option maxRecDepth 100000
namespace Go.Proofs.Ytbjcbbnfgfmllaa
open Go.RowKit
theorem info_pt : (Try.prog.info? 33).map (fun i => (i.zero, i.size, i.bytes)) = some (some (.agg #[.int .i64 0, .int .i64 0]), 2, 16) := by kernel_rfl
theorem info_ln : (Try.prog.info? 25).map (fun i => (i.zero, i.size, i.bytes)) = some (some (.agg #[.int .i64 0, .int .i64 0, .int .i64 0]), 3, 24) := by kernel_rfl
theorem allPoints_any (p : Int) (w : World) (hp1 : 1 ≤ p) (hp2 : p ≤ 31) :
    Calls Try.prog 170 #[.int .i64 p] w fun e w' => ∃ g c, e = .returned (.slice (some ⟨g, 0, none⟩) (Pl.ptsAll p).length c) ∧ Own w' (w.heap.size) 33 2 g (Pl.ptsAll p).length c (Pl.flat2 ((Pl.ptsAll p))) ∧ Below w.heap.size w w' := by
  obtain ⟨n, rfl⟩ := Int.eq_ofNat_of_zero_le (show 0 ≤ p by omega)
  go_enter Try.func170, Try.ntmps170
  go_wp2_with fail
  go_loopw [3, 4] (fun v i wr => ∃ x g c : Nat, x ≤ n ∧ i = .int .i64 x ∧ v = .slice (some ⟨g, 0, none⟩) (Pl.bf (fun _ => true) n x 0).length c ∧ Own wr (w.heap.size) 33 2 g (Pl.bf (fun _ => true) n x 0).length c (Pl.flat2 ((Pl.bf (fun _ => true) n x 0))) ∧ Below w.heap.size w wr) (fun _ i _ => n - (intOf i).toNat)
  case atStart => exact ⟨0, _, 0, by omega, rfl, by rw [Pl.bf_0]; rfl, by rw [Pl.bf_0]; exact Own.lit0 _ _ _ _ _ rfl (Nat.le_refl _), by go_grown⟩
  case round =>
    obtain ⟨x, g, c, hx, rfl, rfl, hO, hB⟩ := hrel
    by_cases hlt : x < n
    · go_wp2_with fail
      go_loopw [3, 5] (fun v i wr => ∃ y g c : Nat, y ≤ n ∧ i = .int .i64 y ∧ v = .slice (some ⟨g, 0, none⟩) (Pl.bf (fun _ => true) n x y).length c ∧ Own wr (w.heap.size) 33 2 g (Pl.bf (fun _ => true) n x y).length c (Pl.flat2 ((Pl.bf (fun _ => true) n x y))) ∧ Below w.heap.size w wr) (fun _ i _ => n - (intOf i).toNat)
      case atStart => exact ⟨0, g, c, by omega, rfl, rfl, hO, hB⟩
      case round =>
        clear hO hB
        obtain ⟨y, g, c, hy, rfl, rfl, hO, hB⟩ := hrel
        have hs := hB.size
        have hnl := Pl.bf_len (P := fun _ => true) (p := n) (x := x) (y := y) (by omega) hx hy
        by_cases hlt2 : y < n
        · have hl := hid (Pl.bf_hit (P := fun _ => true) (p := n) (x := x) (y := y) rfl)
          go_wp2_with (at_builtin; refine wp_push rfl _ _ 53 rfl (w.heap.size) 33 2 16 (.agg #[.int .i64 0, .int .i64 0]) Try.underlying53 info_pt rfl (by decide) (by decide) _ _ _ _ rfl (hO.alloc _) (by omega) ⟨wr.heap.size, 0, none⟩ 1 [(x : Int), (y : Int)] rfl rfl (new2 _ _ _ _) (by simp; omega) ?_; intro g3 c3 w3 hO3 hb3 hg3 hn3)
          have hO4 := hO3.cast (show (Pl.bf (fun _ => true) n x y).length + 1 = (Pl.bf (fun _ => true) n x (y + 1)).length by rw [hl.out]; simp) (show _ = Pl.flat2 (Pl.bf (fun _ => true) n x (y + 1)) by rw [hl.out, Pl.app2])
          have hB4 := (hB.alloc hs _).trans hb3
          clear hg3 hn3 hO3 hb3 hO hB
          go_roundw
          case rel => exact ⟨y + 1, g3, c3, by omega, by go_num, by rw [hl.out]; simp, hO4, hB4⟩
          case measure => simp [intOf]; omega
        · have hyn : y = n := by omega
          subst hyn
          have hl := hid (Pl.bf_x (fun _ => true) y x)
          go_wp2_with fail
          go_roundw
          case rel => exact ⟨x + 1, g, c, by omega, by go_num, by rw [hl.out], by rw [hl.out]; exact hO, hB⟩
          case measure => simp [intOf]; omega
    · go_wp2_with fail
      go_ret
      have hxn : x = n := by omega
      subst hxn
      rw [Pl.bf_end, Pl.ptsAll_eq] at hO
      exact ⟨g, c, by rw [Pl.bf_end, Pl.ptsAll_eq]; rfl, hO, hB⟩
theorem linesThrough_any (p ax ay : Int) (w : World) (hp1 : 1 ≤ p) (hp2 : p ≤ 31) (ax1 : 0 ≤ ax) (ax2 : ax ≤ 31) (ay1 : 0 ≤ ay) (ay2 : ay ≤ 31) :
    Calls Try.prog 164 #[.int .i64 p, .agg #[.int .i64 ax, .int .i64 ay]] w fun e w' => ∃ g c, e = .returned (.slice (some ⟨g, 0, none⟩) (Pl.ltAll p ax ay).length c) ∧ Own w' (w.heap.size) 25 3 g (Pl.ltAll p ax ay).length c (Pl.flat3 ((Pl.ltAll p ax ay))) ∧ Below w.heap.size w w' := by
  have r0n := Int.emod_nonneg (-ay) (show p ≠ 0 by omega)
  have r0l := Int.emod_lt_of_pos (-ay) (show 0 < p by omega)
  have e0 : IntKind.i64.wrap (-ay) = -ay := IntWalk.i64_in _ (by omega)
  have e1 : IntKind.i64.wrap (-ax) = -ax := IntWalk.i64_in _ (by omega)
  go_enter Try.func164, Try.ntmps164
  go_wp2_with (go_at_call 70; refine (rest_any _ _ _ (by omega) (by omega)).mono ?_; rintro e w' ⟨rfl, rfl⟩)
  go_loopw [5, 6] (fun v i wr => ∃ k g c : Nat, (k : Int) ≤ p ∧ i = .int .i64 k ∧ v = .slice (some ⟨g, 0, none⟩) (Pl.ltTo p ax ay (k)).length c ∧ Own wr (w.heap.size + 1) 25 3 g (Pl.ltTo p ax ay (k)).length c (Pl.flat3 ((Pl.ltTo p ax ay (k)))) ∧ wr.cell? ⟨w.heap.size, 0, none⟩ = some (.int .i64 ax) ∧ wr.cell? ⟨w.heap.size, 1, none⟩ = some (.int .i64 ay) ∧ Below w.heap.size w wr) (fun _ i _ => (p - intOf i).toNat)
  case atStart => exact ⟨0, _, 1, by omega, rfl, rfl, Own.lit' _ _ _ _ _ 1 [0, 1, (-ay) % p] _ (by simp) rfl (by simp) (by omega) rfl, by go_simp, by go_simp, by go_grown⟩
  case round =>
    obtain ⟨k, g, c, hk, rfl, rfl, hO, c0, c1, hB⟩ := hrel
    have hs := hB.size
    have hs2 := World.block_lt_of_cell? wr _ c0
    have hnl := hid (Pl.ltTo_len p ax ay k)
    by_cases hlt : (k : Int) < p
    · have hl := hid (Pl.ltTo_succ p ax ay k)
      have m1 := Pl.mulB (show 0 ≤ (k : Int) by omega) (show (k : Int) ≤ 31 by omega) (show 0 ≤ ay by omega) (show ay ≤ 31 by omega)
      obtain ⟨m1a, m1b⟩ := m1
      have e2 : IntKind.i64.wrap ((k : Int) * ay) = (k : Int) * ay := IntWalk.i64_in _ (by omega)
      have e3 : IntKind.i64.wrap (-ax - (k : Int) * ay) = -ax - (k : Int) * ay := IntWalk.i64_in _ (by omega)
      have r1n := Int.emod_nonneg (-ax - (k : Int) * ay) (show p ≠ 0 by omega)
      have r1l := Int.emod_lt_of_pos (-ax - (k : Int) * ay) (show 0 < p by omega)
      go_wp2_with (first | (go_at_call 70; refine (rest_any _ _ _ (by omega) (by omega)).mono ?_; rintro e w' ⟨rfl, rfl⟩) | (at_builtin; refine wp_push rfl _ _ 68 rfl (w.heap.size + 1) 25 3 24 (.agg #[.int .i64 0, .int .i64 0, .int .i64 0]) Try.underlying68 info_ln rfl (by decide) (by decide) _ _ _ _ rfl (hO.alloc _) (by rw [hnl.out]; omega) ⟨wr.heap.size, 0, none⟩ 1 [1, (k : Int), ((-ax - (k : Int) * ay) % p)] rfl rfl (new3 _ _ _ _ _) (by simp; omega) ?_; intro g3 c3 w3 hO3 hb3 hg3 hn3))
      have hO4 := hO3.cast (show (Pl.ltTo p ax ay (k)).length + 1 = (Pl.ltTo p ax ay (k + 1)).length by rw [hl.out]; simp) (show _ = Pl.flat3 (Pl.ltTo p ax ay (k + 1)) by rw [hl.out, Pl.app3])
      have hB4 := (hB.alloc hs _).trans (hb3.mono (Nat.le_succ _))
      have c04 := cellOf hb3 (keepA (.cells #[.int .i64 1, .int .i64 (k : Int), .int .i64 ((-ax - (k : Int) * ay) % p)] 25) c0) (by simp)
      have c14 := cellOf hb3 (keepA (.cells #[.int .i64 1, .int .i64 (k : Int), .int .i64 ((-ax - (k : Int) * ay) % p)] 25) c1) (by simp)
      clear hg3 hn3 hO3 hb3 hO hB c0 c1
      go_roundw
      case rel => exact ⟨k + 1, g3, c3, by omega, by go_num, by rw [hl.out]; simp, hO4, c04, c14, hB4⟩
      case measure => simp [intOf]; omega
    · go_wp2_with fail
      go_ret
      have : k = p.toNat := by omega
      subst this
      exact ⟨g, c, rfl, hO.low (Nat.le_succ _), hB⟩
end Go.Proofs.Ytbjcbbnfgfmllaa
