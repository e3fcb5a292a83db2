/- Contracts: points at a quadrance: helpers and exported functions of both sides. -/
import Derived.Test.YtbjcbbnfgfmllaaSr
import Derived.Test.YtbjcbbnfgfmllaaH2
import Derived.Test.YtbjcbbnfgfmllaaK
set_option linter.unusedVariables false
set_option linter.unusedSimpArgs false
set_option maxHeartbeats 1000000
set_option maxRecDepth 100000
namespace Go.Proofs.Ytbjcbbnfgfmllaa
open Go.RowKit
theorem pointsAt1_any (bx by_ p k ax ay q : Int) (b0 b1 b2 b3 : Nat) (w : World) (hp1 : 1 ≤ p) (hp2 : p ≤ 31) (bx1 : 0 ≤ bx) (bx2 : bx ≤ 31) (by_1 : 0 ≤ by_) (by_2 : by_ ≤ 31) (ax1 : 0 ≤ ax) (ax2 : ax ≤ 31) (ay1 : 0 ≤ ay) (ay2 : ay ≤ 31) (c00 : w.cell? ⟨b0, 0, none⟩ = some (.int .i64 p)) (c10 : w.cell? ⟨b1, 0, none⟩ = some (.int .i64 k)) (c20 : w.cell? ⟨b2, 0, none⟩ = some (.int .i64 ax)) (c21 : w.cell? ⟨b2, 1, none⟩ = some (.int .i64 ay)) (c30 : w.cell? ⟨b3, 0, none⟩ = some (.int .i64 q)) :
    Calls Try.prog 163 #[.agg #[.int .i64 bx, .int .i64 by_], .pointer (some ⟨b0, 0, none⟩), .pointer (some ⟨b1, 0, none⟩), .pointer (some ⟨b2, 0, none⟩), .pointer (some ⟨b3, 0, none⟩)] w fun e w' => e = .returned (.bool (Pl.quad p k ax ay bx by_ == q)) ∧ Below w.heap.size w w' := by
  have hB := (Below.refl w.heap.size w).alloc (Nat.le_refl _) (.cells #[.int .i64 bx, .int .i64 by_] 33)
  replace c00 := keepA (.cells #[.int .i64 bx, .int .i64 by_] 33) c00
  replace c10 := keepA (.cells #[.int .i64 bx, .int .i64 by_] 33) c10
  replace c20 := keepA (.cells #[.int .i64 bx, .int .i64 by_] 33) c20
  replace c21 := keepA (.cells #[.int .i64 bx, .int .i64 by_] 33) c21
  replace c30 := keepA (.cells #[.int .i64 bx, .int .i64 by_] 33) c30
  go_enter Try.func163, Try.ntmps163
  go_wp2_with fail
  generalize hW : (World.alloc w (.cells #[.int .i64 bx, .int .i64 by_] 33)) = W at *
  have p0 : W.cell? ⟨w.heap.size, 0, none⟩ = some (.int .i64 bx) := by subst hW; go_simp
  have p1 : W.cell? ⟨w.heap.size, 1, none⟩ = some (.int .i64 by_) := by subst hW; go_simp
  clear hW
  refine Reg.wp_region_grow (by kernel_rfl) 7 7 (fun _ => (#[.int .i64 0, .int .i64 0], 0)) (by kernel_rfl) ?_ ?_
  · intro k o h1 h2
    omega
  simp only [List.take_succ_cons, List.take_zero, List.drop_succ_cons, List.drop_zero]
  refine Reg.wpG_step (v := ?vr1x0) (fun wq hq => ?gr1x0) ?kr1x0
  case gr1x0 => (have q0 := keepC hq c00; have q1 := keepC hq c10; have q2 := keepC hq c20; have q3 := keepC hq c21; have q4 := keepC hq c30; have q5 := keepC hq p0; have q6 := keepC hq p1; refine Reg.gAt_val ?_; go_simp; first | done | (with_reducible rfl) | rfl)
  try simp only [Act.put, List.setIfInBounds_toArray, List.set_cons_zero, List.set_cons_succ]
  refine Reg.wpG_step (v := ?vr1x1) (fun wq hq => ?gr1x1) ?kr1x1
  case gr1x1 => (have q0 := keepC hq c00; have q1 := keepC hq c10; have q2 := keepC hq c20; have q3 := keepC hq c21; have q4 := keepC hq c30; have q5 := keepC hq p0; have q6 := keepC hq p1; refine Reg.gAt_val ?_; go_simp; first | done | (with_reducible rfl) | rfl)
  try simp only [Act.put, List.setIfInBounds_toArray, List.set_cons_zero, List.set_cons_succ]
  refine Reg.wpG_step (v := ?vr1x2) (fun wq hq => ?gr1x2) ?kr1x2
  case gr1x2 => (have q0 := keepC hq c00; have q1 := keepC hq c10; have q2 := keepC hq c20; have q3 := keepC hq c21; have q4 := keepC hq c30; have q5 := keepC hq p0; have q6 := keepC hq p1; refine Reg.gAt_val ?_; go_simp; first | done | (with_reducible rfl) | rfl)
  try simp only [Act.put, List.setIfInBounds_toArray, List.set_cons_zero, List.set_cons_succ]
  refine Reg.wpG_step (v := ?vr1x3) (fun wq hq => ?gr1x3) ?kr1x3
  case gr1x3 => (have q0 := keepC hq c00; have q1 := keepC hq c10; have q2 := keepC hq c20; have q3 := keepC hq c21; have q4 := keepC hq c30; have q5 := keepC hq p0; have q6 := keepC hq p1; refine Reg.gAt_val ?_; go_simp; first | done | (with_reducible rfl) | rfl)
  try simp only [Act.put, List.setIfInBounds_toArray, List.set_cons_zero, List.set_cons_succ]
  refine Reg.wpG_step (v := .int .i64 (Pl.quad p k ax ay bx by_)) (fun wq hq => ?gr1x4) ?kr1x4
  case gr1x4 => (unfold Reg.gAt; go_simp; refine Reg.quiet_enter ?_; exact quadrance_any _ _ _ _ _ _ _ (by omega) (by omega) (by omega) (by omega) (by omega) (by omega) (by omega) (by omega) (by omega) (by omega))
  try simp only [Act.put, List.setIfInBounds_toArray, List.set_cons_zero, List.set_cons_succ]
  refine Reg.wpG_step (v := ?vr1x5) (fun wq hq => ?gr1x5) ?kr1x5
  case gr1x5 => (have q0 := keepC hq c00; have q1 := keepC hq c10; have q2 := keepC hq c20; have q3 := keepC hq c21; have q4 := keepC hq c30; have q5 := keepC hq p0; have q6 := keepC hq p1; refine Reg.gAt_val ?_; go_simp; first | done | (with_reducible rfl) | rfl)
  try simp only [Act.put, List.setIfInBounds_toArray, List.set_cons_zero, List.set_cons_succ]
  refine Reg.wpG_step (v := ?vr1x6) (fun wq hq => ?gr1x6) ?kr1x6
  case gr1x6 => (have q0 := keepC hq c00; have q1 := keepC hq c10; have q2 := keepC hq c20; have q3 := keepC hq c21; have q4 := keepC hq c30; have q5 := keepC hq p0; have q6 := keepC hq p1; refine Reg.gAt_val ?_; go_simp; first | done | (with_reducible rfl) | rfl)
  try simp only [Act.put, List.setIfInBounds_toArray, List.set_cons_zero, List.set_cons_succ]
  intro w2 g hB2 hg hd
  clear hg hd
  change wpList _ _ _ _ (Reg.putPtrs _ g [] _) _
  simp only [Reg.putPtrs]
  replace c00 := keepC hB2 c00
  replace c10 := keepC hB2 c10
  replace c20 := keepC hB2 c20
  replace c21 := keepC hB2 c21
  replace c30 := keepC hB2 c30
  replace p0 := keepC hB2 p0
  replace p1 := keepC hB2 p1
  replace hB := below_of hB hB2 hB.size
  clear hB2 
  go_wp2_with fail
  go_ret
  exact ⟨rfl, hB⟩
theorem pointsAt_any (p k ax ay q : Int) (w : World) (hp1 : 1 ≤ p) (hp2 : p ≤ 31) (ax1 : 0 ≤ ax) (ax2 : ax ≤ 31) (ay1 : 0 ≤ ay) (ay2 : ay ≤ 31) :
    Calls Try.prog 114 #[.int .i64 p, .int .i64 k, .agg #[.int .i64 ax, .int .i64 ay], .int .i64 q] w fun e w' => ∃ g c, e = .returned (.slice (some ⟨g, 0, none⟩) (Pl.ptsW (fun b => Pl.quad p k ax ay b.1 b.2 == q) p).length c) ∧ Own w' (w.heap.size) 33 2 g (Pl.ptsW (fun b => Pl.quad p k ax ay b.1 b.2 == q) p).length c (Pl.flat2 ((Pl.ptsW (fun b => Pl.quad p k ax ay b.1 b.2 == q) p))) ∧ Below w.heap.size w w' := by
  go_enter Try.func114, Try.ntmps114
  go_wp2_with fail
  generalize hW : (World.alloc (World.alloc (World.alloc (World.alloc w (.cells #[.int .i64 p] 2)) (.cells #[.int .i64 k] 2)) (.cells #[.int .i64 ax, .int .i64 ay] 33)) (.cells #[.int .i64 q] 2)) = W
  have d00 : W.cell? ⟨w.heap.size, 0, none⟩ = some (.int .i64 p) := by subst hW; go_simp
  have d10 : W.cell? ⟨w.heap.size + 1, 0, none⟩ = some (.int .i64 k) := by subst hW; go_simp
  have d20 : W.cell? ⟨w.heap.size + 1 + 1, 0, none⟩ = some (.int .i64 ax) := by subst hW; go_simp
  have d21 : W.cell? ⟨w.heap.size + 1 + 1, 1, none⟩ = some (.int .i64 ay) := by subst hW; go_simp
  have d30 : W.cell? ⟨w.heap.size + 1 + 1 + 1, 0, none⟩ = some (.int .i64 q) := by subst hW; go_simp
  have hB : Below w.heap.size w W := by subst hW; go_grown
  clear hW
  refine (pointsWith_any p _ _ (fun x y => #[.agg #[.int .i64 x, .int .i64 y], .pointer (some ⟨w.heap.size, 0, none⟩), .pointer (some ⟨w.heap.size + 1, 0, none⟩), .pointer (some ⟨w.heap.size + 1 + 1, 0, none⟩), .pointer (some ⟨w.heap.size + 1 + 1 + 1, 0, none⟩)]) (fun b => Pl.quad p k ax ay b.1 b.2 == q) W (by omega) (by omega) (fun x y => by first | rfl | simp) (fun x y w' => by kernel_rfl) (fun x y w' hm hb => ?_)).mono ?_
  · obtain ⟨x1, x2, y1, y2⟩ := Pl.mem_ptsAll (by omega) hm
    exact pointsAt1_any x y p k ax ay q _ _ _ _ w' (by omega) (by omega) (by omega) (by omega) (by omega) (by omega) (by omega) (by omega) (by omega) (by omega) (keepC hb d00) (keepC hb d10) (keepC hb d20) (keepC hb d21) (keepC hb d30)
  rintro e w2 ⟨g, c, rfl, hO, hb⟩
  have hO' := hO.low hB.size
  have hB' := below_of hB hb hB.size
  clear hO hB hb
  go_wp2_with fail
  go_ret
  exact ⟨g, c, rfl, hO', hB'⟩
theorem l02At_any (p k ax ay q : Int) (w : World) (hp1 : 1 ≤ p) (hp2 : p ≤ 31) (ax1 : 0 ≤ ax) (ax2 : ax ≤ 31) (ay1 : 0 ≤ ay) (ay2 : ay ≤ 31) :
    Calls Try.prog 115 #[.int .i64 p, .int .i64 k, .agg #[.int .i64 ax, .int .i64 ay], .int .i64 q] w fun e w' => ∃ g c, e = .returned (.slice (some ⟨g, 0, none⟩) (Pl.ptsW (fun b => Pl.quad p k ax ay b.1 b.2 == q) p).length c) ∧ Own w' (w.heap.size) 33 2 g (Pl.ptsW (fun b => Pl.quad p k ax ay b.1 b.2 == q) p).length c (Pl.flat2 ((Pl.ptsW (fun b => Pl.quad p k ax ay b.1 b.2 == q) p))) ∧ Below w.heap.size w w' := by
  obtain ⟨w1, hw1⟩ : ∃ w1, (World.alloc w (.cells #[.int .i64 ax, .int .i64 ay] 33)) = w1 := ⟨_, rfl⟩
  have c00 : w1.cell? ⟨w.heap.size, 0, none⟩ = some (.int .i64 ax) := by subst hw1; go_simp
  have c01 : w1.cell? ⟨w.heap.size, 1, none⟩ = some (.int .i64 ay) := by subst hw1; go_simp
  have hB : Below w.heap.size w w1 := by subst hw1; go_grown
  have HW := hid hw1
  clear hw1
  go_enter Try.func115, Try.ntmps115
  go_wp2_with fail
  rw [HW.out]
  have hgs : w1.heap.size = w.heap.size + 1 := by rw [← HW.out]; simp
  have HGS := hid hgs
  clear hgs
  simp only [← HGS.out]
  obtain ⟨n, hn1, hn2⟩ : ∃ n : Nat, p ≤ n ∧ (n : Int) ≤ p := ⟨p.toNat, by omega, by omega⟩
  have HBB := hid hB
  clear hB
  go_loopw [9, 10] (fun v i wr => ∃ x g c : Nat, x ≤ n ∧ i = .int .i64 x ∧ v = .slice (some ⟨g, 0, none⟩) (Pl.bf (fun b => Pl.quad p k ax ay b.1 b.2 == q) n x 0).length c ∧ Own wr (w1.heap.size) 33 2 g (Pl.bf (fun b => Pl.quad p k ax ay b.1 b.2 == q) n x 0).length c (Pl.flat2 ((Pl.bf (fun b => Pl.quad p k ax ay b.1 b.2 == q) n x 0))) ∧ Below w1.heap.size w1 wr) (fun _ i _ => n - (intOf i).toNat)
  case atStart => exact ⟨0, _, 0, by omega, rfl, by rw [Pl.bf_0]; rfl, by rw [Pl.bf_0]; exact Own.lit0 _ _ _ _ _ rfl (Nat.le_refl _), (Below.refl _ _).alloc (Nat.le_refl _) _⟩
  case round =>
    obtain ⟨x, g, c, hx, rfl, rfl, hO, hB⟩ := hrel
    by_cases hlt : x < n
    · have hltp : (x : Int) < p := by omega
      go_wp2_with fail
      go_loopw [9, 11] (fun v i wr => ∃ y g c : Nat, y ≤ n ∧ i = .int .i64 y ∧ v = .slice (some ⟨g, 0, none⟩) (Pl.bf (fun b => Pl.quad p k ax ay b.1 b.2 == q) n x y).length c ∧ Own wr (w1.heap.size) 33 2 g (Pl.bf (fun b => Pl.quad p k ax ay b.1 b.2 == q) n x y).length c (Pl.flat2 ((Pl.bf (fun b => Pl.quad p k ax ay b.1 b.2 == q) n x y))) ∧ Below w1.heap.size w1 wr) (fun _ i _ => n - (intOf i).toNat)
      case atStart => exact ⟨0, g, c, by omega, rfl, rfl, hO, hB⟩
      case round =>
        clear hO hB
        obtain ⟨y, g, c, hy, rfl, rfl, hO, hB⟩ := hrel
        have hs := hB.size
        have hnl := hid (Pl.bf_len (P := fun b => Pl.quad p k ax ay b.1 b.2 == q) (p := n) (x := x) (y := y) (by omega) hx hy)
        by_cases hlt2 : y < n
        · have hlt2p : (y : Int) < p := by omega
          have kc00 := keepA (.cells #[.int .i64 (x : Int), .int .i64 (y : Int)] 33) (keepC hB c00)
          have kc01 := keepA (.cells #[.int .i64 (x : Int), .int .i64 (y : Int)] 33) (keepC hB c01)
          go_wp2_with fail
          generalize hW : (World.alloc wr (.cells #[.int .i64 (x : Int), .int .i64 (y : Int)] 33)) = W2
          have b0 : W2.cell? ⟨wr.heap.size, 0, none⟩ = some (.int .i64 (x : Int)) := by subst hW; go_simp
          have b1 : W2.cell? ⟨wr.heap.size, 1, none⟩ = some (.int .i64 (y : Int)) := by subst hW; go_simp
          rw [hW] at kc00
          rw [hW] at kc01
          have hO2 : Own W2 (w1.heap.size) 33 2 g (Pl.bf (fun b => Pl.quad p k ax ay b.1 b.2 == q) n x y).length c (Pl.flat2 ((Pl.bf (fun b => Pl.quad p k ax ay b.1 b.2 == q) n x y))) := by subst hW; exact hO.alloc _
          have hB2 : Below w1.heap.size w1 W2 := by subst hW; exact hB.alloc hs _
          clear hW hO hB hs
          refine (l02Quadrance_any p k ax ay x y _ (by omega) (by omega) (by omega) (by omega) (by omega) (by omega) (by omega) (by omega) (by omega) (by omega)).mono ?_
          rintro e w2 ⟨rfl, hb⟩
          replace b0 := keepC hb b0
          replace b1 := keepC hb b1
          replace kc00 := keepC hb kc00
          replace kc01 := keepC hb kc01
          have hO3 := hO2.keep hb
          have hB3 := below_of hB2 hb hB2.size
          have hs3 := hB3.size
          clear hO2 hB2 hb
          cases hP : (Pl.quad p k ax ay x y == q) with
          | true =>
            have hl := hid (Pl.bf_hit (P := fun b => Pl.quad p k ax ay b.1 b.2 == q) (p := n) (x := x) (y := y) hP)
            go_wp2_with (at_builtin; refine wp_push rfl _ _ 53 rfl (w1.heap.size) 33 2 16 (.agg #[.int .i64 0, .int .i64 0]) Try.underlying53 info_pt rfl (by decide) (by decide) _ _ _ _ rfl (hO3.alloc _) (by have := hnl.out; omega) ⟨w2.heap.size, 0, none⟩ 1 [(x : Int), (y : Int)] rfl rfl (new2 _ _ _ _) (by simp; omega) ?_; intro g5 c5 w5 hO5 hb5 hg5 hn5)
            have hO6 := hO5.cast (show (Pl.bf (fun b => Pl.quad p k ax ay b.1 b.2 == q) n x y).length + 1 = (Pl.bf (fun b => Pl.quad p k ax ay b.1 b.2 == q) n x (y + 1)).length by rw [hl.out]; simp) (show _ = Pl.flat2 (Pl.bf (fun b => Pl.quad p k ax ay b.1 b.2 == q) n x (y + 1)) by rw [hl.out, Pl.app2])
            have hB6 := (hB3.alloc hs3 _).trans hb5
            clear hO5 hb5 hg5 hn5 hO3 hB3
            go_roundw
            case rel => exact ⟨y + 1, g5, c5, by omega, by go_num, by rw [hl.out]; simp, hO6, hB6⟩
            case measure => simp [intOf]; omega
          | false =>
            have hl := hid (Pl.bf_miss (P := fun b => Pl.quad p k ax ay b.1 b.2 == q) (p := n) (x := x) (y := y) hP)
            go_wp2_with fail
            go_roundw
            case rel => exact ⟨y + 1, g, c, by omega, by go_num, by rw [hl.out], by rw [hl.out]; exact hO3, hB3⟩
            case measure => simp [intOf]; omega
        · have hyn : y = n := by omega
          subst hyn
          have hl := hid (Pl.bf_x (fun b => Pl.quad p k ax ay b.1 b.2 == q) y x)
          go_wp2_with fail
          go_roundw
          case rel => exact ⟨x + 1, g, c, by omega, by go_num, by rw [hl.out], by rw [hl.out]; exact hO, hB⟩
          case measure => simp [intOf]; omega
    · go_wp2_with fail
      have hxn : x = n := by omega
      subst hxn
      have hfin := Pl.bf_fin (P := fun b => Pl.quad p k ax ay b.1 b.2 == q) hn1 hn2
      rw [hfin] at hO
      go_ret
      exact ⟨g, c, by rw [hfin]; rfl, hO.low HBB.out.size, below_of HBB.out hB HBB.out.size⟩
end Go.Proofs.Ytbjcbbnfgfmllaa
