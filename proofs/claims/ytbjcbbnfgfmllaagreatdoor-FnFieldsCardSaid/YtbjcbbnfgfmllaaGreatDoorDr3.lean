/- Contract of l01From: the source of a code. -/
import Derived.Test.YtbjcbbnfgfmllaaGreatDoorDr2
import Derived.Test.YtbjcbbnfgfmllaaGreatDoorRegA
set_option linter.unusedVariables false
set_option linter.unusedSimpArgs false
set_option maxHeartbeats 1000000
set_option maxRecDepth 100000
namespace Go.Proofs.YtbjcbbnfgfmllaaGreatDoor
open Go.RowKit
theorem from_any (v : Value) (B : Nat) (w : World) (hv : Bytes w B v) (hlow : B ≤ w.heap.size) :
    Calls Tryz.prog 72 #[v] w fun e w' => e = .returned (.pointer (some ⟨w.heap.size, 0, none⟩)) ∧ Src w' B w.heap.size v ∧ Below w.heap.size w w' := by
  obtain ⟨o, n, c, rfl, hn, h0, hc⟩ := hv
  go_enter Tryz.func72, Tryz.ntmps72
  go_wp2_with fail
  generalize hW : (World.alloc w _) = W
  have hs : Src W B w.heap.size (.slice o n c) := by
    subst hW
    refine ⟨?_, hlow, by simp, by go_simp, ⟨0, by go_simp, by omega, by omega⟩, ⟨_, by go_simp; rfl⟩, fun j => by go_simp⟩
    refine ⟨o, n, c, rfl, hn, h0, fun ad ha => ⟨(hc ad ha).1, fun j hj => ?_⟩⟩
    obtain ⟨b, h1, h2⟩ := (hc ad ha).2 j hj
    exact ⟨b, keepA _ h1, h2⟩
  have hB : Below w.heap.size w W := by subst hW; go_grown
  clear hW hc
  go_loopw [4] (fun i wr => ∃ j : Nat, j ≤ n ∧ i = .int .i64 j ∧ Src wr B w.heap.size (.slice o n c) ∧ Below w.heap.size w wr) (fun i _ => n - (intOf i).toNat)
  case atStart => exact ⟨0, by omega, rfl, hs, hB⟩
  case round =>
    clear hs hB
    obtain ⟨j, hj, rfl, hs, hB⟩ := hrel
    by_cases hlt : j < n
    · obtain ⟨ad, rfl⟩ : ∃ ad, o = some ad := by
        cases o with
        | none => have := h0 rfl; omega
        | some ad => exact ⟨ad, rfl⟩
      have c0 := hs.code
      have yf := hs.free 2
      obtain ⟨h, c2⟩ := hs.hash
      obtain ⟨_, _, _, he, _, _, hc⟩ := hs.bytes
      cases he
      obtain ⟨b, hb, hb0, hb1⟩ := (hc ad rfl).2 j hlt
      clear hc
      go_wp2_with fail
      refine Reg.wp_region_grow (by kernel_rfl) 15 15 (fun _ => (#[.int .i64 0, .int .i64 0], 0)) (by kernel_rfl) ?_ ?_
      · intro k o h1 h2
        omega
      simp only [List.take_succ_cons, List.take_zero, List.drop_succ_cons, List.drop_zero]
      refine Reg.wpG_step (v := ?vr1x0) (fun wq hq => ?gr1x0) ?kr1x0
      case gr1x0 => (have q1 := keepC hq c0; have q2 := keepC hq c2; have q3 := keepC hq hb; refine Reg.gAt_val ?_; go_simp; first | done | (with_reducible rfl) | rfl)
      try simp only [Act.put, List.setIfInBounds_toArray, List.set_cons_zero, List.set_cons_succ]
      refine Reg.wpG_step (v := ?vr1x1) (fun wq hq => ?gr1x1) ?kr1x1
      case gr1x1 => (have q1 := keepC hq c0; have q2 := keepC hq c2; have q3 := keepC hq hb; refine Reg.gAt_val ?_; go_simp; first | done | (with_reducible rfl) | rfl)
      try simp only [Act.put, List.setIfInBounds_toArray, List.set_cons_zero, List.set_cons_succ]
      refine Reg.wpG_step (v := ?vr1x2) (fun wq hq => ?gr1x2) ?kr1x2
      case gr1x2 => (have q1 := keepC hq c0; have q2 := keepC hq c2; have q3 := keepC hq hb; refine Reg.gAt_val ?_; go_simp; first | done | (with_reducible rfl) | rfl)
      try simp only [Act.put, List.setIfInBounds_toArray, List.set_cons_zero, List.set_cons_succ]
      refine Reg.wpG_step (v := ?vr1x3) (fun wq hq => ?gr1x3) ?kr1x3
      case gr1x3 => (have q1 := keepC hq c0; have q2 := keepC hq c2; have q3 := keepC hq hb; refine Reg.gAt_val ?_; go_simp; first | done | (with_reducible rfl) | rfl)
      try simp only [Act.put, List.setIfInBounds_toArray, List.set_cons_zero, List.set_cons_succ]
      refine Reg.wpG_step (v := ?vr1x4) (fun wq hq => ?gr1x4) ?kr1x4
      case gr1x4 => (have q1 := keepC hq c0; have q2 := keepC hq c2; have q3 := keepC hq hb; refine Reg.gAt_val ?_; go_simp; first | done | (with_reducible rfl) | rfl)
      try simp only [Act.put, List.setIfInBounds_toArray, List.set_cons_zero, List.set_cons_succ]
      refine Reg.wpG_step (v := ?vr1x5) (fun wq hq => ?gr1x5) ?kr1x5
      case gr1x5 => (have q1 := keepC hq c0; have q2 := keepC hq c2; have q3 := keepC hq hb; refine Reg.gAt_val ?_; go_simp; first | done | (with_reducible rfl) | rfl)
      try simp only [Act.put, List.setIfInBounds_toArray, List.set_cons_zero, List.set_cons_succ]
      refine Reg.wpG_step (v := ?vr1x6) (fun wq hq => ?gr1x6) ?kr1x6
      case gr1x6 => (have q1 := keepC hq c0; have q2 := keepC hq c2; have q3 := keepC hq hb; refine Reg.gAt_val ?_; go_simp; first | done | (with_reducible rfl) | rfl)
      try simp only [Act.put, List.setIfInBounds_toArray, List.set_cons_zero, List.set_cons_succ]
      refine Reg.wpG_step (v := ?vr1x7) (fun wq hq => ?gr1x7) ?kr1x7
      case gr1x7 => (have q1 := keepC hq c0; have q2 := keepC hq c2; have q3 := keepC hq hb; refine Reg.gAt_val ?_; go_simp; first | done | (with_reducible rfl) | rfl)
      try simp only [Act.put, List.setIfInBounds_toArray, List.set_cons_zero, List.set_cons_succ]
      refine Reg.wpG_step (v := ?vr1x8) (fun wq hq => ?gr1x8) ?kr1x8
      case gr1x8 => (have q1 := keepC hq c0; have q2 := keepC hq c2; have q3 := keepC hq hb; refine Reg.gAt_val ?_; go_simp; first | done | (with_reducible rfl) | rfl)
      try simp only [Act.put, List.setIfInBounds_toArray, List.set_cons_zero, List.set_cons_succ]
      refine Reg.wpG_step (v := ?vr1x9) (fun wq hq => ?gr1x9) ?kr1x9
      case gr1x9 => (have q1 := keepC hq c0; have q2 := keepC hq c2; have q3 := keepC hq hb; refine Reg.gAt_val ?_; go_simp; first | done | (with_reducible rfl) | rfl)
      try simp only [Act.put, List.setIfInBounds_toArray, List.set_cons_zero, List.set_cons_succ]
      refine Reg.wpG_step (v := ?vr1x10) (fun wq hq => ?gr1x10) ?kr1x10
      case gr1x10 => (have q1 := keepC hq c0; have q2 := keepC hq c2; have q3 := keepC hq hb; refine Reg.gAt_val ?_; go_simp; first | done | (with_reducible rfl) | rfl)
      try simp only [Act.put, List.setIfInBounds_toArray, List.set_cons_zero, List.set_cons_succ]
      refine Reg.wpG_step (v := ?vr1x11) (fun wq hq => ?gr1x11) ?kr1x11
      case gr1x11 => (have q1 := keepC hq c0; have q2 := keepC hq c2; have q3 := keepC hq hb; refine Reg.gAt_val ?_; go_simp; first | done | (with_reducible rfl) | rfl)
      try simp only [Act.put, List.setIfInBounds_toArray, List.set_cons_zero, List.set_cons_succ]
      refine Reg.wpG_step (v := ?vr1x12) (fun wq hq => ?gr1x12) ?kr1x12
      case gr1x12 => (have q1 := keepC hq c0; have q2 := keepC hq c2; have q3 := keepC hq hb; refine Reg.gAt_val ?_; go_simp; first | done | (with_reducible rfl) | rfl)
      try simp only [Act.put, List.setIfInBounds_toArray, List.set_cons_zero, List.set_cons_succ]
      refine Reg.wpG_step (v := ?vr1x13) (fun wq hq => ?gr1x13) ?kr1x13
      case gr1x13 => (have q1 := keepC hq c0; have q2 := keepC hq c2; have q3 := keepC hq hb; refine Reg.gAt_val ?_; go_simp; first | done | (with_reducible rfl) | rfl)
      try simp only [Act.put, List.setIfInBounds_toArray, List.set_cons_zero, List.set_cons_succ]
      refine Reg.wpG_step (v := ?vr1x14) (fun wq hq => ?gr1x14) ?kr1x14
      case gr1x14 => (have q1 := keepC hq c0; have q2 := keepC hq c2; have q3 := keepC hq hb; refine Reg.gAt_val ?_; go_simp; first | done | (with_reducible rfl) | rfl)
      try simp only [Act.put, List.setIfInBounds_toArray, List.set_cons_zero, List.set_cons_succ]
      intro w2 g hB2 hg hd
      clear hg hd
      change wpList _ _ _ _ (Reg.putPtrs _ g [] _) _
      simp only [Reg.putPtrs]
      replace yf := keepF hB2 c2 yf
      replace c0 := keepC hB2 c0
      replace c2 := keepC hB2 c2
      replace hb := keepC hB2 hb
      replace hs := hs.keep hB2
      replace hB := below_of hB hB2 hB.size
      clear hB2 
      go_wp2_with fail
      go_roundw
      case rel => exact ⟨j + 1, by omega, by go_num, hs.put2 _, by go_grown⟩
      case measure => simp [intOf]; omega
    · go_wp2_with fail
      go_ret
      exact ⟨rfl, hs, hB⟩
end Go.Proofs.YtbjcbbnfgfmllaaGreatDoor
