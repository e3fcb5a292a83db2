/- Contracts: spreads at points, codes of triangles, ratios of spreads: both sides. -/
import Derived.Test.YtbjcbbnfgfmllaaO2
import Derived.Test.YtbjcbbnfgfmllaaN2
import Derived.Test.YtbjcbbnfgfmllaaI
set_option linter.unusedVariables false
set_option linter.unusedSimpArgs false
set_option maxHeartbeats 1000000
set_option maxRecDepth 100000
namespace Go.Proofs.Ytbjcbbnfgfmllaa
open Go.RowKit
theorem spreadAt_any (p k ax ay bx by_ cx cy : Int) (w : World) (hf : Pl.fieldB p = true) (ax1 : 0 ≤ ax) (ax2 : ax < p) (ay1 : 0 ≤ ay) (ay2 : ay < p) (bx1 : 0 ≤ bx) (bx2 : bx < p) (by_1 : 0 ≤ by_) (by_2 : by_ < p) (cx1 : 0 ≤ cx) (cx2 : cx < p) (cy1 : 0 ≤ cy) (cy2 : cy < p) :
    Calls Try.prog 80 #[.int .i64 p, .int .i64 k, .agg #[.int .i64 ax, .int .i64 ay], .agg #[.int .i64 bx, .int .i64 by_], .agg #[.int .i64 cx, .int .i64 cy]] w fun e w' => e = .returned (.tuple #[.int .i64 (Pl.satV p k ax ay bx by_ cx cy), .bool (Pl.satB p k ax ay bx by_ cx cy)]) ∧ Below w.heap.size w w' := by
  have hp := Pl.field_bd hf
  obtain ⟨hp1, hp2⟩ := hp
  by_cases heq : ax = bx ∧ ay = by_
  · have hq : ∀ w', (Op.equalIn 10000 33 (.agg #[.int .i64 ax, .int .i64 ay]) (.agg #[.int .i64 bx, .int .i64 by_])).run Try.prog w' = .ok (true) w' := fun w' => by rw [eqPt_small w' (by omega) (by omega) (by omega) (by omega) (by omega) (by omega) (by omega) (by omega), show (ax == bx && ay == by_) = true by simp [heq.1, heq.2]]
    have hcs := hid heq
    clear heq
    have hs := hid (Pl.sat_f (p := p) (k := k) (ax := ax) (ay := ay) (bx := bx) (by_ := by_) (cx := cx) (cy := cy) (.inl (by have h := hcs.out; rw [h.1, h.2]; exact Pl.quad_same (by omega))))
    go_enter Try.func80, Try.ntmps80
    go_wp2_with fail
    go_ret2
    exact ⟨ret_ib hs.out.2.symm hs.out.1.symm, by go_grown⟩
  · have hq : ∀ w', (Op.equalIn 10000 33 (.agg #[.int .i64 ax, .int .i64 ay]) (.agg #[.int .i64 bx, .int .i64 by_])).run Try.prog w' = .ok (false) w' := fun w' => by rw [eqPt_small w' (by omega) (by omega) (by omega) (by omega) (by omega) (by omega) (by omega) (by omega), show (ax == bx && ay == by_) = false by simpa using heq]
    have hcs := hid heq
    clear heq
    by_cases heq2 : ax = cx ∧ ay = cy
    · have hq2 : ∀ w', (Op.equalIn 10000 33 (.agg #[.int .i64 ax, .int .i64 ay]) (.agg #[.int .i64 cx, .int .i64 cy])).run Try.prog w' = .ok (true) w' := fun w' => by rw [eqPt_small w' (by omega) (by omega) (by omega) (by omega) (by omega) (by omega) (by omega) (by omega), show (ax == cx && ay == cy) = true by simp [heq2.1, heq2.2]]
      have hcs2 := hid heq2
      clear heq2
      have hs := hid (Pl.sat_f (p := p) (k := k) (ax := ax) (ay := ay) (bx := bx) (by_ := by_) (cx := cx) (cy := cy) (.inr (by have h := hcs2.out; rw [h.1, h.2]; exact Pl.quad_same (by omega))))
      go_enter Try.func80, Try.ntmps80
      go_wp2_with fail
      go_ret2
      exact ⟨ret_ib hs.out.2.symm hs.out.1.symm, by go_grown⟩
    · have hq2 : ∀ w', (Op.equalIn 10000 33 (.agg #[.int .i64 ax, .int .i64 ay]) (.agg #[.int .i64 cx, .int .i64 cy])).run Try.prog w' = .ok (false) w' := fun w' => by rw [eqPt_small w' (by omega) (by omega) (by omega) (by omega) (by omega) (by omega) (by omega) (by omega), show (ax == cx && ay == cy) = false by simpa using heq2]
      have hcs2 := hid heq2
      clear heq2
      have d1 := hid (Pl.ne_pt ax1 ax2 ay1 ay2 bx1 bx2 by_1 by_2 hcs.out)
      have d2 := hid (Pl.ne_pt ax1 ax2 ay1 ay2 cx1 cx2 cy1 cy2 hcs2.out)
      have e1 := hid (Pl.null_th (k := k) hf d1.out)
      have e2 := hid (Pl.null_th (k := k) hf d2.out)
      obtain ⟨u01, u02⟩ := (show 0 ≤ (Pl.thA p ax ay bx by_) ∧ (Pl.thA p ax ay bx by_) < p from Pl.nrm_bd (by omega))
      obtain ⟨u11, u12⟩ := (show 0 ≤ (Pl.thB p ax ay bx by_) ∧ (Pl.thB p ax ay bx by_) < p from Pl.nrm_bd (by omega))
      obtain ⟨u21, u22⟩ := (show 0 ≤ (Pl.thC p ax ay bx by_) ∧ (Pl.thC p ax ay bx by_) < p from Pl.nrm_bd (by omega))
      obtain ⟨v01, v02⟩ := (show 0 ≤ (Pl.thA p ax ay cx cy) ∧ (Pl.thA p ax ay cx cy) < p from Pl.nrm_bd (by omega))
      obtain ⟨v11, v12⟩ := (show 0 ≤ (Pl.thB p ax ay cx cy) ∧ (Pl.thB p ax ay cx cy) < p from Pl.nrm_bd (by omega))
      obtain ⟨v21, v22⟩ := (show 0 ≤ (Pl.thC p ax ay cx cy) ∧ (Pl.thC p ax ay cx cy) < p from Pl.nrm_bd (by omega))
      by_cases z1 : Pl.quad p k ax ay bx by_ = 0
      · have n1 : Pl.nullB p k (Pl.thA p ax ay bx by_) (Pl.thB p ax ay bx by_) = true := by rw [e1.out, z1]; rfl
        have hs := hid (Pl.sat_f (p := p) (k := k) (cx := cx) (cy := cy) (.inl z1))
        clear z1
        go_enter Try.func80, Try.ntmps80
        go_wp2_with fail
        generalize hW : (World.alloc (World.alloc (World.alloc w (.cells #[.int .i64 ax, .int .i64 ay] 33)) (.cells #[.int .i64 bx, .int .i64 by_] 33)) (.cells #[.int .i64 cx, .int .i64 cy] 33)) = W
        have d00 : W.cell? ⟨w.heap.size, 0, none⟩ = some (.int .i64 ax) := by subst hW; go_simp
        have d01 : W.cell? ⟨w.heap.size, 1, none⟩ = some (.int .i64 ay) := by subst hW; go_simp
        have d10 : W.cell? ⟨w.heap.size + 1, 0, none⟩ = some (.int .i64 bx) := by subst hW; go_simp
        have d11 : W.cell? ⟨w.heap.size + 1, 1, none⟩ = some (.int .i64 by_) := by subst hW; go_simp
        have d20 : W.cell? ⟨w.heap.size + 1 + 1, 0, none⟩ = some (.int .i64 cx) := by subst hW; go_simp
        have d21 : W.cell? ⟨w.heap.size + 1 + 1, 1, none⟩ = some (.int .i64 cy) := by subst hW; go_simp
        have hB : Below w.heap.size w W := by subst hW; go_grown
        clear hW
        refine Reg.wp_region_grow (by kernel_rfl) 8 10 (fun _ => (#[.int .i64 0, .int .i64 0, .int .i64 0], 25)) (by kernel_rfl) ?_ ?_
        · intro k o h1 h2 ho ρ wz
          obtain rfl | rfl : k = 8 ∨ k = 9 := by omega
          all_goals (simp at ho; subst ho; exact alloc_l _ _ _ _)
        simp only [List.take_succ_cons, List.take_zero, List.drop_succ_cons, List.drop_zero]
        refine Reg.wpG_step (v := ?vr1x0) (fun wq hq => ?gr1x0) ?kr1x0
        case gr1x0 => (have q0 := keepC hq d00; have q1 := keepC hq d01; have q2 := keepC hq d10; have q3 := keepC hq d11; have q4 := keepC hq d20; have q5 := keepC hq d21; refine Reg.gAt_val ?_; go_simp; first | done | (with_reducible rfl) | rfl)
        try simp only [Act.put, List.setIfInBounds_toArray, List.set_cons_zero, List.set_cons_succ]
        refine Reg.wpG_step (v := ?vr1x1) (fun wq hq => ?gr1x1) ?kr1x1
        case gr1x1 => (have q0 := keepC hq d00; have q1 := keepC hq d01; have q2 := keepC hq d10; have q3 := keepC hq d11; have q4 := keepC hq d20; have q5 := keepC hq d21; refine Reg.gAt_val ?_; go_simp; first | done | (with_reducible rfl) | rfl)
        try simp only [Act.put, List.setIfInBounds_toArray, List.set_cons_zero, List.set_cons_succ]
        refine Reg.wpG_step (v := ?vr1x2) (fun wq hq => ?gr1x2) ?kr1x2
        case gr1x2 => (have q0 := keepC hq d00; have q1 := keepC hq d01; have q2 := keepC hq d10; have q3 := keepC hq d11; have q4 := keepC hq d20; have q5 := keepC hq d21; refine Reg.gAt_val ?_; go_simp; first | done | (with_reducible rfl) | rfl)
        try simp only [Act.put, List.setIfInBounds_toArray, List.set_cons_zero, List.set_cons_succ]
        refine Reg.wpG_step (v := .agg #[.int .i64 (Pl.thA p ax ay bx by_), .int .i64 (Pl.thB p ax ay bx by_), .int .i64 (Pl.thC p ax ay bx by_)]) (fun wq hq => ?gr1x3) ?kr1x3
        case gr1x3 => (unfold Reg.gAt; go_simp; refine Reg.quiet_enter ?_; exact lineThrough_any _ _ _ _ _ _ hf (by omega) (by omega) (by omega) (by omega) (by omega) (by omega) (by omega) (by omega))
        try simp only [Act.put, List.setIfInBounds_toArray, List.set_cons_zero, List.set_cons_succ]
        refine Reg.wpG_step (v := ?vr1x4) (fun wq hq => ?gr1x4) ?kr1x4
        case gr1x4 => (have q0 := keepC hq d00; have q1 := keepC hq d01; have q2 := keepC hq d10; have q3 := keepC hq d11; have q4 := keepC hq d20; have q5 := keepC hq d21; refine Reg.gAt_val ?_; go_simp; first | done | (with_reducible rfl) | rfl)
        try simp only [Act.put, List.setIfInBounds_toArray, List.set_cons_zero, List.set_cons_succ]
        refine Reg.wpG_step (v := ?vr1x5) (fun wq hq => ?gr1x5) ?kr1x5
        case gr1x5 => (have q0 := keepC hq d00; have q1 := keepC hq d01; have q2 := keepC hq d10; have q3 := keepC hq d11; have q4 := keepC hq d20; have q5 := keepC hq d21; refine Reg.gAt_val ?_; go_simp; first | done | (with_reducible rfl) | rfl)
        try simp only [Act.put, List.setIfInBounds_toArray, List.set_cons_zero, List.set_cons_succ]
        refine Reg.wpG_step (v := ?vr1x6) (fun wq hq => ?gr1x6) ?kr1x6
        case gr1x6 => (have q0 := keepC hq d00; have q1 := keepC hq d01; have q2 := keepC hq d10; have q3 := keepC hq d11; have q4 := keepC hq d20; have q5 := keepC hq d21; refine Reg.gAt_val ?_; go_simp; first | done | (with_reducible rfl) | rfl)
        try simp only [Act.put, List.setIfInBounds_toArray, List.set_cons_zero, List.set_cons_succ]
        refine Reg.wpG_step (v := .agg #[.int .i64 (Pl.thA p ax ay cx cy), .int .i64 (Pl.thB p ax ay cx cy), .int .i64 (Pl.thC p ax ay cx cy)]) (fun wq hq => ?gr1x7) ?kr1x7
        case gr1x7 => (unfold Reg.gAt; go_simp; refine Reg.quiet_enter ?_; exact lineThrough_any _ _ _ _ _ _ hf (by omega) (by omega) (by omega) (by omega) (by omega) (by omega) (by omega) (by omega))
        try simp only [Act.put, List.setIfInBounds_toArray, List.set_cons_zero, List.set_cons_succ]
        intro w2 g hB2 hg hd
        obtain ⟨hge8, hblk8⟩ := hg 8 (by omega) (by omega)
        obtain ⟨hge9, hblk9⟩ := hg 9 (by omega) (by omega)
        have hne89 : ¬ g 8 = g 9 := hd 8 9 (by omega) (by omega) (by omega) (by omega) (by omega)
        have hnf89 : ¬ g 9 = g 8 := fun e => hne89 e.symm
        clear hg hd
        simp only [List.range'_succ, List.range'_zero, Reg.putPtrs, Reg.dst, Act.put, List.setIfInBounds_toArray, List.set_cons_zero, List.set_cons_succ, List.getElem?_cons_zero, List.getElem?_cons_succ, Option.bind_some]
        generalize g 8 = g8 at *
        generalize g 9 = g9 at *
        obtain ⟨z80, z81, z82, y80, y81, y82⟩ := Reg.blk3 hblk8
        obtain ⟨z90, z91, z92, y90, y91, y92⟩ := Reg.blk3 hblk9
        clear hblk8 hblk9
        have hgw8 : w.heap.size ≤ g8 := Nat.le_trans hB.size hge8
        have hgw9 : w.heap.size ≤ g9 := Nat.le_trans hB.size hge9
        replace d00 := keepC hB2 d00
        replace d01 := keepC hB2 d01
        replace d10 := keepC hB2 d10
        replace d11 := keepC hB2 d11
        replace d20 := keepC hB2 d20
        replace d21 := keepC hB2 d21
        replace hB := below_of hB hB2 hB.size
        clear hB2 hge8 hge9
        go_wp2_with fail
        clear d00 d01 d10 d11 d20 d21
        generalize hW3 : (World.setCell (World.setCell (World.setCell (World.setCell (World.setCell (World.setCell w2 ⟨g8, 0, none⟩ (.int .i64 (Pl.thA p ax ay bx by_))) ⟨g8, 1, none⟩ (.int .i64 (Pl.thB p ax ay bx by_))) ⟨g8, 2, none⟩ (.int .i64 (Pl.thC p ax ay bx by_))) ⟨g9, 0, none⟩ (.int .i64 (Pl.thA p ax ay cx cy))) ⟨g9, 1, none⟩ (.int .i64 (Pl.thB p ax ay cx cy))) ⟨g9, 2, none⟩ (.int .i64 (Pl.thC p ax ay cx cy))) = W3
        have s80 : W3.cell? ⟨g8, 0, none⟩ = some (.int .i64 ((Pl.thA p ax ay bx by_))) := by rw [← hW3]; simp [World.cell?_setCell_other, World.cell?_setCell_same, z80, z81, z82, z90, z91, z92, hne89, hnf89]
        have s81 : W3.cell? ⟨g8, 1, none⟩ = some (.int .i64 ((Pl.thB p ax ay bx by_))) := by rw [← hW3]; simp [World.cell?_setCell_other, World.cell?_setCell_same, z80, z81, z82, z90, z91, z92, hne89, hnf89]
        have s82 : W3.cell? ⟨g8, 2, none⟩ = some (.int .i64 ((Pl.thC p ax ay bx by_))) := by rw [← hW3]; simp [World.cell?_setCell_other, World.cell?_setCell_same, z80, z81, z82, z90, z91, z92, hne89, hnf89]
        have s90 : W3.cell? ⟨g9, 0, none⟩ = some (.int .i64 ((Pl.thA p ax ay cx cy))) := by rw [← hW3]; simp [World.cell?_setCell_other, World.cell?_setCell_same, z80, z81, z82, z90, z91, z92, hne89, hnf89]
        have s91 : W3.cell? ⟨g9, 1, none⟩ = some (.int .i64 ((Pl.thB p ax ay cx cy))) := by rw [← hW3]; simp [World.cell?_setCell_other, World.cell?_setCell_same, z80, z81, z82, z90, z91, z92, hne89, hnf89]
        have s92 : W3.cell? ⟨g9, 2, none⟩ = some (.int .i64 ((Pl.thC p ax ay cx cy))) := by rw [← hW3]; simp [World.cell?_setCell_other, World.cell?_setCell_same, z80, z81, z82, z90, z91, z92, hne89, hnf89]
        replace hB : Below w.heap.size w W3 := by rw [← hW3]; go_grown
        clear hW3 z80 z81 z82 z90 z91 z92
        clear y80 y81 y82 y90 y91 y92
        go_wp2_with (first | (go_at_call 132; refine (isNull_any _ _ _ _ _ _ (by omega) (by omega) (by omega) (by omega) (by omega) (by omega) (by omega) (by omega)).mono ?_; rintro e w' ⟨rfl, hbn⟩; replace s80 := keepC hbn (by first | exact s80 | exact keepA _ s80 | exact keepA _ (keepA _ s80)); replace s81 := keepC hbn (by first | exact s81 | exact keepA _ s81 | exact keepA _ (keepA _ s81)); replace s82 := keepC hbn (by first | exact s82 | exact keepA _ s82 | exact keepA _ (keepA _ s82)); replace s90 := keepC hbn (by first | exact s90 | exact keepA _ s90 | exact keepA _ (keepA _ s90)); replace s91 := keepC hbn (by first | exact s91 | exact keepA _ s91 | exact keepA _ (keepA _ s91)); replace s92 := keepC hbn (by first | exact s92 | exact keepA _ s92 | exact keepA _ (keepA _ s92)); replace hB := below_of (B := w.heap.size) (a := w) (by first | exact hB | (have := hB.size; go_grown)) hbn (by first | exact hB.size | (have := hB.size; simp <;> omega)); clear hbn) | (go_at_call 64; refine (spread_any _ _ _ _ _ _ _ _ _ hf (by omega) (by omega) (by omega) (by omega) (by omega) (by omega) (by omega) (by omega) (by omega) (by omega) (by omega) (by omega)).mono ?_; rintro e w' ⟨rfl, hbn⟩; replace s80 := keepC hbn (by first | exact s80 | exact keepA _ s80 | exact keepA _ (keepA _ s80)); replace s81 := keepC hbn (by first | exact s81 | exact keepA _ s81 | exact keepA _ (keepA _ s81)); replace s82 := keepC hbn (by first | exact s82 | exact keepA _ s82 | exact keepA _ (keepA _ s82)); replace s90 := keepC hbn (by first | exact s90 | exact keepA _ s90 | exact keepA _ (keepA _ s90)); replace s91 := keepC hbn (by first | exact s91 | exact keepA _ s91 | exact keepA _ (keepA _ s91)); replace s92 := keepC hbn (by first | exact s92 | exact keepA _ s92 | exact keepA _ (keepA _ s92)); replace hB := below_of (B := w.heap.size) (a := w) (by first | exact hB | (have := hB.size; go_grown)) hbn (by first | exact hB.size | (have := hB.size; simp <;> omega)); clear hbn))
        go_ret2
        exact ⟨ret_ib hs.out.2.symm hs.out.1.symm, by first | exact hB | go_grown⟩
      · have n1 : Pl.nullB p k (Pl.thA p ax ay bx by_) (Pl.thB p ax ay bx by_) = false := by rw [e1.out]; simpa using z1
        by_cases z2 : Pl.quad p k ax ay cx cy = 0
        · have n2 : Pl.nullB p k (Pl.thA p ax ay cx cy) (Pl.thB p ax ay cx cy) = true := by rw [e2.out, z2]; rfl
          have hs := hid (Pl.sat_f (p := p) (k := k) (bx := bx) (by_ := by_) (.inr z2))
          clear z1 z2
          go_enter Try.func80, Try.ntmps80
          go_wp2_with fail
          generalize hW : (World.alloc (World.alloc (World.alloc w (.cells #[.int .i64 ax, .int .i64 ay] 33)) (.cells #[.int .i64 bx, .int .i64 by_] 33)) (.cells #[.int .i64 cx, .int .i64 cy] 33)) = W
          have d00 : W.cell? ⟨w.heap.size, 0, none⟩ = some (.int .i64 ax) := by subst hW; go_simp
          have d01 : W.cell? ⟨w.heap.size, 1, none⟩ = some (.int .i64 ay) := by subst hW; go_simp
          have d10 : W.cell? ⟨w.heap.size + 1, 0, none⟩ = some (.int .i64 bx) := by subst hW; go_simp
          have d11 : W.cell? ⟨w.heap.size + 1, 1, none⟩ = some (.int .i64 by_) := by subst hW; go_simp
          have d20 : W.cell? ⟨w.heap.size + 1 + 1, 0, none⟩ = some (.int .i64 cx) := by subst hW; go_simp
          have d21 : W.cell? ⟨w.heap.size + 1 + 1, 1, none⟩ = some (.int .i64 cy) := by subst hW; go_simp
          have hB : Below w.heap.size w W := by subst hW; go_grown
          clear hW
          refine Reg.wp_region_grow (by kernel_rfl) 8 10 (fun _ => (#[.int .i64 0, .int .i64 0, .int .i64 0], 25)) (by kernel_rfl) ?_ ?_
          · intro k o h1 h2 ho ρ wz
            obtain rfl | rfl : k = 8 ∨ k = 9 := by omega
            all_goals (simp at ho; subst ho; exact alloc_l _ _ _ _)
          simp only [List.take_succ_cons, List.take_zero, List.drop_succ_cons, List.drop_zero]
          refine Reg.wpG_step (v := ?vr2x0) (fun wq hq => ?gr2x0) ?kr2x0
          case gr2x0 => (have q0 := keepC hq d00; have q1 := keepC hq d01; have q2 := keepC hq d10; have q3 := keepC hq d11; have q4 := keepC hq d20; have q5 := keepC hq d21; refine Reg.gAt_val ?_; go_simp; first | done | (with_reducible rfl) | rfl)
          try simp only [Act.put, List.setIfInBounds_toArray, List.set_cons_zero, List.set_cons_succ]
          refine Reg.wpG_step (v := ?vr2x1) (fun wq hq => ?gr2x1) ?kr2x1
          case gr2x1 => (have q0 := keepC hq d00; have q1 := keepC hq d01; have q2 := keepC hq d10; have q3 := keepC hq d11; have q4 := keepC hq d20; have q5 := keepC hq d21; refine Reg.gAt_val ?_; go_simp; first | done | (with_reducible rfl) | rfl)
          try simp only [Act.put, List.setIfInBounds_toArray, List.set_cons_zero, List.set_cons_succ]
          refine Reg.wpG_step (v := ?vr2x2) (fun wq hq => ?gr2x2) ?kr2x2
          case gr2x2 => (have q0 := keepC hq d00; have q1 := keepC hq d01; have q2 := keepC hq d10; have q3 := keepC hq d11; have q4 := keepC hq d20; have q5 := keepC hq d21; refine Reg.gAt_val ?_; go_simp; first | done | (with_reducible rfl) | rfl)
          try simp only [Act.put, List.setIfInBounds_toArray, List.set_cons_zero, List.set_cons_succ]
          refine Reg.wpG_step (v := .agg #[.int .i64 (Pl.thA p ax ay bx by_), .int .i64 (Pl.thB p ax ay bx by_), .int .i64 (Pl.thC p ax ay bx by_)]) (fun wq hq => ?gr2x3) ?kr2x3
          case gr2x3 => (unfold Reg.gAt; go_simp; refine Reg.quiet_enter ?_; exact lineThrough_any _ _ _ _ _ _ hf (by omega) (by omega) (by omega) (by omega) (by omega) (by omega) (by omega) (by omega))
          try simp only [Act.put, List.setIfInBounds_toArray, List.set_cons_zero, List.set_cons_succ]
          refine Reg.wpG_step (v := ?vr2x4) (fun wq hq => ?gr2x4) ?kr2x4
          case gr2x4 => (have q0 := keepC hq d00; have q1 := keepC hq d01; have q2 := keepC hq d10; have q3 := keepC hq d11; have q4 := keepC hq d20; have q5 := keepC hq d21; refine Reg.gAt_val ?_; go_simp; first | done | (with_reducible rfl) | rfl)
          try simp only [Act.put, List.setIfInBounds_toArray, List.set_cons_zero, List.set_cons_succ]
          refine Reg.wpG_step (v := ?vr2x5) (fun wq hq => ?gr2x5) ?kr2x5
          case gr2x5 => (have q0 := keepC hq d00; have q1 := keepC hq d01; have q2 := keepC hq d10; have q3 := keepC hq d11; have q4 := keepC hq d20; have q5 := keepC hq d21; refine Reg.gAt_val ?_; go_simp; first | done | (with_reducible rfl) | rfl)
          try simp only [Act.put, List.setIfInBounds_toArray, List.set_cons_zero, List.set_cons_succ]
          refine Reg.wpG_step (v := ?vr2x6) (fun wq hq => ?gr2x6) ?kr2x6
          case gr2x6 => (have q0 := keepC hq d00; have q1 := keepC hq d01; have q2 := keepC hq d10; have q3 := keepC hq d11; have q4 := keepC hq d20; have q5 := keepC hq d21; refine Reg.gAt_val ?_; go_simp; first | done | (with_reducible rfl) | rfl)
          try simp only [Act.put, List.setIfInBounds_toArray, List.set_cons_zero, List.set_cons_succ]
          refine Reg.wpG_step (v := .agg #[.int .i64 (Pl.thA p ax ay cx cy), .int .i64 (Pl.thB p ax ay cx cy), .int .i64 (Pl.thC p ax ay cx cy)]) (fun wq hq => ?gr2x7) ?kr2x7
          case gr2x7 => (unfold Reg.gAt; go_simp; refine Reg.quiet_enter ?_; exact lineThrough_any _ _ _ _ _ _ hf (by omega) (by omega) (by omega) (by omega) (by omega) (by omega) (by omega) (by omega))
          try simp only [Act.put, List.setIfInBounds_toArray, List.set_cons_zero, List.set_cons_succ]
          intro w2 g hB2 hg hd
          obtain ⟨hge8, hblk8⟩ := hg 8 (by omega) (by omega)
          obtain ⟨hge9, hblk9⟩ := hg 9 (by omega) (by omega)
          have hne89 : ¬ g 8 = g 9 := hd 8 9 (by omega) (by omega) (by omega) (by omega) (by omega)
          have hnf89 : ¬ g 9 = g 8 := fun e => hne89 e.symm
          clear hg hd
          simp only [List.range'_succ, List.range'_zero, Reg.putPtrs, Reg.dst, Act.put, List.setIfInBounds_toArray, List.set_cons_zero, List.set_cons_succ, List.getElem?_cons_zero, List.getElem?_cons_succ, Option.bind_some]
          generalize g 8 = g8 at *
          generalize g 9 = g9 at *
          obtain ⟨z80, z81, z82, y80, y81, y82⟩ := Reg.blk3 hblk8
          obtain ⟨z90, z91, z92, y90, y91, y92⟩ := Reg.blk3 hblk9
          clear hblk8 hblk9
          have hgw8 : w.heap.size ≤ g8 := Nat.le_trans hB.size hge8
          have hgw9 : w.heap.size ≤ g9 := Nat.le_trans hB.size hge9
          replace d00 := keepC hB2 d00
          replace d01 := keepC hB2 d01
          replace d10 := keepC hB2 d10
          replace d11 := keepC hB2 d11
          replace d20 := keepC hB2 d20
          replace d21 := keepC hB2 d21
          replace hB := below_of hB hB2 hB.size
          clear hB2 hge8 hge9
          go_wp2_with fail
          clear d00 d01 d10 d11 d20 d21
          generalize hW3 : (World.setCell (World.setCell (World.setCell (World.setCell (World.setCell (World.setCell w2 ⟨g8, 0, none⟩ (.int .i64 (Pl.thA p ax ay bx by_))) ⟨g8, 1, none⟩ (.int .i64 (Pl.thB p ax ay bx by_))) ⟨g8, 2, none⟩ (.int .i64 (Pl.thC p ax ay bx by_))) ⟨g9, 0, none⟩ (.int .i64 (Pl.thA p ax ay cx cy))) ⟨g9, 1, none⟩ (.int .i64 (Pl.thB p ax ay cx cy))) ⟨g9, 2, none⟩ (.int .i64 (Pl.thC p ax ay cx cy))) = W3
          have s80 : W3.cell? ⟨g8, 0, none⟩ = some (.int .i64 ((Pl.thA p ax ay bx by_))) := by rw [← hW3]; simp [World.cell?_setCell_other, World.cell?_setCell_same, z80, z81, z82, z90, z91, z92, hne89, hnf89]
          have s81 : W3.cell? ⟨g8, 1, none⟩ = some (.int .i64 ((Pl.thB p ax ay bx by_))) := by rw [← hW3]; simp [World.cell?_setCell_other, World.cell?_setCell_same, z80, z81, z82, z90, z91, z92, hne89, hnf89]
          have s82 : W3.cell? ⟨g8, 2, none⟩ = some (.int .i64 ((Pl.thC p ax ay bx by_))) := by rw [← hW3]; simp [World.cell?_setCell_other, World.cell?_setCell_same, z80, z81, z82, z90, z91, z92, hne89, hnf89]
          have s90 : W3.cell? ⟨g9, 0, none⟩ = some (.int .i64 ((Pl.thA p ax ay cx cy))) := by rw [← hW3]; simp [World.cell?_setCell_other, World.cell?_setCell_same, z80, z81, z82, z90, z91, z92, hne89, hnf89]
          have s91 : W3.cell? ⟨g9, 1, none⟩ = some (.int .i64 ((Pl.thB p ax ay cx cy))) := by rw [← hW3]; simp [World.cell?_setCell_other, World.cell?_setCell_same, z80, z81, z82, z90, z91, z92, hne89, hnf89]
          have s92 : W3.cell? ⟨g9, 2, none⟩ = some (.int .i64 ((Pl.thC p ax ay cx cy))) := by rw [← hW3]; simp [World.cell?_setCell_other, World.cell?_setCell_same, z80, z81, z82, z90, z91, z92, hne89, hnf89]
          replace hB : Below w.heap.size w W3 := by rw [← hW3]; go_grown
          clear hW3 z80 z81 z82 z90 z91 z92
          clear y80 y81 y82 y90 y91 y92
          go_wp2_with (first | (go_at_call 132; refine (isNull_any _ _ _ _ _ _ (by omega) (by omega) (by omega) (by omega) (by omega) (by omega) (by omega) (by omega)).mono ?_; rintro e w' ⟨rfl, hbn⟩; replace s80 := keepC hbn (by first | exact s80 | exact keepA _ s80 | exact keepA _ (keepA _ s80)); replace s81 := keepC hbn (by first | exact s81 | exact keepA _ s81 | exact keepA _ (keepA _ s81)); replace s82 := keepC hbn (by first | exact s82 | exact keepA _ s82 | exact keepA _ (keepA _ s82)); replace s90 := keepC hbn (by first | exact s90 | exact keepA _ s90 | exact keepA _ (keepA _ s90)); replace s91 := keepC hbn (by first | exact s91 | exact keepA _ s91 | exact keepA _ (keepA _ s91)); replace s92 := keepC hbn (by first | exact s92 | exact keepA _ s92 | exact keepA _ (keepA _ s92)); replace hB := below_of (B := w.heap.size) (a := w) (by first | exact hB | (have := hB.size; go_grown)) hbn (by first | exact hB.size | (have := hB.size; simp <;> omega)); clear hbn) | (go_at_call 64; refine (spread_any _ _ _ _ _ _ _ _ _ hf (by omega) (by omega) (by omega) (by omega) (by omega) (by omega) (by omega) (by omega) (by omega) (by omega) (by omega) (by omega)).mono ?_; rintro e w' ⟨rfl, hbn⟩; replace s80 := keepC hbn (by first | exact s80 | exact keepA _ s80 | exact keepA _ (keepA _ s80)); replace s81 := keepC hbn (by first | exact s81 | exact keepA _ s81 | exact keepA _ (keepA _ s81)); replace s82 := keepC hbn (by first | exact s82 | exact keepA _ s82 | exact keepA _ (keepA _ s82)); replace s90 := keepC hbn (by first | exact s90 | exact keepA _ s90 | exact keepA _ (keepA _ s90)); replace s91 := keepC hbn (by first | exact s91 | exact keepA _ s91 | exact keepA _ (keepA _ s91)); replace s92 := keepC hbn (by first | exact s92 | exact keepA _ s92 | exact keepA _ (keepA _ s92)); replace hB := below_of (B := w.heap.size) (a := w) (by first | exact hB | (have := hB.size; go_grown)) hbn (by first | exact hB.size | (have := hB.size; simp <;> omega)); clear hbn))
          go_ret2
          exact ⟨ret_ib hs.out.2.symm hs.out.1.symm, by first | exact hB | go_grown⟩
        · have n2 : Pl.nullB p k (Pl.thA p ax ay cx cy) (Pl.thB p ax ay cx cy) = false := by rw [e2.out]; simpa using z2
          have hs := hid (Pl.sat_t z1 z2)
          have hsp := hid (Pl.spread_th hf d1.out d2.out z1 z2)
          clear z1 z2
          go_enter Try.func80, Try.ntmps80
          go_wp2_with fail
          generalize hW : (World.alloc (World.alloc (World.alloc w (.cells #[.int .i64 ax, .int .i64 ay] 33)) (.cells #[.int .i64 bx, .int .i64 by_] 33)) (.cells #[.int .i64 cx, .int .i64 cy] 33)) = W
          have d00 : W.cell? ⟨w.heap.size, 0, none⟩ = some (.int .i64 ax) := by subst hW; go_simp
          have d01 : W.cell? ⟨w.heap.size, 1, none⟩ = some (.int .i64 ay) := by subst hW; go_simp
          have d10 : W.cell? ⟨w.heap.size + 1, 0, none⟩ = some (.int .i64 bx) := by subst hW; go_simp
          have d11 : W.cell? ⟨w.heap.size + 1, 1, none⟩ = some (.int .i64 by_) := by subst hW; go_simp
          have d20 : W.cell? ⟨w.heap.size + 1 + 1, 0, none⟩ = some (.int .i64 cx) := by subst hW; go_simp
          have d21 : W.cell? ⟨w.heap.size + 1 + 1, 1, none⟩ = some (.int .i64 cy) := by subst hW; go_simp
          have hB : Below w.heap.size w W := by subst hW; go_grown
          clear hW
          refine Reg.wp_region_grow (by kernel_rfl) 8 10 (fun _ => (#[.int .i64 0, .int .i64 0, .int .i64 0], 25)) (by kernel_rfl) ?_ ?_
          · intro k o h1 h2 ho ρ wz
            obtain rfl | rfl : k = 8 ∨ k = 9 := by omega
            all_goals (simp at ho; subst ho; exact alloc_l _ _ _ _)
          simp only [List.take_succ_cons, List.take_zero, List.drop_succ_cons, List.drop_zero]
          refine Reg.wpG_step (v := ?vr3x0) (fun wq hq => ?gr3x0) ?kr3x0
          case gr3x0 => (have q0 := keepC hq d00; have q1 := keepC hq d01; have q2 := keepC hq d10; have q3 := keepC hq d11; have q4 := keepC hq d20; have q5 := keepC hq d21; refine Reg.gAt_val ?_; go_simp; first | done | (with_reducible rfl) | rfl)
          try simp only [Act.put, List.setIfInBounds_toArray, List.set_cons_zero, List.set_cons_succ]
          refine Reg.wpG_step (v := ?vr3x1) (fun wq hq => ?gr3x1) ?kr3x1
          case gr3x1 => (have q0 := keepC hq d00; have q1 := keepC hq d01; have q2 := keepC hq d10; have q3 := keepC hq d11; have q4 := keepC hq d20; have q5 := keepC hq d21; refine Reg.gAt_val ?_; go_simp; first | done | (with_reducible rfl) | rfl)
          try simp only [Act.put, List.setIfInBounds_toArray, List.set_cons_zero, List.set_cons_succ]
          refine Reg.wpG_step (v := ?vr3x2) (fun wq hq => ?gr3x2) ?kr3x2
          case gr3x2 => (have q0 := keepC hq d00; have q1 := keepC hq d01; have q2 := keepC hq d10; have q3 := keepC hq d11; have q4 := keepC hq d20; have q5 := keepC hq d21; refine Reg.gAt_val ?_; go_simp; first | done | (with_reducible rfl) | rfl)
          try simp only [Act.put, List.setIfInBounds_toArray, List.set_cons_zero, List.set_cons_succ]
          refine Reg.wpG_step (v := .agg #[.int .i64 (Pl.thA p ax ay bx by_), .int .i64 (Pl.thB p ax ay bx by_), .int .i64 (Pl.thC p ax ay bx by_)]) (fun wq hq => ?gr3x3) ?kr3x3
          case gr3x3 => (unfold Reg.gAt; go_simp; refine Reg.quiet_enter ?_; exact lineThrough_any _ _ _ _ _ _ hf (by omega) (by omega) (by omega) (by omega) (by omega) (by omega) (by omega) (by omega))
          try simp only [Act.put, List.setIfInBounds_toArray, List.set_cons_zero, List.set_cons_succ]
          refine Reg.wpG_step (v := ?vr3x4) (fun wq hq => ?gr3x4) ?kr3x4
          case gr3x4 => (have q0 := keepC hq d00; have q1 := keepC hq d01; have q2 := keepC hq d10; have q3 := keepC hq d11; have q4 := keepC hq d20; have q5 := keepC hq d21; refine Reg.gAt_val ?_; go_simp; first | done | (with_reducible rfl) | rfl)
          try simp only [Act.put, List.setIfInBounds_toArray, List.set_cons_zero, List.set_cons_succ]
          refine Reg.wpG_step (v := ?vr3x5) (fun wq hq => ?gr3x5) ?kr3x5
          case gr3x5 => (have q0 := keepC hq d00; have q1 := keepC hq d01; have q2 := keepC hq d10; have q3 := keepC hq d11; have q4 := keepC hq d20; have q5 := keepC hq d21; refine Reg.gAt_val ?_; go_simp; first | done | (with_reducible rfl) | rfl)
          try simp only [Act.put, List.setIfInBounds_toArray, List.set_cons_zero, List.set_cons_succ]
          refine Reg.wpG_step (v := ?vr3x6) (fun wq hq => ?gr3x6) ?kr3x6
          case gr3x6 => (have q0 := keepC hq d00; have q1 := keepC hq d01; have q2 := keepC hq d10; have q3 := keepC hq d11; have q4 := keepC hq d20; have q5 := keepC hq d21; refine Reg.gAt_val ?_; go_simp; first | done | (with_reducible rfl) | rfl)
          try simp only [Act.put, List.setIfInBounds_toArray, List.set_cons_zero, List.set_cons_succ]
          refine Reg.wpG_step (v := .agg #[.int .i64 (Pl.thA p ax ay cx cy), .int .i64 (Pl.thB p ax ay cx cy), .int .i64 (Pl.thC p ax ay cx cy)]) (fun wq hq => ?gr3x7) ?kr3x7
          case gr3x7 => (unfold Reg.gAt; go_simp; refine Reg.quiet_enter ?_; exact lineThrough_any _ _ _ _ _ _ hf (by omega) (by omega) (by omega) (by omega) (by omega) (by omega) (by omega) (by omega))
          try simp only [Act.put, List.setIfInBounds_toArray, List.set_cons_zero, List.set_cons_succ]
          intro w2 g hB2 hg hd
          obtain ⟨hge8, hblk8⟩ := hg 8 (by omega) (by omega)
          obtain ⟨hge9, hblk9⟩ := hg 9 (by omega) (by omega)
          have hne89 : ¬ g 8 = g 9 := hd 8 9 (by omega) (by omega) (by omega) (by omega) (by omega)
          have hnf89 : ¬ g 9 = g 8 := fun e => hne89 e.symm
          clear hg hd
          simp only [List.range'_succ, List.range'_zero, Reg.putPtrs, Reg.dst, Act.put, List.setIfInBounds_toArray, List.set_cons_zero, List.set_cons_succ, List.getElem?_cons_zero, List.getElem?_cons_succ, Option.bind_some]
          generalize g 8 = g8 at *
          generalize g 9 = g9 at *
          obtain ⟨z80, z81, z82, y80, y81, y82⟩ := Reg.blk3 hblk8
          obtain ⟨z90, z91, z92, y90, y91, y92⟩ := Reg.blk3 hblk9
          clear hblk8 hblk9
          have hgw8 : w.heap.size ≤ g8 := Nat.le_trans hB.size hge8
          have hgw9 : w.heap.size ≤ g9 := Nat.le_trans hB.size hge9
          replace d00 := keepC hB2 d00
          replace d01 := keepC hB2 d01
          replace d10 := keepC hB2 d10
          replace d11 := keepC hB2 d11
          replace d20 := keepC hB2 d20
          replace d21 := keepC hB2 d21
          replace hB := below_of hB hB2 hB.size
          clear hB2 hge8 hge9
          go_wp2_with fail
          clear d00 d01 d10 d11 d20 d21
          generalize hW3 : (World.setCell (World.setCell (World.setCell (World.setCell (World.setCell (World.setCell w2 ⟨g8, 0, none⟩ (.int .i64 (Pl.thA p ax ay bx by_))) ⟨g8, 1, none⟩ (.int .i64 (Pl.thB p ax ay bx by_))) ⟨g8, 2, none⟩ (.int .i64 (Pl.thC p ax ay bx by_))) ⟨g9, 0, none⟩ (.int .i64 (Pl.thA p ax ay cx cy))) ⟨g9, 1, none⟩ (.int .i64 (Pl.thB p ax ay cx cy))) ⟨g9, 2, none⟩ (.int .i64 (Pl.thC p ax ay cx cy))) = W3
          have s80 : W3.cell? ⟨g8, 0, none⟩ = some (.int .i64 ((Pl.thA p ax ay bx by_))) := by rw [← hW3]; simp [World.cell?_setCell_other, World.cell?_setCell_same, z80, z81, z82, z90, z91, z92, hne89, hnf89]
          have s81 : W3.cell? ⟨g8, 1, none⟩ = some (.int .i64 ((Pl.thB p ax ay bx by_))) := by rw [← hW3]; simp [World.cell?_setCell_other, World.cell?_setCell_same, z80, z81, z82, z90, z91, z92, hne89, hnf89]
          have s82 : W3.cell? ⟨g8, 2, none⟩ = some (.int .i64 ((Pl.thC p ax ay bx by_))) := by rw [← hW3]; simp [World.cell?_setCell_other, World.cell?_setCell_same, z80, z81, z82, z90, z91, z92, hne89, hnf89]
          have s90 : W3.cell? ⟨g9, 0, none⟩ = some (.int .i64 ((Pl.thA p ax ay cx cy))) := by rw [← hW3]; simp [World.cell?_setCell_other, World.cell?_setCell_same, z80, z81, z82, z90, z91, z92, hne89, hnf89]
          have s91 : W3.cell? ⟨g9, 1, none⟩ = some (.int .i64 ((Pl.thB p ax ay cx cy))) := by rw [← hW3]; simp [World.cell?_setCell_other, World.cell?_setCell_same, z80, z81, z82, z90, z91, z92, hne89, hnf89]
          have s92 : W3.cell? ⟨g9, 2, none⟩ = some (.int .i64 ((Pl.thC p ax ay cx cy))) := by rw [← hW3]; simp [World.cell?_setCell_other, World.cell?_setCell_same, z80, z81, z82, z90, z91, z92, hne89, hnf89]
          replace hB : Below w.heap.size w W3 := by rw [← hW3]; go_grown
          clear hW3 z80 z81 z82 z90 z91 z92
          clear y80 y81 y82 y90 y91 y92
          go_wp2_with (first | (go_at_call 132; refine (isNull_any _ _ _ _ _ _ (by omega) (by omega) (by omega) (by omega) (by omega) (by omega) (by omega) (by omega)).mono ?_; rintro e w' ⟨rfl, hbn⟩; replace s80 := keepC hbn (by first | exact s80 | exact keepA _ s80 | exact keepA _ (keepA _ s80)); replace s81 := keepC hbn (by first | exact s81 | exact keepA _ s81 | exact keepA _ (keepA _ s81)); replace s82 := keepC hbn (by first | exact s82 | exact keepA _ s82 | exact keepA _ (keepA _ s82)); replace s90 := keepC hbn (by first | exact s90 | exact keepA _ s90 | exact keepA _ (keepA _ s90)); replace s91 := keepC hbn (by first | exact s91 | exact keepA _ s91 | exact keepA _ (keepA _ s91)); replace s92 := keepC hbn (by first | exact s92 | exact keepA _ s92 | exact keepA _ (keepA _ s92)); replace hB := below_of (B := w.heap.size) (a := w) (by first | exact hB | (have := hB.size; go_grown)) hbn (by first | exact hB.size | (have := hB.size; simp <;> omega)); clear hbn) | (go_at_call 64; refine (spread_any _ _ _ _ _ _ _ _ _ hf (by omega) (by omega) (by omega) (by omega) (by omega) (by omega) (by omega) (by omega) (by omega) (by omega) (by omega) (by omega)).mono ?_; rintro e w' ⟨rfl, hbn⟩; replace s80 := keepC hbn (by first | exact s80 | exact keepA _ s80 | exact keepA _ (keepA _ s80)); replace s81 := keepC hbn (by first | exact s81 | exact keepA _ s81 | exact keepA _ (keepA _ s81)); replace s82 := keepC hbn (by first | exact s82 | exact keepA _ s82 | exact keepA _ (keepA _ s82)); replace s90 := keepC hbn (by first | exact s90 | exact keepA _ s90 | exact keepA _ (keepA _ s90)); replace s91 := keepC hbn (by first | exact s91 | exact keepA _ s91 | exact keepA _ (keepA _ s91)); replace s92 := keepC hbn (by first | exact s92 | exact keepA _ s92 | exact keepA _ (keepA _ s92)); replace hB := below_of (B := w.heap.size) (a := w) (by first | exact hB | (have := hB.size; go_grown)) hbn (by first | exact hB.size | (have := hB.size; simp <;> omega)); clear hbn))
          go_ret2
          exact ⟨ret_ib (hsp.out.trans hs.out.2.symm) hs.out.1.symm, by first | exact hB | go_grown⟩
theorem l03At_any (p k ax ay bx by_ cx cy : Int) (w : World) (hf : Pl.fieldB p = true) (ax1 : 0 ≤ ax) (ax2 : ax ≤ 31) (ay1 : 0 ≤ ay) (ay2 : ay ≤ 31) (bx1 : 0 ≤ bx) (bx2 : bx ≤ 31) (by_1 : 0 ≤ by_) (by_2 : by_ ≤ 31) (cx1 : 0 ≤ cx) (cx2 : cx ≤ 31) (cy1 : 0 ≤ cy) (cy2 : cy ≤ 31) :
    Calls Try.prog 82 #[.int .i64 p, .int .i64 k, .agg #[.int .i64 ax, .int .i64 ay], .agg #[.int .i64 bx, .int .i64 by_], .agg #[.int .i64 cx, .int .i64 cy]] w fun e w' => e = .returned (.int .i64 (Pl.spreadP p k ax ay bx by_ cx cy)) ∧ Below w.heap.size w w' := by
  have hp := Pl.field_bd hf
  obtain ⟨hp1, hp2⟩ := hp
  have r1n := Int.emod_nonneg (bx - ax) (show p ≠ 0 by omega)
  have r1l := Int.emod_lt_of_pos (bx - ax) (show 0 < p by omega)
  have r2n := Int.emod_nonneg (by_ - ay) (show p ≠ 0 by omega)
  have r2l := Int.emod_lt_of_pos (by_ - ay) (show 0 < p by omega)
  have r3n := Int.emod_nonneg (cx - ax) (show p ≠ 0 by omega)
  have r3l := Int.emod_lt_of_pos (cx - ax) (show 0 < p by omega)
  have r4n := Int.emod_nonneg (cy - ay) (show p ≠ 0 by omega)
  have r4l := Int.emod_lt_of_pos (cy - ay) (show 0 < p by omega)
  have bn := Pl.prod_bd' (p := p) (k := k) (x := ((bx - ax) % p)) (y := ((by_ - ay) % p)) (z := ((cx - ax) % p)) (v := ((cy - ay) % p)) (by omega)
  obtain ⟨bn1, bn2⟩ := bn
  have bu := Pl.prod_bd' (p := p) (k := k) (x := ((bx - ax) % p)) (y := ((by_ - ay) % p)) (z := ((bx - ax) % p)) (v := ((by_ - ay) % p)) (by omega)
  obtain ⟨bu1, bu2⟩ := bu
  have bv := Pl.prod_bd' (p := p) (k := k) (x := ((cx - ax) % p)) (y := ((cy - ay) % p)) (z := ((cx - ax) % p)) (v := ((cy - ay) % p)) (by omega)
  obtain ⟨bv1, bv2⟩ := bv
  go_enter Try.func82, Try.ntmps82
  go_wp2_with fail
  generalize hW : (World.alloc (World.alloc (World.alloc w (.cells #[.int .i64 ax, .int .i64 ay] 33)) (.cells #[.int .i64 bx, .int .i64 by_] 33)) (.cells #[.int .i64 cx, .int .i64 cy] 33)) = W
  have d00 : W.cell? ⟨w.heap.size, 0, none⟩ = some (.int .i64 ax) := by subst hW; go_simp
  have d01 : W.cell? ⟨w.heap.size, 1, none⟩ = some (.int .i64 ay) := by subst hW; go_simp
  have d10 : W.cell? ⟨w.heap.size + 1, 0, none⟩ = some (.int .i64 bx) := by subst hW; go_simp
  have d11 : W.cell? ⟨w.heap.size + 1, 1, none⟩ = some (.int .i64 by_) := by subst hW; go_simp
  have d20 : W.cell? ⟨w.heap.size + 1 + 1, 0, none⟩ = some (.int .i64 cx) := by subst hW; go_simp
  have d21 : W.cell? ⟨w.heap.size + 1 + 1, 1, none⟩ = some (.int .i64 cy) := by subst hW; go_simp
  have hB : Below w.heap.size w W := by subst hW; go_grown
  clear hW
  refine Reg.wp_region_grow (by kernel_rfl) 8 10 (fun _ => (#[.int .i64 0, .int .i64 0], 33)) (by kernel_rfl) ?_ ?_
  · intro k o h1 h2 ho ρ wz
    obtain rfl | rfl : k = 8 ∨ k = 9 := by omega
    all_goals (simp at ho; subst ho; exact alloc_p _ _ _ _)
  simp only [List.take_succ_cons, List.take_zero, List.drop_succ_cons, List.drop_zero]
  refine Reg.wpG_step (v := ?vr4x0) (fun wq hq => ?gr4x0) ?kr4x0
  case gr4x0 => (have q0 := keepC hq d00; have q1 := keepC hq d01; have q2 := keepC hq d10; have q3 := keepC hq d11; have q4 := keepC hq d20; have q5 := keepC hq d21; refine Reg.gAt_val ?_; go_simp; first | done | (with_reducible rfl) | rfl)
  try simp only [Act.put, List.setIfInBounds_toArray, List.set_cons_zero, List.set_cons_succ]
  refine Reg.wpG_step (v := ?vr4x1) (fun wq hq => ?gr4x1) ?kr4x1
  case gr4x1 => (have q0 := keepC hq d00; have q1 := keepC hq d01; have q2 := keepC hq d10; have q3 := keepC hq d11; have q4 := keepC hq d20; have q5 := keepC hq d21; refine Reg.gAt_val ?_; go_simp; first | done | (with_reducible rfl) | rfl)
  try simp only [Act.put, List.setIfInBounds_toArray, List.set_cons_zero, List.set_cons_succ]
  refine Reg.wpG_step (v := ?vr4x2) (fun wq hq => ?gr4x2) ?kr4x2
  case gr4x2 => (have q0 := keepC hq d00; have q1 := keepC hq d01; have q2 := keepC hq d10; have q3 := keepC hq d11; have q4 := keepC hq d20; have q5 := keepC hq d21; refine Reg.gAt_val ?_; go_simp; first | done | (with_reducible rfl) | rfl)
  try simp only [Act.put, List.setIfInBounds_toArray, List.set_cons_zero, List.set_cons_succ]
  refine Reg.wpG_step (v := .agg #[.int .i64 ((bx - ax) % p), .int .i64 ((by_ - ay) % p)]) (fun wq hq => ?gr4x3) ?kr4x3
  case gr4x3 => (unfold Reg.gAt; go_simp; refine Reg.quiet_enter ?_; exact l01Minus_any _ _ _ _ _ _ (by omega) (by omega) (by omega) (by omega) (by omega) (by omega) (by omega) (by omega) (by omega) (by omega))
  try simp only [Act.put, List.setIfInBounds_toArray, List.set_cons_zero, List.set_cons_succ]
  refine Reg.wpG_step (v := ?vr4x4) (fun wq hq => ?gr4x4) ?kr4x4
  case gr4x4 => (have q0 := keepC hq d00; have q1 := keepC hq d01; have q2 := keepC hq d10; have q3 := keepC hq d11; have q4 := keepC hq d20; have q5 := keepC hq d21; refine Reg.gAt_val ?_; go_simp; first | done | (with_reducible rfl) | rfl)
  try simp only [Act.put, List.setIfInBounds_toArray, List.set_cons_zero, List.set_cons_succ]
  refine Reg.wpG_step (v := ?vr4x5) (fun wq hq => ?gr4x5) ?kr4x5
  case gr4x5 => (have q0 := keepC hq d00; have q1 := keepC hq d01; have q2 := keepC hq d10; have q3 := keepC hq d11; have q4 := keepC hq d20; have q5 := keepC hq d21; refine Reg.gAt_val ?_; go_simp; first | done | (with_reducible rfl) | rfl)
  try simp only [Act.put, List.setIfInBounds_toArray, List.set_cons_zero, List.set_cons_succ]
  refine Reg.wpG_step (v := ?vr4x6) (fun wq hq => ?gr4x6) ?kr4x6
  case gr4x6 => (have q0 := keepC hq d00; have q1 := keepC hq d01; have q2 := keepC hq d10; have q3 := keepC hq d11; have q4 := keepC hq d20; have q5 := keepC hq d21; refine Reg.gAt_val ?_; go_simp; first | done | (with_reducible rfl) | rfl)
  try simp only [Act.put, List.setIfInBounds_toArray, List.set_cons_zero, List.set_cons_succ]
  refine Reg.wpG_step (v := .agg #[.int .i64 ((cx - ax) % p), .int .i64 ((cy - ay) % p)]) (fun wq hq => ?gr4x7) ?kr4x7
  case gr4x7 => (unfold Reg.gAt; go_simp; refine Reg.quiet_enter ?_; exact l01Minus_any _ _ _ _ _ _ (by omega) (by omega) (by omega) (by omega) (by omega) (by omega) (by omega) (by omega) (by omega) (by omega))
  try simp only [Act.put, List.setIfInBounds_toArray, List.set_cons_zero, List.set_cons_succ]
  intro w2 g hB2 hg hd
  obtain ⟨hge8, hblk8⟩ := hg 8 (by omega) (by omega)
  obtain ⟨hge9, hblk9⟩ := hg 9 (by omega) (by omega)
  have hne89 : ¬ g 8 = g 9 := hd 8 9 (by omega) (by omega) (by omega) (by omega) (by omega)
  have hnf89 : ¬ g 9 = g 8 := fun e => hne89 e.symm
  clear hg hd
  simp only [List.range'_succ, List.range'_zero, Reg.putPtrs, Reg.dst, Act.put, List.setIfInBounds_toArray, List.set_cons_zero, List.set_cons_succ, List.getElem?_cons_zero, List.getElem?_cons_succ, Option.bind_some]
  generalize g 8 = g8 at *
  generalize g 9 = g9 at *
  obtain ⟨z80, z81, y80, y81⟩ := Reg.blk2 hblk8
  obtain ⟨z90, z91, y90, y91⟩ := Reg.blk2 hblk9
  clear hblk8 hblk9
  have hgw8 : w.heap.size ≤ g8 := Nat.le_trans hB.size hge8
  have hgw9 : w.heap.size ≤ g9 := Nat.le_trans hB.size hge9
  replace d00 := keepC hB2 d00
  replace d01 := keepC hB2 d01
  replace d10 := keepC hB2 d10
  replace d11 := keepC hB2 d11
  replace d20 := keepC hB2 d20
  replace d21 := keepC hB2 d21
  replace hB := below_of hB hB2 hB.size
  clear hB2 hge8 hge9
  go_wp2_with fail
  clear d00 d01 d10 d11 d20 d21
  generalize hW3 : (World.setCell (World.setCell (World.setCell (World.setCell w2 ⟨g8, 0, none⟩ (.int .i64 ((bx - ax) % p))) ⟨g8, 1, none⟩ (.int .i64 ((by_ - ay) % p))) ⟨g9, 0, none⟩ (.int .i64 ((cx - ax) % p))) ⟨g9, 1, none⟩ (.int .i64 ((cy - ay) % p))) = W3
  have s80 : W3.cell? ⟨g8, 0, none⟩ = some (.int .i64 (((bx - ax) % p))) := by rw [← hW3]; simp [World.cell?_setCell_other, World.cell?_setCell_same, z80, z81, z90, z91, hne89, hnf89]
  have s81 : W3.cell? ⟨g8, 1, none⟩ = some (.int .i64 (((by_ - ay) % p))) := by rw [← hW3]; simp [World.cell?_setCell_other, World.cell?_setCell_same, z80, z81, z90, z91, hne89, hnf89]
  have s90 : W3.cell? ⟨g9, 0, none⟩ = some (.int .i64 (((cx - ax) % p))) := by rw [← hW3]; simp [World.cell?_setCell_other, World.cell?_setCell_same, z80, z81, z90, z91, hne89, hnf89]
  have s91 : W3.cell? ⟨g9, 1, none⟩ = some (.int .i64 (((cy - ay) % p))) := by rw [← hW3]; simp [World.cell?_setCell_other, World.cell?_setCell_same, z80, z81, z90, z91, hne89, hnf89]
  replace hB : Below w.heap.size w W3 := by rw [← hW3]; go_grown
  clear hW3 z80 z81 z90 z91
  clear y80 y81 y90 y91
  go_wp2_with (go_at_call 106; refine (l02Product_any _ _ _ _ _ _ _ (by omega) (by omega) (by omega) (by omega) (by omega) (by omega) (by omega) (by omega) (by omega) (by omega)).mono ?_; rintro e w' ⟨rfl, hbn⟩; replace s80 := keepC hbn (by first | exact s80 | exact keepA _ s80 | exact keepA _ (keepA _ s80)); replace s81 := keepC hbn (by first | exact s81 | exact keepA _ s81 | exact keepA _ (keepA _ s81)); replace s90 := keepC hbn (by first | exact s90 | exact keepA _ s90 | exact keepA _ (keepA _ s90)); replace s91 := keepC hbn (by first | exact s91 | exact keepA _ s91 | exact keepA _ (keepA _ s91)); replace hB := below_of (B := w.heap.size) (a := w) (by first | exact hB | (have := hB.size; go_grown)) hbn (by first | exact hB.size | (have := hB.size; simp <;> omega)); clear hbn)
  generalize hN : Pl.prod p k ((bx - ax) % p) ((by_ - ay) % p) ((cx - ax) % p) ((cy - ay) % p) = n at *
  generalize hU : Pl.prod p k ((bx - ax) % p) ((by_ - ay) % p) ((bx - ax) % p) ((by_ - ay) % p) = u at *
  generalize hV : Pl.prod p k ((cx - ax) % p) ((cy - ay) % p) ((cx - ax) % p) ((cy - ay) % p) = v at *
  have m1 := Pl.mulB (show 0 ≤ n by omega) (show n ≤ 31 by omega) (show 0 ≤ n by omega) (show n ≤ 31 by omega)
  obtain ⟨m1a, m1b⟩ := m1
  have m2 := Pl.mulB (show 0 ≤ u by omega) (show u ≤ 31 by omega) (show 0 ≤ v by omega) (show v ≤ 31 by omega)
  obtain ⟨m2a, m2b⟩ := m2
  have e1 : IntKind.i64.wrap (n * n) = n * n := IntWalk.i64_in _ (by omega)
  have e2 : IntKind.i64.wrap (u * v) = u * v := IntWalk.i64_in _ (by omega)
  have r5n := Int.emod_nonneg (u * v) (show p ≠ 0 by omega)
  have r5l := Int.emod_lt_of_pos (u * v) (show 0 < p by omega)
  have r6n := Int.emod_nonneg (n * n) (show p ≠ 0 by omega)
  have r6l := Int.emod_lt_of_pos (n * n) (show 0 < p by omega)
  have hi := Pl.inv_bd (a := u * v) hf
  obtain ⟨hi1, hi2⟩ := hi
  have m3 := Pl.mulB (show 0 ≤ ((n * n) % p) by omega) (show ((n * n) % p) ≤ 31 by omega) (show 0 ≤ (Pl.inv p ((u * v) % p)) by omega) (show (Pl.inv p ((u * v) % p)) ≤ 31 by omega)
  obtain ⟨m3a, m3b⟩ := m3
  have e3 : IntKind.i64.wrap ((n * n) % p * Pl.inv p ((u * v) % p)) = (n * n) % p * Pl.inv p ((u * v) % p) := IntWalk.i64_in _ (by omega)
  have e4 : IntKind.i64.wrap (1 - (n * n) % p * Pl.inv p ((u * v) % p)) = 1 - (n * n) % p * Pl.inv p ((u * v) % p) := IntWalk.i64_in _ (by omega)
  have t1 : Int.tmod (n * n) p = (n * n) % p := Int.tmod_eq_emod_of_nonneg m1a
  have hp0 : ¬ p = 0 := by omega
  refine Reg.wp_region_grow (by kernel_rfl) 22 22 (fun _ => (#[.int .i64 0, .int .i64 0], 0)) (by kernel_rfl) ?_ ?_
  · intro k o h1 h2
    omega
  simp only [List.take_succ_cons, List.take_zero, List.drop_succ_cons, List.drop_zero]
  refine Reg.wpG_step (v := ?vr5x0) (fun wq hq => ?gr5x0) ?kr5x0
  case gr5x0 => (have q0 := keepC hq s80; have q1 := keepC hq s81; have q2 := keepC hq s90; have q3 := keepC hq s91; refine Reg.gAt_val ?_; go_simp; first | done | (with_reducible rfl) | rfl)
  try simp only [Act.put, List.setIfInBounds_toArray, List.set_cons_zero, List.set_cons_succ]
  refine Reg.wpG_step (v := ?vr5x1) (fun wq hq => ?gr5x1) ?kr5x1
  case gr5x1 => (have q0 := keepC hq s80; have q1 := keepC hq s81; have q2 := keepC hq s90; have q3 := keepC hq s91; refine Reg.gAt_val ?_; go_simp; first | done | (with_reducible rfl) | rfl)
  try simp only [Act.put, List.setIfInBounds_toArray, List.set_cons_zero, List.set_cons_succ]
  refine Reg.wpG_step (v := ?vr5x2) (fun wq hq => ?gr5x2) ?kr5x2
  case gr5x2 => (have q0 := keepC hq s80; have q1 := keepC hq s81; have q2 := keepC hq s90; have q3 := keepC hq s91; refine Reg.gAt_val ?_; go_simp; first | done | (with_reducible rfl) | rfl)
  try simp only [Act.put, List.setIfInBounds_toArray, List.set_cons_zero, List.set_cons_succ]
  refine Reg.wpG_step (v := ?vr5x3) (fun wq hq => ?gr5x3) ?kr5x3
  case gr5x3 => (have q0 := keepC hq s80; have q1 := keepC hq s81; have q2 := keepC hq s90; have q3 := keepC hq s91; refine Reg.gAt_val ?_; go_simp; first | done | (with_reducible rfl) | rfl)
  try simp only [Act.put, List.setIfInBounds_toArray, List.set_cons_zero, List.set_cons_succ]
  refine Reg.wpG_step (v := ?vr5x4) (fun wq hq => ?gr5x4) ?kr5x4
  case gr5x4 => (have q0 := keepC hq s80; have q1 := keepC hq s81; have q2 := keepC hq s90; have q3 := keepC hq s91; refine Reg.gAt_val ?_; go_simp; first | done | (with_reducible rfl) | rfl)
  try simp only [Act.put, List.setIfInBounds_toArray, List.set_cons_zero, List.set_cons_succ]
  refine Reg.wpG_step (v := ?vr5x5) (fun wq hq => ?gr5x5) ?kr5x5
  case gr5x5 => (have q0 := keepC hq s80; have q1 := keepC hq s81; have q2 := keepC hq s90; have q3 := keepC hq s91; refine Reg.gAt_val ?_; go_simp; first | done | (with_reducible rfl) | rfl)
  try simp only [Act.put, List.setIfInBounds_toArray, List.set_cons_zero, List.set_cons_succ]
  refine Reg.wpG_step (v := ?vr5x6) (fun wq hq => ?gr5x6) ?kr5x6
  case gr5x6 => (have q0 := keepC hq s80; have q1 := keepC hq s81; have q2 := keepC hq s90; have q3 := keepC hq s91; refine Reg.gAt_val ?_; go_simp; first | done | (with_reducible rfl) | rfl)
  try simp only [Act.put, List.setIfInBounds_toArray, List.set_cons_zero, List.set_cons_succ]
  refine Reg.wpG_step (v := ?vr5x7) (fun wq hq => ?gr5x7) ?kr5x7
  case gr5x7 => (have q0 := keepC hq s80; have q1 := keepC hq s81; have q2 := keepC hq s90; have q3 := keepC hq s91; refine Reg.gAt_val ?_; go_simp; first | done | (with_reducible rfl) | rfl)
  try simp only [Act.put, List.setIfInBounds_toArray, List.set_cons_zero, List.set_cons_succ]
  refine Reg.wpG_step (v := ?vr5x8) (fun wq hq => ?gr5x8) ?kr5x8
  case gr5x8 => (have q0 := keepC hq s80; have q1 := keepC hq s81; have q2 := keepC hq s90; have q3 := keepC hq s91; refine Reg.gAt_val ?_; go_simp; first | done | (with_reducible rfl) | rfl)
  try simp only [Act.put, List.setIfInBounds_toArray, List.set_cons_zero, List.set_cons_succ]
  refine Reg.wpG_step (v := .int .i64 u) (fun wq hq => ?gr5x9) ?kr5x9
  case gr5x9 => (unfold Reg.gAt; go_simp; refine Reg.quiet_enter ?_; exact (l02Product_any _ _ _ _ _ _ _ (by omega) (by omega) (by omega) (by omega) (by omega) (by omega) (by omega) (by omega) (by omega) (by omega)).mono fun e w2 ⟨he, hb⟩ => ⟨he.trans (ret_int hU), hb⟩)
  try simp only [Act.put, List.setIfInBounds_toArray, List.set_cons_zero, List.set_cons_succ]
  refine Reg.wpG_step (v := ?vr5x10) (fun wq hq => ?gr5x10) ?kr5x10
  case gr5x10 => (have q0 := keepC hq s80; have q1 := keepC hq s81; have q2 := keepC hq s90; have q3 := keepC hq s91; refine Reg.gAt_val ?_; go_simp; first | done | (with_reducible rfl) | rfl)
  try simp only [Act.put, List.setIfInBounds_toArray, List.set_cons_zero, List.set_cons_succ]
  refine Reg.wpG_step (v := ?vr5x11) (fun wq hq => ?gr5x11) ?kr5x11
  case gr5x11 => (have q0 := keepC hq s80; have q1 := keepC hq s81; have q2 := keepC hq s90; have q3 := keepC hq s91; refine Reg.gAt_val ?_; go_simp; first | done | (with_reducible rfl) | rfl)
  try simp only [Act.put, List.setIfInBounds_toArray, List.set_cons_zero, List.set_cons_succ]
  refine Reg.wpG_step (v := ?vr5x12) (fun wq hq => ?gr5x12) ?kr5x12
  case gr5x12 => (have q0 := keepC hq s80; have q1 := keepC hq s81; have q2 := keepC hq s90; have q3 := keepC hq s91; refine Reg.gAt_val ?_; go_simp; first | done | (with_reducible rfl) | rfl)
  try simp only [Act.put, List.setIfInBounds_toArray, List.set_cons_zero, List.set_cons_succ]
  refine Reg.wpG_step (v := ?vr5x13) (fun wq hq => ?gr5x13) ?kr5x13
  case gr5x13 => (have q0 := keepC hq s80; have q1 := keepC hq s81; have q2 := keepC hq s90; have q3 := keepC hq s91; refine Reg.gAt_val ?_; go_simp; first | done | (with_reducible rfl) | rfl)
  try simp only [Act.put, List.setIfInBounds_toArray, List.set_cons_zero, List.set_cons_succ]
  refine Reg.wpG_step (v := .int .i64 v) (fun wq hq => ?gr5x14) ?kr5x14
  case gr5x14 => (unfold Reg.gAt; go_simp; refine Reg.quiet_enter ?_; exact (l02Product_any _ _ _ _ _ _ _ (by omega) (by omega) (by omega) (by omega) (by omega) (by omega) (by omega) (by omega) (by omega) (by omega)).mono fun e w2 ⟨he, hb⟩ => ⟨he.trans (ret_int hV), hb⟩)
  try simp only [Act.put, List.setIfInBounds_toArray, List.set_cons_zero, List.set_cons_succ]
  refine Reg.wpG_step (v := ?vr5x15) (fun wq hq => ?gr5x15) ?kr5x15
  case gr5x15 => (have q0 := keepC hq s80; have q1 := keepC hq s81; have q2 := keepC hq s90; have q3 := keepC hq s91; refine Reg.gAt_val ?_; go_simp; first | done | (with_reducible rfl) | rfl)
  try simp only [Act.put, List.setIfInBounds_toArray, List.set_cons_zero, List.set_cons_succ]
  refine Reg.wpG_step (v := ?vr5x16) (fun wq hq => ?gr5x16) ?kr5x16
  case gr5x16 => (have q0 := keepC hq s80; have q1 := keepC hq s81; have q2 := keepC hq s90; have q3 := keepC hq s91; refine Reg.gAt_val ?_; go_simp; first | done | (with_reducible rfl) | rfl)
  try simp only [Act.put, List.setIfInBounds_toArray, List.set_cons_zero, List.set_cons_succ]
  refine Reg.wpG_step (v := .int .i64 (Pl.inv p ((u * v) % p))) (fun wq hq => ?gr5x17) ?kr5x17
  case gr5x17 => (unfold Reg.gAt; go_simp; refine Reg.quiet_enter ?_; exact (l01Inverse_any _ _ _ hf).mono fun e w2 ⟨he, hw⟩ => ⟨he, hw ▸ Below.refl _ _⟩)
  try simp only [Act.put, List.setIfInBounds_toArray, List.set_cons_zero, List.set_cons_succ]
  refine Reg.wpG_step (v := ?vr5x18) (fun wq hq => ?gr5x18) ?kr5x18
  case gr5x18 => (have q0 := keepC hq s80; have q1 := keepC hq s81; have q2 := keepC hq s90; have q3 := keepC hq s91; refine Reg.gAt_val ?_; go_simp; first | done | (with_reducible rfl) | rfl)
  try simp only [Act.put, List.setIfInBounds_toArray, List.set_cons_zero, List.set_cons_succ]
  refine Reg.wpG_step (v := ?vr5x19) (fun wq hq => ?gr5x19) ?kr5x19
  case gr5x19 => (have q0 := keepC hq s80; have q1 := keepC hq s81; have q2 := keepC hq s90; have q3 := keepC hq s91; refine Reg.gAt_val ?_; go_simp; first | done | (with_reducible rfl) | rfl)
  try simp only [Act.put, List.setIfInBounds_toArray, List.set_cons_zero, List.set_cons_succ]
  refine Reg.wpG_step (v := ?vr5x20) (fun wq hq => ?gr5x20) ?kr5x20
  case gr5x20 => (have q0 := keepC hq s80; have q1 := keepC hq s81; have q2 := keepC hq s90; have q3 := keepC hq s91; refine Reg.gAt_val ?_; go_simp; first | done | (with_reducible rfl) | rfl)
  try simp only [Act.put, List.setIfInBounds_toArray, List.set_cons_zero, List.set_cons_succ]
  refine Reg.wpG_step (v := .int .i64 ((1 - (n * n) % p * Pl.inv p ((u * v) % p)) % p)) (fun wq hq => ?gr5x21) ?kr5x21
  case gr5x21 => (unfold Reg.gAt; go_simp; refine Reg.quiet_enter ?_; exact (l01Mod_any _ _ _ (by omega) (by omega)).mono fun e w2 ⟨he, hw⟩ => ⟨he, hw ▸ Below.refl _ _⟩)
  try simp only [Act.put, List.setIfInBounds_toArray, List.set_cons_zero, List.set_cons_succ]
  intro w2 g hB2 hg hd
  clear hg hd
  change wpList _ _ _ _ (Reg.putPtrs _ g [] _) _
  simp only [Reg.putPtrs]
  replace s80 := keepC hB2 s80
  replace s81 := keepC hB2 s81
  replace s90 := keepC hB2 s90
  replace s91 := keepC hB2 s91
  replace hB := below_of hB hB2 hB.size
  clear hB2 
  go_wp2_with fail
  go_ret
  exact ⟨ret_int (by rw [← hN, ← hU, ← hV]; exact Pl.spreadP_s _ _ _ _ _ _), hB⟩
end Go.Proofs.Ytbjcbbnfgfmllaa
