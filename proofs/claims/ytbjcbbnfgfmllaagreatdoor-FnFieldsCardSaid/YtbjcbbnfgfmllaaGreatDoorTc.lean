/- Contracts: ParsePoint, ParseLine: both sides. -/
import Derived.Test.YtbjcbbnfgfmllaaGreatDoorTb
import Derived.Test.YtbjcbbnfgfmllaaGreatDoorE
import Derived.Test.YtbjcbbnfgfmllaaGreatDoorK
import Derived.Test.YtbjcbbnfgfmllaaGreatDoorH
import Derived.Test.YtbjcbbnfgfmllaaGreatDoorRegA
set_option linter.unusedVariables false
set_option linter.unusedSimpArgs false
set_option maxHeartbeats 1000000
set_option maxRecDepth 100000
namespace Go.Proofs.YtbjcbbnfgfmllaaGreatDoor
open Go.RowKit
theorem readNumbers2 (p : Int) (s : ByteArray) (w : World) (hs : s.size ≤ 2199023255552) :
    Calls Tryz.prog 67 #[.int .i64 p, .string s, .int .i64 2] w fun e w' => Below w.heap.size w w' ∧ Read e w' w.heap.size 1 (Pl.readN p 1 s.data.toList) := readNumbers_any p s 1 w hs (by omega)
theorem readNumbers3 (p : Int) (s : ByteArray) (w : World) (hs : s.size ≤ 2199023255552) :
    Calls Tryz.prog 67 #[.int .i64 p, .string s, .int .i64 3] w fun e w' => Below w.heap.size w w' ∧ Read e w' w.heap.size 2 (Pl.readN p 2 s.data.toList) := readNumbers_any p s 2 w hs (by omega)
theorem l01Numbers_nil (p : Int) (w : World) : Calls Tryz.prog 40 #[.int .i64 p, .slice none 0 0] w fun e w' => e = .returned (.int .i64 (Pl.ask p true)) ∧ w = w' := by
  cases hf : Pl.fieldB p with
  | false =>
    go_enter Tryz.func40, Tryz.ntmps40
    go_wp2_with (go_at_call 48; refine (l01Field_any _ _).mono ?_; rintro e w' ⟨rfl, rfl⟩)
    go_ret
    exact ⟨ret_int (Pl.ask_f hf).symm, rfl⟩
  | true =>
    have ha : Hid (Pl.ask p true = 0) := hid (by simp [Pl.ask, hf])
    go_enter Tryz.func40, Tryz.ntmps40
    go_wp2_with (go_at_call 48; refine (l01Field_any _ _).mono ?_; rintro e w' ⟨rfl, rfl⟩)
    go_loop [5] (fun i => i = .int .i64 0) (fun i => 0)
    case atStart => exact rfl
    case round =>
      obtain rfl := hrel
      go_wp2_with fail
      go_ret
      exact ⟨ret_int ha.out.symm, rfl⟩
theorem ask_t {p : Int} (h : Pl.fieldB p = true) : (Pl.ask p true != 0) = false := by simp [Pl.ask, h]
theorem ask_n {p : Int} (h : Pl.fieldB p = true) : (Pl.ask p false != 0) = true := by simp [Pl.ask, h]
theorem ask_e {p : Int} (h : Pl.fieldB p = false) : (Pl.ask p true != 0) = true := by simp [Pl.ask, h]
theorem alloc_ln (ρ : Operand → Value) (w : World) (d : Option Tmp) (pos : String) : (execOp ρ { dst := d, op := .alloc 44, type := 0, pos := pos, after := #[], guard := none }).run Tryz.prog w = .ok (.value (.pointer (some ⟨w.heap.size, 0, none⟩))) (w.alloc (.cells #[.int .i64 0, .int .i64 0, .int .i64 0] 44)) := by
  first | rfl | kernel_rfl
theorem ParsePoint_any (p : Int) (s : ByteArray) (w : World) (hs : s.size ≤ 2199023255552) :
    Calls Tryz.prog 24 #[.int .i64 p, .string s] w fun e w' => e = .returned (.tuple #[.agg #[.int .i64 (Pl.parsePt p s.data.toList).1.1, .int .i64 (Pl.parsePt p s.data.toList).1.2], .int .i64 (Pl.parsePt p s.data.toList).2]) ∧ Below w.heap.size w w' := by
  obtain ⟨rx, ry, rq, hfin⟩ : ∃ rx ry rq : Int, Hid ((Pl.parsePt p s.data.toList) = ((rx, ry), rq)) := ⟨_, _, _, rfl⟩
  rw [hfin.out]
  dsimp only
  cases hf : Pl.fieldB p with
  | false =>
    have hv := hfin.out
    rw [Pl.parsePt_f hf] at hv
    simp only [Prod.mk.injEq] at hv
    obtain ⟨⟨hx, hy⟩, hq⟩ := hv
    replace hx := hid hx
    replace hy := hid hy
    replace hq := hid hq
    clear hfin
    go_enter Tryz.func24, Tryz.ntmps24
    go_wp2_with (go_at_call 12; refine (isField_any _ _).mono ?_; rintro e w' ⟨rfl, rfl⟩)
    have z0 : (w.alloc (.cells #[.int .i64 0, .int .i64 0] 29)).cell? ⟨w.heap.size, 0, none⟩ = some (.int .i64 0) := cellOf (Below.refl (w.alloc (.cells #[.int .i64 0, .int .i64 0] 29)).heap.size _) (by go_simp) (by simp <;> omega)
    have y0 : (w.alloc (.cells #[.int .i64 0, .int .i64 0] 29)).frozen? ⟨w.heap.size, 0, none⟩ = false := frozenOf (Below.refl (w.alloc (.cells #[.int .i64 0, .int .i64 0] 29)).heap.size _) (by go_simp) (by simp <;> omega)
    have z1 : (w.alloc (.cells #[.int .i64 0, .int .i64 0] 29)).cell? ⟨w.heap.size, 1, none⟩ = some (.int .i64 0) := cellOf (Below.refl (w.alloc (.cells #[.int .i64 0, .int .i64 0] 29)).heap.size _) (by go_simp) (by simp <;> omega)
    have y1 : (w.alloc (.cells #[.int .i64 0, .int .i64 0] 29)).frozen? ⟨w.heap.size, 1, none⟩ = false := frozenOf (Below.refl (w.alloc (.cells #[.int .i64 0, .int .i64 0] 29)).heap.size _) (by go_simp) (by simp <;> omega)
    try simp only [Exit.inBlock, Exit.then]
    refine bodyPost_ret (by simp [results, Tryz.results24, go_sem, y0, y1, z0, z1]; try rfl) rfl ?_
    exact ⟨ret_pi (by rw [← hx.out]) (by rw [← hy.out]) (by rw [← hq.out]), by first | exact hB | go_grown⟩
  | true =>
    have hp := Pl.field_bd hf
    obtain ⟨hp1, hp2⟩ := hp
    go_enter Tryz.func24, Tryz.ntmps24
    go_wp2_with (go_at_call 12; refine (isField_any _ _).mono ?_; rintro e w' ⟨rfl, rfl⟩)
    refine (readNumbers2 p s _ hs).mono ?_
    rintro e w1 ⟨hb, hr⟩
    have z0 : w1.cell? ⟨w.heap.size, 0, none⟩ = some (.int .i64 0) := cellOf hb (by go_simp) (by simp <;> omega)
    have y0 : w1.frozen? ⟨w.heap.size, 0, none⟩ = false := frozenOf hb (by go_simp) (by simp <;> omega)
    have z1 : w1.cell? ⟨w.heap.size, 1, none⟩ = some (.int .i64 0) := cellOf hb (by go_simp) (by simp <;> omega)
    have y1 : w1.frozen? ⟨w.heap.size, 1, none⟩ = false := frozenOf hb (by go_simp) (by simp <;> omega)
    have hB : Below w.heap.size w w1 := below_of (by go_grown) hb (by simp <;> omega)
    clear hb
    rcases hr with ⟨g, c, xs, rfl, hO, hR⟩ | ⟨v, rfl, hR⟩
    · have hne : w.heap.size < g := by have := hO.lt; simp at this; omega
      obtain ⟨x, y, rfl⟩ := Pl.len2 (xs := xs) (by have := Pl.readN_len hR; omega)
      have d0 : w1.cell? ⟨g, 0, none⟩ = some (.int .i64 x) := hO.cell (j := 0) (by simp [ints])
      have d1 : w1.cell? ⟨g, 1, none⟩ = some (.int .i64 y) := hO.cell (j := 1) (by simp [ints])
      have hv := hfin.out
      rw [Pl.parsePt_s hf hR] at hv
      simp only [Prod.mk.injEq] at hv
      obtain ⟨⟨hx, hy⟩, hq⟩ := hv
      replace hx := hid hx
      replace hy := hid hy
      replace hq := hid hq
      clear hfin
      replace hR := hid hR
      go_wp2_with fail
      go_region
      go_wp2_with fail
      try simp only [Exit.inBlock, Exit.then]
      refine bodyPost_ret (by simp [results, Tryz.results24, go_sem, y0, y1, z0, z1]; try rfl) rfl ?_
      exact ⟨ret_pi (by rw [← hx.out]) (by rw [← hy.out]) (by rw [← hq.out]), by first | exact hB | go_grown⟩
    · have hv := hfin.out
      rw [Pl.parsePt_n hf hR] at hv
      simp only [Prod.mk.injEq] at hv
      obtain ⟨⟨hx, hy⟩, hq⟩ := hv
      replace hx := hid hx
      replace hy := hid hy
      replace hq := hid hq
      clear hfin
      replace hR := hid hR
      go_wp2_with fail
      try simp only [Exit.inBlock, Exit.then]
      refine bodyPost_ret (by simp [results, Tryz.results24, go_sem, y0, y1, z0, z1]; try rfl) rfl ?_
      exact ⟨ret_pi (by rw [← hx.out]) (by rw [← hy.out]) (by rw [← hq.out]), by first | exact hB | go_grown⟩
theorem ParseLine_any (p : Int) (s : ByteArray) (w : World) (hs : s.size ≤ 2199023255552) :
    Calls Tryz.prog 28 #[.int .i64 p, .string s] w fun e w' => e = .returned (.tuple #[.agg #[.int .i64 (Pl.parseLn p s.data.toList).1.1, .int .i64 (Pl.parseLn p s.data.toList).1.2.1, .int .i64 (Pl.parseLn p s.data.toList).1.2.2], .int .i64 (Pl.parseLn p s.data.toList).2]) ∧ Below w.heap.size w w' := by
  obtain ⟨rx, ry, rz, rq, hfin⟩ : ∃ rx ry rz rq : Int, Hid ((Pl.parseLn p s.data.toList) = ((rx, ry, rz), rq)) := ⟨_, _, _, _, rfl⟩
  rw [hfin.out]
  dsimp only
  cases hf : Pl.fieldB p with
  | false =>
    have hv := hfin.out
    rw [Pl.parseLn_f hf] at hv
    simp only [Prod.mk.injEq] at hv
    obtain ⟨⟨hx, hy, hz⟩, hq⟩ := hv
    replace hx := hid hx
    replace hy := hid hy
    replace hz := hid hz
    replace hq := hid hq
    clear hfin
    go_enter Tryz.func28, Tryz.ntmps28
    go_wp2_with (go_at_call 12; refine (isField_any _ _).mono ?_; rintro e w' ⟨rfl, rfl⟩)
    have z0 : (w.alloc (.cells #[.int .i64 0, .int .i64 0, .int .i64 0] 44)).cell? ⟨w.heap.size, 0, none⟩ = some (.int .i64 0) := cellOf (Below.refl (w.alloc (.cells #[.int .i64 0, .int .i64 0, .int .i64 0] 44)).heap.size _) (by go_simp) (by simp <;> omega)
    have y0 : (w.alloc (.cells #[.int .i64 0, .int .i64 0, .int .i64 0] 44)).frozen? ⟨w.heap.size, 0, none⟩ = false := frozenOf (Below.refl (w.alloc (.cells #[.int .i64 0, .int .i64 0, .int .i64 0] 44)).heap.size _) (by go_simp) (by simp <;> omega)
    have z1 : (w.alloc (.cells #[.int .i64 0, .int .i64 0, .int .i64 0] 44)).cell? ⟨w.heap.size, 1, none⟩ = some (.int .i64 0) := cellOf (Below.refl (w.alloc (.cells #[.int .i64 0, .int .i64 0, .int .i64 0] 44)).heap.size _) (by go_simp) (by simp <;> omega)
    have y1 : (w.alloc (.cells #[.int .i64 0, .int .i64 0, .int .i64 0] 44)).frozen? ⟨w.heap.size, 1, none⟩ = false := frozenOf (Below.refl (w.alloc (.cells #[.int .i64 0, .int .i64 0, .int .i64 0] 44)).heap.size _) (by go_simp) (by simp <;> omega)
    have z2 : (w.alloc (.cells #[.int .i64 0, .int .i64 0, .int .i64 0] 44)).cell? ⟨w.heap.size, 2, none⟩ = some (.int .i64 0) := cellOf (Below.refl (w.alloc (.cells #[.int .i64 0, .int .i64 0, .int .i64 0] 44)).heap.size _) (by go_simp) (by simp <;> omega)
    have y2 : (w.alloc (.cells #[.int .i64 0, .int .i64 0, .int .i64 0] 44)).frozen? ⟨w.heap.size, 2, none⟩ = false := frozenOf (Below.refl (w.alloc (.cells #[.int .i64 0, .int .i64 0, .int .i64 0] 44)).heap.size _) (by go_simp) (by simp <;> omega)
    try simp only [Exit.inBlock, Exit.then]
    refine bodyPost_ret (by simp [results, Tryz.results28, go_sem, y0, y1, y2, z0, z1, z2]; try rfl) rfl ?_
    exact ⟨ret_li (by rw [← hx.out]) (by rw [← hy.out]) (by rw [← hz.out]) (by rw [← hq.out]), by first | exact hB | go_grown⟩
  | true =>
    have hp := Pl.field_bd hf
    obtain ⟨hp1, hp2⟩ := hp
    go_enter Tryz.func28, Tryz.ntmps28
    go_wp2_with (go_at_call 12; refine (isField_any _ _).mono ?_; rintro e w' ⟨rfl, rfl⟩)
    refine (readNumbers3 p s _ hs).mono ?_
    rintro e w1 ⟨hb, hr⟩
    have z0 : w1.cell? ⟨w.heap.size, 0, none⟩ = some (.int .i64 0) := cellOf hb (by go_simp) (by simp <;> omega)
    have y0 : w1.frozen? ⟨w.heap.size, 0, none⟩ = false := frozenOf hb (by go_simp) (by simp <;> omega)
    have z1 : w1.cell? ⟨w.heap.size, 1, none⟩ = some (.int .i64 0) := cellOf hb (by go_simp) (by simp <;> omega)
    have y1 : w1.frozen? ⟨w.heap.size, 1, none⟩ = false := frozenOf hb (by go_simp) (by simp <;> omega)
    have z2 : w1.cell? ⟨w.heap.size, 2, none⟩ = some (.int .i64 0) := cellOf hb (by go_simp) (by simp <;> omega)
    have y2 : w1.frozen? ⟨w.heap.size, 2, none⟩ = false := frozenOf hb (by go_simp) (by simp <;> omega)
    have hB : Below w.heap.size w w1 := below_of (by go_grown) hb (by simp <;> omega)
    clear hb
    rcases hr with ⟨g, c, xs, rfl, hO, hR⟩ | ⟨v, rfl, hR⟩
    · have hne : w.heap.size < g := by have := hO.lt; simp at this; omega
      obtain ⟨x, y, z, rfl⟩ := Pl.len3 (xs := xs) (by have := Pl.readN_len hR; omega)
      have d0 : w1.cell? ⟨g, 0, none⟩ = some (.int .i64 x) := hO.cell (j := 0) (by simp [ints])
      have d1 : w1.cell? ⟨g, 1, none⟩ = some (.int .i64 y) := hO.cell (j := 1) (by simp [ints])
      have d2 : w1.cell? ⟨g, 2, none⟩ = some (.int .i64 z) := hO.cell (j := 2) (by simp [ints])
      cases hl : Pl.lineB p x y z with
      | true =>
        have hv := hfin.out
        rw [Pl.parseLn_s hf hR hl] at hv
        simp only [Prod.mk.injEq] at hv
        obtain ⟨⟨hx, hy, hz⟩, hq⟩ := hv
        replace hx := hid hx
        replace hy := hid hy
        replace hz := hid hz
        replace hq := hid hq
        clear hfin
        replace hR := hid hR
        go_wp2_with fail
        refine Reg.wp_region_guard (by kernel_rfl) 17 (by kernel_rfl) ?_
        simp only [List.take_succ_cons, List.take_zero, List.drop_succ_cons, List.drop_zero]
        refine Reg.wpH_do (v := ?vg1x0) (by first | rfl | kernel_rfl) (fun wq hq => ?gg1x0) ?kg1x0
        case gg1x0 => (have q0 := keepC hq d0; have q1 := keepC hq d1; have q2 := keepC hq d2; have q6 := keepC hq z0; have q7 := keepC hq z1; have q8 := keepC hq z2; refine Reg.gAt_val ?_; go_simp; first | done | (with_reducible rfl) | rfl)
        try simp only [Act.put, List.setIfInBounds_toArray, List.set_cons_zero, List.set_cons_succ]
        refine Reg.wpH_do (v := ?vg1x1) (by first | rfl | kernel_rfl) (fun wq hq => ?gg1x1) ?kg1x1
        case gg1x1 => (have q0 := keepC hq d0; have q1 := keepC hq d1; have q2 := keepC hq d2; have q6 := keepC hq z0; have q7 := keepC hq z1; have q8 := keepC hq z2; refine Reg.gAt_val ?_; go_simp; first | done | (with_reducible rfl) | rfl)
        try simp only [Act.put, List.setIfInBounds_toArray, List.set_cons_zero, List.set_cons_succ]
        refine Reg.wpH_do (v := ?vg1x2) (by first | rfl | kernel_rfl) (fun wq hq => ?gg1x2) ?kg1x2
        case gg1x2 => (have q0 := keepC hq d0; have q1 := keepC hq d1; have q2 := keepC hq d2; have q6 := keepC hq z0; have q7 := keepC hq z1; have q8 := keepC hq z2; refine Reg.gAt_val ?_; go_simp; first | done | (with_reducible rfl) | rfl)
        try simp only [Act.put, List.setIfInBounds_toArray, List.set_cons_zero, List.set_cons_succ]
        refine Reg.wpH_do (v := ?vg1x3) (by first | rfl | kernel_rfl) (fun wq hq => ?gg1x3) ?kg1x3
        case gg1x3 => (have q0 := keepC hq d0; have q1 := keepC hq d1; have q2 := keepC hq d2; have q6 := keepC hq z0; have q7 := keepC hq z1; have q8 := keepC hq z2; refine Reg.gAt_val ?_; go_simp; first | done | (with_reducible rfl) | rfl)
        try simp only [Act.put, List.setIfInBounds_toArray, List.set_cons_zero, List.set_cons_succ]
        refine Reg.wpH_do (v := ?vg1x4) (by first | rfl | kernel_rfl) (fun wq hq => ?gg1x4) ?kg1x4
        case gg1x4 => (have q0 := keepC hq d0; have q1 := keepC hq d1; have q2 := keepC hq d2; have q6 := keepC hq z0; have q7 := keepC hq z1; have q8 := keepC hq z2; refine Reg.gAt_val ?_; go_simp; first | done | (with_reducible rfl) | rfl)
        try simp only [Act.put, List.setIfInBounds_toArray, List.set_cons_zero, List.set_cons_succ]
        refine Reg.wpH_do (v := ?vg1x5) (by first | rfl | kernel_rfl) (fun wq hq => ?gg1x5) ?kg1x5
        case gg1x5 => (have q0 := keepC hq d0; have q1 := keepC hq d1; have q2 := keepC hq d2; have q6 := keepC hq z0; have q7 := keepC hq z1; have q8 := keepC hq z2; refine Reg.gAt_val ?_; go_simp; first | done | (with_reducible rfl) | rfl)
        try simp only [Act.put, List.setIfInBounds_toArray, List.set_cons_zero, List.set_cons_succ]
        refine Reg.wpH_do (v := ?vg1x6) (by first | rfl | kernel_rfl) (fun wq hq => ?gg1x6) ?kg1x6
        case gg1x6 => (have q0 := keepC hq d0; have q1 := keepC hq d1; have q2 := keepC hq d2; have q6 := keepC hq z0; have q7 := keepC hq z1; have q8 := keepC hq z2; refine Reg.gAt_val ?_; go_simp; first | done | (with_reducible rfl) | rfl)
        try simp only [Act.put, List.setIfInBounds_toArray, List.set_cons_zero, List.set_cons_succ]
        refine Reg.wpH_do (v := ?vg1x7) (by first | rfl | kernel_rfl) (fun wq hq => ?gg1x7) ?kg1x7
        case gg1x7 => (have q0 := keepC hq d0; have q1 := keepC hq d1; have q2 := keepC hq d2; have q6 := keepC hq z0; have q7 := keepC hq z1; have q8 := keepC hq z2; refine Reg.gAt_val ?_; go_simp; first | done | (with_reducible rfl) | rfl)
        try simp only [Act.put, List.setIfInBounds_toArray, List.set_cons_zero, List.set_cons_succ]
        refine Reg.wpH_do (v := ?vg1x8) (by first | rfl | kernel_rfl) (fun wq hq => ?gg1x8) ?kg1x8
        case gg1x8 => (have q0 := keepC hq d0; have q1 := keepC hq d1; have q2 := keepC hq d2; have q6 := keepC hq z0; have q7 := keepC hq z1; have q8 := keepC hq z2; refine Reg.gAt_val ?_; go_simp; first | done | (with_reducible rfl) | rfl)
        try simp only [Act.put, List.setIfInBounds_toArray, List.set_cons_zero, List.set_cons_succ]
        refine Reg.wpH_do (v := ?vg1x9) (by first | rfl | kernel_rfl) (fun wq hq => ?gg1x9) ?kg1x9
        case gg1x9 => (have q0 := keepC hq d0; have q1 := keepC hq d1; have q2 := keepC hq d2; have q6 := keepC hq z0; have q7 := keepC hq z1; have q8 := keepC hq z2; refine Reg.gAt_val ?_; go_simp; first | done | (with_reducible rfl) | rfl)
        try simp only [Act.put, List.setIfInBounds_toArray, List.set_cons_zero, List.set_cons_succ]
        refine Reg.wpH_do (v := ?vg1x10) (by first | rfl | kernel_rfl) (fun wq hq => ?gg1x10) ?kg1x10
        case gg1x10 => (have q0 := keepC hq d0; have q1 := keepC hq d1; have q2 := keepC hq d2; have q6 := keepC hq z0; have q7 := keepC hq z1; have q8 := keepC hq z2; refine Reg.gAt_val ?_; go_simp; first | done | (with_reducible rfl) | rfl)
        try simp only [Act.put, List.setIfInBounds_toArray, List.set_cons_zero, List.set_cons_succ]
        refine Reg.wpH_do (v := ?vg1x11) (by first | rfl | kernel_rfl) (fun wq hq => ?gg1x11) ?kg1x11
        case gg1x11 => (have q0 := keepC hq d0; have q1 := keepC hq d1; have q2 := keepC hq d2; have q6 := keepC hq z0; have q7 := keepC hq z1; have q8 := keepC hq z2; refine Reg.gAt_val ?_; go_simp; first | done | (with_reducible rfl) | rfl)
        try simp only [Act.put, List.setIfInBounds_toArray, List.set_cons_zero, List.set_cons_succ]
        refine Reg.wpH_do (v := ?vg1x12) (by first | rfl | kernel_rfl) (fun wq hq => ?gg1x12) ?kg1x12
        case gg1x12 => (have q0 := keepC hq d0; have q1 := keepC hq d1; have q2 := keepC hq d2; have q6 := keepC hq z0; have q7 := keepC hq z1; have q8 := keepC hq z2; refine Reg.gAt_val ?_; go_simp; first | done | (with_reducible rfl) | rfl)
        try simp only [Act.put, List.setIfInBounds_toArray, List.set_cons_zero, List.set_cons_succ]
        refine Reg.wpH_do (v := ?vg1x13) (by first | rfl | kernel_rfl) (fun wq hq => ?gg1x13) ?kg1x13
        case gg1x13 => (have q0 := keepC hq d0; have q1 := keepC hq d1; have q2 := keepC hq d2; have q6 := keepC hq z0; have q7 := keepC hq z1; have q8 := keepC hq z2; refine Reg.gAt_val ?_; go_simp; first | done | (with_reducible rfl) | rfl)
        try simp only [Act.put, List.setIfInBounds_toArray, List.set_cons_zero, List.set_cons_succ]
        refine Reg.wpH_do (v := .bool true) (by first | rfl | kernel_rfl) (fun wq hq => ?gg1x14) ?kg1x14
        case gg1x14 => (unfold Reg.gAt; go_simp; (try refine Reg.quiet_enter ?_); exact isLine_any p x y z _ |>.mono fun e w2 h => ⟨by rw [h.1, hl], h.2⟩)
        try simp only [Act.put, List.setIfInBounds_toArray, List.set_cons_zero, List.set_cons_succ]
        refine Reg.wpH_do (v := ?vg1x15) (by first | rfl | kernel_rfl) (fun wq hq => ?gg1x15) ?kg1x15
        case gg1x15 => (have q0 := keepC hq d0; have q1 := keepC hq d1; have q2 := keepC hq d2; have q6 := keepC hq z0; have q7 := keepC hq z1; have q8 := keepC hq z2; refine Reg.gAt_val ?_; go_simp; first | done | (with_reducible rfl) | rfl)
        try simp only [Act.put, List.setIfInBounds_toArray, List.set_cons_zero, List.set_cons_succ]
        refine Reg.wpH_do (v := ?vg1x16) (by first | rfl | kernel_rfl) (fun wq hq => ?gg1x16) ?kg1x16
        case gg1x16 => (have q0 := keepC hq d0; have q1 := keepC hq d1; have q2 := keepC hq d2; have q6 := keepC hq z0; have q7 := keepC hq z1; have q8 := keepC hq z2; refine Reg.gAt_val ?_; go_simp; first | done | (with_reducible rfl) | rfl)
        try simp only [Act.put, List.setIfInBounds_toArray, List.set_cons_zero, List.set_cons_succ]
        intro w2 hB2
        replace d0 := keepC hB2 d0
        replace d1 := keepC hB2 d1
        replace d2 := keepC hB2 d2
        replace y0 := keepF hB2 z0 y0
        replace y1 := keepF hB2 z1 y1
        replace y2 := keepF hB2 z2 y2
        replace z0 := keepC hB2 z0
        replace z1 := keepC hB2 z1
        replace z2 := keepC hB2 z2
        replace hB := below_of hB hB2 hB.size
        clear hB2
        change wpList _ _ _ _ _ _
        go_wp2_with fail
        go_region
        go_wp2_with fail
        try simp only [Exit.inBlock, Exit.then]
        refine bodyPost_ret (by simp [results, Tryz.results28, go_sem, y0, y1, y2, z0, z1, z2]; try rfl) rfl ?_
        exact ⟨ret_li (by rw [← hx.out]) (by rw [← hy.out]) (by rw [← hz.out]) (by rw [← hq.out]), by first | exact hB | go_grown⟩
      | false =>
        have hv := hfin.out
        rw [Pl.parseLn_t hf hR hl] at hv
        simp only [Prod.mk.injEq] at hv
        obtain ⟨⟨hx, hy, hz⟩, hq⟩ := hv
        replace hx := hid hx
        replace hy := hid hy
        replace hz := hid hz
        replace hq := hid hq
        clear hfin
        replace hR := hid hR
        go_wp2_with fail
        refine Reg.wp_region_guard (by kernel_rfl) 17 (by kernel_rfl) ?_
        simp only [List.take_succ_cons, List.take_zero, List.drop_succ_cons, List.drop_zero]
        refine Reg.wpH_do (v := ?vg2x0) (by first | rfl | kernel_rfl) (fun wq hq => ?gg2x0) ?kg2x0
        case gg2x0 => (have q0 := keepC hq d0; have q1 := keepC hq d1; have q2 := keepC hq d2; have q6 := keepC hq z0; have q7 := keepC hq z1; have q8 := keepC hq z2; refine Reg.gAt_val ?_; go_simp; first | done | (with_reducible rfl) | rfl)
        try simp only [Act.put, List.setIfInBounds_toArray, List.set_cons_zero, List.set_cons_succ]
        refine Reg.wpH_do (v := ?vg2x1) (by first | rfl | kernel_rfl) (fun wq hq => ?gg2x1) ?kg2x1
        case gg2x1 => (have q0 := keepC hq d0; have q1 := keepC hq d1; have q2 := keepC hq d2; have q6 := keepC hq z0; have q7 := keepC hq z1; have q8 := keepC hq z2; refine Reg.gAt_val ?_; go_simp; first | done | (with_reducible rfl) | rfl)
        try simp only [Act.put, List.setIfInBounds_toArray, List.set_cons_zero, List.set_cons_succ]
        refine Reg.wpH_do (v := ?vg2x2) (by first | rfl | kernel_rfl) (fun wq hq => ?gg2x2) ?kg2x2
        case gg2x2 => (have q0 := keepC hq d0; have q1 := keepC hq d1; have q2 := keepC hq d2; have q6 := keepC hq z0; have q7 := keepC hq z1; have q8 := keepC hq z2; refine Reg.gAt_val ?_; go_simp; first | done | (with_reducible rfl) | rfl)
        try simp only [Act.put, List.setIfInBounds_toArray, List.set_cons_zero, List.set_cons_succ]
        refine Reg.wpH_do (v := ?vg2x3) (by first | rfl | kernel_rfl) (fun wq hq => ?gg2x3) ?kg2x3
        case gg2x3 => (have q0 := keepC hq d0; have q1 := keepC hq d1; have q2 := keepC hq d2; have q6 := keepC hq z0; have q7 := keepC hq z1; have q8 := keepC hq z2; refine Reg.gAt_val ?_; go_simp; first | done | (with_reducible rfl) | rfl)
        try simp only [Act.put, List.setIfInBounds_toArray, List.set_cons_zero, List.set_cons_succ]
        refine Reg.wpH_do (v := ?vg2x4) (by first | rfl | kernel_rfl) (fun wq hq => ?gg2x4) ?kg2x4
        case gg2x4 => (have q0 := keepC hq d0; have q1 := keepC hq d1; have q2 := keepC hq d2; have q6 := keepC hq z0; have q7 := keepC hq z1; have q8 := keepC hq z2; refine Reg.gAt_val ?_; go_simp; first | done | (with_reducible rfl) | rfl)
        try simp only [Act.put, List.setIfInBounds_toArray, List.set_cons_zero, List.set_cons_succ]
        refine Reg.wpH_do (v := ?vg2x5) (by first | rfl | kernel_rfl) (fun wq hq => ?gg2x5) ?kg2x5
        case gg2x5 => (have q0 := keepC hq d0; have q1 := keepC hq d1; have q2 := keepC hq d2; have q6 := keepC hq z0; have q7 := keepC hq z1; have q8 := keepC hq z2; refine Reg.gAt_val ?_; go_simp; first | done | (with_reducible rfl) | rfl)
        try simp only [Act.put, List.setIfInBounds_toArray, List.set_cons_zero, List.set_cons_succ]
        refine Reg.wpH_do (v := ?vg2x6) (by first | rfl | kernel_rfl) (fun wq hq => ?gg2x6) ?kg2x6
        case gg2x6 => (have q0 := keepC hq d0; have q1 := keepC hq d1; have q2 := keepC hq d2; have q6 := keepC hq z0; have q7 := keepC hq z1; have q8 := keepC hq z2; refine Reg.gAt_val ?_; go_simp; first | done | (with_reducible rfl) | rfl)
        try simp only [Act.put, List.setIfInBounds_toArray, List.set_cons_zero, List.set_cons_succ]
        refine Reg.wpH_do (v := ?vg2x7) (by first | rfl | kernel_rfl) (fun wq hq => ?gg2x7) ?kg2x7
        case gg2x7 => (have q0 := keepC hq d0; have q1 := keepC hq d1; have q2 := keepC hq d2; have q6 := keepC hq z0; have q7 := keepC hq z1; have q8 := keepC hq z2; refine Reg.gAt_val ?_; go_simp; first | done | (with_reducible rfl) | rfl)
        try simp only [Act.put, List.setIfInBounds_toArray, List.set_cons_zero, List.set_cons_succ]
        refine Reg.wpH_do (v := ?vg2x8) (by first | rfl | kernel_rfl) (fun wq hq => ?gg2x8) ?kg2x8
        case gg2x8 => (have q0 := keepC hq d0; have q1 := keepC hq d1; have q2 := keepC hq d2; have q6 := keepC hq z0; have q7 := keepC hq z1; have q8 := keepC hq z2; refine Reg.gAt_val ?_; go_simp; first | done | (with_reducible rfl) | rfl)
        try simp only [Act.put, List.setIfInBounds_toArray, List.set_cons_zero, List.set_cons_succ]
        refine Reg.wpH_do (v := ?vg2x9) (by first | rfl | kernel_rfl) (fun wq hq => ?gg2x9) ?kg2x9
        case gg2x9 => (have q0 := keepC hq d0; have q1 := keepC hq d1; have q2 := keepC hq d2; have q6 := keepC hq z0; have q7 := keepC hq z1; have q8 := keepC hq z2; refine Reg.gAt_val ?_; go_simp; first | done | (with_reducible rfl) | rfl)
        try simp only [Act.put, List.setIfInBounds_toArray, List.set_cons_zero, List.set_cons_succ]
        refine Reg.wpH_do (v := ?vg2x10) (by first | rfl | kernel_rfl) (fun wq hq => ?gg2x10) ?kg2x10
        case gg2x10 => (have q0 := keepC hq d0; have q1 := keepC hq d1; have q2 := keepC hq d2; have q6 := keepC hq z0; have q7 := keepC hq z1; have q8 := keepC hq z2; refine Reg.gAt_val ?_; go_simp; first | done | (with_reducible rfl) | rfl)
        try simp only [Act.put, List.setIfInBounds_toArray, List.set_cons_zero, List.set_cons_succ]
        refine Reg.wpH_do (v := ?vg2x11) (by first | rfl | kernel_rfl) (fun wq hq => ?gg2x11) ?kg2x11
        case gg2x11 => (have q0 := keepC hq d0; have q1 := keepC hq d1; have q2 := keepC hq d2; have q6 := keepC hq z0; have q7 := keepC hq z1; have q8 := keepC hq z2; refine Reg.gAt_val ?_; go_simp; first | done | (with_reducible rfl) | rfl)
        try simp only [Act.put, List.setIfInBounds_toArray, List.set_cons_zero, List.set_cons_succ]
        refine Reg.wpH_do (v := ?vg2x12) (by first | rfl | kernel_rfl) (fun wq hq => ?gg2x12) ?kg2x12
        case gg2x12 => (have q0 := keepC hq d0; have q1 := keepC hq d1; have q2 := keepC hq d2; have q6 := keepC hq z0; have q7 := keepC hq z1; have q8 := keepC hq z2; refine Reg.gAt_val ?_; go_simp; first | done | (with_reducible rfl) | rfl)
        try simp only [Act.put, List.setIfInBounds_toArray, List.set_cons_zero, List.set_cons_succ]
        refine Reg.wpH_do (v := ?vg2x13) (by first | rfl | kernel_rfl) (fun wq hq => ?gg2x13) ?kg2x13
        case gg2x13 => (have q0 := keepC hq d0; have q1 := keepC hq d1; have q2 := keepC hq d2; have q6 := keepC hq z0; have q7 := keepC hq z1; have q8 := keepC hq z2; refine Reg.gAt_val ?_; go_simp; first | done | (with_reducible rfl) | rfl)
        try simp only [Act.put, List.setIfInBounds_toArray, List.set_cons_zero, List.set_cons_succ]
        refine Reg.wpH_do (v := .bool false) (by first | rfl | kernel_rfl) (fun wq hq => ?gg2x14) ?kg2x14
        case gg2x14 => (unfold Reg.gAt; go_simp; (try refine Reg.quiet_enter ?_); exact isLine_any p x y z _ |>.mono fun e w2 h => ⟨by rw [h.1, hl], h.2⟩)
        try simp only [Act.put, List.setIfInBounds_toArray, List.set_cons_zero, List.set_cons_succ]
        refine Reg.wpH_do (v := ?vg2x15) (by first | rfl | kernel_rfl) (fun wq hq => ?gg2x15) ?kg2x15
        case gg2x15 => (have q0 := keepC hq d0; have q1 := keepC hq d1; have q2 := keepC hq d2; have q6 := keepC hq z0; have q7 := keepC hq z1; have q8 := keepC hq z2; refine Reg.gAt_val ?_; go_simp; first | done | (with_reducible rfl) | rfl)
        try simp only [Act.put, List.setIfInBounds_toArray, List.set_cons_zero, List.set_cons_succ]
        refine Reg.wpH_do (v := ?vg2x16) (by first | rfl | kernel_rfl) (fun wq hq => ?gg2x16) ?kg2x16
        case gg2x16 => (have q0 := keepC hq d0; have q1 := keepC hq d1; have q2 := keepC hq d2; have q6 := keepC hq z0; have q7 := keepC hq z1; have q8 := keepC hq z2; refine Reg.gAt_val ?_; go_simp; first | done | (with_reducible rfl) | rfl)
        try simp only [Act.put, List.setIfInBounds_toArray, List.set_cons_zero, List.set_cons_succ]
        intro w2 hB2
        replace d0 := keepC hB2 d0
        replace d1 := keepC hB2 d1
        replace d2 := keepC hB2 d2
        replace y0 := keepF hB2 z0 y0
        replace y1 := keepF hB2 z1 y1
        replace y2 := keepF hB2 z2 y2
        replace z0 := keepC hB2 z0
        replace z1 := keepC hB2 z1
        replace z2 := keepC hB2 z2
        replace hB := below_of hB hB2 hB.size
        clear hB2
        change wpList _ _ _ _ _ _
        go_wp2_with fail
        try simp only [Exit.inBlock, Exit.then]
        refine bodyPost_ret (by simp [results, Tryz.results28, go_sem, y0, y1, y2, z0, z1, z2]; try rfl) rfl ?_
        exact ⟨ret_li (by rw [← hx.out]) (by rw [← hy.out]) (by rw [← hz.out]) (by rw [← hq.out]), by first | exact hB | go_grown⟩
    · have hv := hfin.out
      rw [Pl.parseLn_n hf hR] at hv
      simp only [Prod.mk.injEq] at hv
      obtain ⟨⟨hx, hy, hz⟩, hq⟩ := hv
      replace hx := hid hx
      replace hy := hid hy
      replace hz := hid hz
      replace hq := hid hq
      clear hfin
      replace hR := hid hR
      go_wp2_with fail
      refine Reg.wp_region_guard (by kernel_rfl) 17 (by kernel_rfl) ?_
      simp only [List.take_succ_cons, List.take_zero, List.drop_succ_cons, List.drop_zero]
      refine Reg.wpH_do (v := ?vg3x0) (by first | rfl | kernel_rfl) (fun wq hq => ?gg3x0) ?kg3x0
      case gg3x0 => (have q3 := keepC hq z0; have q4 := keepC hq z1; have q5 := keepC hq z2; refine Reg.gAt_val ?_; go_simp; first | done | (with_reducible rfl) | rfl)
      try simp only [Act.put, List.setIfInBounds_toArray, List.set_cons_zero, List.set_cons_succ]
      refine Reg.wpH_do (v := ?vg3x1) (by first | rfl | kernel_rfl) (fun wq hq => ?gg3x1) ?kg3x1
      case gg3x1 => (have q3 := keepC hq z0; have q4 := keepC hq z1; have q5 := keepC hq z2; refine Reg.gAt_val ?_; go_simp; first | done | (with_reducible rfl) | rfl)
      try simp only [Act.put, List.setIfInBounds_toArray, List.set_cons_zero, List.set_cons_succ]
      refine Reg.wpH_do (v := ?vg3x2) (by first | rfl | kernel_rfl) (fun wq hq => ?gg3x2) ?kg3x2
      case gg3x2 => (have q3 := keepC hq z0; have q4 := keepC hq z1; have q5 := keepC hq z2; refine Reg.gAt_val ?_; go_simp; first | done | (with_reducible rfl) | rfl)
      try simp only [Act.put, List.setIfInBounds_toArray, List.set_cons_zero, List.set_cons_succ]
      refine Reg.wpH_skip (by first | rfl | kernel_rfl) ?_
      try simp only [Act.put, List.setIfInBounds_toArray, List.set_cons_zero, List.set_cons_succ]
      refine Reg.wpH_skip (by first | rfl | kernel_rfl) ?_
      try simp only [Act.put, List.setIfInBounds_toArray, List.set_cons_zero, List.set_cons_succ]
      refine Reg.wpH_skip (by first | rfl | kernel_rfl) ?_
      try simp only [Act.put, List.setIfInBounds_toArray, List.set_cons_zero, List.set_cons_succ]
      refine Reg.wpH_skip (by first | rfl | kernel_rfl) ?_
      try simp only [Act.put, List.setIfInBounds_toArray, List.set_cons_zero, List.set_cons_succ]
      refine Reg.wpH_skip (by first | rfl | kernel_rfl) ?_
      try simp only [Act.put, List.setIfInBounds_toArray, List.set_cons_zero, List.set_cons_succ]
      refine Reg.wpH_skip (by first | rfl | kernel_rfl) ?_
      try simp only [Act.put, List.setIfInBounds_toArray, List.set_cons_zero, List.set_cons_succ]
      refine Reg.wpH_skip (by first | rfl | kernel_rfl) ?_
      try simp only [Act.put, List.setIfInBounds_toArray, List.set_cons_zero, List.set_cons_succ]
      refine Reg.wpH_skip (by first | rfl | kernel_rfl) ?_
      try simp only [Act.put, List.setIfInBounds_toArray, List.set_cons_zero, List.set_cons_succ]
      refine Reg.wpH_skip (by first | rfl | kernel_rfl) ?_
      try simp only [Act.put, List.setIfInBounds_toArray, List.set_cons_zero, List.set_cons_succ]
      refine Reg.wpH_skip (by first | rfl | kernel_rfl) ?_
      try simp only [Act.put, List.setIfInBounds_toArray, List.set_cons_zero, List.set_cons_succ]
      refine Reg.wpH_skip (by first | rfl | kernel_rfl) ?_
      try simp only [Act.put, List.setIfInBounds_toArray, List.set_cons_zero, List.set_cons_succ]
      refine Reg.wpH_skip (by first | rfl | kernel_rfl) ?_
      try simp only [Act.put, List.setIfInBounds_toArray, List.set_cons_zero, List.set_cons_succ]
      refine Reg.wpH_skip (by first | rfl | kernel_rfl) ?_
      try simp only [Act.put, List.setIfInBounds_toArray, List.set_cons_zero, List.set_cons_succ]
      refine Reg.wpH_do (v := ?vg3x16) (by first | rfl | kernel_rfl) (fun wq hq => ?gg3x16) ?kg3x16
      case gg3x16 => (have q3 := keepC hq z0; have q4 := keepC hq z1; have q5 := keepC hq z2; refine Reg.gAt_val ?_; go_simp; first | done | (with_reducible rfl) | rfl)
      try simp only [Act.put, List.setIfInBounds_toArray, List.set_cons_zero, List.set_cons_succ]
      intro w2 hB2
      replace y0 := keepF hB2 z0 y0
      replace y1 := keepF hB2 z1 y1
      replace y2 := keepF hB2 z2 y2
      replace z0 := keepC hB2 z0
      replace z1 := keepC hB2 z1
      replace z2 := keepC hB2 z2
      replace hB := below_of hB hB2 hB.size
      clear hB2
      change wpList _ _ _ _ _ _
      go_wp2_with fail
      try simp only [Exit.inBlock, Exit.then]
      refine bodyPost_ret (by simp [results, Tryz.results28, go_sem, y0, y1, y2, z0, z1, z2]; try rfl) rfl ?_
      exact ⟨ret_li (by rw [← hx.out]) (by rw [← hy.out]) (by rw [← hz.out]) (by rw [← hq.out]), by first | exact hB | go_grown⟩
theorem sParsePoint_any (p : Int) (s : ByteArray) (w : World) (hs : s.size ≤ 2199023255552) :
    Calls Tryz.prog 30 #[.int .i64 p, .string s] w fun e w' => e = .returned (.tuple #[.agg #[.int .i64 (Pl.parsePt p s.data.toList).1.1, .int .i64 (Pl.parsePt p s.data.toList).1.2], .int .i64 (Pl.parsePt p s.data.toList).2]) ∧ Below w.heap.size w w' := by
  obtain ⟨rx, ry, rq, hfin⟩ : ∃ rx ry rq : Int, Hid ((Pl.parsePt p s.data.toList) = ((rx, ry), rq)) := ⟨_, _, _, rfl⟩
  rw [hfin.out]
  dsimp only
  cases hf : Pl.fieldB p with
  | false =>
    have hc := ask_e hf
    have hc1 : Hid (Pl.ask p true = 1) := hid (Pl.ask_f hf)
    have hv := hfin.out
    rw [Pl.parsePt_f hf] at hv
    simp only [Prod.mk.injEq] at hv
    obtain ⟨⟨hx, hy⟩, hq⟩ := hv
    replace hx := hid hx
    replace hy := hid hy
    replace hq := hid hq
    clear hfin
    go_enter Tryz.func30, Tryz.ntmps30
    go_wp2_with (go_at_call 40; refine (l01Numbers_nil _ _).mono ?_; rintro e w' ⟨rfl, rfl⟩)
    have z0 : (w.alloc (.cells #[.int .i64 0, .int .i64 0] 29)).cell? ⟨w.heap.size, 0, none⟩ = some (.int .i64 0) := cellOf (Below.refl (w.alloc (.cells #[.int .i64 0, .int .i64 0] 29)).heap.size _) (by go_simp) (by simp <;> omega)
    have y0 : (w.alloc (.cells #[.int .i64 0, .int .i64 0] 29)).frozen? ⟨w.heap.size, 0, none⟩ = false := frozenOf (Below.refl (w.alloc (.cells #[.int .i64 0, .int .i64 0] 29)).heap.size _) (by go_simp) (by simp <;> omega)
    have z1 : (w.alloc (.cells #[.int .i64 0, .int .i64 0] 29)).cell? ⟨w.heap.size, 1, none⟩ = some (.int .i64 0) := cellOf (Below.refl (w.alloc (.cells #[.int .i64 0, .int .i64 0] 29)).heap.size _) (by go_simp) (by simp <;> omega)
    have y1 : (w.alloc (.cells #[.int .i64 0, .int .i64 0] 29)).frozen? ⟨w.heap.size, 1, none⟩ = false := frozenOf (Below.refl (w.alloc (.cells #[.int .i64 0, .int .i64 0] 29)).heap.size _) (by go_simp) (by simp <;> omega)
    rw [hc1.out] at *
    try simp only [Exit.inBlock, Exit.then]
    refine bodyPost_ret (by simp [results, Tryz.results30, go_sem, y0, y1, z0, z1]; try rfl) rfl ?_
    exact ⟨ret_pi (by rw [← hx.out]) (by rw [← hy.out]) (by rw [← hq.out]), by first | exact hB | go_grown⟩
  | true =>
    have hp := Pl.field_bd hf
    obtain ⟨hp1, hp2⟩ := hp
    have hc := ask_t hf
    go_enter Tryz.func30, Tryz.ntmps30
    go_wp2_with (go_at_call 40; refine (l01Numbers_nil _ _).mono ?_; rintro e w' ⟨rfl, rfl⟩)
    clear hc
    refine (l01Parts_any s _ hs).mono ?_
    rintro e w1 ⟨g, c, rfl, hO, hb⟩
    have z0 : w1.cell? ⟨w.heap.size, 0, none⟩ = some (.int .i64 0) := cellOf hb (by go_simp) (by simp <;> omega)
    have y0 : w1.frozen? ⟨w.heap.size, 0, none⟩ = false := frozenOf hb (by go_simp) (by simp <;> omega)
    have z1 : w1.cell? ⟨w.heap.size, 1, none⟩ = some (.int .i64 0) := cellOf hb (by go_simp) (by simp <;> omega)
    have y1 : w1.frozen? ⟨w.heap.size, 1, none⟩ = false := frozenOf hb (by go_simp) (by simp <;> omega)
    have hB : Below w.heap.size w w1 := below_of (by go_grown) hb (by simp <;> omega)
    have hBs : w.heap.size < w1.heap.size := by have := hb.size; simp at this; omega
    clear hb
    have hne : w.heap.size < g := by have := hO.lt; simp at this; omega
    by_cases hN : (Pl.splitC s.data.toList).length = 2
    · obtain ⟨x, y, hxs⟩ := Pl.len2 (xs := (Pl.splitC s.data.toList).map Pl.numI) (by simpa using hN)
      rw [hxs, hN] at hO
      rw [hN]
      have hRR := hid (Pl.read_parts2 (p := p) (by omega) hxs)
      replace hxs := hid hxs
      clear hN
      have d0 : w1.cell? ⟨g, 0, none⟩ = some (.int .i64 x) := hO.cell (j := 0) (by simp [ints])
      have d1 : w1.cell? ⟨g, 1, none⟩ = some (.int .i64 y) := hO.cell (j := 1) (by simp [ints])
      cases hb : (Pl.numB p x && Pl.numB p y) with
      | true =>
        have hR := hRR.out
        rw [hb] at hR
        simp only [if_true, if_false, Bool.false_eq_true] at hR
        have hca := ask_t hf
        have hv := hfin.out
        rw [Pl.parsePt_s hf hR] at hv
        simp only [Prod.mk.injEq] at hv
        obtain ⟨⟨hx, hy⟩, hq⟩ := hv
        replace hx := hid hx
        replace hy := hid hy
        replace hq := hid hq
        clear hfin
        replace hR := hid hR
        go_wp2_with fail
        refine (l01Numbers_any p g 0 2 c [x, y] rfl (by omega) _ ?_).mono ?_
        · intro j hj
          match j, hj with
          | 0, _ => exact d0
          | 1, _ => exact d1
        rintro e w2 ⟨rfl, rfl⟩
        rw [show ([x, y].all (Pl.numB p)) = true by rw [← hb]; simp]
        go_wp2_with fail
        go_region
        go_wp2_with fail
        try simp only [Exit.inBlock, Exit.then]
        refine bodyPost_ret (by simp [results, Tryz.results30, go_sem, y0, y1, z0, z1]; try rfl) rfl ?_
        exact ⟨ret_pi (by rw [← hx.out]) (by rw [← hy.out]) (by rw [← hq.out]), by first | exact hB | go_grown⟩
      | false =>
        have hR := hRR.out
        rw [hb] at hR
        simp only [if_true, if_false, Bool.false_eq_true] at hR
        have hca := ask_n hf
        have hv := hfin.out
        rw [Pl.parsePt_n hf hR] at hv
        simp only [Prod.mk.injEq] at hv
        obtain ⟨⟨hx, hy⟩, hq⟩ := hv
        replace hx := hid hx
        replace hy := hid hy
        replace hq := hid hq
        clear hfin
        replace hR := hid hR
        go_wp2_with fail
        refine (l01Numbers_any p g 0 2 c [x, y] rfl (by omega) _ ?_).mono ?_
        · intro j hj
          match j, hj with
          | 0, _ => exact d0
          | 1, _ => exact d1
        rintro e w2 ⟨rfl, rfl⟩
        rw [show ([x, y].all (Pl.numB p)) = false by rw [← hb]; simp]
        go_wp2_with fail
        try simp only [Exit.inBlock, Exit.then]
        refine bodyPost_ret (by simp [results, Tryz.results30, go_sem, y0, y1, z0, z1]; try rfl) rfl ?_
        exact ⟨ret_pi (by rw [← hx.out]) (by rw [← hy.out]) (by rw [← hq.out]), by first | exact hB | go_grown⟩
    · have hR := Pl.read_none (p := p) (l := s.data.toList) (k := 1) (by omega) (by omega)
      have hv := hfin.out
      rw [Pl.parsePt_n hf hR] at hv
      simp only [Prod.mk.injEq] at hv
      obtain ⟨⟨hx, hy⟩, hq⟩ := hv
      replace hx := hid hx
      replace hy := hid hy
      replace hq := hid hq
      clear hfin
      replace hR := hid hR
      have hNb : (((Pl.splitC s.data.toList).length : Int) != 2) = true := by rw [bne_iff_ne]; omega
      generalize (Pl.splitC s.data.toList).length = N at *
      go_wp2_with fail
      try simp only [Exit.inBlock, Exit.then]
      refine bodyPost_ret (by simp [results, Tryz.results30, go_sem, y0, y1, z0, z1]; try rfl) rfl ?_
      exact ⟨ret_pi (by rw [← hx.out]) (by rw [← hy.out]) (by rw [← hq.out]), by first | exact hB | go_grown⟩
theorem sParseLine_any (p : Int) (s : ByteArray) (w : World) (hs : s.size ≤ 2199023255552) :
    Calls Tryz.prog 32 #[.int .i64 p, .string s] w fun e w' => e = .returned (.tuple #[.agg #[.int .i64 (Pl.parseLn p s.data.toList).1.1, .int .i64 (Pl.parseLn p s.data.toList).1.2.1, .int .i64 (Pl.parseLn p s.data.toList).1.2.2], .int .i64 (Pl.parseLn p s.data.toList).2]) ∧ Below w.heap.size w w' := by
  obtain ⟨rx, ry, rz, rq, hfin⟩ : ∃ rx ry rz rq : Int, Hid ((Pl.parseLn p s.data.toList) = ((rx, ry, rz), rq)) := ⟨_, _, _, _, rfl⟩
  rw [hfin.out]
  dsimp only
  cases hf : Pl.fieldB p with
  | false =>
    have hc := ask_e hf
    have hc1 : Hid (Pl.ask p true = 1) := hid (Pl.ask_f hf)
    have hv := hfin.out
    rw [Pl.parseLn_f hf] at hv
    simp only [Prod.mk.injEq] at hv
    obtain ⟨⟨hx, hy, hz⟩, hq⟩ := hv
    replace hx := hid hx
    replace hy := hid hy
    replace hz := hid hz
    replace hq := hid hq
    clear hfin
    go_enter Tryz.func32, Tryz.ntmps32
    go_wp2_with (go_at_call 40; refine (l01Numbers_nil _ _).mono ?_; rintro e w' ⟨rfl, rfl⟩)
    have z0 : (w.alloc (.cells #[.int .i64 0, .int .i64 0, .int .i64 0] 44)).cell? ⟨w.heap.size, 0, none⟩ = some (.int .i64 0) := cellOf (Below.refl (w.alloc (.cells #[.int .i64 0, .int .i64 0, .int .i64 0] 44)).heap.size _) (by go_simp) (by simp <;> omega)
    have y0 : (w.alloc (.cells #[.int .i64 0, .int .i64 0, .int .i64 0] 44)).frozen? ⟨w.heap.size, 0, none⟩ = false := frozenOf (Below.refl (w.alloc (.cells #[.int .i64 0, .int .i64 0, .int .i64 0] 44)).heap.size _) (by go_simp) (by simp <;> omega)
    have z1 : (w.alloc (.cells #[.int .i64 0, .int .i64 0, .int .i64 0] 44)).cell? ⟨w.heap.size, 1, none⟩ = some (.int .i64 0) := cellOf (Below.refl (w.alloc (.cells #[.int .i64 0, .int .i64 0, .int .i64 0] 44)).heap.size _) (by go_simp) (by simp <;> omega)
    have y1 : (w.alloc (.cells #[.int .i64 0, .int .i64 0, .int .i64 0] 44)).frozen? ⟨w.heap.size, 1, none⟩ = false := frozenOf (Below.refl (w.alloc (.cells #[.int .i64 0, .int .i64 0, .int .i64 0] 44)).heap.size _) (by go_simp) (by simp <;> omega)
    have z2 : (w.alloc (.cells #[.int .i64 0, .int .i64 0, .int .i64 0] 44)).cell? ⟨w.heap.size, 2, none⟩ = some (.int .i64 0) := cellOf (Below.refl (w.alloc (.cells #[.int .i64 0, .int .i64 0, .int .i64 0] 44)).heap.size _) (by go_simp) (by simp <;> omega)
    have y2 : (w.alloc (.cells #[.int .i64 0, .int .i64 0, .int .i64 0] 44)).frozen? ⟨w.heap.size, 2, none⟩ = false := frozenOf (Below.refl (w.alloc (.cells #[.int .i64 0, .int .i64 0, .int .i64 0] 44)).heap.size _) (by go_simp) (by simp <;> omega)
    rw [hc1.out] at *
    try simp only [Exit.inBlock, Exit.then]
    refine bodyPost_ret (by simp [results, Tryz.results32, go_sem, y0, y1, y2, z0, z1, z2]; try rfl) rfl ?_
    exact ⟨ret_li (by rw [← hx.out]) (by rw [← hy.out]) (by rw [← hz.out]) (by rw [← hq.out]), by first | exact hB | go_grown⟩
  | true =>
    have hp := Pl.field_bd hf
    obtain ⟨hp1, hp2⟩ := hp
    have hc := ask_t hf
    go_enter Tryz.func32, Tryz.ntmps32
    go_wp2_with (go_at_call 40; refine (l01Numbers_nil _ _).mono ?_; rintro e w' ⟨rfl, rfl⟩)
    clear hc
    refine (l01Parts_any s _ hs).mono ?_
    rintro e w1 ⟨g, c, rfl, hO, hb⟩
    have z0 : w1.cell? ⟨w.heap.size, 0, none⟩ = some (.int .i64 0) := cellOf hb (by go_simp) (by simp <;> omega)
    have y0 : w1.frozen? ⟨w.heap.size, 0, none⟩ = false := frozenOf hb (by go_simp) (by simp <;> omega)
    have z1 : w1.cell? ⟨w.heap.size, 1, none⟩ = some (.int .i64 0) := cellOf hb (by go_simp) (by simp <;> omega)
    have y1 : w1.frozen? ⟨w.heap.size, 1, none⟩ = false := frozenOf hb (by go_simp) (by simp <;> omega)
    have z2 : w1.cell? ⟨w.heap.size, 2, none⟩ = some (.int .i64 0) := cellOf hb (by go_simp) (by simp <;> omega)
    have y2 : w1.frozen? ⟨w.heap.size, 2, none⟩ = false := frozenOf hb (by go_simp) (by simp <;> omega)
    have hB : Below w.heap.size w w1 := below_of (by go_grown) hb (by simp <;> omega)
    have hBs : w.heap.size < w1.heap.size := by have := hb.size; simp at this; omega
    clear hb
    have hne : w.heap.size < g := by have := hO.lt; simp at this; omega
    by_cases hN : (Pl.splitC s.data.toList).length = 3
    · obtain ⟨x, y, z, hxs⟩ := Pl.len3 (xs := (Pl.splitC s.data.toList).map Pl.numI) (by simpa using hN)
      rw [hxs, hN] at hO
      rw [hN]
      have hRR := hid (Pl.read_parts3 (p := p) (by omega) hxs)
      replace hxs := hid hxs
      clear hN
      have d0 : w1.cell? ⟨g, 0, none⟩ = some (.int .i64 x) := hO.cell (j := 0) (by simp [ints])
      have d1 : w1.cell? ⟨g, 1, none⟩ = some (.int .i64 y) := hO.cell (j := 1) (by simp [ints])
      have d2 : w1.cell? ⟨g, 2, none⟩ = some (.int .i64 z) := hO.cell (j := 2) (by simp [ints])
      cases hl : Pl.lineB p x y z with
      | true =>
        have hw : Hid (Pl.parseLn p s.data.toList = ((x, y, z), 0)) := by
          have hR := hRR.out
          cases hb : (Pl.numB p x && Pl.numB p y && Pl.numB p z) with
          | true =>
            rw [hb] at hR
            exact hid (Pl.parseLn_s hf hR hl)
          | false =>
            rw [hb] at hR
            exfalso; unfold Pl.lineB at hl; rw [hb] at hl; simp at hl
        have hv := hfin.out
        rw [hw.out] at hv
        simp only [Prod.mk.injEq] at hv
        obtain ⟨⟨hx, hy, hz⟩, hq⟩ := hv
        replace hx := hid hx
        replace hy := hid hy
        replace hz := hid hz
        replace hq := hid hq
        clear hfin
        go_wp2_with fail
        refine Reg.wp_region_grow (by kernel_rfl) 10 11 (fun _ => (#[.int .i64 0, .int .i64 0, .int .i64 0], 44)) (by kernel_rfl) ?_ ?_
        · intro k o h1 h2 ho ρ wz
          obtain rfl : k = 10 := by omega
          all_goals (simp at ho; subst ho; exact alloc_ln _ _ _ _)
        simp only [List.take_succ_cons, List.take_zero, List.drop_succ_cons, List.drop_zero]
        refine Reg.wpG_step (v := ?vr4x0) (fun wq hq => ?gr4x0) ?kr4x0
        case gr4x0 => (have q0 := keepC hq d0; have q1 := keepC hq d1; have q2 := keepC hq d2; have q6 := keepC hq z0; have q7 := keepC hq z1; have q8 := keepC hq z2; refine Reg.gAt_val ?_; go_simp; first | done | (with_reducible rfl) | rfl)
        try simp only [Act.put, List.setIfInBounds_toArray, List.set_cons_zero, List.set_cons_succ]
        refine Reg.wpG_step (v := ?vr4x1) (fun wq hq => ?gr4x1) ?kr4x1
        case gr4x1 => (have q0 := keepC hq d0; have q1 := keepC hq d1; have q2 := keepC hq d2; have q6 := keepC hq z0; have q7 := keepC hq z1; have q8 := keepC hq z2; refine Reg.gAt_val ?_; go_simp; first | done | (with_reducible rfl) | rfl)
        try simp only [Act.put, List.setIfInBounds_toArray, List.set_cons_zero, List.set_cons_succ]
        refine Reg.wpG_step (v := ?vr4x2) (fun wq hq => ?gr4x2) ?kr4x2
        case gr4x2 => (have q0 := keepC hq d0; have q1 := keepC hq d1; have q2 := keepC hq d2; have q6 := keepC hq z0; have q7 := keepC hq z1; have q8 := keepC hq z2; refine Reg.gAt_val ?_; go_simp; first | done | (with_reducible rfl) | rfl)
        try simp only [Act.put, List.setIfInBounds_toArray, List.set_cons_zero, List.set_cons_succ]
        refine Reg.wpG_step (v := ?vr4x3) (fun wq hq => ?gr4x3) ?kr4x3
        case gr4x3 => (have q0 := keepC hq d0; have q1 := keepC hq d1; have q2 := keepC hq d2; have q6 := keepC hq z0; have q7 := keepC hq z1; have q8 := keepC hq z2; refine Reg.gAt_val ?_; go_simp; first | done | (with_reducible rfl) | rfl)
        try simp only [Act.put, List.setIfInBounds_toArray, List.set_cons_zero, List.set_cons_succ]
        refine Reg.wpG_step (v := ?vr4x4) (fun wq hq => ?gr4x4) ?kr4x4
        case gr4x4 => (have q0 := keepC hq d0; have q1 := keepC hq d1; have q2 := keepC hq d2; have q6 := keepC hq z0; have q7 := keepC hq z1; have q8 := keepC hq z2; refine Reg.gAt_val ?_; go_simp; first | done | (with_reducible rfl) | rfl)
        try simp only [Act.put, List.setIfInBounds_toArray, List.set_cons_zero, List.set_cons_succ]
        refine Reg.wpG_step (v := ?vr4x5) (fun wq hq => ?gr4x5) ?kr4x5
        case gr4x5 => (have q0 := keepC hq d0; have q1 := keepC hq d1; have q2 := keepC hq d2; have q6 := keepC hq z0; have q7 := keepC hq z1; have q8 := keepC hq z2; refine Reg.gAt_val ?_; go_simp; first | done | (with_reducible rfl) | rfl)
        try simp only [Act.put, List.setIfInBounds_toArray, List.set_cons_zero, List.set_cons_succ]
        refine Reg.wpG_step (v := ?vr4x6) (fun wq hq => ?gr4x6) ?kr4x6
        case gr4x6 => (have q0 := keepC hq d0; have q1 := keepC hq d1; have q2 := keepC hq d2; have q6 := keepC hq z0; have q7 := keepC hq z1; have q8 := keepC hq z2; refine Reg.gAt_val ?_; go_simp; first | done | (with_reducible rfl) | rfl)
        try simp only [Act.put, List.setIfInBounds_toArray, List.set_cons_zero, List.set_cons_succ]
        refine Reg.wpG_step (v := ?vr4x7) (fun wq hq => ?gr4x7) ?kr4x7
        case gr4x7 => (have q0 := keepC hq d0; have q1 := keepC hq d1; have q2 := keepC hq d2; have q6 := keepC hq z0; have q7 := keepC hq z1; have q8 := keepC hq z2; refine Reg.gAt_val ?_; go_simp; first | done | (with_reducible rfl) | rfl)
        try simp only [Act.put, List.setIfInBounds_toArray, List.set_cons_zero, List.set_cons_succ]
        refine Reg.wpG_step (v := ?vr4x8) (fun wq hq => ?gr4x8) ?kr4x8
        case gr4x8 => (have q0 := keepC hq d0; have q1 := keepC hq d1; have q2 := keepC hq d2; have q6 := keepC hq z0; have q7 := keepC hq z1; have q8 := keepC hq z2; refine Reg.gAt_val ?_; go_simp; first | done | (with_reducible rfl) | rfl)
        try simp only [Act.put, List.setIfInBounds_toArray, List.set_cons_zero, List.set_cons_succ]
        refine Reg.wpG_step (v := ?vr4x9) (fun wq hq => ?gr4x9) ?kr4x9
        case gr4x9 => (have q0 := keepC hq d0; have q1 := keepC hq d1; have q2 := keepC hq d2; have q6 := keepC hq z0; have q7 := keepC hq z1; have q8 := keepC hq z2; refine Reg.gAt_val ?_; go_simp; first | done | (with_reducible rfl) | rfl)
        try simp only [Act.put, List.setIfInBounds_toArray, List.set_cons_zero, List.set_cons_succ]
        intro w2 g hB2 hg hd
        obtain ⟨hge10, hblk10⟩ := hg 10 (by omega) (by omega)
        clear hg hd
        simp only [List.range'_succ, List.range'_zero, Reg.putPtrs, Reg.dst, Act.put, List.setIfInBounds_toArray, List.set_cons_zero, List.set_cons_succ, List.getElem?_cons_zero, List.getElem?_cons_succ, Option.bind_some]
        generalize g 10 = g10 at *
        obtain ⟨z100, z101, z102, y100, y101, y102⟩ := Reg.blk3 hblk10
        clear hblk10
        have hgw10 : w.heap.size < g10 := Nat.lt_of_lt_of_le hBs hge10
        replace d0 := keepC hB2 d0
        replace d1 := keepC hB2 d1
        replace d2 := keepC hB2 d2
        replace y0 := keepF hB2 z0 y0
        replace y1 := keepF hB2 z1 y1
        replace y2 := keepF hB2 z2 y2
        replace z0 := keepC hB2 z0
        replace z1 := keepC hB2 z1
        replace z2 := keepC hB2 z2
        replace hB := below_of hB hB2 hB.size
        clear hB2 hge10
        go_wp2_with fail
        generalize hW3 : (World.setCell (World.setCell (World.setCell w2 ⟨g10, 0, none⟩ (.int .i64 x)) ⟨g10, 1, none⟩ (.int .i64 y)) ⟨g10, 2, none⟩ (.int .i64 z)) = W3
        have s0 : W3.cell? ⟨g10, 0, none⟩ = some (.int .i64 x) := by rw [← hW3]; simp [World.cell?_setCell_other, World.cell?_setCell_same, z100, z101, z102]
        have s1 : W3.cell? ⟨g10, 1, none⟩ = some (.int .i64 y) := by rw [← hW3]; simp [World.cell?_setCell_other, World.cell?_setCell_same, z100, z101, z102]
        have s2 : W3.cell? ⟨g10, 2, none⟩ = some (.int .i64 z) := by rw [← hW3]; simp [World.cell?_setCell_other, World.cell?_setCell_same, z100, z101, z102]
        have hng : ¬ w.heap.size = g10 := by omega
        have hng2 : ¬ g10 = w.heap.size := by omega
        replace z0 : W3.cell? ⟨w.heap.size, 0, none⟩ = some (.int .i64 0) := by rw [← hW3]; simp [World.cell?_setCell_other, z0, hng, hng2]
        replace y0 : W3.frozen? ⟨w.heap.size, 0, none⟩ = false := by rw [← hW3]; simp [y0]
        replace z1 : W3.cell? ⟨w.heap.size, 1, none⟩ = some (.int .i64 0) := by rw [← hW3]; simp [World.cell?_setCell_other, z1, hng, hng2]
        replace y1 : W3.frozen? ⟨w.heap.size, 1, none⟩ = false := by rw [← hW3]; simp [y1]
        replace z2 : W3.cell? ⟨w.heap.size, 2, none⟩ = some (.int .i64 0) := by rw [← hW3]; simp [World.cell?_setCell_other, z2, hng, hng2]
        replace y2 : W3.frozen? ⟨w.heap.size, 2, none⟩ = false := by rw [← hW3]; simp [y2]
        replace hB : Below w.heap.size w W3 := by rw [← hW3]; go_grown
        clear hW3 z100 z101 z102 y100 y101 y102 d0 d1 d2
        refine (l01Line_any p x y z _ (by omega) (by omega)).mono ?_
        rintro e w4 ⟨rfl, hbn⟩
        rw [hl]
        replace y0 := keepF hbn z0 y0
        replace y1 := keepF hbn z1 y1
        replace y2 := keepF hbn z2 y2
        replace z0 := keepC hbn z0
        replace z1 := keepC hbn z1
        replace z2 := keepC hbn z2
        replace s0 := keepC hbn s0
        replace s1 := keepC hbn s1
        replace s2 := keepC hbn s2
        replace hB := below_of hB hbn hB.size
        clear hbn
        go_wp2_with fail
        try simp only [Exit.inBlock, Exit.then]
        refine bodyPost_ret (by simp [results, Tryz.results32, go_sem, y0, y1, y2, z0, z1, z2]; try rfl) rfl ?_
        exact ⟨ret_li (by rw [← hx.out]) (by rw [← hy.out]) (by rw [← hz.out]) (by rw [← hq.out]), by first | exact hB | go_grown⟩
      | false =>
        have hw : Hid (Pl.parseLn p s.data.toList = ((0, 0, 0), 6)) := by
          have hR := hRR.out
          cases hb : (Pl.numB p x && Pl.numB p y && Pl.numB p z) with
          | true =>
            rw [hb] at hR
            exact hid (Pl.parseLn_t hf hR hl)
          | false =>
            rw [hb] at hR
            exact hid (Pl.parseLn_n hf hR)
        have hv := hfin.out
        rw [hw.out] at hv
        simp only [Prod.mk.injEq] at hv
        obtain ⟨⟨hx, hy, hz⟩, hq⟩ := hv
        replace hx := hid hx
        replace hy := hid hy
        replace hz := hid hz
        replace hq := hid hq
        clear hfin
        go_wp2_with fail
        refine Reg.wp_region_grow (by kernel_rfl) 10 11 (fun _ => (#[.int .i64 0, .int .i64 0, .int .i64 0], 44)) (by kernel_rfl) ?_ ?_
        · intro k o h1 h2 ho ρ wz
          obtain rfl : k = 10 := by omega
          all_goals (simp at ho; subst ho; exact alloc_ln _ _ _ _)
        simp only [List.take_succ_cons, List.take_zero, List.drop_succ_cons, List.drop_zero]
        refine Reg.wpG_step (v := ?vr5x0) (fun wq hq => ?gr5x0) ?kr5x0
        case gr5x0 => (have q0 := keepC hq d0; have q1 := keepC hq d1; have q2 := keepC hq d2; have q6 := keepC hq z0; have q7 := keepC hq z1; have q8 := keepC hq z2; refine Reg.gAt_val ?_; go_simp; first | done | (with_reducible rfl) | rfl)
        try simp only [Act.put, List.setIfInBounds_toArray, List.set_cons_zero, List.set_cons_succ]
        refine Reg.wpG_step (v := ?vr5x1) (fun wq hq => ?gr5x1) ?kr5x1
        case gr5x1 => (have q0 := keepC hq d0; have q1 := keepC hq d1; have q2 := keepC hq d2; have q6 := keepC hq z0; have q7 := keepC hq z1; have q8 := keepC hq z2; refine Reg.gAt_val ?_; go_simp; first | done | (with_reducible rfl) | rfl)
        try simp only [Act.put, List.setIfInBounds_toArray, List.set_cons_zero, List.set_cons_succ]
        refine Reg.wpG_step (v := ?vr5x2) (fun wq hq => ?gr5x2) ?kr5x2
        case gr5x2 => (have q0 := keepC hq d0; have q1 := keepC hq d1; have q2 := keepC hq d2; have q6 := keepC hq z0; have q7 := keepC hq z1; have q8 := keepC hq z2; refine Reg.gAt_val ?_; go_simp; first | done | (with_reducible rfl) | rfl)
        try simp only [Act.put, List.setIfInBounds_toArray, List.set_cons_zero, List.set_cons_succ]
        refine Reg.wpG_step (v := ?vr5x3) (fun wq hq => ?gr5x3) ?kr5x3
        case gr5x3 => (have q0 := keepC hq d0; have q1 := keepC hq d1; have q2 := keepC hq d2; have q6 := keepC hq z0; have q7 := keepC hq z1; have q8 := keepC hq z2; refine Reg.gAt_val ?_; go_simp; first | done | (with_reducible rfl) | rfl)
        try simp only [Act.put, List.setIfInBounds_toArray, List.set_cons_zero, List.set_cons_succ]
        refine Reg.wpG_step (v := ?vr5x4) (fun wq hq => ?gr5x4) ?kr5x4
        case gr5x4 => (have q0 := keepC hq d0; have q1 := keepC hq d1; have q2 := keepC hq d2; have q6 := keepC hq z0; have q7 := keepC hq z1; have q8 := keepC hq z2; refine Reg.gAt_val ?_; go_simp; first | done | (with_reducible rfl) | rfl)
        try simp only [Act.put, List.setIfInBounds_toArray, List.set_cons_zero, List.set_cons_succ]
        refine Reg.wpG_step (v := ?vr5x5) (fun wq hq => ?gr5x5) ?kr5x5
        case gr5x5 => (have q0 := keepC hq d0; have q1 := keepC hq d1; have q2 := keepC hq d2; have q6 := keepC hq z0; have q7 := keepC hq z1; have q8 := keepC hq z2; refine Reg.gAt_val ?_; go_simp; first | done | (with_reducible rfl) | rfl)
        try simp only [Act.put, List.setIfInBounds_toArray, List.set_cons_zero, List.set_cons_succ]
        refine Reg.wpG_step (v := ?vr5x6) (fun wq hq => ?gr5x6) ?kr5x6
        case gr5x6 => (have q0 := keepC hq d0; have q1 := keepC hq d1; have q2 := keepC hq d2; have q6 := keepC hq z0; have q7 := keepC hq z1; have q8 := keepC hq z2; refine Reg.gAt_val ?_; go_simp; first | done | (with_reducible rfl) | rfl)
        try simp only [Act.put, List.setIfInBounds_toArray, List.set_cons_zero, List.set_cons_succ]
        refine Reg.wpG_step (v := ?vr5x7) (fun wq hq => ?gr5x7) ?kr5x7
        case gr5x7 => (have q0 := keepC hq d0; have q1 := keepC hq d1; have q2 := keepC hq d2; have q6 := keepC hq z0; have q7 := keepC hq z1; have q8 := keepC hq z2; refine Reg.gAt_val ?_; go_simp; first | done | (with_reducible rfl) | rfl)
        try simp only [Act.put, List.setIfInBounds_toArray, List.set_cons_zero, List.set_cons_succ]
        refine Reg.wpG_step (v := ?vr5x8) (fun wq hq => ?gr5x8) ?kr5x8
        case gr5x8 => (have q0 := keepC hq d0; have q1 := keepC hq d1; have q2 := keepC hq d2; have q6 := keepC hq z0; have q7 := keepC hq z1; have q8 := keepC hq z2; refine Reg.gAt_val ?_; go_simp; first | done | (with_reducible rfl) | rfl)
        try simp only [Act.put, List.setIfInBounds_toArray, List.set_cons_zero, List.set_cons_succ]
        refine Reg.wpG_step (v := ?vr5x9) (fun wq hq => ?gr5x9) ?kr5x9
        case gr5x9 => (have q0 := keepC hq d0; have q1 := keepC hq d1; have q2 := keepC hq d2; have q6 := keepC hq z0; have q7 := keepC hq z1; have q8 := keepC hq z2; refine Reg.gAt_val ?_; go_simp; first | done | (with_reducible rfl) | rfl)
        try simp only [Act.put, List.setIfInBounds_toArray, List.set_cons_zero, List.set_cons_succ]
        intro w2 g hB2 hg hd
        obtain ⟨hge10, hblk10⟩ := hg 10 (by omega) (by omega)
        clear hg hd
        simp only [List.range'_succ, List.range'_zero, Reg.putPtrs, Reg.dst, Act.put, List.setIfInBounds_toArray, List.set_cons_zero, List.set_cons_succ, List.getElem?_cons_zero, List.getElem?_cons_succ, Option.bind_some]
        generalize g 10 = g10 at *
        obtain ⟨z100, z101, z102, y100, y101, y102⟩ := Reg.blk3 hblk10
        clear hblk10
        have hgw10 : w.heap.size < g10 := Nat.lt_of_lt_of_le hBs hge10
        replace d0 := keepC hB2 d0
        replace d1 := keepC hB2 d1
        replace d2 := keepC hB2 d2
        replace y0 := keepF hB2 z0 y0
        replace y1 := keepF hB2 z1 y1
        replace y2 := keepF hB2 z2 y2
        replace z0 := keepC hB2 z0
        replace z1 := keepC hB2 z1
        replace z2 := keepC hB2 z2
        replace hB := below_of hB hB2 hB.size
        clear hB2 hge10
        go_wp2_with fail
        generalize hW3 : (World.setCell (World.setCell (World.setCell w2 ⟨g10, 0, none⟩ (.int .i64 x)) ⟨g10, 1, none⟩ (.int .i64 y)) ⟨g10, 2, none⟩ (.int .i64 z)) = W3
        have s0 : W3.cell? ⟨g10, 0, none⟩ = some (.int .i64 x) := by rw [← hW3]; simp [World.cell?_setCell_other, World.cell?_setCell_same, z100, z101, z102]
        have s1 : W3.cell? ⟨g10, 1, none⟩ = some (.int .i64 y) := by rw [← hW3]; simp [World.cell?_setCell_other, World.cell?_setCell_same, z100, z101, z102]
        have s2 : W3.cell? ⟨g10, 2, none⟩ = some (.int .i64 z) := by rw [← hW3]; simp [World.cell?_setCell_other, World.cell?_setCell_same, z100, z101, z102]
        have hng : ¬ w.heap.size = g10 := by omega
        have hng2 : ¬ g10 = w.heap.size := by omega
        replace z0 : W3.cell? ⟨w.heap.size, 0, none⟩ = some (.int .i64 0) := by rw [← hW3]; simp [World.cell?_setCell_other, z0, hng, hng2]
        replace y0 : W3.frozen? ⟨w.heap.size, 0, none⟩ = false := by rw [← hW3]; simp [y0]
        replace z1 : W3.cell? ⟨w.heap.size, 1, none⟩ = some (.int .i64 0) := by rw [← hW3]; simp [World.cell?_setCell_other, z1, hng, hng2]
        replace y1 : W3.frozen? ⟨w.heap.size, 1, none⟩ = false := by rw [← hW3]; simp [y1]
        replace z2 : W3.cell? ⟨w.heap.size, 2, none⟩ = some (.int .i64 0) := by rw [← hW3]; simp [World.cell?_setCell_other, z2, hng, hng2]
        replace y2 : W3.frozen? ⟨w.heap.size, 2, none⟩ = false := by rw [← hW3]; simp [y2]
        replace hB : Below w.heap.size w W3 := by rw [← hW3]; go_grown
        clear hW3 z100 z101 z102 y100 y101 y102 d0 d1 d2
        refine (l01Line_any p x y z _ (by omega) (by omega)).mono ?_
        rintro e w4 ⟨rfl, hbn⟩
        rw [hl]
        replace y0 := keepF hbn z0 y0
        replace y1 := keepF hbn z1 y1
        replace y2 := keepF hbn z2 y2
        replace z0 := keepC hbn z0
        replace z1 := keepC hbn z1
        replace z2 := keepC hbn z2
        replace s0 := keepC hbn s0
        replace s1 := keepC hbn s1
        replace s2 := keepC hbn s2
        replace hB := below_of hB hbn hB.size
        clear hbn
        go_wp2_with fail
        try simp only [Exit.inBlock, Exit.then]
        refine bodyPost_ret (by simp [results, Tryz.results32, go_sem, y0, y1, y2, z0, z1, z2]; try rfl) rfl ?_
        exact ⟨ret_li (by rw [← hx.out]) (by rw [← hy.out]) (by rw [← hz.out]) (by rw [← hq.out]), by first | exact hB | go_grown⟩
    · have hR := Pl.read_none (p := p) (l := s.data.toList) (k := 2) (by omega) (by omega)
      have hv := hfin.out
      rw [Pl.parseLn_n hf hR] at hv
      simp only [Prod.mk.injEq] at hv
      obtain ⟨⟨hx, hy, hz⟩, hq⟩ := hv
      replace hx := hid hx
      replace hy := hid hy
      replace hz := hid hz
      replace hq := hid hq
      clear hfin
      replace hR := hid hR
      have hNb : (((Pl.splitC s.data.toList).length : Int) != 3) = true := by rw [bne_iff_ne]; omega
      generalize (Pl.splitC s.data.toList).length = N at *
      go_wp2_with fail
      try simp only [Exit.inBlock, Exit.then]
      refine bodyPost_ret (by simp [results, Tryz.results32, go_sem, y0, y1, y2, z0, z1, z2]; try rfl) rfl ?_
      exact ⟨ret_li (by rw [← hx.out]) (by rw [← hy.out]) (by rw [← hz.out]) (by rw [← hq.out]), by first | exact hB | go_grown⟩
end Go.Proofs.YtbjcbbnfgfmllaaGreatDoor
