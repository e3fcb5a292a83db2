/- Contracts: perpendicular lines through points: both sides. -/
import Derived.Test.YtbjcbbnfgfmllaaSq
import Derived.Test.YtbjcbbnfgfmllaaSp
import Derived.Test.YtbjcbbnfgfmllaaH2
import Derived.Test.YtbjcbbnfgfmllaaPlA
import Derived.Test.YtbjcbbnfgfmllaaK
set_option linter.unusedVariables false
set_option linter.unusedSimpArgs false
set_option maxHeartbeats 1000000
set_option maxRecDepth 100000
namespace Go.Proofs.Ytbjcbbnfgfmllaa
open Go.RowKit
theorem perpendicular_any (p k la lb lc ax ay : Int) (w : World) (hf : Pl.fieldB p = true) (hk : Pl.colB k = true) (hl : la = 1 ∨ la = 0 ∧ lb = 1) (la1 : 0 ≤ la) (la2 : la < p) (lb1 : 0 ≤ lb) (lb2 : lb < p) (lc1 : 0 ≤ lc) (lc2 : lc < p) (ax1 : 0 ≤ ax) (ax2 : ax < p) (ay1 : 0 ≤ ay) (ay2 : ay < p) :
    Calls Try.prog 124 #[.int .i64 p, .int .i64 k, .agg #[.int .i64 la, .int .i64 lb, .int .i64 lc], .agg #[.int .i64 ax, .int .i64 ay]] w fun e w' => e = .returned (.agg #[.int .i64 (Pl.perpMa p k la lb), .int .i64 (Pl.perpMb p k la lb), .int .i64 (Pl.perpMc p k la lb ax ay)]) ∧ Below w.heap.size w w' := by
  have hp := Pl.field_bd hf
  obtain ⟨hp1, hp2⟩ := hp
  have HK := hid hk
  have HLL := hid hl
  clear hk hl
  go_enter Try.func124, Try.ntmps124
  go_wp2_with fail
  generalize hW : (World.alloc (World.alloc (World.alloc w (.cells #[.int .i64 la, .int .i64 lb, .int .i64 lc] 25)) (.cells #[.int .i64 ax, .int .i64 ay] 33)) (.cells #[.int .i64 0, .int .i64 0, .int .i64 0] 25)) = W
  have d00 : W.cell? ⟨w.heap.size, 0, none⟩ = some (.int .i64 la) := by subst hW; go_simp
  have d01 : W.cell? ⟨w.heap.size, 1, none⟩ = some (.int .i64 lb) := by subst hW; go_simp
  have d02 : W.cell? ⟨w.heap.size, 2, none⟩ = some (.int .i64 lc) := by subst hW; go_simp
  have d10 : W.cell? ⟨w.heap.size + 1, 0, none⟩ = some (.int .i64 ax) := by subst hW; go_simp
  have d11 : W.cell? ⟨w.heap.size + 1, 1, none⟩ = some (.int .i64 ay) := by subst hW; go_simp
  have z0 : W.cell? ⟨w.heap.size + 1 + 1, 0, none⟩ = some (.int .i64 0) := by subst hW; go_simp
  have y0 : W.frozen? ⟨w.heap.size + 1 + 1, 0, none⟩ = false := by subst hW; go_simp
  have z1 : W.cell? ⟨w.heap.size + 1 + 1, 1, none⟩ = some (.int .i64 0) := by subst hW; go_simp
  have y1 : W.frozen? ⟨w.heap.size + 1 + 1, 1, none⟩ = false := by subst hW; go_simp
  have z2 : W.cell? ⟨w.heap.size + 1 + 1, 2, none⟩ = some (.int .i64 0) := by subst hW; go_simp
  have y2 : W.frozen? ⟨w.heap.size + 1 + 1, 2, none⟩ = false := by subst hW; go_simp
  have hgw0 : w.heap.size ≤ w.heap.size + 1 + 1 := by omega
  have hB : Below w.heap.size w W := by subst hW; go_grown
  clear hW
  generalize hgr : w.heap.size + 1 + 1 = r at *
  clear hgr
  refine (linesThrough_any p ax ay _ (by omega) (by omega) (by omega) (by omega) (by omega) (by omega)).mono ?_
  rintro e w1 ⟨g0, c0, rfl, hS, hb⟩
  replace d00 := keepC hb d00
  replace d01 := keepC hb d01
  replace d02 := keepC hb d02
  replace d10 := keepC hb d10
  replace d11 := keepC hb d11
  replace y0 := keepF hb z0 y0
  replace y1 := keepF hb z1 y1
  replace y2 := keepF hb z2 y2
  replace z0 := keepC hb z0
  replace z1 := keepC hb z1
  replace z2 := keepC hb z2
  have hS1 := hid hS
  replace hB := below_of hB hb hB.size
  clear hb hS
  have hs1 := hB.size
  have hrr := World.block_lt_of_cell? w1 _ z0
  generalize hL : Pl.ltAll p ax ay = L at *
  have HL := hid hL
  clear hL
  have hnl0 : L.length ≤ 1000 := by rw [← HL.out, Pl.ltAll_len]; omega
  go_wp2_with fail
  have HW1 := hid hB
  go_loopw [15] (fun i wr => ∃ j : Nat, j ≤ L.length ∧ i = .int .i64 j ∧ Hid ((L.take j).all (fun m => !Pl.perpB p k la lb m.1 m.2.1) = true) ∧ Below w1.heap.size w1 wr) (fun i _ => L.length - (intOf i).toNat)
  case atStart => exact ⟨0, Nat.zero_le _, rfl, by simp [Hid], Below.refl _ _⟩
  case round =>
    clear hB
    obtain ⟨j, hj, rfl, hall, hB⟩ := hrel
    have hs := hB.size
    by_cases hlt : j < L.length
    · have hcell := (hS1.out.keep hB).cell3 hlt
      have hmem := hid (Pl.getD_mem (0, 0, 0) hlt)
      have hq := hid (show L.getD j (0, 0, 0) = ((L.getD j (0, 0, 0)).1, (L.getD j (0, 0, 0)).2.1, (L.getD j (0, 0, 0)).2.2) from rfl)
      generalize hx0 : (L.getD j (0, 0, 0)).1 = x at *
      have HX0 := hid hx0
      clear hx0
      generalize hx1 : (L.getD j (0, 0, 0)).2.1 = y at *
      have HX1 := hid hx1
      clear hx1
      generalize hx2 : (L.getD j (0, 0, 0)).2.2 = z at *
      have HX2 := hid hx2
      clear hx2
      obtain ⟨e0, e1, e2⟩ := hcell
      have hm2 := hid (show (x, y, z) ∈ Pl.ltAll p ax ay from by have h1 := hmem.out; rw [hq.out] at h1; rw [HL.out]; exact h1)
      have hmb := Pl.mem_ltAll (by omega) hm2.out
      obtain ⟨hd, yb1, yb2, zb1, zb2⟩ := hmb
      have x12 : 0 ≤ x ∧ x ≤ 31 := by omega
      obtain ⟨x1, x2⟩ := x12
      clear hd hmem
      have kd00 := keepA (.cells #[.int .i64 x, .int .i64 y, .int .i64 z] 25) (keepC hB d00)
      have kd01 := keepA (.cells #[.int .i64 x, .int .i64 y, .int .i64 z] 25) (keepC hB d01)
      have kd02 := keepA (.cells #[.int .i64 x, .int .i64 y, .int .i64 z] 25) (keepC hB d02)
      have kd10 := keepA (.cells #[.int .i64 x, .int .i64 y, .int .i64 z] 25) (keepC hB d10)
      have kd11 := keepA (.cells #[.int .i64 x, .int .i64 y, .int .i64 z] 25) (keepC hB d11)
      have ky0 := keepF hB z0 y0
      have ky1 := keepF hB z1 y1
      have ky2 := keepF hB z2 y2
      have kz0 := keepA (.cells #[.int .i64 x, .int .i64 y, .int .i64 z] 25) (keepC hB z0)
      have kz1 := keepA (.cells #[.int .i64 x, .int .i64 y, .int .i64 z] 25) (keepC hB z1)
      have kz2 := keepA (.cells #[.int .i64 x, .int .i64 y, .int .i64 z] 25) (keepC hB z2)
      have hrw := World.block_lt_of_cell? wr _ (keepC hB z0)
      go_wp2_with fail
      generalize hW : (World.alloc wr (.cells #[.int .i64 x, .int .i64 y, .int .i64 z] 25)) = W2
      have b0 : W2.cell? ⟨wr.heap.size, 0, none⟩ = some (.int .i64 x) := by subst hW; go_simp
      have b1 : W2.cell? ⟨wr.heap.size, 1, none⟩ = some (.int .i64 y) := by subst hW; go_simp
      have b2 : W2.cell? ⟨wr.heap.size, 2, none⟩ = some (.int .i64 z) := by subst hW; go_simp
      rw [hW] at kd00
      rw [hW] at kd01
      rw [hW] at kd02
      rw [hW] at kd10
      rw [hW] at kd11
      rw [hW] at kz0
      rw [hW] at kz1
      rw [hW] at kz2
      replace ky0 : W2.frozen? ⟨r, 0, none⟩ = false := by subst hW; rw [World.frozen?_alloc_past _ _ _ hrw]; exact ky0
      replace ky1 : W2.frozen? ⟨r, 1, none⟩ = false := by subst hW; rw [World.frozen?_alloc_past _ _ _ hrw]; exact ky1
      replace ky2 : W2.frozen? ⟨r, 2, none⟩ = false := by subst hW; rw [World.frozen?_alloc_past _ _ _ hrw]; exact ky2
      have hB2 : Below w1.heap.size w1 W2 := by subst hW; exact hB.alloc hs _
      clear hW e0 e1 e2 hB
      refine (arePerpendicular_any p k la lb lc x y z _ (by omega) (by omega) (by omega) (by omega) (by omega) (by omega) (by omega) (by omega) (by omega) (by omega) (by omega) (by omega) (by omega) (by omega)).mono ?_
      rintro e w2 ⟨rfl, hb⟩
      replace b0 := keepC hb b0
      replace b1 := keepC hb b1
      replace b2 := keepC hb b2
      replace ky0 := keepF hb kz0 ky0
      replace ky1 := keepF hb kz1 ky1
      replace ky2 := keepF hb kz2 ky2
      replace kd00 := keepC hb kd00
      replace kd01 := keepC hb kd01
      replace kd02 := keepC hb kd02
      replace kd10 := keepC hb kd10
      replace kd11 := keepC hb kd11
      replace kz0 := keepC hb kz0
      replace kz1 := keepC hb kz1
      replace kz2 := keepC hb kz2
      have hB3 := below_of hB2 hb hB2.size
      have hs3 := hB3.size
      clear hB2 hb
      cases hP : Pl.perpB p k la lb x y with
      | true =>
        have hh := hid (Pl.perp_hit (ax := ax) (ay := ay) hf HK.out HLL.out lb1 lb2 hm2.out hP)
        go_wp2_with fail
        have hBf := below_of HW1.out hB3 HW1.out.size
        try simp only [Exit.inBlock, Exit.then]
        refine bodyPost_ret (by simp [results, Try.results124, go_sem, y0, y1, y2, z0, z1, z2, World.cell?_setCell_same, World.cell?_setCell_other, kz0, kz1, kz2]; try rfl) rfl ?_
        exact ⟨ret_l hh.out.1 hh.out.2.1 hh.out.2.2, by go_grown⟩
      | false =>
        have ha2 := Pl.allD_step (f := fun m : Int × Int × Int => !Pl.perpB p k la lb m.1 m.2.1) (d := (0, 0, 0)) hlt hall.out (by rw [hq.out]; simp [hP])
        have HA := hid ha2
        clear ha2
        go_wp2_with fail
        go_roundw
        case rel => exact ⟨j + 1, by omega, by go_num, HA.out, hB3⟩
        case measure => simp [intOf]; omega
    · have h := hall.out
      rw [List.take_of_length_le (by omega), ← HL.out] at h
      exact (Pl.perp_none hf HK.out HLL.out lb1 lb2 h).elim
theorem l02Through_any (p k la lb ax ay : Int) (w : World) (hf : Pl.fieldB p = true) (hk : Pl.colB k = true) (hl : la = 1 ∨ la = 0 ∧ lb = 1) (la1 : 0 ≤ la) (la2 : la < p) (lb1 : 0 ≤ lb) (lb2 : lb < p) (ax1 : 0 ≤ ax) (ax2 : ax < p) (ay1 : 0 ≤ ay) (ay2 : ay < p) :
    Calls Try.prog 126 #[.int .i64 p, .int .i64 k, .agg #[.int .i64 ((-lb) % p), .int .i64 la], .agg #[.int .i64 ax, .int .i64 ay]] w fun e w' => e = .returned (.agg #[.int .i64 (Pl.perpMa p k la lb), .int .i64 (Pl.perpMb p k la lb), .int .i64 (Pl.perpMc p k la lb ax ay)]) ∧ Below w.heap.size w w' := by
  have hp := Pl.field_bd hf
  obtain ⟨hp1, hp2⟩ := hp
  have r0n := Int.emod_nonneg (-lb) (show p ≠ 0 by omega)
  have r0l := Int.emod_lt_of_pos (-lb) (show 0 < p by omega)
  have r1n := Int.emod_nonneg (-la) (show p ≠ 0 by omega)
  have r1l := Int.emod_lt_of_pos (-la) (show 0 < p by omega)
  have HK := hid hk
  have HLL := hid hl
  have hfin := hid (Pl.perp_fin hf hk hl lb1 lb2)
  have h3 := hid (fun x hx => Pl.perp_third (ax := ax) (ay := ay) (x := x) hf hk hl lb1 lb2 hx)
  have hkc : k = 0 ∨ k = 1 ∨ k = 2 := by simp [Pl.colB] at hk; omega
  clear hk hl
  rcases hkc with rfl | rfl | rfl
  · have hU := hid (show Pl.perpU p 0 la lb = ((-lb) % p) by simp [Pl.perpU])
    have hV := hid (show Pl.perpV p 0 la lb = la by simp [Pl.perpV])
    have m1 := Pl.mulB (show 0 ≤ ((-lb) % p) by omega) (show ((-lb) % p) ≤ 31 by omega) (show 0 ≤ ax by omega) (show ax ≤ 31 by omega)
    obtain ⟨m1a, m1b⟩ := m1
    have m2 := Pl.mulB (show 0 ≤ la by omega) (show la ≤ 31 by omega) (show 0 ≤ ay by omega) (show ay ≤ 31 by omega)
    obtain ⟨m2a, m2b⟩ := m2
    have e0 : IntKind.i64.wrap (-la) = -la := IntWalk.i64_in _ (by omega)
    have e1 : IntKind.i64.wrap (((-lb) % p) * ax) = ((-lb) % p) * ax := IntWalk.i64_in _ (by omega)
    have e2 : IntKind.i64.wrap (la * ay) = la * ay := IntWalk.i64_in _ (by omega)
    have e3 : IntKind.i64.wrap (((-lb) % p) * ax + la * ay) = ((-lb) % p) * ax + la * ay := IntWalk.i64_in _ (by omega)
    have e4 : IntKind.i64.wrap (-(((-lb) % p) * ax + la * ay)) = -(((-lb) % p) * ax + la * ay) := IntWalk.i64_in _ (by omega)
    have r5n := Int.emod_nonneg (-(((-lb) % p) * ax + la * ay)) (show p ≠ 0 by omega)
    have r5l := Int.emod_lt_of_pos (-(((-lb) % p) * ax + la * ay)) (show 0 < p by omega)
    go_enter Try.func126, Try.ntmps126
    go_wp2_with fail
    generalize hW : (World.alloc (World.alloc (World.alloc w (.cells #[.int .i64 ((-lb) % p), .int .i64 la] 33)) (.cells #[.int .i64 ax, .int .i64 ay] 33)) (.cells #[.int .i64 0, .int .i64 0, .int .i64 0] 25)) = W
    have d00 : W.cell? ⟨w.heap.size, 0, none⟩ = some (.int .i64 ((-lb) % p)) := by subst hW; go_simp
    have d01 : W.cell? ⟨w.heap.size, 1, none⟩ = some (.int .i64 la) := by subst hW; go_simp
    have d10 : W.cell? ⟨w.heap.size + 1, 0, none⟩ = some (.int .i64 ax) := by subst hW; go_simp
    have d11 : W.cell? ⟨w.heap.size + 1, 1, none⟩ = some (.int .i64 ay) := by subst hW; go_simp
    have z0 : W.cell? ⟨w.heap.size + 1 + 1, 0, none⟩ = some (.int .i64 0) := by subst hW; go_simp
    have y0 : W.frozen? ⟨w.heap.size + 1 + 1, 0, none⟩ = false := by subst hW; go_simp
    have z1 : W.cell? ⟨w.heap.size + 1 + 1, 1, none⟩ = some (.int .i64 0) := by subst hW; go_simp
    have y1 : W.frozen? ⟨w.heap.size + 1 + 1, 1, none⟩ = false := by subst hW; go_simp
    have z2 : W.cell? ⟨w.heap.size + 1 + 1, 2, none⟩ = some (.int .i64 0) := by subst hW; go_simp
    have y2 : W.frozen? ⟨w.heap.size + 1 + 1, 2, none⟩ = false := by subst hW; go_simp
    have hgw0 : w.heap.size ≤ w.heap.size + 1 + 1 := by omega
    have hB : Below w.heap.size w W := by subst hW; go_grown
    clear hW
    generalize hgr : w.heap.size + 1 + 1 = r at *
    clear hgr
    go_region
    go_wp2_with (first | (go_at_call 71; refine (l01Mod_any _ _ _ (by omega) (by omega)).mono ?_; rintro e w' ⟨rfl, rfl⟩) | (go_at_call 136; refine (l01Normal_any _ _ _ _ _ hf (by omega) (by omega) (by omega) (by omega) (by omega) (by omega)).mono ?_; rintro e w' ⟨rfl, hbn⟩; replace y0 := keepF hbn z0 y0; replace y1 := keepF hbn z1 y1; replace y2 := keepF hbn z2 y2; replace z0 := keepC hbn z0; replace z1 := keepC hbn z1; replace z2 := keepC hbn z2; replace hB := below_of (B := w.heap.size) (a := w) (by first | exact hB | (have := hB.size; go_grown)) hbn (by first | exact hB.size | (have := hB.size; simp <;> omega)); clear hbn))
    try simp only [Exit.inBlock, Exit.then]
    refine bodyPost_ret (by simp [results, Try.results126, go_sem, y0, y1, y2, z0, z1, z2]; try rfl) rfl ?_
    exact ⟨ret_l (by rw [← hU.out, ← hV.out]; exact hfin.out.1) (by rw [← hU.out, ← hV.out]; exact hfin.out.2.1) (by have h := h3.out _ rfl; rw [hU.out, hV.out] at h; exact h), by first | exact hB | go_grown⟩
  · have hU := hid (show Pl.perpU p 1 la lb = ((-lb) % p) by simp [Pl.perpU])
    have hV := hid (show Pl.perpV p 1 la lb = ((-la) % p) by simp [Pl.perpV])
    have m1 := Pl.mulB (show 0 ≤ ((-lb) % p) by omega) (show ((-lb) % p) ≤ 31 by omega) (show 0 ≤ ax by omega) (show ax ≤ 31 by omega)
    obtain ⟨m1a, m1b⟩ := m1
    have m2 := Pl.mulB (show 0 ≤ ((-la) % p) by omega) (show ((-la) % p) ≤ 31 by omega) (show 0 ≤ ay by omega) (show ay ≤ 31 by omega)
    obtain ⟨m2a, m2b⟩ := m2
    have e0 : IntKind.i64.wrap (-la) = -la := IntWalk.i64_in _ (by omega)
    have e1 : IntKind.i64.wrap (((-lb) % p) * ax) = ((-lb) % p) * ax := IntWalk.i64_in _ (by omega)
    have e2 : IntKind.i64.wrap (((-la) % p) * ay) = ((-la) % p) * ay := IntWalk.i64_in _ (by omega)
    have e3 : IntKind.i64.wrap (((-lb) % p) * ax + ((-la) % p) * ay) = ((-lb) % p) * ax + ((-la) % p) * ay := IntWalk.i64_in _ (by omega)
    have e4 : IntKind.i64.wrap (-(((-lb) % p) * ax + ((-la) % p) * ay)) = -(((-lb) % p) * ax + ((-la) % p) * ay) := IntWalk.i64_in _ (by omega)
    have r5n := Int.emod_nonneg (-(((-lb) % p) * ax + ((-la) % p) * ay)) (show p ≠ 0 by omega)
    have r5l := Int.emod_lt_of_pos (-(((-lb) % p) * ax + ((-la) % p) * ay)) (show 0 < p by omega)
    go_enter Try.func126, Try.ntmps126
    go_wp2_with fail
    generalize hW : (World.alloc (World.alloc (World.alloc w (.cells #[.int .i64 ((-lb) % p), .int .i64 la] 33)) (.cells #[.int .i64 ax, .int .i64 ay] 33)) (.cells #[.int .i64 0, .int .i64 0, .int .i64 0] 25)) = W
    have d00 : W.cell? ⟨w.heap.size, 0, none⟩ = some (.int .i64 ((-lb) % p)) := by subst hW; go_simp
    have d01 : W.cell? ⟨w.heap.size, 1, none⟩ = some (.int .i64 la) := by subst hW; go_simp
    have d10 : W.cell? ⟨w.heap.size + 1, 0, none⟩ = some (.int .i64 ax) := by subst hW; go_simp
    have d11 : W.cell? ⟨w.heap.size + 1, 1, none⟩ = some (.int .i64 ay) := by subst hW; go_simp
    have z0 : W.cell? ⟨w.heap.size + 1 + 1, 0, none⟩ = some (.int .i64 0) := by subst hW; go_simp
    have y0 : W.frozen? ⟨w.heap.size + 1 + 1, 0, none⟩ = false := by subst hW; go_simp
    have z1 : W.cell? ⟨w.heap.size + 1 + 1, 1, none⟩ = some (.int .i64 0) := by subst hW; go_simp
    have y1 : W.frozen? ⟨w.heap.size + 1 + 1, 1, none⟩ = false := by subst hW; go_simp
    have z2 : W.cell? ⟨w.heap.size + 1 + 1, 2, none⟩ = some (.int .i64 0) := by subst hW; go_simp
    have y2 : W.frozen? ⟨w.heap.size + 1 + 1, 2, none⟩ = false := by subst hW; go_simp
    have hgw0 : w.heap.size ≤ w.heap.size + 1 + 1 := by omega
    have hB : Below w.heap.size w W := by subst hW; go_grown
    clear hW
    generalize hgr : w.heap.size + 1 + 1 = r at *
    clear hgr
    go_region
    go_wp2_with (first | (go_at_call 71; refine (l01Mod_any _ _ _ (by omega) (by omega)).mono ?_; rintro e w' ⟨rfl, rfl⟩) | (go_at_call 136; refine (l01Normal_any _ _ _ _ _ hf (by omega) (by omega) (by omega) (by omega) (by omega) (by omega)).mono ?_; rintro e w' ⟨rfl, hbn⟩; replace y0 := keepF hbn z0 y0; replace y1 := keepF hbn z1 y1; replace y2 := keepF hbn z2 y2; replace z0 := keepC hbn z0; replace z1 := keepC hbn z1; replace z2 := keepC hbn z2; replace hB := below_of (B := w.heap.size) (a := w) (by first | exact hB | (have := hB.size; go_grown)) hbn (by first | exact hB.size | (have := hB.size; simp <;> omega)); clear hbn))
    try simp only [Exit.inBlock, Exit.then]
    refine bodyPost_ret (by simp [results, Try.results126, go_sem, y0, y1, y2, z0, z1, z2]; try rfl) rfl ?_
    exact ⟨ret_l (by rw [← hU.out, ← hV.out]; exact hfin.out.1) (by rw [← hU.out, ← hV.out]; exact hfin.out.2.1) (by have h := h3.out _ rfl; rw [hU.out, hV.out] at h; exact h), by first | exact hB | go_grown⟩
  · have hU := hid (show Pl.perpU p 2 la lb = la by simp [Pl.perpU])
    have hV := hid (show Pl.perpV p 2 la lb = ((-lb) % p) by simp [Pl.perpV])
    have m1 := Pl.mulB (show 0 ≤ la by omega) (show la ≤ 31 by omega) (show 0 ≤ ax by omega) (show ax ≤ 31 by omega)
    obtain ⟨m1a, m1b⟩ := m1
    have m2 := Pl.mulB (show 0 ≤ ((-lb) % p) by omega) (show ((-lb) % p) ≤ 31 by omega) (show 0 ≤ ay by omega) (show ay ≤ 31 by omega)
    obtain ⟨m2a, m2b⟩ := m2
    have e0 : IntKind.i64.wrap (-la) = -la := IntWalk.i64_in _ (by omega)
    have e1 : IntKind.i64.wrap (la * ax) = la * ax := IntWalk.i64_in _ (by omega)
    have e2 : IntKind.i64.wrap (((-lb) % p) * ay) = ((-lb) % p) * ay := IntWalk.i64_in _ (by omega)
    have e3 : IntKind.i64.wrap (la * ax + ((-lb) % p) * ay) = la * ax + ((-lb) % p) * ay := IntWalk.i64_in _ (by omega)
    have e4 : IntKind.i64.wrap (-(la * ax + ((-lb) % p) * ay)) = -(la * ax + ((-lb) % p) * ay) := IntWalk.i64_in _ (by omega)
    have r5n := Int.emod_nonneg (-(la * ax + ((-lb) % p) * ay)) (show p ≠ 0 by omega)
    have r5l := Int.emod_lt_of_pos (-(la * ax + ((-lb) % p) * ay)) (show 0 < p by omega)
    go_enter Try.func126, Try.ntmps126
    go_wp2_with fail
    generalize hW : (World.alloc (World.alloc (World.alloc w (.cells #[.int .i64 ((-lb) % p), .int .i64 la] 33)) (.cells #[.int .i64 ax, .int .i64 ay] 33)) (.cells #[.int .i64 0, .int .i64 0, .int .i64 0] 25)) = W
    have d00 : W.cell? ⟨w.heap.size, 0, none⟩ = some (.int .i64 ((-lb) % p)) := by subst hW; go_simp
    have d01 : W.cell? ⟨w.heap.size, 1, none⟩ = some (.int .i64 la) := by subst hW; go_simp
    have d10 : W.cell? ⟨w.heap.size + 1, 0, none⟩ = some (.int .i64 ax) := by subst hW; go_simp
    have d11 : W.cell? ⟨w.heap.size + 1, 1, none⟩ = some (.int .i64 ay) := by subst hW; go_simp
    have z0 : W.cell? ⟨w.heap.size + 1 + 1, 0, none⟩ = some (.int .i64 0) := by subst hW; go_simp
    have y0 : W.frozen? ⟨w.heap.size + 1 + 1, 0, none⟩ = false := by subst hW; go_simp
    have z1 : W.cell? ⟨w.heap.size + 1 + 1, 1, none⟩ = some (.int .i64 0) := by subst hW; go_simp
    have y1 : W.frozen? ⟨w.heap.size + 1 + 1, 1, none⟩ = false := by subst hW; go_simp
    have z2 : W.cell? ⟨w.heap.size + 1 + 1, 2, none⟩ = some (.int .i64 0) := by subst hW; go_simp
    have y2 : W.frozen? ⟨w.heap.size + 1 + 1, 2, none⟩ = false := by subst hW; go_simp
    have hgw0 : w.heap.size ≤ w.heap.size + 1 + 1 := by omega
    have hB : Below w.heap.size w W := by subst hW; go_grown
    clear hW
    generalize hgr : w.heap.size + 1 + 1 = r at *
    clear hgr
    go_region
    go_wp2_with (first | (go_at_call 71; refine (l01Mod_any _ _ _ (by omega) (by omega)).mono ?_; rintro e w' ⟨rfl, rfl⟩) | (go_at_call 136; refine (l01Normal_any _ _ _ _ _ hf (by omega) (by omega) (by omega) (by omega) (by omega) (by omega)).mono ?_; rintro e w' ⟨rfl, hbn⟩; replace y0 := keepF hbn z0 y0; replace y1 := keepF hbn z1 y1; replace y2 := keepF hbn z2 y2; replace z0 := keepC hbn z0; replace z1 := keepC hbn z1; replace z2 := keepC hbn z2; replace hB := below_of (B := w.heap.size) (a := w) (by first | exact hB | (have := hB.size; go_grown)) hbn (by first | exact hB.size | (have := hB.size; simp <;> omega)); clear hbn))
    try simp only [Exit.inBlock, Exit.then]
    refine bodyPost_ret (by simp [results, Try.results126, go_sem, y0, y1, y2, z0, z1, z2]; try rfl) rfl ?_
    exact ⟨ret_l (by rw [← hU.out, ← hV.out]; exact hfin.out.1) (by rw [← hU.out, ← hV.out]; exact hfin.out.2.1) (by have h := h3.out _ rfl; rw [hU.out, hV.out] at h; exact h), by first | exact hB | go_grown⟩
end Go.Proofs.Ytbjcbbnfgfmllaa
