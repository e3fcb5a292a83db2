/- Contracts: how many lines have each spread: both sides. -/
import Derived.Test.YtjjidjcflimhgaaSq
import Derived.Test.YtjjidjcflimhgaaSp
import Derived.Test.YtjjidjcflimhgaaO2
import Derived.Test.YtjjidjcflimhgaaFl
import Derived.Test.YtjjidjcflimhgaaPl12
import Derived.Test.YtjjidjcflimhgaaSi
set_option linter.unusedVariables false
set_option linter.unusedSimpArgs false
set_option maxHeartbeats 1000000
set_option maxRecDepth 100000
namespace Go.Proofs.Ytjjidjcflimhgaa
open Go.RowKit
theorem info_int2 : (Try.prog.info? 2).map (fun i => (i.zero, i.size, i.bytes)) = some (some (.int .i64 0), 1, 8) := by kernel_rfl
theorem made_own (w : World) (B n g : Nat) (hg : g = w.heap.size) (hB : B ≤ w.heap.size) (hn : n ≤ 1000) : Own (w.alloc (.cells (madeCells #[.int .i64 0] n) 2)) B 2 1 g n n (List.replicate n 0) := by
  refine Own.lit' _ _ _ _ _ n (List.replicate n 0) _ hg ?_ hB (by omega) (by simp)
  have h := toList_madeCells_one (.int .i64 0) n
  rw [show ints (List.replicate n 0) = List.replicate n (.int .i64 0) by simp [ints], ← h]
theorem CountBySpread1_any (p k la lb lc : Int) (b0 b1 b2 : Nat) (w : World) (c00 : w.cell? ⟨b0, 0, none⟩ = some (.int .i64 p)) (c10 : w.cell? ⟨b1, 0, none⟩ = some (.int .i64 k)) (c20 : w.cell? ⟨b2, 0, none⟩ = some (.int .i64 la)) (c21 : w.cell? ⟨b2, 1, none⟩ = some (.int .i64 lb)) (c22 : w.cell? ⟨b2, 2, none⟩ = some (.int .i64 lc)) :
    Calls Try.prog 111 #[.pointer (some ⟨b1, 0, none⟩), .pointer (some ⟨b0, 0, none⟩), .pointer (some ⟨b2, 0, none⟩)] w fun e w' => e = .returned (.bool (Pl.colB k && Pl.linesB p [(la, lb, lc)])) ∧ Below w.heap.size w w' := by
  rw [Pl.linesB1]
  cases hk : Pl.colB k with
  | false =>
    have hB := Below.refl w.heap.size w
    go_enter Try.func111, Try.ntmps111
    go_wp2_with (first | (go_at_call 85; refine (isColour_any _ _).mono ?_; rintro e w' ⟨rfl, rfl⟩) | (go_at_call 66; refine (isLine_any _ _ _ _ _).mono ?_; rintro e w' ⟨rfl, hbn⟩; replace c00 := keepC hbn c00; replace c10 := keepC hbn c10; replace c20 := keepC hbn c20; replace c21 := keepC hbn c21; replace c22 := keepC hbn c22; replace hB := below_of hB hbn hB.size; clear hbn))
    go_ret
    exact ⟨rfl, hB⟩
  | true =>
    have hB := Below.refl w.heap.size w
    go_enter Try.func111, Try.ntmps111
    go_wp2_with (first | (go_at_call 85; refine (isColour_any _ _).mono ?_; rintro e w' ⟨rfl, rfl⟩) | (go_at_call 66; refine (isLine_any _ _ _ _ _).mono ?_; rintro e w' ⟨rfl, hbn⟩; replace c00 := keepC hbn c00; replace c10 := keepC hbn c10; replace c20 := keepC hbn c20; replace c21 := keepC hbn c21; replace c22 := keepC hbn c22; replace hB := below_of hB hbn hB.size; clear hbn))
    go_ret
    exact ⟨rfl, hB⟩
theorem CountBySpread_ok (p k la lb lc : Int) (w : World) (h0 : Pl.cbsC p k la lb lc = 0) :
    Calls Try.prog 48 #[.int .i64 p, .int .i64 k, .agg #[.int .i64 la, .int .i64 lb, .int .i64 lc]] w fun e w' => ∃ g c, e = .returned (.tuple #[.slice (some ⟨g, 0, none⟩) (Pl.cbsL p k la lb).length c, .int .i64 0]) ∧ Own w' (w.heap.size) 2 1 g (Pl.cbsL p k la lb).length c (Pl.cbsL p k la lb) ∧ Below w.heap.size w w' := by
  have hk := Pl.cbsC_ok h0
  obtain ⟨h1, hn⟩ := hk
  have hv : Hid (Pl.fieldB p = true ∧ (Pl.colB k && Pl.linesB p [(la, lb, lc)]) = true) := Pl.ask_ok h1
  have hp := Pl.field_bd hv.out.1
  obtain ⟨hp1, hp2⟩ := hp
  have hv2 := hv.out.2
  simp only [Bool.and_eq_true] at hv2
  obtain ⟨la1, la2, lb1, lb2, lc1, lc2, hl⟩ := Pl.lines1_bd hv2.2
  clear hv2 hl
  have hf := hv.out.1
  clear h0
  obtain ⟨n, hn1, hn2, hn3⟩ : ∃ n : Nat, p ≤ n ∧ (n : Int) ≤ p ∧ p.toNat = n := ⟨p.toNat, by omega, by omega, rfl⟩
  have HN3 := hid hn3
  clear hn3
  have hI := info_parts info_int2
  obtain ⟨i0, hi, hz0, hz1, hz2⟩ := hI
  go_enter Try.func48, Try.ntmps48
  go_wp2_with fail
  refine (asked_any p _ _ (Pl.colB k && Pl.linesB p [(la, lb, lc)]) _ (by kernel_rfl) ?_).mono ?_
  · intro _
    exact CountBySpread1_any p k la lb lc _ _ _ _ (by go_simp) (by go_simp) (by go_simp) (by go_simp) (by go_simp)
  · rintro e w1 ⟨rfl, hb⟩
    have c00 : w1.cell? ⟨w.heap.size, 0, none⟩ = some (.int .i64 p) := cellOf hb (by go_simp) (by simp <;> omega)
    have c10 : w1.cell? ⟨w.heap.size + 1, 0, none⟩ = some (.int .i64 k) := cellOf hb (by go_simp) (by simp <;> omega)
    have c20 : w1.cell? ⟨w.heap.size + 2, 0, none⟩ = some (.int .i64 la) := cellOf hb (by go_simp) (by simp <;> omega)
    have c21 : w1.cell? ⟨w.heap.size + 2, 1, none⟩ = some (.int .i64 lb) := cellOf hb (by go_simp) (by simp <;> omega)
    have c22 : w1.cell? ⟨w.heap.size + 2, 2, none⟩ = some (.int .i64 lc) := cellOf hb (by go_simp) (by simp <;> omega)
    have hB : Below w.heap.size w w1 := below_of (by go_grown) hb (by simp <;> omega)
    clear hb
    go_wp2_with (first | (go_at_call 99; refine (isNull_any _ _ _ _ _ _ (by omega) (by omega) (by omega) (by omega) (by omega) (by omega) (by omega) (by omega)).mono ?_; rintro e w' ⟨rfl, hbn⟩; replace c00 := keepC hbn c00; replace c10 := keepC hbn c10; replace c20 := keepC hbn c20; replace c21 := keepC hbn c21; replace c22 := keepC hbn c22; replace hB := below_of hB hbn hB.size; clear hbn) | (at_make; refine wpList_make_full _ rfl _ _ 57 rfl w.heap.size 2 i0 (.int .i64 0) 1 Try.underlying57 hi hz0 hz1 .i64 .i64 p p n rfl rfl (by omega) (by omega) (by rw [hz2]; omega) (by unfold maxLen; omega) hB.size ?_; intro w2 hM hgm; have hgb : w.heap.size + 2 < w'.heap.size := World.block_lt_of_cell? w' _ c20; replace c00 := hgm.cell c00 (by simp); replace c10 := hgm.cell c10 (by simp); replace c20 := hgm.cell c20 (by simp); replace c21 := hgm.cell c21 (by simp); replace c22 := hgm.cell c22 (by simp)))
    have hM2 : Own w2 w.heap.size 2 1 w'.heap.size n n (List.replicate n 0) := by
      have h := hM
      rw [show n * 1 = n by omega, show (Value.int .i64 0).cells = #[.int .i64 0] from rfl, toList_madeCells_one] at h
      simpa [Own, ints] using h
    have hBB := hB
    replace hB : Below w.heap.size w w2 := hB.grown hgm hB.size (fun k hk => by cases hk)
    have hgM : w'.heap.size < w2.heap.size := hM2.lt.2
    clear hM hgm
    generalize w'.heap.size = gM at *
    clear hBB
    go_wp2_with fail
    refine (linesThrough_any p 0 0 _ (by omega) (by omega) (by omega) (by omega) (by omega) (by omega)).mono ?_
    rintro e w3 ⟨gS, cS, rfl, hS, hb⟩
    replace c00 := keepC hb c00
    replace c10 := keepC hb c10
    replace c20 := keepC hb c20
    replace c21 := keepC hb c21
    replace c22 := keepC hb c22
    have hM3 := hM2.keep hb
    have hne0 : gM ≠ gS := by have := hS.lt; omega
    have hS3 := hid (hS.low (B' := w.heap.size) hB.size)
    replace hB := below_of hB hb hB.size
    clear hM2 hb hS hgM
    generalize hL : Pl.ltAll p 0 0 = L at *
    have HL := hid hL
    clear hL
    have hnl0 : L.length ≤ 32 := by rw [← HL.out, Pl.ltAll_len]; omega
    go_wp2_with fail
    go_loopw [28] (fun i wq => ∃ q : Nat, q ≤ L.length ∧ i = .int .i64 q ∧ Hid (Own wq w.heap.size 2 1 gM n n (Pl.cbs p k la lb (L.take (q)))) ∧ Hid (Own wq (w.heap.size) 27 3 gS (L).length cS (Pl.flat3 ((L)))) ∧ wq.cell? ⟨w.heap.size, 0, none⟩ = some (.int .i64 p) ∧ wq.cell? ⟨w.heap.size + 1, 0, none⟩ = some (.int .i64 k) ∧ wq.cell? ⟨w.heap.size + 2, 0, none⟩ = some (.int .i64 la) ∧ wq.cell? ⟨w.heap.size + 2, 1, none⟩ = some (.int .i64 lb) ∧ wq.cell? ⟨w.heap.size + 2, 2, none⟩ = some (.int .i64 lc) ∧ Below w.heap.size w wq) (fun i _ => L.length - (intOf i).toNat)
    case atStart => exact ⟨0, by omega, rfl, by rw [List.take_zero, Pl.cbs_nil, HN3.out]; exact hM3, hS3, c00, c10, c20, c21, c22, hB⟩
    case round =>
      clear hM3 hS3 hB c00 c10 c20 c21 c22
      obtain ⟨q, hq0, rfl, hM, hS, c00, c10, c20, c21, c22, hB⟩ := hrel
      have hs := hB.size
      by_cases hlt : q < L.length
      · have hcell := hS.out.cell3 hlt
        have hmem := hid (Pl.getD_mem (0, 0, 0) hlt)
        have hst := hid (Pl.cbs_step p k la lb hlt)
        have hsm := hid (Pl.cbs_small p k la lb L q (by omega))
        have hq := hid (show L.getD q (0, 0, 0) = ((L.getD q (0, 0, 0)).1, (L.getD q (0, 0, 0)).2.1, (L.getD q (0, 0, 0)).2.2) from rfl)
        generalize hx0 : (L.getD q (0, 0, 0)).1 = x at *
        clear hx0
        generalize hx1 : (L.getD q (0, 0, 0)).2.1 = y at *
        clear hx1
        generalize hx2 : (L.getD q (0, 0, 0)).2.2 = z at *
        clear hx2
        obtain ⟨e0, e1, e2⟩ := hcell
        have hm2 := hid (show (x, y, z) ∈ Pl.ltAll p 0 0 from by have h1 := hmem.out; rw [hq.out] at h1; rw [HL.out]; exact h1)
        have hmb := Pl.mem_ltAll (by omega) hm2.out
        obtain ⟨hd, yb1, yb2, zb1, zb2⟩ := hmb
        have x12 : 0 ≤ x ∧ x ≤ 31 := by omega
        obtain ⟨x1, x2⟩ := x12
        clear hd hmem
        replace c00 := keepA (.cells #[.int .i64 x, .int .i64 y, .int .i64 z] 27) c00
        replace c10 := keepA (.cells #[.int .i64 x, .int .i64 y, .int .i64 z] 27) c10
        replace c20 := keepA (.cells #[.int .i64 x, .int .i64 y, .int .i64 z] 27) c20
        replace c21 := keepA (.cells #[.int .i64 x, .int .i64 y, .int .i64 z] 27) c21
        replace c22 := keepA (.cells #[.int .i64 x, .int .i64 y, .int .i64 z] 27) c22
        go_wp2_with fail
        generalize hW : World.alloc wr (.cells #[.int .i64 x, .int .i64 y, .int .i64 z] 27) = W2 at *
        have b0 : W2.cell? ⟨wr.heap.size, 0, none⟩ = some (.int .i64 x) := by subst hW; go_simp
        have b1 : W2.cell? ⟨wr.heap.size, 1, none⟩ = some (.int .i64 y) := by subst hW; go_simp
        have b2 : W2.cell? ⟨wr.heap.size, 2, none⟩ = some (.int .i64 z) := by subst hW; go_simp
        have hM2 := hid (show Own W2 w.heap.size 2 1 gM n n (Pl.cbs p k la lb (L.take (q))) from by subst hW; exact hM.out.alloc _)
        have hS2 := hid (show Own W2 (w.heap.size) 27 3 gS (L).length cS (Pl.flat3 ((L))) from by subst hW; exact hS.out.alloc _)
        replace hB : Below w.heap.size w W2 := by subst hW; exact hB.alloc hs _
        clear hW e0 e1 e2 hM hS hs
        generalize wr.heap.size = bl at *
        refine (isNull_any p k x y z _ (by omega) (by omega) (by omega) (by omega) (by omega) (by omega) (by omega) (by omega)).mono ?_
        rintro e w5 ⟨rfl, hb⟩
        replace c00 := keepC hb c00
        replace c10 := keepC hb c10
        replace c20 := keepC hb c20
        replace c21 := keepC hb c21
        replace c22 := keepC hb c22
        replace b0 := keepC hb b0
        replace b1 := keepC hb b1
        replace b2 := keepC hb b2
        replace hM2 := hid (hM2.out.keep hb)
        replace hS2 := hid (hS2.out.keep hb)
        replace hB := below_of hB hb hB.size
        clear hb
        cases hP : Pl.nullB p k x y with
        | true =>
          have hs2 := hst.out
          rw [hP] at hs2
          have HS := hid (show Pl.cbs p k la lb (L.take (q + 1)) = Pl.cbs p k la lb (L.take (q)) from by rw [hs2]; rfl)
          clear hs2
          go_wp2_with fail
          go_roundw
          case rel => exact ⟨q + 1, by omega, by go_num, by rw [HS.out]; exact hM2, hS2, c00, c10, c20, c21, c22, hB⟩
          case measure => simp [intOf]; omega
        | false =>
          have hsb := Pl.spread_bd (p := p) (k := k) (la := la) (lb := lb) (ma := x) (mb := y) (by omega)
          have hnat := Int.eq_ofNat_of_zero_le hsb.1
          obtain ⟨sn, hsn⟩ := hnat
          have hs2 := hst.out
          rw [hP, hsn, Pl.bump_nat] at hs2
          have HS := hid (show Pl.cbs p k la lb (L.take (q + 1)) = (Pl.cbs p k la lb (L.take (q))).set sn ((Pl.cbs p k la lb (L.take (q))).getD sn 0 + 1) from by rw [hs2]; rfl)
          have hsn2 : sn < n := by rw [hsn] at hsb; omega
          clear hs2
          have hjl : sn < (Pl.cbs p k la lb (L.take (q))).length := by rw [Pl.cbs_len, HN3.out]; exact hsn2
          have hgd := Pl.small_getD (by omega) hsm.out sn
          have HSN := hid hsn
          clear hsn hsb
          go_wp2_with fail
          refine (spread_any p k la lb lc x y z _ hf (by omega) (by omega) (by omega) (by omega) (by omega) (by omega) (by omega) (by omega) (by omega) (by omega) (by omega) (by omega)).mono ?_
          rintro e w6 ⟨rfl, hb⟩
          rw [HSN.out]
          replace c00 := keepC hb c00
          replace c10 := keepC hb c10
          replace c20 := keepC hb c20
          replace c21 := keepC hb c21
          replace c22 := keepC hb c22
          replace b0 := keepC hb b0
          replace b1 := keepC hb b1
          replace b2 := keepC hb b2
          replace hM2 := hid (hM2.out.keep hb)
          replace hS2 := hid (hS2.out.keep hb)
          replace hB := below_of hB hb hB.size
          clear hb
          have d1 := hM2.out.cell hjl
          have d2 := hM2.out.free sn
          have HUP := hid (hM2.out.put sn ((Pl.cbs p k la lb (L.take (q))).getD sn 0 + 1))
          generalize (Pl.cbs p k la lb (L.take (q))).getD sn 0 = u at *
          obtain ⟨hgd1, hgd2⟩ := hgd
          have hMlt := hM2.out.lt
          have HHH := hid (hM2.out)
          clear hM2 hst hsm hjl
          go_wp2_with fail
          have hS7 := hid (hS2.out.other (a := ⟨gM, sn, none⟩) (fun e => hne0 e.symm) (.int .i64 (u + 1)))
          have hB7 := hB.setCell (p := ⟨gM, sn, none⟩) hMlt.1 (.int .i64 (u + 1))
          go_roundw
          case rel => exact ⟨q + 1, by omega, by go_num, by rw [HS.out]; exact HUP, hS7, cellOf ((Below.refl gM w6).setCell (p := ⟨gM, sn, none⟩) (Nat.le_refl _) _) c00 (by simp; omega), cellOf ((Below.refl gM w6).setCell (p := ⟨gM, sn, none⟩) (Nat.le_refl _) _) c10 (by simp; omega), cellOf ((Below.refl gM w6).setCell (p := ⟨gM, sn, none⟩) (Nat.le_refl _) _) c20 (by simp; omega), cellOf ((Below.refl gM w6).setCell (p := ⟨gM, sn, none⟩) (Nat.le_refl _) _) c21 (by simp; omega), cellOf ((Below.refl gM w6).setCell (p := ⟨gM, sn, none⟩) (Nat.le_refl _) _) c22 (by simp; omega), hB7⟩
          case measure => simp [intOf]; omega
      · go_wp2_with fail
        go_ret2
        have hln := hid (show (Pl.cbsL p k la lb).length = n by rw [Pl.cbsL, Pl.cbs_len]; exact HN3.out)
        have hM9 := hM.out
        rw [List.take_of_length_le (show L.length ≤ q by omega), ← HL.out] at hM9
        exact ⟨gM, n, by rw [hln.out]; rfl, by rw [hln.out]; exact hM9, hB⟩
theorem CountBySpread_err (p k la lb lc : Int) (w : World) (h0 : ¬ Pl.cbsC p k la lb lc = 0) :
    Calls Try.prog 48 #[.int .i64 p, .int .i64 k, .agg #[.int .i64 la, .int .i64 lb, .int .i64 lc]] w fun e w' => e = .returned (.tuple #[.slice none 0 0, .int .i64 (Pl.cbsC p k la lb lc)]) ∧ Below w.heap.size w w' := by
  by_cases h1 : Pl.ask p (Pl.colB k && Pl.linesB p [(la, lb, lc)]) = 0
  · have hc := Pl.cbsC_null h1 h0
    obtain ⟨hn, hcc⟩ := hc
    have HC := hid hcc
    clear hcc h0
    have hv : Hid (Pl.fieldB p = true ∧ (Pl.colB k && Pl.linesB p [(la, lb, lc)]) = true) := Pl.ask_ok h1
    have hp := Pl.field_bd hv.out.1
    obtain ⟨hp1, hp2⟩ := hp
    have hv2 := hv.out.2
    simp only [Bool.and_eq_true] at hv2
    obtain ⟨la1, la2, lb1, lb2, lc1, lc2, hl⟩ := Pl.lines1_bd hv2.2
    clear hv2 hl
    have hf := hv.out.1
    go_enter Try.func48, Try.ntmps48
    go_wp2_with fail
    refine (asked_any p _ _ (Pl.colB k && Pl.linesB p [(la, lb, lc)]) _ (by kernel_rfl) ?_).mono ?_
    · intro _
      exact CountBySpread1_any p k la lb lc _ _ _ _ (by go_simp) (by go_simp) (by go_simp) (by go_simp) (by go_simp)
    · rintro e w1 ⟨rfl, hb⟩
      have c00 : w1.cell? ⟨w.heap.size, 0, none⟩ = some (.int .i64 p) := cellOf hb (by go_simp) (by simp <;> omega)
      have c10 : w1.cell? ⟨w.heap.size + 1, 0, none⟩ = some (.int .i64 k) := cellOf hb (by go_simp) (by simp <;> omega)
      have c20 : w1.cell? ⟨w.heap.size + 2, 0, none⟩ = some (.int .i64 la) := cellOf hb (by go_simp) (by simp <;> omega)
      have c21 : w1.cell? ⟨w.heap.size + 2, 1, none⟩ = some (.int .i64 lb) := cellOf hb (by go_simp) (by simp <;> omega)
      have c22 : w1.cell? ⟨w.heap.size + 2, 2, none⟩ = some (.int .i64 lc) := cellOf hb (by go_simp) (by simp <;> omega)
      have hB : Below w.heap.size w w1 := below_of (by go_grown) hb (by simp <;> omega)
      clear hb
      go_wp2_with (go_at_call 99; refine (isNull_any _ _ _ _ _ _ (by omega) (by omega) (by omega) (by omega) (by omega) (by omega) (by omega) (by omega)).mono ?_; rintro e w' ⟨rfl, hbn⟩; replace c00 := keepC hbn c00; replace c10 := keepC hbn c10; replace c20 := keepC hbn c20; replace c21 := keepC hbn c21; replace c22 := keepC hbn c22; replace hB := below_of hB hbn hB.size; clear hbn)
      go_ret2
      exact ⟨by rw [HC.out]; rfl, hB⟩
  · have HC := hid (Pl.cbsC_err h1)
    have hne : (Pl.ask p (Pl.colB k && Pl.linesB p [(la, lb, lc)]) != 0) = true := by simpa using h1
    clear h0 h1
    go_enter Try.func48, Try.ntmps48
    go_wp2_with fail
    refine (asked_any p _ _ (Pl.colB k && Pl.linesB p [(la, lb, lc)]) _ (by kernel_rfl) ?_).mono ?_
    · intro _
      exact CountBySpread1_any p k la lb lc _ _ _ _ (by go_simp) (by go_simp) (by go_simp) (by go_simp) (by go_simp)
    · rintro e w1 ⟨rfl, hb⟩
      have hB : Below w.heap.size w w1 := below_of (by go_grown) hb (by simp <;> omega)
      clear hb
      go_wp2_with fail
      go_ret2
      exact ⟨by rw [HC.out]; rfl, hB⟩
theorem sCountBySpread_err (p k la lb lc : Int) (w : World) (h0 : ¬ Pl.cbsC p k la lb lc = 0) :
    Calls Try.prog 47 #[.int .i64 p, .int .i64 k, .agg #[.int .i64 la, .int .i64 lb, .int .i64 lc]] w fun e w' => e = .returned (.tuple #[.slice none 0 0, .int .i64 (Pl.cbsC p k la lb lc)]) ∧ Below w.heap.size w w' := by
  by_cases h1 : Pl.ask p (Pl.colB k && Pl.linesB p [(la, lb, lc)]) = 0
  · have hc := Pl.cbsC_null h1 h0
    obtain ⟨hn, hcc⟩ := hc
    have HC := hid hcc
    clear hcc h0
    have hv : Hid (Pl.fieldB p = true ∧ (Pl.colB k && Pl.linesB p [(la, lb, lc)]) = true) := Pl.ask_ok h1
    have hp := Pl.field_bd hv.out.1
    obtain ⟨hp1, hp2⟩ := hp
    have hv2 := hv.out.2
    simp only [Bool.and_eq_true] at hv2
    obtain ⟨la1, la2, lb1, lb2, lc1, lc2, hl⟩ := Pl.lines1_bd hv2.2
    clear hv2 hl
    have hf := hv.out.1
    go_enter Try.func47, Try.ntmps47
    go_wp2_with fail
    refine (l03Colour_any p k _ 0 1 1 [(la, lb, lc)] rfl (by omega) _ (by simp) ?_).mono ?_
    · intro j hj
      match j, hj with
      | 0, _ => exact ⟨by go_simp, by go_simp, by go_simp⟩
    · rintro e w1 ⟨rfl, hb⟩
      have c00 : w1.cell? ⟨w.heap.size, 0, none⟩ = some (.int .i64 la) := keepC hb (by go_simp)
      have c01 : w1.cell? ⟨w.heap.size, 1, none⟩ = some (.int .i64 lb) := keepC hb (by go_simp)
      have c02 : w1.cell? ⟨w.heap.size, 2, none⟩ = some (.int .i64 lc) := keepC hb (by go_simp)
      have hB : Below w.heap.size w w1 := below_of (by go_grown) hb (by simp <;> omega)
      clear hb
      go_wp2_with (go_at_call 109; refine (l03Null_any _ _ _ _ _ _ (by omega) (by omega) (by omega) (by omega) (by omega) (by omega) (by omega) (by omega)).mono ?_; rintro e w' ⟨rfl, hbn⟩; replace c00 := keepC hbn c00; replace c01 := keepC hbn c01; replace c02 := keepC hbn c02; replace hB := below_of hB hbn hB.size; clear hbn)
      go_ret2
      exact ⟨by rw [HC.out]; rfl, hB⟩
  · have HC := hid (Pl.cbsC_err h1)
    have hne : (Pl.ask p (Pl.colB k && Pl.linesB p [(la, lb, lc)]) != 0) = true := by simpa using h1
    have hne2 : (Pl.ask p (Pl.colB k && Pl.linesB p [(la, lb, lc)]) == 0) = false := by simpa using h1
    clear h0 h1
    go_enter Try.func47, Try.ntmps47
    go_wp2_with fail
    refine (l03Colour_any p k _ 0 1 1 [(la, lb, lc)] rfl (by omega) _ (by simp) ?_).mono ?_
    · intro j hj
      match j, hj with
      | 0, _ => exact ⟨by go_simp, by go_simp, by go_simp⟩
    · rintro e w1 ⟨rfl, hb⟩
      have hB : Below w.heap.size w w1 := below_of (by go_grown) hb (by simp <;> omega)
      clear hb
      go_wp2_with fail
      go_ret2
      exact ⟨by rw [HC.out]; rfl, hB⟩
theorem sCountBySpread_ok (p k la lb lc : Int) (w : World) (h0 : Pl.cbsC p k la lb lc = 0) :
    Calls Try.prog 47 #[.int .i64 p, .int .i64 k, .agg #[.int .i64 la, .int .i64 lb, .int .i64 lc]] w fun e w' => ∃ g c, e = .returned (.tuple #[.slice (some ⟨g, 0, none⟩) (Pl.cbsL p k la lb).length c, .int .i64 0]) ∧ Own w' (w.heap.size) 2 1 g (Pl.cbsL p k la lb).length c (Pl.cbsL p k la lb) ∧ Below w.heap.size w w' := by
  have hk := Pl.cbsC_ok h0
  obtain ⟨h1, hn⟩ := hk
  have hv : Hid (Pl.fieldB p = true ∧ (Pl.colB k && Pl.linesB p [(la, lb, lc)]) = true) := Pl.ask_ok h1
  have hp := Pl.field_bd hv.out.1
  obtain ⟨hp1, hp2⟩ := hp
  have hv2 := hv.out.2
  simp only [Bool.and_eq_true] at hv2
  obtain ⟨la1, la2, lb1, lb2, lc1, lc2, hl⟩ := Pl.lines1_bd hv2.2
  clear hv2 hl
  have hf := hv.out.1
  clear h0
  obtain ⟨n, hn1, hn2, hn3⟩ : ∃ n : Nat, p ≤ n ∧ (n : Int) ≤ p ∧ p.toNat = n := ⟨p.toNat, by omega, by omega, rfl⟩
  have HN3 := hid hn3
  clear hn3
  have hI := info_parts info_int2
  obtain ⟨i0, hi, hz0, hz1, hz2⟩ := hI
  go_enter Try.func47, Try.ntmps47
  go_wp2_with fail
  refine (l03Colour_any p k _ 0 1 1 [(la, lb, lc)] rfl (by omega) _ (by simp) ?_).mono ?_
  · intro j hj
    match j, hj with
    | 0, _ => exact ⟨by go_simp, by go_simp, by go_simp⟩
  · rintro e w1 ⟨rfl, hb⟩
    have c00 : w1.cell? ⟨w.heap.size, 0, none⟩ = some (.int .i64 la) := keepC hb (by go_simp)
    have c01 : w1.cell? ⟨w.heap.size, 1, none⟩ = some (.int .i64 lb) := keepC hb (by go_simp)
    have c02 : w1.cell? ⟨w.heap.size, 2, none⟩ = some (.int .i64 lc) := keepC hb (by go_simp)
    have hB : Below w.heap.size w w1 := below_of (by go_grown) hb (by simp <;> omega)
    clear hb
    go_wp2_with (go_at_call 109; refine (l03Null_any _ _ _ _ _ _ (by omega) (by omega) (by omega) (by omega) (by omega) (by omega) (by omega) (by omega)).mono ?_; rintro e w' ⟨rfl, hbn⟩; replace c00 := keepC hbn c00; replace c01 := keepC hbn c01; replace c02 := keepC hbn c02; replace hB := below_of hB hbn hB.size; clear hbn)
    have hmk : ∀ w : World, (Instr.makeSlice 57 (.int .i64 p) (.int .i64 p)).run Try.prog w = .ok (.slice (some ⟨w.heap.size, 0, none⟩) n n) (w.alloc (.cells (madeCells #[.int .i64 0] n) 2)) := by
      intro w
      have h := run_make (P := Try.prog) w 57 2 i0 (.int .i64 0) Try.underlying57 hi hz0 .i64 .i64 p p (by omega) (Int.le_refl _) (by rw [hz2]; omega) (by omega)
      rw [HN3.out, hz1, Nat.mul_one] at h
      exact h
    go_region_with (go_at_call 110; refine (l03Lines_any p k 0 0 _ (by omega) (by omega) (by omega) (by omega) (by omega) (by omega)).mono ?_; rintro e w9 ⟨gS, cS, rfl, hS, hb⟩)
    · have hb2 : Below w'.heap.size w' w9 := ⟨hb.os, hb.tape, hb.output, hb.size, hb.block⟩
      have hgb0 : w.heap.size < w'.heap.size := World.block_lt_of_cell? w' _ c00
      have hS0 : Own w9 w'.heap.size 27 3 gS (Pl.lnsW (fun m => !Pl.nullB p k m.1 m.2.1) p 0 0).length cS (Pl.flat3 (Pl.lnsW (fun m => !Pl.nullB p k m.1 m.2.1) p 0 0)) := hS
      replace c00 := keepA (.cells (madeCells #[.int .i64 0] n) 2) (keepC hb2 c00)
      replace c01 := keepA (.cells (madeCells #[.int .i64 0] n) 2) (keepC hb2 c01)
      replace c02 := keepA (.cells (madeCells #[.int .i64 0] n) 2) (keepC hb2 c02)
      have hS3 := (hS0.low (B' := w.heap.size) hB.size).alloc (.cells (madeCells #[.int .i64 0] n) 2)
      have hlt0 := hS0.lt
      have hM3 := made_own w9 w.heap.size n w9.heap.size rfl (Nat.le_trans hB.size hb2.size) (by omega)
      have hne0 : w9.heap.size ≠ gS := by omega
      have hgb : w.heap.size < w9.heap.size := Nat.lt_of_lt_of_le hgb0 hb2.size
      replace hB : Below w.heap.size w (World.alloc w9 (.cells (madeCells #[.int .i64 0] n) 2)) := (below_of hB hb2 hB.size).alloc (Nat.le_trans hB.size hb2.size) _
      clear hS hb hS0 hb2 hlt0
      generalize World.alloc w9 (.cells (madeCells #[.int .i64 0] n) 2) = W9 at *
      generalize w9.heap.size = gM at *
      generalize hL : Pl.lnsW (fun m => !Pl.nullB p k m.1 m.2.1) p 0 0 = L at *
      have HL := hid hL
      clear hL
      have hnl0 : L.length ≤ 1000 := by rw [← HL.out]; exact Pl.lnsW_len (by omega) (by omega)
      go_wp2_with fail
      go_loopw [11] (fun i wq => ∃ q : Nat, q ≤ L.length ∧ i = .int .i64 q ∧ Hid (Own wq w.heap.size 2 1 gM n n (Pl.cbs2 p k la lb (L.take (q)))) ∧ Hid (Own wq (w.heap.size) 27 3 gS (L).length cS (Pl.flat3 ((L)))) ∧ wq.cell? ⟨w.heap.size, 0, none⟩ = some (.int .i64 la) ∧ wq.cell? ⟨w.heap.size, 1, none⟩ = some (.int .i64 lb) ∧ wq.cell? ⟨w.heap.size, 2, none⟩ = some (.int .i64 lc) ∧ Below w.heap.size w wq) (fun i _ => L.length - (intOf i).toNat)
      case atStart => exact ⟨0, by omega, rfl, by rw [List.take_zero, Pl.cbs2_nil, HN3.out]; exact hM3, hid hS3, c00, c01, c02, hB⟩
      case round =>
        clear hM3 hS3 hB c00 c01 c02
        obtain ⟨q, hq0, rfl, hM, hS, c00, c01, c02, hB⟩ := hrel
        have hs := hB.size
        by_cases hlt : q < L.length
        · have hcell := hS.out.cell3 hlt
          have hmem := hid (Pl.getD_mem (0, 0, 0) hlt)
          have hst := hid (Pl.cbs2_step p k la lb hlt)
          have hsm := hid (Pl.cbs2_small p k la lb L q (by omega))
          have hq := hid (show L.getD q (0, 0, 0) = ((L.getD q (0, 0, 0)).1, (L.getD q (0, 0, 0)).2.1, (L.getD q (0, 0, 0)).2.2) from rfl)
          generalize hx0 : (L.getD q (0, 0, 0)).1 = x at *
          clear hx0
          generalize hx1 : (L.getD q (0, 0, 0)).2.1 = y at *
          clear hx1
          generalize hx2 : (L.getD q (0, 0, 0)).2.2 = z at *
          clear hx2
          obtain ⟨e0, e1, e2⟩ := hcell
          have hm2 := hid (show (x, y, z) ∈ Pl.ltAll p 0 0 from Pl.mem_filt (N := fun m => !Pl.nullB p k m.1 m.2.1) (by have h1 := hmem.out; rw [hq.out] at h1; rw [HL.out]; exact h1))
          have hmb := Pl.mem_ltAll (by omega) hm2.out
          obtain ⟨hd, yb1, yb2, zb1, zb2⟩ := hmb
          have x12 : 0 ≤ x ∧ x ≤ 31 := by omega
          obtain ⟨x1, x2⟩ := x12
          clear hd hmem
          have hsb := Pl.spread_bd (p := p) (k := k) (la := la) (lb := lb) (ma := x) (mb := y) (by omega)
          have hnat := Int.eq_ofNat_of_zero_le hsb.1
          obtain ⟨sn, hsn⟩ := hnat
          have hs2 := hst.out
          rw [hsn, Pl.bump_nat] at hs2
          have HS := hid hs2
          have hsn2 : sn < n := by rw [hsn] at hsb; omega
          clear hs2
          have hjl : sn < (Pl.cbs2 p k la lb (L.take (q))).length := by rw [Pl.cbs2_len, HN3.out]; exact hsn2
          have hgd := Pl.small_getD (by omega) hsm.out sn
          have HSN := hid hsn
          clear hsn hsb
          have d1 := hM.out.cell hjl
          have HMM := hid (fun w2 (hb : Below wr.heap.size wr w2) => hM.out.keep hb)
          have HSS := hid (fun w2 (hb : Below wr.heap.size wr w2) => hS.out.keep hb)
          generalize hu : (Pl.cbs2 p k la lb (L.take (q))).getD sn 0 = u at *
          have HU := hid hu
          obtain ⟨hgd1, hgd2⟩ := hgd
          clear hst hsm hM hS hu
          have hwu : IntKind.i64.wrap (u + 1) = u + 1 := IntWalk.i64_in _ (by omega)
          go_wp2_with fail
          refine Reg.wp_region_grow (by kernel_rfl) 13 13 (fun _ => (#[.int .i64 0, .int .i64 0], 0)) (by kernel_rfl) ?_ ?_
          · intro k o h1 h2
            omega
          simp only [List.take_succ_cons, List.take_zero, List.drop_succ_cons, List.drop_zero]
          refine Reg.wpG_step (v := ?vr1x0) (fun wq hq => ?gr1x0) ?kr1x0
          case gr1x0 => (have q0 := keepC hq c00; have q1 := keepC hq c01; have q2 := keepC hq c02; have q3 := keepC hq e0; have q4 := keepC hq e1; have q5 := keepC hq e2; have q6 := keepC hq d1; refine Reg.gAt_val ?_; go_simp; first | done | (with_reducible rfl) | rfl)
          try simp only [Act.put, List.setIfInBounds_toArray, List.set_cons_zero, List.set_cons_succ]
          refine Reg.wpG_step (v := ?vr1x1) (fun wq hq => ?gr1x1) ?kr1x1
          case gr1x1 => (have q0 := keepC hq c00; have q1 := keepC hq c01; have q2 := keepC hq c02; have q3 := keepC hq e0; have q4 := keepC hq e1; have q5 := keepC hq e2; have q6 := keepC hq d1; refine Reg.gAt_val ?_; go_simp; first | done | (with_reducible rfl) | rfl)
          try simp only [Act.put, List.setIfInBounds_toArray, List.set_cons_zero, List.set_cons_succ]
          refine Reg.wpG_step (v := ?vr1x2) (fun wq hq => ?gr1x2) ?kr1x2
          case gr1x2 => (have q0 := keepC hq c00; have q1 := keepC hq c01; have q2 := keepC hq c02; have q3 := keepC hq e0; have q4 := keepC hq e1; have q5 := keepC hq e2; have q6 := keepC hq d1; refine Reg.gAt_val ?_; go_simp; first | done | (with_reducible rfl) | rfl)
          try simp only [Act.put, List.setIfInBounds_toArray, List.set_cons_zero, List.set_cons_succ]
          refine Reg.wpG_step (v := ?vr1x3) (fun wq hq => ?gr1x3) ?kr1x3
          case gr1x3 => (have q0 := keepC hq c00; have q1 := keepC hq c01; have q2 := keepC hq c02; have q3 := keepC hq e0; have q4 := keepC hq e1; have q5 := keepC hq e2; have q6 := keepC hq d1; refine Reg.gAt_val ?_; go_simp; first | done | (with_reducible rfl) | rfl)
          try simp only [Act.put, List.setIfInBounds_toArray, List.set_cons_zero, List.set_cons_succ]
          refine Reg.wpG_step (v := ?vr1x4) (fun wq hq => ?gr1x4) ?kr1x4
          case gr1x4 => (have q0 := keepC hq c00; have q1 := keepC hq c01; have q2 := keepC hq c02; have q3 := keepC hq e0; have q4 := keepC hq e1; have q5 := keepC hq e2; have q6 := keepC hq d1; refine Reg.gAt_val ?_; go_simp; first | done | (with_reducible rfl) | rfl)
          try simp only [Act.put, List.setIfInBounds_toArray, List.set_cons_zero, List.set_cons_succ]
          refine Reg.wpG_step (v := ?vr1x5) (fun wq hq => ?gr1x5) ?kr1x5
          case gr1x5 => (have q0 := keepC hq c00; have q1 := keepC hq c01; have q2 := keepC hq c02; have q3 := keepC hq e0; have q4 := keepC hq e1; have q5 := keepC hq e2; have q6 := keepC hq d1; refine Reg.gAt_val ?_; go_simp; first | done | (with_reducible rfl) | rfl)
          try simp only [Act.put, List.setIfInBounds_toArray, List.set_cons_zero, List.set_cons_succ]
          refine Reg.wpG_step (v := ?vr1x6) (fun wq hq => ?gr1x6) ?kr1x6
          case gr1x6 => (have q0 := keepC hq c00; have q1 := keepC hq c01; have q2 := keepC hq c02; have q3 := keepC hq e0; have q4 := keepC hq e1; have q5 := keepC hq e2; have q6 := keepC hq d1; refine Reg.gAt_val ?_; go_simp; first | done | (with_reducible rfl) | rfl)
          try simp only [Act.put, List.setIfInBounds_toArray, List.set_cons_zero, List.set_cons_succ]
          refine Reg.wpG_step (v := ?vr1x7) (fun wq hq => ?gr1x7) ?kr1x7
          case gr1x7 => (have q0 := keepC hq c00; have q1 := keepC hq c01; have q2 := keepC hq c02; have q3 := keepC hq e0; have q4 := keepC hq e1; have q5 := keepC hq e2; have q6 := keepC hq d1; refine Reg.gAt_val ?_; go_simp; first | done | (with_reducible rfl) | rfl)
          try simp only [Act.put, List.setIfInBounds_toArray, List.set_cons_zero, List.set_cons_succ]
          refine Reg.wpG_step (v := .int .i64 (sn : Int)) (fun wq hq => ?gr1x8) ?kr1x8
          case gr1x8 => (unfold Reg.gAt; go_simp; refine Reg.quiet_enter ?_; exact (l03Spread_any p k la lb lc x y z _ hf (by omega) (by omega) (by omega) (by omega) (by omega) (by omega) (by omega) (by omega) (by omega) (by omega) (by omega) (by omega)).mono fun e w2 h => ⟨h.1.trans (ret_int HSN.out), h.2⟩)
          try simp only [Act.put, List.setIfInBounds_toArray, List.set_cons_zero, List.set_cons_succ]
          refine Reg.wpG_step (v := ?vr1x9) (fun wq hq => ?gr1x9) ?kr1x9
          case gr1x9 => (have q0 := keepC hq c00; have q1 := keepC hq c01; have q2 := keepC hq c02; have q3 := keepC hq e0; have q4 := keepC hq e1; have q5 := keepC hq e2; have q6 := keepC hq d1; refine Reg.gAt_val ?_; go_simp; first | done | (with_reducible rfl) | rfl)
          try simp only [Act.put, List.setIfInBounds_toArray, List.set_cons_zero, List.set_cons_succ]
          refine Reg.wpG_step (v := ?vr1x10) (fun wq hq => ?gr1x10) ?kr1x10
          case gr1x10 => (have q0 := keepC hq c00; have q1 := keepC hq c01; have q2 := keepC hq c02; have q3 := keepC hq e0; have q4 := keepC hq e1; have q5 := keepC hq e2; have q6 := keepC hq d1; refine Reg.gAt_val ?_; go_simp; first | done | (with_reducible rfl) | rfl)
          try simp only [Act.put, List.setIfInBounds_toArray, List.set_cons_zero, List.set_cons_succ]
          refine Reg.wpG_step (v := ?vr1x11) (fun wq hq => ?gr1x11) ?kr1x11
          case gr1x11 => (have q0 := keepC hq c00; have q1 := keepC hq c01; have q2 := keepC hq c02; have q3 := keepC hq e0; have q4 := keepC hq e1; have q5 := keepC hq e2; have q6 := keepC hq d1; refine Reg.gAt_val ?_; go_simp; first | done | (with_reducible rfl) | rfl)
          try simp only [Act.put, List.setIfInBounds_toArray, List.set_cons_zero, List.set_cons_succ]
          refine Reg.wpG_step (v := ?vr1x12) (fun wq hq => ?gr1x12) ?kr1x12
          case gr1x12 => (have q0 := keepC hq c00; have q1 := keepC hq c01; have q2 := keepC hq c02; have q3 := keepC hq e0; have q4 := keepC hq e1; have q5 := keepC hq e2; have q6 := keepC hq d1; refine Reg.gAt_val ?_; go_simp; first | done | (with_reducible rfl) | rfl)
          try simp only [Act.put, List.setIfInBounds_toArray, List.set_cons_zero, List.set_cons_succ]
          intro w2 g hB2 hg hd
          clear hg hd
          change wpList _ _ _ _ (Reg.putPtrs _ g [] _) _
          simp only [Reg.putPtrs]
          replace c00 := keepC hB2 c00
          replace c01 := keepC hB2 c01
          replace c02 := keepC hB2 c02
          replace e0 := keepC hB2 e0
          replace e1 := keepC hB2 e1
          replace e2 := keepC hB2 e2
          replace d1 := keepC hB2 d1
          have hM2 := hid (HMM.out _ hB2)
          have hS2 := hid (HSS.out _ hB2)
          replace hB := below_of hB hB2 hB.size
          clear hB2 
          have d2 := hM2.out.free sn
          have HUP := hid (hM2.out.put sn (u + 1))
          have hMlt := hM2.out.lt
          clear HMM HSS hM2
          go_wp2_with fail
          have hS7 := hid (hS2.out.other (a := ⟨gM, sn, none⟩) (fun e => hne0 e.symm) (.int .i64 (u + 1)))
          have hB7 := hB.setCell (p := ⟨gM, sn, none⟩) hMlt.1 (.int .i64 (u + 1))
          go_roundw
          case rel => exact ⟨q + 1, by omega, by go_num, by rw [HS.out]; exact HUP, hS7, cellOf ((Below.refl gM w2).setCell (p := ⟨gM, sn, none⟩) (Nat.le_refl _) _) c00 (by simp; omega), cellOf ((Below.refl gM w2).setCell (p := ⟨gM, sn, none⟩) (Nat.le_refl _) _) c01 (by simp; omega), cellOf ((Below.refl gM w2).setCell (p := ⟨gM, sn, none⟩) (Nat.le_refl _) _) c02 (by simp; omega), hB7⟩
          case measure => simp [intOf]; omega
        · go_wp2_with fail
          go_ret2
          have hln := hid (show (Pl.cbsL p k la lb).length = n by rw [Pl.cbsL, Pl.cbs_len]; exact HN3.out)
          have hM9 := hM.out
          rw [List.take_of_length_le (show L.length ≤ q by omega), ← HL.out, Pl.lnsW, Pl.cbs_filter] at hM9
          exact ⟨gM, n, by rw [hln.out]; rfl, by rw [hln.out]; exact hM9, hB⟩
    · have hb2 : Below (World.alloc w' (.cells (madeCells #[.int .i64 0] n) 2)).heap.size (World.alloc w' (.cells (madeCells #[.int .i64 0] n) 2)) w9 := ⟨hb.os, hb.tape, hb.output, hb.size, hb.block⟩
      have hS0 : Own w9 (World.alloc w' (.cells (madeCells #[.int .i64 0] n) 2)).heap.size 27 3 gS (Pl.lnsW (fun m => !Pl.nullB p k m.1 m.2.1) p 0 0).length cS (Pl.flat3 (Pl.lnsW (fun m => !Pl.nullB p k m.1 m.2.1) p 0 0)) := hS
      have hsz9 : (World.alloc w' (.cells (madeCells #[.int .i64 0] n) 2)).heap.size = w'.heap.size + 1 := by simp
      have hgb : w.heap.size < w'.heap.size := World.block_lt_of_cell? w' _ c00
      replace c00 := keepC hb2 (keepA (.cells (madeCells #[.int .i64 0] n) 2) c00)
      replace c01 := keepC hb2 (keepA (.cells (madeCells #[.int .i64 0] n) 2) c01)
      replace c02 := keepC hb2 (keepA (.cells (madeCells #[.int .i64 0] n) 2) c02)
      have hM3 := (made_own w' w.heap.size n w'.heap.size rfl hB.size (by omega)).keep hb2
      have hlt0 := hS0.lt
      rw [hsz9] at hlt0
      have hS3 := hS0.low (B' := w.heap.size) (by rw [hsz9]; have := hB.size; omega)
      have hne0 : w'.heap.size ≠ gS := by omega
      replace hB := below_of (hB.alloc hB.size (.cells (madeCells #[.int .i64 0] n) 2)) hb2 (by rw [hsz9]; have := hB.size; omega)
      clear hS hb hS0 hb2 hlt0 hsz9
      generalize w'.heap.size = gM at *
      generalize hL : Pl.lnsW (fun m => !Pl.nullB p k m.1 m.2.1) p 0 0 = L at *
      have HL := hid hL
      clear hL
      have hnl0 : L.length ≤ 1000 := by rw [← HL.out]; exact Pl.lnsW_len (by omega) (by omega)
      go_wp2_with fail
      go_loopw [11] (fun i wq => ∃ q : Nat, q ≤ L.length ∧ i = .int .i64 q ∧ Hid (Own wq w.heap.size 2 1 gM n n (Pl.cbs2 p k la lb (L.take (q)))) ∧ Hid (Own wq (w.heap.size) 27 3 gS (L).length cS (Pl.flat3 ((L)))) ∧ wq.cell? ⟨w.heap.size, 0, none⟩ = some (.int .i64 la) ∧ wq.cell? ⟨w.heap.size, 1, none⟩ = some (.int .i64 lb) ∧ wq.cell? ⟨w.heap.size, 2, none⟩ = some (.int .i64 lc) ∧ Below w.heap.size w wq) (fun i _ => L.length - (intOf i).toNat)
      case atStart => exact ⟨0, by omega, rfl, by rw [List.take_zero, Pl.cbs2_nil, HN3.out]; exact hM3, hid hS3, c00, c01, c02, hB⟩
      case round =>
        clear hM3 hS3 hB c00 c01 c02
        obtain ⟨q, hq0, rfl, hM, hS, c00, c01, c02, hB⟩ := hrel
        have hs := hB.size
        by_cases hlt : q < L.length
        · have hcell := hS.out.cell3 hlt
          have hmem := hid (Pl.getD_mem (0, 0, 0) hlt)
          have hst := hid (Pl.cbs2_step p k la lb hlt)
          have hsm := hid (Pl.cbs2_small p k la lb L q (by omega))
          have hq := hid (show L.getD q (0, 0, 0) = ((L.getD q (0, 0, 0)).1, (L.getD q (0, 0, 0)).2.1, (L.getD q (0, 0, 0)).2.2) from rfl)
          generalize hx0 : (L.getD q (0, 0, 0)).1 = x at *
          clear hx0
          generalize hx1 : (L.getD q (0, 0, 0)).2.1 = y at *
          clear hx1
          generalize hx2 : (L.getD q (0, 0, 0)).2.2 = z at *
          clear hx2
          obtain ⟨e0, e1, e2⟩ := hcell
          have hm2 := hid (show (x, y, z) ∈ Pl.ltAll p 0 0 from Pl.mem_filt (N := fun m => !Pl.nullB p k m.1 m.2.1) (by have h1 := hmem.out; rw [hq.out] at h1; rw [HL.out]; exact h1))
          have hmb := Pl.mem_ltAll (by omega) hm2.out
          obtain ⟨hd, yb1, yb2, zb1, zb2⟩ := hmb
          have x12 : 0 ≤ x ∧ x ≤ 31 := by omega
          obtain ⟨x1, x2⟩ := x12
          clear hd hmem
          have hsb := Pl.spread_bd (p := p) (k := k) (la := la) (lb := lb) (ma := x) (mb := y) (by omega)
          have hnat := Int.eq_ofNat_of_zero_le hsb.1
          obtain ⟨sn, hsn⟩ := hnat
          have hs2 := hst.out
          rw [hsn, Pl.bump_nat] at hs2
          have HS := hid hs2
          have hsn2 : sn < n := by rw [hsn] at hsb; omega
          clear hs2
          have hjl : sn < (Pl.cbs2 p k la lb (L.take (q))).length := by rw [Pl.cbs2_len, HN3.out]; exact hsn2
          have hgd := Pl.small_getD (by omega) hsm.out sn
          have HSN := hid hsn
          clear hsn hsb
          have d1 := hM.out.cell hjl
          have HMM := hid (fun w2 (hb : Below wr.heap.size wr w2) => hM.out.keep hb)
          have HSS := hid (fun w2 (hb : Below wr.heap.size wr w2) => hS.out.keep hb)
          generalize hu : (Pl.cbs2 p k la lb (L.take (q))).getD sn 0 = u at *
          have HU := hid hu
          obtain ⟨hgd1, hgd2⟩ := hgd
          clear hst hsm hM hS hu
          have hwu : IntKind.i64.wrap (u + 1) = u + 1 := IntWalk.i64_in _ (by omega)
          go_wp2_with fail
          refine Reg.wp_region_grow (by kernel_rfl) 13 13 (fun _ => (#[.int .i64 0, .int .i64 0], 0)) (by kernel_rfl) ?_ ?_
          · intro k o h1 h2
            omega
          simp only [List.take_succ_cons, List.take_zero, List.drop_succ_cons, List.drop_zero]
          refine Reg.wpG_step (v := ?vr2x0) (fun wq hq => ?gr2x0) ?kr2x0
          case gr2x0 => (have q0 := keepC hq c00; have q1 := keepC hq c01; have q2 := keepC hq c02; have q3 := keepC hq e0; have q4 := keepC hq e1; have q5 := keepC hq e2; have q6 := keepC hq d1; refine Reg.gAt_val ?_; go_simp; first | done | (with_reducible rfl) | rfl)
          try simp only [Act.put, List.setIfInBounds_toArray, List.set_cons_zero, List.set_cons_succ]
          refine Reg.wpG_step (v := ?vr2x1) (fun wq hq => ?gr2x1) ?kr2x1
          case gr2x1 => (have q0 := keepC hq c00; have q1 := keepC hq c01; have q2 := keepC hq c02; have q3 := keepC hq e0; have q4 := keepC hq e1; have q5 := keepC hq e2; have q6 := keepC hq d1; refine Reg.gAt_val ?_; go_simp; first | done | (with_reducible rfl) | rfl)
          try simp only [Act.put, List.setIfInBounds_toArray, List.set_cons_zero, List.set_cons_succ]
          refine Reg.wpG_step (v := ?vr2x2) (fun wq hq => ?gr2x2) ?kr2x2
          case gr2x2 => (have q0 := keepC hq c00; have q1 := keepC hq c01; have q2 := keepC hq c02; have q3 := keepC hq e0; have q4 := keepC hq e1; have q5 := keepC hq e2; have q6 := keepC hq d1; refine Reg.gAt_val ?_; go_simp; first | done | (with_reducible rfl) | rfl)
          try simp only [Act.put, List.setIfInBounds_toArray, List.set_cons_zero, List.set_cons_succ]
          refine Reg.wpG_step (v := ?vr2x3) (fun wq hq => ?gr2x3) ?kr2x3
          case gr2x3 => (have q0 := keepC hq c00; have q1 := keepC hq c01; have q2 := keepC hq c02; have q3 := keepC hq e0; have q4 := keepC hq e1; have q5 := keepC hq e2; have q6 := keepC hq d1; refine Reg.gAt_val ?_; go_simp; first | done | (with_reducible rfl) | rfl)
          try simp only [Act.put, List.setIfInBounds_toArray, List.set_cons_zero, List.set_cons_succ]
          refine Reg.wpG_step (v := ?vr2x4) (fun wq hq => ?gr2x4) ?kr2x4
          case gr2x4 => (have q0 := keepC hq c00; have q1 := keepC hq c01; have q2 := keepC hq c02; have q3 := keepC hq e0; have q4 := keepC hq e1; have q5 := keepC hq e2; have q6 := keepC hq d1; refine Reg.gAt_val ?_; go_simp; first | done | (with_reducible rfl) | rfl)
          try simp only [Act.put, List.setIfInBounds_toArray, List.set_cons_zero, List.set_cons_succ]
          refine Reg.wpG_step (v := ?vr2x5) (fun wq hq => ?gr2x5) ?kr2x5
          case gr2x5 => (have q0 := keepC hq c00; have q1 := keepC hq c01; have q2 := keepC hq c02; have q3 := keepC hq e0; have q4 := keepC hq e1; have q5 := keepC hq e2; have q6 := keepC hq d1; refine Reg.gAt_val ?_; go_simp; first | done | (with_reducible rfl) | rfl)
          try simp only [Act.put, List.setIfInBounds_toArray, List.set_cons_zero, List.set_cons_succ]
          refine Reg.wpG_step (v := ?vr2x6) (fun wq hq => ?gr2x6) ?kr2x6
          case gr2x6 => (have q0 := keepC hq c00; have q1 := keepC hq c01; have q2 := keepC hq c02; have q3 := keepC hq e0; have q4 := keepC hq e1; have q5 := keepC hq e2; have q6 := keepC hq d1; refine Reg.gAt_val ?_; go_simp; first | done | (with_reducible rfl) | rfl)
          try simp only [Act.put, List.setIfInBounds_toArray, List.set_cons_zero, List.set_cons_succ]
          refine Reg.wpG_step (v := ?vr2x7) (fun wq hq => ?gr2x7) ?kr2x7
          case gr2x7 => (have q0 := keepC hq c00; have q1 := keepC hq c01; have q2 := keepC hq c02; have q3 := keepC hq e0; have q4 := keepC hq e1; have q5 := keepC hq e2; have q6 := keepC hq d1; refine Reg.gAt_val ?_; go_simp; first | done | (with_reducible rfl) | rfl)
          try simp only [Act.put, List.setIfInBounds_toArray, List.set_cons_zero, List.set_cons_succ]
          refine Reg.wpG_step (v := .int .i64 (sn : Int)) (fun wq hq => ?gr2x8) ?kr2x8
          case gr2x8 => (unfold Reg.gAt; go_simp; refine Reg.quiet_enter ?_; exact (l03Spread_any p k la lb lc x y z _ hf (by omega) (by omega) (by omega) (by omega) (by omega) (by omega) (by omega) (by omega) (by omega) (by omega) (by omega) (by omega)).mono fun e w2 h => ⟨h.1.trans (ret_int HSN.out), h.2⟩)
          try simp only [Act.put, List.setIfInBounds_toArray, List.set_cons_zero, List.set_cons_succ]
          refine Reg.wpG_step (v := ?vr2x9) (fun wq hq => ?gr2x9) ?kr2x9
          case gr2x9 => (have q0 := keepC hq c00; have q1 := keepC hq c01; have q2 := keepC hq c02; have q3 := keepC hq e0; have q4 := keepC hq e1; have q5 := keepC hq e2; have q6 := keepC hq d1; refine Reg.gAt_val ?_; go_simp; first | done | (with_reducible rfl) | rfl)
          try simp only [Act.put, List.setIfInBounds_toArray, List.set_cons_zero, List.set_cons_succ]
          refine Reg.wpG_step (v := ?vr2x10) (fun wq hq => ?gr2x10) ?kr2x10
          case gr2x10 => (have q0 := keepC hq c00; have q1 := keepC hq c01; have q2 := keepC hq c02; have q3 := keepC hq e0; have q4 := keepC hq e1; have q5 := keepC hq e2; have q6 := keepC hq d1; refine Reg.gAt_val ?_; go_simp; first | done | (with_reducible rfl) | rfl)
          try simp only [Act.put, List.setIfInBounds_toArray, List.set_cons_zero, List.set_cons_succ]
          refine Reg.wpG_step (v := ?vr2x11) (fun wq hq => ?gr2x11) ?kr2x11
          case gr2x11 => (have q0 := keepC hq c00; have q1 := keepC hq c01; have q2 := keepC hq c02; have q3 := keepC hq e0; have q4 := keepC hq e1; have q5 := keepC hq e2; have q6 := keepC hq d1; refine Reg.gAt_val ?_; go_simp; first | done | (with_reducible rfl) | rfl)
          try simp only [Act.put, List.setIfInBounds_toArray, List.set_cons_zero, List.set_cons_succ]
          refine Reg.wpG_step (v := ?vr2x12) (fun wq hq => ?gr2x12) ?kr2x12
          case gr2x12 => (have q0 := keepC hq c00; have q1 := keepC hq c01; have q2 := keepC hq c02; have q3 := keepC hq e0; have q4 := keepC hq e1; have q5 := keepC hq e2; have q6 := keepC hq d1; refine Reg.gAt_val ?_; go_simp; first | done | (with_reducible rfl) | rfl)
          try simp only [Act.put, List.setIfInBounds_toArray, List.set_cons_zero, List.set_cons_succ]
          intro w2 g hB2 hg hd
          clear hg hd
          change wpList _ _ _ _ (Reg.putPtrs _ g [] _) _
          simp only [Reg.putPtrs]
          replace c00 := keepC hB2 c00
          replace c01 := keepC hB2 c01
          replace c02 := keepC hB2 c02
          replace e0 := keepC hB2 e0
          replace e1 := keepC hB2 e1
          replace e2 := keepC hB2 e2
          replace d1 := keepC hB2 d1
          have hM2 := hid (HMM.out _ hB2)
          have hS2 := hid (HSS.out _ hB2)
          replace hB := below_of hB hB2 hB.size
          clear hB2 
          have d2 := hM2.out.free sn
          have HUP := hid (hM2.out.put sn (u + 1))
          have hMlt := hM2.out.lt
          clear HMM HSS hM2
          go_wp2_with fail
          have hS7 := hid (hS2.out.other (a := ⟨gM, sn, none⟩) (fun e => hne0 e.symm) (.int .i64 (u + 1)))
          have hB7 := hB.setCell (p := ⟨gM, sn, none⟩) hMlt.1 (.int .i64 (u + 1))
          go_roundw
          case rel => exact ⟨q + 1, by omega, by go_num, by rw [HS.out]; exact HUP, hS7, cellOf ((Below.refl gM w2).setCell (p := ⟨gM, sn, none⟩) (Nat.le_refl _) _) c00 (by simp; omega), cellOf ((Below.refl gM w2).setCell (p := ⟨gM, sn, none⟩) (Nat.le_refl _) _) c01 (by simp; omega), cellOf ((Below.refl gM w2).setCell (p := ⟨gM, sn, none⟩) (Nat.le_refl _) _) c02 (by simp; omega), hB7⟩
          case measure => simp [intOf]; omega
        · go_wp2_with fail
          go_ret2
          have hln := hid (show (Pl.cbsL p k la lb).length = n by rw [Pl.cbsL, Pl.cbs_len]; exact HN3.out)
          have hM9 := hM.out
          rw [List.take_of_length_le (show L.length ≤ q by omega), ← HL.out, Pl.lnsW, Pl.cbs_filter] at hM9
          exact ⟨gM, n, by rw [hln.out]; rfl, by rw [hln.out]; exact hM9, hB⟩
end Go.Proofs.Ytjjidjcflimhgaa
