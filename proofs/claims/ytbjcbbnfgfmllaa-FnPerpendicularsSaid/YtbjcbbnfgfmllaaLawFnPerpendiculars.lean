/- FnPerpendiculars: the walk. -/
import Derived.Test.YtbjcbbnfgfmllaaDr8
import Derived.Test.YtbjcbbnfgfmllaaI
import Derived.Test.YtbjcbbnfgfmllaaG
import Derived.Test.YtbjcbbnfgfmllaaD
import Derived.Test.YtbjcbbnfgfmllaaFt
import Derived.Test.YtbjcbbnfgfmllaaPl16
import Derived.Test.YtbjcbbnfgfmllaaBig
import Derived.Test.YtbjcbbnfgfmllaaLrn
set_option linter.unusedVariables false
set_option linter.unusedSimpArgs false
set_option maxHeartbeats 4000000
set_option maxRecDepth 100000
namespace Go.Proofs.Ytbjcbbnfgfmllaa.fnPerpendiculars
open Go.RowKit
theorem walk (v : Value) (w : World) (hv : CodeArg w v) : Calls Try.prog 5 #[v] w fun e w' => e = .returned (.bool true) ∧ Below w.heap.size w w' := by
  obtain ⟨o, n, c, rfl, h0, hc⟩ := hv
  by_cases hn : 4096 < n
  · go_enter Try.func5, Try.ntmps5
    go_wp2_with (go_at_call 6; refine (big_yes _ _ _ _ hn).mono ?_; rintro e w' ⟨rfl, rfl⟩)
    go_ret
    exact ⟨rfl, Below.refl _ _⟩
  have hby : Bytes w w.heap.size (.slice o n c) := ⟨o, n, c, rfl, by omega, h0, hc⟩
  clear h0 hc
  go_enter Try.func5, Try.ntmps5
  go_wp2_with (go_at_call 6; refine (big_no _ _ _ _ (by omega)).mono ?_; rintro e w' ⟨rfl, rfl⟩)
  have hB := Below.refl w.heap.size w
  clear hn
  refine (drawPerpendicularThrough_any _ _ ((hby.below hB).raise hB.size)).mono ?_
  rintro e w' ⟨⟨p, k, la, lb, lc, ax, ay, rfl⟩, hbn⟩
  replace hB := below_of hB hbn hB.size
  clear hbn
  as_aux_lemma =>
    go_upto_region 4 with fail
    as_aux_lemma =>
      generalize hW : (World.alloc (World.alloc w' (.cells #[.int .i64 la, .int .i64 lb, .int .i64 lc] 25)) (.cells #[.int .i64 ax, .int .i64 ay] 33)) = W3
      have db000 : W3.cell? ⟨w'.heap.size, 0, none⟩ = some (.int .i64 la) := by subst hW; go_simp
      have db001 : W3.cell? ⟨w'.heap.size, 1, none⟩ = some (.int .i64 lb) := by subst hW; go_simp
      have db002 : W3.cell? ⟨w'.heap.size, 2, none⟩ = some (.int .i64 lc) := by subst hW; go_simp
      have db010 : W3.cell? ⟨w'.heap.size + 1, 0, none⟩ = some (.int .i64 ax) := by subst hW; go_simp
      have db011 : W3.cell? ⟨w'.heap.size + 1, 1, none⟩ = some (.int .i64 ay) := by subst hW; go_simp
      have hbn : Below w'.heap.size w' W3 := by subst hW; go_grown
      have hle0 := hB.size
      replace hB := below_of hB hbn hB.size
      clear hW hbn
      generalize w'.heap.size = r_0 at *
      clear w'
      as_aux_lemma =>
        go_wp2_with fail
        obtain ⟨ta, tb, tc, tq, hT, ht1, ht2, ht3⟩ := Pl.perpT_ex p k la lb lc ax ay
        replace hT := hid hT
        replace ht3 := hid ht3
        obtain ⟨⟨ta1, ta2⟩, ⟨tb1, tb2⟩, tc1, tc2⟩ := ht1
        replace ht2 := hid ht2
        have hE1 : ∀ w', (Op.equalIn 10000 25 (.agg #[.int .i64 ta, .int .i64 tb, .int .i64 tc]) (.agg #[.int .i64 ta, .int .i64 tb, .int .i64 tc])).run Try.prog w' = .ok true w' := fun w' => eqLn_same w' ta1 ta2 tb1 tb2 tc1 tc2
        refine (PerpendicularThrough_any p k la lb lc ax ay _).mono ?_
        rintro e w' ⟨he, hbn⟩
        rw [hT.out] at he
        dsimp only at he
        subst he
        replace db000 := keepC hbn db000
        replace db001 := keepC hbn db001
        replace db002 := keepC hbn db002
        replace db010 := keepC hbn db010
        replace db011 := keepC hbn db011
        replace hB := below_of hB hbn hB.size
        clear hbn
        go_upto_region 5 with fail
        generalize hW : (World.alloc w' (.cells #[.int .i64 ta, .int .i64 tb, .int .i64 tc] 25)) = W4
        have db100 : W4.cell? ⟨w'.heap.size, 0, none⟩ = some (.int .i64 ta) := by subst hW; go_simp
        have db101 : W4.cell? ⟨w'.heap.size, 1, none⟩ = some (.int .i64 tb) := by subst hW; go_simp
        have db102 : W4.cell? ⟨w'.heap.size, 2, none⟩ = some (.int .i64 tc) := by subst hW; go_simp
        have hbn : Below w'.heap.size w' W4 := by subst hW; go_grown
        replace db000 := keepC hbn db000
        replace db001 := keepC hbn db001
        replace db002 := keepC hbn db002
        replace db010 := keepC hbn db010
        replace db011 := keepC hbn db011
        have hle1 := hB.size
        replace hB := below_of hB hbn hB.size
        clear hW hbn
        generalize w'.heap.size = r_1 at *
        clear w'
        as_aux_lemma =>
          go_wp2_with fail
          refine (sPerpendicularThrough_any p k la lb lc ax ay _).mono ?_
          rintro e w' ⟨he, hbn⟩
          rw [hT.out] at he
          dsimp only at he
          subst he
          replace db000 := keepC hbn db000
          replace db001 := keepC hbn db001
          replace db002 := keepC hbn db002
          replace db010 := keepC hbn db010
          replace db011 := keepC hbn db011
          replace db100 := keepC hbn db100
          replace db101 := keepC hbn db101
          replace db102 := keepC hbn db102
          replace hB := below_of hB hbn hB.size
          clear hbn
          clear hT
          go_upto_region 6 with fail
          generalize hW : (World.alloc w' (.cells #[.int .i64 ta, .int .i64 tb, .int .i64 tc] 25)) = W5
          have db200 : W5.cell? ⟨w'.heap.size, 0, none⟩ = some (.int .i64 ta) := by subst hW; go_simp
          have db201 : W5.cell? ⟨w'.heap.size, 1, none⟩ = some (.int .i64 tb) := by subst hW; go_simp
          have db202 : W5.cell? ⟨w'.heap.size, 2, none⟩ = some (.int .i64 tc) := by subst hW; go_simp
          have hbn : Below w'.heap.size w' W5 := by subst hW; go_grown
          replace db000 := keepC hbn db000
          replace db001 := keepC hbn db001
          replace db002 := keepC hbn db002
          replace db010 := keepC hbn db010
          replace db011 := keepC hbn db011
          replace db100 := keepC hbn db100
          replace db101 := keepC hbn db101
          replace db102 := keepC hbn db102
          have hle2 := hB.size
          replace hB := below_of hB hbn hB.size
          clear hW hbn
          generalize w'.heap.size = r_2 at *
          clear w'
          as_aux_lemma =>
            go_wp2_with fail
            clear db200 db201 db202
            refine (drawArePerpendicular_any _ _ ((hby.below hB).raise hB.size)).mono ?_
            rintro e w' ⟨⟨r, s, ma, mb, mc, na, nb, nc, rfl⟩, hbn⟩
            replace db000 := keepC hbn db000
            replace db001 := keepC hbn db001
            replace db002 := keepC hbn db002
            replace db010 := keepC hbn db010
            replace db011 := keepC hbn db011
            replace db100 := keepC hbn db100
            replace db101 := keepC hbn db101
            replace db102 := keepC hbn db102
            replace hB := below_of hB hbn hB.size
            clear hbn
            as_aux_lemma =>
              go_upto_region 9 with fail
              as_aux_lemma =>
                generalize hW : (World.alloc (World.alloc w' (.cells #[.int .i64 ma, .int .i64 mb, .int .i64 mc] 25)) (.cells #[.int .i64 na, .int .i64 nb, .int .i64 nc] 25)) = W6
                have db300 : W6.cell? ⟨w'.heap.size, 0, none⟩ = some (.int .i64 ma) := by subst hW; go_simp
                have db301 : W6.cell? ⟨w'.heap.size, 1, none⟩ = some (.int .i64 mb) := by subst hW; go_simp
                have db302 : W6.cell? ⟨w'.heap.size, 2, none⟩ = some (.int .i64 mc) := by subst hW; go_simp
                have db310 : W6.cell? ⟨w'.heap.size + 1, 0, none⟩ = some (.int .i64 na) := by subst hW; go_simp
                have db311 : W6.cell? ⟨w'.heap.size + 1, 1, none⟩ = some (.int .i64 nb) := by subst hW; go_simp
                have db312 : W6.cell? ⟨w'.heap.size + 1, 2, none⟩ = some (.int .i64 nc) := by subst hW; go_simp
                have hbn : Below w'.heap.size w' W6 := by subst hW; go_grown
                replace db000 := keepC hbn db000
                replace db001 := keepC hbn db001
                replace db002 := keepC hbn db002
                replace db010 := keepC hbn db010
                replace db011 := keepC hbn db011
                replace db100 := keepC hbn db100
                replace db101 := keepC hbn db101
                replace db102 := keepC hbn db102
                have hle3 := hB.size
                replace hB := below_of hB hbn hB.size
                clear hW hbn
                generalize w'.heap.size = r_3 at *
                clear w'
                as_aux_lemma =>
                  go_wp2_with fail
                  obtain ⟨pb, pq, hP⟩ : ∃ pb pq, Hid (Pl.perpOf r s ma mb mc na nb nc = (pb, pq)) := ⟨_, _, rfl⟩
                  refine (ArePerpendicular_any r s ma mb mc na nb nc _).mono ?_
                  rintro e w' ⟨he, hbn⟩
                  rw [hP.out] at he
                  dsimp only at he
                  subst he
                  replace db000 := keepC hbn db000
                  replace db001 := keepC hbn db001
                  replace db002 := keepC hbn db002
                  replace db010 := keepC hbn db010
                  replace db011 := keepC hbn db011
                  replace db100 := keepC hbn db100
                  replace db101 := keepC hbn db101
                  replace db102 := keepC hbn db102
                  replace db300 := keepC hbn db300
                  replace db301 := keepC hbn db301
                  replace db302 := keepC hbn db302
                  replace db310 := keepC hbn db310
                  replace db311 := keepC hbn db311
                  replace db312 := keepC hbn db312
                  replace hB := below_of hB hbn hB.size
                  clear hbn
                  as_aux_lemma =>
                    go_wp2_with fail
                    refine (sArePerpendicular_any r s ma mb mc na nb nc _).mono ?_
                    rintro e w' ⟨he, hbn⟩
                    rw [hP.out] at he
                    dsimp only at he
                    subst he
                    replace db000 := keepC hbn db000
                    replace db001 := keepC hbn db001
                    replace db002 := keepC hbn db002
                    replace db010 := keepC hbn db010
                    replace db011 := keepC hbn db011
                    replace db100 := keepC hbn db100
                    replace db101 := keepC hbn db101
                    replace db102 := keepC hbn db102
                    replace db300 := keepC hbn db300
                    replace db301 := keepC hbn db301
                    replace db302 := keepC hbn db302
                    replace db310 := keepC hbn db310
                    replace db311 := keepC hbn db311
                    replace db312 := keepC hbn db312
                    replace hB := below_of hB hbn hB.size
                    clear hbn
                    as_aux_lemma =>
                      go_wp2_with fail
                      clear hP
                      clear db300 db301 db302 db310 db311 db312
                      refine (drawIsNullLine_any _ _ ((hby.below hB).raise hB.size)).mono ?_
                      rintro e w' ⟨⟨t, tint, ua, ub, uc, rfl⟩, hbn⟩
                      replace db000 := keepC hbn db000
                      replace db001 := keepC hbn db001
                      replace db002 := keepC hbn db002
                      replace db010 := keepC hbn db010
                      replace db011 := keepC hbn db011
                      replace db100 := keepC hbn db100
                      replace db101 := keepC hbn db101
                      replace db102 := keepC hbn db102
                      replace hB := below_of hB hbn hB.size
                      clear hbn
                      as_aux_lemma =>
                        go_upto_region 14 with fail
                        as_aux_lemma =>
                          generalize hW : (World.alloc w' (.cells #[.int .i64 ua, .int .i64 ub, .int .i64 uc] 25)) = W7
                          have db400 : W7.cell? ⟨w'.heap.size, 0, none⟩ = some (.int .i64 ua) := by subst hW; go_simp
                          have db401 : W7.cell? ⟨w'.heap.size, 1, none⟩ = some (.int .i64 ub) := by subst hW; go_simp
                          have db402 : W7.cell? ⟨w'.heap.size, 2, none⟩ = some (.int .i64 uc) := by subst hW; go_simp
                          have hbn : Below w'.heap.size w' W7 := by subst hW; go_grown
                          replace db000 := keepC hbn db000
                          replace db001 := keepC hbn db001
                          replace db002 := keepC hbn db002
                          replace db010 := keepC hbn db010
                          replace db011 := keepC hbn db011
                          replace db100 := keepC hbn db100
                          replace db101 := keepC hbn db101
                          replace db102 := keepC hbn db102
                          have hle4 := hB.size
                          replace hB := below_of hB hbn hB.size
                          clear hW hbn
                          generalize w'.heap.size = r_4 at *
                          clear w'
                          as_aux_lemma =>
                            go_wp2_with fail
                            obtain ⟨nb_, nq, hN⟩ : ∃ nb_ nq, Hid (Pl.nullOf t tint ua ub uc = (nb_, nq)) := ⟨_, _, rfl⟩
                            refine (IsNullLine_any t tint ua ub uc _).mono ?_
                            rintro e w' ⟨he, hbn⟩
                            rw [hN.out] at he
                            dsimp only at he
                            subst he
                            replace db000 := keepC hbn db000
                            replace db001 := keepC hbn db001
                            replace db002 := keepC hbn db002
                            replace db010 := keepC hbn db010
                            replace db011 := keepC hbn db011
                            replace db100 := keepC hbn db100
                            replace db101 := keepC hbn db101
                            replace db102 := keepC hbn db102
                            replace db400 := keepC hbn db400
                            replace db401 := keepC hbn db401
                            replace db402 := keepC hbn db402
                            replace hB := below_of hB hbn hB.size
                            clear hbn
                            as_aux_lemma =>
                              go_wp2_with fail
                              refine (sIsNullLine_any t tint ua ub uc _).mono ?_
                              rintro e w' ⟨he, hbn⟩
                              rw [hN.out] at he
                              dsimp only at he
                              subst he
                              replace db000 := keepC hbn db000
                              replace db001 := keepC hbn db001
                              replace db002 := keepC hbn db002
                              replace db010 := keepC hbn db010
                              replace db011 := keepC hbn db011
                              replace db100 := keepC hbn db100
                              replace db101 := keepC hbn db101
                              replace db102 := keepC hbn db102
                              replace db400 := keepC hbn db400
                              replace db401 := keepC hbn db401
                              replace db402 := keepC hbn db402
                              replace hB := below_of hB hbn hB.size
                              clear hbn
                              as_aux_lemma =>
                                go_wp2_with fail
                                clear hN
                                clear db400 db401 db402
                                refine (drawNullLines_any _ _ ((hby.below hB).raise hB.size)).mono ?_
                                rintro e w' ⟨⟨y, hue, cx, cy, rfl⟩, hbn⟩
                                replace db000 := keepC hbn db000
                                replace db001 := keepC hbn db001
                                replace db002 := keepC hbn db002
                                replace db010 := keepC hbn db010
                                replace db011 := keepC hbn db011
                                replace db100 := keepC hbn db100
                                replace db101 := keepC hbn db101
                                replace db102 := keepC hbn db102
                                replace hB := below_of hB hbn hB.size
                                clear hbn
                                as_aux_lemma =>
                                  go_upto_region 19 with fail
                                  as_aux_lemma =>
                                    generalize hW : (World.alloc w' (.cells #[.int .i64 cx, .int .i64 cy] 33)) = W8
                                    have db500 : W8.cell? ⟨w'.heap.size, 0, none⟩ = some (.int .i64 cx) := by subst hW; go_simp
                                    have db501 : W8.cell? ⟨w'.heap.size, 1, none⟩ = some (.int .i64 cy) := by subst hW; go_simp
                                    have hbn : Below w'.heap.size w' W8 := by subst hW; go_grown
                                    replace db000 := keepC hbn db000
                                    replace db001 := keepC hbn db001
                                    replace db002 := keepC hbn db002
                                    replace db010 := keepC hbn db010
                                    replace db011 := keepC hbn db011
                                    replace db100 := keepC hbn db100
                                    replace db101 := keepC hbn db101
                                    replace db102 := keepC hbn db102
                                    have hle5 := hB.size
                                    replace hB := below_of hB hbn hB.size
                                    clear hW hbn
                                    generalize w'.heap.size = r_5 at *
                                    clear w'
                                    as_aux_lemma =>
                                      go_wp2_with fail
                                      have hcm : Hid (Pl.ask y (Pl.colB hue && Pl.ptsB y [(cx, cy)]) = 0 → ((Pl.lnsW (fun m => Pl.nullB y hue m.1 m.2.1) y cx cy).length = 0 ∨ (Pl.lnsW (fun m => Pl.nullB y hue m.1 m.2.1) y cx cy).length = 2) ∧ (0 < hue → (Pl.lnsW (fun m => Pl.nullB y hue m.1 m.2.1) y cx cy).length = 2) ∧ ∀ j, j < (Pl.lnsW (fun m => Pl.nullB y hue m.1 m.2.1) y cx cy).length → Pl.nullOf y hue ((Pl.lnsW (fun m => Pl.nullB y hue m.1 m.2.1) y cx cy).getD j (0, 0, 0)).1 ((Pl.lnsW (fun m => Pl.nullB y hue m.1 m.2.1) y cx cy).getD j (0, 0, 0)).2.1 ((Pl.lnsW (fun m => Pl.nullB y hue m.1 m.2.1) y cx cy).getD j (0, 0, 0)).2.2 = (true, 0) ∧ Pl.onOf y cx cy ((Pl.lnsW (fun m => Pl.nullB y hue m.1 m.2.1) y cx cy).getD j (0, 0, 0)).1 ((Pl.lnsW (fun m => Pl.nullB y hue m.1 m.2.1) y cx cy).getD j (0, 0, 0)).2.1 ((Pl.lnsW (fun m => Pl.nullB y hue m.1 m.2.1) y cx cy).getD j (0, 0, 0)).2.2 = (true, 0) ∧ Pl.small3 ((Pl.lnsW (fun m => Pl.nullB y hue m.1 m.2.1) y cx cy).getD j (0, 0, 0)).1 ((Pl.lnsW (fun m => Pl.nullB y hue m.1 m.2.1) y cx cy).getD j (0, 0, 0)).2.1 ((Pl.lnsW (fun m => Pl.nullB y hue m.1 m.2.1) y cx cy).getD j (0, 0, 0)).2.2) := fun h3 => ⟨(Pl.null_count (p := y) (k := hue) (ax := cx) (ay := cy) (Pl.ask_ok h3).1 (by have h := (Pl.ask_ok h3).2; rw [Bool.and_eq_true] at h; exact h.1)).1, (Pl.null_count (p := y) (k := hue) (ax := cx) (ay := cy) (Pl.ask_ok h3).1 (by have h := (Pl.ask_ok h3).2; rw [Bool.and_eq_true] at h; exact h.1)).2, fun j hj => Pl.getD_null h3 hj⟩
                                      have hlo := hB.size
                                      refine (NullLines_res y hue cx cy _).mono ?_
                                      rintro e w' ⟨v1, rfl, h_S1, hbn⟩
                                      replace h_S1 := h_S1.low hlo
                                      clear hlo
                                      replace db000 := keepC hbn db000
                                      replace db001 := keepC hbn db001
                                      replace db002 := keepC hbn db002
                                      replace db010 := keepC hbn db010
                                      replace db011 := keepC hbn db011
                                      replace db100 := keepC hbn db100
                                      replace db101 := keepC hbn db101
                                      replace db102 := keepC hbn db102
                                      replace db500 := keepC hbn db500
                                      replace db501 := keepC hbn db501
                                      replace hB := below_of hB hbn hB.size
                                      clear hbn
                                      as_aux_lemma =>
                                        go_wp2_with fail
                                        have hlo := hB.size
                                        refine (sNullLines_res y hue cx cy _).mono ?_
                                        rintro e w' ⟨v2, rfl, h_S2, hbn⟩
                                        replace h_S2 := h_S2.low hlo
                                        clear hlo
                                        replace h_S1 := h_S1.keep hbn
                                        replace db000 := keepC hbn db000
                                        replace db001 := keepC hbn db001
                                        replace db002 := keepC hbn db002
                                        replace db010 := keepC hbn db010
                                        replace db011 := keepC hbn db011
                                        replace db100 := keepC hbn db100
                                        replace db101 := keepC hbn db101
                                        replace db102 := keepC hbn db102
                                        replace db500 := keepC hbn db500
                                        replace db501 := keepC hbn db501
                                        replace hB := below_of hB hbn hB.size
                                        clear hbn
                                        generalize Pl.lnsW (fun m => Pl.nullB y hue m.1 m.2.1) y cx cy = LL at *
                                        generalize Pl.ask y (Pl.colB hue && Pl.ptsB y [(cx, cy)]) = yq at *
                                        go_wp2_with (go_at_call 57; refine (lines9_res h_S1 h_S2 (fun h0 => by have := (hcm.out h0).1; omega) (fun h0 j hj => (by have h := ((hcm.out h0).2.2 j hj).2.2; exact ⟨h.1.1, h.1.2, h.2.1.1, h.2.1.2, h.2.2.1, h.2.2.2⟩))).mono ?_; rintro e w' ⟨rfl, hbn⟩; replace h_S1 := h_S1.keep hbn; replace db000 := keepC hbn db000; replace db001 := keepC hbn db001; replace db002 := keepC hbn db002; replace db010 := keepC hbn db010; replace db011 := keepC hbn db011; replace db100 := keepC hbn db100; replace db101 := keepC hbn db101; replace db102 := keepC hbn db102; replace db500 := keepC hbn db500; replace db501 := keepC hbn db501; replace hB := below_of hB hbn hB.size; clear hbn h_S2)
                                        refine (drawFootOf_any _ _ ((hby.below hB).raise hB.size)).mono ?_
                                        rintro e w' ⟨⟨z, dye, dx, dy, ka, kb, kc, rfl⟩, hbn⟩
                                        replace h_S1 := h_S1.keep hbn
                                        replace db000 := keepC hbn db000
                                        replace db001 := keepC hbn db001
                                        replace db002 := keepC hbn db002
                                        replace db010 := keepC hbn db010
                                        replace db011 := keepC hbn db011
                                        replace db100 := keepC hbn db100
                                        replace db101 := keepC hbn db101
                                        replace db102 := keepC hbn db102
                                        replace db500 := keepC hbn db500
                                        replace db501 := keepC hbn db501
                                        replace hB := below_of hB hbn hB.size
                                        clear hbn
                                        as_aux_lemma =>
                                          go_upto_region 24 with fail
                                          as_aux_lemma =>
                                            generalize hW : (World.alloc (World.alloc w' (.cells #[.int .i64 dx, .int .i64 dy] 33)) (.cells #[.int .i64 ka, .int .i64 kb, .int .i64 kc] 25)) = W9
                                            have db600 : W9.cell? ⟨w'.heap.size, 0, none⟩ = some (.int .i64 dx) := by subst hW; go_simp
                                            have db601 : W9.cell? ⟨w'.heap.size, 1, none⟩ = some (.int .i64 dy) := by subst hW; go_simp
                                            have db610 : W9.cell? ⟨w'.heap.size + 1, 0, none⟩ = some (.int .i64 ka) := by subst hW; go_simp
                                            have db611 : W9.cell? ⟨w'.heap.size + 1, 1, none⟩ = some (.int .i64 kb) := by subst hW; go_simp
                                            have db612 : W9.cell? ⟨w'.heap.size + 1, 2, none⟩ = some (.int .i64 kc) := by subst hW; go_simp
                                            have hbn : Below w'.heap.size w' W9 := by subst hW; go_grown
                                            replace h_S1 := h_S1.keep hbn
                                            replace db000 := keepC hbn db000
                                            replace db001 := keepC hbn db001
                                            replace db002 := keepC hbn db002
                                            replace db010 := keepC hbn db010
                                            replace db011 := keepC hbn db011
                                            replace db100 := keepC hbn db100
                                            replace db101 := keepC hbn db101
                                            replace db102 := keepC hbn db102
                                            replace db500 := keepC hbn db500
                                            replace db501 := keepC hbn db501
                                            have hle6 := hB.size
                                            replace hB := below_of hB hbn hB.size
                                            clear hW hbn
                                            generalize w'.heap.size = r_6 at *
                                            clear w'
                                            as_aux_lemma =>
                                              go_wp2_with fail
                                              obtain ⟨fx, fy, fq, hF, hf1, hf2⟩ := Pl.foot_ex z dye dx dy ka kb kc
                                              replace hF := hid hF
                                              replace hf2 := hid hf2
                                              obtain ⟨⟨fx1, fx2⟩, fy1, fy2⟩ := hf1
                                              have hE2 : ∀ w', (Op.equalIn 10000 33 (.agg #[.int .i64 fx, .int .i64 fy]) (.agg #[.int .i64 fx, .int .i64 fy])).run Try.prog w' = .ok true w' := fun w' => eqPt_same w' fx1 fx2 fy1 fy2
                                              refine (FootOf_any z dye dx dy ka kb kc _).mono ?_
                                              rintro e w' ⟨he, hbn⟩
                                              rw [hF.out] at he
                                              dsimp only at he
                                              subst he
                                              replace h_S1 := h_S1.keep hbn
                                              replace db000 := keepC hbn db000
                                              replace db001 := keepC hbn db001
                                              replace db002 := keepC hbn db002
                                              replace db010 := keepC hbn db010
                                              replace db011 := keepC hbn db011
                                              replace db100 := keepC hbn db100
                                              replace db101 := keepC hbn db101
                                              replace db102 := keepC hbn db102
                                              replace db500 := keepC hbn db500
                                              replace db501 := keepC hbn db501
                                              replace db600 := keepC hbn db600
                                              replace db601 := keepC hbn db601
                                              replace db610 := keepC hbn db610
                                              replace db611 := keepC hbn db611
                                              replace db612 := keepC hbn db612
                                              replace hB := below_of hB hbn hB.size
                                              clear hbn
                                              go_upto_region 25 with fail
                                              generalize hW : (World.alloc w' (.cells #[.int .i64 fx, .int .i64 fy] 33)) = W10
                                              have db700 : W10.cell? ⟨w'.heap.size, 0, none⟩ = some (.int .i64 fx) := by subst hW; go_simp
                                              have db701 : W10.cell? ⟨w'.heap.size, 1, none⟩ = some (.int .i64 fy) := by subst hW; go_simp
                                              have hbn : Below w'.heap.size w' W10 := by subst hW; go_grown
                                              replace h_S1 := h_S1.keep hbn
                                              replace db000 := keepC hbn db000
                                              replace db001 := keepC hbn db001
                                              replace db002 := keepC hbn db002
                                              replace db010 := keepC hbn db010
                                              replace db011 := keepC hbn db011
                                              replace db100 := keepC hbn db100
                                              replace db101 := keepC hbn db101
                                              replace db102 := keepC hbn db102
                                              replace db500 := keepC hbn db500
                                              replace db501 := keepC hbn db501
                                              replace db600 := keepC hbn db600
                                              replace db601 := keepC hbn db601
                                              replace db610 := keepC hbn db610
                                              replace db611 := keepC hbn db611
                                              replace db612 := keepC hbn db612
                                              have hle7 := hB.size
                                              replace hB := below_of hB hbn hB.size
                                              clear hW hbn
                                              generalize w'.heap.size = r_7 at *
                                              clear w'
                                              as_aux_lemma =>
                                                go_wp2_with fail
                                                refine (sFootOf_any z dye dx dy ka kb kc _).mono ?_
                                                rintro e w' ⟨he, hbn⟩
                                                rw [hF.out] at he
                                                dsimp only at he
                                                subst he
                                                replace h_S1 := h_S1.keep hbn
                                                replace db000 := keepC hbn db000
                                                replace db001 := keepC hbn db001
                                                replace db002 := keepC hbn db002
                                                replace db010 := keepC hbn db010
                                                replace db011 := keepC hbn db011
                                                replace db100 := keepC hbn db100
                                                replace db101 := keepC hbn db101
                                                replace db102 := keepC hbn db102
                                                replace db500 := keepC hbn db500
                                                replace db501 := keepC hbn db501
                                                replace db600 := keepC hbn db600
                                                replace db601 := keepC hbn db601
                                                replace db610 := keepC hbn db610
                                                replace db611 := keepC hbn db611
                                                replace db612 := keepC hbn db612
                                                replace db700 := keepC hbn db700
                                                replace db701 := keepC hbn db701
                                                replace hB := below_of hB hbn hB.size
                                                clear hbn
                                                clear hF
                                                go_upto_region 26 with fail
                                                generalize hW : (World.alloc w' (.cells #[.int .i64 fx, .int .i64 fy] 33)) = W11
                                                have db800 : W11.cell? ⟨w'.heap.size, 0, none⟩ = some (.int .i64 fx) := by subst hW; go_simp
                                                have db801 : W11.cell? ⟨w'.heap.size, 1, none⟩ = some (.int .i64 fy) := by subst hW; go_simp
                                                have hbn : Below w'.heap.size w' W11 := by subst hW; go_grown
                                                replace h_S1 := h_S1.keep hbn
                                                replace db000 := keepC hbn db000
                                                replace db001 := keepC hbn db001
                                                replace db002 := keepC hbn db002
                                                replace db010 := keepC hbn db010
                                                replace db011 := keepC hbn db011
                                                replace db100 := keepC hbn db100
                                                replace db101 := keepC hbn db101
                                                replace db102 := keepC hbn db102
                                                replace db500 := keepC hbn db500
                                                replace db501 := keepC hbn db501
                                                replace db600 := keepC hbn db600
                                                replace db601 := keepC hbn db601
                                                replace db610 := keepC hbn db610
                                                replace db611 := keepC hbn db611
                                                replace db612 := keepC hbn db612
                                                replace db700 := keepC hbn db700
                                                replace db701 := keepC hbn db701
                                                have hle8 := hB.size
                                                replace hB := below_of hB hbn hB.size
                                                clear hW hbn
                                                generalize w'.heap.size = r_8 at *
                                                clear w'
                                                go_upto_if 209 with fail
                                                go_cut [209] from 9999 to 9999 (fun s209 wr => Hid (Below w.heap.size w wr ∧ wr.cell? ⟨r_0, 0, none⟩ = some (.int .i64 la) ∧ wr.cell? ⟨r_0, 1, none⟩ = some (.int .i64 lb) ∧ wr.cell? ⟨r_0, 2, none⟩ = some (.int .i64 lc) ∧ wr.cell? ⟨r_0 + 1, 0, none⟩ = some (.int .i64 ax) ∧ wr.cell? ⟨r_0 + 1, 1, none⟩ = some (.int .i64 ay) ∧ wr.cell? ⟨r_1, 0, none⟩ = some (.int .i64 ta) ∧ wr.cell? ⟨r_1, 1, none⟩ = some (.int .i64 tb) ∧ wr.cell? ⟨r_1, 2, none⟩ = some (.int .i64 tc) ∧ wr.cell? ⟨r_5, 0, none⟩ = some (.int .i64 cx) ∧ wr.cell? ⟨r_5, 1, none⟩ = some (.int .i64 cy) ∧ LRes wr w.heap.size 25 3 LL.length (Pl.flat3 LL) yq v1 ∧ wr.cell? ⟨r_6, 0, none⟩ = some (.int .i64 dx) ∧ wr.cell? ⟨r_6, 1, none⟩ = some (.int .i64 dy) ∧ wr.cell? ⟨r_6 + 1, 0, none⟩ = some (.int .i64 ka) ∧ wr.cell? ⟨r_6 + 1, 1, none⟩ = some (.int .i64 kb) ∧ wr.cell? ⟨r_6 + 1, 2, none⟩ = some (.int .i64 kc) ∧ wr.cell? ⟨r_7, 0, none⟩ = some (.int .i64 fx) ∧ wr.cell? ⟨r_7, 1, none⟩ = some (.int .i64 fy) ∧ wr.cell? ⟨r_8, 0, none⟩ = some (.int .i64 fx) ∧ wr.cell? ⟨r_8, 1, none⟩ = some (.int .i64 fy)))
                                                case first =>
                                                  by_cases hz : fq = 0
                                                  · have hzb : (fq == 0) = true := by simpa using hz
                                                    obtain ⟨ho1, a_, b_, c_, ho2, ho3⟩ := hf2.out hz
                                                    clear hz
                                                    replace ho1 := hid ho1
                                                    replace ho2 := hid ho2
                                                    replace ho3 := hid ho3
                                                    clear hf2
                                                    go_wp2_with fail
                                                    refine (IsOnLine_any z fx fy ka kb kc _).mono ?_
                                                    rintro e w' ⟨he, hbn⟩
                                                    rw [ho1.out] at he
                                                    dsimp only at he
                                                    subst he
                                                    replace h_S1 := h_S1.keep hbn
                                                    replace db000 := keepC hbn db000
                                                    replace db001 := keepC hbn db001
                                                    replace db002 := keepC hbn db002
                                                    replace db010 := keepC hbn db010
                                                    replace db011 := keepC hbn db011
                                                    replace db100 := keepC hbn db100
                                                    replace db101 := keepC hbn db101
                                                    replace db102 := keepC hbn db102
                                                    replace db500 := keepC hbn db500
                                                    replace db501 := keepC hbn db501
                                                    replace db600 := keepC hbn db600
                                                    replace db601 := keepC hbn db601
                                                    replace db610 := keepC hbn db610
                                                    replace db611 := keepC hbn db611
                                                    replace db612 := keepC hbn db612
                                                    replace db700 := keepC hbn db700
                                                    replace db701 := keepC hbn db701
                                                    replace db800 := keepC hbn db800
                                                    replace db801 := keepC hbn db801
                                                    replace hB := below_of hB hbn hB.size
                                                    clear hbn
                                                    as_aux_lemma =>
                                                      go_wp2_with fail
                                                      refine (PerpendicularThrough_any z dye ka kb kc dx dy _).mono ?_
                                                      rintro e w' ⟨he, hbn⟩
                                                      rw [ho2.out] at he
                                                      dsimp only at he
                                                      subst he
                                                      replace h_S1 := h_S1.keep hbn
                                                      replace db000 := keepC hbn db000
                                                      replace db001 := keepC hbn db001
                                                      replace db002 := keepC hbn db002
                                                      replace db010 := keepC hbn db010
                                                      replace db011 := keepC hbn db011
                                                      replace db100 := keepC hbn db100
                                                      replace db101 := keepC hbn db101
                                                      replace db102 := keepC hbn db102
                                                      replace db500 := keepC hbn db500
                                                      replace db501 := keepC hbn db501
                                                      replace db600 := keepC hbn db600
                                                      replace db601 := keepC hbn db601
                                                      replace db610 := keepC hbn db610
                                                      replace db611 := keepC hbn db611
                                                      replace db612 := keepC hbn db612
                                                      replace db700 := keepC hbn db700
                                                      replace db701 := keepC hbn db701
                                                      replace db800 := keepC hbn db800
                                                      replace db801 := keepC hbn db801
                                                      replace hB := below_of hB hbn hB.size
                                                      clear hbn
                                                      go_upto_region 31 with fail
                                                      generalize hW : (World.alloc w' (.cells #[.int .i64 a_, .int .i64 b_, .int .i64 c_] 25)) = W12
                                                      have db900 : W12.cell? ⟨w'.heap.size, 0, none⟩ = some (.int .i64 a_) := by subst hW; go_simp
                                                      have db901 : W12.cell? ⟨w'.heap.size, 1, none⟩ = some (.int .i64 b_) := by subst hW; go_simp
                                                      have db902 : W12.cell? ⟨w'.heap.size, 2, none⟩ = some (.int .i64 c_) := by subst hW; go_simp
                                                      have hbn : Below w'.heap.size w' W12 := by subst hW; go_grown
                                                      replace h_S1 := h_S1.keep hbn
                                                      replace db000 := keepC hbn db000
                                                      replace db001 := keepC hbn db001
                                                      replace db002 := keepC hbn db002
                                                      replace db010 := keepC hbn db010
                                                      replace db011 := keepC hbn db011
                                                      replace db100 := keepC hbn db100
                                                      replace db101 := keepC hbn db101
                                                      replace db102 := keepC hbn db102
                                                      replace db500 := keepC hbn db500
                                                      replace db501 := keepC hbn db501
                                                      replace db600 := keepC hbn db600
                                                      replace db601 := keepC hbn db601
                                                      replace db610 := keepC hbn db610
                                                      replace db611 := keepC hbn db611
                                                      replace db612 := keepC hbn db612
                                                      replace db700 := keepC hbn db700
                                                      replace db701 := keepC hbn db701
                                                      replace db800 := keepC hbn db800
                                                      replace db801 := keepC hbn db801
                                                      have hle9 := hB.size
                                                      replace hB := below_of hB hbn hB.size
                                                      clear hW hbn
                                                      generalize w'.heap.size = r_9 at *
                                                      clear w'
                                                      as_aux_lemma =>
                                                        go_wp2_with fail
                                                        refine (IsOnLine_any z fx fy a_ b_ c_ _).mono ?_
                                                        rintro e w' ⟨he, hbn⟩
                                                        rw [ho3.out] at he
                                                        dsimp only at he
                                                        subst he
                                                        replace h_S1 := h_S1.keep hbn
                                                        replace db000 := keepC hbn db000
                                                        replace db001 := keepC hbn db001
                                                        replace db002 := keepC hbn db002
                                                        replace db010 := keepC hbn db010
                                                        replace db011 := keepC hbn db011
                                                        replace db100 := keepC hbn db100
                                                        replace db101 := keepC hbn db101
                                                        replace db102 := keepC hbn db102
                                                        replace db500 := keepC hbn db500
                                                        replace db501 := keepC hbn db501
                                                        replace db600 := keepC hbn db600
                                                        replace db601 := keepC hbn db601
                                                        replace db610 := keepC hbn db610
                                                        replace db611 := keepC hbn db611
                                                        replace db612 := keepC hbn db612
                                                        replace db700 := keepC hbn db700
                                                        replace db701 := keepC hbn db701
                                                        replace db800 := keepC hbn db800
                                                        replace db801 := keepC hbn db801
                                                        replace db900 := keepC hbn db900
                                                        replace db901 := keepC hbn db901
                                                        replace db902 := keepC hbn db902
                                                        replace hB := below_of hB hbn hB.size
                                                        clear hbn
                                                        as_aux_lemma =>
                                                          go_wp2_with fail
                                                          go_meet
                                                          case rel => exact hid ⟨hB, db000, db001, db002, db010, db011, db100, db101, db102, db500, db501, h_S1, db600, db601, db610, db611, db612, db700, db701, db800, db801⟩
                                                  · have hzb : (fq == 0) = false := by simpa using hz
                                                    go_wp2_with fail
                                                    go_meet
                                                    case rel => exact hid ⟨hB, db000, db001, db002, db010, db011, db100, db101, db102, db500, db501, h_S1, db600, db601, db610, db611, db612, db700, db701, db800, db801⟩
                                                case rest =>
                                                  clear hB db000 db001 db002 db010 db011 db100 db101 db102 db500 db501 h_S1 db600 db601 db610 db611 db612 db700 db701 db800 db801
                                                  have hq := hcut
                                                  obtain ⟨hB, db000, db001, db002, db010, db011, db100, db101, db102, db500, db501, h_S1, db600, db601, db610, db611, db612, db700, db701, db800, db801⟩ := hq.out
                                                  try clear hq
                                                  try clear hcut
                                                  as_aux_lemma =>
                                                    go_upto_if 251 with fail
                                                    go_cut [29, 251] from 154 to 176 (fun s29 s251 wr => s29 = v1 ∧ Hid (Below w.heap.size w wr ∧ wr.cell? ⟨r_0, 0, none⟩ = some (.int .i64 la) ∧ wr.cell? ⟨r_0, 1, none⟩ = some (.int .i64 lb) ∧ wr.cell? ⟨r_0, 2, none⟩ = some (.int .i64 lc) ∧ wr.cell? ⟨r_0 + 1, 0, none⟩ = some (.int .i64 ax) ∧ wr.cell? ⟨r_0 + 1, 1, none⟩ = some (.int .i64 ay) ∧ wr.cell? ⟨r_1, 0, none⟩ = some (.int .i64 ta) ∧ wr.cell? ⟨r_1, 1, none⟩ = some (.int .i64 tb) ∧ wr.cell? ⟨r_1, 2, none⟩ = some (.int .i64 tc) ∧ wr.cell? ⟨r_5, 0, none⟩ = some (.int .i64 cx) ∧ wr.cell? ⟨r_5, 1, none⟩ = some (.int .i64 cy) ∧ LRes wr w.heap.size 25 3 LL.length (Pl.flat3 LL) yq v1 ∧ wr.cell? ⟨r_6, 0, none⟩ = some (.int .i64 dx) ∧ wr.cell? ⟨r_6, 1, none⟩ = some (.int .i64 dy) ∧ wr.cell? ⟨r_6 + 1, 0, none⟩ = some (.int .i64 ka) ∧ wr.cell? ⟨r_6 + 1, 1, none⟩ = some (.int .i64 kb) ∧ wr.cell? ⟨r_6 + 1, 2, none⟩ = some (.int .i64 kc) ∧ wr.cell? ⟨r_7, 0, none⟩ = some (.int .i64 fx) ∧ wr.cell? ⟨r_7, 1, none⟩ = some (.int .i64 fy) ∧ wr.cell? ⟨r_8, 0, none⟩ = some (.int .i64 fx) ∧ wr.cell? ⟨r_8, 1, none⟩ = some (.int .i64 fy)))
                                                    case first =>
                                                      by_cases hz : yq = 0
                                                      · obtain ⟨hc1, hc2, hmem⟩ := hcm.out hz
                                                        replace hmem := hid hmem
                                                        obtain ⟨g1, c1, rfl, h_O1⟩ := h_S1.ok hz
                                                        have hzb : (yq == 0) = true := by simpa using hz
                                                        replace hz := hid hz
                                                        clear hcm h_S1
                                                        have hc3 := hid hc1
                                                        go_upto_region 35 with fail
                                                        go_cut [29, 251, 268] from 154 to 176 (fun s29 s251 s268 wr => s29 = .slice (some ⟨g1, 0, none⟩) LL.length c1 ∧ s268 = .bool false ∧ Hid (Below w.heap.size w wr ∧ wr.cell? ⟨r_0, 0, none⟩ = some (.int .i64 la) ∧ wr.cell? ⟨r_0, 1, none⟩ = some (.int .i64 lb) ∧ wr.cell? ⟨r_0, 2, none⟩ = some (.int .i64 lc) ∧ wr.cell? ⟨r_0 + 1, 0, none⟩ = some (.int .i64 ax) ∧ wr.cell? ⟨r_0 + 1, 1, none⟩ = some (.int .i64 ay) ∧ wr.cell? ⟨r_1, 0, none⟩ = some (.int .i64 ta) ∧ wr.cell? ⟨r_1, 1, none⟩ = some (.int .i64 tb) ∧ wr.cell? ⟨r_1, 2, none⟩ = some (.int .i64 tc) ∧ wr.cell? ⟨r_5, 0, none⟩ = some (.int .i64 cx) ∧ wr.cell? ⟨r_5, 1, none⟩ = some (.int .i64 cy) ∧ wr.cell? ⟨r_6, 0, none⟩ = some (.int .i64 dx) ∧ wr.cell? ⟨r_6, 1, none⟩ = some (.int .i64 dy) ∧ wr.cell? ⟨r_6 + 1, 0, none⟩ = some (.int .i64 ka) ∧ wr.cell? ⟨r_6 + 1, 1, none⟩ = some (.int .i64 kb) ∧ wr.cell? ⟨r_6 + 1, 2, none⟩ = some (.int .i64 kc) ∧ wr.cell? ⟨r_7, 0, none⟩ = some (.int .i64 fx) ∧ wr.cell? ⟨r_7, 1, none⟩ = some (.int .i64 fy) ∧ wr.cell? ⟨r_8, 0, none⟩ = some (.int .i64 fx) ∧ wr.cell? ⟨r_8, 1, none⟩ = some (.int .i64 fy) ∧ Own wr w.heap.size 25 3 g1 LL.length c1 (Pl.flat3 LL)))
                                                        case first =>
                                                          rcases hc1 with hl | hl
                                                          · have hh : ¬ 0 < hue := fun h => by have := hc2 h; omega
                                                            clear hc2
                                                            go_wp2_with fail
                                                            go_meet
                                                            case rel => exact ⟨by rw [hl], rfl, hid ⟨hB, db000, db001, db002, db010, db011, db100, db101, db102, db500, db501, db600, db601, db610, db611, db612, db700, db701, db800, db801, h_O1⟩⟩
                                                          · clear hc2
                                                            by_cases hh : 0 < hue
                                                            · go_wp2_with fail
                                                              go_meet
                                                              case rel => exact ⟨by rw [hl], rfl, hid ⟨hB, db000, db001, db002, db010, db011, db100, db101, db102, db500, db501, db600, db601, db610, db611, db612, db700, db701, db800, db801, h_O1⟩⟩
                                                            · go_wp2_with fail
                                                              go_meet
                                                              case rel => exact ⟨by rw [hl], rfl, hid ⟨hB, db000, db001, db002, db010, db011, db100, db101, db102, db500, db501, db600, db601, db610, db611, db612, db700, db701, db800, db801, h_O1⟩⟩
                                                        case rest =>
                                                          clear hB db000 db001 db002 db010 db011 db100 db101 db102 db500 db501 db600 db601 db610 db611 db612 db700 db701 db800 db801 h_O1
                                                          obtain ⟨rfl, rfl, hq⟩ := hcut
                                                          obtain ⟨hB, db000, db001, db002, db010, db011, db100, db101, db102, db500, db501, db600, db601, db610, db611, db612, db700, db701, db800, db801, h_O1⟩ := hq.out
                                                          try clear hq
                                                          try clear hcut
                                                          as_aux_lemma =>
                                                            have hll : LL.length ≤ 2 := by have := hc3.out; omega
                                                            clear hc1 hc2 hc3
                                                            go_wp2_with fail
                                                            go_loopw [47] (fun i wr => ∃ j : Nat, j ≤ LL.length ∧ i = .int .i64 j ∧ Below wc.heap.size wc wr) (fun i _ => LL.length - (intOf i).toNat)
                                                            case atStart => exact ⟨0, Nat.zero_le _, rfl, Below.refl _ _⟩
                                                            case round =>
                                                              obtain ⟨j, hj, rfl, hb⟩ := hrel
                                                              replace h_O1 := h_O1.keep hb
                                                              replace db000 := keepC hb db000
                                                              replace db001 := keepC hb db001
                                                              replace db002 := keepC hb db002
                                                              replace db010 := keepC hb db010
                                                              replace db011 := keepC hb db011
                                                              replace db100 := keepC hb db100
                                                              replace db101 := keepC hb db101
                                                              replace db102 := keepC hb db102
                                                              replace db500 := keepC hb db500
                                                              replace db501 := keepC hb db501
                                                              replace db600 := keepC hb db600
                                                              replace db601 := keepC hb db601
                                                              replace db610 := keepC hb db610
                                                              replace db611 := keepC hb db611
                                                              replace db612 := keepC hb db612
                                                              replace db700 := keepC hb db700
                                                              replace db701 := keepC hb db701
                                                              replace db800 := keepC hb db800
                                                              replace db801 := keepC hb db801
                                                              replace hB := below_of hB hb hB.size
                                                              by_cases hjl : j < LL.length
                                                              · obtain ⟨e0, e1, e2⟩ := h_O1.cell3 hjl
                                                                obtain ⟨hn1, hn2, hn3⟩ := hmem.out j hjl
                                                                replace hn1 := hid hn1
                                                                replace hn2 := hid hn2
                                                                clear hmem
                                                                generalize (LL.getD j (0, 0, 0)).1 = ea at *
                                                                generalize (LL.getD j (0, 0, 0)).2.1 = eb at *
                                                                generalize (LL.getD j (0, 0, 0)).2.2 = ec at *
                                                                obtain ⟨⟨ea1, ea2⟩, ⟨eb1, eb2⟩, ec1, ec2⟩ := hn3
                                                                go_wp2_with fail
                                                                refine (IsNullLine_any y hue ea eb ec _).mono ?_
                                                                rintro e w' ⟨he, hbn⟩
                                                                rw [hn1.out] at he
                                                                dsimp only at he
                                                                subst he
                                                                replace hb := below_of hb hbn hb.size
                                                                replace h_O1 := h_O1.keep hbn
                                                                replace db000 := keepC hbn db000
                                                                replace db001 := keepC hbn db001
                                                                replace db002 := keepC hbn db002
                                                                replace db010 := keepC hbn db010
                                                                replace db011 := keepC hbn db011
                                                                replace db100 := keepC hbn db100
                                                                replace db101 := keepC hbn db101
                                                                replace db102 := keepC hbn db102
                                                                replace db500 := keepC hbn db500
                                                                replace db501 := keepC hbn db501
                                                                replace db600 := keepC hbn db600
                                                                replace db601 := keepC hbn db601
                                                                replace db610 := keepC hbn db610
                                                                replace db611 := keepC hbn db611
                                                                replace db612 := keepC hbn db612
                                                                replace db700 := keepC hbn db700
                                                                replace db701 := keepC hbn db701
                                                                replace db800 := keepC hbn db800
                                                                replace db801 := keepC hbn db801
                                                                replace e0 := keepC hbn e0
                                                                replace e1 := keepC hbn e1
                                                                replace e2 := keepC hbn e2
                                                                replace hB := below_of hB hbn hB.size
                                                                clear hbn
                                                                go_wp2_with fail
                                                                refine Reg.wp_region_grow (by kernel_rfl) 12 12 (fun _ => (#[.int .i64 0, .int .i64 0], 0)) (by kernel_rfl) ?_ ?_
                                                                · intro k o h1 h2
                                                                  omega
                                                                simp only [List.take_succ_cons, List.take_zero, List.drop_succ_cons, List.drop_zero]
                                                                refine Reg.wpG_step (v := ?vr1x0) (fun wq hq => ?gr1x0) ?kr1x0
                                                                case gr1x0 => (have q0 := keepC hq db500; have q1 := keepC hq db501; have q2 := keepC hq e0; have q3 := keepC hq e1; have q4 := keepC hq e2; refine Reg.gAt_val ?_; go_simp; first | done | (with_reducible rfl) | rfl)
                                                                try simp only [Act.put, List.setIfInBounds_toArray, List.set_cons_zero, List.set_cons_succ]
                                                                refine Reg.wpG_step (v := ?vr1x1) (fun wq hq => ?gr1x1) ?kr1x1
                                                                case gr1x1 => (have q0 := keepC hq db500; have q1 := keepC hq db501; have q2 := keepC hq e0; have q3 := keepC hq e1; have q4 := keepC hq e2; refine Reg.gAt_val ?_; go_simp; first | done | (with_reducible rfl) | rfl)
                                                                try simp only [Act.put, List.setIfInBounds_toArray, List.set_cons_zero, List.set_cons_succ]
                                                                refine Reg.wpG_step (v := ?vr1x2) (fun wq hq => ?gr1x2) ?kr1x2
                                                                case gr1x2 => (have q0 := keepC hq db500; have q1 := keepC hq db501; have q2 := keepC hq e0; have q3 := keepC hq e1; have q4 := keepC hq e2; refine Reg.gAt_val ?_; go_simp; first | done | (with_reducible rfl) | rfl)
                                                                try simp only [Act.put, List.setIfInBounds_toArray, List.set_cons_zero, List.set_cons_succ]
                                                                refine Reg.wpG_step (v := ?vr1x3) (fun wq hq => ?gr1x3) ?kr1x3
                                                                case gr1x3 => (have q0 := keepC hq db500; have q1 := keepC hq db501; have q2 := keepC hq e0; have q3 := keepC hq e1; have q4 := keepC hq e2; refine Reg.gAt_val ?_; go_simp; first | done | (with_reducible rfl) | rfl)
                                                                try simp only [Act.put, List.setIfInBounds_toArray, List.set_cons_zero, List.set_cons_succ]
                                                                refine Reg.wpG_step (v := ?vr1x4) (fun wq hq => ?gr1x4) ?kr1x4
                                                                case gr1x4 => (have q0 := keepC hq db500; have q1 := keepC hq db501; have q2 := keepC hq e0; have q3 := keepC hq e1; have q4 := keepC hq e2; refine Reg.gAt_val ?_; go_simp; first | done | (with_reducible rfl) | rfl)
                                                                try simp only [Act.put, List.setIfInBounds_toArray, List.set_cons_zero, List.set_cons_succ]
                                                                refine Reg.wpG_step (v := ?vr1x5) (fun wq hq => ?gr1x5) ?kr1x5
                                                                case gr1x5 => (have q0 := keepC hq db500; have q1 := keepC hq db501; have q2 := keepC hq e0; have q3 := keepC hq e1; have q4 := keepC hq e2; refine Reg.gAt_val ?_; go_simp; first | done | (with_reducible rfl) | rfl)
                                                                try simp only [Act.put, List.setIfInBounds_toArray, List.set_cons_zero, List.set_cons_succ]
                                                                refine Reg.wpG_step (v := .tuple #[.bool true, .int .i64 0]) (fun wq hq => ?gr1x6) ?kr1x6
                                                                case gr1x6 => (unfold Reg.gAt; go_simp; (try refine Reg.quiet_enter ?_); exact (IsOnLine_any y cx cy ea eb ec _).mono fun e w2 h => ⟨h.1.trans (by rw [hn2.out]), h.2⟩)
                                                                try simp only [Act.put, List.setIfInBounds_toArray, List.set_cons_zero, List.set_cons_succ]
                                                                refine Reg.wpG_step (v := ?vr1x7) (fun wq hq => ?gr1x7) ?kr1x7
                                                                case gr1x7 => (have q0 := keepC hq db500; have q1 := keepC hq db501; have q2 := keepC hq e0; have q3 := keepC hq e1; have q4 := keepC hq e2; refine Reg.gAt_val ?_; go_simp; first | done | (with_reducible rfl) | rfl)
                                                                try simp only [Act.put, List.setIfInBounds_toArray, List.set_cons_zero, List.set_cons_succ]
                                                                refine Reg.wpG_step (v := ?vr1x8) (fun wq hq => ?gr1x8) ?kr1x8
                                                                case gr1x8 => (have q0 := keepC hq db500; have q1 := keepC hq db501; have q2 := keepC hq e0; have q3 := keepC hq e1; have q4 := keepC hq e2; refine Reg.gAt_val ?_; go_simp; first | done | (with_reducible rfl) | rfl)
                                                                try simp only [Act.put, List.setIfInBounds_toArray, List.set_cons_zero, List.set_cons_succ]
                                                                refine Reg.wpG_step (v := ?vr1x9) (fun wq hq => ?gr1x9) ?kr1x9
                                                                case gr1x9 => (have q0 := keepC hq db500; have q1 := keepC hq db501; have q2 := keepC hq e0; have q3 := keepC hq e1; have q4 := keepC hq e2; refine Reg.gAt_val ?_; go_simp; first | done | (with_reducible rfl) | rfl)
                                                                try simp only [Act.put, List.setIfInBounds_toArray, List.set_cons_zero, List.set_cons_succ]
                                                                refine Reg.wpG_step (v := ?vr1x10) (fun wq hq => ?gr1x10) ?kr1x10
                                                                case gr1x10 => (have q0 := keepC hq db500; have q1 := keepC hq db501; have q2 := keepC hq e0; have q3 := keepC hq e1; have q4 := keepC hq e2; refine Reg.gAt_val ?_; go_simp; first | done | (with_reducible rfl) | rfl)
                                                                try simp only [Act.put, List.setIfInBounds_toArray, List.set_cons_zero, List.set_cons_succ]
                                                                refine Reg.wpG_step (v := ?vr1x11) (fun wq hq => ?gr1x11) ?kr1x11
                                                                case gr1x11 => (have q0 := keepC hq db500; have q1 := keepC hq db501; have q2 := keepC hq e0; have q3 := keepC hq e1; have q4 := keepC hq e2; refine Reg.gAt_val ?_; go_simp; first | done | (with_reducible rfl) | rfl)
                                                                try simp only [Act.put, List.setIfInBounds_toArray, List.set_cons_zero, List.set_cons_succ]
                                                                intro w2 g hB2 hg hd
                                                                clear hg hd
                                                                change wpList _ _ _ _ (Reg.putPtrs _ g [] _) _
                                                                simp only [Reg.putPtrs]
                                                                replace db500 := keepC hB2 db500
                                                                replace db501 := keepC hB2 db501
                                                                replace e0 := keepC hB2 e0
                                                                replace e1 := keepC hB2 e1
                                                                replace e2 := keepC hB2 e2
                                                                replace hb := below_of hb hB2 hb.size
                                                                replace hB := below_of hB hB2 hB.size
                                                                clear hB2 
                                                                go_wp2_with fail
                                                                go_roundw
                                                                case rel => exact ⟨j + 1, by omega, by go_num, hb⟩
                                                                case measure => simp [intOf]; omega
                                                              · go_wp2_with fail
                                                                go_meet
                                                                case rel => exact ⟨rfl, hid ⟨hB, db000, db001, db002, db010, db011, db100, db101, db102, db500, db501, .inl ⟨hz.out, g1, c1, rfl, h_O1⟩, db600, db601, db610, db611, db612, db700, db701, db800, db801⟩⟩
                                                      · have hzb : (yq == 0) = false := by simpa using hz
                                                        go_wp2_with fail
                                                        go_meet
                                                        case rel => exact ⟨rfl, hid ⟨hB, db000, db001, db002, db010, db011, db100, db101, db102, db500, db501, h_S1, db600, db601, db610, db611, db612, db700, db701, db800, db801⟩⟩
                                                    case rest =>
                                                      clear hB db000 db001 db002 db010 db011 db100 db101 db102 db500 db501 h_S1 db600 db601 db610 db611 db612 db700 db701 db800 db801
                                                      obtain ⟨rfl, hq⟩ := hcut
                                                      obtain ⟨hB, db000, db001, db002, db010, db011, db100, db101, db102, db500, db501, h_S1, db600, db601, db610, db611, db612, db700, db701, db800, db801⟩ := hq.out
                                                      try clear hq
                                                      try clear hcut
                                                      as_aux_lemma =>
                                                        by_cases ht : tq = 0
                                                        · subst ht
                                                          obtain ⟨hA1, hA2⟩ := ht3.out rfl
                                                          replace hA1 := hid hA1
                                                          replace hA2 := hid hA2
                                                          clear ht3 ht2
                                                          go_wp2_with fail
                                                          refine (ArePerpendicular_any p k la lb lc ta tb tc _).mono ?_
                                                          rintro e w' ⟨he, hbn⟩
                                                          rw [hA1.out] at he
                                                          dsimp only at he
                                                          subst he
                                                          replace h_S1 := h_S1.keep hbn
                                                          replace db000 := keepC hbn db000
                                                          replace db001 := keepC hbn db001
                                                          replace db002 := keepC hbn db002
                                                          replace db010 := keepC hbn db010
                                                          replace db011 := keepC hbn db011
                                                          replace db100 := keepC hbn db100
                                                          replace db101 := keepC hbn db101
                                                          replace db102 := keepC hbn db102
                                                          replace db500 := keepC hbn db500
                                                          replace db501 := keepC hbn db501
                                                          replace db600 := keepC hbn db600
                                                          replace db601 := keepC hbn db601
                                                          replace db610 := keepC hbn db610
                                                          replace db611 := keepC hbn db611
                                                          replace db612 := keepC hbn db612
                                                          replace db700 := keepC hbn db700
                                                          replace db701 := keepC hbn db701
                                                          replace db800 := keepC hbn db800
                                                          replace db801 := keepC hbn db801
                                                          replace hB := below_of hB hbn hB.size
                                                          clear hbn
                                                          as_aux_lemma =>
                                                            go_wp2_with fail
                                                            refine (IsOnLine_any p ax ay ta tb tc _).mono ?_
                                                            rintro e w' ⟨he, hbn⟩
                                                            rw [hA2.out] at he
                                                            dsimp only at he
                                                            subst he
                                                            replace h_S1 := h_S1.keep hbn
                                                            replace db000 := keepC hbn db000
                                                            replace db001 := keepC hbn db001
                                                            replace db002 := keepC hbn db002
                                                            replace db010 := keepC hbn db010
                                                            replace db011 := keepC hbn db011
                                                            replace db100 := keepC hbn db100
                                                            replace db101 := keepC hbn db101
                                                            replace db102 := keepC hbn db102
                                                            replace db500 := keepC hbn db500
                                                            replace db501 := keepC hbn db501
                                                            replace db600 := keepC hbn db600
                                                            replace db601 := keepC hbn db601
                                                            replace db610 := keepC hbn db610
                                                            replace db611 := keepC hbn db611
                                                            replace db612 := keepC hbn db612
                                                            replace db700 := keepC hbn db700
                                                            replace db701 := keepC hbn db701
                                                            replace db800 := keepC hbn db800
                                                            replace db801 := keepC hbn db801
                                                            replace hB := below_of hB hbn hB.size
                                                            clear hbn
                                                            as_aux_lemma =>
                                                              go_wp2_with fail
                                                              go_ret
                                                              exact ⟨rfl, hB⟩
                                                        · have htb : (tq == 0) = false := by simpa using ht
                                                          obtain ⟨rfl, rfl, rfl⟩ := ht2.out.resolve_left ht
                                                          go_wp2_with fail
                                                          go_ret
                                                          exact ⟨rfl, hB⟩
end Go.Proofs.Ytbjcbbnfgfmllaa.fnPerpendiculars
