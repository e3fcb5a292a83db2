/- FnFields: the walk. -/
import Derived.Test.YtbjcbbnfgfmllaaGreatDoorDr13
import Derived.Test.YtbjcbbnfgfmllaaGreatDoorDk
import Derived.Test.YtbjcbbnfgfmllaaGreatDoorC
import Derived.Test.YtbjcbbnfgfmllaaGreatDoorM
import Derived.Test.YtbjcbbnfgfmllaaGreatDoorL
import Derived.Test.YtbjcbbnfgfmllaaGreatDoorG
import Derived.Test.YtbjcbbnfgfmllaaGreatDoorJ
import Derived.Test.YtbjcbbnfgfmllaaGreatDoorTe
import Derived.Test.YtbjcbbnfgfmllaaGreatDoorTc
import Derived.Test.YtbjcbbnfgfmllaaGreatDoorPl21
import Derived.Test.YtbjcbbnfgfmllaaGreatDoorBig
import Derived.Test.YtbjcbbnfgfmllaaGreatDoorAgg2
import Derived.Test.YtbjcbbnfgfmllaaGreatDoorFf
set_option linter.unusedVariables false
set_option linter.unusedSimpArgs false
set_option maxHeartbeats 16000000
set_option maxRecDepth 100000
namespace Go.Proofs.YtbjcbbnfgfmllaaGreatDoor.fnFields
open Go.RowKit
theorem walk (v : Value) (w : World) (hv : CodeArg w v) : Calls Tryz.prog 3 #[v] w fun e w' => e = .returned (.bool true) ∧ Below w.heap.size w w' := by
  obtain ⟨o, n, c, rfl, h0, hc⟩ := hv
  by_cases hn : 4096 < n
  · go_enter Tryz.func3, Tryz.ntmps3
    go_wp2_with (go_at_call 4; refine (big_yes _ _ _ _ hn).mono ?_; rintro e w' ⟨rfl, rfl⟩)
    go_ret
    exact ⟨rfl, Below.refl _ _⟩
  have hby : Bytes w w.heap.size (.slice o n c) := ⟨o, n, c, rfl, by omega, h0, hc⟩
  clear h0 hc
  go_enter Tryz.func3, Tryz.ntmps3
  go_wp2_with (go_at_call 4; refine (big_no _ _ _ _ (by omega)).mono ?_; rintro e w' ⟨rfl, rfl⟩)
  have hB := Below.refl w.heap.size w
  clear hn
  refine (drawRootOf_any _ _ ((hby.below hB).raise hB.size)).mono ?_
  rintro e w' ⟨⟨p, a, rfl⟩, hbn⟩
  replace hB := below_of hB hbn hB.size
  clear hbn
  as_aux_lemma =>
    go_wp2_with fail
    as_aux_lemma =>
      as_aux_lemma =>
        obtain ⟨r1, c1, i1, c2, k1, c3, hR, hI, hK, hF⟩ := Pl.fields_ex p a
        replace hR := hid hR
        replace hI := hid hI
        replace hK := hid hK
        replace hF := hid hF
        refine (RootOf_any p a _).mono ?_
        rintro e w' ⟨he, hbn⟩
        rw [hR.out] at he
        dsimp only at he
        subst he
        replace hB := below_of hB hbn hB.size
        clear hbn
        as_aux_lemma =>
          go_wp2_with fail
          refine (sRootOf_any p a _).mono ?_
          rintro e w' ⟨he, hbn⟩
          rw [hR.out] at he
          dsimp only at he
          subst he
          replace hB := below_of hB hbn hB.size
          clear hbn
          as_aux_lemma =>
            go_wp2_with fail
            refine (InverseOf_any p a _).mono ?_
            rintro e w' ⟨he, hbn⟩
            rw [hI.out] at he
            dsimp only at he
            subst he
            replace hB := below_of hB hbn hB.size
            clear hbn
            as_aux_lemma =>
              go_wp2_with fail
              refine (sInverseOf_any p a _).mono ?_
              rintro e w' ⟨he, hbn⟩
              rw [hI.out] at he
              dsimp only at he
              subst he
              replace hB := below_of hB hbn hB.size
              clear hbn
              as_aux_lemma =>
                go_wp2_with fail
                refine (SquareKind_any p a _).mono ?_
                rintro e w' ⟨he, hbn⟩
                rw [hK.out] at he
                dsimp only at he
                subst he
                replace hB := below_of hB hbn hB.size
                clear hbn
                as_aux_lemma =>
                  go_wp2_with fail
                  refine (sSquareKind_any p a _).mono ?_
                  rintro e w' ⟨he, hbn⟩
                  rw [hK.out] at he
                  dsimp only at he
                  subst he
                  replace hB := below_of hB hbn hB.size
                  clear hbn
                  clear hR hI hK
                  as_aux_lemma =>
                    go_upto_region 12 with (first | (go_at_call 12; refine (isField_any _ _).mono ?_; rintro e w' ⟨rfl, rfl⟩) | (go_at_call 13; refine (sIsField_any _ _).mono ?_; rintro e w' ⟨rfl, rfl⟩))
                    go_cut [182] from 9999 to 9999 (fun s182 wr => s182 = .bool false ∧ Hid (Below w.heap.size w wr))
                    case first =>
                      rcases hF.out with ⟨f1, f2, f3⟩ | ⟨⟨p1, p2, a1, a2⟩, ⟨f1, f2, f3, ⟨r1a, r1b, rr⟩, ⟨ia, ib, ii⟩, ka⟩ | ⟨f1, f2, f3, ⟨ia, ib, ii⟩, ka⟩ | ⟨f1, f2, f3, ⟨r1a, r1b, rr⟩, ka⟩⟩
                      · clear hF
                        go_wp2_with fail
                        go_meet
                        case rel => exact ⟨rfl, hid hB⟩
                      · clear hF
                        have m1 := Pl.mulB (show 0 ≤ r1 by omega) (show r1 ≤ 31 by omega) (show 0 ≤ r1 by omega) (show r1 ≤ 31 by omega)
                        obtain ⟨m1a, m1b⟩ := m1
                        have m2 := Pl.mulB (show 0 ≤ i1 by omega) (show i1 ≤ 31 by omega) (show 0 ≤ a by omega) (show a ≤ 31 by omega)
                        obtain ⟨m2a, m2b⟩ := m2
                        have kb : decide (0 ≤ k1) = true := by simp; omega
                        go_wp2_with fail
                        go_meet
                        case rel => exact ⟨rfl, hid hB⟩
                      · clear hF
                        have m2 := Pl.mulB (show 0 ≤ i1 by omega) (show i1 ≤ 31 by omega) (show 0 ≤ a by omega) (show a ≤ 31 by omega)
                        obtain ⟨m2a, m2b⟩ := m2
                        have kb : decide (0 ≤ k1) = false := by simp; omega
                        go_wp2_with fail
                        go_meet
                        case rel => exact ⟨rfl, hid hB⟩
                      · clear hF
                        have m1 := Pl.mulB (show 0 ≤ r1 by omega) (show r1 ≤ 31 by omega) (show 0 ≤ r1 by omega) (show r1 ≤ 31 by omega)
                        obtain ⟨m1a, m1b⟩ := m1
                        have kb : decide (0 ≤ k1) = true := by simp; omega
                        go_wp2_with fail
                        go_meet
                        case rel => exact ⟨rfl, hid hB⟩
                    case rest =>
                      clear hB
                      obtain ⟨rfl, hq⟩ := hcut
                      have hB := hq.out
                      try clear hq
                      try clear hcut
                      as_aux_lemma =>
                        clear hF
                        go_wp2_with fail
                        refine (drawRatioOf_any _ _ ((hby.below hB).raise hB.size)).mono ?_
                        rintro e w' ⟨⟨q, ax, ay, bx, by_, cx, cy, rfl⟩, hbn⟩
                        replace hB := below_of hB hbn hB.size
                        clear hbn
                        as_aux_lemma =>
                          go_upto_region 15 with fail
                          as_aux_lemma =>
                            generalize hW : (World.alloc (World.alloc (World.alloc w' (.cells #[.int .i64 ax, .int .i64 ay] 29)) (.cells #[.int .i64 bx, .int .i64 by_] 29)) (.cells #[.int .i64 cx, .int .i64 cy] 29)) = W3
                            have db000 : W3.cell? ⟨w'.heap.size, 0, none⟩ = some (.int .i64 ax) := by subst hW; go_simp
                            have db001 : W3.cell? ⟨w'.heap.size, 1, none⟩ = some (.int .i64 ay) := by subst hW; go_simp
                            have db010 : W3.cell? ⟨w'.heap.size + 1, 0, none⟩ = some (.int .i64 bx) := by subst hW; go_simp
                            have db011 : W3.cell? ⟨w'.heap.size + 1, 1, none⟩ = some (.int .i64 by_) := by subst hW; go_simp
                            have db020 : W3.cell? ⟨w'.heap.size + 1 + 1, 0, none⟩ = some (.int .i64 cx) := by subst hW; go_simp
                            have db021 : W3.cell? ⟨w'.heap.size + 1 + 1, 1, none⟩ = some (.int .i64 cy) := by subst hW; go_simp
                            have hbn : Below w'.heap.size w' W3 := by subst hW; go_grown
                            have hle0 := hB.size
                            replace hB := below_of hB hbn hB.size
                            clear hW hbn
                            generalize w'.heap.size = r_0 at *
                            clear w'
                            as_aux_lemma =>
                              go_wp2_with fail
                              obtain ⟨t, tq, hT, hL⟩ := Pl.ratio_ex q ax ay bx by_ cx cy
                              replace hT := hid hT
                              replace hL := hid hL
                              refine (RatioOf_any q ax ay bx by_ cx cy _).mono ?_
                              rintro e w' ⟨he, hbn⟩
                              rw [hT.out] at he
                              dsimp only at he
                              subst he
                              replace db000 := keepC hbn db000
                              replace db001 := keepC hbn db001
                              replace db010 := keepC hbn db010
                              replace db011 := keepC hbn db011
                              replace db020 := keepC hbn db020
                              replace db021 := keepC hbn db021
                              replace hB := below_of hB hbn hB.size
                              clear hbn
                              as_aux_lemma =>
                                go_wp2_with fail
                                refine (sRatioOf_any q ax ay bx by_ cx cy _).mono ?_
                                rintro e w' ⟨he, hbn⟩
                                rw [hT.out] at he
                                dsimp only at he
                                subst he
                                replace db000 := keepC hbn db000
                                replace db001 := keepC hbn db001
                                replace db010 := keepC hbn db010
                                replace db011 := keepC hbn db011
                                replace db020 := keepC hbn db020
                                replace db021 := keepC hbn db021
                                replace hB := below_of hB hbn hB.size
                                clear hbn
                                clear hT
                                as_aux_lemma =>
                                  go_upto_if 215 with fail
                                  go_cut [215] from 9999 to 9999 (fun s215 wr => Hid (Below w.heap.size w wr ∧ wr.cell? ⟨r_0, 0, none⟩ = some (.int .i64 ax) ∧ wr.cell? ⟨r_0, 1, none⟩ = some (.int .i64 ay) ∧ wr.cell? ⟨r_0 + 1, 0, none⟩ = some (.int .i64 bx) ∧ wr.cell? ⟨r_0 + 1, 1, none⟩ = some (.int .i64 by_) ∧ wr.cell? ⟨r_0 + 1 + 1, 0, none⟩ = some (.int .i64 cx) ∧ wr.cell? ⟨r_0 + 1 + 1, 1, none⟩ = some (.int .i64 cy)))
                                  case first =>
                                    by_cases hz : tq = 0
                                    · obtain ⟨mx, my, hh, hC, hA1, hA2, hM, hH, ⟨h0, h31⟩, h2, ⟨q3, q31⟩, ⟨⟨cx1, cx2⟩, cy1, cy2⟩⟩ := hL.out hz
                                      have hzb : (tq == 0) = true := by simpa using hz
                                      clear hz hL
                                      replace hC := hid hC
                                      replace hA1 := hid hA1
                                      replace hA2 := hid hA2
                                      replace hM := hid hM
                                      replace hH := hid hH
                                      have hE1 : ∀ w', (Op.equalIn 10000 29 (.agg #[.int .i64 cx, .int .i64 cy]) (.agg #[.int .i64 cx, .int .i64 cy])).run Tryz.prog w' = .ok true w' := fun w' => eqPt_same w' cx1 cx2 cy1 cy2
                                      go_wp2_with fail
                                      refine (CombinationOf_any q ax ay bx by_ t _).mono ?_
                                      rintro e w' ⟨he, hbn⟩
                                      rw [hC.out] at he
                                      dsimp only at he
                                      subst he
                                      replace db000 := keepC hbn db000
                                      replace db001 := keepC hbn db001
                                      replace db010 := keepC hbn db010
                                      replace db011 := keepC hbn db011
                                      replace db020 := keepC hbn db020
                                      replace db021 := keepC hbn db021
                                      replace hB := below_of hB hbn hB.size
                                      clear hbn
                                      go_upto_region 21 with fail
                                      generalize hW : (World.alloc w' (.cells #[.int .i64 cx, .int .i64 cy] 29)) = W4
                                      have db100 : W4.cell? ⟨w'.heap.size, 0, none⟩ = some (.int .i64 cx) := by subst hW; go_simp
                                      have db101 : W4.cell? ⟨w'.heap.size, 1, none⟩ = some (.int .i64 cy) := by subst hW; go_simp
                                      have hbn : Below w'.heap.size w' W4 := by subst hW; go_grown
                                      replace db000 := keepC hbn db000
                                      replace db001 := keepC hbn db001
                                      replace db010 := keepC hbn db010
                                      replace db011 := keepC hbn db011
                                      replace db020 := keepC hbn db020
                                      replace db021 := keepC hbn db021
                                      have hle1 := hB.size
                                      replace hB := below_of hB hbn hB.size
                                      clear hW hbn
                                      generalize w'.heap.size = r_1 at *
                                      clear w'
                                      as_aux_lemma =>
                                        go_wp2_with fail
                                        refine (AreCollinear_any q ax ay bx by_ cx cy _).mono ?_
                                        rintro e w' ⟨he, hbn⟩
                                        rw [hA1.out] at he
                                        dsimp only at he
                                        subst he
                                        replace db000 := keepC hbn db000
                                        replace db001 := keepC hbn db001
                                        replace db010 := keepC hbn db010
                                        replace db011 := keepC hbn db011
                                        replace db020 := keepC hbn db020
                                        replace db021 := keepC hbn db021
                                        replace db100 := keepC hbn db100
                                        replace db101 := keepC hbn db101
                                        replace hB := below_of hB hbn hB.size
                                        clear hbn
                                        as_aux_lemma =>
                                          go_wp2_with fail
                                          refine (DoubledArea_any q ax ay bx by_ cx cy _).mono ?_
                                          rintro e w' ⟨he, hbn⟩
                                          rw [hA2.out] at he
                                          dsimp only at he
                                          subst he
                                          replace db000 := keepC hbn db000
                                          replace db001 := keepC hbn db001
                                          replace db010 := keepC hbn db010
                                          replace db011 := keepC hbn db011
                                          replace db020 := keepC hbn db020
                                          replace db021 := keepC hbn db021
                                          replace db100 := keepC hbn db100
                                          replace db101 := keepC hbn db101
                                          replace hB := below_of hB hbn hB.size
                                          clear hbn
                                          as_aux_lemma =>
                                            go_wp2_with fail
                                            refine (MidpointOf_any q ax ay bx by_ _).mono ?_
                                            rintro e w' ⟨he, hbn⟩
                                            rw [hM.out] at he
                                            dsimp only at he
                                            subst he
                                            replace db000 := keepC hbn db000
                                            replace db001 := keepC hbn db001
                                            replace db010 := keepC hbn db010
                                            replace db011 := keepC hbn db011
                                            replace db020 := keepC hbn db020
                                            replace db021 := keepC hbn db021
                                            replace db100 := keepC hbn db100
                                            replace db101 := keepC hbn db101
                                            replace hB := below_of hB hbn hB.size
                                            clear hbn
                                            go_upto_region 24 with fail
                                            generalize hW : (World.alloc w' (.cells #[.int .i64 mx, .int .i64 my] 29)) = W5
                                            have db200 : W5.cell? ⟨w'.heap.size, 0, none⟩ = some (.int .i64 mx) := by subst hW; go_simp
                                            have db201 : W5.cell? ⟨w'.heap.size, 1, none⟩ = some (.int .i64 my) := by subst hW; go_simp
                                            have hbn : Below w'.heap.size w' W5 := by subst hW; go_grown
                                            replace db000 := keepC hbn db000
                                            replace db001 := keepC hbn db001
                                            replace db010 := keepC hbn db010
                                            replace db011 := keepC hbn db011
                                            replace db020 := keepC hbn db020
                                            replace db021 := keepC hbn db021
                                            replace db100 := keepC hbn db100
                                            replace db101 := keepC hbn db101
                                            have hle2 := hB.size
                                            replace hB := below_of hB hbn hB.size
                                            clear hW hbn
                                            generalize w'.heap.size = r_2 at *
                                            clear w'
                                            as_aux_lemma =>
                                              go_wp2_with fail
                                              refine (RatioOf_any q ax ay bx by_ mx my _).mono ?_
                                              rintro e w' ⟨he, hbn⟩
                                              rw [hH.out] at he
                                              dsimp only at he
                                              subst he
                                              replace db000 := keepC hbn db000
                                              replace db001 := keepC hbn db001
                                              replace db010 := keepC hbn db010
                                              replace db011 := keepC hbn db011
                                              replace db020 := keepC hbn db020
                                              replace db021 := keepC hbn db021
                                              replace db100 := keepC hbn db100
                                              replace db101 := keepC hbn db101
                                              replace db200 := keepC hbn db200
                                              replace db201 := keepC hbn db201
                                              replace hB := below_of hB hbn hB.size
                                              clear hbn
                                              as_aux_lemma =>
                                                go_wp2_with fail
                                                go_meet
                                                case rel => exact hid ⟨hB, db000, db001, db010, db011, db020, db021⟩
                                    · have hzb : (tq == 0) = false := by simpa using hz
                                      go_wp2_with fail
                                      go_meet
                                      case rel => exact hid ⟨hB, db000, db001, db010, db011, db020, db021⟩
                                  case rest =>
                                    clear hB db000 db001 db010 db011 db020 db021
                                    have hq := hcut
                                    obtain ⟨hB, db000, db001, db010, db011, db020, db021⟩ := hq.out
                                    try clear hq
                                    try clear hcut
                                    as_aux_lemma =>
                                      clear hL
                                      clear db000 db001 db010 db011 db020 db021
                                      go_wp2_with fail
                                      refine (drawPointText_any _ _ ((hby.below hB).raise hB.size)).mono ?_
                                      rintro e w' ⟨⟨s, dx, dy, rfl⟩, hbn⟩
                                      replace hB := below_of hB hbn hB.size
                                      clear hbn
                                      as_aux_lemma =>
                                        go_upto_region 28 with fail
                                        as_aux_lemma =>
                                          generalize hW : (World.alloc w' (.cells #[.int .i64 dx, .int .i64 dy] 29)) = W4
                                          have db100 : W4.cell? ⟨w'.heap.size, 0, none⟩ = some (.int .i64 dx) := by subst hW; go_simp
                                          have db101 : W4.cell? ⟨w'.heap.size, 1, none⟩ = some (.int .i64 dy) := by subst hW; go_simp
                                          have hbn : Below w'.heap.size w' W4 := by subst hW; go_grown
                                          have hle1 := hB.size
                                          replace hB := below_of hB hbn hB.size
                                          clear hW hbn
                                          generalize w'.heap.size = r_1 at *
                                          clear w'
                                          as_aux_lemma =>
                                            go_wp2_with fail
                                            obtain ⟨tx2, tq2, hX, hL⟩ := Pl.textPt_ex s dx dy
                                            replace hX := hid hX
                                            replace hL := hid hL
                                            refine (PointText_any s dx dy _).mono ?_
                                            rintro e w' ⟨he, hbn⟩
                                            rw [hX.out] at he
                                            dsimp only at he
                                            subst he
                                            replace db100 := keepC hbn db100
                                            replace db101 := keepC hbn db101
                                            replace hB := below_of hB hbn hB.size
                                            clear hbn
                                            as_aux_lemma =>
                                              go_wp2_with fail
                                              refine (sPointText_any s dx dy _).mono ?_
                                              rintro e w' ⟨he, hbn⟩
                                              rw [hX.out] at he
                                              dsimp only at he
                                              subst he
                                              replace db100 := keepC hbn db100
                                              replace db101 := keepC hbn db101
                                              replace hB := below_of hB hbn hB.size
                                              clear hbn
                                              clear hX
                                              as_aux_lemma =>
                                                go_upto_if 319 with fail
                                                go_cut [319] from 9999 to 9999 (fun s319 wr => Hid (Below w.heap.size w wr ∧ wr.cell? ⟨r_1, 0, none⟩ = some (.int .i64 dx) ∧ wr.cell? ⟨r_1, 1, none⟩ = some (.int .i64 dy)))
                                                case first =>
                                                  by_cases hz : tq2 = 0
                                                  · obtain ⟨hlen, hP, ⟨⟨dx1, dx2⟩, dy1, dy2⟩⟩ := hL.out hz
                                                    have hzb : (tq2 == 0) = true := by simpa using hz
                                                    clear hz hL
                                                    have hsz : (⟨tx2.toArray⟩ : ByteArray).size ≤ 100 := by simpa [ByteArray.size] using hlen
                                                    replace hP : Hid (Pl.parsePt s (⟨tx2.toArray⟩ : ByteArray).data.toList = ((dx, dy), 0)) := hid hP
                                                    have hE2 : ∀ w', (Op.equalIn 10000 29 (.agg #[.int .i64 dx, .int .i64 dy]) (.agg #[.int .i64 dx, .int .i64 dy])).run Tryz.prog w' = .ok true w' := fun w' => eqPt_same w' dx1 dx2 dy1 dy2
                                                    go_wp2_with fail
                                                    refine (ParsePoint_any s ⟨tx2.toArray⟩ _ (by omega)).mono ?_
                                                    rintro e w' ⟨he, hbn⟩
                                                    rw [hP.out] at he
                                                    dsimp only at he
                                                    subst he
                                                    replace db100 := keepC hbn db100
                                                    replace db101 := keepC hbn db101
                                                    replace hB := below_of hB hbn hB.size
                                                    clear hbn
                                                    go_upto_region 34 with fail
                                                    generalize hW : (World.alloc w' (.cells #[.int .i64 dx, .int .i64 dy] 29)) = W5
                                                    have db200 : W5.cell? ⟨w'.heap.size, 0, none⟩ = some (.int .i64 dx) := by subst hW; go_simp
                                                    have db201 : W5.cell? ⟨w'.heap.size, 1, none⟩ = some (.int .i64 dy) := by subst hW; go_simp
                                                    have hbn : Below w'.heap.size w' W5 := by subst hW; go_grown
                                                    replace db100 := keepC hbn db100
                                                    replace db101 := keepC hbn db101
                                                    have hle2 := hB.size
                                                    replace hB := below_of hB hbn hB.size
                                                    clear hW hbn
                                                    generalize w'.heap.size = r_2 at *
                                                    clear w'
                                                    as_aux_lemma =>
                                                      go_wp2_with fail
                                                      go_meet
                                                      case rel => exact hid ⟨hB, db100, db101⟩
                                                  · have hzb : (tq2 == 0) = false := by simpa using hz
                                                    go_wp2_with fail
                                                    go_meet
                                                    case rel => exact hid ⟨hB, db100, db101⟩
                                                case rest =>
                                                  clear hB db100 db101
                                                  have hq := hcut
                                                  obtain ⟨hB, db100, db101⟩ := hq.out
                                                  try clear hq
                                                  try clear hcut
                                                  as_aux_lemma =>
                                                    clear hL
                                                    clear db100 db101
                                                    go_wp2_with fail
                                                    refine (drawLineText_any _ _ ((hby.below hB).raise hB.size)).mono ?_
                                                    rintro e w' ⟨⟨u, la, lb, lc, rfl⟩, hbn⟩
                                                    replace hB := below_of hB hbn hB.size
                                                    clear hbn
                                                    as_aux_lemma =>
                                                      go_upto_region 37 with fail
                                                      as_aux_lemma =>
                                                        generalize hW : (World.alloc w' (.cells #[.int .i64 la, .int .i64 lb, .int .i64 lc] 44)) = W5
                                                        have db200 : W5.cell? ⟨w'.heap.size, 0, none⟩ = some (.int .i64 la) := by subst hW; go_simp
                                                        have db201 : W5.cell? ⟨w'.heap.size, 1, none⟩ = some (.int .i64 lb) := by subst hW; go_simp
                                                        have db202 : W5.cell? ⟨w'.heap.size, 2, none⟩ = some (.int .i64 lc) := by subst hW; go_simp
                                                        have hbn : Below w'.heap.size w' W5 := by subst hW; go_grown
                                                        have hle2 := hB.size
                                                        replace hB := below_of hB hbn hB.size
                                                        clear hW hbn
                                                        generalize w'.heap.size = r_2 at *
                                                        clear w'
                                                        as_aux_lemma =>
                                                          go_wp2_with fail
                                                          obtain ⟨tx3, tq3, hX, hL⟩ := Pl.textLn_ex u la lb lc
                                                          replace hX := hid hX
                                                          replace hL := hid hL
                                                          refine (LineText_any u la lb lc _).mono ?_
                                                          rintro e w' ⟨he, hbn⟩
                                                          rw [hX.out] at he
                                                          dsimp only at he
                                                          subst he
                                                          replace db200 := keepC hbn db200
                                                          replace db201 := keepC hbn db201
                                                          replace db202 := keepC hbn db202
                                                          replace hB := below_of hB hbn hB.size
                                                          clear hbn
                                                          as_aux_lemma =>
                                                            go_wp2_with fail
                                                            refine (sLineText_any u la lb lc _).mono ?_
                                                            rintro e w' ⟨he, hbn⟩
                                                            rw [hX.out] at he
                                                            dsimp only at he
                                                            subst he
                                                            replace db200 := keepC hbn db200
                                                            replace db201 := keepC hbn db201
                                                            replace db202 := keepC hbn db202
                                                            replace hB := below_of hB hbn hB.size
                                                            clear hbn
                                                            clear hX
                                                            as_aux_lemma =>
                                                              go_upto_if 359 with fail
                                                              go_cut [359] from 9999 to 9999 (fun s359 wr => Hid (Below w.heap.size w wr ∧ wr.cell? ⟨r_2, 0, none⟩ = some (.int .i64 la) ∧ wr.cell? ⟨r_2, 1, none⟩ = some (.int .i64 lb) ∧ wr.cell? ⟨r_2, 2, none⟩ = some (.int .i64 lc)))
                                                              case first =>
                                                                by_cases hz : tq3 = 0
                                                                · obtain ⟨hlen, hP, ⟨⟨la1, la2⟩, ⟨lb1, lb2⟩, lc1, lc2⟩⟩ := hL.out hz
                                                                  have hzb : (tq3 == 0) = true := by simpa using hz
                                                                  clear hz hL
                                                                  have hsz : (⟨tx3.toArray⟩ : ByteArray).size ≤ 100 := by simpa [ByteArray.size] using hlen
                                                                  replace hP : Hid (Pl.parseLn u (⟨tx3.toArray⟩ : ByteArray).data.toList = ((la, lb, lc), 0)) := hid hP
                                                                  have hE3 : ∀ w', (Op.equalIn 10000 44 (.agg #[.int .i64 la, .int .i64 lb, .int .i64 lc]) (.agg #[.int .i64 la, .int .i64 lb, .int .i64 lc])).run Tryz.prog w' = .ok true w' := fun w' => eqLn_same w' la1 la2 lb1 lb2 lc1 lc2
                                                                  go_wp2_with fail
                                                                  refine (ParseLine_any u ⟨tx3.toArray⟩ _ (by omega)).mono ?_
                                                                  rintro e w' ⟨he, hbn⟩
                                                                  rw [hP.out] at he
                                                                  dsimp only at he
                                                                  subst he
                                                                  replace db200 := keepC hbn db200
                                                                  replace db201 := keepC hbn db201
                                                                  replace db202 := keepC hbn db202
                                                                  replace hB := below_of hB hbn hB.size
                                                                  clear hbn
                                                                  go_upto_region 43 with fail
                                                                  generalize hW : (World.alloc w' (.cells #[.int .i64 la, .int .i64 lb, .int .i64 lc] 44)) = W6
                                                                  have db300 : W6.cell? ⟨w'.heap.size, 0, none⟩ = some (.int .i64 la) := by subst hW; go_simp
                                                                  have db301 : W6.cell? ⟨w'.heap.size, 1, none⟩ = some (.int .i64 lb) := by subst hW; go_simp
                                                                  have db302 : W6.cell? ⟨w'.heap.size, 2, none⟩ = some (.int .i64 lc) := by subst hW; go_simp
                                                                  have hbn : Below w'.heap.size w' W6 := by subst hW; go_grown
                                                                  replace db200 := keepC hbn db200
                                                                  replace db201 := keepC hbn db201
                                                                  replace db202 := keepC hbn db202
                                                                  have hle3 := hB.size
                                                                  replace hB := below_of hB hbn hB.size
                                                                  clear hW hbn
                                                                  generalize w'.heap.size = r_3 at *
                                                                  clear w'
                                                                  as_aux_lemma =>
                                                                    go_wp2_with fail
                                                                    go_meet
                                                                    case rel => exact hid ⟨hB, db200, db201, db202⟩
                                                                · have hzb : (tq3 == 0) = false := by simpa using hz
                                                                  go_wp2_with fail
                                                                  go_meet
                                                                  case rel => exact hid ⟨hB, db200, db201, db202⟩
                                                              case rest =>
                                                                clear hB db200 db201 db202
                                                                have hq := hcut
                                                                obtain ⟨hB, db200, db201, db202⟩ := hq.out
                                                                try clear hq
                                                                try clear hcut
                                                                as_aux_lemma =>
                                                                  clear hL
                                                                  clear db200 db201 db202
                                                                  go_wp2_with fail
                                                                  refine (drawParsePoint_any _ _ ((hby.below hB).raise hB.size)).mono ?_
                                                                  rintro e w' ⟨⟨v5, s5, rfl, hz5⟩, hbn⟩
                                                                  replace hB := below_of hB hbn hB.size
                                                                  clear hbn
                                                                  as_aux_lemma =>
                                                                    go_wp2_with fail
                                                                    as_aux_lemma =>
                                                                      obtain ⟨xa5, xb5, pq5, hX, ⟨⟨xa51, xa52⟩, xb51, xb52⟩⟩ := Pl.parsePt_ex v5 s5.data.toList
                                                                      replace hX := hid hX
                                                                      have hE5 : ∀ w', (Op.equalIn 10000 29 (.agg #[.int .i64 xa5, .int .i64 xb5]) (.agg #[.int .i64 xa5, .int .i64 xb5])).run Tryz.prog w' = .ok true w' := fun w' => eqPt_same w' xa51 xa52 xb51 xb52
                                                                      clear xa51 xa52 xb51 xb52
                                                                      refine (ParsePoint_any v5 s5 _ (by omega)).mono ?_
                                                                      rintro e w' ⟨he, hbn⟩
                                                                      rw [hX.out] at he
                                                                      dsimp only at he
                                                                      subst he
                                                                      replace hB := below_of hB hbn hB.size
                                                                      clear hbn
                                                                      go_upto_region 47 with fail
                                                                      generalize hW : (World.alloc w' (.cells #[.int .i64 xa5, .int .i64 xb5] 29)) = W6
                                                                      have db300 : W6.cell? ⟨w'.heap.size, 0, none⟩ = some (.int .i64 xa5) := by subst hW; go_simp
                                                                      have db301 : W6.cell? ⟨w'.heap.size, 1, none⟩ = some (.int .i64 xb5) := by subst hW; go_simp
                                                                      have hbn : Below w'.heap.size w' W6 := by subst hW; go_grown
                                                                      have hle3 := hB.size
                                                                      replace hB := below_of hB hbn hB.size
                                                                      clear hW hbn
                                                                      generalize w'.heap.size = r_3 at *
                                                                      clear w'
                                                                      as_aux_lemma =>
                                                                        go_wp2_with fail
                                                                        refine (sParsePoint_any v5 s5 _ (by omega)).mono ?_
                                                                        rintro e w' ⟨he, hbn⟩
                                                                        rw [hX.out] at he
                                                                        dsimp only at he
                                                                        subst he
                                                                        replace db300 := keepC hbn db300
                                                                        replace db301 := keepC hbn db301
                                                                        replace hB := below_of hB hbn hB.size
                                                                        clear hbn
                                                                        clear hX
                                                                        go_upto_region 48 with fail
                                                                        generalize hW : (World.alloc w' (.cells #[.int .i64 xa5, .int .i64 xb5] 29)) = W7
                                                                        have db400 : W7.cell? ⟨w'.heap.size, 0, none⟩ = some (.int .i64 xa5) := by subst hW; go_simp
                                                                        have db401 : W7.cell? ⟨w'.heap.size, 1, none⟩ = some (.int .i64 xb5) := by subst hW; go_simp
                                                                        have hbn : Below w'.heap.size w' W7 := by subst hW; go_grown
                                                                        replace db300 := keepC hbn db300
                                                                        replace db301 := keepC hbn db301
                                                                        have hle4 := hB.size
                                                                        replace hB := below_of hB hbn hB.size
                                                                        clear hW hbn
                                                                        generalize w'.heap.size = r_4 at *
                                                                        clear w'
                                                                        as_aux_lemma =>
                                                                          go_wp2_with fail
                                                                          refine (drawParseLine_any _ _ ((hby.below hB).raise hB.size)).mono ?_
                                                                          rintro e w' ⟨⟨v6, s6, rfl, hz6⟩, hbn⟩
                                                                          replace db300 := keepC hbn db300
                                                                          replace db301 := keepC hbn db301
                                                                          replace db400 := keepC hbn db400
                                                                          replace db401 := keepC hbn db401
                                                                          replace hB := below_of hB hbn hB.size
                                                                          clear hbn
                                                                          as_aux_lemma =>
                                                                            go_wp2_with fail
                                                                            as_aux_lemma =>
                                                                              obtain ⟨xa6, xb6, xc6, pq6, hX, ⟨⟨xa61, xa62⟩, ⟨xb61, xb62⟩, xc61, xc62⟩⟩ := Pl.parseLn_ex v6 s6.data.toList
                                                                              replace hX := hid hX
                                                                              have hE6 : ∀ w', (Op.equalIn 10000 44 (.agg #[.int .i64 xa6, .int .i64 xb6, .int .i64 xc6]) (.agg #[.int .i64 xa6, .int .i64 xb6, .int .i64 xc6])).run Tryz.prog w' = .ok true w' := fun w' => eqLn_same w' xa61 xa62 xb61 xb62 xc61 xc62
                                                                              clear xa61 xa62 xb61 xb62 xc61 xc62
                                                                              refine (ParseLine_any v6 s6 _ (by omega)).mono ?_
                                                                              rintro e w' ⟨he, hbn⟩
                                                                              rw [hX.out] at he
                                                                              dsimp only at he
                                                                              subst he
                                                                              replace db300 := keepC hbn db300
                                                                              replace db301 := keepC hbn db301
                                                                              replace db400 := keepC hbn db400
                                                                              replace db401 := keepC hbn db401
                                                                              replace hB := below_of hB hbn hB.size
                                                                              clear hbn
                                                                              go_upto_region 50 with fail
                                                                              generalize hW : (World.alloc w' (.cells #[.int .i64 xa6, .int .i64 xb6, .int .i64 xc6] 44)) = W8
                                                                              have db500 : W8.cell? ⟨w'.heap.size, 0, none⟩ = some (.int .i64 xa6) := by subst hW; go_simp
                                                                              have db501 : W8.cell? ⟨w'.heap.size, 1, none⟩ = some (.int .i64 xb6) := by subst hW; go_simp
                                                                              have db502 : W8.cell? ⟨w'.heap.size, 2, none⟩ = some (.int .i64 xc6) := by subst hW; go_simp
                                                                              have hbn : Below w'.heap.size w' W8 := by subst hW; go_grown
                                                                              replace db300 := keepC hbn db300
                                                                              replace db301 := keepC hbn db301
                                                                              replace db400 := keepC hbn db400
                                                                              replace db401 := keepC hbn db401
                                                                              have hle5 := hB.size
                                                                              replace hB := below_of hB hbn hB.size
                                                                              clear hW hbn
                                                                              generalize w'.heap.size = r_5 at *
                                                                              clear w'
                                                                              as_aux_lemma =>
                                                                                go_wp2_with fail
                                                                                refine (sParseLine_any v6 s6 _ (by omega)).mono ?_
                                                                                rintro e w' ⟨he, hbn⟩
                                                                                rw [hX.out] at he
                                                                                dsimp only at he
                                                                                subst he
                                                                                replace db300 := keepC hbn db300
                                                                                replace db301 := keepC hbn db301
                                                                                replace db400 := keepC hbn db400
                                                                                replace db401 := keepC hbn db401
                                                                                replace db500 := keepC hbn db500
                                                                                replace db501 := keepC hbn db501
                                                                                replace db502 := keepC hbn db502
                                                                                replace hB := below_of hB hbn hB.size
                                                                                clear hbn
                                                                                clear hX
                                                                                go_upto_region 51 with fail
                                                                                generalize hW : (World.alloc w' (.cells #[.int .i64 xa6, .int .i64 xb6, .int .i64 xc6] 44)) = W9
                                                                                have db600 : W9.cell? ⟨w'.heap.size, 0, none⟩ = some (.int .i64 xa6) := by subst hW; go_simp
                                                                                have db601 : W9.cell? ⟨w'.heap.size, 1, none⟩ = some (.int .i64 xb6) := by subst hW; go_simp
                                                                                have db602 : W9.cell? ⟨w'.heap.size, 2, none⟩ = some (.int .i64 xc6) := by subst hW; go_simp
                                                                                have hbn : Below w'.heap.size w' W9 := by subst hW; go_grown
                                                                                replace db300 := keepC hbn db300
                                                                                replace db301 := keepC hbn db301
                                                                                replace db400 := keepC hbn db400
                                                                                replace db401 := keepC hbn db401
                                                                                replace db500 := keepC hbn db500
                                                                                replace db501 := keepC hbn db501
                                                                                replace db502 := keepC hbn db502
                                                                                have hle6 := hB.size
                                                                                replace hB := below_of hB hbn hB.size
                                                                                clear hW hbn
                                                                                generalize w'.heap.size = r_6 at *
                                                                                clear w'
                                                                                as_aux_lemma =>
                                                                                  go_wp2_with fail
                                                                                  refine (drawCombinationOf_any _ _ ((hby.below hB).raise hB.size)).mono ?_
                                                                                  rintro e w' ⟨⟨m0, ex, ey, fx, fy, t2, rfl⟩, hbn⟩
                                                                                  replace db300 := keepC hbn db300
                                                                                  replace db301 := keepC hbn db301
                                                                                  replace db400 := keepC hbn db400
                                                                                  replace db401 := keepC hbn db401
                                                                                  replace db500 := keepC hbn db500
                                                                                  replace db501 := keepC hbn db501
                                                                                  replace db502 := keepC hbn db502
                                                                                  replace db600 := keepC hbn db600
                                                                                  replace db601 := keepC hbn db601
                                                                                  replace db602 := keepC hbn db602
                                                                                  replace hB := below_of hB hbn hB.size
                                                                                  clear hbn
                                                                                  as_aux_lemma =>
                                                                                    go_upto_region 52 with fail
                                                                                    as_aux_lemma =>
                                                                                      generalize hW : (World.alloc (World.alloc w' (.cells #[.int .i64 ex, .int .i64 ey] 29)) (.cells #[.int .i64 fx, .int .i64 fy] 29)) = W10
                                                                                      have db700 : W10.cell? ⟨w'.heap.size, 0, none⟩ = some (.int .i64 ex) := by subst hW; go_simp
                                                                                      have db701 : W10.cell? ⟨w'.heap.size, 1, none⟩ = some (.int .i64 ey) := by subst hW; go_simp
                                                                                      have db710 : W10.cell? ⟨w'.heap.size + 1, 0, none⟩ = some (.int .i64 fx) := by subst hW; go_simp
                                                                                      have db711 : W10.cell? ⟨w'.heap.size + 1, 1, none⟩ = some (.int .i64 fy) := by subst hW; go_simp
                                                                                      have hbn : Below w'.heap.size w' W10 := by subst hW; go_grown
                                                                                      replace db300 := keepC hbn db300
                                                                                      replace db301 := keepC hbn db301
                                                                                      replace db400 := keepC hbn db400
                                                                                      replace db401 := keepC hbn db401
                                                                                      replace db500 := keepC hbn db500
                                                                                      replace db501 := keepC hbn db501
                                                                                      replace db502 := keepC hbn db502
                                                                                      replace db600 := keepC hbn db600
                                                                                      replace db601 := keepC hbn db601
                                                                                      replace db602 := keepC hbn db602
                                                                                      have hle7 := hB.size
                                                                                      replace hB := below_of hB hbn hB.size
                                                                                      clear hW hbn
                                                                                      generalize w'.heap.size = r_7 at *
                                                                                      clear w'
                                                                                      as_aux_lemma =>
                                                                                        go_wp2_with fail
                                                                                        obtain ⟨gx, gy, gq, hG, ⟨gx1, gx2⟩, gy1, gy2⟩ := Pl.comb_ex m0 ex ey fx fy t2
                                                                                        replace hG := hid hG
                                                                                        have hE7 : ∀ w', (Op.equalIn 10000 29 (.agg #[.int .i64 gx, .int .i64 gy]) (.agg #[.int .i64 gx, .int .i64 gy])).run Tryz.prog w' = .ok true w' := fun w' => eqPt_same w' gx1 gx2 gy1 gy2
                                                                                        clear gx1 gx2 gy1 gy2
                                                                                        refine (CombinationOf_any m0 ex ey fx fy t2 _).mono ?_
                                                                                        rintro e w' ⟨he, hbn⟩
                                                                                        rw [hG.out] at he
                                                                                        dsimp only at he
                                                                                        subst he
                                                                                        replace db300 := keepC hbn db300
                                                                                        replace db301 := keepC hbn db301
                                                                                        replace db400 := keepC hbn db400
                                                                                        replace db401 := keepC hbn db401
                                                                                        replace db500 := keepC hbn db500
                                                                                        replace db501 := keepC hbn db501
                                                                                        replace db502 := keepC hbn db502
                                                                                        replace db600 := keepC hbn db600
                                                                                        replace db601 := keepC hbn db601
                                                                                        replace db602 := keepC hbn db602
                                                                                        replace db700 := keepC hbn db700
                                                                                        replace db701 := keepC hbn db701
                                                                                        replace db710 := keepC hbn db710
                                                                                        replace db711 := keepC hbn db711
                                                                                        replace hB := below_of hB hbn hB.size
                                                                                        clear hbn
                                                                                        go_upto_region 53 with fail
                                                                                        generalize hW : (World.alloc w' (.cells #[.int .i64 gx, .int .i64 gy] 29)) = W11
                                                                                        have db800 : W11.cell? ⟨w'.heap.size, 0, none⟩ = some (.int .i64 gx) := by subst hW; go_simp
                                                                                        have db801 : W11.cell? ⟨w'.heap.size, 1, none⟩ = some (.int .i64 gy) := by subst hW; go_simp
                                                                                        have hbn : Below w'.heap.size w' W11 := by subst hW; go_grown
                                                                                        replace db300 := keepC hbn db300
                                                                                        replace db301 := keepC hbn db301
                                                                                        replace db400 := keepC hbn db400
                                                                                        replace db401 := keepC hbn db401
                                                                                        replace db500 := keepC hbn db500
                                                                                        replace db501 := keepC hbn db501
                                                                                        replace db502 := keepC hbn db502
                                                                                        replace db600 := keepC hbn db600
                                                                                        replace db601 := keepC hbn db601
                                                                                        replace db602 := keepC hbn db602
                                                                                        replace db700 := keepC hbn db700
                                                                                        replace db701 := keepC hbn db701
                                                                                        replace db710 := keepC hbn db710
                                                                                        replace db711 := keepC hbn db711
                                                                                        have hle8 := hB.size
                                                                                        replace hB := below_of hB hbn hB.size
                                                                                        clear hW hbn
                                                                                        generalize w'.heap.size = r_8 at *
                                                                                        clear w'
                                                                                        as_aux_lemma =>
                                                                                          go_wp2_with fail
                                                                                          refine (sCombinationOf_any m0 ex ey fx fy t2 _).mono ?_
                                                                                          rintro e w' ⟨he, hbn⟩
                                                                                          rw [hG.out] at he
                                                                                          dsimp only at he
                                                                                          subst he
                                                                                          replace db300 := keepC hbn db300
                                                                                          replace db301 := keepC hbn db301
                                                                                          replace db400 := keepC hbn db400
                                                                                          replace db401 := keepC hbn db401
                                                                                          replace db500 := keepC hbn db500
                                                                                          replace db501 := keepC hbn db501
                                                                                          replace db502 := keepC hbn db502
                                                                                          replace db600 := keepC hbn db600
                                                                                          replace db601 := keepC hbn db601
                                                                                          replace db602 := keepC hbn db602
                                                                                          replace db700 := keepC hbn db700
                                                                                          replace db701 := keepC hbn db701
                                                                                          replace db710 := keepC hbn db710
                                                                                          replace db711 := keepC hbn db711
                                                                                          replace db800 := keepC hbn db800
                                                                                          replace db801 := keepC hbn db801
                                                                                          replace hB := below_of hB hbn hB.size
                                                                                          clear hbn
                                                                                          clear hG
                                                                                          go_upto_region 54 with fail
                                                                                          generalize hW : (World.alloc w' (.cells #[.int .i64 gx, .int .i64 gy] 29)) = W12
                                                                                          have db900 : W12.cell? ⟨w'.heap.size, 0, none⟩ = some (.int .i64 gx) := by subst hW; go_simp
                                                                                          have db901 : W12.cell? ⟨w'.heap.size, 1, none⟩ = some (.int .i64 gy) := by subst hW; go_simp
                                                                                          have hbn : Below w'.heap.size w' W12 := by subst hW; go_grown
                                                                                          replace db300 := keepC hbn db300
                                                                                          replace db301 := keepC hbn db301
                                                                                          replace db400 := keepC hbn db400
                                                                                          replace db401 := keepC hbn db401
                                                                                          replace db500 := keepC hbn db500
                                                                                          replace db501 := keepC hbn db501
                                                                                          replace db502 := keepC hbn db502
                                                                                          replace db600 := keepC hbn db600
                                                                                          replace db601 := keepC hbn db601
                                                                                          replace db602 := keepC hbn db602
                                                                                          replace db700 := keepC hbn db700
                                                                                          replace db701 := keepC hbn db701
                                                                                          replace db710 := keepC hbn db710
                                                                                          replace db711 := keepC hbn db711
                                                                                          replace db800 := keepC hbn db800
                                                                                          replace db801 := keepC hbn db801
                                                                                          have hle9 := hB.size
                                                                                          replace hB := below_of hB hbn hB.size
                                                                                          clear hW hbn
                                                                                          generalize w'.heap.size = r_9 at *
                                                                                          clear w'
                                                                                          as_aux_lemma =>
                                                                                            go_wp2_with fail
                                                                                            go_ret
                                                                                            exact ⟨rfl, hB⟩
end Go.Proofs.YtbjcbbnfgfmllaaGreatDoor.fnFields
