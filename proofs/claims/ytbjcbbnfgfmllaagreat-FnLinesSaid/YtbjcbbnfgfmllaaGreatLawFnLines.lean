/- FnLines: the walk. -/
import Derived.Test.YtbjcbbnfgfmllaaGreatDr12
import Derived.Test.YtbjcbbnfgfmllaaGreatG
import Derived.Test.YtbjcbbnfgfmllaaGreatC
import Derived.Test.YtbjcbbnfgfmllaaGreatD
import Derived.Test.YtbjcbbnfgfmllaaGreatE
import Derived.Test.YtbjcbbnfgfmllaaGreatF
import Derived.Test.YtbjcbbnfgfmllaaGreatJ
import Derived.Test.YtbjcbbnfgfmllaaGreatL
import Derived.Test.YtbjcbbnfgfmllaaGreatN
import Derived.Test.YtbjcbbnfgfmllaaGreatN2
import Derived.Test.YtbjcbbnfgfmllaaGreatPl20
import Derived.Test.YtbjcbbnfgfmllaaGreatBig
import Derived.Test.YtbjcbbnfgfmllaaGreatLpl
set_option linter.unusedVariables false
set_option linter.unusedSimpArgs false
set_option maxHeartbeats 16000000
set_option maxRecDepth 100000
namespace Go.Proofs.YtbjcbbnfgfmllaaGreat.fnLines
open Go.RowKit
theorem walk (v : Value) (w : World) (hv : CodeArg w v) : Calls Tryz.prog 3 #[v] w fun e w' => e = .returned (.bool true) ∧ Below w.heap.size w w' := by
  obtain ⟨o, n, c, rfl, h0, hc⟩ := hv
  by_cases hn : 4096 < n
  · go_enter Tryz.func3, Tryz.ntmps3
    go_wp2_with (go_at_call 4; refine (big_yes _ _ _ _ hn).mono ?_; rintro e w' ⟨rfl, rfl⟩)
    go_ret
    exact ⟨rfl, Below.refl _ _⟩
  have hby : Bytes w w.heap.size (.slice o n c) := ⟨o, n, c, rfl, by omega, h0, hc⟩
  clear h0 hc
  go_enter Tryz.func3, Tryz.ntmps3
  go_wp2_with (go_at_call 4; refine (big_no _ _ _ _ (by omega)).mono ?_; rintro e w' ⟨rfl, rfl⟩)
  have hB := Below.refl w.heap.size w
  clear hn
  refine (drawLineThrough_any _ _ ((hby.below hB).raise hB.size)).mono ?_
  rintro e w' ⟨⟨p, ax, ay, bx, by_, rfl⟩, hbn⟩
  replace hB := below_of hB hbn hB.size
  clear hbn
  as_aux_lemma =>
    go_upto_region 4 with fail
    as_aux_lemma =>
      generalize hW : (World.alloc (World.alloc w' (.cells #[.int .i64 ax, .int .i64 ay] 25)) (.cells #[.int .i64 bx, .int .i64 by_] 25)) = W3
      have db000 : W3.cell? ⟨w'.heap.size, 0, none⟩ = some (.int .i64 ax) := by subst hW; go_simp
      have db001 : W3.cell? ⟨w'.heap.size, 1, none⟩ = some (.int .i64 ay) := by subst hW; go_simp
      have db010 : W3.cell? ⟨w'.heap.size + 1, 0, none⟩ = some (.int .i64 bx) := by subst hW; go_simp
      have db011 : W3.cell? ⟨w'.heap.size + 1, 1, none⟩ = some (.int .i64 by_) := by subst hW; go_simp
      have hbn : Below w'.heap.size w' W3 := by subst hW; go_grown
      have hle0 := hB.size
      replace hB := below_of hB hbn hB.size
      clear hW hbn
      generalize w'.heap.size = r_0 at *
      clear w'
      as_aux_lemma =>
        go_wp2_with fail
        obtain ⟨ta, tb, tc, tq, hT, ⟨⟨ta1, ta2⟩, ⟨tb1, tb2⟩, tc1, tc2⟩, hL⟩ := Pl.lt_ex p ax ay bx by_
        replace hT := hid hT
        replace hL := hid hL
        have hE1 : ∀ w', (Op.equalIn 10000 29 (.agg #[.int .i64 ta, .int .i64 tb, .int .i64 tc]) (.agg #[.int .i64 ta, .int .i64 tb, .int .i64 tc])).run Tryz.prog w' = .ok true w' := fun w' => eqLn_same w' ta1 ta2 tb1 tb2 tc1 tc2
        refine (LineThrough_any p ax ay bx by_ _).mono ?_
        rintro e w' ⟨he, hbn⟩
        rw [hT.out] at he
        dsimp only at he
        subst he
        replace db000 := keepC hbn db000
        replace db001 := keepC hbn db001
        replace db010 := keepC hbn db010
        replace db011 := keepC hbn db011
        replace hB := below_of hB hbn hB.size
        clear hbn
        go_upto_region 5 with fail
        generalize hW : (World.alloc w' (.cells #[.int .i64 ta, .int .i64 tb, .int .i64 tc] 29)) = W4
        have db100 : W4.cell? ⟨w'.heap.size, 0, none⟩ = some (.int .i64 ta) := by subst hW; go_simp
        have db101 : W4.cell? ⟨w'.heap.size, 1, none⟩ = some (.int .i64 tb) := by subst hW; go_simp
        have db102 : W4.cell? ⟨w'.heap.size, 2, none⟩ = some (.int .i64 tc) := by subst hW; go_simp
        have hbn : Below w'.heap.size w' W4 := by subst hW; go_grown
        replace db000 := keepC hbn db000
        replace db001 := keepC hbn db001
        replace db010 := keepC hbn db010
        replace db011 := keepC hbn db011
        have hle1 := hB.size
        replace hB := below_of hB hbn hB.size
        clear hW hbn
        generalize w'.heap.size = r_1 at *
        clear w'
        as_aux_lemma =>
          go_wp2_with fail
          refine (sLineThrough_any p ax ay bx by_ _).mono ?_
          rintro e w' ⟨he, hbn⟩
          rw [hT.out] at he
          dsimp only at he
          subst he
          replace db000 := keepC hbn db000
          replace db001 := keepC hbn db001
          replace db010 := keepC hbn db010
          replace db011 := keepC hbn db011
          replace db100 := keepC hbn db100
          replace db101 := keepC hbn db101
          replace db102 := keepC hbn db102
          replace hB := below_of hB hbn hB.size
          clear hbn
          clear hT
          go_upto_region 6 with fail
          generalize hW : (World.alloc w' (.cells #[.int .i64 ta, .int .i64 tb, .int .i64 tc] 29)) = W5
          have db200 : W5.cell? ⟨w'.heap.size, 0, none⟩ = some (.int .i64 ta) := by subst hW; go_simp
          have db201 : W5.cell? ⟨w'.heap.size, 1, none⟩ = some (.int .i64 tb) := by subst hW; go_simp
          have db202 : W5.cell? ⟨w'.heap.size, 2, none⟩ = some (.int .i64 tc) := by subst hW; go_simp
          have hbn : Below w'.heap.size w' W5 := by subst hW; go_grown
          replace db000 := keepC hbn db000
          replace db001 := keepC hbn db001
          replace db010 := keepC hbn db010
          replace db011 := keepC hbn db011
          replace db100 := keepC hbn db100
          replace db101 := keepC hbn db101
          replace db102 := keepC hbn db102
          have hle2 := hB.size
          replace hB := below_of hB hbn hB.size
          clear hW hbn
          generalize w'.heap.size = r_2 at *
          clear w'
          as_aux_lemma =>
            go_upto_if 123 with fail
            go_cut [123] from 9999 to 9999 (fun s123 wr => Hid (Below w.heap.size w wr ∧ wr.cell? ⟨r_0, 0, none⟩ = some (.int .i64 ax) ∧ wr.cell? ⟨r_0, 1, none⟩ = some (.int .i64 ay) ∧ wr.cell? ⟨r_0 + 1, 0, none⟩ = some (.int .i64 bx) ∧ wr.cell? ⟨r_0 + 1, 1, none⟩ = some (.int .i64 by_) ∧ wr.cell? ⟨r_1, 0, none⟩ = some (.int .i64 ta) ∧ wr.cell? ⟨r_1, 1, none⟩ = some (.int .i64 tb) ∧ wr.cell? ⟨r_1, 2, none⟩ = some (.int .i64 tc) ∧ wr.cell? ⟨r_2, 0, none⟩ = some (.int .i64 ta) ∧ wr.cell? ⟨r_2, 1, none⟩ = some (.int .i64 tb) ∧ wr.cell? ⟨r_2, 2, none⟩ = some (.int .i64 tc)))
            case first =>
              by_cases hz : tq = 0
              · obtain ⟨p1, p2, ho1, ho2, hln, hpl, hpt, hll, hmem, hsm⟩ := hL.out hz
                have hzb : (tq == 0) = true := by simpa using hz
                clear hz hL
                replace ho1 := hid ho1
                replace ho2 := hid ho2
                replace hln := hid hln
                replace hpl := hid hpl
                replace hpt := hid hpt
                replace hll := hid hll
                replace hmem := hid hmem
                replace hsm := hid hsm
                go_wp2_with fail
                refine (IsOnLine_any p ax ay ta tb tc _).mono ?_
                rintro e w' ⟨he, hbn⟩
                rw [ho1.out] at he
                dsimp only at he
                subst he
                replace db000 := keepC hbn db000
                replace db001 := keepC hbn db001
                replace db010 := keepC hbn db010
                replace db011 := keepC hbn db011
                replace db100 := keepC hbn db100
                replace db101 := keepC hbn db101
                replace db102 := keepC hbn db102
                replace db200 := keepC hbn db200
                replace db201 := keepC hbn db201
                replace db202 := keepC hbn db202
                replace hB := below_of hB hbn hB.size
                clear hbn
                as_aux_lemma =>
                  go_wp2_with fail
                  refine (IsOnLine_any p bx by_ ta tb tc _).mono ?_
                  rintro e w' ⟨he, hbn⟩
                  rw [ho2.out] at he
                  dsimp only at he
                  subst he
                  replace db000 := keepC hbn db000
                  replace db001 := keepC hbn db001
                  replace db010 := keepC hbn db010
                  replace db011 := keepC hbn db011
                  replace db100 := keepC hbn db100
                  replace db101 := keepC hbn db101
                  replace db102 := keepC hbn db102
                  replace db200 := keepC hbn db200
                  replace db201 := keepC hbn db201
                  replace db202 := keepC hbn db202
                  replace hB := below_of hB hbn hB.size
                  clear hbn
                  as_aux_lemma =>
                    go_wp2_with fail
                    clear ho1 ho2
                    refine (PointsOn_ok p ta tb tc _ hln.out).mono ?_
                    rintro e w' ⟨g1, d1, rfl, h_S1, hbn⟩
                    replace db000 := keepC hbn db000
                    replace db001 := keepC hbn db001
                    replace db010 := keepC hbn db010
                    replace db011 := keepC hbn db011
                    replace db100 := keepC hbn db100
                    replace db101 := keepC hbn db101
                    replace db102 := keepC hbn db102
                    replace db200 := keepC hbn db200
                    replace db201 := keepC hbn db201
                    replace db202 := keepC hbn db202
                    replace hB := below_of hB hbn hB.size
                    clear hbn
                    clear hln
                    generalize Pl.ptsW (fun b => Pl.onB p b.1 b.2 ta tb tc) p = L1 at *
                    as_aux_lemma =>
                      go_wp2_with fail
                      refine (LinesThrough_ok p ax ay _ hpt.out).mono ?_
                      rintro e w' ⟨g2, d2, rfl, h_S2, hbn⟩
                      replace db000 := keepC hbn db000
                      replace db001 := keepC hbn db001
                      replace db010 := keepC hbn db010
                      replace db011 := keepC hbn db011
                      replace db100 := keepC hbn db100
                      replace db101 := keepC hbn db101
                      replace db102 := keepC hbn db102
                      replace db200 := keepC hbn db200
                      replace db201 := keepC hbn db201
                      replace db202 := keepC hbn db202
                      replace hB := below_of hB hbn hB.size
                      clear hbn
                      clear hpt
                      generalize Pl.ltAll p ax ay = L2 at *
                      have hpl2 := hpl.out
                      have hll2 := hll.out
                      obtain ⟨m, hm, hmE⟩ := List.getElem_of_mem hmem.out
                      replace hmE : Hid (L2.getD m (0, 0, 0) = (ta, tb, tc)) := by unfold Hid; simp [hm, hmE]
                      clear hmem hpl
                      as_aux_lemma =>
                        go_wp2_with fail
                        clear hpl2 hll2
                        have hl3 : L2.length ≤ 40 := by have := hll.out; omega
                        go_loopw [18, 19] (fun fd i wr => ∃ (j : Nat) (b : Bool), j ≤ L2.length ∧ fd = .bool b ∧ i = .int .i64 j ∧ Hid (m < j → b = true) ∧ Below w'.heap.size w' wr) (fun _ i _ => L2.length - (intOf i).toNat)
                        case atStart => exact ⟨0, false, Nat.zero_le _, rfl, rfl, hid (fun h => by omega), Below.refl _ _⟩
                        case round =>
                          obtain ⟨j, b, hj, rfl, rfl, hmb, hb⟩ := hrel
                          replace h_S2 := h_S2.keep hb
                          replace db000 := keepC hb db000
                          replace db001 := keepC hb db001
                          replace db010 := keepC hb db010
                          replace db011 := keepC hb db011
                          replace db100 := keepC hb db100
                          replace db101 := keepC hb db101
                          replace db102 := keepC hb db102
                          replace db200 := keepC hb db200
                          replace db201 := keepC hb db201
                          replace db202 := keepC hb db202
                          replace hB := below_of hB hb hB.size
                          by_cases hjl : j < L2.length
                          · have hjp : (j : Int) < p + 1 := by have := hll.out; omega
                            clear hll
                            obtain ⟨e0, e1, e2⟩ := h_S2.cell3 hjl
                            obtain ⟨⟨ea1, ea2⟩, ⟨eb1, eb2⟩, ec1, ec2⟩ := hsm.out _ (Pl.getD_mem (0, 0, 0) hjl)
                            have hbe : Hid (j = m → ((L2.getD j (0, 0, 0)).1 == ta && (L2.getD j (0, 0, 0)).2.1 == tb && (L2.getD j (0, 0, 0)).2.2 == tc) = true) := fun h => by rw [h, hmE.out]; simp
                            generalize (L2.getD j (0, 0, 0)).1 = ea at *
                            generalize (L2.getD j (0, 0, 0)).2.1 = eb at *
                            generalize (L2.getD j (0, 0, 0)).2.2 = ec at *
                            have hq : ∀ w', (Op.equalIn 10000 29 (.agg #[.int .i64 ea, .int .i64 eb, .int .i64 ec]) (.agg #[.int .i64 ta, .int .i64 tb, .int .i64 tc])).run Tryz.prog w' = .ok (ea == ta && eb == tb && ec == tc) w' := fun w' => eqLn_small w' ea1 ea2 eb1 eb2 ec1 ec2 ta1 ta2 tb1 tb2 tc1 tc2
                            generalize (ea == ta && eb == tb && ec == tc) = bq at *
                            clear hsm hmE
                            cases b
                            · go_wp2_with fail
                              go_quiet (fail)
                              go_wp2_with fail
                              go_roundw
                              case rel => exact ⟨j + 1, bq, by omega, rfl, by go_num, hid (fun h => by rcases Nat.lt_or_eq_of_le (Nat.le_of_lt_succ h) with h | h; exact absurd (hmb.out h) (by decide); exact hbe.out h.symm), below_drewN hb _⟩
                              case measure => simp [intOf]; omega
                            · go_wp2_with fail
                              go_quiet (fail)
                              go_wp2_with fail
                              go_roundw
                              case rel => exact ⟨j + 1, true, by omega, rfl, by go_num, hid (fun h => rfl), below_drewN hb _⟩
                              case measure => simp [intOf]; omega
                          · have hjp : ¬ (j : Int) < p + 1 := by have := hll.out; omega
                            obtain rfl := hmb.out (by omega)
                            clear hll
                            go_wp2_with fail
                            go_meet
                            case rel => exact hid ⟨hB, db000, db001, db010, db011, db100, db101, db102, db200, db201, db202⟩
              · have hzb : (tq == 0) = false := by simpa using hz
                go_wp2_with fail
                go_meet
                case rel => exact hid ⟨hB, db000, db001, db010, db011, db100, db101, db102, db200, db201, db202⟩
            case rest =>
              clear hB db000 db001 db010 db011 db100 db101 db102 db200 db201 db202
              have hq := hcut
              obtain ⟨hB, db000, db001, db010, db011, db100, db101, db102, db200, db201, db202⟩ := hq.out
              try clear hq
              try clear hcut
              as_aux_lemma =>
                clear hL hE1
                clear db000 db001 db010 db011 db100 db101 db102 db200 db201 db202
                go_wp2_with fail
                refine (drawMeetOf_any _ _ ((hby.below hB).raise hB.size)).mono ?_
                rintro e w' ⟨⟨z, la, lb, lc, ma, mb, mc, rfl⟩, hbn⟩
                replace hB := below_of hB hbn hB.size
                clear hbn
                as_aux_lemma =>
                  go_upto_region 23 with fail
                  as_aux_lemma =>
                    generalize hW : (World.alloc (World.alloc w' (.cells #[.int .i64 la, .int .i64 lb, .int .i64 lc] 29)) (.cells #[.int .i64 ma, .int .i64 mb, .int .i64 mc] 29)) = W6
                    have db300 : W6.cell? ⟨w'.heap.size, 0, none⟩ = some (.int .i64 la) := by subst hW; go_simp
                    have db301 : W6.cell? ⟨w'.heap.size, 1, none⟩ = some (.int .i64 lb) := by subst hW; go_simp
                    have db302 : W6.cell? ⟨w'.heap.size, 2, none⟩ = some (.int .i64 lc) := by subst hW; go_simp
                    have db310 : W6.cell? ⟨w'.heap.size + 1, 0, none⟩ = some (.int .i64 ma) := by subst hW; go_simp
                    have db311 : W6.cell? ⟨w'.heap.size + 1, 1, none⟩ = some (.int .i64 mb) := by subst hW; go_simp
                    have db312 : W6.cell? ⟨w'.heap.size + 1, 2, none⟩ = some (.int .i64 mc) := by subst hW; go_simp
                    have hbn : Below w'.heap.size w' W6 := by subst hW; go_grown
                    have hle3 := hB.size
                    replace hB := below_of hB hbn hB.size
                    clear hW hbn
                    generalize w'.heap.size = r_3 at *
                    clear w'
                    as_aux_lemma =>
                      go_wp2_with fail
                      obtain ⟨ux, uy, mq, q2, hM, hP, ⟨⟨ux1, ux2⟩, uy1, uy2⟩, hL⟩ := Pl.meet_ex2 z la lb lc ma mb mc
                      obtain ⟨pb, hpb⟩ : ∃ b, Hid ((mq == 5) = b) := ⟨_, rfl⟩
                      rw [hpb.out] at hP
                      replace hM := hid hM
                      replace hP := hid hP
                      replace hL := hid hL
                      have hE2 : ∀ w', (Op.equalIn 10000 25 (.agg #[.int .i64 ux, .int .i64 uy]) (.agg #[.int .i64 ux, .int .i64 uy])).run Tryz.prog w' = .ok true w' := fun w' => eqPt_same w' ux1 ux2 uy1 uy2
                      refine (MeetOf_any z la lb lc ma mb mc _).mono ?_
                      rintro e w' ⟨he, hbn⟩
                      rw [hM.out] at he
                      dsimp only at he
                      subst he
                      replace db300 := keepC hbn db300
                      replace db301 := keepC hbn db301
                      replace db302 := keepC hbn db302
                      replace db310 := keepC hbn db310
                      replace db311 := keepC hbn db311
                      replace db312 := keepC hbn db312
                      replace hB := below_of hB hbn hB.size
                      clear hbn
                      go_upto_region 24 with fail
                      generalize hW : (World.alloc w' (.cells #[.int .i64 ux, .int .i64 uy] 25)) = W7
                      have db400 : W7.cell? ⟨w'.heap.size, 0, none⟩ = some (.int .i64 ux) := by subst hW; go_simp
                      have db401 : W7.cell? ⟨w'.heap.size, 1, none⟩ = some (.int .i64 uy) := by subst hW; go_simp
                      have hbn : Below w'.heap.size w' W7 := by subst hW; go_grown
                      replace db300 := keepC hbn db300
                      replace db301 := keepC hbn db301
                      replace db302 := keepC hbn db302
                      replace db310 := keepC hbn db310
                      replace db311 := keepC hbn db311
                      replace db312 := keepC hbn db312
                      have hle4 := hB.size
                      replace hB := below_of hB hbn hB.size
                      clear hW hbn
                      generalize w'.heap.size = r_4 at *
                      clear w'
                      as_aux_lemma =>
                        go_wp2_with fail
                        refine (sMeetOf_any z la lb lc ma mb mc _).mono ?_
                        rintro e w' ⟨he, hbn⟩
                        rw [hM.out] at he
                        dsimp only at he
                        subst he
                        replace db300 := keepC hbn db300
                        replace db301 := keepC hbn db301
                        replace db302 := keepC hbn db302
                        replace db310 := keepC hbn db310
                        replace db311 := keepC hbn db311
                        replace db312 := keepC hbn db312
                        replace db400 := keepC hbn db400
                        replace db401 := keepC hbn db401
                        replace hB := below_of hB hbn hB.size
                        clear hbn
                        clear hM
                        go_upto_region 25 with fail
                        generalize hW : (World.alloc w' (.cells #[.int .i64 ux, .int .i64 uy] 25)) = W8
                        have db500 : W8.cell? ⟨w'.heap.size, 0, none⟩ = some (.int .i64 ux) := by subst hW; go_simp
                        have db501 : W8.cell? ⟨w'.heap.size, 1, none⟩ = some (.int .i64 uy) := by subst hW; go_simp
                        have hbn : Below w'.heap.size w' W8 := by subst hW; go_grown
                        replace db300 := keepC hbn db300
                        replace db301 := keepC hbn db301
                        replace db302 := keepC hbn db302
                        replace db310 := keepC hbn db310
                        replace db311 := keepC hbn db311
                        replace db312 := keepC hbn db312
                        replace db400 := keepC hbn db400
                        replace db401 := keepC hbn db401
                        have hle5 := hB.size
                        replace hB := below_of hB hbn hB.size
                        clear hW hbn
                        generalize w'.heap.size = r_5 at *
                        clear w'
                        as_aux_lemma =>
                          go_wp2_with fail
                          refine (AreParallel_any z la lb lc ma mb mc _).mono ?_
                          rintro e w' ⟨he, hbn⟩
                          rw [hP.out] at he
                          dsimp only at he
                          subst he
                          replace db300 := keepC hbn db300
                          replace db301 := keepC hbn db301
                          replace db302 := keepC hbn db302
                          replace db310 := keepC hbn db310
                          replace db311 := keepC hbn db311
                          replace db312 := keepC hbn db312
                          replace db400 := keepC hbn db400
                          replace db401 := keepC hbn db401
                          replace db500 := keepC hbn db500
                          replace db501 := keepC hbn db501
                          replace hB := below_of hB hbn hB.size
                          clear hbn
                          as_aux_lemma =>
                            go_wp2_with fail
                            refine (sAreParallel_any z la lb lc ma mb mc _).mono ?_
                            rintro e w' ⟨he, hbn⟩
                            rw [hP.out] at he
                            dsimp only at he
                            subst he
                            replace db300 := keepC hbn db300
                            replace db301 := keepC hbn db301
                            replace db302 := keepC hbn db302
                            replace db310 := keepC hbn db310
                            replace db311 := keepC hbn db311
                            replace db312 := keepC hbn db312
                            replace db400 := keepC hbn db400
                            replace db401 := keepC hbn db401
                            replace db500 := keepC hbn db500
                            replace db501 := keepC hbn db501
                            replace hB := below_of hB hbn hB.size
                            clear hbn
                            clear hP
                            as_aux_lemma =>
                              go_upto_region 27 with fail
                              go_cut [263] from 9999 to 9999 (fun s263 wr => s263 = .bool false ∧ Hid (Below w.heap.size w wr ∧ wr.cell? ⟨r_3, 0, none⟩ = some (.int .i64 la) ∧ wr.cell? ⟨r_3, 1, none⟩ = some (.int .i64 lb) ∧ wr.cell? ⟨r_3, 2, none⟩ = some (.int .i64 lc) ∧ wr.cell? ⟨r_3 + 1, 0, none⟩ = some (.int .i64 ma) ∧ wr.cell? ⟨r_3 + 1, 1, none⟩ = some (.int .i64 mb) ∧ wr.cell? ⟨r_3 + 1, 2, none⟩ = some (.int .i64 mc) ∧ wr.cell? ⟨r_4, 0, none⟩ = some (.int .i64 ux) ∧ wr.cell? ⟨r_4, 1, none⟩ = some (.int .i64 uy) ∧ wr.cell? ⟨r_5, 0, none⟩ = some (.int .i64 ux) ∧ wr.cell? ⟨r_5, 1, none⟩ = some (.int .i64 uy)))
                              case first =>
                                have hpc := hpb.out
                                by_cases hz : q2 = 0
                                · have hzb : (q2 == 0) = true := by simpa using hz
                                  clear hz
                                  go_wp2_with fail
                                  go_meet
                                  case rel => exact ⟨rfl, hid ⟨hB, db300, db301, db302, db310, db311, db312, db400, db401, db500, db501⟩⟩
                                · have hzb : (q2 == 0) = false := by simpa using hz
                                  clear hz
                                  go_wp2_with fail
                                  go_meet
                                  case rel => exact ⟨rfl, hid ⟨hB, db300, db301, db302, db310, db311, db312, db400, db401, db500, db501⟩⟩
                              case rest =>
                                clear hB db300 db301 db302 db310 db311 db312 db400 db401 db500 db501
                                obtain ⟨rfl, hq⟩ := hcut
                                obtain ⟨hB, db300, db301, db302, db310, db311, db312, db400, db401, db500, db501⟩ := hq.out
                                try clear hq
                                try clear hcut
                                as_aux_lemma =>
                                  go_upto_if 265 with fail
                                  go_cut [265] from 9999 to 9999 (fun s265 wr => Hid (Below w.heap.size w wr ∧ wr.cell? ⟨r_3, 0, none⟩ = some (.int .i64 la) ∧ wr.cell? ⟨r_3, 1, none⟩ = some (.int .i64 lb) ∧ wr.cell? ⟨r_3, 2, none⟩ = some (.int .i64 lc) ∧ wr.cell? ⟨r_3 + 1, 0, none⟩ = some (.int .i64 ma) ∧ wr.cell? ⟨r_3 + 1, 1, none⟩ = some (.int .i64 mb) ∧ wr.cell? ⟨r_3 + 1, 2, none⟩ = some (.int .i64 mc) ∧ wr.cell? ⟨r_4, 0, none⟩ = some (.int .i64 ux) ∧ wr.cell? ⟨r_4, 1, none⟩ = some (.int .i64 uy) ∧ wr.cell? ⟨r_5, 0, none⟩ = some (.int .i64 ux) ∧ wr.cell? ⟨r_5, 1, none⟩ = some (.int .i64 uy)))
                                  case first =>
                                    by_cases hz : mq = 0
                                    · obtain ⟨ho1, ho2⟩ := hL.out hz
                                      have hzb : (mq == 0) = true := by simpa using hz
                                      clear hz hL
                                      replace ho1 := hid ho1
                                      replace ho2 := hid ho2
                                      go_wp2_with fail
                                      refine (IsOnLine_any z ux uy la lb lc _).mono ?_
                                      rintro e w' ⟨he, hbn⟩
                                      rw [ho1.out] at he
                                      dsimp only at he
                                      subst he
                                      replace db300 := keepC hbn db300
                                      replace db301 := keepC hbn db301
                                      replace db302 := keepC hbn db302
                                      replace db310 := keepC hbn db310
                                      replace db311 := keepC hbn db311
                                      replace db312 := keepC hbn db312
                                      replace db400 := keepC hbn db400
                                      replace db401 := keepC hbn db401
                                      replace db500 := keepC hbn db500
                                      replace db501 := keepC hbn db501
                                      replace hB := below_of hB hbn hB.size
                                      clear hbn
                                      as_aux_lemma =>
                                        go_wp2_with fail
                                        refine (IsOnLine_any z ux uy ma mb mc _).mono ?_
                                        rintro e w' ⟨he, hbn⟩
                                        rw [ho2.out] at he
                                        dsimp only at he
                                        subst he
                                        replace db300 := keepC hbn db300
                                        replace db301 := keepC hbn db301
                                        replace db302 := keepC hbn db302
                                        replace db310 := keepC hbn db310
                                        replace db311 := keepC hbn db311
                                        replace db312 := keepC hbn db312
                                        replace db400 := keepC hbn db400
                                        replace db401 := keepC hbn db401
                                        replace db500 := keepC hbn db500
                                        replace db501 := keepC hbn db501
                                        replace hB := below_of hB hbn hB.size
                                        clear hbn
                                        as_aux_lemma =>
                                          go_wp2_with fail
                                          go_meet
                                          case rel => exact hid ⟨hB, db300, db301, db302, db310, db311, db312, db400, db401, db500, db501⟩
                                    · have hzb : (mq == 0) = false := by simpa using hz
                                      go_wp2_with fail
                                      go_meet
                                      case rel => exact hid ⟨hB, db300, db301, db302, db310, db311, db312, db400, db401, db500, db501⟩
                                  case rest =>
                                    clear hB db300 db301 db302 db310 db311 db312 db400 db401 db500 db501
                                    have hq := hcut
                                    obtain ⟨hB, db300, db301, db302, db310, db311, db312, db400, db401, db500, db501⟩ := hq.out
                                    try clear hq
                                    try clear hcut
                                    as_aux_lemma =>
                                      clear hL hE2
                                      clear db300 db301 db302 db310 db311 db312 db400 db401 db500 db501
                                      go_wp2_with fail
                                      refine (drawParallelThrough_any _ _ ((hby.below hB).raise hB.size)).mono ?_
                                      rintro e w' ⟨⟨y, na, nb, nc, cx, cy, rfl⟩, hbn⟩
                                      replace hB := below_of hB hbn hB.size
                                      clear hbn
                                      as_aux_lemma =>
                                        go_upto_region 35 with fail
                                        as_aux_lemma =>
                                          generalize hW : (World.alloc (World.alloc w' (.cells #[.int .i64 na, .int .i64 nb, .int .i64 nc] 29)) (.cells #[.int .i64 cx, .int .i64 cy] 25)) = W9
                                          have db600 : W9.cell? ⟨w'.heap.size, 0, none⟩ = some (.int .i64 na) := by subst hW; go_simp
                                          have db601 : W9.cell? ⟨w'.heap.size, 1, none⟩ = some (.int .i64 nb) := by subst hW; go_simp
                                          have db602 : W9.cell? ⟨w'.heap.size, 2, none⟩ = some (.int .i64 nc) := by subst hW; go_simp
                                          have db610 : W9.cell? ⟨w'.heap.size + 1, 0, none⟩ = some (.int .i64 cx) := by subst hW; go_simp
                                          have db611 : W9.cell? ⟨w'.heap.size + 1, 1, none⟩ = some (.int .i64 cy) := by subst hW; go_simp
                                          have hbn : Below w'.heap.size w' W9 := by subst hW; go_grown
                                          have hle6 := hB.size
                                          replace hB := below_of hB hbn hB.size
                                          clear hW hbn
                                          generalize w'.heap.size = r_6 at *
                                          clear w'
                                          as_aux_lemma =>
                                            go_wp2_with fail
                                            obtain ⟨oa, ob, oc, oq, hQ, ⟨⟨oa1, oa2⟩, ⟨ob1, ob2⟩, oc1, oc2⟩, hL⟩ := Pl.par_ex y na nb nc cx cy
                                            replace hQ := hid hQ
                                            replace hL := hid hL
                                            have hE3 : ∀ w', (Op.equalIn 10000 29 (.agg #[.int .i64 oa, .int .i64 ob, .int .i64 oc]) (.agg #[.int .i64 oa, .int .i64 ob, .int .i64 oc])).run Tryz.prog w' = .ok true w' := fun w' => eqLn_same w' oa1 oa2 ob1 ob2 oc1 oc2
                                            refine (ParallelThrough_any y na nb nc cx cy _).mono ?_
                                            rintro e w' ⟨he, hbn⟩
                                            rw [hQ.out] at he
                                            dsimp only at he
                                            subst he
                                            replace db600 := keepC hbn db600
                                            replace db601 := keepC hbn db601
                                            replace db602 := keepC hbn db602
                                            replace db610 := keepC hbn db610
                                            replace db611 := keepC hbn db611
                                            replace hB := below_of hB hbn hB.size
                                            clear hbn
                                            go_upto_region 36 with fail
                                            generalize hW : (World.alloc w' (.cells #[.int .i64 oa, .int .i64 ob, .int .i64 oc] 29)) = W10
                                            have db700 : W10.cell? ⟨w'.heap.size, 0, none⟩ = some (.int .i64 oa) := by subst hW; go_simp
                                            have db701 : W10.cell? ⟨w'.heap.size, 1, none⟩ = some (.int .i64 ob) := by subst hW; go_simp
                                            have db702 : W10.cell? ⟨w'.heap.size, 2, none⟩ = some (.int .i64 oc) := by subst hW; go_simp
                                            have hbn : Below w'.heap.size w' W10 := by subst hW; go_grown
                                            replace db600 := keepC hbn db600
                                            replace db601 := keepC hbn db601
                                            replace db602 := keepC hbn db602
                                            replace db610 := keepC hbn db610
                                            replace db611 := keepC hbn db611
                                            have hle7 := hB.size
                                            replace hB := below_of hB hbn hB.size
                                            clear hW hbn
                                            generalize w'.heap.size = r_7 at *
                                            clear w'
                                            as_aux_lemma =>
                                              go_wp2_with fail
                                              refine (sParallelThrough_any y na nb nc cx cy _).mono ?_
                                              rintro e w' ⟨he, hbn⟩
                                              rw [hQ.out] at he
                                              dsimp only at he
                                              subst he
                                              replace db600 := keepC hbn db600
                                              replace db601 := keepC hbn db601
                                              replace db602 := keepC hbn db602
                                              replace db610 := keepC hbn db610
                                              replace db611 := keepC hbn db611
                                              replace db700 := keepC hbn db700
                                              replace db701 := keepC hbn db701
                                              replace db702 := keepC hbn db702
                                              replace hB := below_of hB hbn hB.size
                                              clear hbn
                                              clear hQ
                                              go_upto_region 37 with fail
                                              generalize hW : (World.alloc w' (.cells #[.int .i64 oa, .int .i64 ob, .int .i64 oc] 29)) = W11
                                              have db800 : W11.cell? ⟨w'.heap.size, 0, none⟩ = some (.int .i64 oa) := by subst hW; go_simp
                                              have db801 : W11.cell? ⟨w'.heap.size, 1, none⟩ = some (.int .i64 ob) := by subst hW; go_simp
                                              have db802 : W11.cell? ⟨w'.heap.size, 2, none⟩ = some (.int .i64 oc) := by subst hW; go_simp
                                              have hbn : Below w'.heap.size w' W11 := by subst hW; go_grown
                                              replace db600 := keepC hbn db600
                                              replace db601 := keepC hbn db601
                                              replace db602 := keepC hbn db602
                                              replace db610 := keepC hbn db610
                                              replace db611 := keepC hbn db611
                                              replace db700 := keepC hbn db700
                                              replace db701 := keepC hbn db701
                                              replace db702 := keepC hbn db702
                                              have hle8 := hB.size
                                              replace hB := below_of hB hbn hB.size
                                              clear hW hbn
                                              generalize w'.heap.size = r_8 at *
                                              clear w'
                                              as_aux_lemma =>
                                                go_upto_if 323 with fail
                                                go_cut [323] from 9999 to 9999 (fun s323 wr => Hid (Below w.heap.size w wr ∧ wr.cell? ⟨r_6, 0, none⟩ = some (.int .i64 na) ∧ wr.cell? ⟨r_6, 1, none⟩ = some (.int .i64 nb) ∧ wr.cell? ⟨r_6, 2, none⟩ = some (.int .i64 nc) ∧ wr.cell? ⟨r_6 + 1, 0, none⟩ = some (.int .i64 cx) ∧ wr.cell? ⟨r_6 + 1, 1, none⟩ = some (.int .i64 cy) ∧ wr.cell? ⟨r_7, 0, none⟩ = some (.int .i64 oa) ∧ wr.cell? ⟨r_7, 1, none⟩ = some (.int .i64 ob) ∧ wr.cell? ⟨r_7, 2, none⟩ = some (.int .i64 oc) ∧ wr.cell? ⟨r_8, 0, none⟩ = some (.int .i64 oa) ∧ wr.cell? ⟨r_8, 1, none⟩ = some (.int .i64 ob) ∧ wr.cell? ⟨r_8, 2, none⟩ = some (.int .i64 oc)))
                                                case first =>
                                                  by_cases hz : oq = 0
                                                  · obtain ⟨ho1, ho2⟩ := hL.out hz
                                                    have hzb : (oq == 0) = true := by simpa using hz
                                                    clear hz hL
                                                    replace ho1 := hid ho1
                                                    replace ho2 := hid ho2
                                                    go_wp2_with fail
                                                    refine (IsOnLine_any y cx cy oa ob oc _).mono ?_
                                                    rintro e w' ⟨he, hbn⟩
                                                    rw [ho1.out] at he
                                                    dsimp only at he
                                                    subst he
                                                    replace db600 := keepC hbn db600
                                                    replace db601 := keepC hbn db601
                                                    replace db602 := keepC hbn db602
                                                    replace db610 := keepC hbn db610
                                                    replace db611 := keepC hbn db611
                                                    replace db700 := keepC hbn db700
                                                    replace db701 := keepC hbn db701
                                                    replace db702 := keepC hbn db702
                                                    replace db800 := keepC hbn db800
                                                    replace db801 := keepC hbn db801
                                                    replace db802 := keepC hbn db802
                                                    replace hB := below_of hB hbn hB.size
                                                    clear hbn
                                                    as_aux_lemma =>
                                                      go_wp2_with fail
                                                      refine (AreParallel_any y na nb nc oa ob oc _).mono ?_
                                                      rintro e w' ⟨he, hbn⟩
                                                      rw [ho2.out] at he
                                                      dsimp only at he
                                                      subst he
                                                      replace db600 := keepC hbn db600
                                                      replace db601 := keepC hbn db601
                                                      replace db602 := keepC hbn db602
                                                      replace db610 := keepC hbn db610
                                                      replace db611 := keepC hbn db611
                                                      replace db700 := keepC hbn db700
                                                      replace db701 := keepC hbn db701
                                                      replace db702 := keepC hbn db702
                                                      replace db800 := keepC hbn db800
                                                      replace db801 := keepC hbn db801
                                                      replace db802 := keepC hbn db802
                                                      replace hB := below_of hB hbn hB.size
                                                      clear hbn
                                                      as_aux_lemma =>
                                                        go_wp2_with fail
                                                        go_meet
                                                        case rel => exact hid ⟨hB, db600, db601, db602, db610, db611, db700, db701, db702, db800, db801, db802⟩
                                                  · have hzb : (oq == 0) = false := by simpa using hz
                                                    go_wp2_with fail
                                                    go_meet
                                                    case rel => exact hid ⟨hB, db600, db601, db602, db610, db611, db700, db701, db702, db800, db801, db802⟩
                                                case rest =>
                                                  clear hB db600 db601 db602 db610 db611 db700 db701 db702 db800 db801 db802
                                                  have hq := hcut
                                                  obtain ⟨hB, db600, db601, db602, db610, db611, db700, db701, db702, db800, db801, db802⟩ := hq.out
                                                  try clear hq
                                                  try clear hcut
                                                  as_aux_lemma =>
                                                    clear hL hE3
                                                    clear db600 db601 db602 db610 db611 db700 db701 db702 db800 db801 db802
                                                    go_wp2_with fail
                                                    refine (drawLineOf_any _ _ ((hby.below hB).raise hB.size)).mono ?_
                                                    rintro e w' ⟨⟨s0, s1, s2, s3, rfl⟩, hbn⟩
                                                    replace hB := below_of hB hbn hB.size
                                                    clear hbn
                                                    as_aux_lemma =>
                                                      go_wp2_with fail
                                                      as_aux_lemma =>
                                                        as_aux_lemma =>
                                                          obtain ⟨va, vb, vc, vq, hV, ⟨⟨va1, va2⟩, ⟨vb1, vb2⟩, vc1, vc2⟩⟩ := Pl.line_ex s0 s1 s2 s3
                                                          replace hV := hid hV
                                                          have hE4 : ∀ w', (Op.equalIn 10000 29 (.agg #[.int .i64 va, .int .i64 vb, .int .i64 vc]) (.agg #[.int .i64 va, .int .i64 vb, .int .i64 vc])).run Tryz.prog w' = .ok true w' := fun w' => eqLn_same w' va1 va2 vb1 vb2 vc1 vc2
                                                          clear va1 va2 vb1 vb2 vc1 vc2
                                                          go_wp2_with fail
                                                          refine (LineOf_any s0 s1 s2 s3 _).mono ?_
                                                          rintro e w' ⟨he, hbn⟩
                                                          rw [hV.out] at he
                                                          dsimp only at he
                                                          subst he
                                                          replace hB := below_of hB hbn hB.size
                                                          clear hbn
                                                          go_upto_region 46 with fail
                                                          generalize hW : (World.alloc w' (.cells #[.int .i64 va, .int .i64 vb, .int .i64 vc] 29)) = W12
                                                          have db900 : W12.cell? ⟨w'.heap.size, 0, none⟩ = some (.int .i64 va) := by subst hW; go_simp
                                                          have db901 : W12.cell? ⟨w'.heap.size, 1, none⟩ = some (.int .i64 vb) := by subst hW; go_simp
                                                          have db902 : W12.cell? ⟨w'.heap.size, 2, none⟩ = some (.int .i64 vc) := by subst hW; go_simp
                                                          have hbn : Below w'.heap.size w' W12 := by subst hW; go_grown
                                                          have hle9 := hB.size
                                                          replace hB := below_of hB hbn hB.size
                                                          clear hW hbn
                                                          generalize w'.heap.size = r_9 at *
                                                          clear w'
                                                          as_aux_lemma =>
                                                            go_wp2_with fail
                                                            refine (sLineOf_any s0 s1 s2 s3 _).mono ?_
                                                            rintro e w' ⟨he, hbn⟩
                                                            rw [hV.out] at he
                                                            dsimp only at he
                                                            subst he
                                                            replace db900 := keepC hbn db900
                                                            replace db901 := keepC hbn db901
                                                            replace db902 := keepC hbn db902
                                                            replace hB := below_of hB hbn hB.size
                                                            clear hbn
                                                            clear hV
                                                            go_upto_region 47 with fail
                                                            generalize hW : (World.alloc w' (.cells #[.int .i64 va, .int .i64 vb, .int .i64 vc] 29)) = W13
                                                            have db1000 : W13.cell? ⟨w'.heap.size, 0, none⟩ = some (.int .i64 va) := by subst hW; go_simp
                                                            have db1001 : W13.cell? ⟨w'.heap.size, 1, none⟩ = some (.int .i64 vb) := by subst hW; go_simp
                                                            have db1002 : W13.cell? ⟨w'.heap.size, 2, none⟩ = some (.int .i64 vc) := by subst hW; go_simp
                                                            have hbn : Below w'.heap.size w' W13 := by subst hW; go_grown
                                                            replace db900 := keepC hbn db900
                                                            replace db901 := keepC hbn db901
                                                            replace db902 := keepC hbn db902
                                                            have hle10 := hB.size
                                                            replace hB := below_of hB hbn hB.size
                                                            clear hW hbn
                                                            generalize w'.heap.size = r_10 at *
                                                            clear w'
                                                            as_aux_lemma =>
                                                              go_wp2_with fail
                                                              refine (drawPointsOn_any _ _ ((hby.below hB).raise hB.size)).mono ?_
                                                              rintro e w' ⟨⟨t, ga, gb, gc, rfl⟩, hbn⟩
                                                              replace db900 := keepC hbn db900
                                                              replace db901 := keepC hbn db901
                                                              replace db902 := keepC hbn db902
                                                              replace db1000 := keepC hbn db1000
                                                              replace db1001 := keepC hbn db1001
                                                              replace db1002 := keepC hbn db1002
                                                              replace hB := below_of hB hbn hB.size
                                                              clear hbn
                                                              as_aux_lemma =>
                                                                go_upto_region 48 with fail
                                                                as_aux_lemma =>
                                                                  generalize hW : (World.alloc w' (.cells #[.int .i64 ga, .int .i64 gb, .int .i64 gc] 29)) = W14
                                                                  have db1100 : W14.cell? ⟨w'.heap.size, 0, none⟩ = some (.int .i64 ga) := by subst hW; go_simp
                                                                  have db1101 : W14.cell? ⟨w'.heap.size, 1, none⟩ = some (.int .i64 gb) := by subst hW; go_simp
                                                                  have db1102 : W14.cell? ⟨w'.heap.size, 2, none⟩ = some (.int .i64 gc) := by subst hW; go_simp
                                                                  have hbn : Below w'.heap.size w' W14 := by subst hW; go_grown
                                                                  replace db900 := keepC hbn db900
                                                                  replace db901 := keepC hbn db901
                                                                  replace db902 := keepC hbn db902
                                                                  replace db1000 := keepC hbn db1000
                                                                  replace db1001 := keepC hbn db1001
                                                                  replace db1002 := keepC hbn db1002
                                                                  have hle11 := hB.size
                                                                  replace hB := below_of hB hbn hB.size
                                                                  clear hW hbn
                                                                  generalize w'.heap.size = r_11 at *
                                                                  clear w'
                                                                  as_aux_lemma =>
                                                                    go_wp2_with fail
                                                                    have hsp : Hid (Pl.ask t (Pl.linesB t [(ga, gb, gc)]) = 0 → _) := hid fun h => Pl.pts_small h
                                                                    have hlo := hB.size
                                                                    refine (PointsOn_res t ga gb gc _).mono ?_
                                                                    rintro e w' ⟨v3, rfl, h_S3, hbn⟩
                                                                    replace h_S3 := h_S3.low hlo
                                                                    clear hlo
                                                                    replace db900 := keepC hbn db900
                                                                    replace db901 := keepC hbn db901
                                                                    replace db902 := keepC hbn db902
                                                                    replace db1000 := keepC hbn db1000
                                                                    replace db1001 := keepC hbn db1001
                                                                    replace db1002 := keepC hbn db1002
                                                                    replace db1100 := keepC hbn db1100
                                                                    replace db1101 := keepC hbn db1101
                                                                    replace db1102 := keepC hbn db1102
                                                                    replace hB := below_of hB hbn hB.size
                                                                    clear hbn
                                                                    as_aux_lemma =>
                                                                      go_wp2_with fail
                                                                      have hlo := hB.size
                                                                      refine (sPointsOn_res t ga gb gc _).mono ?_
                                                                      rintro e w' ⟨v4, rfl, h_S4, hbn⟩
                                                                      replace h_S4 := h_S4.low hlo
                                                                      clear hlo
                                                                      replace h_S3 := h_S3.keep hbn
                                                                      replace db900 := keepC hbn db900
                                                                      replace db901 := keepC hbn db901
                                                                      replace db902 := keepC hbn db902
                                                                      replace db1000 := keepC hbn db1000
                                                                      replace db1001 := keepC hbn db1001
                                                                      replace db1002 := keepC hbn db1002
                                                                      replace db1100 := keepC hbn db1100
                                                                      replace db1101 := keepC hbn db1101
                                                                      replace db1102 := keepC hbn db1102
                                                                      replace hB := below_of hB hbn hB.size
                                                                      clear hbn
                                                                      generalize Pl.ptsW (fun b => Pl.onB t b.1 b.2 ga gb gc) t = LP at *
                                                                      generalize Pl.ask t (Pl.linesB t [(ga, gb, gc)]) = e1q at *
                                                                      as_aux_lemma =>
                                                                        go_wp2_with fail
                                                                        refine (drawLinesThrough_any _ _ ((hby.below hB).raise hB.size)).mono ?_
                                                                        rintro e w' ⟨⟨u, hx, hy, rfl⟩, hbn⟩
                                                                        replace h_S3 := h_S3.keep hbn
                                                                        replace h_S4 := h_S4.keep hbn
                                                                        replace db900 := keepC hbn db900
                                                                        replace db901 := keepC hbn db901
                                                                        replace db902 := keepC hbn db902
                                                                        replace db1000 := keepC hbn db1000
                                                                        replace db1001 := keepC hbn db1001
                                                                        replace db1002 := keepC hbn db1002
                                                                        replace db1100 := keepC hbn db1100
                                                                        replace db1101 := keepC hbn db1101
                                                                        replace db1102 := keepC hbn db1102
                                                                        replace hB := below_of hB hbn hB.size
                                                                        clear hbn
                                                                        as_aux_lemma =>
                                                                          go_upto_region 51 with fail
                                                                          as_aux_lemma =>
                                                                            generalize hW : (World.alloc w' (.cells #[.int .i64 hx, .int .i64 hy] 25)) = W15
                                                                            have db1200 : W15.cell? ⟨w'.heap.size, 0, none⟩ = some (.int .i64 hx) := by subst hW; go_simp
                                                                            have db1201 : W15.cell? ⟨w'.heap.size, 1, none⟩ = some (.int .i64 hy) := by subst hW; go_simp
                                                                            have hbn : Below w'.heap.size w' W15 := by subst hW; go_grown
                                                                            replace h_S3 := h_S3.keep hbn
                                                                            replace h_S4 := h_S4.keep hbn
                                                                            replace db900 := keepC hbn db900
                                                                            replace db901 := keepC hbn db901
                                                                            replace db902 := keepC hbn db902
                                                                            replace db1000 := keepC hbn db1000
                                                                            replace db1001 := keepC hbn db1001
                                                                            replace db1002 := keepC hbn db1002
                                                                            replace db1100 := keepC hbn db1100
                                                                            replace db1101 := keepC hbn db1101
                                                                            replace db1102 := keepC hbn db1102
                                                                            have hle12 := hB.size
                                                                            replace hB := below_of hB hbn hB.size
                                                                            clear hW hbn
                                                                            generalize w'.heap.size = r_12 at *
                                                                            clear w'
                                                                            as_aux_lemma =>
                                                                              go_wp2_with fail
                                                                              have hsl : Hid (Pl.ask u (Pl.ptsB u [(hx, hy)]) = 0 → _) := hid fun h => Pl.lns_small h
                                                                              have hlo := hB.size
                                                                              refine (LinesThrough_res u hx hy _).mono ?_
                                                                              rintro e w' ⟨v5, rfl, h_S5, hbn⟩
                                                                              replace h_S5 := h_S5.low hlo
                                                                              clear hlo
                                                                              replace h_S3 := h_S3.keep hbn
                                                                              replace h_S4 := h_S4.keep hbn
                                                                              replace db900 := keepC hbn db900
                                                                              replace db901 := keepC hbn db901
                                                                              replace db902 := keepC hbn db902
                                                                              replace db1000 := keepC hbn db1000
                                                                              replace db1001 := keepC hbn db1001
                                                                              replace db1002 := keepC hbn db1002
                                                                              replace db1100 := keepC hbn db1100
                                                                              replace db1101 := keepC hbn db1101
                                                                              replace db1102 := keepC hbn db1102
                                                                              replace db1200 := keepC hbn db1200
                                                                              replace db1201 := keepC hbn db1201
                                                                              replace hB := below_of hB hbn hB.size
                                                                              clear hbn
                                                                              as_aux_lemma =>
                                                                                go_wp2_with fail
                                                                                have hlo := hB.size
                                                                                refine (sLinesThrough_res u hx hy _).mono ?_
                                                                                rintro e w' ⟨v6, rfl, h_S6, hbn⟩
                                                                                replace h_S6 := h_S6.low hlo
                                                                                clear hlo
                                                                                replace h_S3 := h_S3.keep hbn
                                                                                replace h_S4 := h_S4.keep hbn
                                                                                replace h_S5 := h_S5.keep hbn
                                                                                replace db900 := keepC hbn db900
                                                                                replace db901 := keepC hbn db901
                                                                                replace db902 := keepC hbn db902
                                                                                replace db1000 := keepC hbn db1000
                                                                                replace db1001 := keepC hbn db1001
                                                                                replace db1002 := keepC hbn db1002
                                                                                replace db1100 := keepC hbn db1100
                                                                                replace db1101 := keepC hbn db1101
                                                                                replace db1102 := keepC hbn db1102
                                                                                replace db1200 := keepC hbn db1200
                                                                                replace db1201 := keepC hbn db1201
                                                                                replace hB := below_of hB hbn hB.size
                                                                                clear hbn
                                                                                generalize Pl.ltAll u hx hy = LQ at *
                                                                                generalize Pl.ask u (Pl.ptsB u [(hx, hy)]) = e2q at *
                                                                                as_aux_lemma =>
                                                                                  go_wp2_with fail
                                                                                  refine (drawAreCollinear_any _ _ ((hby.below hB).raise hB.size)).mono ?_
                                                                                  rintro e w' ⟨⟨i0, ax, ay, bx, by_, cx, cy, rfl⟩, hbn⟩
                                                                                  replace h_S3 := h_S3.keep hbn
                                                                                  replace h_S4 := h_S4.keep hbn
                                                                                  replace h_S5 := h_S5.keep hbn
                                                                                  replace h_S6 := h_S6.keep hbn
                                                                                  replace db900 := keepC hbn db900
                                                                                  replace db901 := keepC hbn db901
                                                                                  replace db902 := keepC hbn db902
                                                                                  replace db1000 := keepC hbn db1000
                                                                                  replace db1001 := keepC hbn db1001
                                                                                  replace db1002 := keepC hbn db1002
                                                                                  replace db1100 := keepC hbn db1100
                                                                                  replace db1101 := keepC hbn db1101
                                                                                  replace db1102 := keepC hbn db1102
                                                                                  replace db1200 := keepC hbn db1200
                                                                                  replace db1201 := keepC hbn db1201
                                                                                  replace hB := below_of hB hbn hB.size
                                                                                  clear hbn
                                                                                  as_aux_lemma =>
                                                                                    go_upto_region 54 with fail
                                                                                    as_aux_lemma =>
                                                                                      generalize hW : (World.alloc (World.alloc (World.alloc w' (.cells #[.int .i64 ax, .int .i64 ay] 25)) (.cells #[.int .i64 bx, .int .i64 by_] 25)) (.cells #[.int .i64 cx, .int .i64 cy] 25)) = W16
                                                                                      have db1300 : W16.cell? ⟨w'.heap.size, 0, none⟩ = some (.int .i64 ax) := by subst hW; go_simp
                                                                                      have db1301 : W16.cell? ⟨w'.heap.size, 1, none⟩ = some (.int .i64 ay) := by subst hW; go_simp
                                                                                      have db1310 : W16.cell? ⟨w'.heap.size + 1, 0, none⟩ = some (.int .i64 bx) := by subst hW; go_simp
                                                                                      have db1311 : W16.cell? ⟨w'.heap.size + 1, 1, none⟩ = some (.int .i64 by_) := by subst hW; go_simp
                                                                                      have db1320 : W16.cell? ⟨w'.heap.size + 1 + 1, 0, none⟩ = some (.int .i64 cx) := by subst hW; go_simp
                                                                                      have db1321 : W16.cell? ⟨w'.heap.size + 1 + 1, 1, none⟩ = some (.int .i64 cy) := by subst hW; go_simp
                                                                                      have hbn : Below w'.heap.size w' W16 := by subst hW; go_grown
                                                                                      replace h_S3 := h_S3.keep hbn
                                                                                      replace h_S4 := h_S4.keep hbn
                                                                                      replace h_S5 := h_S5.keep hbn
                                                                                      replace h_S6 := h_S6.keep hbn
                                                                                      replace db900 := keepC hbn db900
                                                                                      replace db901 := keepC hbn db901
                                                                                      replace db902 := keepC hbn db902
                                                                                      replace db1000 := keepC hbn db1000
                                                                                      replace db1001 := keepC hbn db1001
                                                                                      replace db1002 := keepC hbn db1002
                                                                                      replace db1100 := keepC hbn db1100
                                                                                      replace db1101 := keepC hbn db1101
                                                                                      replace db1102 := keepC hbn db1102
                                                                                      replace db1200 := keepC hbn db1200
                                                                                      replace db1201 := keepC hbn db1201
                                                                                      have hle13 := hB.size
                                                                                      replace hB := below_of hB hbn hB.size
                                                                                      clear hW hbn
                                                                                      generalize w'.heap.size = r_13 at *
                                                                                      clear w'
                                                                                      as_aux_lemma =>
                                                                                        go_wp2_with fail
                                                                                        obtain ⟨cb, cq, hC⟩ : ∃ cb cq, Hid (Pl.collOf i0 ax ay bx by_ cx cy = (cb, cq)) := ⟨_, _, rfl⟩
                                                                                        obtain ⟨av, aq, hA⟩ : ∃ av aq, Hid (Pl.areaOf i0 ax ay bx by_ cx cy = (av, aq)) := ⟨_, _, rfl⟩
                                                                                        refine (AreCollinear_any i0 ax ay bx by_ cx cy _).mono ?_
                                                                                        rintro e w' ⟨he, hbn⟩
                                                                                        rw [hC.out] at he
                                                                                        dsimp only at he
                                                                                        subst he
                                                                                        replace h_S3 := h_S3.keep hbn
                                                                                        replace h_S4 := h_S4.keep hbn
                                                                                        replace h_S5 := h_S5.keep hbn
                                                                                        replace h_S6 := h_S6.keep hbn
                                                                                        replace db900 := keepC hbn db900
                                                                                        replace db901 := keepC hbn db901
                                                                                        replace db902 := keepC hbn db902
                                                                                        replace db1000 := keepC hbn db1000
                                                                                        replace db1001 := keepC hbn db1001
                                                                                        replace db1002 := keepC hbn db1002
                                                                                        replace db1100 := keepC hbn db1100
                                                                                        replace db1101 := keepC hbn db1101
                                                                                        replace db1102 := keepC hbn db1102
                                                                                        replace db1200 := keepC hbn db1200
                                                                                        replace db1201 := keepC hbn db1201
                                                                                        replace db1300 := keepC hbn db1300
                                                                                        replace db1301 := keepC hbn db1301
                                                                                        replace db1310 := keepC hbn db1310
                                                                                        replace db1311 := keepC hbn db1311
                                                                                        replace db1320 := keepC hbn db1320
                                                                                        replace db1321 := keepC hbn db1321
                                                                                        replace hB := below_of hB hbn hB.size
                                                                                        clear hbn
                                                                                        as_aux_lemma =>
                                                                                          go_wp2_with fail
                                                                                          refine (sAreCollinear_any i0 ax ay bx by_ cx cy _).mono ?_
                                                                                          rintro e w' ⟨he, hbn⟩
                                                                                          rw [hC.out] at he
                                                                                          dsimp only at he
                                                                                          subst he
                                                                                          replace h_S3 := h_S3.keep hbn
                                                                                          replace h_S4 := h_S4.keep hbn
                                                                                          replace h_S5 := h_S5.keep hbn
                                                                                          replace h_S6 := h_S6.keep hbn
                                                                                          replace db900 := keepC hbn db900
                                                                                          replace db901 := keepC hbn db901
                                                                                          replace db902 := keepC hbn db902
                                                                                          replace db1000 := keepC hbn db1000
                                                                                          replace db1001 := keepC hbn db1001
                                                                                          replace db1002 := keepC hbn db1002
                                                                                          replace db1100 := keepC hbn db1100
                                                                                          replace db1101 := keepC hbn db1101
                                                                                          replace db1102 := keepC hbn db1102
                                                                                          replace db1200 := keepC hbn db1200
                                                                                          replace db1201 := keepC hbn db1201
                                                                                          replace db1300 := keepC hbn db1300
                                                                                          replace db1301 := keepC hbn db1301
                                                                                          replace db1310 := keepC hbn db1310
                                                                                          replace db1311 := keepC hbn db1311
                                                                                          replace db1320 := keepC hbn db1320
                                                                                          replace db1321 := keepC hbn db1321
                                                                                          replace hB := below_of hB hbn hB.size
                                                                                          clear hbn
                                                                                          as_aux_lemma =>
                                                                                            go_wp2_with fail
                                                                                            refine (DoubledArea_any i0 ax ay bx by_ cx cy _).mono ?_
                                                                                            rintro e w' ⟨he, hbn⟩
                                                                                            rw [hA.out] at he
                                                                                            dsimp only at he
                                                                                            subst he
                                                                                            replace h_S3 := h_S3.keep hbn
                                                                                            replace h_S4 := h_S4.keep hbn
                                                                                            replace h_S5 := h_S5.keep hbn
                                                                                            replace h_S6 := h_S6.keep hbn
                                                                                            replace db900 := keepC hbn db900
                                                                                            replace db901 := keepC hbn db901
                                                                                            replace db902 := keepC hbn db902
                                                                                            replace db1000 := keepC hbn db1000
                                                                                            replace db1001 := keepC hbn db1001
                                                                                            replace db1002 := keepC hbn db1002
                                                                                            replace db1100 := keepC hbn db1100
                                                                                            replace db1101 := keepC hbn db1101
                                                                                            replace db1102 := keepC hbn db1102
                                                                                            replace db1200 := keepC hbn db1200
                                                                                            replace db1201 := keepC hbn db1201
                                                                                            replace db1300 := keepC hbn db1300
                                                                                            replace db1301 := keepC hbn db1301
                                                                                            replace db1310 := keepC hbn db1310
                                                                                            replace db1311 := keepC hbn db1311
                                                                                            replace db1320 := keepC hbn db1320
                                                                                            replace db1321 := keepC hbn db1321
                                                                                            replace hB := below_of hB hbn hB.size
                                                                                            clear hbn
                                                                                            as_aux_lemma =>
                                                                                              go_wp2_with fail
                                                                                              refine (sDoubledArea_any i0 ax ay bx by_ cx cy _).mono ?_
                                                                                              rintro e w' ⟨he, hbn⟩
                                                                                              rw [hA.out] at he
                                                                                              dsimp only at he
                                                                                              subst he
                                                                                              replace h_S3 := h_S3.keep hbn
                                                                                              replace h_S4 := h_S4.keep hbn
                                                                                              replace h_S5 := h_S5.keep hbn
                                                                                              replace h_S6 := h_S6.keep hbn
                                                                                              replace db900 := keepC hbn db900
                                                                                              replace db901 := keepC hbn db901
                                                                                              replace db902 := keepC hbn db902
                                                                                              replace db1000 := keepC hbn db1000
                                                                                              replace db1001 := keepC hbn db1001
                                                                                              replace db1002 := keepC hbn db1002
                                                                                              replace db1100 := keepC hbn db1100
                                                                                              replace db1101 := keepC hbn db1101
                                                                                              replace db1102 := keepC hbn db1102
                                                                                              replace db1200 := keepC hbn db1200
                                                                                              replace db1201 := keepC hbn db1201
                                                                                              replace db1300 := keepC hbn db1300
                                                                                              replace db1301 := keepC hbn db1301
                                                                                              replace db1310 := keepC hbn db1310
                                                                                              replace db1311 := keepC hbn db1311
                                                                                              replace db1320 := keepC hbn db1320
                                                                                              replace db1321 := keepC hbn db1321
                                                                                              replace hB := below_of hB hbn hB.size
                                                                                              clear hbn
                                                                                              clear hC hA
                                                                                              as_aux_lemma =>
                                                                                                go_wp2_with fail
                                                                                                refine (drawMidpointOf_any _ _ ((hby.below hB).raise hB.size)).mono ?_
                                                                                                rintro e w' ⟨⟨w0, ax, ay, bx, by_, rfl⟩, hbn⟩
                                                                                                replace h_S3 := h_S3.keep hbn
                                                                                                replace h_S4 := h_S4.keep hbn
                                                                                                replace h_S5 := h_S5.keep hbn
                                                                                                replace h_S6 := h_S6.keep hbn
                                                                                                replace db900 := keepC hbn db900
                                                                                                replace db901 := keepC hbn db901
                                                                                                replace db902 := keepC hbn db902
                                                                                                replace db1000 := keepC hbn db1000
                                                                                                replace db1001 := keepC hbn db1001
                                                                                                replace db1002 := keepC hbn db1002
                                                                                                replace db1100 := keepC hbn db1100
                                                                                                replace db1101 := keepC hbn db1101
                                                                                                replace db1102 := keepC hbn db1102
                                                                                                replace db1200 := keepC hbn db1200
                                                                                                replace db1201 := keepC hbn db1201
                                                                                                replace db1300 := keepC hbn db1300
                                                                                                replace db1301 := keepC hbn db1301
                                                                                                replace db1310 := keepC hbn db1310
                                                                                                replace db1311 := keepC hbn db1311
                                                                                                replace db1320 := keepC hbn db1320
                                                                                                replace db1321 := keepC hbn db1321
                                                                                                replace hB := below_of hB hbn hB.size
                                                                                                clear hbn
                                                                                                as_aux_lemma =>
                                                                                                  go_upto_region 59 with fail
                                                                                                  as_aux_lemma =>
                                                                                                    generalize hW : (World.alloc (World.alloc w' (.cells #[.int .i64 ax, .int .i64 ay] 25)) (.cells #[.int .i64 bx, .int .i64 by_] 25)) = W17
                                                                                                    have db1400 : W17.cell? ⟨w'.heap.size, 0, none⟩ = some (.int .i64 ax) := by subst hW; go_simp
                                                                                                    have db1401 : W17.cell? ⟨w'.heap.size, 1, none⟩ = some (.int .i64 ay) := by subst hW; go_simp
                                                                                                    have db1410 : W17.cell? ⟨w'.heap.size + 1, 0, none⟩ = some (.int .i64 bx) := by subst hW; go_simp
                                                                                                    have db1411 : W17.cell? ⟨w'.heap.size + 1, 1, none⟩ = some (.int .i64 by_) := by subst hW; go_simp
                                                                                                    have hbn : Below w'.heap.size w' W17 := by subst hW; go_grown
                                                                                                    replace h_S3 := h_S3.keep hbn
                                                                                                    replace h_S4 := h_S4.keep hbn
                                                                                                    replace h_S5 := h_S5.keep hbn
                                                                                                    replace h_S6 := h_S6.keep hbn
                                                                                                    replace db900 := keepC hbn db900
                                                                                                    replace db901 := keepC hbn db901
                                                                                                    replace db902 := keepC hbn db902
                                                                                                    replace db1000 := keepC hbn db1000
                                                                                                    replace db1001 := keepC hbn db1001
                                                                                                    replace db1002 := keepC hbn db1002
                                                                                                    replace db1100 := keepC hbn db1100
                                                                                                    replace db1101 := keepC hbn db1101
                                                                                                    replace db1102 := keepC hbn db1102
                                                                                                    replace db1200 := keepC hbn db1200
                                                                                                    replace db1201 := keepC hbn db1201
                                                                                                    replace db1300 := keepC hbn db1300
                                                                                                    replace db1301 := keepC hbn db1301
                                                                                                    replace db1310 := keepC hbn db1310
                                                                                                    replace db1311 := keepC hbn db1311
                                                                                                    replace db1320 := keepC hbn db1320
                                                                                                    replace db1321 := keepC hbn db1321
                                                                                                    have hle14 := hB.size
                                                                                                    replace hB := below_of hB hbn hB.size
                                                                                                    clear hW hbn
                                                                                                    generalize w'.heap.size = r_14 at *
                                                                                                    clear w'
                                                                                                    as_aux_lemma =>
                                                                                                      go_wp2_with fail
                                                                                                      obtain ⟨kx, ky, kq, hK, ⟨⟨kx1, kx2⟩, ky1, ky2⟩⟩ := Pl.mid_ex w0 ax ay bx by_
                                                                                                      replace hK := hid hK
                                                                                                      have hE5 : ∀ w', (Op.equalIn 10000 25 (.agg #[.int .i64 kx, .int .i64 ky]) (.agg #[.int .i64 kx, .int .i64 ky])).run Tryz.prog w' = .ok true w' := fun w' => eqPt_same w' kx1 kx2 ky1 ky2
                                                                                                      clear kx1 kx2 ky1 ky2
                                                                                                      refine (MidpointOf_any w0 ax ay bx by_ _).mono ?_
                                                                                                      rintro e w' ⟨he, hbn⟩
                                                                                                      rw [hK.out] at he
                                                                                                      dsimp only at he
                                                                                                      subst he
                                                                                                      replace h_S3 := h_S3.keep hbn
                                                                                                      replace h_S4 := h_S4.keep hbn
                                                                                                      replace h_S5 := h_S5.keep hbn
                                                                                                      replace h_S6 := h_S6.keep hbn
                                                                                                      replace db900 := keepC hbn db900
                                                                                                      replace db901 := keepC hbn db901
                                                                                                      replace db902 := keepC hbn db902
                                                                                                      replace db1000 := keepC hbn db1000
                                                                                                      replace db1001 := keepC hbn db1001
                                                                                                      replace db1002 := keepC hbn db1002
                                                                                                      replace db1100 := keepC hbn db1100
                                                                                                      replace db1101 := keepC hbn db1101
                                                                                                      replace db1102 := keepC hbn db1102
                                                                                                      replace db1200 := keepC hbn db1200
                                                                                                      replace db1201 := keepC hbn db1201
                                                                                                      replace db1300 := keepC hbn db1300
                                                                                                      replace db1301 := keepC hbn db1301
                                                                                                      replace db1310 := keepC hbn db1310
                                                                                                      replace db1311 := keepC hbn db1311
                                                                                                      replace db1320 := keepC hbn db1320
                                                                                                      replace db1321 := keepC hbn db1321
                                                                                                      replace db1400 := keepC hbn db1400
                                                                                                      replace db1401 := keepC hbn db1401
                                                                                                      replace db1410 := keepC hbn db1410
                                                                                                      replace db1411 := keepC hbn db1411
                                                                                                      replace hB := below_of hB hbn hB.size
                                                                                                      clear hbn
                                                                                                      go_upto_region 60 with fail
                                                                                                      generalize hW : (World.alloc w' (.cells #[.int .i64 kx, .int .i64 ky] 25)) = W18
                                                                                                      have db1500 : W18.cell? ⟨w'.heap.size, 0, none⟩ = some (.int .i64 kx) := by subst hW; go_simp
                                                                                                      have db1501 : W18.cell? ⟨w'.heap.size, 1, none⟩ = some (.int .i64 ky) := by subst hW; go_simp
                                                                                                      have hbn : Below w'.heap.size w' W18 := by subst hW; go_grown
                                                                                                      replace h_S3 := h_S3.keep hbn
                                                                                                      replace h_S4 := h_S4.keep hbn
                                                                                                      replace h_S5 := h_S5.keep hbn
                                                                                                      replace h_S6 := h_S6.keep hbn
                                                                                                      replace db900 := keepC hbn db900
                                                                                                      replace db901 := keepC hbn db901
                                                                                                      replace db902 := keepC hbn db902
                                                                                                      replace db1000 := keepC hbn db1000
                                                                                                      replace db1001 := keepC hbn db1001
                                                                                                      replace db1002 := keepC hbn db1002
                                                                                                      replace db1100 := keepC hbn db1100
                                                                                                      replace db1101 := keepC hbn db1101
                                                                                                      replace db1102 := keepC hbn db1102
                                                                                                      replace db1200 := keepC hbn db1200
                                                                                                      replace db1201 := keepC hbn db1201
                                                                                                      replace db1300 := keepC hbn db1300
                                                                                                      replace db1301 := keepC hbn db1301
                                                                                                      replace db1310 := keepC hbn db1310
                                                                                                      replace db1311 := keepC hbn db1311
                                                                                                      replace db1320 := keepC hbn db1320
                                                                                                      replace db1321 := keepC hbn db1321
                                                                                                      replace db1400 := keepC hbn db1400
                                                                                                      replace db1401 := keepC hbn db1401
                                                                                                      replace db1410 := keepC hbn db1410
                                                                                                      replace db1411 := keepC hbn db1411
                                                                                                      have hle15 := hB.size
                                                                                                      replace hB := below_of hB hbn hB.size
                                                                                                      clear hW hbn
                                                                                                      generalize w'.heap.size = r_15 at *
                                                                                                      clear w'
                                                                                                      as_aux_lemma =>
                                                                                                        go_wp2_with fail
                                                                                                        refine (sMidpointOf_any w0 ax ay bx by_ _).mono ?_
                                                                                                        rintro e w' ⟨he, hbn⟩
                                                                                                        rw [hK.out] at he
                                                                                                        dsimp only at he
                                                                                                        subst he
                                                                                                        replace h_S3 := h_S3.keep hbn
                                                                                                        replace h_S4 := h_S4.keep hbn
                                                                                                        replace h_S5 := h_S5.keep hbn
                                                                                                        replace h_S6 := h_S6.keep hbn
                                                                                                        replace db900 := keepC hbn db900
                                                                                                        replace db901 := keepC hbn db901
                                                                                                        replace db902 := keepC hbn db902
                                                                                                        replace db1000 := keepC hbn db1000
                                                                                                        replace db1001 := keepC hbn db1001
                                                                                                        replace db1002 := keepC hbn db1002
                                                                                                        replace db1100 := keepC hbn db1100
                                                                                                        replace db1101 := keepC hbn db1101
                                                                                                        replace db1102 := keepC hbn db1102
                                                                                                        replace db1200 := keepC hbn db1200
                                                                                                        replace db1201 := keepC hbn db1201
                                                                                                        replace db1300 := keepC hbn db1300
                                                                                                        replace db1301 := keepC hbn db1301
                                                                                                        replace db1310 := keepC hbn db1310
                                                                                                        replace db1311 := keepC hbn db1311
                                                                                                        replace db1320 := keepC hbn db1320
                                                                                                        replace db1321 := keepC hbn db1321
                                                                                                        replace db1400 := keepC hbn db1400
                                                                                                        replace db1401 := keepC hbn db1401
                                                                                                        replace db1410 := keepC hbn db1410
                                                                                                        replace db1411 := keepC hbn db1411
                                                                                                        replace db1500 := keepC hbn db1500
                                                                                                        replace db1501 := keepC hbn db1501
                                                                                                        replace hB := below_of hB hbn hB.size
                                                                                                        clear hbn
                                                                                                        clear hK
                                                                                                        go_upto_region 61 with fail
                                                                                                        generalize hW : (World.alloc w' (.cells #[.int .i64 kx, .int .i64 ky] 25)) = W19
                                                                                                        have db1600 : W19.cell? ⟨w'.heap.size, 0, none⟩ = some (.int .i64 kx) := by subst hW; go_simp
                                                                                                        have db1601 : W19.cell? ⟨w'.heap.size, 1, none⟩ = some (.int .i64 ky) := by subst hW; go_simp
                                                                                                        have hbn : Below w'.heap.size w' W19 := by subst hW; go_grown
                                                                                                        replace h_S3 := h_S3.keep hbn
                                                                                                        replace h_S4 := h_S4.keep hbn
                                                                                                        replace h_S5 := h_S5.keep hbn
                                                                                                        replace h_S6 := h_S6.keep hbn
                                                                                                        replace db900 := keepC hbn db900
                                                                                                        replace db901 := keepC hbn db901
                                                                                                        replace db902 := keepC hbn db902
                                                                                                        replace db1000 := keepC hbn db1000
                                                                                                        replace db1001 := keepC hbn db1001
                                                                                                        replace db1002 := keepC hbn db1002
                                                                                                        replace db1100 := keepC hbn db1100
                                                                                                        replace db1101 := keepC hbn db1101
                                                                                                        replace db1102 := keepC hbn db1102
                                                                                                        replace db1200 := keepC hbn db1200
                                                                                                        replace db1201 := keepC hbn db1201
                                                                                                        replace db1300 := keepC hbn db1300
                                                                                                        replace db1301 := keepC hbn db1301
                                                                                                        replace db1310 := keepC hbn db1310
                                                                                                        replace db1311 := keepC hbn db1311
                                                                                                        replace db1320 := keepC hbn db1320
                                                                                                        replace db1321 := keepC hbn db1321
                                                                                                        replace db1400 := keepC hbn db1400
                                                                                                        replace db1401 := keepC hbn db1401
                                                                                                        replace db1410 := keepC hbn db1410
                                                                                                        replace db1411 := keepC hbn db1411
                                                                                                        replace db1500 := keepC hbn db1500
                                                                                                        replace db1501 := keepC hbn db1501
                                                                                                        have hle16 := hB.size
                                                                                                        replace hB := below_of hB hbn hB.size
                                                                                                        clear hW hbn
                                                                                                        generalize w'.heap.size = r_16 at *
                                                                                                        clear w'
                                                                                                        as_aux_lemma =>
                                                                                                          go_wp2_with fail
                                                                                                          refine (drawIsOnLine_any _ _ ((hby.below hB).raise hB.size)).mono ?_
                                                                                                          rintro e w' ⟨⟨o0, dx, dy, fa, fb, fc, rfl⟩, hbn⟩
                                                                                                          replace h_S3 := h_S3.keep hbn
                                                                                                          replace h_S4 := h_S4.keep hbn
                                                                                                          replace h_S5 := h_S5.keep hbn
                                                                                                          replace h_S6 := h_S6.keep hbn
                                                                                                          replace db900 := keepC hbn db900
                                                                                                          replace db901 := keepC hbn db901
                                                                                                          replace db902 := keepC hbn db902
                                                                                                          replace db1000 := keepC hbn db1000
                                                                                                          replace db1001 := keepC hbn db1001
                                                                                                          replace db1002 := keepC hbn db1002
                                                                                                          replace db1100 := keepC hbn db1100
                                                                                                          replace db1101 := keepC hbn db1101
                                                                                                          replace db1102 := keepC hbn db1102
                                                                                                          replace db1200 := keepC hbn db1200
                                                                                                          replace db1201 := keepC hbn db1201
                                                                                                          replace db1300 := keepC hbn db1300
                                                                                                          replace db1301 := keepC hbn db1301
                                                                                                          replace db1310 := keepC hbn db1310
                                                                                                          replace db1311 := keepC hbn db1311
                                                                                                          replace db1320 := keepC hbn db1320
                                                                                                          replace db1321 := keepC hbn db1321
                                                                                                          replace db1400 := keepC hbn db1400
                                                                                                          replace db1401 := keepC hbn db1401
                                                                                                          replace db1410 := keepC hbn db1410
                                                                                                          replace db1411 := keepC hbn db1411
                                                                                                          replace db1500 := keepC hbn db1500
                                                                                                          replace db1501 := keepC hbn db1501
                                                                                                          replace db1600 := keepC hbn db1600
                                                                                                          replace db1601 := keepC hbn db1601
                                                                                                          replace hB := below_of hB hbn hB.size
                                                                                                          clear hbn
                                                                                                          as_aux_lemma =>
                                                                                                            go_upto_region 62 with fail
                                                                                                            as_aux_lemma =>
                                                                                                              generalize hW : (World.alloc (World.alloc w' (.cells #[.int .i64 dx, .int .i64 dy] 25)) (.cells #[.int .i64 fa, .int .i64 fb, .int .i64 fc] 29)) = W20
                                                                                                              have db1700 : W20.cell? ⟨w'.heap.size, 0, none⟩ = some (.int .i64 dx) := by subst hW; go_simp
                                                                                                              have db1701 : W20.cell? ⟨w'.heap.size, 1, none⟩ = some (.int .i64 dy) := by subst hW; go_simp
                                                                                                              have db1710 : W20.cell? ⟨w'.heap.size + 1, 0, none⟩ = some (.int .i64 fa) := by subst hW; go_simp
                                                                                                              have db1711 : W20.cell? ⟨w'.heap.size + 1, 1, none⟩ = some (.int .i64 fb) := by subst hW; go_simp
                                                                                                              have db1712 : W20.cell? ⟨w'.heap.size + 1, 2, none⟩ = some (.int .i64 fc) := by subst hW; go_simp
                                                                                                              have hbn : Below w'.heap.size w' W20 := by subst hW; go_grown
                                                                                                              replace h_S3 := h_S3.keep hbn
                                                                                                              replace h_S4 := h_S4.keep hbn
                                                                                                              replace h_S5 := h_S5.keep hbn
                                                                                                              replace h_S6 := h_S6.keep hbn
                                                                                                              replace db900 := keepC hbn db900
                                                                                                              replace db901 := keepC hbn db901
                                                                                                              replace db902 := keepC hbn db902
                                                                                                              replace db1000 := keepC hbn db1000
                                                                                                              replace db1001 := keepC hbn db1001
                                                                                                              replace db1002 := keepC hbn db1002
                                                                                                              replace db1100 := keepC hbn db1100
                                                                                                              replace db1101 := keepC hbn db1101
                                                                                                              replace db1102 := keepC hbn db1102
                                                                                                              replace db1200 := keepC hbn db1200
                                                                                                              replace db1201 := keepC hbn db1201
                                                                                                              replace db1300 := keepC hbn db1300
                                                                                                              replace db1301 := keepC hbn db1301
                                                                                                              replace db1310 := keepC hbn db1310
                                                                                                              replace db1311 := keepC hbn db1311
                                                                                                              replace db1320 := keepC hbn db1320
                                                                                                              replace db1321 := keepC hbn db1321
                                                                                                              replace db1400 := keepC hbn db1400
                                                                                                              replace db1401 := keepC hbn db1401
                                                                                                              replace db1410 := keepC hbn db1410
                                                                                                              replace db1411 := keepC hbn db1411
                                                                                                              replace db1500 := keepC hbn db1500
                                                                                                              replace db1501 := keepC hbn db1501
                                                                                                              replace db1600 := keepC hbn db1600
                                                                                                              replace db1601 := keepC hbn db1601
                                                                                                              have hle17 := hB.size
                                                                                                              replace hB := below_of hB hbn hB.size
                                                                                                              clear hW hbn
                                                                                                              generalize w'.heap.size = r_17 at *
                                                                                                              clear w'
                                                                                                              as_aux_lemma =>
                                                                                                                go_wp2_with fail
                                                                                                                obtain ⟨ib, iq, hI⟩ : ∃ ib iq, Hid (Pl.onOf o0 dx dy fa fb fc = (ib, iq)) := ⟨_, _, rfl⟩
                                                                                                                refine (IsOnLine_any o0 dx dy fa fb fc _).mono ?_
                                                                                                                rintro e w' ⟨he, hbn⟩
                                                                                                                rw [hI.out] at he
                                                                                                                dsimp only at he
                                                                                                                subst he
                                                                                                                replace h_S3 := h_S3.keep hbn
                                                                                                                replace h_S4 := h_S4.keep hbn
                                                                                                                replace h_S5 := h_S5.keep hbn
                                                                                                                replace h_S6 := h_S6.keep hbn
                                                                                                                replace db900 := keepC hbn db900
                                                                                                                replace db901 := keepC hbn db901
                                                                                                                replace db902 := keepC hbn db902
                                                                                                                replace db1000 := keepC hbn db1000
                                                                                                                replace db1001 := keepC hbn db1001
                                                                                                                replace db1002 := keepC hbn db1002
                                                                                                                replace db1100 := keepC hbn db1100
                                                                                                                replace db1101 := keepC hbn db1101
                                                                                                                replace db1102 := keepC hbn db1102
                                                                                                                replace db1200 := keepC hbn db1200
                                                                                                                replace db1201 := keepC hbn db1201
                                                                                                                replace db1300 := keepC hbn db1300
                                                                                                                replace db1301 := keepC hbn db1301
                                                                                                                replace db1310 := keepC hbn db1310
                                                                                                                replace db1311 := keepC hbn db1311
                                                                                                                replace db1320 := keepC hbn db1320
                                                                                                                replace db1321 := keepC hbn db1321
                                                                                                                replace db1400 := keepC hbn db1400
                                                                                                                replace db1401 := keepC hbn db1401
                                                                                                                replace db1410 := keepC hbn db1410
                                                                                                                replace db1411 := keepC hbn db1411
                                                                                                                replace db1500 := keepC hbn db1500
                                                                                                                replace db1501 := keepC hbn db1501
                                                                                                                replace db1600 := keepC hbn db1600
                                                                                                                replace db1601 := keepC hbn db1601
                                                                                                                replace db1700 := keepC hbn db1700
                                                                                                                replace db1701 := keepC hbn db1701
                                                                                                                replace db1710 := keepC hbn db1710
                                                                                                                replace db1711 := keepC hbn db1711
                                                                                                                replace db1712 := keepC hbn db1712
                                                                                                                replace hB := below_of hB hbn hB.size
                                                                                                                clear hbn
                                                                                                                as_aux_lemma =>
                                                                                                                  go_wp2_with fail
                                                                                                                  refine (sIsOnLine_any o0 dx dy fa fb fc _).mono ?_
                                                                                                                  rintro e w' ⟨he, hbn⟩
                                                                                                                  rw [hI.out] at he
                                                                                                                  dsimp only at he
                                                                                                                  subst he
                                                                                                                  replace h_S3 := h_S3.keep hbn
                                                                                                                  replace h_S4 := h_S4.keep hbn
                                                                                                                  replace h_S5 := h_S5.keep hbn
                                                                                                                  replace h_S6 := h_S6.keep hbn
                                                                                                                  replace db900 := keepC hbn db900
                                                                                                                  replace db901 := keepC hbn db901
                                                                                                                  replace db902 := keepC hbn db902
                                                                                                                  replace db1000 := keepC hbn db1000
                                                                                                                  replace db1001 := keepC hbn db1001
                                                                                                                  replace db1002 := keepC hbn db1002
                                                                                                                  replace db1100 := keepC hbn db1100
                                                                                                                  replace db1101 := keepC hbn db1101
                                                                                                                  replace db1102 := keepC hbn db1102
                                                                                                                  replace db1200 := keepC hbn db1200
                                                                                                                  replace db1201 := keepC hbn db1201
                                                                                                                  replace db1300 := keepC hbn db1300
                                                                                                                  replace db1301 := keepC hbn db1301
                                                                                                                  replace db1310 := keepC hbn db1310
                                                                                                                  replace db1311 := keepC hbn db1311
                                                                                                                  replace db1320 := keepC hbn db1320
                                                                                                                  replace db1321 := keepC hbn db1321
                                                                                                                  replace db1400 := keepC hbn db1400
                                                                                                                  replace db1401 := keepC hbn db1401
                                                                                                                  replace db1410 := keepC hbn db1410
                                                                                                                  replace db1411 := keepC hbn db1411
                                                                                                                  replace db1500 := keepC hbn db1500
                                                                                                                  replace db1501 := keepC hbn db1501
                                                                                                                  replace db1600 := keepC hbn db1600
                                                                                                                  replace db1601 := keepC hbn db1601
                                                                                                                  replace db1700 := keepC hbn db1700
                                                                                                                  replace db1701 := keepC hbn db1701
                                                                                                                  replace db1710 := keepC hbn db1710
                                                                                                                  replace db1711 := keepC hbn db1711
                                                                                                                  replace db1712 := keepC hbn db1712
                                                                                                                  replace hB := below_of hB hbn hB.size
                                                                                                                  clear hbn
                                                                                                                  clear hI
                                                                                                                  as_aux_lemma =>
                                                                                                                    go_wp2_with (first | (go_at_call 36; refine (points5_res h_S3 h_S4 (fun h => (hsp.out h).1) (fun h => (hsp.out h).2)).mono ?_; rintro e w' ⟨rfl, hbn⟩; replace h_S3 := h_S3.keep hbn; replace h_S4 := h_S4.keep hbn; replace h_S5 := h_S5.keep hbn; replace h_S6 := h_S6.keep hbn; replace db900 := keepC hbn db900; replace db901 := keepC hbn db901; replace db902 := keepC hbn db902; replace db1000 := keepC hbn db1000; replace db1001 := keepC hbn db1001; replace db1002 := keepC hbn db1002; replace db1100 := keepC hbn db1100; replace db1101 := keepC hbn db1101; replace db1102 := keepC hbn db1102; replace db1200 := keepC hbn db1200; replace db1201 := keepC hbn db1201; replace db1300 := keepC hbn db1300; replace db1301 := keepC hbn db1301; replace db1310 := keepC hbn db1310; replace db1311 := keepC hbn db1311; replace db1320 := keepC hbn db1320; replace db1321 := keepC hbn db1321; replace db1400 := keepC hbn db1400; replace db1401 := keepC hbn db1401; replace db1410 := keepC hbn db1410; replace db1411 := keepC hbn db1411; replace db1500 := keepC hbn db1500; replace db1501 := keepC hbn db1501; replace db1600 := keepC hbn db1600; replace db1601 := keepC hbn db1601; replace db1700 := keepC hbn db1700; replace db1701 := keepC hbn db1701; replace db1710 := keepC hbn db1710; replace db1711 := keepC hbn db1711; replace db1712 := keepC hbn db1712; replace hB := below_of hB hbn hB.size; clear hbn) | (go_at_call 37; refine (lines5_res h_S5 h_S6 (fun h => (hsl.out h).1) (fun h => (hsl.out h).2)).mono ?_; rintro e w' ⟨rfl, hbn⟩; replace h_S3 := h_S3.keep hbn; replace h_S4 := h_S4.keep hbn; replace h_S5 := h_S5.keep hbn; replace h_S6 := h_S6.keep hbn; replace db900 := keepC hbn db900; replace db901 := keepC hbn db901; replace db902 := keepC hbn db902; replace db1000 := keepC hbn db1000; replace db1001 := keepC hbn db1001; replace db1002 := keepC hbn db1002; replace db1100 := keepC hbn db1100; replace db1101 := keepC hbn db1101; replace db1102 := keepC hbn db1102; replace db1200 := keepC hbn db1200; replace db1201 := keepC hbn db1201; replace db1300 := keepC hbn db1300; replace db1301 := keepC hbn db1301; replace db1310 := keepC hbn db1310; replace db1311 := keepC hbn db1311; replace db1320 := keepC hbn db1320; replace db1321 := keepC hbn db1321; replace db1400 := keepC hbn db1400; replace db1401 := keepC hbn db1401; replace db1410 := keepC hbn db1410; replace db1411 := keepC hbn db1411; replace db1500 := keepC hbn db1500; replace db1501 := keepC hbn db1501; replace db1600 := keepC hbn db1600; replace db1601 := keepC hbn db1601; replace db1700 := keepC hbn db1700; replace db1701 := keepC hbn db1701; replace db1710 := keepC hbn db1710; replace db1711 := keepC hbn db1711; replace db1712 := keepC hbn db1712; replace hB := below_of hB hbn hB.size; clear hbn))
                                                                                                                    go_ret
                                                                                                                    exact ⟨rfl, hB⟩
end Go.Proofs.YtbjcbbnfgfmllaaGreat.fnLines
