/- FnSpreads: the walk. -/
import Derived.Test.YtbjcbbnfgfmllaaDr10
import Derived.Test.YtbjcbbnfgfmllaaI
import Derived.Test.YtbjcbbnfgfmllaaD
import Derived.Test.YtbjcbbnfgfmllaaO2
import Derived.Test.YtbjcbbnfgfmllaaO4
import Derived.Test.YtbjcbbnfgfmllaaLrt
import Derived.Test.YtbjcbbnfgfmllaaLike
import Derived.Test.YtbjcbbnfgfmllaaPl18
import Derived.Test.YtbjcbbnfgfmllaaBig
set_option linter.unusedVariables false
set_option linter.unusedSimpArgs false
set_option maxHeartbeats 4000000
set_option maxRecDepth 100000
namespace Go.Proofs.Ytbjcbbnfgfmllaa.fnSpreads
open Go.RowKit
theorem walk (v : Value) (w : World) (hv : CodeArg w v) : Calls Try.prog 3 #[v] w fun e w' => e = .returned (.bool true) ∧ Below w.heap.size w w' := by
  obtain ⟨o, n, c, rfl, h0, hc⟩ := hv
  by_cases hn : 4096 < n
  · go_enter Try.func3, Try.ntmps3
    go_wp2_with (go_at_call 6; refine (big_yes _ _ _ _ hn).mono ?_; rintro e w' ⟨rfl, rfl⟩)
    go_ret
    exact ⟨rfl, Below.refl _ _⟩
  have hby : Bytes w w.heap.size (.slice o n c) := ⟨o, n, c, rfl, by omega, h0, hc⟩
  clear h0 hc
  go_enter Try.func3, Try.ntmps3
  go_wp2_with (go_at_call 6; refine (big_no _ _ _ _ (by omega)).mono ?_; rintro e w' ⟨rfl, rfl⟩)
  have hB := Below.refl w.heap.size w
  clear hn
  refine (drawSpreadOf_any _ _ ((hby.below hB).raise hB.size)).mono ?_
  rintro e w' ⟨⟨p, k, la, lb, lc, ma, mb, mc, rfl⟩, hbn⟩
  replace hB := below_of hB hbn hB.size
  clear hbn
  as_aux_lemma =>
    go_upto_region 4 with fail
    as_aux_lemma =>
      generalize hW : (World.alloc (World.alloc w' (.cells #[.int .i64 la, .int .i64 lb, .int .i64 lc] 25)) (.cells #[.int .i64 ma, .int .i64 mb, .int .i64 mc] 25)) = W3
      have db000 : W3.cell? ⟨w'.heap.size, 0, none⟩ = some (.int .i64 la) := by subst hW; go_simp
      have db001 : W3.cell? ⟨w'.heap.size, 1, none⟩ = some (.int .i64 lb) := by subst hW; go_simp
      have db002 : W3.cell? ⟨w'.heap.size, 2, none⟩ = some (.int .i64 lc) := by subst hW; go_simp
      have db010 : W3.cell? ⟨w'.heap.size + 1, 0, none⟩ = some (.int .i64 ma) := by subst hW; go_simp
      have db011 : W3.cell? ⟨w'.heap.size + 1, 1, none⟩ = some (.int .i64 mb) := by subst hW; go_simp
      have db012 : W3.cell? ⟨w'.heap.size + 1, 2, none⟩ = some (.int .i64 mc) := by subst hW; go_simp
      have hbn : Below w'.heap.size w' W3 := by subst hW; go_grown
      have hle0 := hB.size
      replace hB := below_of hB hbn hB.size
      clear hW hbn
      generalize w'.heap.size = r_0 at *
      clear w'
      as_aux_lemma =>
        go_wp2_with fail
        obtain ⟨s, c_, t, q1, q2, hS, hC, hT, ⟨s1, s2⟩, ⟨c1, c2⟩, ⟨t1, t2⟩, hL⟩ := Pl.spread_ex p k la lb lc ma mb mc
        replace hS := hid hS
        replace hC := hid hC
        replace hT := hid hT
        replace hL := hid hL
        refine (SpreadOf_any p k la lb lc ma mb mc _).mono ?_
        rintro e w' ⟨he, hbn⟩
        rw [hS.out] at he
        dsimp only at he
        subst he
        replace db000 := keepC hbn db000
        replace db001 := keepC hbn db001
        replace db002 := keepC hbn db002
        replace db010 := keepC hbn db010
        replace db011 := keepC hbn db011
        replace db012 := keepC hbn db012
        replace hB := below_of hB hbn hB.size
        clear hbn
        as_aux_lemma =>
          go_wp2_with fail
          refine (sSpreadOf_any p k la lb lc ma mb mc _).mono ?_
          rintro e w' ⟨he, hbn⟩
          rw [hS.out] at he
          dsimp only at he
          subst he
          replace db000 := keepC hbn db000
          replace db001 := keepC hbn db001
          replace db002 := keepC hbn db002
          replace db010 := keepC hbn db010
          replace db011 := keepC hbn db011
          replace db012 := keepC hbn db012
          replace hB := below_of hB hbn hB.size
          clear hbn
          as_aux_lemma =>
            go_wp2_with fail
            refine (CrossOf_any p k la lb lc ma mb mc _).mono ?_
            rintro e w' ⟨he, hbn⟩
            rw [hC.out] at he
            dsimp only at he
            subst he
            replace db000 := keepC hbn db000
            replace db001 := keepC hbn db001
            replace db002 := keepC hbn db002
            replace db010 := keepC hbn db010
            replace db011 := keepC hbn db011
            replace db012 := keepC hbn db012
            replace hB := below_of hB hbn hB.size
            clear hbn
            as_aux_lemma =>
              go_wp2_with fail
              refine (sCrossOf_any p k la lb lc ma mb mc _).mono ?_
              rintro e w' ⟨he, hbn⟩
              rw [hC.out] at he
              dsimp only at he
              subst he
              replace db000 := keepC hbn db000
              replace db001 := keepC hbn db001
              replace db002 := keepC hbn db002
              replace db010 := keepC hbn db010
              replace db011 := keepC hbn db011
              replace db012 := keepC hbn db012
              replace hB := below_of hB hbn hB.size
              clear hbn
              as_aux_lemma =>
                go_wp2_with fail
                refine (TwistOf_any p k la lb lc ma mb mc _).mono ?_
                rintro e w' ⟨he, hbn⟩
                rw [hT.out] at he
                dsimp only at he
                subst he
                replace db000 := keepC hbn db000
                replace db001 := keepC hbn db001
                replace db002 := keepC hbn db002
                replace db010 := keepC hbn db010
                replace db011 := keepC hbn db011
                replace db012 := keepC hbn db012
                replace hB := below_of hB hbn hB.size
                clear hbn
                as_aux_lemma =>
                  go_wp2_with fail
                  refine (sTwistOf_any p k la lb lc ma mb mc _).mono ?_
                  rintro e w' ⟨he, hbn⟩
                  rw [hT.out] at he
                  dsimp only at he
                  subst he
                  replace db000 := keepC hbn db000
                  replace db001 := keepC hbn db001
                  replace db002 := keepC hbn db002
                  replace db010 := keepC hbn db010
                  replace db011 := keepC hbn db011
                  replace db012 := keepC hbn db012
                  replace hB := below_of hB hbn hB.size
                  clear hbn
                  clear hS hC hT
                  as_aux_lemma =>
                    go_upto_if 154 with fail
                    go_cut [154] from 9999 to 9999 (fun s154 wr => Hid (Below w.heap.size w wr ∧ wr.cell? ⟨r_0, 0, none⟩ = some (.int .i64 la) ∧ wr.cell? ⟨r_0, 1, none⟩ = some (.int .i64 lb) ∧ wr.cell? ⟨r_0, 2, none⟩ = some (.int .i64 lc) ∧ wr.cell? ⟨r_0 + 1, 0, none⟩ = some (.int .i64 ma) ∧ wr.cell? ⟨r_0 + 1, 1, none⟩ = some (.int .i64 mb) ∧ wr.cell? ⟨r_0 + 1, 2, none⟩ = some (.int .i64 mc)))
                    case first =>
                      by_cases hz : q1 = 0
                      · have hzb : (q1 == 0) = true := by simpa using hz
                        obtain ⟨p1, p2, hS2, hP, hA, hT2⟩ := hL.out hz
                        clear hz hL
                        replace hS2 := hid hS2
                        replace hP := hid hP
                        have hA1 : (s + c_).tmod p = 1 := by rw [Pl.tmod_small (by omega)]; exact hA
                        go_wp2_with fail
                        refine (SpreadOf_any p k ma mb mc la lb lc _).mono ?_
                        rintro e w' ⟨he, hbn⟩
                        rw [hS2.out] at he
                        dsimp only at he
                        subst he
                        replace db000 := keepC hbn db000
                        replace db001 := keepC hbn db001
                        replace db002 := keepC hbn db002
                        replace db010 := keepC hbn db010
                        replace db011 := keepC hbn db011
                        replace db012 := keepC hbn db012
                        replace hB := below_of hB hbn hB.size
                        clear hbn
                        as_aux_lemma =>
                          go_wp2_with fail
                          refine (ArePerpendicular_any p k la lb lc ma mb mc _).mono ?_
                          rintro e w' ⟨he, hbn⟩
                          rw [hP.out] at he
                          dsimp only at he
                          subst he
                          replace db000 := keepC hbn db000
                          replace db001 := keepC hbn db001
                          replace db002 := keepC hbn db002
                          replace db010 := keepC hbn db010
                          replace db011 := keepC hbn db011
                          replace db012 := keepC hbn db012
                          replace hB := below_of hB hbn hB.size
                          clear hbn
                          clear hP hS2
                          by_cases hy : q2 = 0
                          · have hyb : (q2 == 0) = true := by simpa using hy
                            have hT3 := hT2 hy
                            clear hy hT2
                            have hm := Pl.mulB t1 t2 c1 c2
                            have hT4 : (t * c_).tmod p = s := by rw [Pl.tmod_small hm.1]; exact hT3
                            obtain ⟨hm1, hm2⟩ := hm
                            as_aux_lemma =>
                              go_wp2_with fail
                              go_meet
                              case rel => exact hid ⟨hB, db000, db001, db002, db010, db011, db012⟩
                          · have hyb : (q2 == 0) = false := by simpa using hy
                            clear hy hT2
                            as_aux_lemma =>
                              go_wp2_with fail
                              go_meet
                              case rel => exact hid ⟨hB, db000, db001, db002, db010, db011, db012⟩
                      · have hzb : (q1 == 0) = false := by simpa using hz
                        clear hz hL
                        go_wp2_with fail
                        go_meet
                        case rel => exact hid ⟨hB, db000, db001, db002, db010, db011, db012⟩
                    case rest =>
                      clear hB db000 db001 db002 db010 db011 db012
                      have hq := hcut
                      obtain ⟨hB, db000, db001, db002, db010, db011, db012⟩ := hq.out
                      try clear hq
                      try clear hcut
                      as_aux_lemma =>
                        clear hL s1 s2 c1 c2 t1 t2
                        clear db000 db001 db002 db010 db011 db012
                        go_wp2_with fail
                        refine (drawSpreadsOfTriangle_any _ _ ((hby.below hB).raise hB.size)).mono ?_
                        rintro e w' ⟨⟨z, dye, ax, ay, bx, by_, cx, cy, rfl⟩, hbn⟩
                        replace hB := below_of hB hbn hB.size
                        clear hbn
                        as_aux_lemma =>
                          go_upto_region 18 with fail
                          as_aux_lemma =>
                            generalize hW : (World.alloc (World.alloc (World.alloc w' (.cells #[.int .i64 ax, .int .i64 ay] 33)) (.cells #[.int .i64 bx, .int .i64 by_] 33)) (.cells #[.int .i64 cx, .int .i64 cy] 33)) = W4
                            have db100 : W4.cell? ⟨w'.heap.size, 0, none⟩ = some (.int .i64 ax) := by subst hW; go_simp
                            have db101 : W4.cell? ⟨w'.heap.size, 1, none⟩ = some (.int .i64 ay) := by subst hW; go_simp
                            have db110 : W4.cell? ⟨w'.heap.size + 1, 0, none⟩ = some (.int .i64 bx) := by subst hW; go_simp
                            have db111 : W4.cell? ⟨w'.heap.size + 1, 1, none⟩ = some (.int .i64 by_) := by subst hW; go_simp
                            have db120 : W4.cell? ⟨w'.heap.size + 1 + 1, 0, none⟩ = some (.int .i64 cx) := by subst hW; go_simp
                            have db121 : W4.cell? ⟨w'.heap.size + 1 + 1, 1, none⟩ = some (.int .i64 cy) := by subst hW; go_simp
                            have hbn : Below w'.heap.size w' W4 := by subst hW; go_grown
                            have hle1 := hB.size
                            replace hB := below_of hB hbn hB.size
                            clear hW hbn
                            generalize w'.heap.size = r_1 at *
                            clear w'
                            as_aux_lemma =>
                              go_wp2_with fail
                              obtain ⟨r, hR, hTri⟩ := Pl.tri_ex z dye ax ay bx by_ cx cy
                              replace hR := hid hR
                              replace hTri := hid hTri
                              have hLL : Hid (Pl.sot z dye ax ay bx by_ cx cy = [Pl.spreadP z dye ax ay bx by_ cx cy, Pl.spreadP z dye bx by_ ax ay cx cy, Pl.spreadP z dye cx cy ax ay bx by_]) := hid rfl
                              generalize Pl.spreadP z dye ax ay bx by_ cx cy = S0 at *
                              generalize Pl.spreadP z dye bx by_ ax ay cx cy = S1 at *
                              generalize Pl.spreadP z dye cx cy ax ay bx by_ = S2 at *
                              have hlo := hB.size
                              refine (SpreadsOfTriangle_res z dye ax ay bx by_ cx cy _).mono ?_
                              rintro e w' ⟨v1, rfl, h_S1, hbn⟩
                              replace h_S1 := h_S1.low hlo
                              clear hlo
                              replace db100 := keepC hbn db100
                              replace db101 := keepC hbn db101
                              replace db110 := keepC hbn db110
                              replace db111 := keepC hbn db111
                              replace db120 := keepC hbn db120
                              replace db121 := keepC hbn db121
                              replace hB := below_of hB hbn hB.size
                              clear hbn
                              as_aux_lemma =>
                                go_wp2_with fail
                                have hlo := hB.size
                                refine (sSpreadsOfTriangle_res z dye ax ay bx by_ cx cy _).mono ?_
                                rintro e w' ⟨v2, rfl, h_S2, hbn⟩
                                replace h_S2 := h_S2.low hlo
                                clear hlo
                                replace h_S1 := h_S1.keep hbn
                                replace db100 := keepC hbn db100
                                replace db101 := keepC hbn db101
                                replace db110 := keepC hbn db110
                                replace db111 := keepC hbn db111
                                replace db120 := keepC hbn db120
                                replace db121 := keepC hbn db121
                                replace hB := below_of hB hbn hB.size
                                clear hbn
                                generalize Pl.sot z dye ax ay bx by_ cx cy = LL at *
                                generalize Pl.triC z dye ax ay bx by_ cx cy = yq at *
                                have hl1 : 3 ≤ LL.length := by rw [hLL.out]; simp
                                have hl2 : LL.length ≤ 3 := by rw [hLL.out]; simp
                                have hl01 : 0 < LL.length := by omega
                                have hl11 : 1 < LL.length := by omega
                                have hl21 : 2 < LL.length := by omega
                                have hi11 : (1 : Int) < LL.length := by omega
                                have hi21 : (2 : Int) < LL.length := by omega
                                as_aux_lemma =>
                                  go_wp2_with fail
                                  refine (SpreadRatio_any z dye ax ay bx by_ cx cy _).mono ?_
                                  rintro e w' ⟨he, hbn⟩
                                  rw [hR.out] at he
                                  dsimp only at he
                                  subst he
                                  replace h_S1 := h_S1.keep hbn
                                  replace h_S2 := h_S2.keep hbn
                                  replace db100 := keepC hbn db100
                                  replace db101 := keepC hbn db101
                                  replace db110 := keepC hbn db110
                                  replace db111 := keepC hbn db111
                                  replace db120 := keepC hbn db120
                                  replace db121 := keepC hbn db121
                                  replace hB := below_of hB hbn hB.size
                                  clear hbn
                                  as_aux_lemma =>
                                    go_wp2_with fail
                                    refine (sSpreadRatio_any z dye ax ay bx by_ cx cy _).mono ?_
                                    rintro e w' ⟨he, hbn⟩
                                    rw [hR.out] at he
                                    dsimp only at he
                                    subst he
                                    replace h_S1 := h_S1.keep hbn
                                    replace h_S2 := h_S2.keep hbn
                                    replace db100 := keepC hbn db100
                                    replace db101 := keepC hbn db101
                                    replace db110 := keepC hbn db110
                                    replace db111 := keepC hbn db111
                                    replace db120 := keepC hbn db120
                                    replace db121 := keepC hbn db121
                                    replace hB := below_of hB hbn hB.size
                                    clear hbn
                                    clear hR
                                    as_aux_lemma =>
                                      go_upto_if 273 with (go_at_call 20; refine (likeInts_res h_S1 h_S2 (fun h0 => by omega)).mono ?_; rintro e w' ⟨rfl, hbn⟩; replace h_S1 := h_S1.keep hbn; replace db100 := keepC hbn db100; replace db101 := keepC hbn db101; replace db110 := keepC hbn db110; replace db111 := keepC hbn db111; replace db120 := keepC hbn db120; replace db121 := keepC hbn db121; replace hB := below_of hB hbn hB.size; clear hbn h_S2)
                                      go_cut [28, 273] from 217 to 257 (fun s28 s273 wr => s28 = v1 ∧ Hid (Below w.heap.size w wr ∧ wr.cell? ⟨r_1, 0, none⟩ = some (.int .i64 ax) ∧ wr.cell? ⟨r_1, 1, none⟩ = some (.int .i64 ay) ∧ wr.cell? ⟨r_1 + 1, 0, none⟩ = some (.int .i64 bx) ∧ wr.cell? ⟨r_1 + 1, 1, none⟩ = some (.int .i64 by_) ∧ wr.cell? ⟨r_1 + 1 + 1, 0, none⟩ = some (.int .i64 cx) ∧ wr.cell? ⟨r_1 + 1 + 1, 1, none⟩ = some (.int .i64 cy) ∧ LRes wr w.heap.size 2 1 LL.length LL yq v1))
                                      case first =>
                                        by_cases hz : yq = 0
                                        · obtain ⟨z1, z2, hR2, hAt, hTp, hTh, hme⟩ := hTri.out hz
                                          clear hTri
                                          obtain ⟨g1, c1, rfl, h_O1⟩ := h_S1.ok hz
                                          have hzb : (yq == 0) = true := by simpa using hz
                                          replace hz := hid hz
                                          clear h_S1
                                          replace hR2 := hid hR2
                                          replace hAt := hid hAt
                                          replace hTp := hid hTp
                                          replace hTh := hid hTh
                                          replace hme := hid hme
                                          have e0 := h_O1.cell (j := 0) (by omega)
                                          rw [show LL.getD 0 0 = S0 by rw [hLL.out]; rfl] at e0
                                          have e1 := h_O1.cell (j := 1) (by omega)
                                          rw [show LL.getD 1 0 = S1 by rw [hLL.out]; rfl] at e1
                                          have e2 := h_O1.cell (j := 2) (by omega)
                                          rw [show LL.getD 2 0 = S2 by rw [hLL.out]; rfl] at e2
                                          clear hLL
                                          as_aux_lemma =>
                                            go_wp2_with fail
                                            refine Reg.wp_region_grow (by kernel_rfl) 16 16 (fun _ => (#[.int .i64 0, .int .i64 0], 0)) (by kernel_rfl) ?_ ?_
                                            · intro k o h1 h2
                                              omega
                                            simp only [List.take_succ_cons, List.take_zero, List.drop_succ_cons, List.drop_zero]
                                            refine Reg.wpG_step (v := ?vr1x0) (fun wq hq => ?gr1x0) ?kr1x0
                                            case gr1x0 => (have q0 := keepC hq e0; have q1 := keepC hq e1; have q2 := keepC hq e2; refine Reg.gAt_val ?_; go_simp; first | done | (with_reducible rfl) | rfl)
                                            try simp only [Act.put, List.setIfInBounds_toArray, List.set_cons_zero, List.set_cons_succ]
                                            refine Reg.wpG_step (v := ?vr1x1) (fun wq hq => ?gr1x1) ?kr1x1
                                            case gr1x1 => (have q0 := keepC hq e0; have q1 := keepC hq e1; have q2 := keepC hq e2; refine Reg.gAt_val ?_; go_simp; first | done | (with_reducible rfl) | rfl)
                                            try simp only [Act.put, List.setIfInBounds_toArray, List.set_cons_zero, List.set_cons_succ]
                                            refine Reg.wpG_step (v := ?vr1x2) (fun wq hq => ?gr1x2) ?kr1x2
                                            case gr1x2 => (have q0 := keepC hq e0; have q1 := keepC hq e1; have q2 := keepC hq e2; refine Reg.gAt_val ?_; go_simp; first | done | (with_reducible rfl) | rfl)
                                            try simp only [Act.put, List.setIfInBounds_toArray, List.set_cons_zero, List.set_cons_succ]
                                            refine Reg.wpG_step (v := ?vr1x3) (fun wq hq => ?gr1x3) ?kr1x3
                                            case gr1x3 => (have q0 := keepC hq e0; have q1 := keepC hq e1; have q2 := keepC hq e2; refine Reg.gAt_val ?_; go_simp; first | done | (with_reducible rfl) | rfl)
                                            try simp only [Act.put, List.setIfInBounds_toArray, List.set_cons_zero, List.set_cons_succ]
                                            refine Reg.wpG_step (v := ?vr1x4) (fun wq hq => ?gr1x4) ?kr1x4
                                            case gr1x4 => (have q0 := keepC hq e0; have q1 := keepC hq e1; have q2 := keepC hq e2; refine Reg.gAt_val ?_; go_simp; first | done | (with_reducible rfl) | rfl)
                                            try simp only [Act.put, List.setIfInBounds_toArray, List.set_cons_zero, List.set_cons_succ]
                                            refine Reg.wpG_step (v := ?vr1x5) (fun wq hq => ?gr1x5) ?kr1x5
                                            case gr1x5 => (have q0 := keepC hq e0; have q1 := keepC hq e1; have q2 := keepC hq e2; refine Reg.gAt_val ?_; go_simp; first | done | (with_reducible rfl) | rfl)
                                            try simp only [Act.put, List.setIfInBounds_toArray, List.set_cons_zero, List.set_cons_succ]
                                            refine Reg.wpG_step (v := ?vr1x6) (fun wq hq => ?gr1x6) ?kr1x6
                                            case gr1x6 => (have q0 := keepC hq e0; have q1 := keepC hq e1; have q2 := keepC hq e2; refine Reg.gAt_val ?_; go_simp; first | done | (with_reducible rfl) | rfl)
                                            try simp only [Act.put, List.setIfInBounds_toArray, List.set_cons_zero, List.set_cons_succ]
                                            refine Reg.wpG_step (v := ?vr1x7) (fun wq hq => ?gr1x7) ?kr1x7
                                            case gr1x7 => (have q0 := keepC hq e0; have q1 := keepC hq e1; have q2 := keepC hq e2; refine Reg.gAt_val ?_; go_simp; first | done | (with_reducible rfl) | rfl)
                                            try simp only [Act.put, List.setIfInBounds_toArray, List.set_cons_zero, List.set_cons_succ]
                                            refine Reg.wpG_step (v := ?vr1x8) (fun wq hq => ?gr1x8) ?kr1x8
                                            case gr1x8 => (have q0 := keepC hq e0; have q1 := keepC hq e1; have q2 := keepC hq e2; refine Reg.gAt_val ?_; go_simp; first | done | (with_reducible rfl) | rfl)
                                            try simp only [Act.put, List.setIfInBounds_toArray, List.set_cons_zero, List.set_cons_succ]
                                            refine Reg.wpG_step (v := ?vr1x9) (fun wq hq => ?gr1x9) ?kr1x9
                                            case gr1x9 => (have q0 := keepC hq e0; have q1 := keepC hq e1; have q2 := keepC hq e2; refine Reg.gAt_val ?_; go_simp; first | done | (with_reducible rfl) | rfl)
                                            try simp only [Act.put, List.setIfInBounds_toArray, List.set_cons_zero, List.set_cons_succ]
                                            refine Reg.wpG_step (v := .tuple #[.bool true, .int .i64 0]) (fun wq hq => ?gr1x10) ?kr1x10
                                            case gr1x10 => (unfold Reg.gAt; go_simp; (try refine Reg.quiet_enter ?_); exact (AreTripleSpreads_any z S0 S1 S2 _).mono fun e w2 h => ⟨h.1.trans (by rw [hTp.out]), h.2⟩)
                                            try simp only [Act.put, List.setIfInBounds_toArray, List.set_cons_zero, List.set_cons_succ]
                                            refine Reg.wpG_step (v := ?vr1x11) (fun wq hq => ?gr1x11) ?kr1x11
                                            case gr1x11 => (have q0 := keepC hq e0; have q1 := keepC hq e1; have q2 := keepC hq e2; refine Reg.gAt_val ?_; go_simp; first | done | (with_reducible rfl) | rfl)
                                            try simp only [Act.put, List.setIfInBounds_toArray, List.set_cons_zero, List.set_cons_succ]
                                            refine Reg.wpG_step (v := ?vr1x12) (fun wq hq => ?gr1x12) ?kr1x12
                                            case gr1x12 => (have q0 := keepC hq e0; have q1 := keepC hq e1; have q2 := keepC hq e2; refine Reg.gAt_val ?_; go_simp; first | done | (with_reducible rfl) | rfl)
                                            try simp only [Act.put, List.setIfInBounds_toArray, List.set_cons_zero, List.set_cons_succ]
                                            refine Reg.wpG_step (v := ?vr1x13) (fun wq hq => ?gr1x13) ?kr1x13
                                            case gr1x13 => (have q0 := keepC hq e0; have q1 := keepC hq e1; have q2 := keepC hq e2; refine Reg.gAt_val ?_; go_simp; first | done | (with_reducible rfl) | rfl)
                                            try simp only [Act.put, List.setIfInBounds_toArray, List.set_cons_zero, List.set_cons_succ]
                                            refine Reg.wpG_step (v := ?vr1x14) (fun wq hq => ?gr1x14) ?kr1x14
                                            case gr1x14 => (have q0 := keepC hq e0; have q1 := keepC hq e1; have q2 := keepC hq e2; refine Reg.gAt_val ?_; go_simp; first | done | (with_reducible rfl) | rfl)
                                            try simp only [Act.put, List.setIfInBounds_toArray, List.set_cons_zero, List.set_cons_succ]
                                            refine Reg.wpG_step (v := ?vr1x15) (fun wq hq => ?gr1x15) ?kr1x15
                                            case gr1x15 => (have q0 := keepC hq e0; have q1 := keepC hq e1; have q2 := keepC hq e2; refine Reg.gAt_val ?_; go_simp; first | done | (with_reducible rfl) | rfl)
                                            try simp only [Act.put, List.setIfInBounds_toArray, List.set_cons_zero, List.set_cons_succ]
                                            intro w2 g hB2 hg hd
                                            clear hg hd
                                            change wpList _ _ _ _ (Reg.putPtrs _ g [] _) _
                                            simp only [Reg.putPtrs]
                                            replace h_O1 := h_O1.keep hB2
                                            replace db100 := keepC hB2 db100
                                            replace db101 := keepC hB2 db101
                                            replace db110 := keepC hB2 db110
                                            replace db111 := keepC hB2 db111
                                            replace db120 := keepC hB2 db120
                                            replace db121 := keepC hB2 db121
                                            replace e0 := keepC hB2 e0
                                            replace e1 := keepC hB2 e1
                                            replace e2 := keepC hB2 e2
                                            replace hB := below_of hB hB2 hB.size
                                            clear hB2 
                                            clear hTp
                                            as_aux_lemma =>
                                              go_wp2_with fail
                                              refine Reg.wp_region_call (by kernel_rfl) 7 (by kernel_rfl) ?_
                                              simp only [List.take_succ_cons, List.take_zero, List.drop_succ_cons, List.drop_zero]
                                              refine Reg.wpG_step (v := ?vc2x0) (fun wq hq => ?gc2x0) ?kc2x0
                                              case gc2x0 => (have q0 := keepC hq e0; have q1 := keepC hq e1; refine Reg.gAt_val ?_; go_simp; first | done | (with_reducible rfl) | rfl)
                                              try simp only [Act.put, List.setIfInBounds_toArray, List.set_cons_zero, List.set_cons_succ]
                                              refine Reg.wpG_step (v := ?vc2x1) (fun wq hq => ?gc2x1) ?kc2x1
                                              case gc2x1 => (have q0 := keepC hq e0; have q1 := keepC hq e1; refine Reg.gAt_val ?_; go_simp; first | done | (with_reducible rfl) | rfl)
                                              try simp only [Act.put, List.setIfInBounds_toArray, List.set_cons_zero, List.set_cons_succ]
                                              refine Reg.wpG_step (v := ?vc2x2) (fun wq hq => ?gc2x2) ?kc2x2
                                              case gc2x2 => (have q0 := keepC hq e0; have q1 := keepC hq e1; refine Reg.gAt_val ?_; go_simp; first | done | (with_reducible rfl) | rfl)
                                              try simp only [Act.put, List.setIfInBounds_toArray, List.set_cons_zero, List.set_cons_succ]
                                              refine Reg.wpG_step (v := ?vc2x3) (fun wq hq => ?gc2x3) ?kc2x3
                                              case gc2x3 => (have q0 := keepC hq e0; have q1 := keepC hq e1; refine Reg.gAt_val ?_; go_simp; first | done | (with_reducible rfl) | rfl)
                                              try simp only [Act.put, List.setIfInBounds_toArray, List.set_cons_zero, List.set_cons_succ]
                                              refine Reg.wpG_step (v := ?vc2x4) (fun wq hq => ?gc2x4) ?kc2x4
                                              case gc2x4 => (have q0 := keepC hq e0; have q1 := keepC hq e1; refine Reg.gAt_val ?_; go_simp; first | done | (with_reducible rfl) | rfl)
                                              try simp only [Act.put, List.setIfInBounds_toArray, List.set_cons_zero, List.set_cons_succ]
                                              refine Reg.wpG_step (v := ?vc2x5) (fun wq hq => ?gc2x5) ?kc2x5
                                              case gc2x5 => (have q0 := keepC hq e0; have q1 := keepC hq e1; refine Reg.gAt_val ?_; go_simp; first | done | (with_reducible rfl) | rfl)
                                              try simp only [Act.put, List.setIfInBounds_toArray, List.set_cons_zero, List.set_cons_succ]
                                              refine Reg.wpG_step (v := ?vc2x6) (fun wq hq => ?gc2x6) ?kc2x6
                                              case gc2x6 => (have q0 := keepC hq e0; have q1 := keepC hq e1; refine Reg.gAt_val ?_; go_simp; first | done | (with_reducible rfl) | rfl)
                                              try simp only [Act.put, List.setIfInBounds_toArray, List.set_cons_zero, List.set_cons_succ]
                                              intro wr1 hbn
                                              replace h_O1 := h_O1.keep hbn
                                              replace db100 := keepC hbn db100
                                              replace db101 := keepC hbn db101
                                              replace db110 := keepC hbn db110
                                              replace db111 := keepC hbn db111
                                              replace db120 := keepC hbn db120
                                              replace db121 := keepC hbn db121
                                              replace e0 := keepC hbn e0
                                              replace e1 := keepC hbn e1
                                              replace e2 := keepC hbn e2
                                              replace hB := below_of hB hbn hB.size
                                              clear hbn
                                              refine ⟨22, #[.int .i64 z, .int .i64 S0, .int .i64 S1], ?rac2x, ?rbc2x⟩
                                              case rac2x => (intro o ho; simp at ho; subst ho; first | rfl | (go_simp; done) | (go_simp; rfl))
                                              refine (ThirdSpreads_ok z S0 S1 _ hTh.out).mono ?_
                                              rintro e w' ⟨g3, c3, rfl, h_O3, hbn⟩
                                              replace h_O1 := h_O1.keep hbn
                                              replace db100 := keepC hbn db100
                                              replace db101 := keepC hbn db101
                                              replace db110 := keepC hbn db110
                                              replace db111 := keepC hbn db111
                                              replace db120 := keepC hbn db120
                                              replace db121 := keepC hbn db121
                                              replace e0 := keepC hbn e0
                                              replace e1 := keepC hbn e1
                                              replace e2 := keepC hbn e2
                                              replace hB := below_of hB hbn hB.size
                                              clear hbn
                                              refine ⟨_, rfl, ?_⟩
                                              simp only [Reg.dst, Act.put, List.setIfInBounds_toArray, List.set_cons_zero, List.set_cons_succ, List.getElem?_cons_zero, List.getElem?_cons_succ, Option.bind_some]
                                              refine Reg.wpV_step (v := ?uc2x0) (fun wq => ?hc2x0) ?jc2x0
                                              case hc2x0 => (go_simp; first | done | (with_reducible rfl) | rfl)
                                              try simp only [Act.put, List.setIfInBounds_toArray, List.set_cons_zero, List.set_cons_succ]
                                              refine Reg.wpV_step (v := ?uc2x1) (fun wq => ?hc2x1) ?jc2x1
                                              case hc2x1 => (go_simp; first | done | (with_reducible rfl) | rfl)
                                              try simp only [Act.put, List.setIfInBounds_toArray, List.set_cons_zero, List.set_cons_succ]
                                              refine Reg.wpV_step (v := ?uc2x2) (fun wq => ?hc2x2) ?jc2x2
                                              case hc2x2 => (go_simp; first | done | (with_reducible rfl) | rfl)
                                              try simp only [Act.put, List.setIfInBounds_toArray, List.set_cons_zero, List.set_cons_succ]
                                              refine Reg.wpV_step (v := ?uc2x3) (fun wq => ?hc2x3) ?jc2x3
                                              case hc2x3 => (go_simp; first | done | (with_reducible rfl) | rfl)
                                              try simp only [Act.put, List.setIfInBounds_toArray, List.set_cons_zero, List.set_cons_succ]
                                              refine Reg.wpV_step (v := ?uc2x4) (fun wq => ?hc2x4) ?jc2x4
                                              case hc2x4 => (go_simp; first | done | (with_reducible rfl) | rfl)
                                              try simp only [Act.put, List.setIfInBounds_toArray, List.set_cons_zero, List.set_cons_succ]
                                              change wpList _ _ _ _ _ _
                                              have hl3 := Pl.numsW_len (fun t => Pl.tripleB z S0 S1 t) z.toNat
                                              generalize Pl.numsW (fun t => Pl.tripleB z S0 S1 t) z.toNat = L3 at *
                                              clear hTh
                                              as_aux_lemma =>
                                                go_wp2_with fail
                                                refine (SpreadRatio_any z dye bx by_ cx cy ax ay _).mono ?_
                                                rintro e w' ⟨he, hbn⟩
                                                rw [hR2.out] at he
                                                dsimp only at he
                                                subst he
                                                replace h_O1 := h_O1.keep hbn
                                                replace h_O3 := h_O3.keep hbn
                                                replace db100 := keepC hbn db100
                                                replace db101 := keepC hbn db101
                                                replace db110 := keepC hbn db110
                                                replace db111 := keepC hbn db111
                                                replace db120 := keepC hbn db120
                                                replace db121 := keepC hbn db121
                                                replace e0 := keepC hbn e0
                                                replace e1 := keepC hbn e1
                                                replace e2 := keepC hbn e2
                                                replace hB := below_of hB hbn hB.size
                                                clear hbn
                                                as_aux_lemma =>
                                                  go_wp2_with fail
                                                  refine (SpreadAt_any z dye ax ay bx by_ cx cy _).mono ?_
                                                  rintro e w' ⟨he, hbn⟩
                                                  rw [hAt.out] at he
                                                  dsimp only at he
                                                  subst he
                                                  replace h_O1 := h_O1.keep hbn
                                                  replace h_O3 := h_O3.keep hbn
                                                  replace db100 := keepC hbn db100
                                                  replace db101 := keepC hbn db101
                                                  replace db110 := keepC hbn db110
                                                  replace db111 := keepC hbn db111
                                                  replace db120 := keepC hbn db120
                                                  replace db121 := keepC hbn db121
                                                  replace e0 := keepC hbn e0
                                                  replace e1 := keepC hbn e1
                                                  replace e2 := keepC hbn e2
                                                  replace hB := below_of hB hbn hB.size
                                                  clear hbn
                                                  clear hR2 hAt
                                                  as_aux_lemma =>
                                                    go_wp2_with (go_at_call 24; refine (hasInt_mem h_O3 (by omega) hme.out).mono ?_; rintro e w' ⟨rfl, hbn⟩; replace h_O1 := h_O1.keep hbn; replace h_O3 := h_O3.keep hbn; replace db100 := keepC hbn db100; replace db101 := keepC hbn db101; replace db110 := keepC hbn db110; replace db111 := keepC hbn db111; replace db120 := keepC hbn db120; replace db121 := keepC hbn db121; replace e0 := keepC hbn e0; replace e1 := keepC hbn e1; replace e2 := keepC hbn e2; replace hB := below_of hB hbn hB.size; clear hbn)
                                                    go_meet
                                                    case rel => exact ⟨rfl, hid ⟨hB, db100, db101, db110, db111, db120, db121, .inl ⟨hz.out, g1, c1, rfl, h_O1⟩⟩⟩
                                        · have hzb : (yq == 0) = false := by simpa using hz
                                          go_wp2_with fail
                                          go_meet
                                          case rel => exact ⟨rfl, hid ⟨hB, db100, db101, db110, db111, db120, db121, h_S1⟩⟩
                                      case rest =>
                                        clear hB db100 db101 db110 db111 db120 db121 h_S1
                                        obtain ⟨rfl, hq⟩ := hcut
                                        obtain ⟨hB, db100, db101, db110, db111, db120, db121, h_S1⟩ := hq.out
                                        try clear hq
                                        try clear hcut
                                        as_aux_lemma =>
                                          clear hTri
                                          clear db100 db101 db110 db111 db120 db121
                                          clear h_S1
                                          go_wp2_with fail
                                          refine (drawAreTripleSpreads_any _ _ ((hby.below hB).raise hB.size)).mono ?_
                                          rintro e w' ⟨⟨x0, x1, x2, x3, rfl⟩, hbn⟩
                                          replace hB := below_of hB hbn hB.size
                                          clear hbn
                                          as_aux_lemma =>
                                            go_wp2_with fail
                                            as_aux_lemma =>
                                              as_aux_lemma =>
                                                obtain ⟨tb, tq, hN⟩ : ∃ tb tq, Hid (Pl.tripleOf x0 x1 x2 x3 = (tb, tq)) := ⟨_, _, rfl⟩
                                                go_wp2_with fail
                                                refine (AreTripleSpreads_any x0 x1 x2 x3 _).mono ?_
                                                rintro e w' ⟨he, hbn⟩
                                                rw [hN.out] at he
                                                dsimp only at he
                                                subst he
                                                replace hB := below_of hB hbn hB.size
                                                clear hbn
                                                as_aux_lemma =>
                                                  go_wp2_with fail
                                                  refine (sAreTripleSpreads_any x0 x1 x2 x3 _).mono ?_
                                                  rintro e w' ⟨he, hbn⟩
                                                  rw [hN.out] at he
                                                  dsimp only at he
                                                  subst he
                                                  replace hB := below_of hB hbn hB.size
                                                  clear hbn
                                                  as_aux_lemma =>
                                                    go_wp2_with fail
                                                    clear hN
                                                    refine (drawThirdSpreads_any _ _ ((hby.below hB).raise hB.size)).mono ?_
                                                    rintro e w' ⟨⟨y0, y1, y2, rfl⟩, hbn⟩
                                                    replace hB := below_of hB hbn hB.size
                                                    clear hbn
                                                    as_aux_lemma =>
                                                      go_wp2_with fail
                                                      as_aux_lemma =>
                                                        as_aux_lemma =>
                                                          go_wp2_with fail
                                                          have hcm : Hid (Pl.ask y0 (Pl.numB y0 y1 && Pl.numB y0 y2) = 0 → (Pl.numsW (fun t => Pl.tripleB y0 y1 y2 t) y0.toNat).length ≤ 2) := fun h => by
                                                            obtain ⟨hf, hv⟩ := Pl.ask_ok h
                                                            rw [Bool.and_eq_true] at hv
                                                            obtain ⟨r1, r2⟩ := Pl.numB_true hv.1
                                                            obtain ⟨s1, s2⟩ := Pl.numB_true hv.2
                                                            exact Pl.third_len hf r1 r2 s1 s2
                                                          have hlo := hB.size
                                                          refine (ThirdSpreads_res y0 y1 y2 _).mono ?_
                                                          rintro e w' ⟨v3, rfl, h_S3, hbn⟩
                                                          replace h_S3 := h_S3.low hlo
                                                          clear hlo
                                                          replace hB := below_of hB hbn hB.size
                                                          clear hbn
                                                          as_aux_lemma =>
                                                            go_wp2_with fail
                                                            have hlo := hB.size
                                                            refine (sThirdSpreads_res y0 y1 y2 _).mono ?_
                                                            rintro e w' ⟨v4, rfl, h_S4, hbn⟩
                                                            replace h_S4 := h_S4.low hlo
                                                            clear hlo
                                                            replace h_S3 := h_S3.keep hbn
                                                            replace hB := below_of hB hbn hB.size
                                                            clear hbn
                                                            generalize Pl.numsW (fun t => Pl.tripleB y0 y1 y2 t) y0.toNat = LT at *
                                                            generalize Pl.ask y0 (Pl.numB y0 y1 && Pl.numB y0 y2) = y9 at *
                                                            as_aux_lemma =>
                                                              go_wp2_with fail
                                                              refine (drawSpreadAt_any _ _ ((hby.below hB).raise hB.size)).mono ?_
                                                              rintro e w' ⟨⟨u0, u1, dx, dy, ex, ey, fx, fy, rfl⟩, hbn⟩
                                                              replace h_S3 := h_S3.keep hbn
                                                              replace h_S4 := h_S4.keep hbn
                                                              replace hB := below_of hB hbn hB.size
                                                              clear hbn
                                                              as_aux_lemma =>
                                                                go_upto_region 38 with fail
                                                                as_aux_lemma =>
                                                                  generalize hW : (World.alloc (World.alloc (World.alloc w' (.cells #[.int .i64 dx, .int .i64 dy] 33)) (.cells #[.int .i64 ex, .int .i64 ey] 33)) (.cells #[.int .i64 fx, .int .i64 fy] 33)) = W5
                                                                  have db200 : W5.cell? ⟨w'.heap.size, 0, none⟩ = some (.int .i64 dx) := by subst hW; go_simp
                                                                  have db201 : W5.cell? ⟨w'.heap.size, 1, none⟩ = some (.int .i64 dy) := by subst hW; go_simp
                                                                  have db210 : W5.cell? ⟨w'.heap.size + 1, 0, none⟩ = some (.int .i64 ex) := by subst hW; go_simp
                                                                  have db211 : W5.cell? ⟨w'.heap.size + 1, 1, none⟩ = some (.int .i64 ey) := by subst hW; go_simp
                                                                  have db220 : W5.cell? ⟨w'.heap.size + 1 + 1, 0, none⟩ = some (.int .i64 fx) := by subst hW; go_simp
                                                                  have db221 : W5.cell? ⟨w'.heap.size + 1 + 1, 1, none⟩ = some (.int .i64 fy) := by subst hW; go_simp
                                                                  have hbn : Below w'.heap.size w' W5 := by subst hW; go_grown
                                                                  replace h_S3 := h_S3.keep hbn
                                                                  replace h_S4 := h_S4.keep hbn
                                                                  have hle2 := hB.size
                                                                  replace hB := below_of hB hbn hB.size
                                                                  clear hW hbn
                                                                  generalize w'.heap.size = r_2 at *
                                                                  clear w'
                                                                  as_aux_lemma =>
                                                                    go_wp2_with fail
                                                                    obtain ⟨sv, sq, hN⟩ : ∃ sv sq, Hid (Pl.satOf u0 u1 dx dy ex ey fx fy = (sv, sq)) := ⟨_, _, rfl⟩
                                                                    refine (SpreadAt_any u0 u1 dx dy ex ey fx fy _).mono ?_
                                                                    rintro e w' ⟨he, hbn⟩
                                                                    rw [hN.out] at he
                                                                    dsimp only at he
                                                                    subst he
                                                                    replace h_S3 := h_S3.keep hbn
                                                                    replace h_S4 := h_S4.keep hbn
                                                                    replace db200 := keepC hbn db200
                                                                    replace db201 := keepC hbn db201
                                                                    replace db210 := keepC hbn db210
                                                                    replace db211 := keepC hbn db211
                                                                    replace db220 := keepC hbn db220
                                                                    replace db221 := keepC hbn db221
                                                                    replace hB := below_of hB hbn hB.size
                                                                    clear hbn
                                                                    as_aux_lemma =>
                                                                      go_wp2_with fail
                                                                      refine (sSpreadAt_any u0 u1 dx dy ex ey fx fy _).mono ?_
                                                                      rintro e w' ⟨he, hbn⟩
                                                                      rw [hN.out] at he
                                                                      dsimp only at he
                                                                      subst he
                                                                      replace h_S3 := h_S3.keep hbn
                                                                      replace h_S4 := h_S4.keep hbn
                                                                      replace db200 := keepC hbn db200
                                                                      replace db201 := keepC hbn db201
                                                                      replace db210 := keepC hbn db210
                                                                      replace db211 := keepC hbn db211
                                                                      replace db220 := keepC hbn db220
                                                                      replace db221 := keepC hbn db221
                                                                      replace hB := below_of hB hbn hB.size
                                                                      clear hbn
                                                                      clear hN
                                                                      as_aux_lemma =>
                                                                        by_cases hz : y9 = 0
                                                                        · have hl := hcm.out hz
                                                                          have hl3 : (LT.length : Int) < 3 := by omega
                                                                          replace hz := hid hz
                                                                          obtain ⟨g3, c3, rfl, o3⟩ := h_S3.ok hz.out
                                                                          obtain ⟨g4, c4, rfl, o4⟩ := h_S4.ok hz.out
                                                                          clear h_S3 h_S4
                                                                          go_wp2_with (go_at_call 20; refine (likeInts_same g3 c3 g4 c4 LT.length LT _ (by omega) (fun j hj => o3.cell hj) (fun j hj => o4.cell hj)).mono ?_; rintro e w' ⟨rfl, hbn⟩; replace hB := below_of hB hbn hB.size; clear hbn)
                                                                          go_ret
                                                                          exact ⟨rfl, hB⟩
                                                                        · obtain rfl := h_S3.err hz
                                                                          obtain rfl := h_S4.err hz
                                                                          clear h_S3 h_S4
                                                                          go_wp2_with (go_at_call 20; refine (likeInts_nil _).mono ?_; rintro e w' ⟨rfl, hbn⟩; replace hB := below_of hB hbn hB.size; clear hbn)
                                                                          go_ret
                                                                          exact ⟨rfl, hB⟩
end Go.Proofs.Ytbjcbbnfgfmllaa.fnSpreads
