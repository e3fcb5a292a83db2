/- Contracts: the program's readNumbers. -/
import Derived.Test.YtbjcbbnfgfmllaaGreatDoorTa
set_option linter.unusedVariables false
set_option linter.unusedSimpArgs false
set_option maxRecDepth 100000
set_option maxHeartbeats 2000000
namespace Go.Proofs.YtbjcbbnfgfmllaaGreatDoor
open Go.RowKit
theorem info_n64 : (Tryz.prog.info? 2).map (fun i => (i.zero, i.size, i.bytes)) = some (some (.int .i64 0), 1, 8) := by kernel_rfl
/-- What readNumbers answers: a list and true, or false. -/
def Read (e : Ending) (w' : World) (B m : Nat) (R : Option (List Int)) : Prop :=
  (∃ g c xs, e = .returned (.tuple #[.slice (some ⟨g, 0, none⟩) (m + 1) c, .bool true]) ∧ OwnV w' B 2 g (m + 1) c (ints xs) ∧ R = some xs) ∨ (∃ v, e = .returned (.tuple #[v, .bool false]) ∧ R = none)
theorem Read.no {w' : World} {B m : Nat} {R : Option (List Int)} (v : Value) (h : R = none) : Read (.returned (.tuple #[v, .bool false])) w' B m R := .inr ⟨v, rfl, h⟩
theorem readNumbers_any (p : Int) (s : ByteArray) (m : Nat) (w : World) (hs : s.size ≤ 2199023255552) (hm : m ≤ 2) :
    Calls Tryz.prog 67 #[.int .i64 p, .string s, .int .i64 ((m : Int) + 1)] w fun e w' => Below w.heap.size w w' ∧ Read e w' w.heap.size m (Pl.readN p m s.data.toList) := by
  obtain ⟨R, hR⟩ : ∃ R, Hid (Pl.readN p m s.data.toList = R) := ⟨_, rfl⟩
  rw [hR.out]
  have hl := byte_len s
  have hg : ∀ k (h : k < s.size), s.data.toList[k]'(by omega) = s[k] := fun k h => rfl
  replace hg := hid hg
  go_enter Tryz.func67, Tryz.ntmps67
  go_wp2_with fail
  go_loopw [8, 9, 10, 11] (fun v at_ _ _ wr => ∃ (k g c q : Nat) (acc : List Int), k ≤ s.size ∧ q ≤ m ∧ at_ = .int .i64 k ∧ acc.length + q = m ∧ v = .slice (some ⟨g, 0, none⟩) acc.length c ∧ OwnV wr w.heap.size 2 g acc.length c (ints acc) ∧ Below w.heap.size w wr ∧ Hid (R = (Pl.readN p q (s.data.toList.drop k)).map (acc ++ ·))) (fun v _ _ _ _ => m - match v with | .slice _ n _ => n | _ => 0)
  case atStart => exact ⟨0, w.heap.size, 0, m, [], Nat.zero_le _, Nat.le_refl _, rfl, by simp, rfl, OwnV.lit0 w _ _ _ rfl (Nat.le_refl _), by go_grown, hid (by rw [← hR.out]; simp)⟩
  case round =>
    obtain ⟨k, g, c, q, acc, hk, hq, rfl, hacc, rfl, hO, hB, hsp⟩ := hrel
    clear hR
    go_wp2_with fail
    go_loop [9, 10] (fun at_ n => ∃ (r : Nat) (v : Int), k ≤ r ∧ r ≤ s.size ∧ r ≤ k + 3 ∧ at_ = .int .i64 r ∧ n = .int .i64 v ∧ 0 ≤ v ∧ v < 1000000000 ∧ Hid (∀ x ∈ (s.data.toList.drop k).take (r - k), Pl.isD x = true) ∧ Hid (v = Pl.decV ((s.data.toList.drop k).take (r - k)))) (fun at_ _ => s.size - (intOf at_).toNat)
    case atStart => exact ⟨k, 0, by omega, by omega, by omega, rfl, rfl, by omega, by omega, hid (by simp), hid (by simp [Pl.decV])⟩
    case round =>
      obtain ⟨r, v, hkr, hrs, hr3, rfl, rfl, v1, v2, hd, hv⟩ := hrel
      by_cases hgo : r < s.size ∧ r < k + 3 ∧ ∃ h : r < s.size, 48 ≤ (s[r].toNat : Int) ∧ (s[r].toNat : Int) ≤ 57
      · obtain ⟨hlt, h3, _, q1, q2⟩ := hgo
        have er : k + (r - k) = r := by omega
        have hget : (s.data.toList.drop k)[r - k]'(by simp; omega) = s[r] := by
          rw [Pl.get_drop (by omega)]
          simp only [er]
          exact hg.out r hlt
        have hD := hid (Pl.dig_step (l := s.data.toList.drop k) (i := r - k) (by simp; omega) hd.out (by rw [hget]; exact isD_of q1 q2))
        have hV := hid (Pl.decV_step (l := s.data.toList.drop k) (i := r - k) (by simp; omega))
        have e1 : r - k + 1 = r + 1 - k := by omega
        rw [e1] at hD hV
        obtain ⟨hS1, hS2⟩ := Pl.decV_small hD.out (by have := List.length_take_le (r + 1 - k) (s.data.toList.drop k); omega)
        replace hV : Hid (Pl.decV ((s.data.toList.drop k).take (r + 1 - k)) = 10 * v + ((s[r].toNat : Int) - 48)) := by rw [hv.out, hV.out, hget]; exact hid rfl
        rw [hV.out] at hS1 hS2
        have hd3 : (r : Int) - (k : Int) < 3 := by omega
        clear hg hsp hd hv er hget e1
        go_wp2_with fail
        go_round
        case rel => exact ⟨r + 1, _, by omega, by omega, by omega, by go_num, rfl, by omega, by omega, hD, by rw [hV.out]; unfold Hid; omega⟩
        case measure => simp [intOf]; omega
      · have hex : r - k = 3 ∨ r - k = (s.data.toList.drop k).length ∨ ∃ h : r - k < (s.data.toList.drop k).length, Pl.isD (s.data.toList.drop k)[r - k] = false := by
          by_cases h1 : r < s.size
          · by_cases h3 : r < k + 3
            · refine .inr (.inr ⟨by simp; omega, ?_⟩)
              rw [Pl.get_drop (by omega)]
              simp only [show k + (r - k) = r by omega]
              rw [hg.out r h1]
              exact not_isD (fun h => hgo ⟨h1, h3, h1, h⟩)
            · exact .inl (by omega)
          · exact .inr (.inl (by simp; omega))
        have hF := hid (Pl.front_exit (by omega) (by simp; omega) hd.out hex)
        have hFl := hid (Pl.front_len_of (by omega) hF.out)
        have hway : (¬ r < s.size) ∨ (∃ h : r < s.size, ¬ 48 ≤ (s[r].toNat : Int)) ∨ (∃ h : r < s.size, 48 ≤ (s[r].toNat : Int) ∧ ¬ ((s[r].toNat : Int) ≤ 57)) ∨ (∃ h : r < s.size, 48 ≤ (s[r].toNat : Int) ∧ (s[r].toNat : Int) ≤ 57 ∧ ¬ (r : Int) - (k : Int) < 3) := by
          by_cases h1 : r < s.size
          · by_cases h2 : 48 ≤ (s[r].toNat : Int)
            · by_cases h3 : (s[r].toNat : Int) ≤ 57
              · exact .inr (.inr (.inr ⟨h1, h2, h3, fun h => hgo ⟨h1, by omega, h1, h2, h3⟩⟩))
              · exact .inr (.inr (.inl ⟨h1, h2, h3⟩))
            · exact .inr (.inl ⟨h1, h2⟩)
          · exact .inl h1
        clear hex hgo
        by_cases hb1 : r = k
        · subst hb1
          have hRn : Hid (R = none) := hid (by rw [hsp.out, Pl.readN_bad (by rw [Pl.badF, hF.out]; simp)]; rfl)
          clear hg hsp hd hv hF hFl
          rcases hway with h | ⟨h, h2⟩ | ⟨h, h2, h3⟩ | ⟨h, h2, h3, h4⟩
          all_goals
            first | (exfalso; omega) | (go_wp2_with fail; go_ret2; exact ⟨hB, Read.no _ hRn.out⟩)
        have hk2 : k < s.size := by omega
        have e0 : ((r : Int) == (k : Int)) = false := beq_eq_false_iff_ne.2 (by omega)
        by_cases hb2 : k + 1 < r ∧ (s[k]'hk2) = 48
        · obtain ⟨hb2, hb3⟩ := hb2
          have hRn : Hid (R = none) := hid (by rw [hsp.out, Pl.readN_bad (by rw [Pl.badF, hF.out, Pl.head_take (by omega) (by omega), hg.out k hk2, hb3, ← hF.out, hFl.out]; simp; omega)]; rfl)
          have e1 : (((s[k]'hk2).toNat : Int) == 48) = true := by rw [hb3]; rfl
          have e2 : (1 : Int) < (r : Int) - (k : Int) := by omega
          clear hg hsp hd hv hF hFl hb3
          rcases hway with h | ⟨h, h2⟩ | ⟨h, h2, h3⟩ | ⟨h, h2, h3, h4⟩
          all_goals
            first | (exfalso; omega) | (go_wp2_with fail; go_ret2; exact ⟨hB, Read.no _ hRn.out⟩)
        by_cases hb4 : p ≤ v
        · have hRn : Hid (R = none) := hid (by rw [hsp.out, Pl.readN_bad (by rw [Pl.badF, hF.out, ← hv.out]; simp [hb4])]; rfl)
          have e2 : k + 1 < r → (((s[k]'hk2).toNat : Int) == 48) = false := by
            intro h
            have : (s[k]'hk2).toNat ≠ 48 := fun e => hb2 ⟨h, UInt8.toNat_inj.1 (by simpa using e)⟩
            exact beq_eq_false_iff_ne.2 (by omega)
          clear hg hsp hd hv hF hFl hb2
          by_cases hb5 : k + 1 < r
          all_goals first | (replace e2 := e2 hb5; have e3 : (1 : Int) < (r : Int) - (k : Int) := by omega) | (clear e2; have e3 : ¬ (1 : Int) < (r : Int) - (k : Int) := by omega)
          all_goals
           rcases hway with h | ⟨h, h2⟩ | ⟨h, h2, h3⟩ | ⟨h, h2, h3, h4⟩
           all_goals
            first | (exfalso; omega) | (go_wp2_with fail; go_ret2; exact ⟨hB, Read.no _ hRn.out⟩)
        have e2 : k + 1 < r → (((s[k]'hk2).toNat : Int) == 48) = false := by
          intro h
          have : (s[k]'hk2).toNat ≠ 48 := fun e => hb2 ⟨h, UInt8.toNat_inj.1 (by simpa using e)⟩
          exact beq_eq_false_iff_ne.2 (by omega)
        have hG : Hid (Pl.badF p (Pl.front (s.data.toList.drop k)) = false) := by
          unfold Hid
          rw [Pl.badF, hF.out, ← hv.out, Pl.head_take (by omega) (by omega), hg.out k hk2, ← hF.out, hFl.out]
          simp only [Bool.or_eq_false_iff, Bool.and_eq_false_iff, decide_eq_false_iff_not, beq_eq_false_iff_ne]
          refine ⟨⟨?_, ?_⟩, hb4⟩
          · rw [hF.out, List.isEmpty_eq_false_iff, ← List.length_pos_iff]
            simp; omega
          · by_cases h : k + 1 < r
            · exact .inr fun e => hb2 ⟨h, by simpa using e⟩
            · exact .inl (by omega)
        have hV : Hid (Pl.decV (Pl.front (s.data.toList.drop k)) = v) := hid (by rw [hF.out, hv.out])
        have hlst : Hid (ints (acc ++ [v]) = ints acc ++ [.int .i64 v]) := hid (by simp [ints])
        have hsz := hB.size
        clear hd hv hF hb2
        by_cases hA : r < s.size
        · have er : (s.data.toList.drop k)[(Pl.front (s.data.toList.drop k)).length]'(by rw [hFl.out]; simp; omega) = s[r] := by
            simp only [hFl.out]
            rw [Pl.get_drop (by omega)]
            simp only [show k + (r - k) = r by omega]
            exact hg.out r hA
          by_cases hc : s[r] = 44
          · have hcb : ((s[r].toNat : Int) == 44) = true := by rw [hc]; rfl
            have hc2 : (s[r].toNat : Int) = 44 := by simpa using hcb
            cases q with
            | zero =>
              have hRn : Hid (R = none) := hid (by rw [hsp.out, Pl.readN_more0 (by rw [hFl.out]; simp; omega)]; rfl)
              have hm2 : acc.length = m := by omega
              subst hm2
              clear hsp hg hc er hV hG hFl
              by_cases hb5 : k + 1 < r
              all_goals first | (replace e2 := e2 hb5; have e3 : (1 : Int) < (r : Int) - (k : Int) := by omega) | (clear e2; have e3 : ¬ (1 : Int) < (r : Int) - (k : Int) := by omega)
              all_goals
               rcases hway with h | ⟨h, h2⟩ | ⟨h, h2, h3⟩ | ⟨h, h2, h3, h4⟩
               all_goals first | (exfalso; omega) | skip
               all_goals
                go_wp2_with (at_builtin; refine wp_pushV rfl _ _ 71 rfl w.heap.size 2 8 (.int .i64 0) Tryz.underlying71 info_n64 rfl (by decide) _ _ _ _ rfl (hO.alloc _) (by omega) ⟨wr.heap.size, 0, none⟩ 1 (.int .i64 v) rfl rfl (by go_simp) (by simp; omega) ?_; intro g3 c3 w3 hO3 hb3 hg3 hn3)
                have hB4 := (hB.alloc hsz _).trans hb3
                go_ret2
                exact ⟨hB4, Read.no _ hRn.out⟩
            | succ q =>
              have hR2 : Hid (R = (Pl.readN p q (s.data.toList.drop (r + 1))).map ((acc ++ [v]) ++ ·)) := hid (by
                refine Pl.readN_acc hsp.out ?_
                rw [Pl.readN_more hG.out (by rw [hFl.out]; simp; omega) (by rw [er]; exact hc), hV.out, hFl.out, List.drop_drop, show k + (r - k + 1) = r + 1 by omega])
              clear hsp hg hc er hV hG hFl
              by_cases hb5 : k + 1 < r
              all_goals first | (replace e2 := e2 hb5; have e3 : (1 : Int) < (r : Int) - (k : Int) := by omega) | (clear e2; have e3 : ¬ (1 : Int) < (r : Int) - (k : Int) := by omega)
              all_goals
               have e4 : ((acc.length : Int) + 1 == (m : Int) + 1) = false := beq_eq_false_iff_ne.2 (by omega)
               rcases hway with h | ⟨h, h2⟩ | ⟨h, h2, h3⟩ | ⟨h, h2, h3, h4⟩
               all_goals first | (exfalso; omega) | skip
               all_goals
                go_wp2_with (at_builtin; refine wp_pushV rfl _ _ 71 rfl w.heap.size 2 8 (.int .i64 0) Tryz.underlying71 info_n64 rfl (by decide) _ _ _ _ rfl (hO.alloc _) (by omega) ⟨wr.heap.size, 0, none⟩ 1 (.int .i64 v) rfl rfl (by go_simp) (by simp; omega) ?_; intro g3 c3 w3 hO3 hb3 hg3 hn3)
                have hB4 := (hB.alloc hsz _).trans hb3
                go_roundw
                case rel => exact ⟨r + 1, g3, c3, q, acc ++ [v], by omega, by omega, by go_num, by simp; omega, by simp, hO3.cast (by simp) hlst.out.symm, hB4, hR2⟩
                case measure => simp; omega
          · have hcb : ((s[r].toNat : Int) == 44) = false := by
              have : s[r].toNat ≠ 44 := fun e => hc (UInt8.toNat_inj.1 (by simpa using e))
              exact beq_eq_false_iff_ne.2 (by omega)
            have hRn : Hid (R = none) := hid (by rw [hsp.out, Pl.readN_no (by rw [hFl.out]; simp; omega) (by rw [er]; exact hc)]; rfl)
            clear hsp hg hc er hV hG hFl
            by_cases hb5 : k + 1 < r
            all_goals first | (replace e2 := e2 hb5; have e3 : (1 : Int) < (r : Int) - (k : Int) := by omega) | (clear e2; have e3 : ¬ (1 : Int) < (r : Int) - (k : Int) := by omega)
            all_goals
             rcases hway with h | ⟨h, h2⟩ | ⟨h, h2, h3⟩ | ⟨h, h2, h3, h4⟩
             all_goals first | (exfalso; omega) | skip
             all_goals
                go_wp2_with (at_builtin; refine wp_pushV rfl _ _ 71 rfl w.heap.size 2 8 (.int .i64 0) Tryz.underlying71 info_n64 rfl (by decide) _ _ _ _ rfl (hO.alloc _) (by omega) ⟨wr.heap.size, 0, none⟩ 1 (.int .i64 v) rfl rfl (by go_simp) (by simp; omega) ?_; intro g3 c3 w3 hO3 hb3 hg3 hn3)
                have hB4 := (hB.alloc hsz _).trans hb3
                go_ret2
                exact ⟨hB4, Read.no _ hRn.out⟩
        · obtain rfl : r = s.size := by omega
          cases q with
          | zero =>
            have hRs : Hid (R = some (acc ++ [v])) := hid (by rw [hsp.out, Pl.readN_end0 hG.out (by rw [hFl.out]; simp), hV.out]; rfl)
            have hm2 : acc.length = m := by omega
            subst hm2
            clear hsp hg hV hG hFl
            by_cases hb5 : k + 1 < s.size
            all_goals first | (replace e2 := e2 hb5; have e3 : (1 : Int) < (s.size : Int) - (k : Int) := by omega) | (clear e2; have e3 : ¬ (1 : Int) < (s.size : Int) - (k : Int) := by omega)
            all_goals
             rcases hway with h | ⟨h, h2⟩ | ⟨h, h2, h3⟩ | ⟨h, h2, h3, h4⟩
             all_goals first | (exfalso; omega) | skip
             all_goals
                go_wp2_with (at_builtin; refine wp_pushV rfl _ _ 71 rfl w.heap.size 2 8 (.int .i64 0) Tryz.underlying71 info_n64 rfl (by decide) _ _ _ _ rfl (hO.alloc _) (by omega) ⟨wr.heap.size, 0, none⟩ 1 (.int .i64 v) rfl rfl (by go_simp) (by simp; omega) ?_; intro g3 c3 w3 hO3 hb3 hg3 hn3)
                have hB4 := (hB.alloc hsz _).trans hb3
                go_ret2
                exact ⟨hB4, .inl ⟨g3, c3, acc ++ [v], by simp, hO3.cast rfl hlst.out.symm, hRs.out⟩⟩
          | succ q =>
            have hRn : Hid (R = none) := hid (by rw [hsp.out, Pl.readN_end1 (by rw [hFl.out]; simp)]; rfl)
            have e4 : ((acc.length : Int) + 1 == (m : Int) + 1) = false := beq_eq_false_iff_ne.2 (by omega)
            have e5 : ((acc.length : Int) == (m : Int)) = false := beq_eq_false_iff_ne.2 (by omega)
            clear hsp hg hV hG hFl
            by_cases hb5 : k + 1 < s.size
            all_goals first | (replace e2 := e2 hb5; have e3 : (1 : Int) < (s.size : Int) - (k : Int) := by omega) | (clear e2; have e3 : ¬ (1 : Int) < (s.size : Int) - (k : Int) := by omega)
            all_goals
             rcases hway with h | ⟨h, h2⟩ | ⟨h, h2, h3⟩ | ⟨h, h2, h3, h4⟩
             all_goals first | (exfalso; omega) | skip
             all_goals
                go_wp2_with (at_builtin; refine wp_pushV rfl _ _ 71 rfl w.heap.size 2 8 (.int .i64 0) Tryz.underlying71 info_n64 rfl (by decide) _ _ _ _ rfl (hO.alloc _) (by omega) ⟨wr.heap.size, 0, none⟩ 1 (.int .i64 v) rfl rfl (by go_simp) (by simp; omega) ?_; intro g3 c3 w3 hO3 hb3 hg3 hn3)
                have hB4 := (hB.alloc hsz _).trans hb3
                go_ret2
                exact ⟨hB4, by first | exact Read.no _ hRn.out | (simp [e5]; exact Read.no _ hRn.out)⟩
end Go.Proofs.YtbjcbbnfgfmllaaGreatDoor
