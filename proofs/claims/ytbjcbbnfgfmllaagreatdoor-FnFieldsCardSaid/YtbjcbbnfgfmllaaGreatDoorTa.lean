/- Contracts: texts: the reference's numbers and parts. -/
import Derived.Test.YtbjcbbnfgfmllaaGreatDoorOv
import Derived.Test.YtbjcbbnfgfmllaaGreatDoorA
import Derived.Test.YtbjcbbnfgfmllaaGreatDoorB
import Derived.Test.YtbjcbbnfgfmllaaGreatDoorTx2
import Derived.Laws.Strings2
import Derived.Laws.Strings3
set_option linter.unusedVariables false
set_option linter.unusedSimpArgs false
set_option maxRecDepth 100000
set_option maxHeartbeats 1000000
namespace Go.Proofs.YtbjcbbnfgfmllaaGreatDoor
open Go.RowKit
theorem isD_of {c : UInt8} (h1 : 48 ≤ (c.toNat : Int)) (h2 : (c.toNat : Int) ≤ 57) : Pl.isD c = true := by
  simp only [Pl.isD, Bool.and_eq_true, decide_eq_true_eq]
  omega
theorem not_isD {c : UInt8} (h : ¬ (48 ≤ (c.toNat : Int) ∧ (c.toNat : Int) ≤ 57)) : Pl.isD c = false := by
  simp only [Pl.isD, Bool.and_eq_false_iff, decide_eq_false_iff_not]
  omega
theorem byte_get (s : ByteArray) (k : Nat) (h : k < s.size) : s.data.toList[k]'(by simpa using h) = s[k] := rfl
theorem byte_len (s : ByteArray) : s.data.toList.length = s.size := by simp
theorem l01Number_any (s : ByteArray) (w : World) (hs : s.size ≤ maxLen) :
    Calls Tryz.prog 97 #[.string s] w fun e w' => e = .returned (.int .i64 (Pl.numI s.data.toList)) ∧ w = w' := by
  unfold maxLen at hs
  obtain ⟨N, hN⟩ : ∃ N, Hid (Pl.numI s.data.toList = N) := ⟨_, rfl⟩
  rw [hN.out]
  have hl := byte_len s
  have hg : ∀ k (h : k < s.size), s.data.toList[k]'(by omega) = s[k] := fun k h => rfl
  by_cases h0 : s.size = 0
  · obtain rfl : N = -1 := by rw [← hN.out]; exact Pl.numI_0 (by omega)
    go_enter Tryz.func97, Tryz.ntmps97
    go_wp2
    go_ret
    exact ⟨rfl, rfl⟩
  by_cases h9 : 9 < s.size
  · obtain rfl : N = -1 := by rw [← hN.out]; exact Pl.numI_9 (by omega)
    go_enter Tryz.func97, Tryz.ntmps97
    go_wp2
    go_ret
    exact ⟨rfl, rfl⟩
  have h00 : 0 < s.size := by omega
  by_cases h1 : 1 < s.size ∧ s[0]'h00 = 48
  · obtain ⟨h1, h2⟩ := h1
    obtain rfl : N = -1 := by rw [← hN.out]; exact Pl.numI_z (by omega) (by rw [hg 0 (by omega)]; exact h2)
    have hb : (((s[0]'h00).toNat : Int) == 48) = true := by rw [h2]; rfl
    clear h2 hg
    go_enter Tryz.func97, Tryz.ntmps97
    go_wp2
    go_ret
    exact ⟨rfl, rfl⟩
  have hz : Hid (s.size ≤ 1 ∨ s[0]'h00 ≠ 48) := by
    by_cases h : 1 < s.size
    · exact .inr fun e => h1 ⟨h, e⟩
    · exact .inl (by omega)
  have hb : 1 < s.size → (((s[0]'h00).toNat : Int) == 48) = false := by
    intro h
    have : (s[0]'h00).toNat ≠ 48 := fun e => h1 ⟨h, UInt8.toNat_inj.1 (by simpa using e)⟩
    simp; omega
  clear h1
  have b1 : ((s.size : Int) == 0) = false := beq_eq_false_iff_ne.2 (by omega)
  have b2 : decide ((9 : Int) < (s.size : Int)) = false := by simp; omega
  by_cases hbig : 1 < s.size
  all_goals first | replace hb := hb hbig | clear hb
  all_goals
   go_enter Tryz.func97, Tryz.ntmps97
   go_wp2
   go_loop [3, 4] (fun n i => ∃ (k : Nat) (v : Int), k ≤ s.size ∧ i = .int .i64 k ∧ n = .int .i64 v ∧ 0 ≤ v ∧ v < 1000000000 ∧ Hid (∀ c ∈ s.data.toList.take k, Pl.isD c = true) ∧ Hid (v = Pl.decV (s.data.toList.take k))) (fun _ i => s.size - (intOf i).toNat)
   case atStart => exact ⟨0, 0, Nat.zero_le _, rfl, rfl, by omega, by omega, by simp [Hid], rfl⟩
   case round =>
     obtain ⟨k, v, hk, rfl, rfl, v1, v2, hd, hv⟩ := hrel
     by_cases hlt : k < s.size
     · by_cases hq : 48 ≤ (s[k].toNat : Int) ∧ (s[k].toNat : Int) ≤ 57
       · have hD := hid (Pl.dig_step (l := s.data.toList) (by omega) hd.out (by rw [hg k hlt]; exact isD_of hq.1 hq.2))
         have hV := hid (Pl.decV_step (l := s.data.toList) (i := k) (by omega))
         obtain ⟨hS1, hS2⟩ := Pl.decV_small hD.out (by have := List.length_take_le (k + 1) s.data.toList; omega)
         replace hV : Hid (Pl.decV (s.data.toList.take (k + 1)) = 10 * v + ((s[k].toNat : Int) - 48)) := by rw [hv.out, hV.out, hg k hlt]; exact hid rfl
         have hV2 := hV
         rw [hV.out] at hS1 hS2
         obtain ⟨q1, q2⟩ := hq
         clear hN hg hv hV hz hd; try clear hb
         go_wp2
         go_round
         case rel => exact ⟨k + 1, _, by omega, by go_num, rfl, by omega, by omega, hD, by rw [hV2.out]; unfold Hid; omega⟩
         case measure => simp [intOf]; omega
       · obtain rfl : N = -1 := by rw [← hN.out]; exact Pl.numI_d (i := k) (by omega) (by rw [hg k hlt]; exact not_isD hq)
         clear hN hg hv hz hd; try clear hb
         go_wp2
         all_goals go_ret
         all_goals exact ⟨rfl, rfl⟩
     · obtain rfl : k = s.size := by omega
       have hf : Hid (N = v) := by
         rw [← hN.out, hv.out, List.take_of_length_le (by omega)]
         have hd' := hd.out
         rw [List.take_of_length_le (by omega)] at hd'
         exact Pl.numI_v (by omega) (by omega) (hz.out.imp (fun h => by omega) (fun h => by rw [hg 0 h00]; exact h)) hd'
       clear hN hg hv hz hd; try clear hb
       go_wp2
       go_ret
       exact ⟨ret_int hf.out.symm, rfl⟩
theorem info_str : (Tryz.prog.info? 9).map (fun i => (i.zero, i.size, i.bytes)) = some (some (.string ⟨#[]⟩), 1, 16) := by kernel_rfl
theorem ext_list (s : ByteArray) (a b : Nat) : (s.extract a b).data.toList = (s.data.toList.drop a).take (b - a) := by
  obtain ⟨⟨l⟩⟩ := s
  rw [show (ByteArray.mk ⟨l⟩) = ByteArray.mk l.toArray from rfl, ByteArray.extract_mk]
/-- The parts of a text as texts. -/
def Parts (s : ByteArray) (ss : List ByteArray) : Prop := ss.map (fun x => x.data.toList) = Pl.splitC s.data.toList
theorem l01Split_any (s : ByteArray) (w : World) (hs : s.size ≤ 2199023255552) :
    Calls Tryz.prog 96 #[.string s, .int .u8 44] w fun e w' => ∃ g c ss, e = .returned (.slice (some ⟨g, 0, none⟩) ss.length c) ∧ OwnV w' w.heap.size 9 g ss.length c (ss.map Value.string) ∧ Hid (Parts s ss) ∧ Below w.heap.size w w' := by
  have hl := byte_len s
  have hg : ∀ k (h : k < s.size), s.data.toList[k]'(by omega) = s[k] := fun k h => rfl
  replace hg := hid hg
  go_enter Tryz.func96, Tryz.ntmps96
  go_wp2_with fail
  go_loopw [5, 6, 7] (fun v at_ i wr => ∃ (k j g c : Nat) (ss : List ByteArray), k ≤ s.size ∧ j ≤ k ∧ i = .int .i64 k ∧ at_ = .int .i64 j ∧ ss.length ≤ k ∧ v = .slice (some ⟨g, 0, none⟩) ss.length c ∧ OwnV wr w.heap.size 9 g ss.length c (ss.map Value.string) ∧ Below w.heap.size w wr ∧ Hid (Pl.splitC s.data.toList = ss.map (fun x => x.data.toList) ++ Pl.splitC (s.data.toList.drop j)) ∧ Hid (∀ x ∈ (s.data.toList.drop j).take (k - j), x ≠ 44)) (fun _ _ i _ => s.size - (intOf i).toNat)
  case atStart => exact ⟨0, 0, w.heap.size, 0, [], Nat.zero_le _, Nat.le_refl _, rfl, rfl, Nat.le_refl _, rfl, OwnV.lit0 w _ _ _ rfl (Nat.le_refl _), by go_grown, hid (by simp), hid (by simp)⟩
  case round =>
    obtain ⟨k, j, g, c, ss, hk, hj, rfl, rfl, hn, rfl, hO, hB, hsp, hfr⟩ := hrel
    have hsz := hB.size
    by_cases hlt : k < s.size
    · by_cases hq : s[k] = 44
      · have hb : ((s[k].toNat : Int) == 44) = true := by rw [hq]; rfl
        have hst := hid (Pl.splitC_step (l := s.data.toList) hj (by omega) hfr.out (by rw [hg.out k hlt]; exact hq))
        clear hq hg hfr
        go_wp2_with (at_builtin; refine wp_pushV rfl _ _ 100 rfl w.heap.size 9 16 (.string ⟨#[]⟩) Tryz.underlying100 info_str rfl (by decide) _ _ _ _ rfl (hO.alloc _) (by omega) ⟨wr.heap.size, 0, none⟩ 1 (.string (s.extract j k)) rfl rfl (by go_simp) (by simp; omega) ?_; intro g3 c3 w3 hO3 hb3 hg3 hn3)
        have hs2 := ext_list s j k
        have hO4 := hO3.cast (show ss.length + 1 = (ss ++ [s.extract j k]).length by simp) (show ss.map Value.string ++ [Value.string (s.extract j k)] = (ss ++ [s.extract j k]).map Value.string by simp)
        have hB4 := (hB.alloc hsz _).trans hb3
        go_roundw
        case rel => exact ⟨k + 1, k + 1, g3, c3, ss ++ [s.extract j k], by omega, Nat.le_refl _, by go_num, by go_num, by simp; omega, by simp, hO4, hB4, hid (by rw [hsp.out, hst.out, List.map_append, List.map_cons, List.map_nil, hs2, List.append_assoc]; rfl), hid (by simp)⟩
        case measure => simp [intOf]; omega
      · have hb : ((s[k].toNat : Int) == 44) = false := by
          have : s[k].toNat ≠ 44 := fun e => hq (UInt8.toNat_inj.1 (by simpa using e))
          exact beq_eq_false_iff_ne.2 (by omega)
        have hst := hid (Pl.free_step (l := s.data.toList) hj (by omega) hfr.out (by rw [hg.out k hlt]; exact hq))
        clear hq hg hfr
        go_wp2_with fail
        go_roundw
        case rel => exact ⟨k + 1, j, g, c, ss, by omega, by omega, by go_num, rfl, by omega, rfl, hO, hB, hsp, hst⟩
        case measure => simp [intOf]; omega
    · obtain rfl : k = s.size := by omega
      have hst : Hid (Pl.splitC (s.data.toList.drop j) = [s.data.toList.drop j]) := hid (Pl.splitC_free _ (by have := hfr.out; rwa [List.take_of_length_le (by simp)] at this))
      have hs2 := ext_list s j s.size
      rw [List.take_of_length_le (by simp)] at hs2
      replace hs2 := hid hs2
      clear hg hfr
      go_wp2_with (at_builtin; refine wp_pushV rfl _ _ 100 rfl w.heap.size 9 16 (.string ⟨#[]⟩) Tryz.underlying100 info_str rfl (by decide) _ _ _ _ rfl (hO.alloc _) (by omega) ⟨wr.heap.size, 0, none⟩ 1 (.string (s.extract j s.size)) rfl rfl (by go_simp) (by simp; omega) ?_; intro g3 c3 w3 hO3 hb3 hg3 hn3)
      have hO4 := hO3.cast (show ss.length + 1 = (ss ++ [s.extract j s.size]).length by simp) (show ss.map Value.string ++ [Value.string (s.extract j s.size)] = (ss ++ [s.extract j s.size]).map Value.string by simp)
      have hB4 := (hB.alloc hsz _).trans hb3
      go_ret
      exact ⟨g3, c3, ss ++ [s.extract j s.size], by simp, hO4, hid (by unfold Parts; rw [hsp.out, hst.out, List.map_append, List.map_cons, List.map_nil, hs2.out]), hB4⟩
theorem info_ta64 : (Tryz.prog.info? 2).map (fun i => (i.zero, i.size, i.bytes)) = some (some (.int .i64 0), 1, 8) := by kernel_rfl
def nums (ss : List ByteArray) : List Value := ss.map fun x => Value.int .i64 (Pl.numI x.data.toList)
theorem nums_parts {s : ByteArray} {ss : List ByteArray} (h : Parts s ss) : nums ss = ints ((Pl.splitC s.data.toList).map Pl.numI) := by
  unfold nums ints
  rw [← h, List.map_map, List.map_map]
  rfl
theorem splitC_small : ∀ l : List UInt8, (Pl.splitC l).length ≤ l.length + 1
  | [] => by simp [Pl.splitC]
  | x :: r => by
    have ih := splitC_small r
    rw [Pl.splitC]
    split
    · simp; omega
    · split
      · rename_i h t e; rw [e] at ih; simp at ih ⊢; omega
      · simp
theorem splitC_each : ∀ (l : List UInt8), ∀ x ∈ Pl.splitC l, x.length ≤ l.length
  | [], x, h => by simp [Pl.splitC] at h; simp [h]
  | y :: r, x, h => by
    have ih := splitC_each r
    rw [Pl.splitC] at h
    split at h
    · rcases List.mem_cons.1 h with rfl | h
      · simp
      · have := ih x h; simp; omega
    · split at h
      · rename_i a t e
        rw [e] at ih
        rcases List.mem_cons.1 h with rfl | h
        · have := ih a (by simp); simp; omega
        · have := ih x (by simp [h]); simp; omega
      · simp at h; simp [h]
theorem ext_small (s : ByteArray) {ss : List ByteArray} (h : Parts s ss) {k : Nat} (hk : k < ss.length) : ss[k].size ≤ s.size := by
  have h2 : ss[k].data.toList ∈ Pl.splitC s.data.toList := by
    rw [← h]
    exact List.mem_map.2 ⟨ss[k], List.getElem_mem _, rfl⟩
  have := splitC_each _ _ h2
  rwa [byte_len, byte_len] at this
theorem l01Parts_any (s : ByteArray) (w : World) (hs : s.size ≤ 2199023255552) :
    Calls Tryz.prog 78 #[.string s] w fun e w' => ∃ g c, e = .returned (.slice (some ⟨g, 0, none⟩) (Pl.splitC s.data.toList).length c) ∧ OwnV w' w.heap.size 2 g (Pl.splitC s.data.toList).length c (ints ((Pl.splitC s.data.toList).map Pl.numI)) ∧ Below w.heap.size w w' := by
  go_enter Tryz.func78, Tryz.ntmps78
  go_wp2_with fail
  refine (l01Split_any s w hs).mono ?_
  rintro e w1 ⟨g, c, ss, rfl, hO, hP, hB⟩
  have hlen : ss.length = (Pl.splitC s.data.toList).length := by rw [← hP.out]; simp
  have hls := splitC_small s.data.toList
  rw [byte_len, ← hlen] at hls
  have hsz := hB.size
  replace hlen := hid hlen
  go_wp2_with fail
  go_loopw [4, 5] (fun v i wr => ∃ (k g2 c2 : Nat), k ≤ ss.length ∧ i = .int .i64 k ∧ v = .slice (some ⟨g2, 0, none⟩) k c2 ∧ OwnV wr w.heap.size 2 g2 k c2 (nums (ss.take k)) ∧ OwnV wr w.heap.size 9 g ss.length c (ss.map Value.string) ∧ Below w.heap.size w wr ∧ g ≠ g2) (fun _ i _ => ss.length - (intOf i).toNat)
  case atStart => exact ⟨0, _, 0, Nat.zero_le _, rfl, rfl, OwnV.lit0 w1 _ _ _ rfl (by omega), hO.alloc _, by go_grown, by have := hO.lt; omega⟩
  case round =>
    clear hO hB hsz
    obtain ⟨k, g2, c2, hk, rfl, rfl, hO2, hO, hB, hne⟩ := hrel
    have hsz := hB.size
    by_cases hlt : k < ss.length
    · have hc := hO.cell (j := k) (by simpa using hlt)
      rw [List.getElem_map] at hc
      have hsm := ext_small s hP.out hlt
      have hO5 := hid hO
      go_wp2_with fail
      refine (l01Number_any ss[k] _ (by unfold maxLen; omega)).mono ?_
      rintro e w3 ⟨rfl, rfl⟩
      clear hO hc
      go_wp2_with (at_builtin; refine wp_pushV rfl _ _ 71 rfl w.heap.size 2 8 (.int .i64 0) Tryz.underlying71 info_ta64 rfl (by decide) _ _ _ _ rfl (hO2.alloc _) (by omega) ⟨wr.heap.size, 0, none⟩ 1 (.int .i64 (Pl.numI ss[k].data.toList)) rfl rfl (by go_simp) (by simp; omega) ?_; intro g3 c3 w3 hO3 hb3 hg3 hn3)
      have hlt5 := hO5.out.lt
      have hO6 := (hO5.out.alloc (.cells #[.int .i64 (Pl.numI ss[k].data.toList)] 2)).grown hg3 (by simpa using fun e => hne e.symm)
      have hB4 := (hB.alloc hsz _).trans hb3
      go_roundw
      case rel => exact ⟨k + 1, g3, c3, by omega, by go_num, rfl, hO3.cast rfl (by unfold nums; rw [List.take_succ_eq_append_getElem hlt, List.map_append]; rfl), hO6, hB4, by rcases hn3 with h | h; (· omega); (· simp at h; omega)⟩
      case measure => simp [intOf]; omega
    · obtain rfl : k = ss.length := by omega
      go_wp2_with fail
      go_ret
      refine ⟨g2, c2, by rw [hlen.out]; rfl, ?_, hB⟩
      have h := hO2
      rw [List.take_length, nums_parts hP.out] at h
      exact h.cast hlen.out rfl
end Go.Proofs.YtbjcbbnfgfmllaaGreatDoor
