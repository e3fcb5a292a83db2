/- Contracts: numbers and texts in decimal: the reference's. -/
import Derived.Test.YtbjcbbnfgfmllaaGreatDoorOwn
import Derived.Test.YtbjcbbnfgfmllaaGreatDoorA
import Derived.Test.YtbjcbbnfgfmllaaGreatDoorB
import Derived.Test.YtbjcbbnfgfmllaaGreatDoorTd0
import Derived.Laws.IdiomStrings
import Derived.Laws.BytesString
import Derived.Laws.Concat
import Derived.Deep.RegionHeld3
set_option linter.unusedVariables false
set_option linter.unusedSimpArgs false
set_option maxRecDepth 100000
set_option maxHeartbeats 1000000
namespace Go.Proofs.YtbjcbbnfgfmllaaGreatDoor
open Go.RowKit
theorem conv1 (n : Int) (h0 : 0 ≤ n) (h1 : n < 10) (w : World) (g : Nat) (h : w.cell? ⟨g, 0, none⟩ = some (.int .u8 (48 + n))) :
    (convert 22 9 (.slice (some ⟨g, 0, none⟩) 1 1)).run Tryz.prog w = .ok (.string ⟨#[Pl.dig n]⟩) w := by
  have hd : ((Pl.dig n).toNat : Int) = 48 + n := by
    unfold Pl.dig
    rw [UInt8.toNat_ofNat']
    omega
  refine run_convert_bytes_back (P := Tryz.prog) w _ _ 5 ⟨g, 0, none⟩ 1 [Pl.dig n] Tryz.underlying22 Tryz.underlying5 Tryz.underlying9 ?_
  intro j hj
  match j, hj with
  | 0, _ => simpa [Addr.add, hd] using h
theorem lay1 (w : World) (v : Value) (t : TypeId) : (w.alloc (.cells #[v] t)).cell? ⟨w.heap.size, 0, none⟩ = some v := by simp
theorem l01Dec_small (n : Int) (w : World) (h0 : 0 ≤ n) (h1 : n < 10) :
    Calls Tryz.prog 94 #[.int .i64 n] w fun e w' => e = .returned (.string ⟨(Pl.decT n).toArray⟩) ∧ Below w.heap.size w w' := by
  have hc := conv1 n h0 h1 (w.alloc (.cells #[.int .u8 (48 + n)] 5)) w.heap.size (by go_simp)
  have hd : Pl.decT n = [Pl.dig n] := by simp [Pl.decT, h1]
  rw [hd]
  go_enter Tryz.func94, Tryz.ntmps94
  go_wp2_with fail
  go_ret
  exact ⟨rfl, by go_grown⟩
theorem l01Dec_any (n : Int) (w : World) (h0 : 0 ≤ n) (h1 : n ≤ 31) :
    Calls Tryz.prog 94 #[.int .i64 n] w fun e w' => e = .returned (.string ⟨(Pl.decT n).toArray⟩) ∧ Below w.heap.size w w' := by
  by_cases hs : n < 10
  · exact l01Dec_small n w h0 hs
  obtain ⟨t, q1⟩ : ∃ t, Int.tdiv n 10 = t := ⟨_, rfl⟩
  obtain ⟨u, q2⟩ : ∃ u, Int.tmod n 10 = u := ⟨_, rfl⟩
  have ht : t = n / 10 := by rw [← q1]; exact Int.tdiv_eq_ediv_of_nonneg h0
  have hu : u = n % 10 := by rw [← q2]; exact Int.tmod_eq_emod_of_nonneg h0
  have t0 : 0 ≤ t := by omega
  have t1 : t < 10 := by omega
  have u0 : 0 ≤ u := by omega
  have u1 : u < 10 := by omega
  have hd : Pl.decT n = [Pl.dig t, Pl.dig u] := by simp [Pl.decT, hs, ht, hu]
  have hd2 : Hid (Pl.decT t = [Pl.dig t]) := by simp [Hid, Pl.decT, t1]
  rw [hd]
  clear hd ht hu
  have e1 : IntKind.i64.wrap t = t := IntWalk.i64_in _ (by omega)
  have e2 : IntKind.i64.wrap (48 + u) = 48 + u := IntWalk.i64_in _ (by omega)
  have e3 : IntKind.u8.wrap (48 + u) = 48 + u := IntWalk.u8_in _ (by omega)
  have hc : ∀ (w' : World) (g : Nat), w'.cell? ⟨g, 0, none⟩ = some (.int .u8 (48 + u)) → (convert 22 9 (.slice (some ⟨g, 0, none⟩) 1 1)).run Tryz.prog w' = .ok (.string ⟨#[Pl.dig u]⟩) w' := fun w' g h => conv1 u u0 u1 w' g h
  go_enter Tryz.func94, Tryz.ntmps94
  go_wp2_with fail
  go_region_with (go_at_call 94; refine (l01Dec_small _ _ (by omega) (by omega)).mono ?_; rintro e w' ⟨rfl, hb⟩; rw [hd2.out]; have hB : Below w.heap.size w w' := below_of (by go_grown) hb (by simp); first | (have hcell := keepC hb (lay1 w (.int .u8 (48 + u)) 5)) | skip)
  all_goals
    go_wp2_with fail
    go_ret
    exact ⟨rfl, by first | exact hB | (have := hB.size; go_grown)⟩
theorem bytes_of {s : ByteArray} {l : List UInt8} (h : s.data.toList = l) : s = ⟨l.toArray⟩ := by
  obtain ⟨⟨m⟩⟩ := s
  cases h
  rfl
theorem bytes_len {s : ByteArray} {l : List UInt8} (h : s.data.toList = l) : s.size = l.length := by
  rw [← h]; rfl
theorem joinT_step0 (xs : List Int) (h : 0 < xs.length) : Pl.joinT (xs.take 1) = Pl.decT xs[0] := by
  match xs, h with
  | x :: r, _ => simp [Pl.joinT_one]
theorem joinT_step (xs : List Int) (k : Nat) (h : k < xs.length) (h0 : 0 < k) : Pl.joinT (xs.take (k + 1)) = Pl.joinT (xs.take k) ++ 44 :: Pl.decT xs[k] := by
  rw [List.take_succ_eq_append_getElem h]
  refine Pl.joinT_snoc _ _ ?_
  exact List.length_pos_iff.1 (by simp; omega)
theorem ret_str {a b : ByteArray} (h : a = b) : Ending.returned (.string a) = .returned (.string b) := by rw [h]
theorem comma_size : (⟨#[44]⟩ : ByteArray).size = 1 := rfl
theorem dec_size (x : Int) : (⟨(Pl.decT x).toArray⟩ : ByteArray).size ≤ 2 := by
  have := Pl.decT_len x
  simpa [ByteArray.size] using this
theorem l01Joined_any (b off n c : Nat) (xs : List Int) (hn : xs.length = n) (hm : n ≤ 100) (hx : ∀ x ∈ xs, 0 ≤ x ∧ x ≤ 31) (w : World) (hb : b < w.heap.size) (hc : ∀ j, j < n → w.cell? ⟨b, off + j, none⟩ = some (.int .i64 (xs.getD j 0))) :
    Calls Tryz.prog 66 #[.slice (some ⟨b, off, none⟩) n c] w fun e w' => e = .returned (.string ⟨(Pl.joinT xs).toArray⟩) ∧ Below w.heap.size w w' := by
  have HN := hid hn
  have HC := hid hc
  have HX := hid hx
  clear hn hc hx
  go_enter Tryz.func66, Tryz.ntmps66
  go_wp2_with fail
  go_loopw [3, 4] (fun v i wr => ∃ (k : Nat) (s : ByteArray), k ≤ n ∧ i = .int .i64 k ∧ v = .string s ∧ s.size ≤ 3 * k ∧ Hid (s.data.toList = Pl.joinT (xs.take k)) ∧ Below w.heap.size w wr) (fun _ i _ => n - (intOf i).toNat)
  case atStart => exact ⟨0, ⟨#[]⟩, Nat.zero_le _, rfl, rfl, by decide, hid rfl, by go_grown⟩
  case round =>
    obtain ⟨k, s, hk, rfl, rfl, hsz, hs, hB⟩ := hrel
    have hsB := hB.size
    by_cases hlt : k < n
    · have hkl : k < xs.length := by have := HN.out; omega
      have hcell := cellOf hB (HC.out k hlt) hb
      have hget : xs.getD k 0 = xs[k] := by simp [hkl]
      rw [hget] at hcell
      obtain ⟨x0, x1⟩ := HX.out _ (List.getElem_mem hkl)
      have hlen := dec_size xs[k]
      have hcs := comma_size
      have hlen2 := Pl.decT_len xs[k]
      by_cases hk0 : k = 0
      · have hst := hid (joinT_step0 xs (by omega))
        subst hk0
        rw [Nat.add_zero] at hcell
        have hs0 : s.data.toList = [] := hs.out
        clear HC HX HN hget
        generalize xs[0] = x at *
        go_wp2_with fail
        refine (l01Dec_any x _ x0 x1).mono ?_
        rintro e w' ⟨rfl, hbn⟩
        go_wp2_with fail
        go_roundw
        case rel => exact ⟨1, _, by omega, by go_num, rfl, by first | (rw [ByteArray.size_append', ByteArray.size_append', hcs]; omega) | (rw [ByteArray.size_append']; omega), hid (by rw [hst.out]; simp [ByteArray.data_append, hs0]), below_of hB hbn hsB⟩
        case measure => simp [intOf]; omega
      · have hst := hid (joinT_step xs k (by omega) (by omega))
        have hk1 : 0 < k := by omega
        clear HC HX HN hget
        generalize xs[k] = x at *
        go_wp2_with fail
        refine (l01Dec_any x _ x0 x1).mono ?_
        rintro e w' ⟨rfl, hbn⟩
        go_wp2_with fail
        go_roundw
        case rel => exact ⟨k + 1, _, by omega, by go_num, rfl, by first | (rw [ByteArray.size_append', ByteArray.size_append', hcs]; omega) | (rw [ByteArray.size_append']; omega), hid (by rw [hst.out]; simp [ByteArray.data_append, hs.out]), below_of hB hbn hsB⟩
        case measure => simp [intOf]; omega
    · have hkn : k = n := by omega
      subst hkn
      have hfin : s = ⟨(Pl.joinT xs).toArray⟩ := bytes_of (by rw [hs.out, List.take_of_length_le (by have := HN.out; omega)])
      replace hfin := hid hfin
      clear HC HX HN hs
      go_wp2_with fail
      go_ret
      exact ⟨ret_str hfin.out, hB⟩
end Go.Proofs.YtbjcbbnfgfmllaaGreatDoor
