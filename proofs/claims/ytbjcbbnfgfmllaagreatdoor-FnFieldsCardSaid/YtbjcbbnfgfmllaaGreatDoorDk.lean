/- Contracts: DrawParsePoint, DrawParseLine: a drawn text, somewhat changed; the loop ends. -/
import Derived.Test.YtbjcbbnfgfmllaaGreatDoorDm
import Derived.Test.YtbjcbbnfgfmllaaGreatDoorDr2
import Derived.Test.YtbjcbbnfgfmllaaGreatDoorDr3
import Derived.Test.YtbjcbbnfgfmllaaGreatDoorDr4
import Derived.Test.YtbjcbbnfgfmllaaGreatDoorDr6
import Derived.Test.YtbjcbbnfgfmllaaGreatDoorTd
import Derived.Deep.LoopGhost
set_option linter.unusedVariables false
set_option linter.unusedSimpArgs false
set_option maxRecDepth 100000
set_option maxHeartbeats 2000000
namespace Go.Proofs.YtbjcbbnfgfmllaaGreatDoor
open Go.RowKit
/-- At most n rounds are to come where the next draw is made of z. -/
def Goes (n : Nat) (z : Int) : Prop := (n = 1 ∧ Pl.free3 (Pl.lout z)) ∨ ∃ k : Nat, n = k + 2 ∧ Pl.free3 (Pl.lout (Pl.lU k z)) ∧ Pl.free3 (Pl.lout (Pl.lU (k + 1) z))
theorem lU_shift (n m : Nat) (z : Int) : Pl.lU n (Pl.lU m z) = Pl.lU (n + m) z := (Pl.lU_add m z n).symm
theorem Goes.step {n : Nat} {z : Int} (h : Goes n z) (hf : ¬ Pl.free3 (Pl.lout z)) : (∃ m, m < n ∧ Goes m (Pl.lU 1 z)) ∧ ∃ m, m < n ∧ Goes m (Pl.lU 2 z) := by
  rcases h with ⟨_, h⟩ | ⟨k, rfl, h1, h2⟩
  · exact absurd h hf
  · match k, h1, h2 with
    | 0, h1, h2 => exact absurd h1 hf
    | 1, h1, h2 =>
      refine ⟨⟨2, by omega, .inr ⟨0, rfl, ?_, ?_⟩⟩, ⟨1, by omega, .inl ⟨rfl, h2⟩⟩⟩
      · rw [lU_shift]; exact h1
      · rw [lU_shift]; exact h2
    | k + 2, h1, h2 =>
      refine ⟨⟨k + 3, by omega, .inr ⟨k + 1, rfl, ?_, ?_⟩⟩, ⟨k + 2, by omega, .inr ⟨k, rfl, ?_, ?_⟩⟩⟩
      · rw [lU_shift]; exact h1
      · rw [lU_shift]; exact h2
      · rw [lU_shift]; exact h1
      · rw [lU_shift, show k + 1 + 2 = k + 2 + 1 by omega]; exact h2
/-- The source is reckoned modulo 2^64. -/
def Cg (a b : Int) : Prop := ∃ t : Int, a = b + 18446744073709551616 * t
theorem Cg.lout {a b : Int} (h : Cg a b) : Pl.lout a = Pl.lout b := by
  obtain ⟨t, rfl⟩ := h
  unfold Pl.lout
  omega
theorem Cg.lU {a b : Int} (h : Cg a b) : ∀ k : Nat, Cg (Pl.lU k a) (Pl.lU k b)
  | 0 => h
  | k + 1 => by
    obtain ⟨t, ht⟩ := Cg.lU h k
    refine ⟨Pl.lA * t, ?_⟩
    show Pl.lA * Pl.lU k a + Pl.lC = Pl.lA * Pl.lU k b + Pl.lC + _
    rw [ht]
    grind
theorem Goes.cg {n : Nat} {a b : Int} (h : Goes n b) (hc : Cg a b) : Goes n a := by
  rcases h with ⟨h1, h2⟩ | ⟨k, h0, h1, h2⟩
  · exact .inl ⟨h1, by rw [hc.lout]; exact h2⟩
  · exact .inr ⟨k, h0, by rw [(hc.lU k).lout]; exact h1, by rw [(hc.lU (k + 1)).lout]; exact h2⟩
theorem step_cg (h : Int) : Cg (stepU h) (h * 6364136223846793005 + 1442695040888963407) := by
  rw [stepU_eq]
  refine ⟨-((h * 6364136223846793005 + 1442695040888963407) / 18446744073709551616), ?_⟩
  have := Int.emod_add_mul_ediv (h * 6364136223846793005 + 1442695040888963407) 18446744073709551616
  omega
theorem step_cg' {a b : Int} (h : Cg a b) : Cg (stepU a) (b * 6364136223846793005 + 1442695040888963407) := by
  obtain ⟨t, rfl⟩ := h
  obtain ⟨u, hu⟩ := step_cg (b + 18446744073709551616 * t)
  exact ⟨u + 6364136223846793005 * t, by rw [hu]; grind⟩
theorem step2_cg (h : Int) : Cg (stepU (stepU h)) (Pl.lU 1 h) := by
  have h2 := step_cg' (step_cg h)
  have e : (h * 6364136223846793005 + 1442695040888963407) * 6364136223846793005 + 1442695040888963407 = Pl.lU 1 h := by
    show _ = Pl.lA * h + Pl.lC
    unfold Pl.lA Pl.lC
    grind
  rwa [e] at h2
theorem Cg.trans {a b c : Int} (h1 : Cg a b) (h2 : Cg b c) : Cg a c := by
  obtain ⟨t, rfl⟩ := h1
  obtain ⟨u, rfl⟩ := h2
  exact ⟨u + t, by grind⟩
theorem step4_cg (h : Int) : Cg (stepU (stepU (stepU (stepU h)))) (Pl.lU 2 h) := by
  have h1 := step2_cg (stepU (stepU h))
  have h2 := (step2_cg h).lU 1
  rw [lU_shift] at h2
  exact h1.trans h2
/-- How many rounds may come: the code's bytes first, then the source alone. -/
def Meas (n : Nat) (k : Nat) (m h : Int) : Prop := (m < k ∧ n = 17181966340 + ((k : Int) - m).toNat) ∨ ((k : Int) ≤ m ∧ n ≤ 17181966338 ∧ Goes n (stepU h))
theorem meas_new (k : Nat) (m h : Int) (hm : 0 ≤ m) (hk : k ≤ 4096) : ∃ n, n ≤ 17181970436 ∧ Meas n k m h := by
  by_cases hmk : m < k
  · exact ⟨_, by omega, .inl ⟨hmk, rfl⟩⟩
  · obtain ⟨q, hq, h1, h2⟩ := Pl.lU_stop (stepU h)
    exact ⟨q + 2, by omega, .inr ⟨by omega, by omega, .inr ⟨q, rfl, h1, h2⟩⟩⟩
theorem meas_step {n k : Nat} {m h m1 m2 h2 : Int} (hM : Meas n k m h) (h1 : m < k → m1 = m + 1) (h1' : (k : Int) ≤ m → m1 = m ∧ Pl.lout (stepU h) % 3 = 0) (h3 : m1 ≤ m2) (h3' : (k : Int) ≤ m1 → m2 = m1 ∧ (h2 = stepU (stepU h) ∨ h2 = stepU (stepU (stepU (stepU h))))) : ∃ n', n' < n ∧ Meas n' k m2 h2 := by
  rcases hM with ⟨ha, rfl⟩ | ⟨ha, hb, hg⟩
  · have e1 := h1 ha
    by_cases hmk : m2 < k
    · exact ⟨_, by omega, .inl ⟨hmk, rfl⟩⟩
    · obtain ⟨q, hq, g1, g2⟩ := Pl.lU_stop (stepU h2)
      exact ⟨q + 2, by omega, .inr ⟨by omega, by omega, .inr ⟨q, rfl, g1, g2⟩⟩⟩
  · obtain ⟨e1, hz⟩ := h1' ha
    obtain ⟨e2, hh⟩ := h3' (by omega)
    have hs := hg.step (fun hf => hf hz)
    rcases hh with rfl | rfl
    · obtain ⟨q, hq, g⟩ := hs.1
      exact ⟨q, hq, .inr ⟨by omega, by omega, g.cg (step2_cg (stepU h))⟩⟩
    · obtain ⟨q, hq, g⟩ := hs.2
      exact ⟨q, hq, .inr ⟨by omega, by omega, g.cg (step4_cg (stepU h))⟩⟩
theorem drawParsePoint_any (v : Value) (w : World) (hv : Bytes w w.heap.size v) :
    Calls Tryz.prog 29 #[v] w fun e w' => (∃ (t : Int) (s : ByteArray), e = .returned (.tuple #[.int .i64 t, .string s]) ∧ s.size ≤ 17182000000) ∧ Below w.heap.size w w' := by
  obtain ⟨B, hBw⟩ : ∃ B, B = w.heap.size := ⟨_, rfl⟩
  have hv0 : Bytes w B v := by rw [hBw]; exact hv
  clear hv
  go_enter Tryz.func29, Tryz.ntmps29
  go_wp2_with fail
  have hB := Below.refl w.heap.size w
  refine (from_any v B w hv0 (by omega)).mono ?_
  rintro e w1 ⟨rfl, hs, hbn⟩
  have hG : w.grownBy w1 (some w.heap.size) := grown_below (below_of hB hbn hB.size)
  clear hB hbn hv0
  generalize hbs : w.heap.size = bs at *
  have hlow := hs.low
  go_wp2_with fail
  refine (drawField_any B bs v _ hs).mono ?_
  rintro e w' ⟨⟨p, rfl, hpm⟩, hs', hG'⟩
  replace hs := hs'
  replace hG := grownBy_trans hG hG'
  clear hs' hG'
  have hf := field_of hpm
  have hp := Pl.field_bd hf
  obtain ⟨hp1, hp2⟩ := hp
  clear hpm
  go_wp2_with fail
  refine (drawPoint_any p (by omega) B bs v _ hs).mono ?_
  rintro e w' ⟨⟨x, y, rfl, x1, x2, y1, y2⟩, hs', hG'⟩
  replace hs := hs'
  replace hG := grownBy_trans hG hG'
  clear hs' hG'
  go_wp2_with fail
  refine (l01Joined_any _ 0 2 2 [x, y] rfl (by omega) ?_ _ (by simp) ?_).mono ?_
  · intro x hx
    simp at hx
    rcases hx with rfl | rfl
    all_goals omega
  · intro j hj
    match j, hj with
    | 0, _ => go_simp
    | 1, _ => go_simp
  rintro e w3 ⟨rfl, hbn⟩
  have hb3 : Below w'.heap.size w' w3 := below_of (by go_grown) hbn (by simp <;> omega)
  replace hs := hs.keep hb3
  replace hG := grownBy_trans hG (grown_below hb3)
  clear hb3 hbn
  have hts : (⟨(Pl.joinT [x, y]).toArray⟩ : ByteArray).size ≤ 9 := by
    have h1 := Pl.joinT_len [x, y]
    have h2 : (⟨(Pl.joinT [x, y]).toArray⟩ : ByteArray).size = (Pl.joinT [x, y]).length := by simp [ByteArray.size]
    rw [h2]
    simp only [List.length_cons, List.length_nil] at h1
    omega
  generalize (⟨(Pl.joinT [x, y]).toArray⟩ : ByteArray) = s0 at *
  obtain ⟨o, k, c, hvv, hk, _, _⟩ := hs.bytes
  subst hvv
  obtain ⟨m0, c1, m01, m02⟩ := hs.at_
  obtain ⟨h0, c2⟩ := hs.hash
  obtain ⟨n0, hn0, hM0⟩ := meas_new k m0 h0 m01 hk
  replace hM0 := hid hM0
  go_wp2_with fail
  go_loopg [7] n0 (fun gk tv wr => ∃ (s : ByteArray) (m h : Int), tv = .string s ∧ Src wr B bs (.slice o k c) ∧ Where wr bs m h ∧ 0 ≤ m ∧ m ≤ 4096 ∧ w.grownBy wr (some bs) ∧ s.size + gk ≤ 17182000000 ∧ Hid (Meas gk k m h))
  case atStart => exact ⟨s0, m0, h0, rfl, hs, ⟨c1, c2⟩, m01, m02, hG, by omega, hM0⟩
  case round =>
    clear hs hG c1 c2 hM0
    obtain ⟨s, m, h, rfl, hs, hw, hm1, hm2, hG, hsz, hM⟩ := hrel
    go_wp2_with fail
    refine (next_exact 3 (by omega) (by omega) B bs k c o m h _ hs hw hm1 hm2 hk).mono ?_
    rintro e w4 ⟨r, m1, rfl, X⟩
    have hG4 := grownBy_trans hG X.grown
    have X' := hid X
    have hs4 := X.src
    clear X
    by_cases hr : r = 0
    · subst hr
      go_wp2_with fail
      refine (damage_any s (by omega) B bs k c o m1 (stepU h) _ X'.out.src X'.out.at_ X'.out.m0 X'.out.m1 hk).mono ?_
      rintro e w5 ⟨s2, m2, h2, rfl, D⟩
      obtain ⟨gk2, hlt, hM2⟩ := meas_step hM.out X'.out.more (fun hh => ⟨(X'.out.done hh).1, ((X'.out.done hh).2).symm⟩) D.more D.done
      have hD := hid D
      have hG5 := grownBy_trans hG4 D.grown
      replace hM2 := hid hM2
      clear D hM X' hw hs
      go_wp2_with fail
      go_roundg gk2
      case rel => exact ⟨s2, m2, h2, rfl, hD.out.src, hD.out.at_, hD.out.m0, hD.out.m1, hG5, by have := hD.out.size; omega, hM2⟩
      case measure => exact hlt
    · have hb0 : (r == 0) = false := beq_eq_false_iff_ne.2 hr
      clear X' hM hw hs
      go_wp2_with fail
      refine (badField_any p B bs _ _ hs4).mono ?_
      rintro e w' ⟨⟨uf, rfl⟩, hs', hG'⟩
      have hG5 := grownBy_trans hG4 hG'
      clear hs' hG' hG4 hs4
      go_wp2_with fail
      try simp only [Exit.inBlock, Exit.then]
      first | go_ret2 | go_returns
      exact ⟨⟨_, _, rfl, by omega⟩, by have hBf := below_grown (Below.refl bs w) hG5 (by omega) (by omega); first | exact hBf | (rw [hbs]; exact hBf)⟩
theorem drawParseLine_any (v : Value) (w : World) (hv : Bytes w w.heap.size v) :
    Calls Tryz.prog 31 #[v] w fun e w' => (∃ (t : Int) (s : ByteArray), e = .returned (.tuple #[.int .i64 t, .string s]) ∧ s.size ≤ 17182000000) ∧ Below w.heap.size w w' := by
  obtain ⟨B, hBw⟩ : ∃ B, B = w.heap.size := ⟨_, rfl⟩
  have hv0 : Bytes w B v := by rw [hBw]; exact hv
  clear hv
  go_enter Tryz.func31, Tryz.ntmps31
  go_wp2_with fail
  have hB := Below.refl w.heap.size w
  refine (from_any v B w hv0 (by omega)).mono ?_
  rintro e w1 ⟨rfl, hs, hbn⟩
  have hG : w.grownBy w1 (some w.heap.size) := grown_below (below_of hB hbn hB.size)
  clear hB hbn hv0
  generalize hbs : w.heap.size = bs at *
  have hlow := hs.low
  go_wp2_with fail
  refine (drawField_any B bs v _ hs).mono ?_
  rintro e w' ⟨⟨p, rfl, hpm⟩, hs', hG'⟩
  replace hs := hs'
  replace hG := grownBy_trans hG hG'
  clear hs' hG'
  have hf := field_of hpm
  have hp := Pl.field_bd hf
  obtain ⟨hp1, hp2⟩ := hp
  clear hpm
  go_wp2_with fail
  refine (drawLine_any p (by omega) (by omega) B bs v _ hs).mono ?_
  rintro e w' ⟨⟨la, lb, lc, rfl, hl, y1, y2, z1, z2⟩, hs', hG'⟩
  replace hs := hs'
  replace hG := grownBy_trans hG hG'
  clear hs' hG'
  have x1 : 0 ≤ la := by omega
  have x2 : la < p := by omega
  go_wp2_with fail
  refine (l01Joined_any _ 0 3 3 [la, lb, lc] rfl (by omega) ?_ _ (by simp) ?_).mono ?_
  · intro x hx
    simp at hx
    rcases hx with rfl | rfl | rfl
    all_goals omega
  · intro j hj
    match j, hj with
    | 0, _ => go_simp
    | 1, _ => go_simp
    | 2, _ => go_simp
  rintro e w3 ⟨rfl, hbn⟩
  have hb3 : Below w'.heap.size w' w3 := below_of (by go_grown) hbn (by simp <;> omega)
  replace hs := hs.keep hb3
  replace hG := grownBy_trans hG (grown_below hb3)
  clear hb3 hbn
  have hts : (⟨(Pl.joinT [la, lb, lc]).toArray⟩ : ByteArray).size ≤ 9 := by
    have h1 := Pl.joinT_len [la, lb, lc]
    have h2 : (⟨(Pl.joinT [la, lb, lc]).toArray⟩ : ByteArray).size = (Pl.joinT [la, lb, lc]).length := by simp [ByteArray.size]
    rw [h2]
    simp only [List.length_cons, List.length_nil] at h1
    omega
  generalize (⟨(Pl.joinT [la, lb, lc]).toArray⟩ : ByteArray) = s0 at *
  obtain ⟨o, k, c, hvv, hk, _, _⟩ := hs.bytes
  subst hvv
  obtain ⟨m0, c1, m01, m02⟩ := hs.at_
  obtain ⟨h0, c2⟩ := hs.hash
  obtain ⟨n0, hn0, hM0⟩ := meas_new k m0 h0 m01 hk
  replace hM0 := hid hM0
  go_wp2_with fail
  go_loopg [7] n0 (fun gk tv wr => ∃ (s : ByteArray) (m h : Int), tv = .string s ∧ Src wr B bs (.slice o k c) ∧ Where wr bs m h ∧ 0 ≤ m ∧ m ≤ 4096 ∧ w.grownBy wr (some bs) ∧ s.size + gk ≤ 17182000000 ∧ Hid (Meas gk k m h))
  case atStart => exact ⟨s0, m0, h0, rfl, hs, ⟨c1, c2⟩, m01, m02, hG, by omega, hM0⟩
  case round =>
    clear hs hG c1 c2 hM0
    obtain ⟨s, m, h, rfl, hs, hw, hm1, hm2, hG, hsz, hM⟩ := hrel
    go_wp2_with fail
    refine (next_exact 3 (by omega) (by omega) B bs k c o m h _ hs hw hm1 hm2 hk).mono ?_
    rintro e w4 ⟨r, m1, rfl, X⟩
    have hG4 := grownBy_trans hG X.grown
    have X' := hid X
    have hs4 := X.src
    clear X
    by_cases hr : r = 0
    · subst hr
      go_wp2_with fail
      refine (damage_any s (by omega) B bs k c o m1 (stepU h) _ X'.out.src X'.out.at_ X'.out.m0 X'.out.m1 hk).mono ?_
      rintro e w5 ⟨s2, m2, h2, rfl, D⟩
      obtain ⟨gk2, hlt, hM2⟩ := meas_step hM.out X'.out.more (fun hh => ⟨(X'.out.done hh).1, ((X'.out.done hh).2).symm⟩) D.more D.done
      have hD := hid D
      have hG5 := grownBy_trans hG4 D.grown
      replace hM2 := hid hM2
      clear D hM X' hw hs
      go_wp2_with fail
      go_roundg gk2
      case rel => exact ⟨s2, m2, h2, rfl, hD.out.src, hD.out.at_, hD.out.m0, hD.out.m1, hG5, by have := hD.out.size; omega, hM2⟩
      case measure => exact hlt
    · have hb0 : (r == 0) = false := beq_eq_false_iff_ne.2 hr
      clear X' hM hw hs
      go_wp2_with fail
      refine (badField_any p B bs _ _ hs4).mono ?_
      rintro e w' ⟨⟨uf, rfl⟩, hs', hG'⟩
      have hG5 := grownBy_trans hG4 hG'
      clear hs' hG' hG4 hs4
      go_wp2_with fail
      try simp only [Exit.inBlock, Exit.then]
      first | go_ret2 | go_returns
      exact ⟨⟨_, _, rfl, by omega⟩, by have hBf := below_grown (Below.refl bs w) hG5 (by omega) (by omega); first | exact hBf | (rw [hbs]; exact hBf)⟩
end Go.Proofs.YtbjcbbnfgfmllaaGreatDoor
