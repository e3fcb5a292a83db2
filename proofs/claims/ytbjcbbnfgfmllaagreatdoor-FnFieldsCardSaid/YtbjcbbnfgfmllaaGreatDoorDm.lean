/- Contracts: l01Damage: a text somewhat changed. -/
import Derived.Test.YtbjcbbnfgfmllaaGreatDoorDn
import Derived.Test.YtbjcbbnfgfmllaaGreatDoorB
import Derived.Laws.Strings2
import Derived.Laws.Strings3
import Derived.Laws.Concat
set_option linter.unusedVariables false
set_option linter.unusedSimpArgs false
set_option maxRecDepth 100000
set_option maxHeartbeats 2000000
namespace Go.Proofs.YtbjcbbnfgfmllaaGreatDoor
open Go.RowKit
/-- What l01Damage leaves. -/
structure DmgX (t : ByteArray) (B bs k c : Nat) (o : Option Addr) (m h : Int) (w : World) (s : ByteArray) (m' h' : Int) (w' : World) : Prop where
  size : s.size ≤ t.size + 1
  src : Src w' B bs (.slice o k c)
  grown : w.grownBy w' (some bs)
  at_ : Where w' bs m' h'
  m0 : 0 ≤ m'
  m1 : m' ≤ 4096
  more : m ≤ m'
  done : (k : Int) ≤ m → m' = m ∧ (h' = stepU h ∨ h' = stepU (stepU (stepU h)))
def DmgP (t : ByteArray) (B bs k c : Nat) (o : Option Addr) (m h : Int) (w : World) (e : Ending) (w' : World) : Prop := ∃ (s : ByteArray) (m' h' : Int), e = .returned (.string s) ∧ DmgX t B bs k c o m h w s m' h' w'
def signs : List ByteArray := [⟨#[48]⟩, ⟨#[49]⟩, ⟨#[50]⟩, ⟨#[51]⟩, ⟨#[55]⟩, ⟨#[57]⟩, ⟨#[44]⟩, ⟨#[32]⟩, ⟨#[58]⟩, ⟨#[120]⟩, ⟨#[10]⟩]
theorem sign_at {j : Nat} (h : j < 11) : ∃ c : ByteArray, (signs.map Value.string)[j]? = some (.string c) ∧ c.size = 1 := by
  match j, h with
  | 0, _ => exact ⟨_, rfl, rfl⟩
  | 1, _ => exact ⟨_, rfl, rfl⟩
  | 2, _ => exact ⟨_, rfl, rfl⟩
  | 3, _ => exact ⟨_, rfl, rfl⟩
  | 4, _ => exact ⟨_, rfl, rfl⟩
  | 5, _ => exact ⟨_, rfl, rfl⟩
  | 6, _ => exact ⟨_, rfl, rfl⟩
  | 7, _ => exact ⟨_, rfl, rfl⟩
  | 8, _ => exact ⟨_, rfl, rfl⟩
  | 9, _ => exact ⟨_, rfl, rfl⟩
  | 10, _ => exact ⟨_, rfl, rfl⟩
theorem sign_cell (w : World) (t : TypeId) {j : Nat} (h : j < 11) (cs : Array Value) (hcs : (signs.map Value.string).toArray = cs) : ∃ c : ByteArray, (w.alloc (.cells cs t)).cell? ⟨w.heap.size, j, none⟩ = some (.string c) ∧ c.size = 1 := by
  obtain ⟨c, h1, h2⟩ := sign_at h
  subst hcs
  refine ⟨c, ?_, h2⟩
  rw [← h1]
  simp
theorem Where.alloc {w : World} {bs : Nat} {m h : Int} (hw : Where w bs m h) (o : Obj) : Where (w.alloc o) bs m h := ⟨keepA o hw.1, keepA o hw.2⟩
theorem ext_to (t : ByteArray) {a b : Nat} (h : a ≤ b) (hb : b ≤ t.size) : (t.extract a b).size = b - a := by
  rw [ByteArray.size_extract]
  omega
theorem damage_any (t : ByteArray) (ht : t.size ≤ 1099511627776) (B bs k c : Nat) (o : Option Addr) (m h : Int) (w : World) (hs : Src w B bs (.slice o k c)) (hw : Where w bs m h) (hm0 : 0 ≤ m) (hm1 : m ≤ 4096) (hk : k ≤ 4096) :
    Calls Tryz.prog 76 #[.pointer (some ⟨bs, 0, none⟩), .string t] w fun e w' => DmgP t B bs k c o m h w e w' := by
  go_enter Tryz.func76, Tryz.ntmps76
  go_wp2_with fail
  have hlt := hs.lt
  refine (next_exact 11 (by omega) (by omega) B bs k c o m h _ (hs.alloc _) (hw.alloc _) hm0 hm1 hk).mono ?_
  rintro e w1 ⟨r, m1, rfl, X⟩
  obtain ⟨cc, hcell, hcs⟩ := sign_cell w 9 (j := r.toNat) (by have := X.r0; have := X.r1; omega) _ rfl
  replace hcell := cellG X.grown hcell (by dsimp only; omega)
  have hG := grownBy_trans (World.grownBy_alloc w (.cells (signs.map Value.string).toArray 9) (some bs)) X.grown
  have r0 := X.r0
  have r1 := X.r1
  by_cases h0 : t.size = 0
  · have hfin : DmgX t B bs k c o m h w cc m1 (stepU h) w1 := ⟨by omega, X.src, hG, X.at_, X.m0, X.m1, by
      by_cases hmk : m < k
      · have := X.more hmk; omega
      · have := (X.done (by omega)).1; omega, fun hh => ⟨(X.done hh).1, .inl rfl⟩⟩
    replace hfin := hid hfin
    clear X hG hs hw
    go_wp2_with fail
    go_ret
    exact ⟨cc, m1, _, rfl, hfin.out⟩
  · have hb0 : ((t.size : Int) == 0) = false := beq_eq_false_iff_ne.2 (by omega)
    have X' := hid X
    have hG' := hid hG
    clear X hG hs hw
    go_wp2_with fail
    refine (next_exact t.size (by omega) (by omega) B bs k c o m1 (stepU h) _ X'.out.src X'.out.at_ X'.out.m0 X'.out.m1 hk).mono ?_
    rintro e w2 ⟨a, m2, rfl, Y⟩
    have a0 := Y.r0
    have a1 := Y.r1
    have Y' := hid Y
    clear Y
    go_wp2_with fail
    refine (next_exact 3 (by omega) (by omega) B bs k c o m2 (stepU (stepU h)) _ Y'.out.src Y'.out.at_ Y'.out.m0 Y'.out.m1 hk).mono ?_
    rintro e w3 ⟨q, m3, rfl, Z⟩
    have q0 := Z.r0
    have q1 := Z.r1
    have hfin : ∀ (s : ByteArray) (n : Nat), s.size ≤ t.size + 1 → DmgX t B bs k c o m h w s m3 (stepU (stepU (stepU h))) (w3.drewN n) := fun s n hs => ⟨hs, Z.src.drewN n, grownBy_drewN (grownBy_trans hG'.out (grownBy_trans Y'.out.grown Z.grown)) n, Z.at_, Z.m0, Z.m1, by
      have p1 : m ≤ m1 := by
        by_cases hmk : m < k
        · have := X'.out.more hmk; omega
        · have := (X'.out.done (by omega)).1; omega
      have p2 : m1 ≤ m2 := by
        by_cases hmk : m1 < k
        · have := Y'.out.more hmk; omega
        · have := (Y'.out.done (by omega)).1; omega
      by_cases hmk : m2 < k
      · have := Z.more hmk; omega
      · have := (Z.done (by omega)).1; omega, fun hh => by
      have p1 := (X'.out.done hh).1
      have p2 := (Y'.out.done (by omega)).1
      have p3 := (Z.done (by omega)).1
      exact ⟨by omega, .inr rfl⟩⟩
    replace hfin := hid hfin
    obtain ⟨j, rfl⟩ : ∃ j : Nat, a = j := ⟨a.toNat, by omega⟩
    have hj : j < t.size := by omega
    have e1 := ext_to t (a := 0) (b := j) (by omega) (by omega)
    have e2 := ext_to t (a := j + 1) (b := t.size) (by omega) (by omega)
    have e3 := ext_to t (a := j) (b := t.size) (by omega) (by omega)
    clear X' Y' Z hG'
    by_cases hq0 : q = 0
    · subst hq0
      go_wp2_with fail
      go_quiet (fail)
      go_wp2_with fail
      go_ret
      exact ⟨_, m3, _, rfl, hfin.out _ _ (by simp only [ByteArray.size_append']; omega)⟩
    · by_cases hq1 : q = 1
      · subst hq1
        go_wp2_with fail
        go_quiet (fail)
        go_wp2_with fail
        go_ret
        exact ⟨_, m3, _, rfl, hfin.out _ _ (by simp only [ByteArray.size_append']; omega)⟩
      · have b0 : (q == 0) = false := beq_eq_false_iff_ne.2 hq0
        have b1 : (q == 1) = false := beq_eq_false_iff_ne.2 hq1
        go_wp2_with fail
        go_quiet (fail)
        go_wp2_with fail
        go_ret
        exact ⟨_, m3, _, rfl, hfin.out _ _ (by simp only [ByteArray.size_append']; omega)⟩
end Go.Proofs.YtbjcbbnfgfmllaaGreatDoor
