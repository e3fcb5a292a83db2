/- The source of drawn numbers, exactly: what l01Next hands out and what it leaves. -/
import Derived.Test.YtbjcbbnfgfmllaaGreatDoorDr
import Derived.Test.YtbjcbbnfgfmllaaGreatDoorLcg
set_option linter.unusedVariables false
set_option linter.unusedSimpArgs false
set_option maxRecDepth 100000
set_option maxHeartbeats 1000000
namespace Go.Proofs.YtbjcbbnfgfmllaaGreatDoor
open Go.RowKit
/-- The number behind h. -/
def stepU (h : Int) : Int := IntKind.u64.wrap (IntKind.u64.wrap (h * 6364136223846793005) + 1442695040888963407)
theorem stepU_eq (h : Int) : stepU h = (h * 6364136223846793005 + 1442695040888963407) % 18446744073709551616 := by
  unfold stepU
  rw [IntKind.wrap_u64, IntKind.wrap_u64]
  omega
theorem and24_mod {x : Int} (h0 : 0 ≤ x) (h1 : x < 18446744073709551616) : bits .and .u64 x 16777215 = x % 16777216 := by
  show IntKind.u64.wrap ((BitVec.ofInt 64 x &&& BitVec.ofInt 64 16777215).toNat : Int) = x % 16777216
  have e : (BitVec.ofInt 64 x &&& BitVec.ofInt 64 16777215).toNat = x.toNat % 16777216 := by
    rw [BitVec.toNat_and, BitVec.toNat_ofInt, BitVec.toNat_ofInt]
    rw [show (x % ((2 ^ 64 : Nat) : Int)).toNat = x.toNat by rw [Int.emod_eq_of_lt h0 (by simpa using h1)]]
    rw [show ((16777215 : Int) % ((2 ^ 64 : Nat) : Int)).toNat = 2 ^ 24 - 1 by decide]
    exact Nat.and_two_pow_sub_one_eq_mod _ _
  rw [e, IntKind.wrap_u64]
  omega
theorem lout_eq (h : Int) : bits .and .u64 (stepU h / 8589934592) 16777215 = Pl.lout (stepU h) := by
  have h1 : 0 ≤ stepU h ∧ stepU h < 18446744073709551616 := by rw [stepU_eq]; exact ⟨Int.emod_nonneg _ (by omega), Int.emod_lt_of_pos _ (by omega)⟩
  rw [and24_mod (by omega) (by omega)]
  rfl
/-- The source's place and number. -/
def Where (w : World) (bs : Nat) (m h : Int) : Prop := w.cell? ⟨bs, 1, none⟩ = some (.int .i64 m) ∧ w.cell? ⟨bs, 2, none⟩ = some (.int .u64 h)
/-- What l01Next hands out and leaves: q the number behind h, g what it hands out of q. -/
structure NextX (n : Int) (B bs k c : Nat) (o : Option Addr) (m q g : Int) (w : World) (r m' : Int) (w' : World) : Prop where
  r0 : 0 ≤ r
  r1 : r < n
  src : Src w' B bs (.slice o k c)
  grown : w.grownBy w' (some bs)
  at_ : Where w' bs m' q
  m0 : 0 ≤ m'
  m1 : m' ≤ 4096
  more : m < k → m' = m + 1
  done : (k : Int) ≤ m → m' = m ∧ r = g % n
def NextP (n : Int) (B bs k c : Nat) (o : Option Addr) (m q g : Int) (w : World) (e : Ending) (w' : World) : Prop := ∃ r m' : Int, e = .returned (.int .i64 r) ∧ NextX n B bs k c o m q g w r m' w'
theorem next_exact (n : Int) (hn : 1 ≤ n) (hn2 : n ≤ 4611686018427387904) (B bs k c : Nat) (o : Option Addr) (m h : Int) (w : World) (hs : Src w B bs (.slice o k c)) (hw : Where w bs m h) (hm0 : 0 ≤ m) (hm1 : m ≤ 4096) (hk : k ≤ 4096) :
    Calls Tryz.prog 75 #[.pointer (some ⟨bs, 0, none⟩), .int .i64 n] w fun e w' => NextP n B bs k c o m (stepU h) (Pl.lout (stepU h)) w e w' := by
  have c0 := hs.code
  have f0 := hs.free
  obtain ⟨c1, c2⟩ := hw
  have hl := lout_eq h
  have hq' : IntKind.u64.wrap (IntKind.u64.wrap (h * 6364136223846793005) + 1442695040888963407) = stepU h := rfl
  have hb : 0 ≤ Pl.lout (stepU h) ∧ Pl.lout (stepU h) < 16777216 := ⟨Int.emod_nonneg _ (by omega), Int.emod_lt_of_pos _ (by omega)⟩
  generalize Pl.lout (stepU h) = g at *
  generalize stepU h = q at *
  have hnn : ¬ n < 1 := by omega
  go_enter Tryz.func75, Tryz.ntmps75
  go_wp2_with fail
  clear hl hq'
  obtain ⟨g0, g1⟩ := hb
  replace hs := hs.put2 q
  have hG := grownBy_set w bs 2 (.int .u64 q)
  have k1 : (World.setCell w ⟨bs, 2, none⟩ (.int .u64 q)).cell? ⟨bs, 1, none⟩ = some (.int .i64 m) := by simp [World.cell?_setCell_other, c1]
  have k2 : (World.setCell w ⟨bs, 2, none⟩ (.int .u64 q)).cell? ⟨bs, 2, none⟩ = some (.int .u64 q) := by simp [World.cell?_setCell_same, c2]
  generalize World.setCell w ⟨bs, 2, none⟩ (.int .u64 q) = W at hs hG k1 k2 ⊢
  clear c0 f0 c1 c2
  have c0 := hs.code
  have f0 := hs.free
  obtain ⟨o', k', c', he, hk', h0, hc⟩ := hs.bytes
  obtain ⟨rfl, rfl, rfl⟩ : o = o' ∧ k = k' ∧ c = c' := by simpa using he
  by_cases hmk : m < (k : Int)
  · obtain ⟨ad, rfl⟩ : ∃ ad, o = some ad := by
      cases o with
      | none => have := h0 rfl; omega
      | some ad => exact ⟨ad, rfl⟩
    obtain ⟨b, hb, hb0, hb1⟩ := (hc ad rfl).2 m.toNat (by omega)
    have hlt := (hc ad rfl).1 (by omega)
    have hl := hs.low
    clear hc h0 he
    go_quiet (fail)
    go_wp2_with fail
    go_quiet (fail)
    go_wp2_with fail
    go_ret
    refine ⟨_, m + 1, rfl, ⟨Int.emod_nonneg _ (by omega), Int.emod_lt_of_pos _ (by omega), (hs.drewN _).put1 _ (by omega), grownBy_trans (grownBy_drewN hG _) (grownBy_set _ _ _ _), ⟨?_, ?_⟩, by omega, by omega, fun _ => rfl, fun h => by omega⟩⟩
    · simp [World.cell?_setCell_same, k1]
    · simp [World.cell?_setCell_other, k2]
  · clear he
    go_quiet (fail)
    go_wp2_with fail
    go_ret
    exact ⟨_, m, rfl, ⟨Int.emod_nonneg _ (by omega), Int.emod_lt_of_pos _ (by omega), hs.drewN _, grownBy_drewN hG _, ⟨k1, k2⟩, by omega, by omega, fun h => by omega, fun _ => ⟨rfl, rfl⟩⟩⟩
end Go.Proofs.YtbjcbbnfgfmllaaGreatDoor
