/- The source of drawn numbers: its block, its bytes; contracts of l01Next and l01Pick. -/
import Derived.Test.YtbjcbbnfgfmllaaGreatDoorOwn
import Derived.Test.YtbjcbbnfgfmllaaGreatDoorA
import Derived.BigQuiet
import Derived.WalkSmall
set_option linter.unusedVariables false
set_option linter.unusedSimpArgs false
set_option maxRecDepth 100000
set_option maxHeartbeats 1000000
namespace Go.Proofs.YtbjcbbnfgfmllaaGreatDoor
open Go.RowKit
/-- The bytes of a code can be read; they lie below block B. -/
def Bytes (w : World) (B : Nat) (v : Value) : Prop :=
  ∃ o n c, v = .slice o n c ∧ n ≤ 4096 ∧ (o = none → n = 0) ∧ ∀ ad, o = some ad → (0 < n → ad.block < B) ∧ ∀ j, j < n → ∃ b, w.cell? (ad.add j) = some (.int .u8 b) ∧ 0 ≤ b ∧ b ≤ 255
/-- The source of drawn numbers lies in block bs. -/
structure Src (w : World) (B bs : Nat) (v : Value) : Prop where
  bytes : Bytes w B v
  low : B ≤ bs
  lt : bs < w.heap.size
  code : w.cell? ⟨bs, 0, none⟩ = some v
  at_ : ∃ n : Int, w.cell? ⟨bs, 1, none⟩ = some (.int .i64 n) ∧ 0 ≤ n ∧ n ≤ 4096
  hash : ∃ n : Int, w.cell? ⟨bs, 2, none⟩ = some (.int .u64 n)
  free : ∀ j, w.frozen? ⟨bs, j, none⟩ = false
theorem add_block (ad : Addr) (j : Nat) : (ad.add j).block = ad.block := by unfold Addr.add; split <;> rfl
theorem cell_heap {w w' : World} {a : Addr} (h : w'.heap[a.block]? = w.heap[a.block]?) (hs : a.spot = none) : w'.cell? a = w.cell? a := by
  obtain ⟨b, o, s⟩ := a
  cases hs
  simp only [World.cell?, h]
section
variable {w w' : World} {B bs : Nat} {v : Value}
theorem Src.of_heap (h : Src w B bs v) (hsz : w.heap.size ≤ w'.heap.size) (hl : ∀ k, k < B → w'.heap[k]? = w.heap[k]?) (hb : w'.heap[bs]? = w.heap[bs]?) : Src w' B bs v := by
  have hc : ∀ j, w'.cell? ⟨bs, j, none⟩ = w.cell? ⟨bs, j, none⟩ := fun j => World.cell?_of_block (w := w) (a := ⟨bs, j, none⟩) hb
  refine ⟨?_, h.low, Nat.lt_of_lt_of_le h.lt hsz, (hc 0).trans h.code, ?_, ?_, fun j => (World.frozen?_of_block (w := w) (a := ⟨bs, j, none⟩) hb).trans (h.free j)⟩
  · obtain ⟨o, n, c, h1, h2, h0, h3⟩ := h.bytes
    refine ⟨o, n, c, h1, h2, h0, fun ad ho => ⟨(h3 ad ho).1, fun j hj => ?_⟩⟩
    obtain ⟨b, h4, h5⟩ := (h3 ad ho).2 j hj
    refine ⟨b, (World.cell?_of_block (w := w) (hl _ ?_)).trans h4, h5⟩
    rw [add_block]; exact (h3 ad ho).1 (by omega)
  · obtain ⟨n, h1, h2⟩ := h.at_
    exact ⟨n, (hc 1).trans h1, h2⟩
  · obtain ⟨n, h1⟩ := h.hash
    exact ⟨n, (hc 2).trans h1⟩
theorem Src.keep (h : Src w B bs v) (hb : Below w.heap.size w w') : Src w' B bs v :=
  h.of_heap hb.size (fun k hk => hb.block k (Nat.lt_trans (Nat.lt_of_lt_of_le hk h.low) h.lt)) (hb.block bs h.lt)
theorem Src.alloc (h : Src w B bs v) (o : Obj) : Src (w.alloc o) B bs v := h.keep ((Below.refl _ w).alloc (Nat.le_refl _) o)
theorem Src.drew (h : Src w B bs v) : Src w.drew B bs v := h.keep (Below.refl _ w).drew
theorem Src.drewN (h : Src w B bs v) (n : Nat) : Src (w.drewN n) B bs v := h.keep (below_drewN (Below.refl _ w) n)
theorem grownBy_drewN {a b : World} {row : Option Nat} (h : a.grownBy b row) (n : Nat) : a.grownBy (b.drewN n) row := ⟨h.os, h.tape, h.output, h.size, h.block⟩
theorem Src.other (h : Src w B bs v) {a : Addr} (h1 : B ≤ a.block) (h2 : a.block ≠ bs) (u : Value) : Src (w.setCell a u) B bs v :=
  h.of_heap (by simp) (fun k hk => Below.heap_setCell w a u k (by omega)) (Below.heap_setCell w a u bs (fun e => h2 e.symm))
theorem Src.put1 (h : Src w B bs v) (n : Int) (hn : 0 ≤ n ∧ n ≤ 4096) : Src (w.setCell ⟨bs, 1, none⟩ (.int .i64 n)) B bs v := by
  have c0 := h.code
  have f0 := h.free
  obtain ⟨n1, c1, _⟩ := h.at_
  obtain ⟨n2, c2⟩ := h.hash
  refine ⟨?_, h.low, by simpa using h.lt, by simp [World.cell?_setCell_other, c0], ⟨n, by simp [World.cell?_setCell_same, c1], hn⟩, ⟨n2, by simp [World.cell?_setCell_other, c2]⟩, fun j => by simp [f0]⟩
  obtain ⟨o, n, c, h1, h2, h0, h3⟩ := h.bytes
  refine ⟨o, n, c, h1, h2, h0, fun ad ho => ⟨(h3 ad ho).1, fun j hj => ?_⟩⟩
  obtain ⟨b, h4, h5⟩ := (h3 ad ho).2 j hj
  have hl := h.low
  have hk := (h3 ad ho).1 (by omega)
  exact ⟨b, (World.cell?_of_block (w := w) (Below.heap_setCell w _ _ _ (by rw [add_block]; show _ ≠ bs; omega))).trans h4, h5⟩
theorem Src.put2 (h : Src w B bs v) (n : Int) : Src (w.setCell ⟨bs, 2, none⟩ (.int .u64 n)) B bs v := by
  have c0 := h.code
  have f0 := h.free
  obtain ⟨n1, c1, h4⟩ := h.at_
  obtain ⟨n2, c2⟩ := h.hash
  refine ⟨?_, h.low, by simpa using h.lt, by simp [World.cell?_setCell_other, c0], ⟨n1, by simp [World.cell?_setCell_other, c1], h4⟩, ⟨n, by simp [World.cell?_setCell_same, c2]⟩, fun j => by simp [f0]⟩
  obtain ⟨o, n, c, h1, h2, h0, h3⟩ := h.bytes
  refine ⟨o, n, c, h1, h2, h0, fun ad ho => ⟨(h3 ad ho).1, fun j hj => ?_⟩⟩
  obtain ⟨b, h4, h5⟩ := (h3 ad ho).2 j hj
  have hl := h.low
  have hk := (h3 ad ho).1 (by omega)
  exact ⟨b, (World.cell?_of_block (w := w) (Below.heap_setCell w _ _ _ (by rw [add_block]; show _ ≠ bs; omega))).trans h4, h5⟩
theorem cellG {a : Addr} {x : Value} (hg : w.grownBy w' (some bs)) (h : w.cell? a = some x) (hne : a.block ≠ bs) : w'.cell? a = some x :=
  (World.cell?_of_block (w := w) (hg.block _ (World.block_lt_of_cell? w _ h) (fun e => hne (by simpa using e)))).trans h
theorem frozenG {a : Addr} {x : Value} (hg : w.grownBy w' (some bs)) (h : w.cell? a = some x) (hne : a.block ≠ bs) (hf : w.frozen? a = false) : w'.frozen? a = false :=
  (World.frozen?_of_block (w := w) (hg.block _ (World.block_lt_of_cell? w _ h) (fun e => hne (by simpa using e)))).trans hf
end
/-- A drawn number. -/
def Num (n : Int) (e : Ending) : Prop := ∃ r : Int, e = .returned (.int .i64 r) ∧ 0 ≤ r ∧ (1 ≤ n → r < n) ∧ (n < 1 → r = 0)
theorem and24 (x : Int) : 0 ≤ bits .and .u64 x 16777215 ∧ bits .and .u64 x 16777215 ≤ 16777215 := by
  have h1 : (BitVec.ofInt 64 x &&& BitVec.ofInt 64 16777215).toNat ≤ 16777215 := by
    rw [BitVec.toNat_and]
    exact Nat.le_trans Nat.and_le_right (by decide)
  show 0 ≤ IntKind.u64.wrap ((BitVec.ofInt 64 x &&& BitVec.ofInt 64 16777215).toNat : Int) ∧ IntKind.u64.wrap ((BitVec.ofInt 64 x &&& BitVec.ofInt 64 16777215).toNat : Int) ≤ 16777215
  generalize (BitVec.ofInt 64 x &&& BitVec.ofInt 64 16777215).toNat = m at h1 ⊢
  have h2 : IntKind.u64.wrap (m : Int) = (m : Int) := by
    show (m : Int) % 2 ^ 64 = m
    omega
  rw [h2]
  omega
theorem wrap_of {x : Int} (h0 : 0 ≤ x) (h1 : x ≤ 9223372036854775807) : wrap64 x = x := by unfold wrap64; omega
theorem next_any (n : Int) (B bs : Nat) (v : Value) (w : World) (hs : Src w B bs v) :
    Calls Tryz.prog 75 #[.pointer (some ⟨bs, 0, none⟩), .int .i64 n] w fun e w' => Num n e ∧ Src w' B bs v ∧ w.grownBy w' (some bs) := by
  have c0 := hs.code
  have f0 := hs.free
  obtain ⟨m, c1, hm0, hm1⟩ := hs.at_
  obtain ⟨h, c2⟩ := hs.hash
  go_enter Tryz.func75, Tryz.ntmps75
  by_cases hn : n < 1
  · go_wp2_with fail
    go_ret
    exact ⟨⟨0, rfl, by omega, fun h => by omega, fun _ => rfl⟩, hs, World.grownBy.refl w _⟩
  go_wp2_with fail
  obtain ⟨g, hg⟩ : ∃ g, g = bits BinOp.and IntKind.u64 (IntKind.u64.wrap (IntKind.u64.wrap (h * 6364136223846793005) + 1442695040888963407) / 8589934592) 16777215 := ⟨_, rfl⟩
  have hg0 := and24 (IntKind.u64.wrap (IntKind.u64.wrap (h * 6364136223846793005) + 1442695040888963407) / 8589934592)
  rw [← hg] at hg0
  rw [← hg]
  clear hg
  obtain ⟨g0, g1⟩ := hg0
  rw [wrap_of g0 (by omega)]
  replace hs := hs.put2 (IntKind.u64.wrap (IntKind.u64.wrap (h * 6364136223846793005) + 1442695040888963407))
  have hG := grownBy_set w bs 2 (.int .u64 (IntKind.u64.wrap (IntKind.u64.wrap (h * 6364136223846793005) + 1442695040888963407)))
  generalize World.setCell w ⟨bs, 2, none⟩ (.int .u64 (IntKind.u64.wrap (IntKind.u64.wrap (h * 6364136223846793005) + 1442695040888963407))) = W at hs hG ⊢
  clear c0 f0 c1 c2 hm0 hm1 m
  have c0 := hs.code
  have f0 := hs.free
  obtain ⟨m, c1, hm0, hm1⟩ := hs.at_
  obtain ⟨o, k, c, rfl, hk, h0, hc⟩ := hs.bytes
  by_cases hmk : m < (k : Int)
  · obtain ⟨ad, rfl⟩ : ∃ ad, o = some ad := by
      cases o with
      | none => have := h0 rfl; omega
      | some ad => exact ⟨ad, rfl⟩
    obtain ⟨b, hb, hb0, hb1⟩ := (hc ad rfl).2 m.toNat (by omega)
    have hlt := (hc ad rfl).1 (by omega)
    have hl := hs.low
    clear hc h0
    go_quiet (fail)
    go_wp2_with fail
    go_quiet (fail)
    go_wp2_with fail
    go_ret
    exact ⟨⟨_, rfl, Int.emod_nonneg _ (by omega), fun _ => Int.emod_lt_of_pos _ (by omega), fun h => by omega⟩, (hs.drewN _).put1 _ (by omega), grownBy_trans (grownBy_drewN hG _) (grownBy_set _ _ _ _)⟩
  · go_quiet (fail)
    go_wp2_with fail
    go_ret
    exact ⟨⟨_, rfl, Int.emod_nonneg _ (by omega), fun _ => Int.emod_lt_of_pos _ (by omega), fun h => by omega⟩, hs.drewN _, grownBy_drewN hG _⟩
/-- A number of a list. -/
def Of (xs : List Int) (e : Ending) : Prop := ∃ r : Int, e = .returned (.int .i64 r) ∧ r ∈ xs
theorem pick_any (xs : List Int) (g k c : Nat) (hk : xs.length = k) (h1 : 1 ≤ k) (h2 : k ≤ 100) (B bs : Nat) (v : Value) (w : World) (hs : Src w B bs v) (hg : g ≠ bs) (hc : ∀ j, j < k → w.cell? ⟨g, j, none⟩ = some (.int .i64 (xs.getD j 0))) :
    Calls Tryz.prog 95 #[.pointer (some ⟨bs, 0, none⟩), .slice (some ⟨g, 0, none⟩) k c] w fun e w' => Of xs e ∧ Src w' B bs v ∧ w.grownBy w' (some bs) := by
  go_enter Tryz.func95, Tryz.ntmps95
  go_wp2_with (go_at_call 75; refine (next_any _ B bs v w hs).mono ?_; rintro e w' ⟨⟨r, rfl, hr0, hr1, _⟩, hs', hG⟩; have hr := hr1 (by omega); have hcr := cellG hG (hc r.toNat (by omega)) hg)
  go_ret
  refine ⟨⟨_, rfl, ?_⟩, hs', hG⟩
  first | exact List.getElem_mem _ | (rw [List.getD_eq_getElem?_getD, List.getElem?_eq_getElem (by omega)]; exact List.getElem_mem _)
/-- The cells of a list that was just laid. -/
theorem laid (w : World) (xs : List Int) (k : Nat) (t : TypeId) (cs : Array Value) (h : (xs.map (Value.int .i64)).toArray = cs) (hk : xs.length = k) : ∀ j, j < k → (w.alloc (.cells cs t)).cell? ⟨w.heap.size, j, none⟩ = some (.int .i64 (xs.getD j 0)) := by
  subst h
  subst hk
  intro j hj
  simp [hj]
/-- The list is laid ahead of the call. -/
theorem pickL (xs : List Int) (k : Nat) (hk : xs.length = k) (h1 : 1 ≤ k) (h2 : k ≤ 100) (B bs : Nat) (v : Value) (w : World) (hs : Src w B bs v) (t : TypeId) (cs : Array Value) (h : (xs.map (Value.int .i64)).toArray = cs) :
    Calls Tryz.prog 95 #[.pointer (some ⟨bs, 0, none⟩), .slice (some ⟨w.heap.size, 0, none⟩) k k] (w.alloc (.cells cs t)) fun e w' => Of xs e ∧ Src w' B bs v ∧ w.grownBy w' (some bs) :=
  (pick_any xs w.heap.size k k hk h1 h2 B bs v _ (hs.alloc _) (by have := hs.lt; omega) (laid w xs k t cs h hk)).mono fun e w' ⟨h1, h2, h3⟩ => ⟨h1, h2, grownBy_trans (World.grownBy_alloc w _ _) h3⟩
theorem drawField_any (B bs : Nat) (v : Value) (w : World) (hs : Src w B bs v) :
    Calls Tryz.prog 73 #[.pointer (some ⟨bs, 0, none⟩)] w fun e w' => Of [3, 5, 5, 7, 7, 11, 13, 13, 17, 19, 23, 29, 31] e ∧ Src w' B bs v ∧ w.grownBy w' (some bs) := by
  have hlt := hs.lt
  go_enter Tryz.func73, Tryz.ntmps73
  go_wp2_with (go_at_call 95; go_loud (refine (pickL [3, 5, 5, 7, 7, 11, 13, 13, 17, 19, 23, 29, 31] 13 rfl (by omega) (by omega) B bs v _ hs _ _ rfl).mono ?_; rintro e w' ⟨⟨r, rfl, hr⟩, hs', hG⟩))
  go_ret
  exact ⟨⟨_, rfl, hr⟩, hs', hG⟩
end Go.Proofs.YtbjcbbnfgfmllaaGreatDoor
