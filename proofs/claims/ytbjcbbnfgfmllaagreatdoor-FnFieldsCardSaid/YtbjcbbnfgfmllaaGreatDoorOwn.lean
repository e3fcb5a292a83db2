/- Slices that a call makes itself: what they hold, number by number. No program in sight. -/
import Derived.WalkKit
import Derived.OwnWalk
import Derived.Laws.OwnMore
import Derived.ArgAppend
set_option linter.unusedVariables false
set_option linter.unusedSimpArgs false
namespace Go.Proofs.YtbjcbbnfgfmllaaGreatDoor
open Go.RowKit
def ints (xs : List Int) : List Value := xs.map (Value.int .i64)
/-- The slice with head g and n elements of sz cells owns the numbers xs, among blocks from B on. -/
def Own (w : World) (B : Nat) (e : TypeId) (sz g n cap : Nat) (xs : List Int) : Prop := w.ownsRow B e sz (.slice (some ⟨g, 0, none⟩) n cap) n (ints xs)
section
variable {w w' : World} {B e sz g n cap : Nat} {xs : List Int}
theorem Own.len (h : Own w B e sz g n cap xs) : xs.length = n * sz := by simpa [ints] using h.1
theorem Own.lt (h : Own w B e sz g n cap xs) : B ≤ g ∧ g < w.heap.size := World.ownsRow.lt h g rfl
theorem Own.ncap (h : Own w B e sz g n cap xs) : n ≤ cap ∧ cap ≤ maxLen := by
  rcases h.2 with ⟨h', _⟩ | ⟨g', cap', cur, h', _, hg, h1, h2, _, htake⟩
  · simp at h'
  · simp only [Value.slice.injEq, Option.some.injEq, Addr.mk.injEq, and_true, true_and] at h'
    obtain ⟨rfl, rfl⟩ := h'
    exact ⟨h1, h2⟩
theorem Own.cell (h : Own w B e sz g n cap xs) {j : Nat} (hj : j < xs.length) : w.cell? ⟨g, j, none⟩ = some (.int .i64 (xs.getD j 0)) := by
  have h2 := World.ownsRow.cellAt h j (by have := h.len; omega)
  rw [h2]
  simp [ints, hj]
theorem Own.free (h : Own w B e sz g n cap xs) (j : Nat) : w.frozen? ⟨g, j, none⟩ = false := World.ownsRow.frozenAt h j
theorem Own.heap (h : Own w B e sz g n cap xs) (he : w'.heap[g]? = w.heap[g]?) : Own w' B e sz g n cap xs := by
  refine ⟨h.1, ?_⟩
  rcases h.2 with ⟨h', _⟩ | ⟨g', cap', cur, h', hb, hg, h1, h2, h3, htake⟩
  · simp at h'
  · have h0 := h'
    simp only [Value.slice.injEq, Option.some.injEq, Addr.mk.injEq, and_true, true_and] at h'
    obtain ⟨rfl, rfl⟩ := h'
    exact .inr ⟨g, cap, cur, rfl, hb, he.trans hg, h1, h2, h3, htake⟩
theorem Own.keep (h : Own w B e sz g n cap xs) (hb : Below w.heap.size w w') : Own w' B e sz g n cap xs := h.heap (hb.block g h.lt.2)
theorem Own.keepB {B' : Nat} (h : Own w B e sz g n cap xs) (hb : Below B' w w') (hg : g < B') : Own w' B e sz g n cap xs := h.heap (hb.block g hg)
theorem Own.low {B' : Nat} (h : Own w B e sz g n cap xs) (hB : B' ≤ B) : Own w B' e sz g n cap xs := by
  refine ⟨h.1, ?_⟩
  rcases h.2 with ⟨h', _⟩ | ⟨g', cap', cur, h', hb, hg, h1, h2, h3, htake⟩
  · simp at h'
  · exact .inr ⟨g', cap', cur, h', Nat.le_trans hB hb, hg, h1, h2, h3, htake⟩
theorem Own.alloc (h : Own w B e sz g n cap xs) (o : Obj) : Own (w.alloc o) B e sz g n cap xs := World.ownsRow.alloc h o
theorem Own.put (h : Own w B e sz g n cap xs) (j : Nat) (u : Int) : Own (w.setCell ⟨g, j, none⟩ (.int .i64 u)) B e sz g n cap (xs.set j u) := by
  have h2 := (World.ownsRow.stored h j (.int .i64 u)).1
  unfold Own
  rwa [ints, List.map_set]
theorem Own.other (h : Own w B e sz g n cap xs) {a : Addr} (ha : g ≠ a.block) (u : Value) : Own (w.setCell a u) B e sz g n cap xs := h.heap (Below.heap_setCell w a u g ha)
theorem Own.grown {row : Option Nat} (h : Own w B e sz g n cap xs) (hg : w.grownBy w' row) (hne : row ≠ some g) : Own w' B e sz g n cap xs :=
  World.ownsRow.kept h hg (.inr fun e => hne e.symm)
theorem Own.cast {n' : Nat} {xs' : List Int} (h : Own w B e sz g n cap xs) (hn : n = n') (hx : xs = xs') : Own w B e sz g n' cap xs' := by rw [← hn, ← hx]; exact h
/-- A slice that was just laid. -/
theorem Own.lit (w : World) (B e sz n : Nat) (xs : List Int) (hb : B ≤ w.heap.size) (hm : n ≤ 1000000) (hs : xs.length = n * sz) :
    Own (w.alloc (.cells (ints xs).toArray e)) B e sz w.heap.size n n xs := by
  have h := World.ownsRow_lit (e := e) (size := sz) w (ints xs).toArray n hb (by unfold maxLen; omega) (by simpa [ints] using hs)
  simpa [Own] using h
end
theorem Own.lit0 (w : World) (B e sz g : Nat) (hg : g = w.heap.size) (hb : B ≤ w.heap.size) : Own (w.alloc (.cells #[] e)) B e sz g 0 0 [] := by
  subst hg
  exact Own.lit w B e sz 0 [] hb (by omega) (by simp)
theorem Own.lit' (w : World) (B e sz g n : Nat) (xs : List Int) (cs : Array Value) (hg : g = w.heap.size) (hcs : (ints xs).toArray = cs) (hb : B ≤ w.heap.size) (hm : n ≤ 1000000) (hs : xs.length = n * sz) : Own (w.alloc (.cells cs e)) B e sz g n n xs := by
  subst hg
  subst hcs
  exact Own.lit w B e sz n xs hb hm hs
theorem grownBy_trans {a b c : World} {row : Option Nat} (h : a.grownBy b row) (k : b.grownBy c row) : a.grownBy c row :=
  ⟨k.os.trans h.os, k.tape.trans h.tape, k.output.trans h.output, Nat.le_trans h.size k.size, fun j hj hne => (k.block j (Nat.lt_of_lt_of_le hj h.size) hne).trans (h.block j hj hne)⟩
theorem grownBy_set (w : World) (g j : Nat) (u : Value) : w.grownBy (w.setCell ⟨g, j, none⟩ u) (some g) :=
  ⟨rfl, rfl, rfl, by simp, fun k _ hk => Below.heap_setCell w ⟨g, j, none⟩ u k (fun e => hk (by simp [e]))⟩
theorem grownBy_drew {a b : World} {row : Option Nat} (h : a.grownBy b row) : a.grownBy b.drew row := ⟨h.os, h.tape, h.output, h.size, h.block⟩
/-- 'append' of one element onto an own slice. -/
theorem wp_push {P : Program} {w : World} {ops : Array Oper} {rest : List Oper} {o : Oper} {a : Act} {Q : Exit → Act → World → Prop} (hgd : o.guard = none) (s x : Operand) (t : TypeId)
    (ho : o.op = .call { callee := .builtin .append, args := #[s, x], argTypes := #[t, t] })
    (B e size bytes : Nat) (z : Value) (ht : P.underlying t = some (.slice e)) (hinfo : (P.info? e).map (fun i => (i.zero, i.size, i.bytes)) = some (some z, size, bytes)) (hzs : z.cells.size = size) (hsz : 0 < size) (hby : bytes ≤ 1000)
    (g n cap : Nat) (xs : List Int) (hs : a.eval s = .slice (some ⟨g, 0, none⟩) n cap) (hown : Own w B e size g n cap xs) (hn : n ≤ 1000000)
    (ad : Addr) (c : Nat) (news : List Int) (hx : a.eval x = .slice (some ad) 1 c) (hl : news.length = size) (hnews : ∀ j, j < size → w.cell? (ad.add j) = some (.int .i64 (news.getD j 0)))
    (hbase : B ≤ w.heap.size)
    (h : ∀ g' cap' w', Own w' B e size g' (n + 1) cap' (xs ++ news) → Below B w w' → w.grownBy w' (some g) → (g' = g ∨ w.heap.size ≤ g') → wpList P ops Q rest (a.put o.dst (.slice (some ⟨g', 0, none⟩) (n + 1) cap')) w') : wpList P ops Q (o :: rest) a w := by
  obtain ⟨i, hi, hz0, hz1, hz2⟩ := info_parts hinfo
  have hc : ∀ j u, (ints news)[j]? = some u → w.cell? (ad.add j) = some u := by
    intro j u hj
    have hjl : j < news.length := by
      have := (List.getElem?_eq_some_iff.1 hj).1
      simpa [ints] using this
    rw [hnews j (by omega)]
    simp [ints, hjl] at hj ⊢
    exact hj
  have h1c : ∀ u ∈ ints news, u.oneCell' = true := by
    intro u hu
    simp only [ints, List.mem_map] at hu
    obtain ⟨q, _, rfl⟩ := hu
    rfl
  have hsz2 : (n + 1) * bytes ≤ 140737488355328 := by
    have : (n + 1) * bytes ≤ 1000001 * 1000 := Nat.mul_le_mul (by omega) hby
    omega
  have happ : ints (xs ++ news) = ints xs ++ ints news := by simp [ints]
  have hlt := hown.lt
  by_cases hroom : n + 1 ≤ cap
  · refine wpList_append_fits w hgd s x t ho B e i size ht hi hz1 g n cap (ints xs) hs hown ad 1 c (ints news) hx (by simpa [ints] using hl) hc h1c hroom ?_
    intro w' h1 h2
    exact h g cap w' (by unfold Own; rw [happ]; exact h1) ((Below.refl B w).grown h2 hbase (fun k hk => by cases hk; exact hlt.1)) h2 (.inl rfl)
  · refine wpList_append_grows w hgd s x t ho e i z size bytes ht hi hz0 hz1 hz2 hzs hsz (some ⟨g, 0, none⟩) n cap (ints xs) hs (fun h => by cases h) (by have := hown.len; simpa [ints] using this) (fun b hb j u hj => by cases hb; exact hown.cells rfl j u hj) ad 1 c (ints news) hx (by simpa [ints] using hl) hc h1c (by omega) (by unfold maxLen; omega) hsz2 ?_
    intro v' w' h1 h2
    rcases h1.2 with ⟨_, hz⟩ | ⟨g', cap', cur, rfl, hb', hg', hr⟩
    · omega
    · have h3 : Own w' w.heap.size e size g' (n + 1) cap' (xs ++ news) := by unfold Own; rw [happ]; exact h1
      exact h g' cap' w' (h3.low hbase) ((Below.refl B w).grown h2 hbase (fun k hk => by cases hk)) ⟨h2.os, h2.tape, h2.output, h2.size, fun k hk _ => h2.block k hk (by simp)⟩ (.inr hb')
theorem new1 (w : World) (a : Int) (t : TypeId) : ∀ j, j < 1 → (w.alloc (.cells #[.int .i64 a] t)).cell? ((⟨w.heap.size, 0, none⟩ : Addr).add j) = some (.int .i64 ([a].getD j 0)) := by
  intro j hj
  match j, hj with
  | 0, hj => simp [Addr.add]
theorem new2 (w : World) (a b : Int) (t : TypeId) : ∀ j, j < 2 → (w.alloc (.cells #[.int .i64 a, .int .i64 b] t)).cell? ((⟨w.heap.size, 0, none⟩ : Addr).add j) = some (.int .i64 ([a, b].getD j 0)) := by
  intro j hj
  match j, hj with
  | 0, hj => simp [Addr.add]
  | 1, hj => simp [Addr.add]
theorem new3 (w : World) (a b c : Int) (t : TypeId) : ∀ j, j < 3 → (w.alloc (.cells #[.int .i64 a, .int .i64 b, .int .i64 c] t)).cell? ((⟨w.heap.size, 0, none⟩ : Addr).add j) = some (.int .i64 ([a, b, c].getD j 0)) := by
  intro j hj
  match j, hj with
  | 0, hj => simp [Addr.add]
  | 1, hj => simp [Addr.add]
  | 2, hj => simp [Addr.add]
/-- A numbered list of marks. -/
def marks (k : Int) (n : Nat) : List Int := (List.range n).map fun j : Nat => k + (j : Int)
theorem marks_length (k : Int) (n : Nat) : (marks k n).length = n := by simp [marks]
theorem marks_getD (k : Int) {n j : Nat} (h : j < n) : (marks k n).getD j 0 = k + (j : Int) := by simp [marks, h]
/-- The first j numbers are marked. -/
def marked (k : Int) (xs : List Int) (j : Nat) : List Int := marks k j ++ xs.drop j
theorem marked_0 (k : Int) (xs : List Int) : marked k xs 0 = xs := by simp [marked, marks]
theorem marked_all (k : Int) (xs : List Int) {n : Nat} (h : xs.length = n) : marked k xs n = marks k n := by simp [marked, ← h]
theorem marked_length (k : Int) (xs : List Int) {j : Nat} (h : j ≤ xs.length) : (marked k xs j).length = xs.length := by simp [marked, marks_length]; omega
theorem marked_step (k : Int) (xs : List Int) {j : Nat} (h : j < xs.length) : (marked k xs j).set j (k + (j : Int)) = marked k xs (j + 1) := by
  unfold marked
  rw [List.set_append_right _ _ (by rw [marks_length]; exact Nat.le_refl _), marks_length, Nat.sub_self, List.drop_eq_getElem_cons h, List.set_cons_zero]
  simp [marks, List.range_succ]
end Go.Proofs.YtbjcbbnfgfmllaaGreatDoor
