/- Slices of one-celled values (texts, numbers) that a call makes itself. No program in sight. -/
import Derived.Test.YtbjcbbnfgfmllaaGreatDoorOwn
set_option linter.unusedVariables false
set_option linter.unusedSimpArgs false
namespace Go.Proofs.YtbjcbbnfgfmllaaGreatDoor
open Go.RowKit
/-- The slice with head g owns the values vs, one cell each. -/
def OwnV (w : World) (B : Nat) (e : TypeId) (g n cap : Nat) (vs : List Value) : Prop := w.ownsRow B e 1 (.slice (some ⟨g, 0, none⟩) n cap) n vs
section
variable {w w' : World} {B e g n cap : Nat} {vs : List Value}
theorem OwnV.len (h : OwnV w B e g n cap vs) : vs.length = n := by have := h.1; omega
theorem OwnV.lt (h : OwnV w B e g n cap vs) : B ≤ g ∧ g < w.heap.size := World.ownsRow.lt h g rfl
theorem OwnV.ncap (h : OwnV w B e g n cap vs) : n ≤ cap ∧ cap ≤ maxLen := by
  rcases h.2 with ⟨h', _⟩ | ⟨g', cap', cur, h', _, hg, h1, h2, _, htake⟩
  · simp at h'
  · simp only [Value.slice.injEq, Option.some.injEq, Addr.mk.injEq, and_true, true_and] at h'
    obtain ⟨rfl, rfl⟩ := h'
    exact ⟨h1, h2⟩
theorem OwnV.cell (h : OwnV w B e g n cap vs) {j : Nat} (hj : j < vs.length) : w.cell? ⟨g, j, none⟩ = some vs[j] := by
  have h2 := World.ownsRow.cellAt h j (by have := h.len; omega)
  rw [h2]
  simp [hj]
theorem OwnV.free (h : OwnV w B e g n cap vs) (j : Nat) : w.frozen? ⟨g, j, none⟩ = false := World.ownsRow.frozenAt h j
theorem OwnV.heap (h : OwnV w B e g n cap vs) (he : w'.heap[g]? = w.heap[g]?) : OwnV w' B e g n cap vs := by
  refine ⟨h.1, ?_⟩
  rcases h.2 with ⟨h', _⟩ | ⟨g', cap', cur, h', hb, hg, h1, h2, h3, htake⟩
  · simp at h'
  · have h0 := h'
    simp only [Value.slice.injEq, Option.some.injEq, Addr.mk.injEq, and_true, true_and] at h'
    obtain ⟨rfl, rfl⟩ := h'
    exact .inr ⟨g, cap, cur, rfl, hb, he.trans hg, h1, h2, h3, htake⟩
theorem OwnV.keep (h : OwnV w B e g n cap vs) (hb : Below w.heap.size w w') : OwnV w' B e g n cap vs := h.heap (hb.block g h.lt.2)
theorem OwnV.low {B' : Nat} (h : OwnV w B e g n cap vs) (hB : B' ≤ B) : OwnV w B' e g n cap vs := by
  refine ⟨h.1, ?_⟩
  rcases h.2 with ⟨h', _⟩ | ⟨g', cap', cur, h', hb, hg, h1, h2, h3, htake⟩
  · simp at h'
  · exact .inr ⟨g', cap', cur, h', Nat.le_trans hB hb, hg, h1, h2, h3, htake⟩
theorem OwnV.alloc (h : OwnV w B e g n cap vs) (o : Obj) : OwnV (w.alloc o) B e g n cap vs := World.ownsRow.alloc h o
theorem OwnV.grown {row : Option Nat} (h : OwnV w B e g n cap vs) (hg : w.grownBy w' row) (hne : row ≠ some g) : OwnV w' B e g n cap vs :=
  World.ownsRow.kept h hg (.inr fun e => hne e.symm)
theorem OwnV.cast {n' : Nat} {vs' : List Value} (h : OwnV w B e g n cap vs) (hn : n = n') (hx : vs = vs') : OwnV w B e g n' cap vs' := by rw [← hn, ← hx]; exact h
end
theorem OwnV.lit0 (w : World) (B e g : Nat) (hg : g = w.heap.size) (hb : B ≤ w.heap.size) : OwnV (w.alloc (.cells #[] e)) B e g 0 0 [] := by
  subst hg
  have h := World.ownsRow_lit (e := e) (size := 1) w #[] 0 hb (by unfold maxLen; omega) (by simp)
  simpa [OwnV] using h
/-- 'append' of one one-celled value onto an own slice. -/
theorem wp_pushV {P : Program} {w : World} {ops : Array Oper} {rest : List Oper} {o : Oper} {a : Act} {Q : Exit → Act → World → Prop} (hgd : o.guard = none) (s x : Operand) (t : TypeId)
    (ho : o.op = .call { callee := .builtin .append, args := #[s, x], argTypes := #[t, t] })
    (B e bytes : Nat) (z : Value) (ht : P.underlying t = some (.slice e)) (hinfo : (P.info? e).map (fun i => (i.zero, i.size, i.bytes)) = some (some z, 1, bytes)) (hzs : z.cells.size = 1) (hby : bytes ≤ 16)
    (g n cap : Nat) (vs : List Value) (hs : a.eval s = .slice (some ⟨g, 0, none⟩) n cap) (hown : OwnV w B e g n cap vs) (hn : n ≤ 4398046511104)
    (ad : Addr) (c : Nat) (v : Value) (hx : a.eval x = .slice (some ad) 1 c) (hv1 : v.oneCell' = true) (hv : w.cell? (ad.add 0) = some v)
    (hbase : B ≤ w.heap.size)
    (h : ∀ g' cap' w', OwnV w' B e g' (n + 1) cap' (vs ++ [v]) → Below B w w' → w.grownBy w' (some g) → (g' = g ∨ w.heap.size ≤ g') → wpList P ops Q rest (a.put o.dst (.slice (some ⟨g', 0, none⟩) (n + 1) cap')) w') : wpList P ops Q (o :: rest) a w := by
  obtain ⟨i, hi, hz0, hz1, hz2⟩ := info_parts hinfo
  have hc : ∀ j u, ([v] : List Value)[j]? = some u → w.cell? (ad.add j) = some u := by
    intro j u hj
    match j, hj with
    | 0, hj => simp at hj; rw [← hj]; exact hv
    | j + 1, hj => simp at hj
  have h1c : ∀ u ∈ [v], u.oneCell' = true := by
    intro u hu
    simp at hu
    rw [hu]; exact hv1
  have hsz2 : (n + 1) * bytes ≤ 140737488355328 := by
    have : (n + 1) * bytes ≤ 4398046511105 * 16 := Nat.mul_le_mul (by omega) hby
    omega
  have hlt := hown.lt
  by_cases hroom : n + 1 ≤ cap
  · refine wpList_append_fits w hgd s x t ho B e i 1 ht hi hz1 g n cap vs hs hown ad 1 c [v] hx rfl hc h1c hroom ?_
    intro w' h1 h2
    exact h g cap w' h1 ((Below.refl B w).grown h2 hbase (fun k hk => by cases hk; exact hlt.1)) h2 (.inl rfl)
  · refine wpList_append_grows w hgd s x t ho e i z 1 bytes ht hi hz0 hz1 hz2 hzs (by omega) (some ⟨g, 0, none⟩) n cap vs hs (fun h => by cases h) (by have := hown.len; omega) (fun b hb j u hj => by cases hb; exact hown.cells rfl j u hj) ad 1 c [v] hx rfl hc h1c (by omega) (by unfold maxLen; omega) hsz2 ?_
    intro v' w' h1 h2
    rcases h1.2 with ⟨_, hz⟩ | ⟨g', cap', cur, rfl, hb', hg', hr⟩
    · omega
    · have h3 : OwnV w' w.heap.size e g' (n + 1) cap' (vs ++ [v]) := h1
      exact h g' cap' w' (h3.low hbase) ((Below.refl B w).grown h2 hbase (fun k hk => by cases hk)) ⟨h2.os, h2.tape, h2.output, h2.size, fun k hk _ => h2.block k hk (by simp)⟩ (.inr hb')
end Go.Proofs.YtbjcbbnfgfmllaaGreatDoor
