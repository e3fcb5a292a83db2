/- Step by step through a region that draws its order and holds calls of which only a predicate is told (XReg5). No program in sight. -/
import Derived.Test.YtbjcbbnfgfmllaaReg5
set_option linter.unusedVariables false
set_option linter.unusedSimpArgs false
namespace Go.Proofs.Ytbjcbbnfgfmllaa.Reg
open Go.RowKit
section
variable {P : Program} {Q : Exit → Act → World → Prop}
/-- What any value may be. -/
def anyV : Value → Prop := fun _ => True
def wpSq (P : Program) (E : World → Prop) (QA : Act → Prop) : List (Value → Prop) → List Oper → Act → Prop
  | S :: Ss, o :: l, a => (∀ w, E w → sAt P o a w S E) ∧ ∀ v, S v → wpSq P E QA Ss l (a.put o.dst v)
  | _, [], a => QA a
  | [], _ :: _, _ => False
theorem wpSq_step {E : World → Prop} {QA : Act → Prop} {S : Value → Prop} {Ss : List (Value → Prop)} {o : Oper} {l : List Oper} {a : Act} (h1 : ∀ w, E w → sAt P o a w S E) (h2 : ∀ v, S v → wpSq P E QA Ss l (a.put o.dst v)) : wpSq P E QA (S :: Ss) (o :: l) a := ⟨h1, h2⟩
/-- The value is known. -/
theorem wpSq_val {E : World → Prop} {QA : Act → Prop} {x : Value} {Ss : List (Value → Prop)} {o : Oper} {l : List Oper} {a : Act} (h1 : ∀ w, E w → (execOp a.eval o).run P w = .ok (.value x) w) (h2 : wpSq P E QA Ss l (a.put o.dst x)) : wpSq P E QA ((fun v => v = x) :: Ss) (o :: l) a :=
  ⟨fun w hw => sAt_val (h1 w hw) rfl hw, fun v hv => by subst hv; exact h2⟩
theorem wpSq_at {E : World → Prop} {QA : Act → Prop} : ∀ (Ss : List (Value → Prop)) (l : List Oper) (a : Act), wpSq P E QA Ss l a → ∀ i o, l[i]? = some o → ∀ T : Nat → Value, (∀ k, k < i → (Ss.getD k anyV) (T k)) → ∀ w, E w → sAt P o (lexP l T i a) w (Ss.getD i anyV) E
  | [], [], a, h => fun i o ho => by simp at ho
  | S :: Ss, [], a, h => fun i o ho => by simp at ho
  | [], o :: l, a, h => h.elim
  | S :: Ss, o :: l, a, h => fun i o' ho T hT w hw => by
    obtain ⟨h1, h2⟩ := h
    cases i with
    | zero =>
      simp only [List.getElem?_cons_zero, Option.some.injEq] at ho
      subst ho
      exact h1 w hw
    | succ i =>
      rw [lexP_cons]
      exact wpSq_at Ss l _ (h2 (T 0) (hT 0 (by omega))) i o' (by simpa using ho) (fun k => T (k + 1)) (fun k hk => hT (k + 1) (by omega)) w hw
theorem wpSq_end {E : World → Prop} {QA : Act → Prop} : ∀ (Ss : List (Value → Prop)) (l : List Oper) (a : Act), wpSq P E QA Ss l a → ∀ T : Nat → Value, (∀ k, k < l.length → (Ss.getD k anyV) (T k)) → QA (lexP l T l.length a)
  | [], [], a, h => fun T hT => h
  | S :: Ss, [], a, h => fun T hT => h
  | [], o :: l, a, h => h.elim
  | S :: Ss, o :: l, a, h => fun T hT => by
    rw [List.length_cons, lexP_cons]
    exact wpSq_end Ss l _ (h.2 (T 0) (hT 0 (by simp))) (fun k => T (k + 1)) (fun k hk => hT (k + 1) (by simp; omega))
theorem wp_region_steps {id : Nat} {l : List Oper} {a0 : Act} {w : World} (hm : P.follows .mixedOrders = true) (m : Nat) (hB : chks l m a0.tmps.size = true) (E : World → Prop) (Ss : List (Value → Prop)) (hin : ∀ S ∈ Ss, ∃ v, S v)
    (h0 : E w.drew) (h : wpSq P E (fun a => ∀ w', E w' → wpList P l.toArray Q (l.drop m) a w') Ss (l.take m) a0) :
    (Code.region id l.toArray true).wp P Q a0 w := by
  have hB' := hB
  simp only [chks, Bool.and_eq_true, decide_eq_true_eq] at hB
  obtain ⟨⟨⟨⟨⟨⟨⟨hml, hac⟩, htl⟩, hin'⟩, hns⟩, hg⟩, hdisB⟩, hops⟩ := hB
  simp only [List.all_eq_true, List.mem_range] at hg hdisB hops
  have hdst : ∀ k, k < m → ∃ d, dst l k = some d ∧ d < a0.tmps.size := by
    intro k hk
    have := hg k hk
    simp only [Bool.and_eq_true] at this
    have h2 := this.2
    cases hd : dst l k with
    | none => rw [hd] at h2; cases h2
    | some d => rw [hd] at h2; exact ⟨d, rfl, by simpa using h2⟩
  have hdis : ∀ k k', k < m → k' < m → k ≠ k' → dst l k ≠ dst l k' := by
    intro k k' hk hk' hne
    have := hdisB k hk k' hk'
    simp only [Bool.or_eq_true, beq_iff_eq, bne_iff_ne] at this
    exact this.resolve_left hne
  have hlexT : ∀ (v : Nat → Value) i, i ≤ m → ∀ a, lexP (l.take m) v i a = lexP l v i a := by
    intro v i
    induction i with
    | zero => intro _ a; rfl
    | succ i ih =>
      intro hi a
      rw [lexP, lexP, ih (by omega)]
      congr 1
      simp [dst, List.getElem?_take, show i < m by omega]
  have hinh : ∀ k, ∃ v, (Ss.getD k anyV) v := by
    intro k
    by_cases hk : k < Ss.length
    · refine hin _ ?_
      rw [List.getD_eq_getElem?_getD, List.getElem?_eq_getElem hk]
      exact List.getElem_mem hk
    · refine ⟨undef, ?_⟩
      rw [List.getD_eq_getElem?_getD, List.getElem?_eq_none (by omega)]
      trivial
  refine wp_region_seq hm m hB' E (fun k => Ss.getD k anyV) h0 ?_ ?_
  · intro i o him hol T hT w' hw'
    have hli : i < l.length := by omega
    have ho : l[i] = o := by
      rw [List.getElem?_eq_getElem hli] at hol
      simpa using hol
    let T' : Nat → Value := fun k => if k < i ∧ dep l.toArray i k = true then T k else (hinh k).choose
    have hT' : ∀ k, k < i → (Ss.getD k anyV) (T' k) := by
      intro k hk
      show (Ss.getD k anyV) (if k < i ∧ dep l.toArray i k = true then T k else (hinh k).choose)
      split
      · next hd => exact hT k hk hd.2
      · exact (hinh k).choose_spec
    have hs := wpSq_at Ss (l.take m) a0 h i o (by rw [List.getElem?_take, if_pos him]; exact hol) T' hT' w' hw'
    rw [hlexT T' i (by omega)] at hs
    have hl1 := lexP_rel (m := m) (a0 := a0) T hdst hdis i (by omega)
    have hl2 := lexP_rel (m := m) (a0 := a0) T' hdst hdis i (by omega)
    have hsel : ∀ cs b, o.op ≠ .select cs b := fun cs b => Region.noSelect_spec hns i o cs b (by simp [hol])
    have hev : execOp (lexP l T i a0).eval o = execOp (lexP l T' i a0).eval o := by
      refine execOp_congr _ hsel fun x hx => ?_
      cases x with
      | tmp t =>
        show (lexP l T i a0).tmps.getD t undef = (lexP l T' i a0).tmps.getD t undef
        by_cases hex : ∃ k, k < i ∧ dst l k = some t
        · obtain ⟨k, hk, hkt⟩ := hex
          have hdep : dep l.toArray i k = true := by
            have := hops i him k (by omega)
            simp only [hol, hkt, Bool.or_eq_true, Bool.not_eq_true', List.any_eq_false] at this
            refine this.resolve_left fun hall => ?_
            have := hall (.tmp t) (by simpa using hx)
            simp at this
          rw [hl1.2.2.1 k t hk hkt, hl2.2.2.1 k t hk hkt]
          show T k = if k < i ∧ dep l.toArray i k = true then T k else (hinh k).choose
          rw [if_pos ⟨hk, hdep⟩]
        · rw [hl1.2.2.2 t (fun k e hk he heq => hex ⟨k, hk, by rw [he, heq]⟩), hl2.2.2.2 t (fun k e hk he heq => hex ⟨k, hk, by rw [he, heq]⟩)]
      | _ => rfl
    unfold sAt at hs ⊢
    rw [hev]
    exact hs
  · intro T hT w' hw'
    have hlen : (l.take m).length = m := by simp; omega
    have := wpSq_end Ss (l.take m) a0 h T (by rw [hlen]; exact hT)
    rw [hlen, hlexT T m (Nat.le_refl _)] at this
    exact this w' hw'
end
end Go.Proofs.Ytbjcbbnfgfmllaa.Reg
