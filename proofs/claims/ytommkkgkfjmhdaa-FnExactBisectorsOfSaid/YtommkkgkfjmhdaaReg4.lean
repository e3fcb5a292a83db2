/- A region that draws its order and holds guarded operations: each operation has one value in every world, or is passed by. No program in sight. -/
import Derived.Test.YtommkkgkfjmhdaaReg
set_option linter.unusedVariables false
set_option linter.unusedSimpArgs false
namespace Go.Proofs.Ytommkkgkfjmhdaa.Reg
open Go.RowKit
section
variable {P : Program} {Q : Exit → Act → World → Prop}
/-- Operation o is wanted and yields v, or is not wanted. -/
def hAt (P : Program) (l : List Oper) (o : Oper) (a : Act) (w : World) (v : Value) : Prop :=
  (Region.wanted o (yielded l.toArray a.tmps) = true ∧ gAt P o a w v) ∨ (Region.wanted o (yielded l.toArray a.tmps) = false ∧ v = undef)
def wpH (P : Program) (l0 : List Oper) (w0 : World) (QA : Act → Prop) : List Oper → Act → Prop
  | [], a => QA a
  | o :: rest, a => ∃ v, (∀ w, Below w0.heap.size w0 w → hAt P l0 o a w v) ∧ wpH P l0 w0 QA rest (a.put o.dst v)
theorem wpH_step {l0 : List Oper} {w0 : World} {QA : Act → Prop} {o : Oper} {rest : List Oper} {a : Act} {v : Value} (h : ∀ w, Below w0.heap.size w0 w → hAt P l0 o a w v) (k : wpH P l0 w0 QA rest (a.put o.dst v)) : wpH P l0 w0 QA (o :: rest) a := ⟨v, h, k⟩
theorem wpH_do {l0 : List Oper} {w0 : World} {QA : Act → Prop} {o : Oper} {rest : List Oper} {a : Act} {v : Value} (hw : Region.wanted o (yielded l0.toArray a.tmps) = true) (h : ∀ w, Below w0.heap.size w0 w → gAt P o a w v) (k : wpH P l0 w0 QA rest (a.put o.dst v)) : wpH P l0 w0 QA (o :: rest) a := ⟨v, fun w hb => .inl ⟨hw, h w hb⟩, k⟩
theorem wpH_skip {l0 : List Oper} {w0 : World} {QA : Act → Prop} {o : Oper} {rest : List Oper} {a : Act} (hw : Region.wanted o (yielded l0.toArray a.tmps) = false) (k : wpH P l0 w0 QA rest (a.put o.dst undef)) : wpH P l0 w0 QA (o :: rest) a := ⟨undef, fun w _ => .inr ⟨hw, rfl⟩, k⟩
theorem wpH_vals {l0 : List Oper} {w0 : World} {QA : Act → Prop} : ∀ (l : List Oper) (a : Act), wpH P l0 w0 QA l a →
    ∃ v : Nat → Value, (∀ i o, l[i]? = some o → ∀ w, Below w0.heap.size w0 w → hAt P l0 o (lexP l v i a) w (v i)) ∧ QA (lexP l v l.length a)
  | [], a, h => ⟨fun _ => undef, fun i o ho => by simp at ho, h⟩
  | o :: l, a, h => by
    obtain ⟨v0, h1, h2⟩ := h
    obtain ⟨v, h3, h4⟩ := wpH_vals l _ h2
    refine ⟨fun k => match k with | 0 => v0 | k + 1 => v k, fun i o' ho => ?_, ?_⟩
    · cases i with
      | zero =>
        simp only [List.getElem?_cons_zero, Option.some.injEq] at ho
        subst ho
        exact h1
      | succ i =>
        rw [lexP_cons]
        exact h3 i o' (by simpa using ho)
    · rw [List.length_cons, lexP_cons]
      exact h4
def chkh (l : List Oper) (m N : Nat) : Bool :=
  decide (m ≤ l.length) && acyc l.toArray && tailB l.toArray m && onlyIn l.toArray && Region.noSelect l.toArray &&
  ((List.range m).all fun k => (match dst l k with | some d => decide (d < N) | none => false)) &&
  ((List.range m).all fun k => (List.range m).all fun k' => k == k' || dst l k != dst l k') &&
  ((List.range m).all fun i => (List.range m).all fun k => match l[i]?, dst l k with | some o, some d => !(o.op.operands.toList.any fun x => match x with | .tmp t => t == d | _ => false) || dep l.toArray i k | _, _ => false) &&
  ((List.range m).all fun i => match l[i]? with | some o => (match o.guard with | none => true | some (k, _) => dep l.toArray i k && decide (k < m)) | none => false)
theorem wp_region_guard {id : Nat} {l : List Oper} {a0 : Act} {w : World} (hm : P.follows .mixedOrders = true) (m : Nat) (hB : chkh l m a0.tmps.size = true)
    (h : wpH P l w (fun aE => ∀ w' : World, Below w.heap.size w w' → wpList P l.toArray Q (l.drop m) aE w') (l.take m) a0) :
    (Code.region id l.toArray true).wp P Q a0 w := by
  obtain ⟨v, hv, hend⟩ := wpH_vals _ _ h
  simp only [chkh, Bool.and_eq_true, decide_eq_true_eq] at hB
  obtain ⟨⟨⟨⟨⟨⟨⟨⟨hml, hac⟩, htl⟩, hin⟩, hns⟩, hg⟩, hdisB⟩, hops⟩, hgrd⟩ := hB
  simp only [List.all_eq_true, List.mem_range] at hg hdisB hops hgrd
  have hdst : ∀ k, k < m → ∃ d, dst l k = some d ∧ d < a0.tmps.size := by
    intro k hk
    have h2 := hg k hk
    cases hd : dst l k with
    | none => rw [hd] at h2; cases h2
    | some d => rw [hd] at h2; exact ⟨d, rfl, by simpa using h2⟩
  have hdis : ∀ k k', k < m → k' < m → k ≠ k' → dst l k ≠ dst l k' := by
    intro k k' hk hk' hne
    have := hdisB k hk k' hk'
    simp only [Bool.or_eq_true, beq_iff_eq, bne_iff_ne] at this
    exact this.resolve_left hne
  have htake : ∀ i, i < m → (l.take m)[i]? = l[i]? := fun i hi => List.getElem?_take_of_lt hi
  have hlexT : ∀ i, i ≤ m → ∀ a, lexP (l.take m) v i a = lexP l v i a := by
    intro i
    induction i with
    | zero => intros; rfl
    | succ i ih =>
      intro hi a
      rw [lexP, lexP, ih (by omega)]
      simp only [dst, htake i (by omega)]
  have hlen : (l.take m).length = m := by rw [List.length_take]; omega
  rw [hlen, hlexT m (Nat.le_refl _)] at hend
  have hsz : l.toArray.size = l.length := by simp
  have slotEq : ∀ (i : Nat), i < m → ∀ (L : Array Bool) (a : Act), Rel l m a0 L v a → (∀ d, dep l.toArray i d = true → L.getD d false = true) → ∀ k, k < m → dep l.toArray i k = true → ∀ t, dst l k = some t → a.tmps.getD t undef = (lexP l v i a0).tmps.getD t undef := by
    intro i hi L a hR hd k hk hdep t hkt
    have hki : k < i := by
      have h1 := hac
      simp only [acyc, List.all_eq_true, List.mem_range] at h1
      have := h1 i (by simp; omega) k (by simp; omega)
      simpa [hdep] using this
    have hlex := lexP_rel (m := m) (a0 := a0) v hdst hdis i (by omega)
    rw [hR.here k t hk hkt (hd k hdep), hlex.2.2.1 k t hki hkt]
  refine wp_region_ev hm m (by simp only [Bool.and_eq_true, decide_eq_true_eq]; exact ⟨⟨⟨by simpa using hml, hac⟩, htl⟩, hin⟩)
    (fun L a w1 => Below w.heap.size w w1 ∧ Rel l m a0 L v a) ?_ ?_ ?_
  · refine ⟨(Below.refl _ _).drew, ⟨rfl, rfl, fun k d _ _ hL => ?_, fun t _ => rfl⟩⟩
    simp [Array.getElem?_replicate] at hL; split at hL <;> simp at hL
  · intro i him L a w1 hL hu hd ⟨hBw, hR⟩
    have hLi : i < L.size := by omega
    obtain ⟨d, hdi, hdN⟩ := hdst i him
    have hli : i < l.length := by omega
    have ho : l.toArray[i]? = some l[i] := by simp [hli]
    have hol : l[i]? = some l[i] := List.getElem?_eq_getElem hli
    have hod : (l[i]).dst = some d := by simpa [dst, hol] using hdi
    have hlex := lexP_rel (m := m) (a0 := a0) v hdst hdis i (by omega)
    have hsel : ∀ cs b, (l[i]).op ≠ .select cs b := fun cs b => Region.noSelect_spec hns i l[i] cs b ho
    have hev : execOp a.eval l[i] = execOp (lexP l v i a0).eval l[i] := by
      refine execOp_congr _ hsel fun x hx => ?_
      cases x with
      | tmp t =>
        show a.tmps.getD t undef = (lexP l v i a0).tmps.getD t undef
        by_cases hex : ∃ k, k < m ∧ dst l k = some t
        · obtain ⟨k, hk, hkt⟩ := hex
          have hdep : dep l.toArray i k = true := by
            have := hops i him k hk
            simp only [hol, hkt, Bool.or_eq_true, Bool.not_eq_true', List.any_eq_false] at this
            refine this.resolve_left fun hall => ?_
            have := hall (.tmp t) (by simpa using hx)
            simp at this
          exact slotEq i him L a hR hd k hk hdep t hkt
        · rw [hR.else_ t (fun k e hk he _ heq => hex ⟨k, hk, by rw [he, heq]⟩), hlex.2.2.2 t (fun k e hk he heq => hex ⟨k, by omega, by rw [he, heq]⟩)]
      | _ => rfl
    have hwant : Region.wanted l[i] (yielded l.toArray a.tmps) = Region.wanted l[i] (yielded l.toArray (lexP l v i a0).tmps) := by
      unfold Region.wanted
      have hgi := hgrd i him
      rw [hol] at hgi
      simp only at hgi
      cases hgd : (l[i]).guard with
      | none => rfl
      | some kb =>
        obtain ⟨k, b⟩ := kb
        rw [hgd] at hgi
        simp only [Bool.and_eq_true, decide_eq_true_eq] at hgi
        obtain ⟨t, hkt, _⟩ := hdst k hgi.2
        have hs := slotEq i him L a hR hd k hgi.2 hgi.1 t hkt
        have hk2 : (l.toArray[k]?).bind (·.dst) = some t := by simpa [dst] using hkt
        simp only
        have : yielded l.toArray a.tmps k = yielded l.toArray (lexP l v i a0).tmps k := by
          unfold yielded
          cases hlk : l.toArray[k]? with
          | none => simp [hlk] at hk2
          | some ok =>
            rw [hlk] at hk2
            simp only [Option.bind_some] at hk2
            simp only [Option.bind_some, hk2]
            simp only [Array.getD_eq_getD_getElem?] at hs
            have e1 : t < a.tmps.size := by
              obtain ⟨t', h1, h2⟩ := hdst k hgi.2
              rw [hkt] at h1; cases h1
              rw [hR.size]; exact h2
            have e2 : t < (lexP l v i a0).tmps.size := by rw [hlex.2.1, ← hR.size]; exact e1
            first
              | (simp only [Array.getElem?_eq_getElem e1, Array.getElem?_eq_getElem e2, Option.getD_some] at hs ⊢; rw [hs])
              | (simp [e1, e2] at hs ⊢; rw [hs])
              | simp_all
        rw [this]
    have hq := hv i l[i] (by rw [htake i him]; exact hol) w1 hBw
    rw [hlexT i (by omega)] at hq
    have next : ∀ w2, Below w1.heap.size w1 w2 → Below w.heap.size w w2 ∧ Rel l m a0 (L.setIfInBounds i true) v (a.put (l[i]).dst (v i)) := by
      intro w2 h2
      refine ⟨hBw.trans (h2.mono hBw.size), ?_⟩
      rw [hod]
      exact hR.put him hLi hdi hdN hdis (v i) v rfl (fun _ _ => rfl)
    unfold wpOp
    simp only [ho]
    rcases hq with ⟨hw, hq⟩ | ⟨hw, hvu⟩
    · rw [if_pos (by rw [hwant]; exact hw)]
      refine Or.inl ?_
      unfold gAt at hq
      unfold Oper.wp
      rw [hev]
      generalize (execOp (lexP l v i a0).eval l[i]).run P w1 = r at *
      cases r with
      | ok n w2 =>
        cases n <;> simp only [Oper.quietUpon] at hq <;> simp only [Oper.upon]
        case value u =>
          obtain ⟨e1, e2⟩ := hq
          rw [e1, e2]
          exact next _ (Below.refl _ _)
        case skip =>
          obtain ⟨e1, e2⟩ := hq
          rw [e1, ← e2]
          exact next _ (Below.refl _ _)
        case enter f args =>
          obtain ⟨e1, hc⟩ := hq
          rw [e1]
          exact hc.mono fun e w'' ⟨he, hw''⟩ => by subst he; exact next _ hw''
      | halt x w2 => simp only [Oper.quietUpon] at hq
    · rw [if_neg (by rw [hwant, hw]; decide)]
      have h3 := next w1 (Below.refl _ _)
      rw [hvu] at h3
      exact h3
  · intro L a w1 hall ⟨hBw, hR⟩
    have hlex := lexP_rel (m := m) (a0 := a0) v hdst hdis m (Nat.le_refl _)
    have ha : a = lexP l v m a0 := by
      refine act_ext (by rw [hR.defers, hlex.1]) (by rw [hR.size, hlex.2.1]) fun t => ?_
      by_cases hex : ∃ k, k < m ∧ dst l k = some t
      · obtain ⟨k, hk, hkt⟩ := hex
        rw [hR.here k t hk hkt (hall k hk), hlex.2.2.1 k t hk hkt]
      · rw [hR.else_ t (fun k e hk he _ heq => hex ⟨k, hk, by rw [he, heq]⟩), hlex.2.2.2 t (fun k e hk he heq => hex ⟨k, by omega, by rw [he, heq]⟩)]
    have hfin := hend w1 hBw
    rw [← ha] at hfin
    have hw := wpOps_eq_wpList (P := P) (ops := l.toArray) (Q := Q) (l.drop m) m (fun j => by simp)
    rw [List.length_drop] at hw
    rw [hsz, hw]
    exact hfin
end
end Go.Proofs.Ytommkkgkfjmhdaa.Reg
