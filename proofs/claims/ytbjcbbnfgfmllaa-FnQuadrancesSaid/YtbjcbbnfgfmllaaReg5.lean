/- A region that draws its order and holds several calls whose values are known in part only: of each operation's value a predicate is told. No program in sight. -/
import Derived.Test.YtbjcbbnfgfmllaaReg
set_option linter.unusedVariables false
set_option linter.unusedSimpArgs false
namespace Go.Proofs.Ytbjcbbnfgfmllaa.Reg
open Go.RowKit
section
variable {P : Program} {Q : Exit → Act → World → Prop}
/-- Operation o, carried out in w, yields a value of S and leaves a world of E. -/
def sAt (P : Program) (o : Oper) (a : Act) (w : World) (S : Value → Prop) (E : World → Prop) : Prop :=
  (∃ v w'', (execOp a.eval o).run P w = .ok (.value v) w'' ∧ S v ∧ E w'') ∨
  (∃ f args w'', (execOp a.eval o).run P w = .ok (.enter f args) w'' ∧ Calls P f args w'' fun e w3 => ∃ v, e = .returned v ∧ S v ∧ E w3)
theorem sAt_val {o : Oper} {a : Act} {w : World} {S : Value → Prop} {E : World → Prop} {v : Value} (h : (execOp a.eval o).run P w = .ok (.value v) w) (hS : S v) (hE : E w) : sAt P o a w S E := .inl ⟨v, w, h, hS, hE⟩
theorem sAt_call {o : Oper} {a : Act} {w : World} {S : Value → Prop} {E : World → Prop} {f : FuncId} {args : Array Value} (h : (execOp a.eval o).run P w = .ok (.enter f args) w) (hc : Calls P f args w fun e w3 => ∃ v, e = .returned v ∧ S v ∧ E w3) : sAt P o a w S E := .inr ⟨f, args, w, h, hc⟩
def chks (l : List Oper) (m N : Nat) : Bool :=
  decide (m ≤ l.length) && acyc l.toArray && tailB l.toArray m && onlyIn l.toArray && Region.noSelect l.toArray &&
  ((List.range m).all fun k => ((l[k]?).map fun o => o.guard.isNone).getD false && (match dst l k with | some d => decide (d < N) | none => false)) &&
  ((List.range m).all fun k => (List.range m).all fun k' => k == k' || dst l k != dst l k') &&
  ((List.range m).all fun i => (List.range m).all fun k => match l[i]?, dst l k with | some o, some d => !(o.op.operands.toList.any fun x => match x with | .tmp t => t == d | _ => false) || dep l.toArray i k | _, _ => false)
theorem wp_region_seq {id : Nat} {l : List Oper} {a0 : Act} {w : World} (hm : P.follows .mixedOrders = true) (m : Nat) (hB : chks l m a0.tmps.size = true) (E : World → Prop) (S : Nat → Value → Prop)
    (h0 : E w.drew)
    (h : ∀ i o, i < m → l[i]? = some o → ∀ T : Nat → Value, (∀ k, k < i → dep l.toArray i k = true → S k (T k)) → ∀ w', E w' → sAt P o (lexP l T i a0) w' (S i) E)
    (hend : ∀ T : Nat → Value, (∀ k, k < m → S k (T k)) → ∀ w', E w' → wpList P l.toArray Q (l.drop m) (lexP l T m a0) w') :
    (Code.region id l.toArray true).wp P Q a0 w := by
  simp only [chks, Bool.and_eq_true, decide_eq_true_eq] at hB
  obtain ⟨⟨⟨⟨⟨⟨⟨hml, hac⟩, htl⟩, hin⟩, hns⟩, hg⟩, hdisB⟩, hops⟩ := hB
  simp only [List.all_eq_true, List.mem_range] at hg hdisB hops
  have hdst : ∀ k, k < m → ∃ d, dst l k = some d ∧ d < a0.tmps.size := by
    intro k hk
    have := hg k hk
    simp only [Bool.and_eq_true] at this
    have h2 := this.2
    cases hd : dst l k with
    | none => rw [hd] at h2; cases h2
    | some d => rw [hd] at h2; exact ⟨d, rfl, by simpa using h2⟩
  have hdis : ∀ k k', k < m → k' < m → k ≠ k' → dst l k ≠ dst l k' := by
    intro k k' hk hk' hne
    have := hdisB k hk k' hk'
    simp only [Bool.or_eq_true, beq_iff_eq, bne_iff_ne] at this
    exact this.resolve_left hne
  have hsz : l.toArray.size = l.length := by simp
  refine wp_region_ev hm m (by simp only [Bool.and_eq_true, decide_eq_true_eq]; exact ⟨⟨⟨by simpa using hml, hac⟩, htl⟩, hin⟩)
    (fun L a w1 => E w1 ∧ ∃ T : Nat → Value, Rel l m a0 L T a ∧ (∀ k, k < m → L.getD k false = true → S k (T k))) ?_ ?_ ?_
  · refine ⟨h0, fun _ => undef, ⟨rfl, rfl, fun k d _ _ hL => ?_, fun t _ => rfl⟩, fun k _ hL => ?_⟩
    all_goals (simp [Array.getElem?_replicate] at hL; split at hL <;> simp at hL)
  · intro i him L a w1 hL hu hd ⟨hEw, T, hR, hS⟩
    have hLi : i < L.size := by omega
    obtain ⟨d, hdi, hdN⟩ := hdst i him
    have hli : i < l.length := by omega
    have ho : l.toArray[i]? = some l[i] := by simp [hli]
    have hol : l[i]? = some l[i] := List.getElem?_eq_getElem hli
    have hod : (l[i]).dst = some d := by simpa [dst, hol] using hdi
    have hgu : (l[i]).guard = none := by
      have := hg i him
      simp only [Bool.and_eq_true, hol, Option.map_some, Option.getD_some, Option.isNone_iff_eq_none] at this
      exact this.1
    have hlex := lexP_rel (m := m) (a0 := a0) T hdst hdis i (by omega)
    have hsel : ∀ cs b, (l[i]).op ≠ .select cs b := fun cs b => Region.noSelect_spec hns i l[i] cs b ho
    have hki : ∀ k, k < m → dep l.toArray i k = true → k < i := by
      intro k hk hdep
      have h1 := hac
      simp only [acyc, List.all_eq_true, List.mem_range] at h1
      have := h1 i (by simpa using hli) k (by simp; omega)
      simpa [hdep] using this
    have hev : execOp a.eval l[i] = execOp (lexP l T i a0).eval l[i] := by
      refine execOp_congr _ hsel fun x hx => ?_
      cases x with
      | tmp t =>
        show a.tmps.getD t undef = (lexP l T i a0).tmps.getD t undef
        by_cases hex : ∃ k, k < m ∧ dst l k = some t
        · obtain ⟨k, hk, hkt⟩ := hex
          have hdep : dep l.toArray i k = true := by
            have := hops i him k hk
            simp only [hol, hkt, Bool.or_eq_true, Bool.not_eq_true', List.any_eq_false] at this
            refine this.resolve_left fun hall => ?_
            have := hall (.tmp t) (by simpa using hx)
            simp at this
          rw [hR.here k t hk hkt (hd k hdep), hlex.2.2.1 k t (hki k hk hdep) hkt]
        · rw [hR.else_ t (fun k e hk he _ heq => hex ⟨k, hk, by rw [he, heq]⟩), hlex.2.2.2 t (fun k e hk he heq => hex ⟨k, by omega, by rw [he, heq]⟩)]
      | _ => rfl
    have hs := h i l[i] him hol T (fun k hk hdep => hS k (by omega) (hd k hdep)) w1 hEw
    have next : ∀ (v : Value) w2, S i v → E w2 → E w2 ∧ ∃ T : Nat → Value, Rel l m a0 (L.setIfInBounds i true) T (a.put (l[i]).dst v) ∧ (∀ k, k < m → (L.setIfInBounds i true).getD k false = true → S k (T k)) := by
      intro v w2 hv h2
      refine ⟨h2, fun k => if k = i then v else T k, ?_, fun k hk hLk => ?_⟩
      · rw [hod]
        exact hR.put him hLi hdi hdN hdis v _ (by simp) (fun k hk => by simp [hk])
      · by_cases hki' : k = i
        · subst hki'; simpa using hv
        · simp only [hki', if_false]
          rw [getD_set hLi] at hLk
          exact hS k hk (by simpa [hki'] using hLk)
    unfold wpOp
    simp only [ho, wanted_none hgu, if_true]
    refine Or.inl ?_
    unfold Oper.wp
    rw [hev]
    rcases hs with ⟨v, w2, hr, hv, hE2⟩ | ⟨f, args, w2, hr, hc⟩
    · rw [hr]
      simp only [Oper.upon]
      exact next v w2 hv hE2
    · rw [hr]
      simp only [Oper.upon]
      exact hc.mono fun e w3 ⟨v, he, hv, hE3⟩ => by subst he; exact next v w3 hv hE3
  · intro L a w1 hall ⟨hEw, T, hR, hS⟩
    have hlex := lexP_rel (m := m) (a0 := a0) T hdst hdis m (Nat.le_refl _)
    have ha : a = lexP l T m a0 := by
      refine act_ext (by rw [hR.defers, hlex.1]) (by rw [hR.size, hlex.2.1]) fun t => ?_
      by_cases hex : ∃ k, k < m ∧ dst l k = some t
      · obtain ⟨k, hk, hkt⟩ := hex
        rw [hR.here k t hk hkt (hall k hk), hlex.2.2.1 k t hk hkt]
      · rw [hR.else_ t (fun k e hk he _ heq => hex ⟨k, hk, by rw [he, heq]⟩), hlex.2.2.2 t (fun k e hk he heq => hex ⟨k, hk, by rw [he, heq]⟩)]
    have hfin := hend T (fun k hk => hS k hk (hall k hk)) w1 hEw
    rw [← ha] at hfin
    have hw := wpOps_eq_wpList (P := P) (ops := l.toArray) (Q := Q) (l.drop m) m (fun j => by simp)
    rw [List.length_drop] at hw
    rw [hsz, hw]
    exact hfin
end
end Go.Proofs.Ytbjcbbnfgfmllaa.Reg
