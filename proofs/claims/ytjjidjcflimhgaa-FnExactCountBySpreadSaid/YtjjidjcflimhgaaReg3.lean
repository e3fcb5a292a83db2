/- A region that draws its order: operations with one value in every world, then one call whose value hangs on the world, then operations that only hand on. No program in sight. -/
import Derived.Test.YtjjidjcflimhgaaReg
set_option linter.unusedVariables false
set_option linter.unusedSimpArgs false
namespace Go.Proofs.Ytjjidjcflimhgaa.Reg
open Go.RowKit
section
variable {P : Program} {Q : Exit → Act → World → Prop}
def wpV (P : Program) (QA : Act → Prop) : List Oper → Act → Prop
  | [], a => QA a
  | o :: rest, a => ∃ v, (∀ w, (execOp a.eval o).run P w = .ok (.value v) w) ∧ wpV P QA rest (a.put o.dst v)
theorem wpV_step {QA : Act → Prop} {o : Oper} {rest : List Oper} {a : Act} {v : Value} (h : ∀ w, (execOp a.eval o).run P w = .ok (.value v) w) (k : wpV P QA rest (a.put o.dst v)) : wpV P QA (o :: rest) a := ⟨v, h, k⟩
theorem wpV_vals {QA : Act → Prop} : ∀ (l : List Oper) (a : Act), wpV P QA l a →
    ∃ v : Nat → Value, (∀ i o, l[i]? = some o → ∀ w, (execOp (lexP l v i a).eval o).run P w = .ok (.value (v i)) w) ∧ QA (lexP l v l.length a)
  | [], a, h => ⟨fun _ => undef, fun i o ho => by simp at ho, h⟩
  | o :: l, a, h => by
    obtain ⟨v0, h1, h2⟩ := h
    obtain ⟨v, h3, h4⟩ := wpV_vals l _ h2
    refine ⟨fun k => match k with | 0 => v0 | k + 1 => v k, fun i o' ho => ?_, ?_⟩
    · cases i with
      | zero =>
        simp only [List.getElem?_cons_zero, Option.some.injEq] at ho
        subst ho
        exact h1
      | succ i =>
        rw [lexP_cons]
        exact h3 i o' (by simpa using ho)
    · rw [List.length_cons, lexP_cons]
      exact h4
def chkc (l : List Oper) (c N : Nat) : Bool :=
  decide (c < l.length) && acyc l.toArray && onlyIn l.toArray && Region.noSelect l.toArray &&
  ((List.range l.length).all fun k => ((l[k]?).map fun o => o.guard.isNone).getD false && (match dst l k with | some d => decide (d < N) | none => false)) &&
  ((List.range l.length).all fun k => (List.range l.length).all fun k' => k == k' || dst l k != dst l k') &&
  ((List.range l.length).all fun i => (List.range l.length).all fun k => match l[i]?, dst l k with | some o, some d => !(o.op.operands.toList.any fun x => match x with | .tmp t => t == d | _ => false) || dep l.toArray i k | _, _ => false) &&
  ((List.range l.length).all fun j => decide (j ≤ c) || reach l.toArray 8 j c) && ((List.range c).all fun k => reach l.toArray 8 c k)
theorem lexP_congr (l : List Oper) (a : Act) {v v' : Nat → Value} : ∀ i, (∀ k, k < i → v k = v' k) → lexP l v i a = lexP l v' i a
  | 0, _ => rfl
  | i + 1, h => by rw [lexP, lexP, lexP_congr l a i (fun k hk => h k (by omega)), h i (by omega)]
theorem lexP_drop (l : List Oper) (v : Nat → Value) (a : Act) (c : Nat) : ∀ i, lexP l v (c + i) a = lexP (l.drop c) (fun k => v (c + k)) i (lexP l v c a)
  | 0 => rfl
  | i + 1 => by
    rw [← Nat.add_assoc, lexP, lexP, lexP_drop l v a c i]
    simp only [dst, List.getElem?_drop]
theorem closed_set {ops : Array Oper} {L : Array Bool} {i : Nat} (hi : i < L.size) (hc : closed ops L) (hd : ∀ d, dep ops i d = true → L.getD d false = true) : closed ops (L.setIfInBounds i true) := by
  intro j k hjk hj
  rw [getD_set hi] at hj ⊢
  by_cases hji : j = i
  · subst hji
    rw [hd k hjk]; simp
  · rw [hc j k hjk (by simpa [hji] using hj)]; simp
theorem wp_region_call {id : Nat} {l : List Oper} {a0 : Act} {w : World} (hm : P.follows .mixedOrders = true) (c : Nat) (hB : chkc l c a0.tmps.size = true)
    (h : wpG P w (fun aE => ∀ w', Below w.heap.size w w' → ∃ f args, (∀ o, l[c]? = some o → (execOp aE.eval o).run P w' = .ok (.enter f args) w') ∧
      Calls P f args w' fun e w'' => ∃ vc, e = .returned vc ∧ wpV P (fun a => wpList P l.toArray Q [] a w'') (l.drop (c + 1)) (aE.put (dst l c) vc)) (l.take c) a0) :
    (Code.region id l.toArray true).wp P Q a0 w := by
  obtain ⟨v, hv, hend⟩ := wpG_vals _ _ h
  simp only [chkc, Bool.and_eq_true, decide_eq_true_eq] at hB
  obtain ⟨⟨⟨⟨⟨⟨⟨⟨hcl, hac⟩, hin⟩, hns⟩, hg⟩, hdisB⟩, hops⟩, haft⟩, hbef⟩ := hB
  simp only [List.all_eq_true, List.mem_range] at hg hdisB hops haft hbef
  have hdst : ∀ k, k < l.length → ∃ d, dst l k = some d ∧ d < a0.tmps.size := by
    intro k hk
    have := hg k hk
    simp only [Bool.and_eq_true] at this
    have h2 := this.2
    cases hd : dst l k with
    | none => rw [hd] at h2; cases h2
    | some d => rw [hd] at h2; exact ⟨d, rfl, by simpa using h2⟩
  have hdis : ∀ k k', k < l.length → k' < l.length → k ≠ k' → dst l k ≠ dst l k' := by
    intro k k' hk hk' hne
    have := hdisB k hk k' hk'
    simp only [Bool.or_eq_true, beq_iff_eq, bne_iff_ne] at this
    exact this.resolve_left hne
  have htake : ∀ i, i < c → (l.take c)[i]? = l[i]? := fun i hi => List.getElem?_take_of_lt hi
  have hlexT : ∀ i, i ≤ c → ∀ a, lexP (l.take c) v i a = lexP l v i a := by
    intro i
    induction i with
    | zero => intros; rfl
    | succ i ih =>
      intro hi a
      rw [lexP, lexP, ih (by omega)]
      simp only [dst, htake i (by omega)]
  have hlen : (l.take c).length = c := by rw [List.length_take]; omega
  rw [hlen, hlexT c (Nat.le_refl _)] at hend
  have hsz : l.toArray.size = l.length := by simp
  have evalEq : ∀ (i : Nat) (hli : i < l.length) (L : Array Bool) (a : Act) (T : Nat → Value), Rel l l.length a0 L T a → (∀ d, dep l.toArray i d = true → L.getD d false = true) → execOp a.eval l[i] = execOp (lexP l T i a0).eval l[i] := by
    intro i hli L a T hR hd
    have hol : l[i]? = some l[i] := List.getElem?_eq_getElem hli
    have ho : l.toArray[i]? = some l[i] := by simp [hli]
    have hsel : ∀ cs b, (l[i]).op ≠ .select cs b := fun cs b => Region.noSelect_spec hns i l[i] cs b ho
    have hlex := lexP_rel (m := l.length) (a0 := a0) T hdst hdis i (by omega)
    refine execOp_congr _ hsel fun x hx => ?_
    cases x with
    | tmp t =>
      show a.tmps.getD t undef = (lexP l T i a0).tmps.getD t undef
      by_cases hex : ∃ k, k < l.length ∧ dst l k = some t
      · obtain ⟨k, hk, hkt⟩ := hex
        have hdep : dep l.toArray i k = true := by
          have := hops i hli k hk
          simp only [hol, hkt, Bool.or_eq_true, Bool.not_eq_true', List.any_eq_false] at this
          refine this.resolve_left fun hall => ?_
          have := hall (.tmp t) (by simpa using hx)
          simp at this
        have hLk := hd k hdep
        have hki : k < i := by
          have h1 := hac
          simp only [acyc, List.all_eq_true, List.mem_range] at h1
          have := h1 i (by simpa using hli) k (by simp; omega)
          simpa [hdep] using this
        rw [hR.here k t hk hkt hLk, hlex.2.2.1 k t hki hkt]
      · rw [hR.else_ t (fun k e hk he _ heq => hex ⟨k, hk, by rw [he, heq]⟩), hlex.2.2.2 t (fun k e hk he heq => hex ⟨k, by omega, by rw [he, heq]⟩)]
    | _ => rfl
  have tailTriv : tailB l.toArray l.length = true := by
    simp only [tailB, List.all_eq_true, List.mem_range, Bool.or_eq_true, decide_eq_true_eq]
    intro j hj
    exact .inl (by simpa using hj)
  refine wp_region_ev hm l.length (by simp only [Bool.and_eq_true, decide_eq_true_eq]; exact ⟨⟨⟨by simp, hac⟩, tailTriv⟩, hin⟩)
    (fun L a w1 => closed l.toArray L ∧ ((L.getD c false = false ∧ Below w.heap.size w w1 ∧ Rel l l.length a0 L v a) ∨
      (L.getD c false = true ∧ ∃ T : Nat → Value, Rel l l.length a0 L T a ∧ (∀ i o, c < i → l[i]? = some o → ∀ w, (execOp (lexP l T i a0).eval o).run P w = .ok (.value (T i)) w) ∧ wpList P l.toArray Q [] (lexP l T l.length a0) w1))) ?_ ?_ ?_
  · refine ⟨fun j k _ hj => ?_, .inl ⟨?_, (Below.refl _ _).drew, ⟨rfl, rfl, fun k d _ _ hL => ?_, fun t _ => rfl⟩⟩⟩
    · simp [Array.getElem?_replicate] at hj; split at hj <;> simp at hj
    · simp [Array.getElem?_replicate]; split <;> simp
    · simp [Array.getElem?_replicate] at hL; split at hL <;> simp at hL
  · intro i him L a w1 hL hu hd ⟨hclo, hJ⟩
    have hLi : i < L.size := by omega
    obtain ⟨d, hdi, hdN⟩ := hdst i him
    have ho : l.toArray[i]? = some l[i] := by simp [him]
    have hol : l[i]? = some l[i] := List.getElem?_eq_getElem him
    have hod : (l[i]).dst = some d := by simpa [dst, hol] using hdi
    have hgu : (l[i]).guard = none := by
      have := hg i him
      simp only [Bool.and_eq_true, hol, Option.map_some, Option.getD_some, Option.isNone_iff_eq_none] at this
      exact this.1
    have hclo' := closed_set hLi hclo hd
    unfold wpOp
    simp only [ho, wanted_none hgu, if_true]
    refine Or.inl ?_
    rcases hJ with ⟨hcf, hBw, hR⟩ | ⟨hct, T, hR, hrun, hfin⟩
    · rcases Nat.lt_trichotomy i c with hlt | heq | hgt
      · have hq := hv i l[i] (by rw [htake i hlt]; exact hol) w1 hBw
        rw [hlexT i (by omega)] at hq
        have next : ∀ w2, Below w1.heap.size w1 w2 → closed l.toArray (L.setIfInBounds i true) ∧ (((L.setIfInBounds i true).getD c false = false ∧ Below w.heap.size w w2 ∧ Rel l l.length a0 (L.setIfInBounds i true) v (a.put (l[i]).dst (v i))) ∨
            ((L.setIfInBounds i true).getD c false = true ∧ ∃ T : Nat → Value, Rel l l.length a0 (L.setIfInBounds i true) T (a.put (l[i]).dst (v i)) ∧ (∀ i o, c < i → l[i]? = some o → ∀ w, (execOp (lexP l T i a0).eval o).run P w = .ok (.value (T i)) w) ∧ wpList P l.toArray Q [] (lexP l T l.length a0) w2)) := by
          intro w2 h2
          refine ⟨hclo', .inl ⟨?_, hBw.trans (h2.mono hBw.size), ?_⟩⟩
          · rw [getD_set hLi, hcf]
            simp; omega
          · rw [hod]
            exact hR.put him hLi hdi hdN hdis (v i) v rfl (fun _ _ => rfl)
        unfold gAt at hq
        unfold Oper.wp
        rw [evalEq i him L a v hR hd]
        generalize (execOp (lexP l v i a0).eval l[i]).run P w1 = r at *
        cases r with
        | ok n w2 =>
          cases n <;> simp only [Oper.quietUpon] at hq <;> simp only [Oper.upon]
          case value u =>
            obtain ⟨e1, e2⟩ := hq
            rw [e1, e2]
            exact next _ (Below.refl _ _)
          case skip =>
            obtain ⟨e1, e2⟩ := hq
            rw [e1, ← e2]
            exact next _ (Below.refl _ _)
          case enter f args =>
            obtain ⟨e1, hc⟩ := hq
            rw [e1]
            exact hc.mono fun e w'' ⟨he, hw''⟩ => by subst he; exact next _ hw''
        | halt x w2 => simp only [Oper.quietUpon] at hq
      · subst heq
        have hall : ∀ k, k < i → L.getD k false = true := fun k hk => reach_listed hclo 8 i k hd (hbef k hk)
        obtain ⟨f, args, hr, hc⟩ := hend w1 hBw
        unfold Oper.wp
        rw [evalEq i him L a v hR hd, hr l[i] hol]
        simp only [Oper.upon]
        refine hc.mono ?_
        rintro e w2 ⟨vc, rfl, hpure⟩
        obtain ⟨u, hu1, hu2⟩ := wpV_vals _ _ hpure
        refine ⟨hclo', .inr ⟨by rw [getD_set hLi]; simp, fun k => if k < i then v k else if k = i then vc else u (k - (i + 1)), ?_, ?_, ?_⟩⟩
        · rw [hod]
          have hno : ∀ k, i < k → k < l.length → L.getD k false = false := by
            intro k hk hkl
            cases hLk : L.getD k false with
            | false => rfl
            | true =>
              have := reach_listed hclo 8 k i (fun d hdd => hclo k d hdd hLk) (by have := haft k hkl; simp only [Bool.or_eq_true, decide_eq_true_eq] at this; exact this.resolve_left (by omega))
              rw [hcf] at this
              cases this
          have hR2 : Rel l l.length a0 L (fun k => if k < i then v k else if k = i then vc else u (k - (i + 1))) a := by
            refine ⟨hR.defers, hR.size, fun k e hk he hLk => ?_, hR.else_⟩
            have hki : k < i := by
              rcases Nat.lt_trichotomy k i with h | h | h
              · exact h
              · subst h; rw [hcf] at hLk; cases hLk
              · rw [hno k h hk] at hLk; cases hLk
            simp only [hki, if_true]
            exact hR.here k e hk he hLk
          exact hR2.put him hLi hdi hdN hdis vc _ (by simp) (fun _ _ => rfl)
        · intro j o hj hoj w3
          obtain ⟨q, rfl⟩ : ∃ q, j = i + 1 + q := ⟨j - (i + 1), by omega⟩
          have h1 := hu1 q o (by rw [List.getElem?_drop]; exact hoj) w3
          rw [lexP_drop]
          have e1 : lexP l (fun k => if k < i then v k else if k = i then vc else u (k - (i + 1))) (i + 1) a0 = (lexP l v i a0).put (dst l i) vc := by
            rw [lexP, lexP_congr l a0 (v' := v) i (fun k hk => by simp [hk])]
            simp
          rw [e1]
          have e2 : (fun k => (fun k => if k < i then v k else if k = i then vc else u (k - (i + 1))) (i + 1 + k)) = u := by
            funext k
            simp only [show ¬ i + 1 + k < i by omega, show ¬ i + 1 + k = i by omega, if_false]
            congr 1
            omega
          rw [e2]
          simp only [show ¬ i + 1 + q < i by omega, show ¬ i + 1 + q = i by omega, if_false, show i + 1 + q - (i + 1) = q by omega]
          exact h1
        · have e0 : l.length = i + 1 + (l.drop (i + 1)).length := by rw [List.length_drop]; omega
          rw [show lexP l (fun k => if k < i then v k else if k = i then vc else u (k - (i + 1))) l.length a0 = lexP l (fun k => if k < i then v k else if k = i then vc else u (k - (i + 1))) (i + 1 + (l.drop (i + 1)).length) a0 by rw [← e0], lexP_drop]
          have e1 : lexP l (fun k => if k < i then v k else if k = i then vc else u (k - (i + 1))) (i + 1) a0 = (lexP l v i a0).put (dst l i) vc := by
            rw [lexP, lexP_congr l a0 (v' := v) i (fun k hk => by simp [hk])]
            simp
          rw [e1]
          have e2 : (fun k => (fun k => if k < i then v k else if k = i then vc else u (k - (i + 1))) (i + 1 + k)) = u := by
            funext k
            simp only [show ¬ i + 1 + k < i by omega, show ¬ i + 1 + k = i by omega, if_false]
            congr 1
            omega
          rw [e2]
          exact hu2
      · have := reach_listed hclo 8 i c hd (by have := haft i him; simp only [Bool.or_eq_true, decide_eq_true_eq] at this; exact this.resolve_left (by omega))
        rw [hcf] at this
        cases this
    · have hne : i ≠ c := by rintro rfl; rw [hct] at hu; cases hu
      have hgt : c < i := by
        rcases Nat.lt_trichotomy i c with h | h | h
        · have := reach_listed hclo 8 c i (fun d hdd => hclo c d hdd hct) (hbef i h)
          rw [hu] at this
          cases this
        · exact absurd h hne
        · exact h
      unfold Oper.wp
      rw [evalEq i him L a T hR hd, hrun i l[i] hgt hol w1]
      simp only [Oper.upon]
      refine ⟨hclo', .inr ⟨by rw [getD_set hLi, hct]; simp, T, ?_, hrun, hfin⟩⟩
      rw [hod]
      exact hR.put him hLi hdi hdN hdis (T i) T rfl (fun _ _ => rfl)
  · intro L a w1 hall ⟨hclo, hJ⟩
    rcases hJ with ⟨hcf, _⟩ | ⟨hct, T, hR, hrun, hfin⟩
    · rw [hall c hcl] at hcf; cases hcf
    · have hlex := lexP_rel (m := l.length) (a0 := a0) T hdst hdis l.length (Nat.le_refl _)
      have ha : a = lexP l T l.length a0 := by
        refine act_ext (by rw [hR.defers, hlex.1]) (by rw [hR.size, hlex.2.1]) fun t => ?_
        by_cases hex : ∃ k, k < l.length ∧ dst l k = some t
        · obtain ⟨k, hk, hkt⟩ := hex
          rw [hR.here k t hk hkt (hall k hk), hlex.2.2.1 k t hk hkt]
        · rw [hR.else_ t (fun k e hk he _ heq => hex ⟨k, hk, by rw [he, heq]⟩), hlex.2.2.2 t (fun k e hk he heq => hex ⟨k, hk, by rw [he, heq]⟩)]
      rw [ha]
      have hw := wpOps_eq_wpList (P := P) (ops := l.toArray) (Q := Q) [] l.length (fun j => by simp)
      rw [hsz, Nat.sub_self]
      simp only [List.length_nil] at hw
      rw [hw]
      exact hfin
end
end Go.Proofs.Ytjjidjcflimhgaa.Reg
