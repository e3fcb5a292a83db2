/- Regions that draw their order, with calls of which only a predicate is told, and with stores among them: as XReg5 and XReg6, but an operation may store instead of yielding a value. No program in sight. -/
import Derived.Test.YtbjcbbnfgfmllaaReg6
set_option linter.unusedVariables false
set_option linter.unusedSimpArgs false
namespace Go.Proofs.Ytbjcbbnfgfmllaa.Reg
open Go.RowKit
theorem Rel.put7 {l : List Oper} {m : Nat} {a0 a : Act} {L : Array Bool} {T : Nat → Value} {i : Nat} {d : Tmp} (h : Rel l m a0 L T a) (hi : i < m) (hL : i < L.size) (hd : dst l i = some d) (hN : d < a0.tmps.size)
    (hdis : ∀ k k' d, k < m → k' < m → dst l k = some d → dst l k' = some d → k = k') (v : Value) (T' : Nat → Value) (hT : T' i = v) (hT' : ∀ k, k ≠ i → T' k = T k) : Rel l m a0 (L.setIfInBounds i true) T' (a.put (some d) v) := by
  refine ⟨by rw [defers_put]; exact h.defers, by rw [size_put]; exact h.size, fun k e hk he hLk => ?_, fun t ht => ?_⟩
  · rw [getD_put _ (by rw [h.size]; exact hN)]
    by_cases hki : k = i
    · subst hki
      rw [hd] at he
      injection he with he
      subst he
      simp [hT]
    · have hne : e ≠ d := by
        rintro rfl
        exact hki (hdis k i _ hk hi he hd)
      rw [if_neg hne, hT' k hki]
      rw [getD_set hL] at hLk
      exact h.here k e hk he (by simpa [hki] using hLk)
  · rw [getD_put _ (by rw [h.size]; exact hN)]
    have h1 : d ≠ t := ht i d hi hd (by rw [getD_set hL]; simp)
    rw [if_neg (fun e => h1 e.symm)]
    refine h.else_ t fun k e hk he hLk => ht k e hk he ?_
    rw [getD_set hL, hLk]
    simp
theorem Rel.skip7 {l : List Oper} {m : Nat} {a0 a : Act} {L : Array Bool} {T : Nat → Value} {i : Nat} (h : Rel l m a0 L T a) (hL : i < L.size) (hd : dst l i = none) (T' : Nat → Value) (hT' : ∀ k, k ≠ i → T' k = T k) : Rel l m a0 (L.setIfInBounds i true) T' a := by
  refine ⟨h.defers, h.size, fun k e hk he hLk => ?_, fun t ht => ?_⟩
  · have hki : k ≠ i := by
      rintro rfl
      rw [hd] at he
      cases he
    rw [hT' k hki]
    rw [getD_set hL] at hLk
    exact h.here k e hk he (by simpa [hki] using hLk)
  · refine h.else_ t fun k e hk he hLk => ht k e hk he ?_
    rw [getD_set hL, hLk]
    simp
theorem put_none (a : Act) (v : Value) : a.put none v = a := rfl
theorem lexP_rel7 {l : List Oper} {m : Nat} {a0 : Act} (v : Nat → Value) (hdst : ∀ k d, k < m → dst l k = some d → d < a0.tmps.size) (hdis : ∀ k k' d, k < m → k' < m → dst l k = some d → dst l k' = some d → k = k') :
    ∀ i, i ≤ m → (lexP l v i a0).defers = a0.defers ∧ (lexP l v i a0).tmps.size = a0.tmps.size ∧ (∀ k d, k < i → dst l k = some d → (lexP l v i a0).tmps.getD d undef = v k) ∧
      ∀ t, (∀ k d, k < i → dst l k = some d → d ≠ t) → (lexP l v i a0).tmps.getD t undef = a0.tmps.getD t undef
  | 0, _ => ⟨rfl, rfl, fun k d hk => absurd hk (Nat.not_lt_zero _), fun t _ => rfl⟩
  | i + 1, hi => by
    obtain ⟨h1, h2, h3, h4⟩ := lexP_rel7 v hdst hdis i (by omega)
    cases hd : dst l i with
    | none =>
      rw [lexP, hd, put_none]
      refine ⟨h1, h2, fun k e hk he => ?_, fun t ht => h4 t fun k e hk he => ht k e (by omega) he⟩
      have hki : k ≠ i := by
        rintro rfl
        rw [hd] at he
        cases he
      exact h3 k e (by omega) he
    | some d =>
      have hN : d < (lexP l v i a0).tmps.size := by rw [h2]; exact hdst i d (by omega) hd
      rw [lexP, hd]
      refine ⟨by rw [defers_put]; exact h1, by rw [size_put]; exact h2, fun k e hk he => ?_, fun t ht => ?_⟩
      · rw [getD_put _ hN]
        by_cases hki : k = i
        · subst hki
          rw [hd] at he
          injection he with he
          subst he
          simp
        · have hne : e ≠ d := by
            rintro rfl
            exact hki (hdis k i _ (by omega) (by omega) he hd)
          rw [if_neg hne]
          exact h3 k e (by omega) he
      · rw [getD_put _ hN, if_neg (fun e => ht i d (by omega) hd e.symm)]
        exact h4 t fun k e hk he => ht k e (by omega) he
section
variable {P : Program} {Q : Exit → Act → World → Prop}
/-- Operation o, carried out in w, yields a value of S and leaves a world of E. -/
def sAt7 (P : Program) (o : Oper) (a : Act) (w : World) (S : Value → Prop) (E : World → Prop) : Prop :=
  (∃ v w'', (execOp a.eval o).run P w = .ok (.value v) w'' ∧ S v ∧ E w'') ∨
  (∃ w'', (execOp a.eval o).run P w = .ok .skip w'' ∧ S undef ∧ E w'') ∨
  (∃ f args w'', (execOp a.eval o).run P w = .ok (.enter f args) w'' ∧ Calls P f args w'' fun e w3 => ∃ v, e = .returned v ∧ S v ∧ E w3)
theorem sAt7_val {o : Oper} {a : Act} {w : World} {S : Value → Prop} {E : World → Prop} {v : Value} (h : (execOp a.eval o).run P w = .ok (.value v) w) (hS : S v) (hE : E w) : sAt7 P o a w S E := .inl ⟨v, w, h, hS, hE⟩
theorem sAt7_call {o : Oper} {a : Act} {w : World} {S : Value → Prop} {E : World → Prop} {f : FuncId} {args : Array Value} (h : (execOp a.eval o).run P w = .ok (.enter f args) w) (hc : Calls P f args w fun e w3 => ∃ v, e = .returned v ∧ S v ∧ E w3) : sAt7 P o a w S E := .inr (.inr ⟨f, args, w, h, hc⟩)
theorem sAt7_skip {o : Oper} {a : Act} {w w'' : World} {S : Value → Prop} {E : World → Prop} (h : (execOp a.eval o).run P w = .ok .skip w'') (hS : S undef) (hE : E w'') : sAt7 P o a w S E := .inr (.inl ⟨w'', h, hS, hE⟩)
def chk7 (l : List Oper) (m N : Nat) : Bool :=
  decide (m ≤ l.length) && acyc l.toArray && tailB l.toArray m && onlyIn l.toArray && Region.noSelect l.toArray &&
  ((List.range m).all fun k => ((l[k]?).map fun o => o.guard.isNone).getD false && (match dst l k with | some d => decide (d < N) | none => true)) &&
  ((List.range m).all fun k => (List.range m).all fun k' => k == k' || (dst l k).isNone || dst l k != dst l k') &&
  ((List.range m).all fun i => (List.range m).all fun k => match l[i]?, dst l k with | some o, some d => !(o.op.operands.toList.any fun x => match x with | .tmp t => t == d | _ => false) || dep l.toArray i k | _, _ => true)
theorem wp_region_seq7 {id : Nat} {l : List Oper} {a0 : Act} {w : World} (hm : P.follows .mixedOrders = true) (m : Nat) (hB : chk7 l m a0.tmps.size = true) (E : World → Prop) (S : Nat → Value → Prop)
    (h0 : E w.drew)
    (h : ∀ i o, i < m → l[i]? = some o → ∀ T : Nat → Value, (∀ k, k < i → dep l.toArray i k = true → S k (T k)) → ∀ w', E w' → sAt7 P o (lexP l T i a0) w' (S i) E)
    (hend : ∀ T : Nat → Value, (∀ k, k < m → S k (T k)) → ∀ w', E w' → wpList P l.toArray Q (l.drop m) (lexP l T m a0) w') :
    (Code.region id l.toArray true).wp P Q a0 w := by
  simp only [chk7, Bool.and_eq_true, decide_eq_true_eq] at hB
  obtain ⟨⟨⟨⟨⟨⟨⟨hml, hac⟩, htl⟩, hin⟩, hns⟩, hg⟩, hdisB⟩, hops⟩ := hB
  simp only [List.all_eq_true, List.mem_range] at hg hdisB hops
  have hdst : ∀ k d, k < m → dst l k = some d → d < a0.tmps.size := by
    intro k d hk hd
    have := hg k hk
    simp only [Bool.and_eq_true, hd] at this
    simpa using this.2
  have hdis : ∀ k k' d, k < m → k' < m → dst l k = some d → dst l k' = some d → k = k' := by
    intro k k' d hk hk' h1 h2
    have := hdisB k hk k' hk'
    simp only [h1, h2, Bool.or_eq_true, beq_iff_eq, bne_iff_ne, Option.isNone_some, ne_eq, not_true_eq_false, or_false] at this
    simpa using this
  have hsz : l.toArray.size = l.length := by simp
  refine wp_region_ev hm m (by simp only [Bool.and_eq_true, decide_eq_true_eq]; exact ⟨⟨⟨by simpa using hml, hac⟩, htl⟩, hin⟩)
    (fun L a w1 => E w1 ∧ ∃ T : Nat → Value, Rel l m a0 L T a ∧ (∀ k, k < m → L.getD k false = true → S k (T k))) ?_ ?_ ?_
  · refine ⟨h0, fun _ => undef, ⟨rfl, rfl, fun k d _ _ hL => ?_, fun t _ => rfl⟩, fun k _ hL => ?_⟩
    all_goals (simp [Array.getElem?_replicate] at hL; split at hL <;> simp at hL)
  · intro i him L a w1 hL hu hd ⟨hEw, T, hR, hS⟩
    have hLi : i < L.size := by omega
    have hli : i < l.length := by omega
    have ho : l.toArray[i]? = some l[i] := by simp [hli]
    have hol : l[i]? = some l[i] := List.getElem?_eq_getElem hli
    have hod : (l[i]).dst = dst l i := by simp [dst, hol]
    have hgu : (l[i]).guard = none := by
      have := hg i him
      simp only [Bool.and_eq_true, hol, Option.map_some, Option.getD_some, Option.isNone_iff_eq_none] at this
      exact this.1
    have hlex := lexP_rel7 (m := m) (a0 := a0) T hdst hdis i (by omega)
    have hsel : ∀ cs b, (l[i]).op ≠ .select cs b := fun cs b => Region.noSelect_spec hns i l[i] cs b ho
    have hki : ∀ k, k < m → dep l.toArray i k = true → k < i := by
      intro k hk hdep
      have h1 := hac
      simp only [acyc, List.all_eq_true, List.mem_range] at h1
      have := h1 i (by simpa using hli) k (by simp; omega)
      simpa [hdep] using this
    have hev : execOp a.eval l[i] = execOp (lexP l T i a0).eval l[i] := by
      refine execOp_congr _ hsel fun x hx => ?_
      cases x with
      | tmp t =>
        show a.tmps.getD t undef = (lexP l T i a0).tmps.getD t undef
        by_cases hex : ∃ k, k < m ∧ dst l k = some t
        · obtain ⟨k, hk, hkt⟩ := hex
          have hdep : dep l.toArray i k = true := by
            have := hops i him k hk
            simp only [hol, hkt, Bool.or_eq_true, Bool.not_eq_true', List.any_eq_false] at this
            refine this.resolve_left fun hall => ?_
            have := hall (.tmp t) (by simpa using hx)
            simp at this
          rw [hR.here k t hk hkt (hd k hdep), hlex.2.2.1 k t (hki k hk hdep) hkt]
        · rw [hR.else_ t (fun k e hk he _ heq => hex ⟨k, hk, by rw [he, heq]⟩), hlex.2.2.2 t (fun k e hk he heq => hex ⟨k, by omega, by rw [he, heq]⟩)]
      | _ => rfl
    have hs := h i l[i] him hol T (fun k hk hdep => hS k (by omega) (hd k hdep)) w1 hEw
    have next : ∀ (v : Value) w2, S i v → E w2 → E w2 ∧ ∃ T : Nat → Value, Rel l m a0 (L.setIfInBounds i true) T (a.put (l[i]).dst v) ∧ (∀ k, k < m → (L.setIfInBounds i true).getD k false = true → S k (T k)) := by
      intro v w2 hv h2
      refine ⟨h2, fun k => if k = i then v else T k, ?_, fun k hk hLk => ?_⟩
      · rw [hod]
        cases hdi : dst l i with
        | none => rw [put_none]; exact hR.skip7 hLi hdi _ (fun k hk => by simp [hk])
        | some d => exact hR.put7 him hLi hdi (hdst i d him hdi) hdis v _ (by simp) (fun k hk => by simp [hk])
      · by_cases hki' : k = i
        · subst hki'; simpa using hv
        · simp only [hki', if_false]
          rw [getD_set hLi] at hLk
          exact hS k hk (by simpa [hki'] using hLk)
    unfold wpOp
    simp only [ho, wanted_none hgu, if_true]
    refine Or.inl ?_
    unfold Oper.wp
    rw [hev]
    rcases hs with ⟨v, w2, hr, hv, hE2⟩ | ⟨w2, hr, hv, hE2⟩ | ⟨f, args, w2, hr, hc⟩
    · rw [hr]
      simp only [Oper.upon]
      exact next v w2 hv hE2
    · rw [hr]
      simp only [Oper.upon]
      exact next undef w2 hv hE2
    · rw [hr]
      simp only [Oper.upon]
      exact hc.mono fun e w3 ⟨v, he, hv, hE3⟩ => by subst he; exact next v w3 hv hE3
  · intro L a w1 hall ⟨hEw, T, hR, hS⟩
    have hlex := lexP_rel7 (m := m) (a0 := a0) T hdst hdis m (Nat.le_refl _)
    have ha : a = lexP l T m a0 := by
      refine act_ext (by rw [hR.defers, hlex.1]) (by rw [hR.size, hlex.2.1]) fun t => ?_
      by_cases hex : ∃ k, k < m ∧ dst l k = some t
      · obtain ⟨k, hk, hkt⟩ := hex
        rw [hR.here k t hk hkt (hall k hk), hlex.2.2.1 k t hk hkt]
      · rw [hR.else_ t (fun k e hk he _ heq => hex ⟨k, hk, by rw [he, heq]⟩), hlex.2.2.2 t (fun k e hk he heq => hex ⟨k, hk, by rw [he, heq]⟩)]
    have hfin := hend T (fun k hk => hS k hk (hall k hk)) w1 hEw
    rw [← ha] at hfin
    have hw := wpOps_eq_wpList (P := P) (ops := l.toArray) (Q := Q) (l.drop m) m (fun j => by simp)
    rw [List.length_drop] at hw
    rw [hsz, hw]
    exact hfin
end
section
variable {P : Program} {Q : Exit → Act → World → Prop}
def wpS7 (P : Program) (E : World → Prop) (QA : Act → Prop) : List (Value → Prop) → List Oper → Act → Prop
  | S :: Ss, o :: l, a => (∀ w, E w → sAt7 P o a w S E) ∧ ∀ v, S v → wpS7 P E QA Ss l (a.put o.dst v)
  | _, [], a => QA a
  | [], _ :: _, _ => False
theorem wpS7_step {E : World → Prop} {QA : Act → Prop} {S : Value → Prop} {Ss : List (Value → Prop)} {o : Oper} {l : List Oper} {a : Act} (h1 : ∀ w, E w → sAt7 P o a w S E) (h2 : ∀ v, S v → wpS7 P E QA Ss l (a.put o.dst v)) : wpS7 P E QA (S :: Ss) (o :: l) a := ⟨h1, h2⟩
/-- The value is known. -/
theorem wpS7_val {E : World → Prop} {QA : Act → Prop} {x : Value} {Ss : List (Value → Prop)} {o : Oper} {l : List Oper} {a : Act} (h1 : ∀ w, E w → (execOp a.eval o).run P w = .ok (.value x) w) (h2 : wpS7 P E QA Ss l (a.put o.dst x)) : wpS7 P E QA ((fun v => v = x) :: Ss) (o :: l) a :=
  ⟨fun w hw => sAt7_val (h1 w hw) rfl hw, fun v hv => by subst hv; exact h2⟩
/-- A store. -/
theorem wpS7_skip {E : World → Prop} {QA : Act → Prop} {Ss : List (Value → Prop)} {o : Oper} {l : List Oper} {a : Act} (hd : o.dst = none) (h1 : ∀ w, E w → ∃ w'', (execOp a.eval o).run P w = .ok .skip w'' ∧ E w'') (h2 : wpS7 P E QA Ss l a) : wpS7 P E QA (anyV :: Ss) (o :: l) a :=
  ⟨fun w hw => by obtain ⟨w'', h3, h4⟩ := h1 w hw; exact sAt7_skip h3 trivial h4, fun v hv => by rw [hd, put_none]; exact h2⟩
theorem wpS7_at {E : World → Prop} {QA : Act → Prop} : ∀ (Ss : List (Value → Prop)) (l : List Oper) (a : Act), wpS7 P E QA Ss l a → ∀ i o, l[i]? = some o → ∀ T : Nat → Value, (∀ k, k < i → (Ss.getD k anyV) (T k)) → ∀ w, E w → sAt7 P o (lexP l T i a) w (Ss.getD i anyV) E
  | [], [], a, h => fun i o ho => by simp at ho
  | S :: Ss, [], a, h => fun i o ho => by simp at ho
  | [], o :: l, a, h => h.elim
  | S :: Ss, o :: l, a, h => fun i o' ho T hT w hw => by
    obtain ⟨h1, h2⟩ := h
    cases i with
    | zero =>
      simp only [List.getElem?_cons_zero, Option.some.injEq] at ho
      subst ho
      exact h1 w hw
    | succ i =>
      rw [lexP_cons]
      exact wpS7_at Ss l _ (h2 (T 0) (hT 0 (by omega))) i o' (by simpa using ho) (fun k => T (k + 1)) (fun k hk => hT (k + 1) (by omega)) w hw
theorem wpS7_end {E : World → Prop} {QA : Act → Prop} : ∀ (Ss : List (Value → Prop)) (l : List Oper) (a : Act), wpS7 P E QA Ss l a → ∀ T : Nat → Value, (∀ k, k < l.length → (Ss.getD k anyV) (T k)) → QA (lexP l T l.length a)
  | [], [], a, h => fun T hT => h
  | S :: Ss, [], a, h => fun T hT => h
  | [], o :: l, a, h => h.elim
  | S :: Ss, o :: l, a, h => fun T hT => by
    rw [List.length_cons, lexP_cons]
    exact wpS7_end Ss l _ (h.2 (T 0) (hT 0 (by simp))) (fun k => T (k + 1)) (fun k hk => hT (k + 1) (by simp; omega))
theorem wp_region_steps7 {id : Nat} {l : List Oper} {a0 : Act} {w : World} (hm : P.follows .mixedOrders = true) (m : Nat) (hB : chk7 l m a0.tmps.size = true) (E : World → Prop) (Ss : List (Value → Prop)) (hin : ∀ S ∈ Ss, ∃ v, S v)
    (h0 : E w.drew) (h : wpS7 P E (fun a => ∀ w', E w' → wpList P l.toArray Q (l.drop m) a w') Ss (l.take m) a0) :
    (Code.region id l.toArray true).wp P Q a0 w := by
  have hB' := hB
  simp only [chk7, Bool.and_eq_true, decide_eq_true_eq] at hB
  obtain ⟨⟨⟨⟨⟨⟨⟨hml, hac⟩, htl⟩, hin'⟩, hns⟩, hg⟩, hdisB⟩, hops⟩ := hB
  simp only [List.all_eq_true, List.mem_range] at hg hdisB hops
  have hdst : ∀ k d, k < m → dst l k = some d → d < a0.tmps.size := by
    intro k d hk hd
    have := hg k hk
    simp only [Bool.and_eq_true, hd] at this
    simpa using this.2
  have hdis : ∀ k k' d, k < m → k' < m → dst l k = some d → dst l k' = some d → k = k' := by
    intro k k' d hk hk' h1 h2
    have := hdisB k hk k' hk'
    simp only [h1, h2, Bool.or_eq_true, beq_iff_eq, bne_iff_ne, Option.isNone_some, ne_eq, not_true_eq_false, or_false] at this
    simpa using this
  have hlexT : ∀ (v : Nat → Value) i, i ≤ m → ∀ a, lexP (l.take m) v i a = lexP l v i a := by
    intro v i
    induction i with
    | zero => intro _ a; rfl
    | succ i ih =>
      intro hi a
      rw [lexP, lexP, ih (by omega)]
      congr 1
      simp [dst, List.getElem?_take, show i < m by omega]
  have hinh : ∀ k, ∃ v, (Ss.getD k anyV) v := by
    intro k
    by_cases hk : k < Ss.length
    · refine hin _ ?_
      rw [List.getD_eq_getElem?_getD, List.getElem?_eq_getElem hk]
      exact List.getElem_mem hk
    · refine ⟨undef, ?_⟩
      rw [List.getD_eq_getElem?_getD, List.getElem?_eq_none (by omega)]
      trivial
  refine wp_region_seq7 hm m hB' E (fun k => Ss.getD k anyV) h0 ?_ ?_
  · intro i o him hol T hT w' hw'
    have hli : i < l.length := by omega
    have ho : l[i] = o := by
      rw [List.getElem?_eq_getElem hli] at hol
      simpa using hol
    let T' : Nat → Value := fun k => if k < i ∧ dep l.toArray i k = true then T k else (hinh k).choose
    have hT' : ∀ k, k < i → (Ss.getD k anyV) (T' k) := by
      intro k hk
      show (Ss.getD k anyV) (if k < i ∧ dep l.toArray i k = true then T k else (hinh k).choose)
      split
      · next hd => exact hT k hk hd.2
      · exact (hinh k).choose_spec
    have hs := wpS7_at Ss (l.take m) a0 h i o (by rw [List.getElem?_take, if_pos him]; exact hol) T' hT' w' hw'
    rw [hlexT T' i (by omega)] at hs
    have hl1 := lexP_rel7 (m := m) (a0 := a0) T hdst hdis i (by omega)
    have hl2 := lexP_rel7 (m := m) (a0 := a0) T' hdst hdis i (by omega)
    have hsel : ∀ cs b, o.op ≠ .select cs b := fun cs b => Region.noSelect_spec hns i o cs b (by simp [hol])
    have hev : execOp (lexP l T i a0).eval o = execOp (lexP l T' i a0).eval o := by
      refine execOp_congr _ hsel fun x hx => ?_
      cases x with
      | tmp t =>
        show (lexP l T i a0).tmps.getD t undef = (lexP l T' i a0).tmps.getD t undef
        by_cases hex : ∃ k, k < i ∧ dst l k = some t
        · obtain ⟨k, hk, hkt⟩ := hex
          have hdep : dep l.toArray i k = true := by
            have := hops i him k (by omega)
            simp only [hol, hkt, Bool.or_eq_true, Bool.not_eq_true', List.any_eq_false] at this
            refine this.resolve_left fun hall => ?_
            have := hall (.tmp t) (by simpa using hx)
            simp at this
          rw [hl1.2.2.1 k t hk hkt, hl2.2.2.1 k t hk hkt]
          show T k = if k < i ∧ dep l.toArray i k = true then T k else (hinh k).choose
          rw [if_pos ⟨hk, hdep⟩]
        · rw [hl1.2.2.2 t (fun k e hk he heq => hex ⟨k, hk, by rw [he, heq]⟩), hl2.2.2.2 t (fun k e hk he heq => hex ⟨k, hk, by rw [he, heq]⟩)]
      | _ => rfl
    unfold sAt7 at hs ⊢
    rw [hev]
    exact hs
  · intro T hT w' hw'
    have hlen : (l.take m).length = m := by simp; omega
    have := wpS7_end Ss (l.take m) a0 h T (by rw [hlen]; exact hT)
    rw [hlen, hlexT T m (Nat.le_refl _)] at this
    exact this w' hw'
end
end Go.Proofs.Ytbjcbbnfgfmllaa.Reg
