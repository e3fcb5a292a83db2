/- A region that draws its order, whose new variable is stored into while other operations may still come up: quiet and growing operations, one new variable, one store into it, in any order that the edges allow; then what comes up in the text's order. -/
import Derived.Test.YtommkkgkfjmhdaaReg
set_option linter.unusedVariables false
set_option linter.unusedSimpArgs false
namespace Go.Proofs.Ytommkkgkfjmhdaa.Reg
open Go Go.RowKit
def chk2 (l : List Oper) (m0 ks : Nat) (d0 sd : Tmp) (N : Nat) : Bool :=
  decide (m0 + 2 ≤ l.length) && decide (ks < m0) && acyc l.toArray && tailB l.toArray (m0 + 2) && onlyIn l.toArray && Region.noSelect l.toArray &&
  ((List.range (m0 + 1)).all fun k => ((l[k]?).map fun o => o.guard.isNone).getD false && (match dst l k with | some d => decide (d < N) | none => false)) &&
  ((List.range (m0 + 1)).all fun k => (List.range (m0 + 1)).all fun k' => k == k' || dst l k != dst l k') &&
  ((List.range m0).all fun i => (List.range (m0 + 1)).all fun k => match l[i]?, dst l k with | some o, some d => !(o.op.operands.toList.any fun x => match x with | .tmp t => t == d | _ => false) || dep l.toArray i k | _, _ => false) &&
  (dst l m0 == some d0) && (dst l ks == some sd) && dep l.toArray (m0 + 1) m0 && dep l.toArray (m0 + 1) ks && ((l[m0 + 1]?).map fun o => o.guard.isNone && o.dst.isNone).getD false

theorem Rel.past {l : List Oper} {m : Nat} {a0 a : Act} {L : Array Bool} {T : Nat → Value} {i : Nat} (h : Rel l m a0 L T a) (hi : m ≤ i) (hL : i < L.size) : Rel l m a0 (L.setIfInBounds i true) T a := by
  refine ⟨h.defers, h.size, fun k d hk hd hLk => ?_, fun t ht => ?_⟩
  · rw [getD_set hL] at hLk
    exact h.here k d hk hd (by simpa [show k ≠ i by omega] using hLk)
  · refine h.else_ t fun k d hk hd hLk => ht k d hk hd ?_
    rw [getD_set hL, hLk]
    simp

section
variable {P : Program} {Q : Exit → Act → World → Prop}
theorem wp_region_store {id : Nat} {l : List Oper} {a0 : Act} {w : World} (hm : P.follows .mixedOrders = true) (m0 ks : Nat) (d0 sd : Tmp) (zs : Array Value × TypeId) (V : Value) (u0 : Value) (us : List Value)
    (hB : chk2 l m0 ks d0 sd a0.tmps.size = true)
    (hz : ∀ o, l[m0]? = some o → ∀ (ρ : Operand → Value) (w : World), (execOp ρ o).run P w = .ok (.value (.pointer (some ⟨w.heap.size, 0, none⟩))) (w.alloc (.cells zs.1 zs.2)))
    (hs : ∀ o, l[m0 + 1]? = some o → ∀ (ρ : Operand → Value) (w : World) (g : Nat), ρ (.tmp d0) = .pointer (some ⟨g, 0, none⟩) → ρ (.tmp sd) = V → w.heap[g]? = some (.cells zs.1 zs.2 (0, 0)) →
      ∃ w2, (execOp ρ o).run P w = .ok .skip w2 ∧ (∀ j v, (u0 :: us)[j]? = some v → w2.cell? ⟨g, j, none⟩ = some v) ∧ ∀ B, B ≤ g → Below B w w2)
    (h : wpG P w (fun aE => aE.tmps.getD sd undef = V ∧ ∀ (w' : World) (g : Nat), Below w.heap.size w w' → w.heap.size ≤ g → (∀ j v, (u0 :: us)[j]? = some v → w'.cell? ⟨g, j, none⟩ = some v) →
      wpList P l.toArray Q (l.drop (m0 + 2)) (aE.put (dst l m0) (.pointer (some ⟨g, 0, none⟩))) w') (l.take m0) a0) :
    (Code.region id l.toArray true).wp P Q a0 w := by
  obtain ⟨v, hv, hV, hend⟩ := wpG_vals _ _ h
  simp only [chk2, Bool.and_eq_true, decide_eq_true_eq, beq_iff_eq] at hB
  obtain ⟨⟨⟨⟨⟨⟨⟨⟨⟨⟨⟨⟨⟨hml, hks⟩, hac⟩, htl⟩, hin⟩, hns⟩, hg⟩, hdisB⟩, hops⟩, hd0⟩, hsd⟩, hdepA⟩, hdepK⟩, hst⟩ := hB
  simp only [List.all_eq_true, List.mem_range] at hg hdisB hops
  have hdst : ∀ k, k < m0 + 1 → ∃ d, dst l k = some d ∧ d < a0.tmps.size := by
    intro k hk
    have := hg k hk
    simp only [Bool.and_eq_true] at this
    have h2 := this.2
    cases hd : dst l k with
    | none => rw [hd] at h2; cases h2
    | some d => rw [hd] at h2; exact ⟨d, rfl, by simpa using h2⟩
  have hdis : ∀ k k', k < m0 + 1 → k' < m0 + 1 → k ≠ k' → dst l k ≠ dst l k' := by
    intro k k' hk hk' hne
    have := hdisB k hk k' hk'
    simp only [Bool.or_eq_true, beq_iff_eq, bne_iff_ne] at this
    exact this.resolve_left hne
  have htake : ∀ i, i < m0 → (l.take m0)[i]? = l[i]? := fun i hi => List.getElem?_take_of_lt hi
  have hlexT : ∀ i, i ≤ m0 → ∀ a, lexP (l.take m0) v i a = lexP l v i a := by
    intro i
    induction i with
    | zero => intros; rfl
    | succ i ih =>
      intro hi a
      rw [lexP, lexP, ih (by omega)]
      simp only [dst, htake i (by omega)]
  have hlen : (l.take m0).length = m0 := by rw [List.length_take]; omega
  rw [hlen, hlexT m0 (Nat.le_refl _)] at hend hV
  have hlexM := lexP_rel (m := m0 + 1) (a0 := a0) v hdst hdis m0 (by omega)
  have hVk : v ks = V := by rw [← hV, hlexM.2.2.1 ks sd hks hsd]
  have hsz : l.toArray.size = l.length := by simp
  refine wp_region_ev hm (m0 + 2) (by simp only [Bool.and_eq_true, decide_eq_true_eq]; exact ⟨⟨⟨by simpa using hml, hac⟩, htl⟩, hin⟩)
    (fun L a w1 => Below w.heap.size w w1 ∧ (L.getD (m0 + 1) false = true → L.getD m0 false = true) ∧ ∃ T : Nat → Value, Rel l (m0 + 1) a0 L T a ∧ (∀ k, k < m0 → T k = v k) ∧
      (L.getD m0 false = true → ∃ g, T m0 = .pointer (some ⟨g, 0, none⟩) ∧ w.heap.size ≤ g ∧ g < w1.heap.size ∧
        (L.getD (m0 + 1) false = true → ∀ j u, (u0 :: us)[j]? = some u → w1.cell? ⟨g, j, none⟩ = some u) ∧ (L.getD (m0 + 1) false = false → w1.heap[g]? = some (.cells zs.1 zs.2 (0, 0))))) ?_ ?_ ?_
  · refine ⟨(Below.refl _ _).drew, fun hL => ?_, v, ⟨rfl, rfl, fun k d _ _ hL => ?_, fun t _ => rfl⟩, fun _ _ => rfl, fun hL => ?_⟩
    all_goals (simp [Array.getElem?_replicate] at hL; split at hL <;> simp at hL)
  · intro i him L a w1 hL hu hd ⟨hBw, hSM, T, hR, hT, hal⟩
    have hLi : i < L.size := by omega
    have hli : i < l.length := by omega
    have ho : l.toArray[i]? = some l[i] := by simp [hli]
    have hol : l[i]? = some l[i] := List.getElem?_eq_getElem hli
    have hgu : (l[i]).guard = none := by
      by_cases hi1 : i < m0 + 1
      · have := hg i hi1
        simp only [Bool.and_eq_true, hol, Option.map_some, Option.getD_some, Option.isNone_iff_eq_none] at this
        exact this.1
      · obtain rfl : i = m0 + 1 := by omega
        rw [hol] at hst
        simp only [Option.map_some, Option.getD_some, Bool.and_eq_true, Option.isNone_iff_eq_none] at hst
        exact hst.1
    unfold wpOp
    simp only [ho, wanted_none hgu, if_true]
    refine Or.inl ?_
    rcases Nat.lt_or_ge i m0 with hlt | hge
    · obtain ⟨d, hdi, hdN⟩ := hdst i (by omega)
      have hod : (l[i]).dst = some d := by simpa [dst, hol] using hdi
      have hlex := lexP_rel (m := m0 + 1) (a0 := a0) v hdst hdis i (by omega)
      have hsel : ∀ cs b, (l[i]).op ≠ .select cs b := fun cs b => Region.noSelect_spec hns i l[i] cs b ho
      have hev : execOp a.eval l[i] = execOp (lexP l v i a0).eval l[i] := by
        refine execOp_congr _ hsel fun x hx => ?_
        cases x with
        | tmp t =>
          show a.tmps.getD t undef = (lexP l v i a0).tmps.getD t undef
          by_cases hex : ∃ k, k < m0 + 1 ∧ dst l k = some t
          · obtain ⟨k, hk, hkt⟩ := hex
            have hdep : dep l.toArray i k = true := by
              have := hops i hlt k hk
              simp only [hol, hkt, Bool.or_eq_true, Bool.not_eq_true', List.any_eq_false] at this
              refine this.resolve_left fun hall => ?_
              have := hall (.tmp t) (by simpa using hx)
              simp at this
            have hLk := hd k hdep
            have hki : k < i := by
              have h1 := hac
              simp only [acyc, List.all_eq_true, List.mem_range] at h1
              have := h1 i (by simpa using hli) k (by simp; omega)
              simpa [hdep] using this
            rw [hR.here k t hk hkt hLk, hT k (by omega), hlex.2.2.1 k t hki hkt]
          · rw [hR.else_ t (fun k e hk he _ heq => hex ⟨k, hk, by rw [he, heq]⟩), hlex.2.2.2 t (fun k e hk he heq => hex ⟨k, by omega, by rw [he, heq]⟩)]
        | _ => rfl
      have hq := hv i l[i] (by rw [htake i hlt]; exact hol) w1 hBw
      rw [hlexT i (by omega)] at hq
      have next : ∀ w2, Below w1.heap.size w1 w2 → Below w.heap.size w w2 ∧ ((L.setIfInBounds i true).getD (m0 + 1) false = true → (L.setIfInBounds i true).getD m0 false = true) ∧ ∃ T : Nat → Value, Rel l (m0 + 1) a0 (L.setIfInBounds i true) T (a.put (l[i]).dst (v i)) ∧ (∀ k, k < m0 → T k = v k) ∧
          ((L.setIfInBounds i true).getD m0 false = true → ∃ g, T m0 = .pointer (some ⟨g, 0, none⟩) ∧ w.heap.size ≤ g ∧ g < w2.heap.size ∧
            ((L.setIfInBounds i true).getD (m0 + 1) false = true → ∀ j u, (u0 :: us)[j]? = some u → w2.cell? ⟨g, j, none⟩ = some u) ∧ ((L.setIfInBounds i true).getD (m0 + 1) false = false → w2.heap[g]? = some (.cells zs.1 zs.2 (0, 0)))) := by
        intro w2 h2
        have e0 : (L.setIfInBounds i true).getD m0 false = L.getD m0 false := by rw [getD_set hLi]; simp [show m0 ≠ i by omega]
        have e1 : (L.setIfInBounds i true).getD (m0 + 1) false = L.getD (m0 + 1) false := by rw [getD_set hLi]; simp [show m0 + 1 ≠ i by omega]
        rw [e0, e1]
        refine ⟨hBw.trans (h2.mono hBw.size), hSM, T, ?_, hT, fun hL0 => ?_⟩
        · rw [hod]
          exact hR.put (by omega) hLi hdi hdN hdis (v i) T (hT i hlt) (fun _ _ => rfl)
        · obtain ⟨g, hg1, hg2, hg3, hg4, hg5⟩ := hal hL0
          have hs2 := h2.size
          exact ⟨g, hg1, hg2, by omega, fun hL1 j u hj => (h2.cell (p := ⟨g, j, none⟩) hg3).trans (hg4 hL1 j u hj), fun hL1 => (h2.block g hg3).trans (hg5 hL1)⟩
      unfold gAt at hq
      unfold Oper.wp
      rw [hev]
      generalize (execOp (lexP l v i a0).eval l[i]).run P w1 = r at *
      cases r with
      | ok n w2 =>
        cases n <;> simp only [Oper.quietUpon] at hq <;> simp only [Oper.upon]
        case value u =>
          obtain ⟨e1, e2⟩ := hq
          rw [e1, e2]
          exact next _ (Below.refl _ _)
        case skip =>
          obtain ⟨e1, e2⟩ := hq
          rw [e1, ← e2]
          exact next _ (Below.refl _ _)
        case enter f args =>
          obtain ⟨e1, hc⟩ := hq
          rw [e1]
          exact hc.mono fun e w'' ⟨he, hw''⟩ => by subst he; exact next _ hw''
      | halt x w2 => simp only [Oper.quietUpon] at hq
    · rcases Nat.lt_or_ge m0 i with hgt | hle
      · -- the store
        obtain rfl : i = m0 + 1 := by omega
        have hLA := hd m0 hdepA
        have hLK := hd ks hdepK
        obtain ⟨g, hg1, hg2, hg3, hg4, hg5⟩ := hal hLA
        have r0 : a.eval (.tmp d0) = .pointer (some ⟨g, 0, none⟩) := by
          show a.tmps.getD d0 undef = _
          rw [hR.here m0 d0 (by omega) hd0 hLA, hg1]
        have r1 : a.eval (.tmp sd) = V := by
          show a.tmps.getD sd undef = _
          rw [hR.here ks sd (by omega) hsd hLK, hT ks hks, hVk]
        obtain ⟨w2, hrun, hc, hbl⟩ := hs l[m0 + 1] hol a.eval w1 g r0 r1 (hg5 hu)
        have hnd : (l[m0 + 1]).dst = none := by
          rw [hol] at hst
          simp only [Option.map_some, Option.getD_some, Bool.and_eq_true, Option.isNone_iff_eq_none] at hst
          exact hst.2
        unfold Oper.wp
        rw [hrun]
        simp only [Oper.upon]
        rw [hnd]
        have e0 : (L.setIfInBounds (m0 + 1) true).getD m0 false = true := by rw [getD_set hLi, hLA]; simp
        have e1 : (L.setIfInBounds (m0 + 1) true).getD (m0 + 1) false = true := by rw [getD_set hLi]; simp
        rw [e0, e1]
        refine ⟨hBw.trans (hbl _ hg2), fun _ => rfl, T, hR.past (by omega) hLi, hT, fun _ => ⟨g, hg1, hg2, ?_, fun _ => hc, fun h => by cases h⟩⟩
        exact World.block_lt_of_cell? w2 _ (hc 0 u0 rfl)
      · -- the new variable
        obtain rfl : i = m0 := by omega
        obtain ⟨d, hdi, hdN⟩ := hdst i (by omega)
        have hod : (l[i]).dst = some d := by simpa [dst, hol] using hdi
        unfold Oper.wp
        rw [hz l[i] hol a.eval w1]
        simp only [Oper.upon]
        have hS0 : L.getD (i + 1) false = false := by
          cases hx : L.getD (i + 1) false with
          | false => rfl
          | true => rw [hSM hx] at hu; cases hu
        have e0 : (L.setIfInBounds i true).getD i false = true := by rw [getD_set hLi]; simp
        have e1 : (L.setIfInBounds i true).getD (i + 1) false = false := by rw [getD_set hLi, hS0]; simp
        rw [e0, e1]
        refine ⟨hBw.alloc hBw.size _, (fun h => by cases h), fun k => if k = i then .pointer (some ⟨w1.heap.size, 0, none⟩) else T k, ?_, fun k hk => ?_, fun _ => ⟨w1.heap.size, by simp, hBw.size, by simp, (fun h => by cases h), fun _ => heap_alloc_new w1 _⟩⟩
        · rw [hod]
          exact hR.put (by omega) hLi hdi hdN hdis _ _ (by simp) (fun k hk => by simp [hk])
        · show (if k = i then _ else T k) = v k
          rw [if_neg (by omega)]
          exact hT k hk
  · intro L a w1 hall ⟨hBw, hSM, T, hR, hT, hal⟩
    obtain ⟨g, hg1, hg2, hg3, hg4, hg5⟩ := hal (hall m0 (by omega))
    have hpp := putPtrs_rel (l := l) (m := m0 + 1) (fun _ => g) hdst hdis 1 m0 (lexP l v m0 a0) (by omega) hlexM.2.1
    have ha : a = putPtrs l (fun _ => g) (List.range' m0 1) (lexP l v m0 a0) := by
      refine act_ext (by rw [hR.defers, hpp.1, hlexM.1]) (by rw [hR.size, hpp.2.1]) fun t => ?_
      by_cases hex : ∃ k, k < m0 + 1 ∧ dst l k = some t
      · obtain ⟨k, hk, hkt⟩ := hex
        rw [hR.here k t hk hkt (hall k (by omega))]
        rcases Nat.lt_or_ge k m0 with hlt | hge
        · rw [hT k hlt, hpp.2.2.2 t (fun k' e h1 h2 he heq => hdis k' k (by omega) hk (by omega) (by rw [he, hkt, heq])), hlexM.2.2.1 k t hlt hkt]
        · obtain rfl : k = m0 := by omega
          rw [hpp.2.2.1 k t (Nat.le_refl _) (by omega) hkt, hg1]
      · rw [hR.else_ t (fun k e hk he _ heq => hex ⟨k, hk, by rw [he, heq]⟩), hpp.2.2.2 t (fun k e h1 h2 he heq => hex ⟨k, by omega, by rw [he, heq]⟩), hlexM.2.2.2 t (fun k e hk he heq => hex ⟨k, by omega, by rw [he, heq]⟩)]
    have hfin := hend w1 g hBw hg2 (hg4 (hall (m0 + 1) (by omega)))
    have ha2 : a = (lexP l v m0 a0).put (dst l m0) (.pointer (some ⟨g, 0, none⟩)) := ha
    rw [← ha2] at hfin
    have hw := wpOps_eq_wpList (P := P) (ops := l.toArray) (Q := Q) (l.drop (m0 + 2)) (m0 + 2) (fun j => by simp)
    rw [List.length_drop] at hw
    rw [hsz, hw]
    exact hfin
theorem wp_region_store' {id : Nat} {l : List Oper} {a0 : Act} {w : World} (hm : P.follows .mixedOrders = true) (m0 ks : Nat) (zs : Array Value × TypeId) (V : Value) (u0 : Value) (us : List Value)
    (hB : chk2 l m0 ks ((dst l m0).getD 0) ((dst l ks).getD 0) a0.tmps.size = true)
    (hz : ∀ o, l[m0]? = some o → ∀ (ρ : Operand → Value) (w : World), (execOp ρ o).run P w = .ok (.value (.pointer (some ⟨w.heap.size, 0, none⟩))) (w.alloc (.cells zs.1 zs.2)))
    (hs : ∀ o, l[m0 + 1]? = some o → ∀ (ρ : Operand → Value) (w : World) (g : Nat), ρ (.tmp ((dst l m0).getD 0)) = .pointer (some ⟨g, 0, none⟩) → ρ (.tmp ((dst l ks).getD 0)) = V → w.heap[g]? = some (.cells zs.1 zs.2 (0, 0)) →
      ∃ w2, (execOp ρ o).run P w = .ok .skip w2 ∧ (∀ j v, (u0 :: us)[j]? = some v → w2.cell? ⟨g, j, none⟩ = some v) ∧ ∀ B, B ≤ g → Below B w w2)
    (h : wpG P w (fun aE => aE.tmps.getD ((dst l ks).getD 0) undef = V ∧ ∀ (w' : World) (g : Nat), Below w.heap.size w w' → w.heap.size ≤ g → (∀ j v, (u0 :: us)[j]? = some v → w'.cell? ⟨g, j, none⟩ = some v) →
      wpList P l.toArray Q (l.drop (m0 + 2)) (aE.put (dst l m0) (.pointer (some ⟨g, 0, none⟩))) w') (l.take m0) a0) :
    (Code.region id l.toArray true).wp P Q a0 w := wp_region_store hm m0 ks _ _ zs V u0 us hB hz hs h
end
end Go.Proofs.Ytommkkgkfjmhdaa.Reg
