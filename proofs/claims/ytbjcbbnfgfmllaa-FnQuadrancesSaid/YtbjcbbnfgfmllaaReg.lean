/- A region that draws its order: an invariant over the operations that have come up; the operations behind number m come up in the text's order. -/
import Derived.Orders
import Derived.WalkKit
import Derived.Deep.Quiet
set_option linter.unusedVariables false
set_option linter.unusedSimpArgs false
namespace Go.Proofs.Ytbjcbbnfgfmllaa.Reg
open Go Go.RowKit
def dep (ops : Array Oper) (j k : Nat) : Bool := ((ops[j]?).map fun o => o.after.any fun e => Region.binds .any e && e.on == k).getD false
def reach (ops : Array Oper) : Nat → Nat → Nat → Bool
  | 0, _, _ => false
  | f + 1, j, k => dep ops j k || (List.range ops.size).any fun d => dep ops j d && reach ops f d k
def acyc (ops : Array Oper) : Bool := (List.range ops.size).all fun j => (List.range ops.size).all fun k => !dep ops j k || decide (k < j)
def onlyIn (ops : Array Oper) : Bool := ops.all fun o => o.after.all fun e => !Region.binds .any e || decide (e.on < ops.size)
def tailB (ops : Array Oper) (m : Nat) : Bool := (List.range ops.size).all fun j => decide (j < m) || (List.range j).all fun k => reach ops 6 j k
def closed (ops : Array Oper) (L : Array Bool) : Prop := ∀ j k, dep ops j k = true → L.getD j false = true → L.getD k false = true

theorem dep_of {ops : Array Oper} {j : Nat} {o : Oper} {e : Edge} (hj : ops[j]? = some o) (he : e ∈ o.after) (hb : Region.binds .any e = true) : dep ops j e.on = true := by
  unfold dep
  rw [hj]
  simp only [Option.map_some, Option.getD_some, Array.any_eq_true']
  exact ⟨e, he, by simp [hb]⟩
theorem of_dep {ops : Array Oper} {j k : Nat} (h : dep ops j k = true) : ∃ o e, ops[j]? = some o ∧ e ∈ o.after ∧ Region.binds .any e = true ∧ e.on = k := by
  unfold dep at h
  cases ho : ops[j]? with
  | none => simp [ho] at h
  | some o =>
    simp only [ho, Option.map_some, Option.getD_some, Array.any_eq_true', Bool.and_eq_true, beq_iff_eq] at h
    obtain ⟨e, he, hb, hk⟩ := h
    exact ⟨o, e, rfl, he, hb, hk⟩
theorem reach_listed {ops : Array Oper} {L : Array Bool} (hc : closed ops L) : ∀ (f j k : Nat), (∀ d, dep ops j d = true → L.getD d false = true) → reach ops f j k = true → L.getD k false = true
  | 0, _, _, _, h => by simp [reach] at h
  | f + 1, j, k, hd, h => by
    simp only [reach, Bool.or_eq_true, List.any_eq_true, Bool.and_eq_true] at h
    rcases h with h | ⟨d, _, h1, h2⟩
    · exact hd k h
    · exact reach_listed hc f d k (fun e he => hc d e he (hd d h1)) h2
theorem getD_true {L : Array Bool} {k : Nat} (hk : k < L.size) : L.getD k true = L.getD k false := by
  simp [Array.getD, hk]
theorem getD_set {L : Array Bool} {i k : Nat} (hi : i < L.size) : (L.setIfInBounds i true).getD k false = (decide (k = i) || L.getD k false) := by
  by_cases h : k = i
  · subst h
    simp [hi]
  · have : i ≠ k := fun e => h e.symm
    simp [h, Array.getElem?_setIfInBounds_ne this]

section
variable {P : Program} {ops : Array Oper} {Q : Exit → Act → World → Prop}
theorem ready_spec {L : Array Bool} {i : Nat} (hL : L.size = ops.size) (h : i ∈ Region.ready .any ops L) : i < ops.size ∧ L.getD i false = false ∧ ∀ d, dep ops i d = true → L.getD d false = true := by
  obtain ⟨h1, o, ho, h2⟩ := mem_ready.1 h
  have hi : i < ops.size := by
    rcases Nat.lt_or_ge i ops.size with hlt | hge
    · exact hlt
    · rw [Array.getElem?_eq_none hge] at ho; cases ho
  refine ⟨hi, by rw [← getD_true (by omega)]; exact h1, fun d hd => ?_⟩
  obtain ⟨o', e, ho', he, hb, rfl⟩ := of_dep hd
  rw [ho] at ho'
  injection ho' with ho'
  subst ho'
  exact h2 e he hb
theorem ready_mk {L : Array Bool} {i : Nat} (hL : L.size = ops.size) (hi : i < ops.size) (hu : L.getD i false = false) (hd : ∀ d, dep ops i d = true → L.getD d false = true) : i ∈ Region.ready .any ops L := by
  refine mem_ready.2 ⟨by rw [getD_true (by omega)]; exact hu, ops[i], Array.getElem?_eq_getElem hi, fun e he hb => ?_⟩
  exact hd e.on (dep_of (Array.getElem?_eq_getElem hi) he hb)

theorem tail_any {m : Nat} (hac : acyc ops = true) (ht : tailB ops m = true) (hin : onlyIn ops = true) : ∀ (t j : Nat), m ≤ j → j + t = ops.size → ∀ (L : Array Bool) (a : Act) (w : World), L.size = ops.size → closed ops L →
    (∀ k, k < j → L.getD k false = true) → (∀ k, j ≤ k → L.getD k false = false) → wpOps P ops Q (List.range' j t) a w → ∀ fuel, t ≤ fuel → wpAny P .any ops Q fuel L a w
  | 0, j, hm, hj, L, a, w, hL, hcl, hlo, hhi, h, fuel, hf => by
    have hr : Region.ready .any ops L = [] := by
      rw [List.eq_nil_iff_forall_not_mem]
      intro i hi
      obtain ⟨h1, h2, _⟩ := ready_spec hL hi
      rw [hlo i (by omega)] at h2
      cases h2
    have h' : Q .normal a w := by simpa [wpOps] using h
    cases fuel with
    | zero => exact ⟨hr, h'⟩
    | succ f => exact ⟨fun _ => h', fun i hi => by rw [hr] at hi; cases hi⟩
  | t + 1, j, hm, hj, L, a, w, hL, hcl, hlo, hhi, h, fuel, hf => by
    obtain ⟨f, rfl⟩ : ∃ f, fuel = f + 1 := ⟨fuel - 1, by omega⟩
    have hdj : ∀ d, dep ops j d = true → L.getD d false = true := by
      intro d hd
      refine hlo d ?_
      simp only [acyc, List.all_eq_true, List.mem_range] at hac
      obtain ⟨o, e, ho, he, hb, rfl⟩ := of_dep hd
      simp only [onlyIn, Array.all_eq_true'] at hin
      have hjs : j < ops.size := by omega
      have hon := hin o (by rw [Array.getElem?_eq_getElem hjs] at ho; injection ho with ho; rw [← ho]; exact Array.getElem_mem hjs) e he
      simp [hb] at hon
      have := hac j hjs e.on hon
      simpa [hd] using this
    refine ⟨fun hr => ?_, fun i hi => ?_⟩
    · have := ready_mk hL (by omega) (hhi j (Nat.le_refl _)) hdj
      rw [hr] at this
      cases this
    · obtain ⟨h1, h2, h3⟩ := ready_spec hL hi
      have hij : i = j := by
        rcases Nat.lt_trichotomy i j with hlt | he | hgt
        · rw [hlo i hlt] at h2; cases h2
        · exact he
        · simp only [tailB, List.all_eq_true, List.mem_range, Bool.or_eq_true, decide_eq_true_eq] at ht
          have hr := (ht i h1).resolve_left (by omega) j hgt
          have := reach_listed hcl 6 i j h3 hr
          rw [hhi j (Nat.le_refl _)] at this
          cases this
      subst hij
      have hw : wpOp P ops Q i (wpOps P ops Q (List.range' (i + 1) t)) a w := by
        rw [List.range'_succ, wpOps_cons] at h
        exact h
      have hsz : i < L.size := by omega
      refine wpOp_mono (fun a' w' h' => tail_any hac ht hin t (i + 1) (by omega) (by omega) _ a' w' (by simpa using hL) ?_ ?_ ?_ h' f (by omega)) hw
      · intro x y hxy hx
        rw [getD_set hsz] at hx ⊢
        simp only [Bool.or_eq_true, decide_eq_true_eq] at hx ⊢
        rcases hx with rfl | hx
        · exact Or.inr (h3 y hxy)
        · exact Or.inr (hcl x y hxy hx)
      · intro k hk
        rw [getD_set hsz]
        by_cases hki : k = i
        · simp [hki]
        · rw [hlo k (by omega)]; simp
      · intro k hk
        rw [getD_set hsz, hhi k (by omega)]
        simp; omega

theorem filt_le {f g : Nat → Bool} (hle : ∀ k, g k = true → f k = true) : ∀ l : List Nat, (l.filter g).length ≤ (l.filter f).length
  | [] => by simp
  | x :: l => by
    have ih := filt_le hle l
    rw [List.filter_cons, List.filter_cons]
    cases hg : g x with
    | true => rw [hle x hg]; simpa using ih
    | false =>
      cases hf : f x with
      | true => simp; omega
      | false => simpa using ih
theorem filt_lt {f g : Nat → Bool} (hle : ∀ k, g k = true → f k = true) {i : Nat} (hf : f i = true) (hg : g i = false) : ∀ l : List Nat, i ∈ l → (l.filter g).length < (l.filter f).length
  | [], h => by cases h
  | x :: l, h => by
    rw [List.filter_cons, List.filter_cons]
    rcases List.mem_cons.1 h with rfl | h
    · have := filt_le hle l
      rw [hf, hg]
      simp
      omega
    · have ih := filt_lt hle hf hg l h
      cases hgx : g x with
      | true => rw [hle x hgx]; simpa using ih
      | false =>
        cases hfx : f x with
        | true => simp; omega
        | false => simpa using ih
/-- How many of the first m have not come up yet. -/
def open_ (L : Array Bool) (m : Nat) : Nat := ((List.range m).filter fun k => !L.getD k false).length
theorem open_set {L : Array Bool} {i m : Nat} (hi : i < m) (hs : i < L.size) (hu : L.getD i false = false) : open_ (L.setIfInBounds i true) m < open_ L m := by
  unfold open_
  refine filt_lt (i := i) (fun k hk => ?_) ?_ ?_ _ (by simpa using hi)
  · rw [getD_set hs] at hk
    cases h : L.getD k false with
    | false => rfl
    | true => rw [h] at hk; simp at hk
  · rw [hu]; rfl
  · rw [getD_set hs]; simp

theorem main_any {m : Nat} (hmn : m ≤ ops.size) (hac : acyc ops = true) (ht : tailB ops m = true) (hin : onlyIn ops = true) {J : Array Bool → Act → World → Prop}
    (hstep : ∀ i, i < m → ∀ (L : Array Bool) (a : Act) (w : World), L.size = ops.size → L.getD i false = false → (∀ d, dep ops i d = true → L.getD d false = true) → J L a w → wpOp P ops Q i (fun a' w' => J (L.setIfInBounds i true) a' w') a w)
    (hend : ∀ (L : Array Bool) (a : Act) (w : World), (∀ i, i < m → L.getD i false = true) → J L a w → wpOps P ops Q (List.range' m (ops.size - m)) a w) :
    ∀ (fuel : Nat) (L : Array Bool) (a : Act) (w : World), L.size = ops.size → closed ops L → (∀ k, m ≤ k → L.getD k false = false) → open_ L m + (ops.size - m) ≤ fuel → J L a w → wpAny P .any ops Q fuel L a w := by
  intro fuel
  induction fuel with
  | zero =>
    intro L a w hL hcl hhi hf hJ
    have hall : ∀ i, i < m → L.getD i false = true := by
      intro i hi
      cases h : L.getD i false with
      | true => rfl
      | false =>
        have hmem : i ∈ (List.range m).filter fun k => !L.getD k false := by simp [hi] at h ⊢; exact h
        have : 0 < open_ L m := List.length_pos_of_mem hmem
        omega
    exact tail_any hac ht hin _ m (Nat.le_refl _) (by omega) L a w hL hcl hall hhi (hend L a w hall hJ) 0 (by omega)
  | succ f ih =>
    intro L a w hL hcl hhi hf hJ
    by_cases hall : ∀ i, i < m → L.getD i false = true
    · exact tail_any hac ht hin _ m (Nat.le_refl _) (by omega) L a w hL hcl hall hhi (hend L a w hall hJ) (f + 1) (by omega)
    · have hex : ∃ i, i < m ∧ L.getD i false = false := by
        apply Classical.byContradiction
        intro hno
        refine hall fun i hi => ?_
        cases h : L.getD i false with
        | true => rfl
        | false => exact absurd ⟨i, hi, h⟩ hno
      refine ⟨fun hr => ?_, fun i hi => ?_⟩
      · -- the least that has not come up may come up
        have hleast : ∀ n, (∃ i, i < n ∧ i < m ∧ L.getD i false = false) → ∃ i, i < m ∧ L.getD i false = false ∧ ∀ k, k < i → L.getD k false = true := by
          intro n
          induction n with
          | zero => rintro ⟨i, h, _⟩; omega
          | succ n ihn =>
            rintro ⟨i, h1, h2, h3⟩
            by_cases hb : ∃ i, i < n ∧ i < m ∧ L.getD i false = false
            · exact ihn hb
            · refine ⟨i, h2, h3, fun k hk => ?_⟩
              cases h : L.getD k false with
              | true => rfl
              | false => exact absurd ⟨k, by omega, by omega, h⟩ hb
        obtain ⟨i0, hi0, hu0⟩ := hex
        obtain ⟨i, him, hu, hlow⟩ := hleast m ⟨i0, hi0, hi0, hu0⟩
        have hdi : ∀ d, dep ops i d = true → L.getD d false = true := by
          intro d hd
          refine hlow d ?_
          have hac' := hac
          simp only [acyc, List.all_eq_true, List.mem_range] at hac'
          obtain ⟨o, e, ho, he, hb, rfl⟩ := of_dep hd
          have hin' := hin
          simp only [onlyIn, Array.all_eq_true'] at hin'
          have his : i < ops.size := by omega
          have hon := hin' o (by rw [Array.getElem?_eq_getElem his] at ho; injection ho with ho; rw [← ho]; exact Array.getElem_mem his) e he
          simp [hb] at hon
          have := hac' i his e.on hon
          simpa [hd] using this
        have := ready_mk hL (by omega) hu hdi
        rw [hr] at this
        cases this
      · obtain ⟨h1, h2, h3⟩ := ready_spec hL hi
        have him : i < m := by
          rcases Nat.lt_or_ge i m with h | h
          · exact h
          · obtain ⟨k, hk, hku⟩ := hex
            simp only [tailB, List.all_eq_true, List.mem_range, Bool.or_eq_true, decide_eq_true_eq] at ht
            have hr := (ht i h1).resolve_left (by omega) k (by omega)
            have := reach_listed hcl 6 i k h3 hr
            rw [hku] at this
            cases this
        have hsz : i < L.size := by omega
        refine wpOp_mono (fun a' w' h' => ih _ a' w' (by simpa using hL) ?_ ?_ (by have := open_set him hsz h2; omega) h') (hstep i him L a w hL h2 h3 hJ)
        · intro x y hxy hx
          rw [getD_set hsz] at hx ⊢
          simp only [Bool.or_eq_true, decide_eq_true_eq] at hx ⊢
          rcases hx with rfl | hx
          · exact Or.inr (h3 y hxy)
          · exact Or.inr (hcl x y hxy hx)
        · intro k hk
          rw [getD_set hsz, hhi k hk]
          simp; omega

/-- A region that draws its order, by an invariant J over what has come up: the first m in whatever order, what stands behind them in the text's order. -/
theorem wp_region_ev {id : Nat} {a : Act} {w : World} (hm : P.follows .mixedOrders = true) (m : Nat) (hB : (decide (m ≤ ops.size) && acyc ops && tailB ops m && onlyIn ops) = true) (J : Array Bool → Act → World → Prop)
    (h0 : J (Array.replicate ops.size false) a w.drew)
    (hstep : ∀ i, i < m → ∀ (L : Array Bool) (a : Act) (w : World), L.size = ops.size → L.getD i false = false → (∀ d, dep ops i d = true → L.getD d false = true) → J L a w → wpOp P ops Q i (fun a' w' => J (L.setIfInBounds i true) a' w') a w)
    (hend : ∀ (L : Array Bool) (a : Act) (w : World), (∀ i, i < m → L.getD i false = true) → J L a w → wpOps P ops Q (List.range' m (ops.size - m)) a w) :
    (Code.region id ops true).wp P Q a w := by
  simp only [Bool.and_eq_true, decide_eq_true_eq] at hB
  obtain ⟨⟨⟨h1, h2⟩, h3⟩, h4⟩ := hB
  refine wp_region_any hm (main_any h1 h2 h3 h4 hstep hend _ _ a _ (by simp) ?_ ?_ ?_ h0)
  · intro j k _ h
    simp [Array.getElem?_replicate] at h
    split at h <;> simp at h
  · intro k _
    simp [Array.getElem?_replicate]
    split <;> simp
  · unfold open_
    have := List.length_filter_le (fun k => !(Array.replicate ops.size false).getD k false) (List.range m)
    rw [List.length_range] at this
    omega

/-! ### The first m0 operations yield one value in every world above the first and let the world grow; then new variables; then what comes up in the text's order -/
/-- Operation o, carried out in w, yields v and lets the world grow. -/
def gAt (P : Program) (o : Oper) (a : Act) (w : World) (v : Value) : Prop := Oper.quietUpon P (fun w'' => Below w.heap.size w w'') w v ((execOp a.eval o).run P w)
def wpG (P : Program) (w0 : World) (QA : Act → Prop) : List Oper → Act → Prop
  | [], a => QA a
  | o :: rest, a => ∃ v, (∀ w, Below w0.heap.size w0 w → gAt P o a w v) ∧ wpG P w0 QA rest (a.put o.dst v)
theorem wpG_step {w0 : World} {QA : Act → Prop} {o : Oper} {rest : List Oper} {a : Act} {v : Value} (h : ∀ w, Below w0.heap.size w0 w → gAt P o a w v) (k : wpG P w0 QA rest (a.put o.dst v)) : wpG P w0 QA (o :: rest) a := ⟨v, h, k⟩
def dst (l : List Oper) (k : Nat) : Option Tmp := (l[k]?).bind (·.dst)
def lexP (l : List Oper) (v : Nat → Value) : Nat → Act → Act
  | 0, a => a
  | i + 1, a => (lexP l v i a).put (dst l i) (v i)
theorem lexP_cons (o : Oper) (l : List Oper) (v : Nat → Value) (a : Act) : ∀ i, lexP (o :: l) v (i + 1) a = lexP l (fun k => v (k + 1)) i (a.put o.dst (v 0))
  | 0 => rfl
  | i + 1 => by
    rw [lexP, lexP_cons o l v a i]
    rfl
theorem wpG_vals {w0 : World} {QA : Act → Prop} : ∀ (l : List Oper) (a : Act), wpG P w0 QA l a →
    ∃ v : Nat → Value, (∀ i o, l[i]? = some o → ∀ w, Below w0.heap.size w0 w → gAt P o (lexP l v i a) w (v i)) ∧ QA (lexP l v l.length a)
  | [], a, h => ⟨fun _ => undef, fun i o ho => by simp at ho, h⟩
  | o :: l, a, h => by
    obtain ⟨v0, h1, h2⟩ := h
    obtain ⟨v, h3, h4⟩ := wpG_vals l _ h2
    refine ⟨fun k => match k with | 0 => v0 | k + 1 => v k, fun i o' ho => ?_, ?_⟩
    · cases i with
      | zero =>
        simp only [List.getElem?_cons_zero, Option.some.injEq] at ho
        subst ho
        exact h1
      | succ i =>
        rw [lexP_cons]
        exact h3 i o' (by simpa using ho)
    · rw [List.length_cons, lexP_cons]
      exact h4

def chk (l : List Oper) (m0 m N : Nat) : Bool :=
  decide (m0 ≤ m) && decide (m ≤ l.length) && acyc l.toArray && tailB l.toArray m && onlyIn l.toArray && Region.noSelect l.toArray &&
  ((List.range m).all fun k => ((l[k]?).map fun o => o.guard.isNone).getD false && (match dst l k with | some d => decide (d < N) | none => false)) &&
  ((List.range m).all fun k => (List.range m).all fun k' => k == k' || dst l k != dst l k') &&
  ((List.range m0).all fun i => (List.range m).all fun k => match l[i]?, dst l k with | some o, some d => !(o.op.operands.toList.any fun x => match x with | .tmp t => t == d | _ => false) || dep l.toArray i k | _, _ => false)

theorem getD_put {a : Act} {d : Tmp} {v : Value} (t : Tmp) (hd : d < a.tmps.size) : (a.put (some d) v).tmps.getD t undef = if t = d then v else a.tmps.getD t undef := by
  by_cases h : t = d
  · subst h
    simp [Act.put, hd]
  · have : d ≠ t := fun e => h e.symm
    simp [Act.put, h, Array.getElem?_setIfInBounds_ne this]
theorem size_put (a : Act) (x : Option Tmp) (v : Value) : (a.put x v).tmps.size = a.tmps.size := by
  cases x <;> simp [Act.put]
theorem defers_put (a : Act) (x : Option Tmp) (v : Value) : (a.put x v).defers = a.defers := by
  cases x <;> rfl

theorem wanted_none {o : Oper} (h : o.guard = none) (f : Nat → Option Bool) : Region.wanted o f = true := by
  simp [Region.wanted, h]

/-- What the state holds: the slots of what has come up, all other slots as at the start. -/
structure Rel (l : List Oper) (m : Nat) (a0 : Act) (L : Array Bool) (T : Nat → Value) (a : Act) : Prop where
  defers : a.defers = a0.defers
  size : a.tmps.size = a0.tmps.size
  here : ∀ k d, k < m → dst l k = some d → L.getD k false = true → a.tmps.getD d undef = T k
  else_ : ∀ t, (∀ k d, k < m → dst l k = some d → L.getD k false = true → d ≠ t) → a.tmps.getD t undef = a0.tmps.getD t undef

theorem Rel.put {l : List Oper} {m : Nat} {a0 a : Act} {L : Array Bool} {T : Nat → Value} {i : Nat} {d : Tmp} (h : Rel l m a0 L T a) (hi : i < m) (hL : i < L.size) (hd : dst l i = some d) (hN : d < a0.tmps.size)
    (hdis : ∀ k k', k < m → k' < m → k ≠ k' → dst l k ≠ dst l k') (v : Value) (T' : Nat → Value) (hT : T' i = v) (hT' : ∀ k, k ≠ i → T' k = T k) : Rel l m a0 (L.setIfInBounds i true) T' (a.put (some d) v) := by
  refine ⟨by rw [defers_put]; exact h.defers, by rw [size_put]; exact h.size, fun k e hk he hLk => ?_, fun t ht => ?_⟩
  · rw [getD_put _ (by rw [h.size]; exact hN)]
    by_cases hki : k = i
    · subst hki
      rw [hd] at he
      injection he with he
      subst he
      simp [hT]
    · have hne : e ≠ d := by
        rintro rfl
        exact hdis k i hk hi hki (he.trans hd.symm)
      rw [if_neg hne, hT' k hki]
      rw [getD_set hL] at hLk
      exact h.here k e hk he (by simpa [hki] using hLk)
  · rw [getD_put _ (by rw [h.size]; exact hN)]
    have h1 : d ≠ t := ht i d hi hd (by rw [getD_set hL]; simp)
    rw [if_neg (fun e => h1 e.symm)]
    refine h.else_ t fun k e hk he hLk => ht k e hk he ?_
    rw [getD_set hL, hLk]
    simp

theorem lexP_rel {l : List Oper} {m : Nat} {a0 : Act} (v : Nat → Value) (hdst : ∀ k, k < m → ∃ d, dst l k = some d ∧ d < a0.tmps.size) (hdis : ∀ k k', k < m → k' < m → k ≠ k' → dst l k ≠ dst l k') :
    ∀ i, i ≤ m → (lexP l v i a0).defers = a0.defers ∧ (lexP l v i a0).tmps.size = a0.tmps.size ∧ (∀ k d, k < i → dst l k = some d → (lexP l v i a0).tmps.getD d undef = v k) ∧
      ∀ t, (∀ k d, k < i → dst l k = some d → d ≠ t) → (lexP l v i a0).tmps.getD t undef = a0.tmps.getD t undef
  | 0, _ => ⟨rfl, rfl, fun k d hk => by omega, fun t _ => rfl⟩
  | i + 1, hi => by
    obtain ⟨h1, h2, h3, h4⟩ := lexP_rel v hdst hdis i (by omega)
    obtain ⟨d, hd, hN⟩ := hdst i (by omega)
    rw [lexP, hd]
    refine ⟨by rw [defers_put]; exact h1, by rw [size_put]; exact h2, fun k e hk he => ?_, fun t ht => ?_⟩
    · rw [getD_put _ (show d < (lexP l v i a0).tmps.size by rw [h2]; exact hN)]
      by_cases hki : k = i
      · subst hki
        rw [hd] at he
        injection he with he
        subst he
        simp
      · have hne : e ≠ d := by
          rintro rfl
          exact hdis k i (by omega) (by omega) hki (he.trans hd.symm)
        rw [if_neg hne]
        exact h3 k e (by omega) he
    · rw [getD_put _ (show d < (lexP l v i a0).tmps.size by rw [h2]; exact hN), if_neg (fun e => ht i d (by omega) hd e.symm)]
      exact h4 t fun k e hk he => ht k e (by omega) he

def putPtrs (l : List Oper) (g : Nat → Nat) : List Nat → Act → Act
  | [], a => a
  | k :: r, a => putPtrs l g r (a.put (dst l k) (.pointer (some ⟨g k, 0, none⟩)))
theorem putPtrs_rel {l : List Oper} {m : Nat} {N : Nat} (g : Nat → Nat) (hdst : ∀ k, k < m → ∃ d, dst l k = some d ∧ d < N) (hdis : ∀ k k', k < m → k' < m → k ≠ k' → dst l k ≠ dst l k') :
    ∀ (c j : Nat) (a : Act), j + c ≤ m → a.tmps.size = N → (putPtrs l g (List.range' j c) a).defers = a.defers ∧ (putPtrs l g (List.range' j c) a).tmps.size = N ∧
      (∀ k d, j ≤ k → k < j + c → dst l k = some d → (putPtrs l g (List.range' j c) a).tmps.getD d undef = .pointer (some ⟨g k, 0, none⟩)) ∧
      ∀ t, (∀ k d, j ≤ k → k < j + c → dst l k = some d → d ≠ t) → (putPtrs l g (List.range' j c) a).tmps.getD t undef = a.tmps.getD t undef
  | 0, j, a, _, hN => ⟨rfl, hN, fun k d h1 h2 => by omega, fun t _ => rfl⟩
  | c + 1, j, a, hj, hN => by
    obtain ⟨d, hd, hdN⟩ := hdst j (by omega)
    rw [List.range'_succ, putPtrs, hd]
    obtain ⟨h1, h2, h3, h4⟩ := putPtrs_rel g hdst hdis c (j + 1) (a.put (some d) (.pointer (some ⟨g j, 0, none⟩))) (by omega) (by rw [size_put]; exact hN)
    refine ⟨by rw [h1, defers_put], h2, fun k e hk hk2 he => ?_, fun t ht => ?_⟩
    · by_cases hkj : k = j
      · subst hkj
        rw [hd] at he
        injection he with he
        subst he
        rw [h4 d (fun k' e' hk' hk2' he' heq => hdis k' k (by omega) (by omega) (by omega) (by rw [he', hd, heq]))]
        rw [getD_put _ (show d < a.tmps.size by rw [hN]; exact hdN)]
        simp
      · exact h3 k e (by omega) (by omega) he
    · rw [h4 t (fun k e hk hk2 he => ht k e (by omega) (by omega) he), getD_put _ (show d < a.tmps.size by rw [hN]; exact hdN), if_neg (fun e => ht j d (by omega) (by omega) hd e.symm)]

theorem blk2 {w : World} {g : Nat} {a b : Value} {t : TypeId} (h : w.heap[g]? = some (.cells #[a, b] t (0, 0))) :
    w.cell? ⟨g, 0, none⟩ = some a ∧ w.cell? ⟨g, 1, none⟩ = some b ∧ w.frozen? ⟨g, 0, none⟩ = false ∧ w.frozen? ⟨g, 1, none⟩ = false := by
  refine ⟨cell_of_row w g 0 _ _ _ h, cell_of_row w g 1 _ _ _ h, ?_, ?_⟩ <;> simp [World.frozen?, h]
theorem blk3 {w : World} {g : Nat} {a b c : Value} {t : TypeId} (h : w.heap[g]? = some (.cells #[a, b, c] t (0, 0))) :
    w.cell? ⟨g, 0, none⟩ = some a ∧ w.cell? ⟨g, 1, none⟩ = some b ∧ w.cell? ⟨g, 2, none⟩ = some c ∧ w.frozen? ⟨g, 0, none⟩ = false ∧ w.frozen? ⟨g, 1, none⟩ = false ∧ w.frozen? ⟨g, 2, none⟩ = false := by
  refine ⟨cell_of_row w g 0 _ _ _ h, cell_of_row w g 1 _ _ _ h, cell_of_row w g 2 _ _ _ h, ?_, ?_, ?_⟩ <;> simp [World.frozen?, h]
theorem gAt_val {P : Program} {o : Oper} {a : Act} {w : World} {v : Value} (h : (execOp a.eval o).run P w = .ok (.value v) w) : gAt P o a w v := by
  unfold gAt
  rw [h]
  exact ⟨rfl, rfl⟩
theorem quiet_enter {P : Program} {C : World → Prop} {w : World} {v : Value} {f : FuncId} {args : Array Value} (h : Calls P f args w fun e w'' => e = .returned v ∧ C w'') : Oper.quietUpon P C w v (.ok (.enter f args) w) := ⟨rfl, h⟩
theorem gAt_call {P : Program} {o : Oper} {a : Act} {w : World} {v : Value} {f : FuncId} {args : Array Value} (h : (execOp a.eval o).run P w = .ok (.enter f args) w)
    (hc : Calls P f args w fun e w' => e = .returned v ∧ Below w.heap.size w w') : gAt P o a w v := by
  unfold gAt
  rw [h]
  exact ⟨rfl, hc⟩
theorem act_ext {a b : Act} (h1 : a.defers = b.defers) (h2 : a.tmps.size = b.tmps.size) (h3 : ∀ t, a.tmps.getD t undef = b.tmps.getD t undef) : a = b := by
  obtain ⟨x, dx⟩ := a
  obtain ⟨y, dy⟩ := b
  simp only at h1 h2 h3
  subst h1
  have : x = y := by
    refine Array.ext h2 fun i hi hj => ?_
    have := h3 i
    simpa [hi, hj] using this
  rw [this]

theorem wp_region_grow {id : Nat} {l : List Oper} {a0 : Act} {w : World} (hm : P.follows .mixedOrders = true) (m0 m : Nat) (zs : Nat → Array Value × TypeId) (hB : chk l m0 m a0.tmps.size = true)
    (hz : ∀ k o, m0 ≤ k → k < m → l[k]? = some o → ∀ (ρ : Operand → Value) (w : World), (execOp ρ o).run P w = .ok (.value (.pointer (some ⟨w.heap.size, 0, none⟩))) (w.alloc (.cells (zs k).1 (zs k).2)))
    (h : wpG P w (fun aE => ∀ (w' : World) (g : Nat → Nat), Below w.heap.size w w' → (∀ k, m0 ≤ k → k < m → w.heap.size ≤ g k ∧ w'.heap[g k]? = some (.cells (zs k).1 (zs k).2 (0, 0))) →
      (∀ k k', m0 ≤ k → k < m → m0 ≤ k' → k' < m → k ≠ k' → g k ≠ g k') → wpList P l.toArray Q (l.drop m) (putPtrs l g (List.range' m0 (m - m0)) aE) w') (l.take m0) a0) :
    (Code.region id l.toArray true).wp P Q a0 w := by
  obtain ⟨v, hv, hend⟩ := wpG_vals _ _ h
  simp only [chk, Bool.and_eq_true, decide_eq_true_eq] at hB
  obtain ⟨⟨⟨⟨⟨⟨⟨⟨hmm, hml⟩, hac⟩, htl⟩, hin⟩, hns⟩, hg⟩, hdisB⟩, hops⟩ := hB
  simp only [List.all_eq_true, List.mem_range] at hg hdisB hops
  have hdst : ∀ k, k < m → ∃ d, dst l k = some d ∧ d < a0.tmps.size := by
    intro k hk
    have := hg k hk
    simp only [Bool.and_eq_true] at this
    have h2 := this.2
    cases hd : dst l k with
    | none => rw [hd] at h2; cases h2
    | some d => rw [hd] at h2; exact ⟨d, rfl, by simpa using h2⟩
  have hdis : ∀ k k', k < m → k' < m → k ≠ k' → dst l k ≠ dst l k' := by
    intro k k' hk hk' hne
    have := hdisB k hk k' hk'
    simp only [Bool.or_eq_true, beq_iff_eq, bne_iff_ne] at this
    exact this.resolve_left hne
  have htake : ∀ i, i < m0 → (l.take m0)[i]? = l[i]? := fun i hi => List.getElem?_take_of_lt hi
  have hlexT : ∀ i, i ≤ m0 → ∀ a, lexP (l.take m0) v i a = lexP l v i a := by
    intro i
    induction i with
    | zero => intros; rfl
    | succ i ih =>
      intro hi a
      rw [lexP, lexP, ih (by omega)]
      simp only [dst, htake i (by omega)]
  have hlen : (l.take m0).length = m0 := by rw [List.length_take]; omega
  rw [hlen, hlexT m0 (Nat.le_refl _)] at hend
  have hsz : l.toArray.size = l.length := by simp
  refine wp_region_ev hm m (by simp only [Bool.and_eq_true, decide_eq_true_eq]; exact ⟨⟨⟨by simpa using hml, hac⟩, htl⟩, hin⟩)
    (fun L a w1 => Below w.heap.size w w1 ∧ ∃ T : Nat → Value, Rel l m a0 L T a ∧ (∀ k, k < m0 → T k = v k) ∧
      (∀ k, m0 ≤ k → k < m → L.getD k false = true → ∃ g, T k = .pointer (some ⟨g, 0, none⟩) ∧ w.heap.size ≤ g ∧ w1.heap[g]? = some (.cells (zs k).1 (zs k).2 (0, 0))) ∧
      (∀ k k', m0 ≤ k → k < m → m0 ≤ k' → k' < m → k ≠ k' → L.getD k false = true → L.getD k' false = true → T k ≠ T k')) ?_ ?_ ?_
  · refine ⟨(Below.refl _ _).drew, v, ⟨rfl, rfl, fun k d _ _ hL => ?_, fun t _ => rfl⟩, fun _ _ => rfl, fun k _ _ hL => ?_, fun k k' _ _ _ _ _ hL => ?_⟩
    all_goals (simp [Array.getElem?_replicate] at hL; split at hL <;> simp at hL)
  · intro i him L a w1 hL hu hd ⟨hBw, T, hR, hT, hal, hne⟩
    have hLi : i < L.size := by omega
    obtain ⟨d, hdi, hdN⟩ := hdst i him
    have hli : i < l.length := by omega
    have ho : l.toArray[i]? = some l[i] := by simp [hli]
    have hol : l[i]? = some l[i] := List.getElem?_eq_getElem hli
    have hod : (l[i]).dst = some d := by simpa [dst, hol] using hdi
    have hgu : (l[i]).guard = none := by
      have := hg i him
      simp only [Bool.and_eq_true, hol, Option.map_some, Option.getD_some, Option.isNone_iff_eq_none] at this
      exact this.1
    unfold wpOp
    simp only [ho, wanted_none hgu, if_true]
    refine Or.inl ?_
    rcases Nat.lt_or_ge i m0 with hlt | hge
    · -- an operation of the first kind
      have hlex := lexP_rel (m := m) (a0 := a0) v hdst hdis i (by omega)
      have hsel : ∀ cs b, (l[i]).op ≠ .select cs b := fun cs b => Region.noSelect_spec hns i l[i] cs b ho
      have hev : execOp a.eval l[i] = execOp (lexP l v i a0).eval l[i] := by
        refine execOp_congr _ hsel fun x hx => ?_
        cases x with
        | tmp t =>
          show a.tmps.getD t undef = (lexP l v i a0).tmps.getD t undef
          by_cases hex : ∃ k, k < m ∧ dst l k = some t
          · obtain ⟨k, hk, hkt⟩ := hex
            have hdep : dep l.toArray i k = true := by
              have := hops i hlt k hk
              simp only [hol, hkt, Bool.or_eq_true, Bool.not_eq_true', List.any_eq_false] at this
              refine this.resolve_left fun hall => ?_
              have := hall (.tmp t) (by simpa using hx)
              simp at this
            have hLk := hd k hdep
            have hki : k < i := by
              have h1 := hac
              simp only [acyc, List.all_eq_true, List.mem_range] at h1
              have := h1 i (by simpa using hli) k (by simp; omega)
              simpa [hdep] using this
            rw [hR.here k t hk hkt hLk, hT k (by omega), hlex.2.2.1 k t hki hkt]
          · rw [hR.else_ t (fun k e hk he _ heq => hex ⟨k, hk, by rw [he, heq]⟩), hlex.2.2.2 t (fun k e hk he heq => hex ⟨k, by omega, by rw [he, heq]⟩)]
        | _ => rfl
      have hq := hv i l[i] (by rw [htake i hlt]; exact hol) w1 hBw
      rw [hlexT i (by omega)] at hq
      have next : ∀ w2, Below w1.heap.size w1 w2 → Below w.heap.size w w2 ∧ ∃ T : Nat → Value, Rel l m a0 (L.setIfInBounds i true) T (a.put (l[i]).dst (v i)) ∧ (∀ k, k < m0 → T k = v k) ∧
          (∀ k, m0 ≤ k → k < m → (L.setIfInBounds i true).getD k false = true → ∃ g, T k = .pointer (some ⟨g, 0, none⟩) ∧ w.heap.size ≤ g ∧ w2.heap[g]? = some (.cells (zs k).1 (zs k).2 (0, 0))) ∧
          (∀ k k', m0 ≤ k → k < m → m0 ≤ k' → k' < m → k ≠ k' → (L.setIfInBounds i true).getD k false = true → (L.setIfInBounds i true).getD k' false = true → T k ≠ T k') := by
        intro w2 h2
        refine ⟨hBw.trans (h2.mono hBw.size), T, ?_, hT, fun k hk1 hk2 hLk => ?_, fun k k' h1 h2 h3 h4 h5 h6 h7 => ?_⟩
        · rw [hod]
          exact hR.put him hLi hdi hdN hdis (v i) T (hT i hlt) (fun _ _ => rfl)
        · rw [getD_set hLi] at hLk
          obtain ⟨g, hg1, hg2, hg3⟩ := hal k hk1 hk2 (by simpa [show k ≠ i by omega] using hLk)
          have hgl : g < w1.heap.size := by
            rcases Nat.lt_or_ge g w1.heap.size with h | h
            · exact h
            · rw [Array.getElem?_eq_none h] at hg3; cases hg3
          exact ⟨g, hg1, hg2, (h2.block g hgl).trans hg3⟩
        · rw [getD_set hLi] at h6 h7
          exact hne k k' h1 h2 h3 h4 h5 (by simpa [show k ≠ i by omega] using h6) (by simpa [show k' ≠ i by omega] using h7)
      unfold gAt at hq
      unfold Oper.wp
      rw [hev]
      generalize (execOp (lexP l v i a0).eval l[i]).run P w1 = r at *
      cases r with
      | ok n w2 =>
        cases n <;> simp only [Oper.quietUpon] at hq <;> simp only [Oper.upon]
        case value u =>
          obtain ⟨e1, e2⟩ := hq
          rw [e1, e2]
          exact next _ (Below.refl _ _)
        case skip =>
          obtain ⟨e1, e2⟩ := hq
          rw [e1, ← e2]
          exact next _ (Below.refl _ _)
        case enter f args =>
          obtain ⟨e1, hc⟩ := hq
          rw [e1]
          exact hc.mono fun e w'' ⟨he, hw''⟩ => by subst he; exact next _ hw''
      | halt x w2 => simp only [Oper.quietUpon] at hq
    · -- a new variable
      unfold Oper.wp
      rw [hz i l[i] hge him hol a.eval w1]
      simp only [Oper.upon]
      refine ⟨hBw.alloc hBw.size _, fun k => if k = i then .pointer (some ⟨w1.heap.size, 0, none⟩) else T k, ?_, fun k hk => ?_, fun k hk1 hk2 hLk => ?_, fun k k' h1 h2 h3 h4 h5 h6 h7 => ?_⟩
      · rw [hod]
        exact hR.put him hLi hdi hdN hdis _ _ (by simp) (fun k hk => by simp [hk])
      · show (if k = i then _ else T k) = v k
        rw [if_neg (by omega)]
        exact hT k hk
      · rw [getD_set hLi] at hLk
        by_cases hki : k = i
        · subst hki
          exact ⟨w1.heap.size, by simp, hBw.size, heap_alloc_new w1 _⟩
        · obtain ⟨g, hg1, hg2, hg3⟩ := hal k hk1 hk2 (by simpa [hki] using hLk)
          have hgl : g < w1.heap.size := by
            rcases Nat.lt_or_ge g w1.heap.size with h | h
            · exact h
            · rw [Array.getElem?_eq_none h] at hg3; cases hg3
          exact ⟨g, by simp [hki, hg1], hg2, (Below.heap_alloc w1 _ g hgl).trans hg3⟩
      · rw [getD_set hLi] at h6 h7
        have old : ∀ x, m0 ≤ x → x < m → x ≠ i → L.getD x false = true → T x ≠ .pointer (some ⟨w1.heap.size, 0, none⟩) := by
          intro x hx1 hx2 hxi hLx heq
          obtain ⟨g, hg1, _, hg3⟩ := hal x hx1 hx2 hLx
          rw [hg1] at heq
          simp at heq
          rw [heq, Array.getElem?_eq_none (Nat.le_refl _)] at hg3
          cases hg3
        by_cases hki : k = i
        · subst hki
          have hk' : k' ≠ k := fun e => h5 e.symm
          simp only [if_true, hk', if_false]
          exact (old k' h3 h4 hk' (by simpa [hk'] using h7)).symm
        · by_cases hki' : k' = i
          · subst hki'
            simp only [hki, if_false, if_true]
            exact old k h1 h2 hki (by simpa [hki] using h6)
          · simp only [hki, hki', if_false]
            exact hne k k' h1 h2 h3 h4 h5 (by simpa [hki] using h6) (by simpa [hki'] using h7)
  · intro L a w1 hall ⟨hBw, T, hR, hT, hal, hne⟩
    have hgs : ∀ k, ∃ g, m0 ≤ k → k < m → T k = .pointer (some ⟨g, 0, none⟩) ∧ w.heap.size ≤ g ∧ w1.heap[g]? = some (.cells (zs k).1 (zs k).2 (0, 0)) := by
      intro k
      by_cases hk : m0 ≤ k ∧ k < m
      · obtain ⟨g, h1⟩ := hal k hk.1 hk.2 (hall k hk.2)
        exact ⟨g, fun _ _ => h1⟩
      · exact ⟨0, fun h1 h2 => absurd ⟨h1, h2⟩ hk⟩
    obtain ⟨g, hgg⟩ := Classical.axiomOfChoice hgs
    have hlex := lexP_rel (m := m) (a0 := a0) v hdst hdis m0 hmm
    have hpp := putPtrs_rel (l := l) (m := m) g hdst hdis (m - m0) m0 (lexP l v m0 a0) (by omega) hlex.2.1
    have ha : a = putPtrs l g (List.range' m0 (m - m0)) (lexP l v m0 a0) := by
      refine act_ext (by rw [hR.defers, hpp.1, hlex.1]) (by rw [hR.size, hpp.2.1]) fun t => ?_
      by_cases hex : ∃ k, k < m ∧ dst l k = some t
      · obtain ⟨k, hk, hkt⟩ := hex
        rw [hR.here k t hk hkt (hall k hk)]
        rcases Nat.lt_or_ge k m0 with hlt | hge
        · rw [hT k hlt, hpp.2.2.2 t (fun k' e h1 h2 he heq => hdis k' k (by omega) hk (by omega) (by rw [he, hkt, heq])), hlex.2.2.1 k t hlt hkt]
        · rw [hpp.2.2.1 k t hge (by omega) hkt, (hgg k hge hk).1]
      · rw [hR.else_ t (fun k e hk he _ heq => hex ⟨k, hk, by rw [he, heq]⟩), hpp.2.2.2 t (fun k e h1 h2 he heq => hex ⟨k, by omega, by rw [he, heq]⟩), hlex.2.2.2 t (fun k e hk he heq => hex ⟨k, by omega, by rw [he, heq]⟩)]
    have hfin := hend w1 g hBw (fun k h1 h2 => ⟨(hgg k h1 h2).2.1, (hgg k h1 h2).2.2⟩) (fun k k' h1 h2 h3 h4 h5 heq => hne k k' h1 h2 h3 h4 h5 (hall k h2) (hall k' h4) (by rw [(hgg k h1 h2).1, (hgg k' h3 h4).1, heq]))
    rw [← ha] at hfin
    have hw := wpOps_eq_wpList (P := P) (ops := l.toArray) (Q := Q) (l.drop m) m (fun j => by simp)
    rw [List.length_drop] at hw
    rw [hsz, hw]
    exact hfin
end
end Go.Proofs.Ytbjcbbnfgfmllaa.Reg
