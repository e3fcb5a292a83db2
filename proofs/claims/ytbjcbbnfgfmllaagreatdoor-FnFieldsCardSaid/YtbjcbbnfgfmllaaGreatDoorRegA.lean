/- Regions that draw their order. No program in sight. -/
import Derived.Orders
import Derived.WalkKit
import Derived.Deep.Quiet
set_option linter.unusedVariables false
set_option linter.unusedSimpArgs false
namespace Go.Proofs.YtbjcbbnfgfmllaaGreatDoor.Reg
open Go Go.RowKit
def dep (ops : Array Oper) (j k : Nat) : Bool := ((ops[j]?).map fun o => o.after.any fun e => Region.binds .any e && e.on == k).getD false
def reach (ops : Array Oper) : Nat → Nat → Nat → Bool
  | 0, _, _ => false
  | f + 1, j, k => dep ops j k || (List.range ops.size).any fun d => dep ops j d && reach ops f d k
def acyc (ops : Array Oper) : Bool := (List.range ops.size).all fun j => (List.range ops.size).all fun k => !dep ops j k || decide (k < j)
def onlyIn (ops : Array Oper) : Bool := ops.all fun o => o.after.all fun e => !Region.binds .any e || decide (e.on < ops.size)
def tailB (ops : Array Oper) (m : Nat) : Bool := (List.range ops.size).all fun j => decide (j < m) || (List.range j).all fun k => reach ops 6 j k
def closed (ops : Array Oper) (L : Array Bool) : Prop := ∀ j k, dep ops j k = true → L.getD j false = true → L.getD k false = true

theorem dep_of {ops : Array Oper} {j : Nat} {o : Oper} {e : Edge} (hj : ops[j]? = some o) (he : e ∈ o.after) (hb : Region.binds .any e = true) : dep ops j e.on = true := by
  unfold dep
  rw [hj]
  simp only [Option.map_some, Option.getD_some, Array.any_eq_true']
  exact ⟨e, he, by simp [hb]⟩
theorem of_dep {ops : Array Oper} {j k : Nat} (h : dep ops j k = true) : ∃ o e, ops[j]? = some o ∧ e ∈ o.after ∧ Region.binds .any e = true ∧ e.on = k := by
  unfold dep at h
  cases ho : ops[j]? with
  | none => simp [ho] at h
  | some o =>
    simp only [ho, Option.map_some, Option.getD_some, Array.any_eq_true', Bool.and_eq_true, beq_iff_eq] at h
    obtain ⟨e, he, hb, hk⟩ := h
    exact ⟨o, e, rfl, he, hb, hk⟩
theorem reach_listed {ops : Array Oper} {L : Array Bool} (hc : closed ops L) : ∀ (f j k : Nat), (∀ d, dep ops j d = true → L.getD d false = true) → reach ops f j k = true → L.getD k false = true
  | 0, _, _, _, h => by simp [reach] at h
  | f + 1, j, k, hd, h => by
    simp only [reach, Bool.or_eq_true, List.any_eq_true, Bool.and_eq_true] at h
    rcases h with h | ⟨d, _, h1, h2⟩
    · exact hd k h
    · exact reach_listed hc f d k (fun e he => hc d e he (hd d h1)) h2
theorem getD_true {L : Array Bool} {k : Nat} (hk : k < L.size) : L.getD k true = L.getD k false := by
  simp [Array.getD, hk]
theorem getD_set {L : Array Bool} {i k : Nat} (hi : i < L.size) : (L.setIfInBounds i true).getD k false = (decide (k = i) || L.getD k false) := by
  by_cases h : k = i
  · subst h
    simp [hi]
  · have : i ≠ k := fun e => h e.symm
    simp [h, Array.getElem?_setIfInBounds_ne this]

section
variable {P : Program} {ops : Array Oper} {Q : Exit → Act → World → Prop}
theorem ready_spec {L : Array Bool} {i : Nat} (hL : L.size = ops.size) (h : i ∈ Region.ready .any ops L) : i < ops.size ∧ L.getD i false = false ∧ ∀ d, dep ops i d = true → L.getD d false = true := by
  obtain ⟨h1, o, ho, h2⟩ := mem_ready.1 h
  have hi : i < ops.size := by
    rcases Nat.lt_or_ge i ops.size with hlt | hge
    · exact hlt
    · rw [Array.getElem?_eq_none hge] at ho; cases ho
  refine ⟨hi, by rw [← getD_true (by omega)]; exact h1, fun d hd => ?_⟩
  obtain ⟨o', e, ho', he, hb, rfl⟩ := of_dep hd
  rw [ho] at ho'
  injection ho' with ho'
  subst ho'
  exact h2 e he hb
theorem ready_mk {L : Array Bool} {i : Nat} (hL : L.size = ops.size) (hi : i < ops.size) (hu : L.getD i false = false) (hd : ∀ d, dep ops i d = true → L.getD d false = true) : i ∈ Region.ready .any ops L := by
  refine mem_ready.2 ⟨by rw [getD_true (by omega)]; exact hu, ops[i], Array.getElem?_eq_getElem hi, fun e he hb => ?_⟩
  exact hd e.on (dep_of (Array.getElem?_eq_getElem hi) he hb)

theorem tail_any {m : Nat} (hac : acyc ops = true) (ht : tailB ops m = true) (hin : onlyIn ops = true) : ∀ (t j : Nat), m ≤ j → j + t = ops.size → ∀ (L : Array Bool) (a : Act) (w : World), L.size = ops.size → closed ops L →
    (∀ k, k < j → L.getD k false = true) → (∀ k, j ≤ k → L.getD k false = false) → wpOps P ops Q (List.range' j t) a w → ∀ fuel, t ≤ fuel → wpAny P .any ops Q fuel L a w
  | 0, j, hm, hj, L, a, w, hL, hcl, hlo, hhi, h, fuel, hf => by
    have hr : Region.ready .any ops L = [] := by
      rw [List.eq_nil_iff_forall_not_mem]
      intro i hi
      obtain ⟨h1, h2, _⟩ := ready_spec hL hi
      rw [hlo i (by omega)] at h2
      cases h2
    have h' : Q .normal a w := by simpa [wpOps] using h
    cases fuel with
    | zero => exact ⟨hr, h'⟩
    | succ f => exact ⟨fun _ => h', fun i hi => by rw [hr] at hi; cases hi⟩
  | t + 1, j, hm, hj, L, a, w, hL, hcl, hlo, hhi, h, fuel, hf => by
    obtain ⟨f, rfl⟩ : ∃ f, fuel = f + 1 := ⟨fuel - 1, by omega⟩
    have hdj : ∀ d, dep ops j d = true → L.getD d false = true := by
      intro d hd
      refine hlo d ?_
      simp only [acyc, List.all_eq_true, List.mem_range] at hac
      obtain ⟨o, e, ho, he, hb, rfl⟩ := of_dep hd
      simp only [onlyIn, Array.all_eq_true'] at hin
      have hjs : j < ops.size := by omega
      have hon := hin o (by rw [Array.getElem?_eq_getElem hjs] at ho; injection ho with ho; rw [← ho]; exact Array.getElem_mem hjs) e he
      simp [hb] at hon
      have := hac j hjs e.on hon
      simpa [hd] using this
    refine ⟨fun hr => ?_, fun i hi => ?_⟩
    · have := ready_mk hL (by omega) (hhi j (Nat.le_refl _)) hdj
      rw [hr] at this
      cases this
    · obtain ⟨h1, h2, h3⟩ := ready_spec hL hi
      have hij : i = j := by
        rcases Nat.lt_trichotomy i j with hlt | he | hgt
        · rw [hlo i hlt] at h2; cases h2
        · exact he
        · simp only [tailB, List.all_eq_true, List.mem_range, Bool.or_eq_true, decide_eq_true_eq] at ht
          have hr := (ht i h1).resolve_left (by omega) j hgt
          have := reach_listed hcl 6 i j h3 hr
          rw [hhi j (Nat.le_refl _)] at this
          cases this
      subst hij
      have hw : wpOp P ops Q i (wpOps P ops Q (List.range' (i + 1) t)) a w := by
        rw [List.range'_succ, wpOps_cons] at h
        exact h
      have hsz : i < L.size := by omega
      refine wpOp_mono (fun a' w' h' => tail_any hac ht hin t (i + 1) (by omega) (by omega) _ a' w' (by simpa using hL) ?_ ?_ ?_ h' f (by omega)) hw
      · intro x y hxy hx
        rw [getD_set hsz] at hx ⊢
        simp only [Bool.or_eq_true, decide_eq_true_eq] at hx ⊢
        rcases hx with rfl | hx
        · exact Or.inr (h3 y hxy)
        · exact Or.inr (hcl x y hxy hx)
      · intro k hk
        rw [getD_set hsz]
        by_cases hki : k = i
        · simp [hki]
        · rw [hlo k (by omega)]; simp
      · intro k hk
        rw [getD_set hsz, hhi k (by omega)]
        simp; omega

theorem filt_le {f g : Nat → Bool} (hle : ∀ k, g k = true → f k = true) : ∀ l : List Nat, (l.filter g).length ≤ (l.filter f).length
  | [] => by simp
  | x :: l => by
    have ih := filt_le hle l
    rw [List.filter_cons, List.filter_cons]
    cases hg : g x with
    | true => rw [hle x hg]; simpa using ih
    | false =>
      cases hf : f x with
      | true => simp; omega
      | false => simpa using ih
theorem filt_lt {f g : Nat → Bool} (hle : ∀ k, g k = true → f k = true) {i : Nat} (hf : f i = true) (hg : g i = false) : ∀ l : List Nat, i ∈ l → (l.filter g).length < (l.filter f).length
  | [], h => by cases h
  | x :: l, h => by
    rw [List.filter_cons, List.filter_cons]
    rcases List.mem_cons.1 h with rfl | h
    · have := filt_le hle l
      rw [hf, hg]
      simp
      omega
    · have ih := filt_lt hle hf hg l h
      cases hgx : g x with
      | true => rw [hle x hgx]; simpa using ih
      | false =>
        cases hfx : f x with
        | true => simp; omega
        | false => simpa using ih
/-- How many of the first m have not come up yet. -/
def open_ (L : Array Bool) (m : Nat) : Nat := ((List.range m).filter fun k => !L.getD k false).length
theorem open_set {L : Array Bool} {i m : Nat} (hi : i < m) (hs : i < L.size) (hu : L.getD i false = false) : open_ (L.setIfInBounds i true) m < open_ L m := by
  unfold open_
  refine filt_lt (i := i) (fun k hk => ?_) ?_ ?_ _ (by simpa using hi)
  · rw [getD_set hs] at hk
    cases h : L.getD k false with
    | false => rfl
    | true => rw [h] at hk; simp at hk
  · rw [hu]; rfl
  · rw [getD_set hs]; simp

theorem main_any {m : Nat} (hmn : m ≤ ops.size) (hac : acyc ops = true) (ht : tailB ops m = true) (hin : onlyIn ops = true) {J : Array Bool → Act → World → Prop}
    (hstep : ∀ i, i < m → ∀ (L : Array Bool) (a : Act) (w : World), L.size = ops.size → L.getD i false = false → (∀ d, dep ops i d = true → L.getD d false = true) → J L a w → wpOp P ops Q i (fun a' w' => J (L.setIfInBounds i true) a' w') a w)
    (hend : ∀ (L : Array Bool) (a : Act) (w : World), (∀ i, i < m → L.getD i false = true) → J L a w → wpOps P ops Q (List.range' m (ops.size - m)) a w) :
    ∀ (fuel : Nat) (L : Array Bool) (a : Act) (w : World), L.size = ops.size → closed ops L → (∀ k, m ≤ k → L.getD k false = false) → open_ L m + (ops.size - m) ≤ fuel → J L a w → wpAny P .any ops Q fuel L a w := by
  intro fuel
  induction fuel with
  | zero =>
    intro L a w hL hcl hhi hf hJ
    have hall : ∀ i, i < m → L.getD i false = true := by
      intro i hi
      cases h : L.getD i false with
      | true => rfl
      | false =>
        have hmem : i ∈ (List.range m).filter fun k => !L.getD k false := by simp [hi] at h ⊢; exact h
        have : 0 < open_ L m := List.length_pos_of_mem hmem
        omega
    exact tail_any hac ht hin _ m (Nat.le_refl _) (by omega) L a w hL hcl hall hhi (hend L a w hall hJ) 0 (by omega)
  | succ f ih =>
    intro L a w hL hcl hhi hf hJ
    by_cases hall : ∀ i, i < m → L.getD i false = true
    · exact tail_any hac ht hin _ m (Nat.le_refl _) (by omega) L a w hL hcl hall hhi (hend L a w hall hJ) (f + 1) (by omega)
    · have hex : ∃ i, i < m ∧ L.getD i false = false := by
        apply Classical.byContradiction
        intro hno
        refine hall fun i hi => ?_
        cases h : L.getD i false with
        | true => rfl
        | false => exact absurd ⟨i, hi, h⟩ hno
      refine ⟨fun hr => ?_, fun i hi => ?_⟩
      · -- the least that has not come up may come up
        have hleast : ∀ n, (∃ i, i < n ∧ i < m ∧ L.getD i false = false) → ∃ i, i < m ∧ L.getD i false = false ∧ ∀ k, k < i → L.getD k false = true := by
          intro n
          induction n with
          | zero => rintro ⟨i, h, _⟩; omega
          | succ n ihn =>
            rintro ⟨i, h1, h2, h3⟩
            by_cases hb : ∃ i, i < n ∧ i < m ∧ L.getD i false = false
            · exact ihn hb
            · refine ⟨i, h2, h3, fun k hk => ?_⟩
              cases h : L.getD k false with
              | true => rfl
              | false => exact absurd ⟨k, by omega, by omega, h⟩ hb
        obtain ⟨i0, hi0, hu0⟩ := hex
        obtain ⟨i, him, hu, hlow⟩ := hleast m ⟨i0, hi0, hi0, hu0⟩
        have hdi : ∀ d, dep ops i d = true → L.getD d false = true := by
          intro d hd
          refine hlow d ?_
          have hac' := hac
          simp only [acyc, List.all_eq_true, List.mem_range] at hac'
          obtain ⟨o, e, ho, he, hb, rfl⟩ := of_dep hd
          have hin' := hin
          simp only [onlyIn, Array.all_eq_true'] at hin'
          have his : i < ops.size := by omega
          have hon := hin' o (by rw [Array.getElem?_eq_getElem his] at ho; injection ho with ho; rw [← ho]; exact Array.getElem_mem his) e he
          simp [hb] at hon
          have := hac' i his e.on hon
          simpa [hd] using this
        have := ready_mk hL (by omega) hu hdi
        rw [hr] at this
        cases this
      · obtain ⟨h1, h2, h3⟩ := ready_spec hL hi
        have him : i < m := by
          rcases Nat.lt_or_ge i m with h | h
          · exact h
          · obtain ⟨k, hk, hku⟩ := hex
            simp only [tailB, List.all_eq_true, List.mem_range, Bool.or_eq_true, decide_eq_true_eq] at ht
            have hr := (ht i h1).resolve_left (by omega) k (by omega)
            have := reach_listed hcl 6 i k h3 hr
            rw [hku] at this
            cases this
        have hsz : i < L.size := by omega
        refine wpOp_mono (fun a' w' h' => ih _ a' w' (by simpa using hL) ?_ ?_ (by have := open_set him hsz h2; omega) h') (hstep i him L a w hL h2 h3 hJ)
        · intro x y hxy hx
          rw [getD_set hsz] at hx ⊢
          simp only [Bool.or_eq_true, decide_eq_true_eq] at hx ⊢
          rcases hx with rfl | hx
          · exact Or.inr (h3 y hxy)
          · exact Or.inr (hcl x y hxy hx)
        · intro k hk
          rw [getD_set hsz, hhi k hk]
          simp; omega

/-- A region that draws its order, by an invariant J over what has come up: the first m in whatever order, what stands behind them in the text's order. -/
theorem wp_region_ev {id : Nat} {a : Act} {w : World} (hm : P.follows .mixedOrders = true) (m : Nat) (hB : (decide (m ≤ ops.size) && acyc ops && tailB ops m && onlyIn ops) = true) (J : Array Bool → Act → World → Prop)
    (h0 : J (Array.replicate ops.size false) a w.drew)
    (hstep : ∀ i, i < m → ∀ (L : Array Bool) (a : Act) (w : World), L.size = ops.size → L.getD i false = false → (∀ d, dep ops i d = true → L.getD d false = true) → J L a w → wpOp P ops Q i (fun a' w' => J (L.setIfInBounds i true) a' w') a w)
    (hend : ∀ (L : Array Bool) (a : Act) (w : World), (∀ i, i < m → L.getD i false = true) → J L a w → wpOps P ops Q (List.range' m (ops.size - m)) a w) :
    (Code.region id ops true).wp P Q a w := by
  simp only [Bool.and_eq_true, decide_eq_true_eq] at hB
  obtain ⟨⟨⟨h1, h2⟩, h3⟩, h4⟩ := hB
  refine wp_region_any hm (main_any h1 h2 h3 h4 hstep hend _ _ a _ (by simp) ?_ ?_ ?_ h0)
  · intro j k _ h
    simp [Array.getElem?_replicate] at h
    split at h <;> simp at h
  · intro k _
    simp [Array.getElem?_replicate]
    split <;> simp
  · unfold open_
    have := List.length_filter_le (fun k => !(Array.replicate ops.size false).getD k false) (List.range m)
    rw [List.length_range] at this
    omega

/-! ### The first m0 operations yield one value in every world above the first and let the world grow; then new variables; then what comes up in the text's order -/
/-- Operation o, carried out in w, yields v and lets the world grow. -/
def gAt (P : Program) (o : Oper) (a : Act) (w : World) (v : Value) : Prop := Oper.quietUpon P (fun w'' => Below w.heap.size w w'') w v ((execOp a.eval o).run P w)
def wpG (P : Program) (w0 : World) (QA : Act → Prop) : List Oper → Act → Prop
  | [], a => QA a
  | o :: rest, a => ∃ v, (∀ w, Below w0.heap.size w0 w → gAt P o a w v) ∧ wpG P w0 QA rest (a.put o.dst v)
theorem wpG_step {w0 : World} {QA : Act → Prop} {o : Oper} {rest : List Oper} {a : Act} {v : Value} (h : ∀ w, Below w0.heap.size w0 w → gAt P o a w v) (k : wpG P w0 QA rest (a.put o.dst v)) : wpG P w0 QA (o :: rest) a := ⟨v, h, k⟩
def dst (l : List Oper) (k : Nat) : Option Tmp := (l[k]?).bind (·.dst)
def lexP (l : List Oper) (v : Nat → Value) : Nat → Act → Act
  | 0, a => a
  | i + 1, a => (lexP l v i a).put (dst l i) (v i)
theorem lexP_cons (o : Oper) (l : List Oper) (v : Nat → Value) (a : Act) : ∀ i, lexP (o :: l) v (i + 1) a = lexP l (fun k => v (k + 1)) i (a.put o.dst (v 0))
  | 0 => rfl
  | i + 1 => by
    rw [lexP, lexP_cons o l v a i]
    rfl
theorem wpG_vals {w0 : World} {QA : Act → Prop} : ∀ (l : List Oper) (a : Act), wpG P w0 QA l a →
    ∃ v : Nat → Value, (∀ i o, l[i]? = some o → ∀ w, Below w0.heap.size w0 w → gAt P o (lexP l v i a) w (v i)) ∧ QA (lexP l v l.length a)
  | [], a, h => ⟨fun _ => undef, fun i o ho => by simp at ho, h⟩
  | o :: l, a, h => by
    obtain ⟨v0, h1, h2⟩ := h
    obtain ⟨v, h3, h4⟩ := wpG_vals l _ h2
    refine ⟨fun k => match k with | 0 => v0 | k + 1 => v k, fun i o' ho => ?_, ?_⟩
    · cases i with
      | zero =>
        simp only [List.getElem?_cons_zero, Option.some.injEq] at ho
        subst ho
        exact h1
      | succ i =>
        rw [lexP_cons]
        exact h3 i o' (by simpa using ho)
    · rw [List.length_cons, lexP_cons]
      exact h4

def chk (l : List Oper) (m0 m N : Nat) : Bool :=
  decide (m0 ≤ m) && decide (m ≤ l.length) && acyc l.toArray && tailB l.toArray m && onlyIn l.toArray && Region.noSelect l.toArray &&
  ((List.range m).all fun k => ((l[k]?).map fun o => o.guard.isNone).getD false && (match dst l k with | some d => decide (d < N) | none => false)) &&
  ((List.range m).all fun k => (List.range m).all fun k' => k == k' || dst l k != dst l k') &&
  ((List.range m0).all fun i => (List.range m).all fun k => match l[i]?, dst l k with | some o, some d => !(o.op.operands.toList.any fun x => match x with | .tmp t => t == d | _ => false) || dep l.toArray i k | _, _ => false)

theorem getD_put {a : Act} {d : Tmp} {v : Value} (t : Tmp) (hd : d < a.tmps.size) : (a.put (some d) v).tmps.getD t undef = if t = d then v else a.tmps.getD t undef := by
  by_cases h : t = d
  · subst h
    simp [Act.put, hd]
  · have : d ≠ t := fun e => h e.symm
    simp [Act.put, h, Array.getElem?_setIfInBounds_ne this]
theorem size_put (a : Act) (x : Option Tmp) (v : Value) : (a.put x v).tmps.size = a.tmps.size := by
  cases x <;> simp [Act.put]
theorem defers_put (a : Act) (x : Option Tmp) (v : Value) : (a.put x v).defers = a.defers := by
  cases x <;> rfl

theorem wanted_none {o : Oper} (h : o.guard = none) (f : Nat → Option Bool) : Region.wanted o f = true := by
  simp [Region.wanted, h]

/-- What the state holds: the slots of what has come up, all other slots as at the start. -/
structure Rel (l : List Oper) (m : Nat) (a0 : Act) (L : Array Bool) (T : Nat → Value) (a : Act) : Prop where
  defers : a.defers = a0.defers
  size : a.tmps.size = a0.tmps.size
  here : ∀ k d, k < m → dst l k = some d → L.getD k false = true → a.tmps.getD d undef = T k
  else_ : ∀ t, (∀ k d, k < m → dst l k = some d → L.getD k false = true → d ≠ t) → a.tmps.getD t undef = a0.tmps.getD t undef

theorem Rel.put {l : List Oper} {m : Nat} {a0 a : Act} {L : Array Bool} {T : Nat → Value} {i : Nat} {d : Tmp} (h : Rel l m a0 L T a) (hi : i < m) (hL : i < L.size) (hd : dst l i = some d) (hN : d < a0.tmps.size)
    (hdis : ∀ k k', k < m → k' < m → k ≠ k' → dst l k ≠ dst l k') (v : Value) (T' : Nat → Value) (hT : T' i = v) (hT' : ∀ k, k ≠ i → T' k = T k) : Rel l m a0 (L.setIfInBounds i true) T' (a.put (some d) v) := by
  refine ⟨by rw [defers_put]; exact h.defers, by rw [size_put]; exact h.size, fun k e hk he hLk => ?_, fun t ht => ?_⟩
  · rw [getD_put _ (by rw [h.size]; exact hN)]
    by_cases hki : k = i
    · subst hki
      rw [hd] at he
      injection he with he
      subst he
      simp [hT]
    · have hne : e ≠ d := by
        rintro rfl
        exact hdis k i hk hi hki (he.trans hd.symm)
      rw [if_neg hne, hT' k hki]
      rw [getD_set hL] at hLk
      exact h.here k e hk he (by simpa [hki] using hLk)
  · rw [getD_put _ (by rw [h.size]; exact hN)]
    have h1 : d ≠ t := ht i d hi hd (by rw [getD_set hL]; simp)
    rw [if_neg (fun e => h1 e.symm)]
    refine h.else_ t fun k e hk he hLk => ht k e hk he ?_
    rw [getD_set hL, hLk]
    simp

theorem lexP_rel {l : List Oper} {m : Nat} {a0 : Act} (v : Nat → Value) (hdst : ∀ k, k < m → ∃ d, dst l k = some d ∧ d < a0.tmps.size) (hdis : ∀ k k', k < m → k' < m → k ≠ k' → dst l k ≠ dst l k') :
    ∀ i, i ≤ m → (lexP l v i a0).defers = a0.defers ∧ (lexP l v i a0).tmps.size = a0.tmps.size ∧ (∀ k d, k < i → dst l k = some d → (lexP l v i a0).tmps.getD d undef = v k) ∧
      ∀ t, (∀ k d, k < i → dst l k = some d → d ≠ t) → (lexP l v i a0).tmps.getD t undef = a0.tmps.getD t undef
  | 0, _ => ⟨rfl, rfl, fun k d hk => by omega, fun t _ => rfl⟩
  | i + 1, hi => by
    obtain ⟨h1, h2, h3, h4⟩ := lexP_rel v hdst hdis i (by omega)
    obtain ⟨d, hd, hN⟩ := hdst i (by omega)
    rw [lexP, hd]
    refine ⟨by rw [defers_put]; exact h1, by rw [size_put]; exact h2, fun k e hk he => ?_, fun t ht => ?_⟩
    · rw [getD_put _ (show d < (lexP l v i a0).tmps.size by rw [h2]; exact hN)]
      by_cases hki : k = i
      · subst hki
        rw [hd] at he
        injection he with he
        subst he
        simp
      · have hne : e ≠ d := by
          rintro rfl
          exact hdis k i (by omega) (by omega) hki (he.trans hd.symm)
        rw [if_neg hne]
        exact h3 k e (by omega) he
    · rw [getD_put _ (show d < (lexP l v i a0).tmps.size by rw [h2]; exact hN), if_neg (fun e => ht i d (by omega) hd e.symm)]
      exact h4 t fun k e hk he => ht k e (by omega) he

def putPtrs (l : List Oper) (g : Nat → Nat) : List Nat → Act → Act
  | [], a => a
  | k :: r, a => putPtrs l g r (a.put (dst l k) (.pointer (some ⟨g k, 0, none⟩)))
theorem putPtrs_rel {l : List Oper} {m : Nat} {N : Nat} (g : Nat → Nat) (hdst : ∀ k, k < m → ∃ d, dst l k = some d ∧ d < N) (hdis : ∀ k k', k < m → k' < m → k ≠ k' → dst l k ≠ dst l k') :
    ∀ (c j : Nat) (a : Act), j + c ≤ m → a.tmps.size = N → (putPtrs l g (List.range' j c) a).defers = a.defers ∧ (putPtrs l g (List.range' j c) a).tmps.size = N ∧
      (∀ k d, j ≤ k → k < j + c → dst l k = some d → (putPtrs l g (List.range' j c) a).tmps.getD d undef = .pointer (some ⟨g k, 0, none⟩)) ∧
      ∀ t, (∀ k d, j ≤ k → k < j + c → dst l k = some d → d ≠ t) → (putPtrs l g (List.range' j c) a).tmps.getD t undef = a.tmps.getD t undef
  | 0, j, a, _, hN => ⟨rfl, hN, fun k d h1 h2 => by omega, fun t _ => rfl⟩
  | c + 1, j, a, hj, hN => by
    obtain ⟨d, hd, hdN⟩ := hdst j (by omega)
    rw [List.range'_succ, putPtrs, hd]
    obtain ⟨h1, h2, h3, h4⟩ := putPtrs_rel g hdst hdis c (j + 1) (a.put (some d) (.pointer (some ⟨g j, 0, none⟩))) (by omega) (by rw [size_put]; exact hN)
    refine ⟨by rw [h1, defers_put], h2, fun k e hk hk2 he => ?_, fun t ht => ?_⟩
    · by_cases hkj : k = j
      · subst hkj
        rw [hd] at he
        injection he with he
        subst he
        rw [h4 d (fun k' e' hk' hk2' he' heq => hdis k' k (by omega) (by omega) (by omega) (by rw [he', hd, heq]))]
        rw [getD_put _ (show d < a.tmps.size by rw [hN]; exact hdN)]
        simp
      · exact h3 k e (by omega) (by omega) he
    · rw [h4 t (fun k e hk hk2 he => ht k e (by omega) (by omega) he), getD_put _ (show d < a.tmps.size by rw [hN]; exact hdN), if_neg (fun e => ht j d (by omega) (by omega) hd e.symm)]

theorem blk2 {w : World} {g : Nat} {a b : Value} {t : TypeId} (h : w.heap[g]? = some (.cells #[a, b] t (0, 0))) :
    w.cell? ⟨g, 0, none⟩ = some a ∧ w.cell? ⟨g, 1, none⟩ = some b ∧ w.frozen? ⟨g, 0, none⟩ = false ∧ w.frozen? ⟨g, 1, none⟩ = false := by
  refine ⟨cell_of_row w g 0 _ _ _ h, cell_of_row w g 1 _ _ _ h, ?_, ?_⟩ <;> simp [World.frozen?, h]
theorem blk3 {w : World} {g : Nat} {a b c : Value} {t : TypeId} (h : w.heap[g]? = some (.cells #[a, b, c] t (0, 0))) :
    w.cell? ⟨g, 0, none⟩ = some a ∧ w.cell? ⟨g, 1, none⟩ = some b ∧ w.cell? ⟨g, 2, none⟩ = some c ∧ w.frozen? ⟨g, 0, none⟩ = false ∧ w.frozen? ⟨g, 1, none⟩ = false ∧ w.frozen? ⟨g, 2, none⟩ = false := by
  refine ⟨cell_of_row w g 0 _ _ _ h, cell_of_row w g 1 _ _ _ h, cell_of_row w g 2 _ _ _ h, ?_, ?_, ?_⟩ <;> simp [World.frozen?, h]
theorem gAt_val {P : Program} {o : Oper} {a : Act} {w : World} {v : Value} (h : (execOp a.eval o).run P w = .ok (.value v) w) : gAt P o a w v := by
  unfold gAt
  rw [h]
  exact ⟨rfl, rfl⟩
theorem quiet_enter {P : Program} {C : World → Prop} {w : World} {v : Value} {f : FuncId} {args : Array Value} (h : Calls P f args w fun e w'' => e = .returned v ∧ C w'') : Oper.quietUpon P C w v (.ok (.enter f args) w) := ⟨rfl, h⟩
theorem gAt_call {P : Program} {o : Oper} {a : Act} {w : World} {v : Value} {f : FuncId} {args : Array Value} (h : (execOp a.eval o).run P w = .ok (.enter f args) w)
    (hc : Calls P f args w fun e w' => e = .returned v ∧ Below w.heap.size w w') : gAt P o a w v := by
  unfold gAt
  rw [h]
  exact ⟨rfl, hc⟩
theorem act_ext {a b : Act} (h1 : a.defers = b.defers) (h2 : a.tmps.size = b.tmps.size) (h3 : ∀ t, a.tmps.getD t undef = b.tmps.getD t undef) : a = b := by
  obtain ⟨x, dx⟩ := a
  obtain ⟨y, dy⟩ := b
  simp only at h1 h2 h3
  subst h1
  have : x = y := by
    refine Array.ext h2 fun i hi hj => ?_
    have := h3 i
    simpa [hi, hj] using this
  rw [this]

theorem wp_region_grow {id : Nat} {l : List Oper} {a0 : Act} {w : World} (hm : P.follows .mixedOrders = true) (m0 m : Nat) (zs : Nat → Array Value × TypeId) (hB : chk l m0 m a0.tmps.size = true)
    (hz : ∀ k o, m0 ≤ k → k < m → l[k]? = some o → ∀ (ρ : Operand → Value) (w : World), (execOp ρ o).run P w = .ok (.value (.pointer (some ⟨w.heap.size, 0, none⟩))) (w.alloc (.cells (zs k).1 (zs k).2)))
    (h : wpG P w (fun aE => ∀ (w' : World) (g : Nat → Nat), Below w.heap.size w w' → (∀ k, m0 ≤ k → k < m → w.heap.size ≤ g k ∧ w'.heap[g k]? = some (.cells (zs k).1 (zs k).2 (0, 0))) →
      (∀ k k', m0 ≤ k → k < m → m0 ≤ k' → k' < m → k ≠ k' → g k ≠ g k') → wpList P l.toArray Q (l.drop m) (putPtrs l g (List.range' m0 (m - m0)) aE) w') (l.take m0) a0) :
    (Code.region id l.toArray true).wp P Q a0 w := by
  obtain ⟨v, hv, hend⟩ := wpG_vals _ _ h
  simp only [chk, Bool.and_eq_true, decide_eq_true_eq] at hB
  obtain ⟨⟨⟨⟨⟨⟨⟨⟨hmm, hml⟩, hac⟩, htl⟩, hin⟩, hns⟩, hg⟩, hdisB⟩, hops⟩ := hB
  simp only [List.all_eq_true, List.mem_range] at hg hdisB hops
  have hdst : ∀ k, k < m → ∃ d, dst l k = some d ∧ d < a0.tmps.size := by
    intro k hk
    have := hg k hk
    simp only [Bool.and_eq_true] at this
    have h2 := this.2
    cases hd : dst l k with
    | none => rw [hd] at h2; cases h2
    | some d => rw [hd] at h2; exact ⟨d, rfl, by simpa using h2⟩
  have hdis : ∀ k k', k < m → k' < m → k ≠ k' → dst l k ≠ dst l k' := by
    intro k k' hk hk' hne
    have := hdisB k hk k' hk'
    simp only [Bool.or_eq_true, beq_iff_eq, bne_iff_ne] at this
    exact this.resolve_left hne
  have htake : ∀ i, i < m0 → (l.take m0)[i]? = l[i]? := fun i hi => List.getElem?_take_of_lt hi
  have hlexT : ∀ i, i ≤ m0 → ∀ a, lexP (l.take m0) v i a = lexP l v i a := by
    intro i
    induction i with
    | zero => intros; rfl
    | succ i ih =>
      intro hi a
      rw [lexP, lexP, ih (by omega)]
      simp only [dst, htake i (by omega)]
  have hlen : (l.take m0).length = m0 := by rw [List.length_take]; omega
  rw [hlen, hlexT m0 (Nat.le_refl _)] at hend
  have hsz : l.toArray.size = l.length := by simp
  refine wp_region_ev hm m (by simp only [Bool.and_eq_true, decide_eq_true_eq]; exact ⟨⟨⟨by simpa using hml, hac⟩, htl⟩, hin⟩)
    (fun L a w1 => Below w.heap.size w w1 ∧ ∃ T : Nat → Value, Rel l m a0 L T a ∧ (∀ k, k < m0 → T k = v k) ∧
      (∀ k, m0 ≤ k → k < m → L.getD k false = true → ∃ g, T k = .pointer (some ⟨g, 0, none⟩) ∧ w.heap.size ≤ g ∧ w1.heap[g]? = some (.cells (zs k).1 (zs k).2 (0, 0))) ∧
      (∀ k k', m0 ≤ k → k < m → m0 ≤ k' → k' < m → k ≠ k' → L.getD k false = true → L.getD k' false = true → T k ≠ T k')) ?_ ?_ ?_
  · refine ⟨(Below.refl _ _).drew, v, ⟨rfl, rfl, fun k d _ _ hL => ?_, fun t _ => rfl⟩, fun _ _ => rfl, fun k _ _ hL => ?_, fun k k' _ _ _ _ _ hL => ?_⟩
    all_goals (simp [Array.getElem?_replicate] at hL; split at hL <;> simp at hL)
  · intro i him L a w1 hL hu hd ⟨hBw, T, hR, hT, hal, hne⟩
    have hLi : i < L.size := by omega
    obtain ⟨d, hdi, hdN⟩ := hdst i him
    have hli : i < l.length := by omega
    have ho : l.toArray[i]? = some l[i] := by simp [hli]
    have hol : l[i]? = some l[i] := List.getElem?_eq_getElem hli
    have hod : (l[i]).dst = some d := by simpa [dst, hol] using hdi
    have hgu : (l[i]).guard = none := by
      have := hg i him
      simp only [Bool.and_eq_true, hol, Option.map_some, Option.getD_some, Option.isNone_iff_eq_none] at this
      exact this.1
    unfold wpOp
    simp only [ho, wanted_none hgu, if_true]
    refine Or.inl ?_
    rcases Nat.lt_or_ge i m0 with hlt | hge
    · -- an operation of the first kind
      have hlex := lexP_rel (m := m) (a0 := a0) v hdst hdis i (by omega)
      have hsel : ∀ cs b, (l[i]).op ≠ .select cs b := fun cs b => Region.noSelect_spec hns i l[i] cs b ho
      have hev : execOp a.eval l[i] = execOp (lexP l v i a0).eval l[i] := by
        refine execOp_congr _ hsel fun x hx => ?_
        cases x with
        | tmp t =>
          show a.tmps.getD t undef = (lexP l v i a0).tmps.getD t undef
          by_cases hex : ∃ k, k < m ∧ dst l k = some t
          · obtain ⟨k, hk, hkt⟩ := hex
            have hdep : dep l.toArray i k = true := by
              have := hops i hlt k hk
              simp only [hol, hkt, Bool.or_eq_true, Bool.not_eq_true', List.any_eq_false] at this
              refine this.resolve_left fun hall => ?_
              have := hall (.tmp t) (by simpa using hx)
              simp at this
            have hLk := hd k hdep
            have hki : k < i := by
              have h1 := hac
              simp only [acyc, List.all_eq_true, List.mem_range] at h1
              have := h1 i (by simpa using hli) k (by simp; omega)
              simpa [hdep] using this
            rw [hR.here k t hk hkt hLk, hT k (by omega), hlex.2.2.1 k t hki hkt]
          · rw [hR.else_ t (fun k e hk he _ heq => hex ⟨k, hk, by rw [he, heq]⟩), hlex.2.2.2 t (fun k e hk he heq => hex ⟨k, by omega, by rw [he, heq]⟩)]
        | _ => rfl
      have hq := hv i l[i] (by rw [htake i hlt]; exact hol) w1 hBw
      rw [hlexT i (by omega)] at hq
      have next : ∀ w2, Below w1.heap.size w1 w2 → Below w.heap.size w w2 ∧ ∃ T : Nat → Value, Rel l m a0 (L.setIfInBounds i true) T (a.put (l[i]).dst (v i)) ∧ (∀ k, k < m0 → T k = v k) ∧
          (∀ k, m0 ≤ k → k < m → (L.setIfInBounds i true).getD k false = true → ∃ g, T k = .pointer (some ⟨g, 0, none⟩) ∧ w.heap.size ≤ g ∧ w2.heap[g]? = some (.cells (zs k).1 (zs k).2 (0, 0))) ∧
          (∀ k k', m0 ≤ k → k < m → m0 ≤ k' → k' < m → k ≠ k' → (L.setIfInBounds i true).getD k false = true → (L.setIfInBounds i true).getD k' false = true → T k ≠ T k') := by
        intro w2 h2
        refine ⟨hBw.trans (h2.mono hBw.size), T, ?_, hT, fun k hk1 hk2 hLk => ?_, fun k k' h1 h2 h3 h4 h5 h6 h7 => ?_⟩
        · rw [hod]
          exact hR.put him hLi hdi hdN hdis (v i) T (hT i hlt) (fun _ _ => rfl)
        · rw [getD_set hLi] at hLk
          obtain ⟨g, hg1, hg2, hg3⟩ := hal k hk1 hk2 (by simpa [show k ≠ i by omega] using hLk)
          have hgl : g < w1.heap.size := by
            rcases Nat.lt_or_ge g w1.heap.size with h | h
            · exact h
            · rw [Array.getElem?_eq_none h] at hg3; cases hg3
          exact ⟨g, hg1, hg2, (h2.block g hgl).trans hg3⟩
        · rw [getD_set hLi] at h6 h7
          exact hne k k' h1 h2 h3 h4 h5 (by simpa [show k ≠ i by omega] using h6) (by simpa [show k' ≠ i by omega] using h7)
      unfold gAt at hq
      unfold Oper.wp
      rw [hev]
      generalize (execOp (lexP l v i a0).eval l[i]).run P w1 = r at *
      cases r with
      | ok n w2 =>
        cases n <;> simp only [Oper.quietUpon] at hq <;> simp only [Oper.upon]
        case value u =>
          obtain ⟨e1, e2⟩ := hq
          rw [e1, e2]
          exact next _ (Below.refl _ _)
        case skip =>
          obtain ⟨e1, e2⟩ := hq
          rw [e1, ← e2]
          exact next _ (Below.refl _ _)
        case enter f args =>
          obtain ⟨e1, hc⟩ := hq
          rw [e1]
          exact hc.mono fun e w'' ⟨he, hw''⟩ => by subst he; exact next _ hw''
      | halt x w2 => simp only [Oper.quietUpon] at hq
    · -- a new variable
      unfold Oper.wp
      rw [hz i l[i] hge him hol a.eval w1]
      simp only [Oper.upon]
      refine ⟨hBw.alloc hBw.size _, fun k => if k = i then .pointer (some ⟨w1.heap.size, 0, none⟩) else T k, ?_, fun k hk => ?_, fun k hk1 hk2 hLk => ?_, fun k k' h1 h2 h3 h4 h5 h6 h7 => ?_⟩
      · rw [hod]
        exact hR.put him hLi hdi hdN hdis _ _ (by simp) (fun k hk => by simp [hk])
      · show (if k = i then _ else T k) = v k
        rw [if_neg (by omega)]
        exact hT k hk
      · rw [getD_set hLi] at hLk
        by_cases hki : k = i
        · subst hki
          exact ⟨w1.heap.size, by simp, hBw.size, heap_alloc_new w1 _⟩
        · obtain ⟨g, hg1, hg2, hg3⟩ := hal k hk1 hk2 (by simpa [hki] using hLk)
          have hgl : g < w1.heap.size := by
            rcases Nat.lt_or_ge g w1.heap.size with h | h
            · exact h
            · rw [Array.getElem?_eq_none h] at hg3; cases hg3
          exact ⟨g, by simp [hki, hg1], hg2, (Below.heap_alloc w1 _ g hgl).trans hg3⟩
      · rw [getD_set hLi] at h6 h7
        have old : ∀ x, m0 ≤ x → x < m → x ≠ i → L.getD x false = true → T x ≠ .pointer (some ⟨w1.heap.size, 0, none⟩) := by
          intro x hx1 hx2 hxi hLx heq
          obtain ⟨g, hg1, _, hg3⟩ := hal x hx1 hx2 hLx
          rw [hg1] at heq
          simp at heq
          rw [heq, Array.getElem?_eq_none (Nat.le_refl _)] at hg3
          cases hg3
        by_cases hki : k = i
        · subst hki
          have hk' : k' ≠ k := fun e => h5 e.symm
          simp only [if_true, hk', if_false]
          exact (old k' h3 h4 hk' (by simpa [hk'] using h7)).symm
        · by_cases hki' : k' = i
          · subst hki'
            simp only [hki, if_false, if_true]
            exact old k h1 h2 hki (by simpa [hki] using h6)
          · simp only [hki, hki', if_false]
            exact hne k k' h1 h2 h3 h4 h5 (by simpa [hki] using h6) (by simpa [hki'] using h7)
  · intro L a w1 hall ⟨hBw, T, hR, hT, hal, hne⟩
    have hgs : ∀ k, ∃ g, m0 ≤ k → k < m → T k = .pointer (some ⟨g, 0, none⟩) ∧ w.heap.size ≤ g ∧ w1.heap[g]? = some (.cells (zs k).1 (zs k).2 (0, 0)) := by
      intro k
      by_cases hk : m0 ≤ k ∧ k < m
      · obtain ⟨g, h1⟩ := hal k hk.1 hk.2 (hall k hk.2)
        exact ⟨g, fun _ _ => h1⟩
      · exact ⟨0, fun h1 h2 => absurd ⟨h1, h2⟩ hk⟩
    obtain ⟨g, hgg⟩ := Classical.axiomOfChoice hgs
    have hlex := lexP_rel (m := m) (a0 := a0) v hdst hdis m0 hmm
    have hpp := putPtrs_rel (l := l) (m := m) g hdst hdis (m - m0) m0 (lexP l v m0 a0) (by omega) hlex.2.1
    have ha : a = putPtrs l g (List.range' m0 (m - m0)) (lexP l v m0 a0) := by
      refine act_ext (by rw [hR.defers, hpp.1, hlex.1]) (by rw [hR.size, hpp.2.1]) fun t => ?_
      by_cases hex : ∃ k, k < m ∧ dst l k = some t
      · obtain ⟨k, hk, hkt⟩ := hex
        rw [hR.here k t hk hkt (hall k hk)]
        rcases Nat.lt_or_ge k m0 with hlt | hge
        · rw [hT k hlt, hpp.2.2.2 t (fun k' e h1 h2 he heq => hdis k' k (by omega) hk (by omega) (by rw [he, hkt, heq])), hlex.2.2.1 k t hlt hkt]
        · rw [hpp.2.2.1 k t hge (by omega) hkt, (hgg k hge hk).1]
      · rw [hR.else_ t (fun k e hk he _ heq => hex ⟨k, hk, by rw [he, heq]⟩), hpp.2.2.2 t (fun k e h1 h2 he heq => hex ⟨k, by omega, by rw [he, heq]⟩), hlex.2.2.2 t (fun k e hk he heq => hex ⟨k, by omega, by rw [he, heq]⟩)]
    have hfin := hend w1 g hBw (fun k h1 h2 => ⟨(hgg k h1 h2).2.1, (hgg k h1 h2).2.2⟩) (fun k k' h1 h2 h3 h4 h5 heq => hne k k' h1 h2 h3 h4 h5 (hall k h2) (hall k' h4) (by rw [(hgg k h1 h2).1, (hgg k' h3 h4).1, heq]))
    rw [← ha] at hfin
    have hw := wpOps_eq_wpList (P := P) (ops := l.toArray) (Q := Q) (l.drop m) m (fun j => by simp)
    rw [List.length_drop] at hw
    rw [hsz, hw]
    exact hfin
end
end Go.Proofs.YtbjcbbnfgfmllaaGreatDoor.Reg
namespace Go.Proofs.YtbjcbbnfgfmllaaGreatDoor.Reg
open Go Go.RowKit
def chk2 (l : List Oper) (m0 ks : Nat) (d0 sd : Tmp) (N : Nat) : Bool :=
  decide (m0 + 2 ≤ l.length) && decide (ks < m0) && acyc l.toArray && tailB l.toArray (m0 + 2) && onlyIn l.toArray && Region.noSelect l.toArray &&
  ((List.range (m0 + 1)).all fun k => ((l[k]?).map fun o => o.guard.isNone).getD false && (match dst l k with | some d => decide (d < N) | none => false)) &&
  ((List.range (m0 + 1)).all fun k => (List.range (m0 + 1)).all fun k' => k == k' || dst l k != dst l k') &&
  ((List.range m0).all fun i => (List.range (m0 + 1)).all fun k => match l[i]?, dst l k with | some o, some d => !(o.op.operands.toList.any fun x => match x with | .tmp t => t == d | _ => false) || dep l.toArray i k | _, _ => false) &&
  (dst l m0 == some d0) && (dst l ks == some sd) && dep l.toArray (m0 + 1) m0 && dep l.toArray (m0 + 1) ks && ((l[m0 + 1]?).map fun o => o.guard.isNone && o.dst.isNone).getD false

theorem Rel.past {l : List Oper} {m : Nat} {a0 a : Act} {L : Array Bool} {T : Nat → Value} {i : Nat} (h : Rel l m a0 L T a) (hi : m ≤ i) (hL : i < L.size) : Rel l m a0 (L.setIfInBounds i true) T a := by
  refine ⟨h.defers, h.size, fun k d hk hd hLk => ?_, fun t ht => ?_⟩
  · rw [getD_set hL] at hLk
    exact h.here k d hk hd (by simpa [show k ≠ i by omega] using hLk)
  · refine h.else_ t fun k d hk hd hLk => ht k d hk hd ?_
    rw [getD_set hL, hLk]
    simp

section
variable {P : Program} {Q : Exit → Act → World → Prop}
theorem wp_region_store {id : Nat} {l : List Oper} {a0 : Act} {w : World} (hm : P.follows .mixedOrders = true) (m0 ks : Nat) (d0 sd : Tmp) (zs : Array Value × TypeId) (V : Value) (u0 : Value) (us : List Value)
    (hB : chk2 l m0 ks d0 sd a0.tmps.size = true)
    (hz : ∀ o, l[m0]? = some o → ∀ (ρ : Operand → Value) (w : World), (execOp ρ o).run P w = .ok (.value (.pointer (some ⟨w.heap.size, 0, none⟩))) (w.alloc (.cells zs.1 zs.2)))
    (hs : ∀ o, l[m0 + 1]? = some o → ∀ (ρ : Operand → Value) (w : World) (g : Nat), ρ (.tmp d0) = .pointer (some ⟨g, 0, none⟩) → ρ (.tmp sd) = V → w.heap[g]? = some (.cells zs.1 zs.2 (0, 0)) →
      ∃ w2, (execOp ρ o).run P w = .ok .skip w2 ∧ (∀ j v, (u0 :: us)[j]? = some v → w2.cell? ⟨g, j, none⟩ = some v) ∧ ∀ B, B ≤ g → Below B w w2)
    (h : wpG P w (fun aE => aE.tmps.getD sd undef = V ∧ ∀ (w' : World) (g : Nat), Below w.heap.size w w' → w.heap.size ≤ g → (∀ j v, (u0 :: us)[j]? = some v → w'.cell? ⟨g, j, none⟩ = some v) →
      wpList P l.toArray Q (l.drop (m0 + 2)) (aE.put (dst l m0) (.pointer (some ⟨g, 0, none⟩))) w') (l.take m0) a0) :
    (Code.region id l.toArray true).wp P Q a0 w := by
  obtain ⟨v, hv, hV, hend⟩ := wpG_vals _ _ h
  simp only [chk2, Bool.and_eq_true, decide_eq_true_eq, beq_iff_eq] at hB
  obtain ⟨⟨⟨⟨⟨⟨⟨⟨⟨⟨⟨⟨⟨hml, hks⟩, hac⟩, htl⟩, hin⟩, hns⟩, hg⟩, hdisB⟩, hops⟩, hd0⟩, hsd⟩, hdepA⟩, hdepK⟩, hst⟩ := hB
  simp only [List.all_eq_true, List.mem_range] at hg hdisB hops
  have hdst : ∀ k, k < m0 + 1 → ∃ d, dst l k = some d ∧ d < a0.tmps.size := by
    intro k hk
    have := hg k hk
    simp only [Bool.and_eq_true] at this
    have h2 := this.2
    cases hd : dst l k with
    | none => rw [hd] at h2; cases h2
    | some d => rw [hd] at h2; exact ⟨d, rfl, by simpa using h2⟩
  have hdis : ∀ k k', k < m0 + 1 → k' < m0 + 1 → k ≠ k' → dst l k ≠ dst l k' := by
    intro k k' hk hk' hne
    have := hdisB k hk k' hk'
    simp only [Bool.or_eq_true, beq_iff_eq, bne_iff_ne] at this
    exact this.resolve_left hne
  have htake : ∀ i, i < m0 → (l.take m0)[i]? = l[i]? := fun i hi => List.getElem?_take_of_lt hi
  have hlexT : ∀ i, i ≤ m0 → ∀ a, lexP (l.take m0) v i a = lexP l v i a := by
    intro i
    induction i with
    | zero => intros; rfl
    | succ i ih =>
      intro hi a
      rw [lexP, lexP, ih (by omega)]
      simp only [dst, htake i (by omega)]
  have hlen : (l.take m0).length = m0 := by rw [List.length_take]; omega
  rw [hlen, hlexT m0 (Nat.le_refl _)] at hend hV
  have hlexM := lexP_rel (m := m0 + 1) (a0 := a0) v hdst hdis m0 (by omega)
  have hVk : v ks = V := by rw [← hV, hlexM.2.2.1 ks sd hks hsd]
  have hsz : l.toArray.size = l.length := by simp
  refine wp_region_ev hm (m0 + 2) (by simp only [Bool.and_eq_true, decide_eq_true_eq]; exact ⟨⟨⟨by simpa using hml, hac⟩, htl⟩, hin⟩)
    (fun L a w1 => Below w.heap.size w w1 ∧ (L.getD (m0 + 1) false = true → L.getD m0 false = true) ∧ ∃ T : Nat → Value, Rel l (m0 + 1) a0 L T a ∧ (∀ k, k < m0 → T k = v k) ∧
      (L.getD m0 false = true → ∃ g, T m0 = .pointer (some ⟨g, 0, none⟩) ∧ w.heap.size ≤ g ∧ g < w1.heap.size ∧
        (L.getD (m0 + 1) false = true → ∀ j u, (u0 :: us)[j]? = some u → w1.cell? ⟨g, j, none⟩ = some u) ∧ (L.getD (m0 + 1) false = false → w1.heap[g]? = some (.cells zs.1 zs.2 (0, 0))))) ?_ ?_ ?_
  · refine ⟨(Below.refl _ _).drew, fun hL => ?_, v, ⟨rfl, rfl, fun k d _ _ hL => ?_, fun t _ => rfl⟩, fun _ _ => rfl, fun hL => ?_⟩
    all_goals (simp [Array.getElem?_replicate] at hL; split at hL <;> simp at hL)
  · intro i him L a w1 hL hu hd ⟨hBw, hSM, T, hR, hT, hal⟩
    have hLi : i < L.size := by omega
    have hli : i < l.length := by omega
    have ho : l.toArray[i]? = some l[i] := by simp [hli]
    have hol : l[i]? = some l[i] := List.getElem?_eq_getElem hli
    have hgu : (l[i]).guard = none := by
      by_cases hi1 : i < m0 + 1
      · have := hg i hi1
        simp only [Bool.and_eq_true, hol, Option.map_some, Option.getD_some, Option.isNone_iff_eq_none] at this
        exact this.1
      · obtain rfl : i = m0 + 1 := by omega
        rw [hol] at hst
        simp only [Option.map_some, Option.getD_some, Bool.and_eq_true, Option.isNone_iff_eq_none] at hst
        exact hst.1
    unfold wpOp
    simp only [ho, wanted_none hgu, if_true]
    refine Or.inl ?_
    rcases Nat.lt_or_ge i m0 with hlt | hge
    · obtain ⟨d, hdi, hdN⟩ := hdst i (by omega)
      have hod : (l[i]).dst = some d := by simpa [dst, hol] using hdi
      have hlex := lexP_rel (m := m0 + 1) (a0 := a0) v hdst hdis i (by omega)
      have hsel : ∀ cs b, (l[i]).op ≠ .select cs b := fun cs b => Region.noSelect_spec hns i l[i] cs b ho
      have hev : execOp a.eval l[i] = execOp (lexP l v i a0).eval l[i] := by
        refine execOp_congr _ hsel fun x hx => ?_
        cases x with
        | tmp t =>
          show a.tmps.getD t undef = (lexP l v i a0).tmps.getD t undef
          by_cases hex : ∃ k, k < m0 + 1 ∧ dst l k = some t
          · obtain ⟨k, hk, hkt⟩ := hex
            have hdep : dep l.toArray i k = true := by
              have := hops i hlt k hk
              simp only [hol, hkt, Bool.or_eq_true, Bool.not_eq_true', List.any_eq_false] at this
              refine this.resolve_left fun hall => ?_
              have := hall (.tmp t) (by simpa using hx)
              simp at this
            have hLk := hd k hdep
            have hki : k < i := by
              have h1 := hac
              simp only [acyc, List.all_eq_true, List.mem_range] at h1
              have := h1 i (by simpa using hli) k (by simp; omega)
              simpa [hdep] using this
            rw [hR.here k t hk hkt hLk, hT k (by omega), hlex.2.2.1 k t hki hkt]
          · rw [hR.else_ t (fun k e hk he _ heq => hex ⟨k, hk, by rw [he, heq]⟩), hlex.2.2.2 t (fun k e hk he heq => hex ⟨k, by omega, by rw [he, heq]⟩)]
        | _ => rfl
      have hq := hv i l[i] (by rw [htake i hlt]; exact hol) w1 hBw
      rw [hlexT i (by omega)] at hq
      have next : ∀ w2, Below w1.heap.size w1 w2 → Below w.heap.size w w2 ∧ ((L.setIfInBounds i true).getD (m0 + 1) false = true → (L.setIfInBounds i true).getD m0 false = true) ∧ ∃ T : Nat → Value, Rel l (m0 + 1) a0 (L.setIfInBounds i true) T (a.put (l[i]).dst (v i)) ∧ (∀ k, k < m0 → T k = v k) ∧
          ((L.setIfInBounds i true).getD m0 false = true → ∃ g, T m0 = .pointer (some ⟨g, 0, none⟩) ∧ w.heap.size ≤ g ∧ g < w2.heap.size ∧
            ((L.setIfInBounds i true).getD (m0 + 1) false = true → ∀ j u, (u0 :: us)[j]? = some u → w2.cell? ⟨g, j, none⟩ = some u) ∧ ((L.setIfInBounds i true).getD (m0 + 1) false = false → w2.heap[g]? = some (.cells zs.1 zs.2 (0, 0)))) := by
        intro w2 h2
        have e0 : (L.setIfInBounds i true).getD m0 false = L.getD m0 false := by rw [getD_set hLi]; simp [show m0 ≠ i by omega]
        have e1 : (L.setIfInBounds i true).getD (m0 + 1) false = L.getD (m0 + 1) false := by rw [getD_set hLi]; simp [show m0 + 1 ≠ i by omega]
        rw [e0, e1]
        refine ⟨hBw.trans (h2.mono hBw.size), hSM, T, ?_, hT, fun hL0 => ?_⟩
        · rw [hod]
          exact hR.put (by omega) hLi hdi hdN hdis (v i) T (hT i hlt) (fun _ _ => rfl)
        · obtain ⟨g, hg1, hg2, hg3, hg4, hg5⟩ := hal hL0
          have hs2 := h2.size
          exact ⟨g, hg1, hg2, by omega, fun hL1 j u hj => (h2.cell (p := ⟨g, j, none⟩) hg3).trans (hg4 hL1 j u hj), fun hL1 => (h2.block g hg3).trans (hg5 hL1)⟩
      unfold gAt at hq
      unfold Oper.wp
      rw [hev]
      generalize (execOp (lexP l v i a0).eval l[i]).run P w1 = r at *
      cases r with
      | ok n w2 =>
        cases n <;> simp only [Oper.quietUpon] at hq <;> simp only [Oper.upon]
        case value u =>
          obtain ⟨e1, e2⟩ := hq
          rw [e1, e2]
          exact next _ (Below.refl _ _)
        case skip =>
          obtain ⟨e1, e2⟩ := hq
          rw [e1, ← e2]
          exact next _ (Below.refl _ _)
        case enter f args =>
          obtain ⟨e1, hc⟩ := hq
          rw [e1]
          exact hc.mono fun e w'' ⟨he, hw''⟩ => by subst he; exact next _ hw''
      | halt x w2 => simp only [Oper.quietUpon] at hq
    · rcases Nat.lt_or_ge m0 i with hgt | hle
      · -- the store
        obtain rfl : i = m0 + 1 := by omega
        have hLA := hd m0 hdepA
        have hLK := hd ks hdepK
        obtain ⟨g, hg1, hg2, hg3, hg4, hg5⟩ := hal hLA
        have r0 : a.eval (.tmp d0) = .pointer (some ⟨g, 0, none⟩) := by
          show a.tmps.getD d0 undef = _
          rw [hR.here m0 d0 (by omega) hd0 hLA, hg1]
        have r1 : a.eval (.tmp sd) = V := by
          show a.tmps.getD sd undef = _
          rw [hR.here ks sd (by omega) hsd hLK, hT ks hks, hVk]
        obtain ⟨w2, hrun, hc, hbl⟩ := hs l[m0 + 1] hol a.eval w1 g r0 r1 (hg5 hu)
        have hnd : (l[m0 + 1]).dst = none := by
          rw [hol] at hst
          simp only [Option.map_some, Option.getD_some, Bool.and_eq_true, Option.isNone_iff_eq_none] at hst
          exact hst.2
        unfold Oper.wp
        rw [hrun]
        simp only [Oper.upon]
        rw [hnd]
        have e0 : (L.setIfInBounds (m0 + 1) true).getD m0 false = true := by rw [getD_set hLi, hLA]; simp
        have e1 : (L.setIfInBounds (m0 + 1) true).getD (m0 + 1) false = true := by rw [getD_set hLi]; simp
        rw [e0, e1]
        refine ⟨hBw.trans (hbl _ hg2), fun _ => rfl, T, hR.past (by omega) hLi, hT, fun _ => ⟨g, hg1, hg2, ?_, fun _ => hc, fun h => by cases h⟩⟩
        exact World.block_lt_of_cell? w2 _ (hc 0 u0 rfl)
      · -- the new variable
        obtain rfl : i = m0 := by omega
        obtain ⟨d, hdi, hdN⟩ := hdst i (by omega)
        have hod : (l[i]).dst = some d := by simpa [dst, hol] using hdi
        unfold Oper.wp
        rw [hz l[i] hol a.eval w1]
        simp only [Oper.upon]
        have hS0 : L.getD (i + 1) false = false := by
          cases hx : L.getD (i + 1) false with
          | false => rfl
          | true => rw [hSM hx] at hu; cases hu
        have e0 : (L.setIfInBounds i true).getD i false = true := by rw [getD_set hLi]; simp
        have e1 : (L.setIfInBounds i true).getD (i + 1) false = false := by rw [getD_set hLi, hS0]; simp
        rw [e0, e1]
        refine ⟨hBw.alloc hBw.size _, (fun h => by cases h), fun k => if k = i then .pointer (some ⟨w1.heap.size, 0, none⟩) else T k, ?_, fun k hk => ?_, fun _ => ⟨w1.heap.size, by simp, hBw.size, by simp, (fun h => by cases h), fun _ => heap_alloc_new w1 _⟩⟩
        · rw [hod]
          exact hR.put (by omega) hLi hdi hdN hdis _ _ (by simp) (fun k hk => by simp [hk])
        · show (if k = i then _ else T k) = v k
          rw [if_neg (by omega)]
          exact hT k hk
  · intro L a w1 hall ⟨hBw, hSM, T, hR, hT, hal⟩
    obtain ⟨g, hg1, hg2, hg3, hg4, hg5⟩ := hal (hall m0 (by omega))
    have hpp := putPtrs_rel (l := l) (m := m0 + 1) (fun _ => g) hdst hdis 1 m0 (lexP l v m0 a0) (by omega) hlexM.2.1
    have ha : a = putPtrs l (fun _ => g) (List.range' m0 1) (lexP l v m0 a0) := by
      refine act_ext (by rw [hR.defers, hpp.1, hlexM.1]) (by rw [hR.size, hpp.2.1]) fun t => ?_
      by_cases hex : ∃ k, k < m0 + 1 ∧ dst l k = some t
      · obtain ⟨k, hk, hkt⟩ := hex
        rw [hR.here k t hk hkt (hall k (by omega))]
        rcases Nat.lt_or_ge k m0 with hlt | hge
        · rw [hT k hlt, hpp.2.2.2 t (fun k' e h1 h2 he heq => hdis k' k (by omega) hk (by omega) (by rw [he, hkt, heq])), hlexM.2.2.1 k t hlt hkt]
        · obtain rfl : k = m0 := by omega
          rw [hpp.2.2.1 k t (Nat.le_refl _) (by omega) hkt, hg1]
      · rw [hR.else_ t (fun k e hk he _ heq => hex ⟨k, hk, by rw [he, heq]⟩), hpp.2.2.2 t (fun k e h1 h2 he heq => hex ⟨k, by omega, by rw [he, heq]⟩), hlexM.2.2.2 t (fun k e hk he heq => hex ⟨k, by omega, by rw [he, heq]⟩)]
    have hfin := hend w1 g hBw hg2 (hg4 (hall (m0 + 1) (by omega)))
    have ha2 : a = (lexP l v m0 a0).put (dst l m0) (.pointer (some ⟨g, 0, none⟩)) := ha
    rw [← ha2] at hfin
    have hw := wpOps_eq_wpList (P := P) (ops := l.toArray) (Q := Q) (l.drop (m0 + 2)) (m0 + 2) (fun j => by simp)
    rw [List.length_drop] at hw
    rw [hsz, hw]
    exact hfin
theorem wp_region_store' {id : Nat} {l : List Oper} {a0 : Act} {w : World} (hm : P.follows .mixedOrders = true) (m0 ks : Nat) (zs : Array Value × TypeId) (V : Value) (u0 : Value) (us : List Value)
    (hB : chk2 l m0 ks ((dst l m0).getD 0) ((dst l ks).getD 0) a0.tmps.size = true)
    (hz : ∀ o, l[m0]? = some o → ∀ (ρ : Operand → Value) (w : World), (execOp ρ o).run P w = .ok (.value (.pointer (some ⟨w.heap.size, 0, none⟩))) (w.alloc (.cells zs.1 zs.2)))
    (hs : ∀ o, l[m0 + 1]? = some o → ∀ (ρ : Operand → Value) (w : World) (g : Nat), ρ (.tmp ((dst l m0).getD 0)) = .pointer (some ⟨g, 0, none⟩) → ρ (.tmp ((dst l ks).getD 0)) = V → w.heap[g]? = some (.cells zs.1 zs.2 (0, 0)) →
      ∃ w2, (execOp ρ o).run P w = .ok .skip w2 ∧ (∀ j v, (u0 :: us)[j]? = some v → w2.cell? ⟨g, j, none⟩ = some v) ∧ ∀ B, B ≤ g → Below B w w2)
    (h : wpG P w (fun aE => aE.tmps.getD ((dst l ks).getD 0) undef = V ∧ ∀ (w' : World) (g : Nat), Below w.heap.size w w' → w.heap.size ≤ g → (∀ j v, (u0 :: us)[j]? = some v → w'.cell? ⟨g, j, none⟩ = some v) →
      wpList P l.toArray Q (l.drop (m0 + 2)) (aE.put (dst l m0) (.pointer (some ⟨g, 0, none⟩))) w') (l.take m0) a0) :
    (Code.region id l.toArray true).wp P Q a0 w := wp_region_store hm m0 ks _ _ zs V u0 us hB hz hs h
end
end Go.Proofs.YtbjcbbnfgfmllaaGreatDoor.Reg
namespace Go.Proofs.YtbjcbbnfgfmllaaGreatDoor.Reg
open Go.RowKit
section
variable {P : Program} {Q : Exit → Act → World → Prop}
def wpV (P : Program) (QA : Act → Prop) : List Oper → Act → Prop
  | [], a => QA a
  | o :: rest, a => ∃ v, (∀ w, (execOp a.eval o).run P w = .ok (.value v) w) ∧ wpV P QA rest (a.put o.dst v)
theorem wpV_step {QA : Act → Prop} {o : Oper} {rest : List Oper} {a : Act} {v : Value} (h : ∀ w, (execOp a.eval o).run P w = .ok (.value v) w) (k : wpV P QA rest (a.put o.dst v)) : wpV P QA (o :: rest) a := ⟨v, h, k⟩
theorem wpV_vals {QA : Act → Prop} : ∀ (l : List Oper) (a : Act), wpV P QA l a →
    ∃ v : Nat → Value, (∀ i o, l[i]? = some o → ∀ w, (execOp (lexP l v i a).eval o).run P w = .ok (.value (v i)) w) ∧ QA (lexP l v l.length a)
  | [], a, h => ⟨fun _ => undef, fun i o ho => by simp at ho, h⟩
  | o :: l, a, h => by
    obtain ⟨v0, h1, h2⟩ := h
    obtain ⟨v, h3, h4⟩ := wpV_vals l _ h2
    refine ⟨fun k => match k with | 0 => v0 | k + 1 => v k, fun i o' ho => ?_, ?_⟩
    · cases i with
      | zero =>
        simp only [List.getElem?_cons_zero, Option.some.injEq] at ho
        subst ho
        exact h1
      | succ i =>
        rw [lexP_cons]
        exact h3 i o' (by simpa using ho)
    · rw [List.length_cons, lexP_cons]
      exact h4
def chkc (l : List Oper) (c N : Nat) : Bool :=
  decide (c < l.length) && acyc l.toArray && onlyIn l.toArray && Region.noSelect l.toArray &&
  ((List.range l.length).all fun k => ((l[k]?).map fun o => o.guard.isNone).getD false && (match dst l k with | some d => decide (d < N) | none => false)) &&
  ((List.range l.length).all fun k => (List.range l.length).all fun k' => k == k' || dst l k != dst l k') &&
  ((List.range l.length).all fun i => (List.range l.length).all fun k => match l[i]?, dst l k with | some o, some d => !(o.op.operands.toList.any fun x => match x with | .tmp t => t == d | _ => false) || dep l.toArray i k | _, _ => false) &&
  ((List.range l.length).all fun j => decide (j ≤ c) || reach l.toArray 8 j c) && ((List.range c).all fun k => reach l.toArray 8 c k)
theorem lexP_congr (l : List Oper) (a : Act) {v v' : Nat → Value} : ∀ i, (∀ k, k < i → v k = v' k) → lexP l v i a = lexP l v' i a
  | 0, _ => rfl
  | i + 1, h => by rw [lexP, lexP, lexP_congr l a i (fun k hk => h k (by omega)), h i (by omega)]
theorem lexP_drop (l : List Oper) (v : Nat → Value) (a : Act) (c : Nat) : ∀ i, lexP l v (c + i) a = lexP (l.drop c) (fun k => v (c + k)) i (lexP l v c a)
  | 0 => rfl
  | i + 1 => by
    rw [← Nat.add_assoc, lexP, lexP, lexP_drop l v a c i]
    simp only [dst, List.getElem?_drop]
theorem closed_set {ops : Array Oper} {L : Array Bool} {i : Nat} (hi : i < L.size) (hc : closed ops L) (hd : ∀ d, dep ops i d = true → L.getD d false = true) : closed ops (L.setIfInBounds i true) := by
  intro j k hjk hj
  rw [getD_set hi] at hj ⊢
  by_cases hji : j = i
  · subst hji
    rw [hd k hjk]; simp
  · rw [hc j k hjk (by simpa [hji] using hj)]; simp
theorem wp_region_call {id : Nat} {l : List Oper} {a0 : Act} {w : World} (hm : P.follows .mixedOrders = true) (c : Nat) (hB : chkc l c a0.tmps.size = true)
    (h : wpG P w (fun aE => ∀ w', Below w.heap.size w w' → ∃ f args, (∀ o, l[c]? = some o → (execOp aE.eval o).run P w' = .ok (.enter f args) w') ∧
      Calls P f args w' fun e w'' => ∃ vc, e = .returned vc ∧ wpV P (fun a => wpList P l.toArray Q [] a w'') (l.drop (c + 1)) (aE.put (dst l c) vc)) (l.take c) a0) :
    (Code.region id l.toArray true).wp P Q a0 w := by
  obtain ⟨v, hv, hend⟩ := wpG_vals _ _ h
  simp only [chkc, Bool.and_eq_true, decide_eq_true_eq] at hB
  obtain ⟨⟨⟨⟨⟨⟨⟨⟨hcl, hac⟩, hin⟩, hns⟩, hg⟩, hdisB⟩, hops⟩, haft⟩, hbef⟩ := hB
  simp only [List.all_eq_true, List.mem_range] at hg hdisB hops haft hbef
  have hdst : ∀ k, k < l.length → ∃ d, dst l k = some d ∧ d < a0.tmps.size := by
    intro k hk
    have := hg k hk
    simp only [Bool.and_eq_true] at this
    have h2 := this.2
    cases hd : dst l k with
    | none => rw [hd] at h2; cases h2
    | some d => rw [hd] at h2; exact ⟨d, rfl, by simpa using h2⟩
  have hdis : ∀ k k', k < l.length → k' < l.length → k ≠ k' → dst l k ≠ dst l k' := by
    intro k k' hk hk' hne
    have := hdisB k hk k' hk'
    simp only [Bool.or_eq_true, beq_iff_eq, bne_iff_ne] at this
    exact this.resolve_left hne
  have htake : ∀ i, i < c → (l.take c)[i]? = l[i]? := fun i hi => List.getElem?_take_of_lt hi
  have hlexT : ∀ i, i ≤ c → ∀ a, lexP (l.take c) v i a = lexP l v i a := by
    intro i
    induction i with
    | zero => intros; rfl
    | succ i ih =>
      intro hi a
      rw [lexP, lexP, ih (by omega)]
      simp only [dst, htake i (by omega)]
  have hlen : (l.take c).length = c := by rw [List.length_take]; omega
  rw [hlen, hlexT c (Nat.le_refl _)] at hend
  have hsz : l.toArray.size = l.length := by simp
  have evalEq : ∀ (i : Nat) (hli : i < l.length) (L : Array Bool) (a : Act) (T : Nat → Value), Rel l l.length a0 L T a → (∀ d, dep l.toArray i d = true → L.getD d false = true) → execOp a.eval l[i] = execOp (lexP l T i a0).eval l[i] := by
    intro i hli L a T hR hd
    have hol : l[i]? = some l[i] := List.getElem?_eq_getElem hli
    have ho : l.toArray[i]? = some l[i] := by simp [hli]
    have hsel : ∀ cs b, (l[i]).op ≠ .select cs b := fun cs b => Region.noSelect_spec hns i l[i] cs b ho
    have hlex := lexP_rel (m := l.length) (a0 := a0) T hdst hdis i (by omega)
    refine execOp_congr _ hsel fun x hx => ?_
    cases x with
    | tmp t =>
      show a.tmps.getD t undef = (lexP l T i a0).tmps.getD t undef
      by_cases hex : ∃ k, k < l.length ∧ dst l k = some t
      · obtain ⟨k, hk, hkt⟩ := hex
        have hdep : dep l.toArray i k = true := by
          have := hops i hli k hk
          simp only [hol, hkt, Bool.or_eq_true, Bool.not_eq_true', List.any_eq_false] at this
          refine this.resolve_left fun hall => ?_
          have := hall (.tmp t) (by simpa using hx)
          simp at this
        have hLk := hd k hdep
        have hki : k < i := by
          have h1 := hac
          simp only [acyc, List.all_eq_true, List.mem_range] at h1
          have := h1 i (by simpa using hli) k (by simp; omega)
          simpa [hdep] using this
        rw [hR.here k t hk hkt hLk, hlex.2.2.1 k t hki hkt]
      · rw [hR.else_ t (fun k e hk he _ heq => hex ⟨k, hk, by rw [he, heq]⟩), hlex.2.2.2 t (fun k e hk he heq => hex ⟨k, by omega, by rw [he, heq]⟩)]
    | _ => rfl
  have tailTriv : tailB l.toArray l.length = true := by
    simp only [tailB, List.all_eq_true, List.mem_range, Bool.or_eq_true, decide_eq_true_eq]
    intro j hj
    exact .inl (by simpa using hj)
  refine wp_region_ev hm l.length (by simp only [Bool.and_eq_true, decide_eq_true_eq]; exact ⟨⟨⟨by simp, hac⟩, tailTriv⟩, hin⟩)
    (fun L a w1 => closed l.toArray L ∧ ((L.getD c false = false ∧ Below w.heap.size w w1 ∧ Rel l l.length a0 L v a) ∨
      (L.getD c false = true ∧ ∃ T : Nat → Value, Rel l l.length a0 L T a ∧ (∀ i o, c < i → l[i]? = some o → ∀ w, (execOp (lexP l T i a0).eval o).run P w = .ok (.value (T i)) w) ∧ wpList P l.toArray Q [] (lexP l T l.length a0) w1))) ?_ ?_ ?_
  · refine ⟨fun j k _ hj => ?_, .inl ⟨?_, (Below.refl _ _).drew, ⟨rfl, rfl, fun k d _ _ hL => ?_, fun t _ => rfl⟩⟩⟩
    · simp [Array.getElem?_replicate] at hj; split at hj <;> simp at hj
    · simp [Array.getElem?_replicate]; split <;> simp
    · simp [Array.getElem?_replicate] at hL; split at hL <;> simp at hL
  · intro i him L a w1 hL hu hd ⟨hclo, hJ⟩
    have hLi : i < L.size := by omega
    obtain ⟨d, hdi, hdN⟩ := hdst i him
    have ho : l.toArray[i]? = some l[i] := by simp [him]
    have hol : l[i]? = some l[i] := List.getElem?_eq_getElem him
    have hod : (l[i]).dst = some d := by simpa [dst, hol] using hdi
    have hgu : (l[i]).guard = none := by
      have := hg i him
      simp only [Bool.and_eq_true, hol, Option.map_some, Option.getD_some, Option.isNone_iff_eq_none] at this
      exact this.1
    have hclo' := closed_set hLi hclo hd
    unfold wpOp
    simp only [ho, wanted_none hgu, if_true]
    refine Or.inl ?_
    rcases hJ with ⟨hcf, hBw, hR⟩ | ⟨hct, T, hR, hrun, hfin⟩
    · rcases Nat.lt_trichotomy i c with hlt | heq | hgt
      · have hq := hv i l[i] (by rw [htake i hlt]; exact hol) w1 hBw
        rw [hlexT i (by omega)] at hq
        have next : ∀ w2, Below w1.heap.size w1 w2 → closed l.toArray (L.setIfInBounds i true) ∧ (((L.setIfInBounds i true).getD c false = false ∧ Below w.heap.size w w2 ∧ Rel l l.length a0 (L.setIfInBounds i true) v (a.put (l[i]).dst (v i))) ∨
            ((L.setIfInBounds i true).getD c false = true ∧ ∃ T : Nat → Value, Rel l l.length a0 (L.setIfInBounds i true) T (a.put (l[i]).dst (v i)) ∧ (∀ i o, c < i → l[i]? = some o → ∀ w, (execOp (lexP l T i a0).eval o).run P w = .ok (.value (T i)) w) ∧ wpList P l.toArray Q [] (lexP l T l.length a0) w2)) := by
          intro w2 h2
          refine ⟨hclo', .inl ⟨?_, hBw.trans (h2.mono hBw.size), ?_⟩⟩
          · rw [getD_set hLi, hcf]
            simp; omega
          · rw [hod]
            exact hR.put him hLi hdi hdN hdis (v i) v rfl (fun _ _ => rfl)
        unfold gAt at hq
        unfold Oper.wp
        rw [evalEq i him L a v hR hd]
        generalize (execOp (lexP l v i a0).eval l[i]).run P w1 = r at *
        cases r with
        | ok n w2 =>
          cases n <;> simp only [Oper.quietUpon] at hq <;> simp only [Oper.upon]
          case value u =>
            obtain ⟨e1, e2⟩ := hq
            rw [e1, e2]
            exact next _ (Below.refl _ _)
          case skip =>
            obtain ⟨e1, e2⟩ := hq
            rw [e1, ← e2]
            exact next _ (Below.refl _ _)
          case enter f args =>
            obtain ⟨e1, hc⟩ := hq
            rw [e1]
            exact hc.mono fun e w'' ⟨he, hw''⟩ => by subst he; exact next _ hw''
        | halt x w2 => simp only [Oper.quietUpon] at hq
      · subst heq
        have hall : ∀ k, k < i → L.getD k false = true := fun k hk => reach_listed hclo 8 i k hd (hbef k hk)
        obtain ⟨f, args, hr, hc⟩ := hend w1 hBw
        unfold Oper.wp
        rw [evalEq i him L a v hR hd, hr l[i] hol]
        simp only [Oper.upon]
        refine hc.mono ?_
        rintro e w2 ⟨vc, rfl, hpure⟩
        obtain ⟨u, hu1, hu2⟩ := wpV_vals _ _ hpure
        refine ⟨hclo', .inr ⟨by rw [getD_set hLi]; simp, fun k => if k < i then v k else if k = i then vc else u (k - (i + 1)), ?_, ?_, ?_⟩⟩
        · rw [hod]
          have hno : ∀ k, i < k → k < l.length → L.getD k false = false := by
            intro k hk hkl
            cases hLk : L.getD k false with
            | false => rfl
            | true =>
              have := reach_listed hclo 8 k i (fun d hdd => hclo k d hdd hLk) (by have := haft k hkl; simp only [Bool.or_eq_true, decide_eq_true_eq] at this; exact this.resolve_left (by omega))
              rw [hcf] at this
              cases this
          have hR2 : Rel l l.length a0 L (fun k => if k < i then v k else if k = i then vc else u (k - (i + 1))) a := by
            refine ⟨hR.defers, hR.size, fun k e hk he hLk => ?_, hR.else_⟩
            have hki : k < i := by
              rcases Nat.lt_trichotomy k i with h | h | h
              · exact h
              · subst h; rw [hcf] at hLk; cases hLk
              · rw [hno k h hk] at hLk; cases hLk
            simp only [hki, if_true]
            exact hR.here k e hk he hLk
          exact hR2.put him hLi hdi hdN hdis vc _ (by simp) (fun _ _ => rfl)
        · intro j o hj hoj w3
          obtain ⟨q, rfl⟩ : ∃ q, j = i + 1 + q := ⟨j - (i + 1), by omega⟩
          have h1 := hu1 q o (by rw [List.getElem?_drop]; exact hoj) w3
          rw [lexP_drop]
          have e1 : lexP l (fun k => if k < i then v k else if k = i then vc else u (k - (i + 1))) (i + 1) a0 = (lexP l v i a0).put (dst l i) vc := by
            rw [lexP, lexP_congr l a0 (v' := v) i (fun k hk => by simp [hk])]
            simp
          rw [e1]
          have e2 : (fun k => (fun k => if k < i then v k else if k = i then vc else u (k - (i + 1))) (i + 1 + k)) = u := by
            funext k
            simp only [show ¬ i + 1 + k < i by omega, show ¬ i + 1 + k = i by omega, if_false]
            congr 1
            omega
          rw [e2]
          simp only [show ¬ i + 1 + q < i by omega, show ¬ i + 1 + q = i by omega, if_false, show i + 1 + q - (i + 1) = q by omega]
          exact h1
        · have e0 : l.length = i + 1 + (l.drop (i + 1)).length := by rw [List.length_drop]; omega
          rw [show lexP l (fun k => if k < i then v k else if k = i then vc else u (k - (i + 1))) l.length a0 = lexP l (fun k => if k < i then v k else if k = i then vc else u (k - (i + 1))) (i + 1 + (l.drop (i + 1)).length) a0 by rw [← e0], lexP_drop]
          have e1 : lexP l (fun k => if k < i then v k else if k = i then vc else u (k - (i + 1))) (i + 1) a0 = (lexP l v i a0).put (dst l i) vc := by
            rw [lexP, lexP_congr l a0 (v' := v) i (fun k hk => by simp [hk])]
            simp
          rw [e1]
          have e2 : (fun k => (fun k => if k < i then v k else if k = i then vc else u (k - (i + 1))) (i + 1 + k)) = u := by
            funext k
            simp only [show ¬ i + 1 + k < i by omega, show ¬ i + 1 + k = i by omega, if_false]
            congr 1
            omega
          rw [e2]
          exact hu2
      · have := reach_listed hclo 8 i c hd (by have := haft i him; simp only [Bool.or_eq_true, decide_eq_true_eq] at this; exact this.resolve_left (by omega))
        rw [hcf] at this
        cases this
    · have hne : i ≠ c := by rintro rfl; rw [hct] at hu; cases hu
      have hgt : c < i := by
        rcases Nat.lt_trichotomy i c with h | h | h
        · have := reach_listed hclo 8 c i (fun d hdd => hclo c d hdd hct) (hbef i h)
          rw [hu] at this
          cases this
        · exact absurd h hne
        · exact h
      unfold Oper.wp
      rw [evalEq i him L a T hR hd, hrun i l[i] hgt hol w1]
      simp only [Oper.upon]
      refine ⟨hclo', .inr ⟨by rw [getD_set hLi, hct]; simp, T, ?_, hrun, hfin⟩⟩
      rw [hod]
      exact hR.put him hLi hdi hdN hdis (T i) T rfl (fun _ _ => rfl)
  · intro L a w1 hall ⟨hclo, hJ⟩
    rcases hJ with ⟨hcf, _⟩ | ⟨hct, T, hR, hrun, hfin⟩
    · rw [hall c hcl] at hcf; cases hcf
    · have hlex := lexP_rel (m := l.length) (a0 := a0) T hdst hdis l.length (Nat.le_refl _)
      have ha : a = lexP l T l.length a0 := by
        refine act_ext (by rw [hR.defers, hlex.1]) (by rw [hR.size, hlex.2.1]) fun t => ?_
        by_cases hex : ∃ k, k < l.length ∧ dst l k = some t
        · obtain ⟨k, hk, hkt⟩ := hex
          rw [hR.here k t hk hkt (hall k hk), hlex.2.2.1 k t hk hkt]
        · rw [hR.else_ t (fun k e hk he _ heq => hex ⟨k, hk, by rw [he, heq]⟩), hlex.2.2.2 t (fun k e hk he heq => hex ⟨k, hk, by rw [he, heq]⟩)]
      rw [ha]
      have hw := wpOps_eq_wpList (P := P) (ops := l.toArray) (Q := Q) [] l.length (fun j => by simp)
      rw [hsz, Nat.sub_self]
      simp only [List.length_nil] at hw
      rw [hw]
      exact hfin
end
end Go.Proofs.YtbjcbbnfgfmllaaGreatDoor.Reg
namespace Go.Proofs.YtbjcbbnfgfmllaaGreatDoor.Reg
open Go.RowKit
section
variable {P : Program} {Q : Exit → Act → World → Prop}
/-- Operation o is wanted and yields v, or is not wanted. -/
def hAt (P : Program) (l : List Oper) (o : Oper) (a : Act) (w : World) (v : Value) : Prop :=
  (Region.wanted o (yielded l.toArray a.tmps) = true ∧ gAt P o a w v) ∨ (Region.wanted o (yielded l.toArray a.tmps) = false ∧ v = undef)
def wpH (P : Program) (l0 : List Oper) (w0 : World) (QA : Act → Prop) : List Oper → Act → Prop
  | [], a => QA a
  | o :: rest, a => ∃ v, (∀ w, Below w0.heap.size w0 w → hAt P l0 o a w v) ∧ wpH P l0 w0 QA rest (a.put o.dst v)
theorem wpH_step {l0 : List Oper} {w0 : World} {QA : Act → Prop} {o : Oper} {rest : List Oper} {a : Act} {v : Value} (h : ∀ w, Below w0.heap.size w0 w → hAt P l0 o a w v) (k : wpH P l0 w0 QA rest (a.put o.dst v)) : wpH P l0 w0 QA (o :: rest) a := ⟨v, h, k⟩
theorem wpH_do {l0 : List Oper} {w0 : World} {QA : Act → Prop} {o : Oper} {rest : List Oper} {a : Act} {v : Value} (hw : Region.wanted o (yielded l0.toArray a.tmps) = true) (h : ∀ w, Below w0.heap.size w0 w → gAt P o a w v) (k : wpH P l0 w0 QA rest (a.put o.dst v)) : wpH P l0 w0 QA (o :: rest) a := ⟨v, fun w hb => .inl ⟨hw, h w hb⟩, k⟩
theorem wpH_skip {l0 : List Oper} {w0 : World} {QA : Act → Prop} {o : Oper} {rest : List Oper} {a : Act} (hw : Region.wanted o (yielded l0.toArray a.tmps) = false) (k : wpH P l0 w0 QA rest (a.put o.dst undef)) : wpH P l0 w0 QA (o :: rest) a := ⟨undef, fun w _ => .inr ⟨hw, rfl⟩, k⟩
theorem wpH_vals {l0 : List Oper} {w0 : World} {QA : Act → Prop} : ∀ (l : List Oper) (a : Act), wpH P l0 w0 QA l a →
    ∃ v : Nat → Value, (∀ i o, l[i]? = some o → ∀ w, Below w0.heap.size w0 w → hAt P l0 o (lexP l v i a) w (v i)) ∧ QA (lexP l v l.length a)
  | [], a, h => ⟨fun _ => undef, fun i o ho => by simp at ho, h⟩
  | o :: l, a, h => by
    obtain ⟨v0, h1, h2⟩ := h
    obtain ⟨v, h3, h4⟩ := wpH_vals l _ h2
    refine ⟨fun k => match k with | 0 => v0 | k + 1 => v k, fun i o' ho => ?_, ?_⟩
    · cases i with
      | zero =>
        simp only [List.getElem?_cons_zero, Option.some.injEq] at ho
        subst ho
        exact h1
      | succ i =>
        rw [lexP_cons]
        exact h3 i o' (by simpa using ho)
    · rw [List.length_cons, lexP_cons]
      exact h4
def chkh (l : List Oper) (m N : Nat) : Bool :=
  decide (m ≤ l.length) && acyc l.toArray && tailB l.toArray m && onlyIn l.toArray && Region.noSelect l.toArray &&
  ((List.range m).all fun k => (match dst l k with | some d => decide (d < N) | none => false)) &&
  ((List.range m).all fun k => (List.range m).all fun k' => k == k' || dst l k != dst l k') &&
  ((List.range m).all fun i => (List.range m).all fun k => match l[i]?, dst l k with | some o, some d => !(o.op.operands.toList.any fun x => match x with | .tmp t => t == d | _ => false) || dep l.toArray i k | _, _ => false) &&
  ((List.range m).all fun i => match l[i]? with | some o => (match o.guard with | none => true | some (k, _) => dep l.toArray i k && decide (k < m)) | none => false)
theorem wp_region_guard {id : Nat} {l : List Oper} {a0 : Act} {w : World} (hm : P.follows .mixedOrders = true) (m : Nat) (hB : chkh l m a0.tmps.size = true)
    (h : wpH P l w (fun aE => ∀ w' : World, Below w.heap.size w w' → wpList P l.toArray Q (l.drop m) aE w') (l.take m) a0) :
    (Code.region id l.toArray true).wp P Q a0 w := by
  obtain ⟨v, hv, hend⟩ := wpH_vals _ _ h
  simp only [chkh, Bool.and_eq_true, decide_eq_true_eq] at hB
  obtain ⟨⟨⟨⟨⟨⟨⟨⟨hml, hac⟩, htl⟩, hin⟩, hns⟩, hg⟩, hdisB⟩, hops⟩, hgrd⟩ := hB
  simp only [List.all_eq_true, List.mem_range] at hg hdisB hops hgrd
  have hdst : ∀ k, k < m → ∃ d, dst l k = some d ∧ d < a0.tmps.size := by
    intro k hk
    have h2 := hg k hk
    cases hd : dst l k with
    | none => rw [hd] at h2; cases h2
    | some d => rw [hd] at h2; exact ⟨d, rfl, by simpa using h2⟩
  have hdis : ∀ k k', k < m → k' < m → k ≠ k' → dst l k ≠ dst l k' := by
    intro k k' hk hk' hne
    have := hdisB k hk k' hk'
    simp only [Bool.or_eq_true, beq_iff_eq, bne_iff_ne] at this
    exact this.resolve_left hne
  have htake : ∀ i, i < m → (l.take m)[i]? = l[i]? := fun i hi => List.getElem?_take_of_lt hi
  have hlexT : ∀ i, i ≤ m → ∀ a, lexP (l.take m) v i a = lexP l v i a := by
    intro i
    induction i with
    | zero => intros; rfl
    | succ i ih =>
      intro hi a
      rw [lexP, lexP, ih (by omega)]
      simp only [dst, htake i (by omega)]
  have hlen : (l.take m).length = m := by rw [List.length_take]; omega
  rw [hlen, hlexT m (Nat.le_refl _)] at hend
  have hsz : l.toArray.size = l.length := by simp
  have slotEq : ∀ (i : Nat), i < m → ∀ (L : Array Bool) (a : Act), Rel l m a0 L v a → (∀ d, dep l.toArray i d = true → L.getD d false = true) → ∀ k, k < m → dep l.toArray i k = true → ∀ t, dst l k = some t → a.tmps.getD t undef = (lexP l v i a0).tmps.getD t undef := by
    intro i hi L a hR hd k hk hdep t hkt
    have hki : k < i := by
      have h1 := hac
      simp only [acyc, List.all_eq_true, List.mem_range] at h1
      have := h1 i (by simp; omega) k (by simp; omega)
      simpa [hdep] using this
    have hlex := lexP_rel (m := m) (a0 := a0) v hdst hdis i (by omega)
    rw [hR.here k t hk hkt (hd k hdep), hlex.2.2.1 k t hki hkt]
  refine wp_region_ev hm m (by simp only [Bool.and_eq_true, decide_eq_true_eq]; exact ⟨⟨⟨by simpa using hml, hac⟩, htl⟩, hin⟩)
    (fun L a w1 => Below w.heap.size w w1 ∧ Rel l m a0 L v a) ?_ ?_ ?_
  · refine ⟨(Below.refl _ _).drew, ⟨rfl, rfl, fun k d _ _ hL => ?_, fun t _ => rfl⟩⟩
    simp [Array.getElem?_replicate] at hL; split at hL <;> simp at hL
  · intro i him L a w1 hL hu hd ⟨hBw, hR⟩
    have hLi : i < L.size := by omega
    obtain ⟨d, hdi, hdN⟩ := hdst i him
    have hli : i < l.length := by omega
    have ho : l.toArray[i]? = some l[i] := by simp [hli]
    have hol : l[i]? = some l[i] := List.getElem?_eq_getElem hli
    have hod : (l[i]).dst = some d := by simpa [dst, hol] using hdi
    have hlex := lexP_rel (m := m) (a0 := a0) v hdst hdis i (by omega)
    have hsel : ∀ cs b, (l[i]).op ≠ .select cs b := fun cs b => Region.noSelect_spec hns i l[i] cs b ho
    have hev : execOp a.eval l[i] = execOp (lexP l v i a0).eval l[i] := by
      refine execOp_congr _ hsel fun x hx => ?_
      cases x with
      | tmp t =>
        show a.tmps.getD t undef = (lexP l v i a0).tmps.getD t undef
        by_cases hex : ∃ k, k < m ∧ dst l k = some t
        · obtain ⟨k, hk, hkt⟩ := hex
          have hdep : dep l.toArray i k = true := by
            have := hops i him k hk
            simp only [hol, hkt, Bool.or_eq_true, Bool.not_eq_true', List.any_eq_false] at this
            refine this.resolve_left fun hall => ?_
            have := hall (.tmp t) (by simpa using hx)
            simp at this
          exact slotEq i him L a hR hd k hk hdep t hkt
        · rw [hR.else_ t (fun k e hk he _ heq => hex ⟨k, hk, by rw [he, heq]⟩), hlex.2.2.2 t (fun k e hk he heq => hex ⟨k, by omega, by rw [he, heq]⟩)]
      | _ => rfl
    have hwant : Region.wanted l[i] (yielded l.toArray a.tmps) = Region.wanted l[i] (yielded l.toArray (lexP l v i a0).tmps) := by
      unfold Region.wanted
      have hgi := hgrd i him
      rw [hol] at hgi
      simp only at hgi
      cases hgd : (l[i]).guard with
      | none => rfl
      | some kb =>
        obtain ⟨k, b⟩ := kb
        rw [hgd] at hgi
        simp only [Bool.and_eq_true, decide_eq_true_eq] at hgi
        obtain ⟨t, hkt, _⟩ := hdst k hgi.2
        have hs := slotEq i him L a hR hd k hgi.2 hgi.1 t hkt
        have hk2 : (l.toArray[k]?).bind (·.dst) = some t := by simpa [dst] using hkt
        simp only
        have : yielded l.toArray a.tmps k = yielded l.toArray (lexP l v i a0).tmps k := by
          unfold yielded
          cases hlk : l.toArray[k]? with
          | none => simp [hlk] at hk2
          | some ok =>
            rw [hlk] at hk2
            simp only [Option.bind_some] at hk2
            simp only [Option.bind_some, hk2]
            simp only [Array.getD_eq_getD_getElem?] at hs
            have e1 : t < a.tmps.size := by
              obtain ⟨t', h1, h2⟩ := hdst k hgi.2
              rw [hkt] at h1; cases h1
              rw [hR.size]; exact h2
            have e2 : t < (lexP l v i a0).tmps.size := by rw [hlex.2.1, ← hR.size]; exact e1
            first
              | (simp only [Array.getElem?_eq_getElem e1, Array.getElem?_eq_getElem e2, Option.getD_some] at hs ⊢; rw [hs])
              | (simp [e1, e2] at hs ⊢; rw [hs])
              | simp_all
        rw [this]
    have hq := hv i l[i] (by rw [htake i him]; exact hol) w1 hBw
    rw [hlexT i (by omega)] at hq
    have next : ∀ w2, Below w1.heap.size w1 w2 → Below w.heap.size w w2 ∧ Rel l m a0 (L.setIfInBounds i true) v (a.put (l[i]).dst (v i)) := by
      intro w2 h2
      refine ⟨hBw.trans (h2.mono hBw.size), ?_⟩
      rw [hod]
      exact hR.put him hLi hdi hdN hdis (v i) v rfl (fun _ _ => rfl)
    unfold wpOp
    simp only [ho]
    rcases hq with ⟨hw, hq⟩ | ⟨hw, hvu⟩
    · rw [if_pos (by rw [hwant]; exact hw)]
      refine Or.inl ?_
      unfold gAt at hq
      unfold Oper.wp
      rw [hev]
      generalize (execOp (lexP l v i a0).eval l[i]).run P w1 = r at *
      cases r with
      | ok n w2 =>
        cases n <;> simp only [Oper.quietUpon] at hq <;> simp only [Oper.upon]
        case value u =>
          obtain ⟨e1, e2⟩ := hq
          rw [e1, e2]
          exact next _ (Below.refl _ _)
        case skip =>
          obtain ⟨e1, e2⟩ := hq
          rw [e1, ← e2]
          exact next _ (Below.refl _ _)
        case enter f args =>
          obtain ⟨e1, hc⟩ := hq
          rw [e1]
          exact hc.mono fun e w'' ⟨he, hw''⟩ => by subst he; exact next _ hw''
      | halt x w2 => simp only [Oper.quietUpon] at hq
    · rw [if_neg (by rw [hwant, hw]; decide)]
      have h3 := next w1 (Below.refl _ _)
      rw [hvu] at h3
      exact h3
  · intro L a w1 hall ⟨hBw, hR⟩
    have hlex := lexP_rel (m := m) (a0 := a0) v hdst hdis m (Nat.le_refl _)
    have ha : a = lexP l v m a0 := by
      refine act_ext (by rw [hR.defers, hlex.1]) (by rw [hR.size, hlex.2.1]) fun t => ?_
      by_cases hex : ∃ k, k < m ∧ dst l k = some t
      · obtain ⟨k, hk, hkt⟩ := hex
        rw [hR.here k t hk hkt (hall k hk), hlex.2.2.1 k t hk hkt]
      · rw [hR.else_ t (fun k e hk he _ heq => hex ⟨k, hk, by rw [he, heq]⟩), hlex.2.2.2 t (fun k e hk he heq => hex ⟨k, by omega, by rw [he, heq]⟩)]
    have hfin := hend w1 hBw
    rw [← ha] at hfin
    have hw := wpOps_eq_wpList (P := P) (ops := l.toArray) (Q := Q) (l.drop m) m (fun j => by simp)
    rw [List.length_drop] at hw
    rw [hsz, hw]
    exact hfin
end
end Go.Proofs.YtbjcbbnfgfmllaaGreatDoor.Reg
namespace Go.Proofs.YtbjcbbnfgfmllaaGreatDoor.Reg
open Go.RowKit
section
variable {P : Program} {Q : Exit → Act → World → Prop}
/-- Operation o, carried out in w, yields a value of S and leaves a world of E. -/
def sAt (P : Program) (o : Oper) (a : Act) (w : World) (S : Value → Prop) (E : World → Prop) : Prop :=
  (∃ v w'', (execOp a.eval o).run P w = .ok (.value v) w'' ∧ S v ∧ E w'') ∨
  (∃ f args w'', (execOp a.eval o).run P w = .ok (.enter f args) w'' ∧ Calls P f args w'' fun e w3 => ∃ v, e = .returned v ∧ S v ∧ E w3)
theorem sAt_val {o : Oper} {a : Act} {w : World} {S : Value → Prop} {E : World → Prop} {v : Value} (h : (execOp a.eval o).run P w = .ok (.value v) w) (hS : S v) (hE : E w) : sAt P o a w S E := .inl ⟨v, w, h, hS, hE⟩
theorem sAt_call {o : Oper} {a : Act} {w : World} {S : Value → Prop} {E : World → Prop} {f : FuncId} {args : Array Value} (h : (execOp a.eval o).run P w = .ok (.enter f args) w) (hc : Calls P f args w fun e w3 => ∃ v, e = .returned v ∧ S v ∧ E w3) : sAt P o a w S E := .inr ⟨f, args, w, h, hc⟩
def chks (l : List Oper) (m N : Nat) : Bool :=
  decide (m ≤ l.length) && acyc l.toArray && tailB l.toArray m && onlyIn l.toArray && Region.noSelect l.toArray &&
  ((List.range m).all fun k => ((l[k]?).map fun o => o.guard.isNone).getD false && (match dst l k with | some d => decide (d < N) | none => false)) &&
  ((List.range m).all fun k => (List.range m).all fun k' => k == k' || dst l k != dst l k') &&
  ((List.range m).all fun i => (List.range m).all fun k => match l[i]?, dst l k with | some o, some d => !(o.op.operands.toList.any fun x => match x with | .tmp t => t == d | _ => false) || dep l.toArray i k | _, _ => false)
theorem wp_region_seq {id : Nat} {l : List Oper} {a0 : Act} {w : World} (hm : P.follows .mixedOrders = true) (m : Nat) (hB : chks l m a0.tmps.size = true) (E : World → Prop) (S : Nat → Value → Prop)
    (h0 : E w.drew)
    (h : ∀ i o, i < m → l[i]? = some o → ∀ T : Nat → Value, (∀ k, k < i → dep l.toArray i k = true → S k (T k)) → ∀ w', E w' → sAt P o (lexP l T i a0) w' (S i) E)
    (hend : ∀ T : Nat → Value, (∀ k, k < m → S k (T k)) → ∀ w', E w' → wpList P l.toArray Q (l.drop m) (lexP l T m a0) w') :
    (Code.region id l.toArray true).wp P Q a0 w := by
  simp only [chks, Bool.and_eq_true, decide_eq_true_eq] at hB
  obtain ⟨⟨⟨⟨⟨⟨⟨hml, hac⟩, htl⟩, hin⟩, hns⟩, hg⟩, hdisB⟩, hops⟩ := hB
  simp only [List.all_eq_true, List.mem_range] at hg hdisB hops
  have hdst : ∀ k, k < m → ∃ d, dst l k = some d ∧ d < a0.tmps.size := by
    intro k hk
    have := hg k hk
    simp only [Bool.and_eq_true] at this
    have h2 := this.2
    cases hd : dst l k with
    | none => rw [hd] at h2; cases h2
    | some d => rw [hd] at h2; exact ⟨d, rfl, by simpa using h2⟩
  have hdis : ∀ k k', k < m → k' < m → k ≠ k' → dst l k ≠ dst l k' := by
    intro k k' hk hk' hne
    have := hdisB k hk k' hk'
    simp only [Bool.or_eq_true, beq_iff_eq, bne_iff_ne] at this
    exact this.resolve_left hne
  have hsz : l.toArray.size = l.length := by simp
  refine wp_region_ev hm m (by simp only [Bool.and_eq_true, decide_eq_true_eq]; exact ⟨⟨⟨by simpa using hml, hac⟩, htl⟩, hin⟩)
    (fun L a w1 => E w1 ∧ ∃ T : Nat → Value, Rel l m a0 L T a ∧ (∀ k, k < m → L.getD k false = true → S k (T k))) ?_ ?_ ?_
  · refine ⟨h0, fun _ => undef, ⟨rfl, rfl, fun k d _ _ hL => ?_, fun t _ => rfl⟩, fun k _ hL => ?_⟩
    all_goals (simp [Array.getElem?_replicate] at hL; split at hL <;> simp at hL)
  · intro i him L a w1 hL hu hd ⟨hEw, T, hR, hS⟩
    have hLi : i < L.size := by omega
    obtain ⟨d, hdi, hdN⟩ := hdst i him
    have hli : i < l.length := by omega
    have ho : l.toArray[i]? = some l[i] := by simp [hli]
    have hol : l[i]? = some l[i] := List.getElem?_eq_getElem hli
    have hod : (l[i]).dst = some d := by simpa [dst, hol] using hdi
    have hgu : (l[i]).guard = none := by
      have := hg i him
      simp only [Bool.and_eq_true, hol, Option.map_some, Option.getD_some, Option.isNone_iff_eq_none] at this
      exact this.1
    have hlex := lexP_rel (m := m) (a0 := a0) T hdst hdis i (by omega)
    have hsel : ∀ cs b, (l[i]).op ≠ .select cs b := fun cs b => Region.noSelect_spec hns i l[i] cs b ho
    have hki : ∀ k, k < m → dep l.toArray i k = true → k < i := by
      intro k hk hdep
      have h1 := hac
      simp only [acyc, List.all_eq_true, List.mem_range] at h1
      have := h1 i (by simpa using hli) k (by simp; omega)
      simpa [hdep] using this
    have hev : execOp a.eval l[i] = execOp (lexP l T i a0).eval l[i] := by
      refine execOp_congr _ hsel fun x hx => ?_
      cases x with
      | tmp t =>
        show a.tmps.getD t undef = (lexP l T i a0).tmps.getD t undef
        by_cases hex : ∃ k, k < m ∧ dst l k = some t
        · obtain ⟨k, hk, hkt⟩ := hex
          have hdep : dep l.toArray i k = true := by
            have := hops i him k hk
            simp only [hol, hkt, Bool.or_eq_true, Bool.not_eq_true', List.any_eq_false] at this
            refine this.resolve_left fun hall => ?_
            have := hall (.tmp t) (by simpa using hx)
            simp at this
          rw [hR.here k t hk hkt (hd k hdep), hlex.2.2.1 k t (hki k hk hdep) hkt]
        · rw [hR.else_ t (fun k e hk he _ heq => hex ⟨k, hk, by rw [he, heq]⟩), hlex.2.2.2 t (fun k e hk he heq => hex ⟨k, by omega, by rw [he, heq]⟩)]
      | _ => rfl
    have hs := h i l[i] him hol T (fun k hk hdep => hS k (by omega) (hd k hdep)) w1 hEw
    have next : ∀ (v : Value) w2, S i v → E w2 → E w2 ∧ ∃ T : Nat → Value, Rel l m a0 (L.setIfInBounds i true) T (a.put (l[i]).dst v) ∧ (∀ k, k < m → (L.setIfInBounds i true).getD k false = true → S k (T k)) := by
      intro v w2 hv h2
      refine ⟨h2, fun k => if k = i then v else T k, ?_, fun k hk hLk => ?_⟩
      · rw [hod]
        exact hR.put him hLi hdi hdN hdis v _ (by simp) (fun k hk => by simp [hk])
      · by_cases hki' : k = i
        · subst hki'; simpa using hv
        · simp only [hki', if_false]
          rw [getD_set hLi] at hLk
          exact hS k hk (by simpa [hki'] using hLk)
    unfold wpOp
    simp only [ho, wanted_none hgu, if_true]
    refine Or.inl ?_
    unfold Oper.wp
    rw [hev]
    rcases hs with ⟨v, w2, hr, hv, hE2⟩ | ⟨f, args, w2, hr, hc⟩
    · rw [hr]
      simp only [Oper.upon]
      exact next v w2 hv hE2
    · rw [hr]
      simp only [Oper.upon]
      exact hc.mono fun e w3 ⟨v, he, hv, hE3⟩ => by subst he; exact next v w3 hv hE3
  · intro L a w1 hall ⟨hEw, T, hR, hS⟩
    have hlex := lexP_rel (m := m) (a0 := a0) T hdst hdis m (Nat.le_refl _)
    have ha : a = lexP l T m a0 := by
      refine act_ext (by rw [hR.defers, hlex.1]) (by rw [hR.size, hlex.2.1]) fun t => ?_
      by_cases hex : ∃ k, k < m ∧ dst l k = some t
      · obtain ⟨k, hk, hkt⟩ := hex
        rw [hR.here k t hk hkt (hall k hk), hlex.2.2.1 k t hk hkt]
      · rw [hR.else_ t (fun k e hk he _ heq => hex ⟨k, hk, by rw [he, heq]⟩), hlex.2.2.2 t (fun k e hk he heq => hex ⟨k, hk, by rw [he, heq]⟩)]
    have hfin := hend T (fun k hk => hS k hk (hall k hk)) w1 hEw
    rw [← ha] at hfin
    have hw := wpOps_eq_wpList (P := P) (ops := l.toArray) (Q := Q) (l.drop m) m (fun j => by simp)
    rw [List.length_drop] at hw
    rw [hsz, hw]
    exact hfin
end
end Go.Proofs.YtbjcbbnfgfmllaaGreatDoor.Reg
namespace Go.Proofs.YtbjcbbnfgfmllaaGreatDoor.Reg
open Go.RowKit
section
variable {P : Program} {Q : Exit → Act → World → Prop}
/-- What any value may be. -/
def anyV : Value → Prop := fun _ => True
def wpSq (P : Program) (E : World → Prop) (QA : Act → Prop) : List (Value → Prop) → List Oper → Act → Prop
  | S :: Ss, o :: l, a => (∀ w, E w → sAt P o a w S E) ∧ ∀ v, S v → wpSq P E QA Ss l (a.put o.dst v)
  | _, [], a => QA a
  | [], _ :: _, _ => False
theorem wpSq_step {E : World → Prop} {QA : Act → Prop} {S : Value → Prop} {Ss : List (Value → Prop)} {o : Oper} {l : List Oper} {a : Act} (h1 : ∀ w, E w → sAt P o a w S E) (h2 : ∀ v, S v → wpSq P E QA Ss l (a.put o.dst v)) : wpSq P E QA (S :: Ss) (o :: l) a := ⟨h1, h2⟩
/-- The value is known. -/
theorem wpSq_val {E : World → Prop} {QA : Act → Prop} {x : Value} {Ss : List (Value → Prop)} {o : Oper} {l : List Oper} {a : Act} (h1 : ∀ w, E w → (execOp a.eval o).run P w = .ok (.value x) w) (h2 : wpSq P E QA Ss l (a.put o.dst x)) : wpSq P E QA ((fun v => v = x) :: Ss) (o :: l) a :=
  ⟨fun w hw => sAt_val (h1 w hw) rfl hw, fun v hv => by subst hv; exact h2⟩
theorem wpSq_at {E : World → Prop} {QA : Act → Prop} : ∀ (Ss : List (Value → Prop)) (l : List Oper) (a : Act), wpSq P E QA Ss l a → ∀ i o, l[i]? = some o → ∀ T : Nat → Value, (∀ k, k < i → (Ss.getD k anyV) (T k)) → ∀ w, E w → sAt P o (lexP l T i a) w (Ss.getD i anyV) E
  | [], [], a, h => fun i o ho => by simp at ho
  | S :: Ss, [], a, h => fun i o ho => by simp at ho
  | [], o :: l, a, h => h.elim
  | S :: Ss, o :: l, a, h => fun i o' ho T hT w hw => by
    obtain ⟨h1, h2⟩ := h
    cases i with
    | zero =>
      simp only [List.getElem?_cons_zero, Option.some.injEq] at ho
      subst ho
      exact h1 w hw
    | succ i =>
      rw [lexP_cons]
      exact wpSq_at Ss l _ (h2 (T 0) (hT 0 (by omega))) i o' (by simpa using ho) (fun k => T (k + 1)) (fun k hk => hT (k + 1) (by omega)) w hw
theorem wpSq_end {E : World → Prop} {QA : Act → Prop} : ∀ (Ss : List (Value → Prop)) (l : List Oper) (a : Act), wpSq P E QA Ss l a → ∀ T : Nat → Value, (∀ k, k < l.length → (Ss.getD k anyV) (T k)) → QA (lexP l T l.length a)
  | [], [], a, h => fun T hT => h
  | S :: Ss, [], a, h => fun T hT => h
  | [], o :: l, a, h => h.elim
  | S :: Ss, o :: l, a, h => fun T hT => by
    rw [List.length_cons, lexP_cons]
    exact wpSq_end Ss l _ (h.2 (T 0) (hT 0 (by simp))) (fun k => T (k + 1)) (fun k hk => hT (k + 1) (by simp; omega))
theorem wp_region_steps {id : Nat} {l : List Oper} {a0 : Act} {w : World} (hm : P.follows .mixedOrders = true) (m : Nat) (hB : chks l m a0.tmps.size = true) (E : World → Prop) (Ss : List (Value → Prop)) (hin : ∀ S ∈ Ss, ∃ v, S v)
    (h0 : E w.drew) (h : wpSq P E (fun a => ∀ w', E w' → wpList P l.toArray Q (l.drop m) a w') Ss (l.take m) a0) :
    (Code.region id l.toArray true).wp P Q a0 w := by
  have hB' := hB
  simp only [chks, Bool.and_eq_true, decide_eq_true_eq] at hB
  obtain ⟨⟨⟨⟨⟨⟨⟨hml, hac⟩, htl⟩, hin'⟩, hns⟩, hg⟩, hdisB⟩, hops⟩ := hB
  simp only [List.all_eq_true, List.mem_range] at hg hdisB hops
  have hdst : ∀ k, k < m → ∃ d, dst l k = some d ∧ d < a0.tmps.size := by
    intro k hk
    have := hg k hk
    simp only [Bool.and_eq_true] at this
    have h2 := this.2
    cases hd : dst l k with
    | none => rw [hd] at h2; cases h2
    | some d => rw [hd] at h2; exact ⟨d, rfl, by simpa using h2⟩
  have hdis : ∀ k k', k < m → k' < m → k ≠ k' → dst l k ≠ dst l k' := by
    intro k k' hk hk' hne
    have := hdisB k hk k' hk'
    simp only [Bool.or_eq_true, beq_iff_eq, bne_iff_ne] at this
    exact this.resolve_left hne
  have hlexT : ∀ (v : Nat → Value) i, i ≤ m → ∀ a, lexP (l.take m) v i a = lexP l v i a := by
    intro v i
    induction i with
    | zero => intro _ a; rfl
    | succ i ih =>
      intro hi a
      rw [lexP, lexP, ih (by omega)]
      congr 1
      simp [dst, List.getElem?_take, show i < m by omega]
  have hinh : ∀ k, ∃ v, (Ss.getD k anyV) v := by
    intro k
    by_cases hk : k < Ss.length
    · refine hin _ ?_
      rw [List.getD_eq_getElem?_getD, List.getElem?_eq_getElem hk]
      exact List.getElem_mem hk
    · refine ⟨undef, ?_⟩
      rw [List.getD_eq_getElem?_getD, List.getElem?_eq_none (by omega)]
      trivial
  refine wp_region_seq hm m hB' E (fun k => Ss.getD k anyV) h0 ?_ ?_
  · intro i o him hol T hT w' hw'
    have hli : i < l.length := by omega
    have ho : l[i] = o := by
      rw [List.getElem?_eq_getElem hli] at hol
      simpa using hol
    let T' : Nat → Value := fun k => if k < i ∧ dep l.toArray i k = true then T k else (hinh k).choose
    have hT' : ∀ k, k < i → (Ss.getD k anyV) (T' k) := by
      intro k hk
      show (Ss.getD k anyV) (if k < i ∧ dep l.toArray i k = true then T k else (hinh k).choose)
      split
      · next hd => exact hT k hk hd.2
      · exact (hinh k).choose_spec
    have hs := wpSq_at Ss (l.take m) a0 h i o (by rw [List.getElem?_take, if_pos him]; exact hol) T' hT' w' hw'
    rw [hlexT T' i (by omega)] at hs
    have hl1 := lexP_rel (m := m) (a0 := a0) T hdst hdis i (by omega)
    have hl2 := lexP_rel (m := m) (a0 := a0) T' hdst hdis i (by omega)
    have hsel : ∀ cs b, o.op ≠ .select cs b := fun cs b => Region.noSelect_spec hns i o cs b (by simp [hol])
    have hev : execOp (lexP l T i a0).eval o = execOp (lexP l T' i a0).eval o := by
      refine execOp_congr _ hsel fun x hx => ?_
      cases x with
      | tmp t =>
        show (lexP l T i a0).tmps.getD t undef = (lexP l T' i a0).tmps.getD t undef
        by_cases hex : ∃ k, k < i ∧ dst l k = some t
        · obtain ⟨k, hk, hkt⟩ := hex
          have hdep : dep l.toArray i k = true := by
            have := hops i him k (by omega)
            simp only [hol, hkt, Bool.or_eq_true, Bool.not_eq_true', List.any_eq_false] at this
            refine this.resolve_left fun hall => ?_
            have := hall (.tmp t) (by simpa using hx)
            simp at this
          rw [hl1.2.2.1 k t hk hkt, hl2.2.2.1 k t hk hkt]
          show T k = if k < i ∧ dep l.toArray i k = true then T k else (hinh k).choose
          rw [if_pos ⟨hk, hdep⟩]
        · rw [hl1.2.2.2 t (fun k e hk he heq => hex ⟨k, hk, by rw [he, heq]⟩), hl2.2.2.2 t (fun k e hk he heq => hex ⟨k, hk, by rw [he, heq]⟩)]
      | _ => rfl
    unfold sAt at hs ⊢
    rw [hev]
    exact hs
  · intro T hT w' hw'
    have hlen : (l.take m).length = m := by simp; omega
    have := wpSq_end Ss (l.take m) a0 h T (by rw [hlen]; exact hT)
    rw [hlen, hlexT T m (Nat.le_refl _)] at this
    exact this w' hw'
end
end Go.Proofs.YtbjcbbnfgfmllaaGreatDoor.Reg
namespace Go.Proofs.YtbjcbbnfgfmllaaGreatDoor.Reg
open Go.RowKit
theorem Rel.put7 {l : List Oper} {m : Nat} {a0 a : Act} {L : Array Bool} {T : Nat → Value} {i : Nat} {d : Tmp} (h : Rel l m a0 L T a) (hi : i < m) (hL : i < L.size) (hd : dst l i = some d) (hN : d < a0.tmps.size)
    (hdis : ∀ k k' d, k < m → k' < m → dst l k = some d → dst l k' = some d → k = k') (v : Value) (T' : Nat → Value) (hT : T' i = v) (hT' : ∀ k, k ≠ i → T' k = T k) : Rel l m a0 (L.setIfInBounds i true) T' (a.put (some d) v) := by
  refine ⟨by rw [defers_put]; exact h.defers, by rw [size_put]; exact h.size, fun k e hk he hLk => ?_, fun t ht => ?_⟩
  · rw [getD_put _ (by rw [h.size]; exact hN)]
    by_cases hki : k = i
    · subst hki
      rw [hd] at he
      injection he with he
      subst he
      simp [hT]
    · have hne : e ≠ d := by
        rintro rfl
        exact hki (hdis k i _ hk hi he hd)
      rw [if_neg hne, hT' k hki]
      rw [getD_set hL] at hLk
      exact h.here k e hk he (by simpa [hki] using hLk)
  · rw [getD_put _ (by rw [h.size]; exact hN)]
    have h1 : d ≠ t := ht i d hi hd (by rw [getD_set hL]; simp)
    rw [if_neg (fun e => h1 e.symm)]
    refine h.else_ t fun k e hk he hLk => ht k e hk he ?_
    rw [getD_set hL, hLk]
    simp
theorem Rel.skip7 {l : List Oper} {m : Nat} {a0 a : Act} {L : Array Bool} {T : Nat → Value} {i : Nat} (h : Rel l m a0 L T a) (hL : i < L.size) (hd : dst l i = none) (T' : Nat → Value) (hT' : ∀ k, k ≠ i → T' k = T k) : Rel l m a0 (L.setIfInBounds i true) T' a := by
  refine ⟨h.defers, h.size, fun k e hk he hLk => ?_, fun t ht => ?_⟩
  · have hki : k ≠ i := by
      rintro rfl
      rw [hd] at he
      cases he
    rw [hT' k hki]
    rw [getD_set hL] at hLk
    exact h.here k e hk he (by simpa [hki] using hLk)
  · refine h.else_ t fun k e hk he hLk => ht k e hk he ?_
    rw [getD_set hL, hLk]
    simp
theorem put_none (a : Act) (v : Value) : a.put none v = a := rfl
theorem lexP_rel7 {l : List Oper} {m : Nat} {a0 : Act} (v : Nat → Value) (hdst : ∀ k d, k < m → dst l k = some d → d < a0.tmps.size) (hdis : ∀ k k' d, k < m → k' < m → dst l k = some d → dst l k' = some d → k = k') :
    ∀ i, i ≤ m → (lexP l v i a0).defers = a0.defers ∧ (lexP l v i a0).tmps.size = a0.tmps.size ∧ (∀ k d, k < i → dst l k = some d → (lexP l v i a0).tmps.getD d undef = v k) ∧
      ∀ t, (∀ k d, k < i → dst l k = some d → d ≠ t) → (lexP l v i a0).tmps.getD t undef = a0.tmps.getD t undef
  | 0, _ => ⟨rfl, rfl, fun k d hk => absurd hk (Nat.not_lt_zero _), fun t _ => rfl⟩
  | i + 1, hi => by
    obtain ⟨h1, h2, h3, h4⟩ := lexP_rel7 v hdst hdis i (by omega)
    cases hd : dst l i with
    | none =>
      rw [lexP, hd, put_none]
      refine ⟨h1, h2, fun k e hk he => ?_, fun t ht => h4 t fun k e hk he => ht k e (by omega) he⟩
      have hki : k ≠ i := by
        rintro rfl
        rw [hd] at he
        cases he
      exact h3 k e (by omega) he
    | some d =>
      have hN : d < (lexP l v i a0).tmps.size := by rw [h2]; exact hdst i d (by omega) hd
      rw [lexP, hd]
      refine ⟨by rw [defers_put]; exact h1, by rw [size_put]; exact h2, fun k e hk he => ?_, fun t ht => ?_⟩
      · rw [getD_put _ hN]
        by_cases hki : k = i
        · subst hki
          rw [hd] at he
          injection he with he
          subst he
          simp
        · have hne : e ≠ d := by
            rintro rfl
            exact hki (hdis k i _ (by omega) (by omega) he hd)
          rw [if_neg hne]
          exact h3 k e (by omega) he
      · rw [getD_put _ hN, if_neg (fun e => ht i d (by omega) hd e.symm)]
        exact h4 t fun k e hk he => ht k e (by omega) he
section
variable {P : Program} {Q : Exit → Act → World → Prop}
/-- Operation o, carried out in w, yields a value of S and leaves a world of E. -/
def sAt7 (P : Program) (o : Oper) (a : Act) (w : World) (S : Value → Prop) (E : World → Prop) : Prop :=
  (∃ v w'', (execOp a.eval o).run P w = .ok (.value v) w'' ∧ S v ∧ E w'') ∨
  (∃ w'', (execOp a.eval o).run P w = .ok .skip w'' ∧ S undef ∧ E w'') ∨
  (∃ f args w'', (execOp a.eval o).run P w = .ok (.enter f args) w'' ∧ Calls P f args w'' fun e w3 => ∃ v, e = .returned v ∧ S v ∧ E w3)
theorem sAt7_val {o : Oper} {a : Act} {w : World} {S : Value → Prop} {E : World → Prop} {v : Value} (h : (execOp a.eval o).run P w = .ok (.value v) w) (hS : S v) (hE : E w) : sAt7 P o a w S E := .inl ⟨v, w, h, hS, hE⟩
theorem sAt7_call {o : Oper} {a : Act} {w : World} {S : Value → Prop} {E : World → Prop} {f : FuncId} {args : Array Value} (h : (execOp a.eval o).run P w = .ok (.enter f args) w) (hc : Calls P f args w fun e w3 => ∃ v, e = .returned v ∧ S v ∧ E w3) : sAt7 P o a w S E := .inr (.inr ⟨f, args, w, h, hc⟩)
theorem sAt7_skip {o : Oper} {a : Act} {w w'' : World} {S : Value → Prop} {E : World → Prop} (h : (execOp a.eval o).run P w = .ok .skip w'') (hS : S undef) (hE : E w'') : sAt7 P o a w S E := .inr (.inl ⟨w'', h, hS, hE⟩)
def chk7 (l : List Oper) (m N : Nat) : Bool :=
  decide (m ≤ l.length) && acyc l.toArray && tailB l.toArray m && onlyIn l.toArray && Region.noSelect l.toArray &&
  ((List.range m).all fun k => ((l[k]?).map fun o => o.guard.isNone).getD false && (match dst l k with | some d => decide (d < N) | none => true)) &&
  ((List.range m).all fun k => (List.range m).all fun k' => k == k' || (dst l k).isNone || dst l k != dst l k') &&
  ((List.range m).all fun i => (List.range m).all fun k => match l[i]?, dst l k with | some o, some d => !(o.op.operands.toList.any fun x => match x with | .tmp t => t == d | _ => false) || dep l.toArray i k | _, _ => true)
theorem wp_region_seq7 {id : Nat} {l : List Oper} {a0 : Act} {w : World} (hm : P.follows .mixedOrders = true) (m : Nat) (hB : chk7 l m a0.tmps.size = true) (E : World → Prop) (S : Nat → Value → Prop)
    (h0 : E w.drew)
    (h : ∀ i o, i < m → l[i]? = some o → ∀ T : Nat → Value, (∀ k, k < i → dep l.toArray i k = true → S k (T k)) → ∀ w', E w' → sAt7 P o (lexP l T i a0) w' (S i) E)
    (hend : ∀ T : Nat → Value, (∀ k, k < m → S k (T k)) → ∀ w', E w' → wpList P l.toArray Q (l.drop m) (lexP l T m a0) w') :
    (Code.region id l.toArray true).wp P Q a0 w := by
  simp only [chk7, Bool.and_eq_true, decide_eq_true_eq] at hB
  obtain ⟨⟨⟨⟨⟨⟨⟨hml, hac⟩, htl⟩, hin⟩, hns⟩, hg⟩, hdisB⟩, hops⟩ := hB
  simp only [List.all_eq_true, List.mem_range] at hg hdisB hops
  have hdst : ∀ k d, k < m → dst l k = some d → d < a0.tmps.size := by
    intro k d hk hd
    have := hg k hk
    simp only [Bool.and_eq_true, hd] at this
    simpa using this.2
  have hdis : ∀ k k' d, k < m → k' < m → dst l k = some d → dst l k' = some d → k = k' := by
    intro k k' d hk hk' h1 h2
    have := hdisB k hk k' hk'
    simp only [h1, h2, Bool.or_eq_true, beq_iff_eq, bne_iff_ne, Option.isNone_some, ne_eq, not_true_eq_false, or_false] at this
    simpa using this
  have hsz : l.toArray.size = l.length := by simp
  refine wp_region_ev hm m (by simp only [Bool.and_eq_true, decide_eq_true_eq]; exact ⟨⟨⟨by simpa using hml, hac⟩, htl⟩, hin⟩)
    (fun L a w1 => E w1 ∧ ∃ T : Nat → Value, Rel l m a0 L T a ∧ (∀ k, k < m → L.getD k false = true → S k (T k))) ?_ ?_ ?_
  · refine ⟨h0, fun _ => undef, ⟨rfl, rfl, fun k d _ _ hL => ?_, fun t _ => rfl⟩, fun k _ hL => ?_⟩
    all_goals (simp [Array.getElem?_replicate] at hL; split at hL <;> simp at hL)
  · intro i him L a w1 hL hu hd ⟨hEw, T, hR, hS⟩
    have hLi : i < L.size := by omega
    have hli : i < l.length := by omega
    have ho : l.toArray[i]? = some l[i] := by simp [hli]
    have hol : l[i]? = some l[i] := List.getElem?_eq_getElem hli
    have hod : (l[i]).dst = dst l i := by simp [dst, hol]
    have hgu : (l[i]).guard = none := by
      have := hg i him
      simp only [Bool.and_eq_true, hol, Option.map_some, Option.getD_some, Option.isNone_iff_eq_none] at this
      exact this.1
    have hlex := lexP_rel7 (m := m) (a0 := a0) T hdst hdis i (by omega)
    have hsel : ∀ cs b, (l[i]).op ≠ .select cs b := fun cs b => Region.noSelect_spec hns i l[i] cs b ho
    have hki : ∀ k, k < m → dep l.toArray i k = true → k < i := by
      intro k hk hdep
      have h1 := hac
      simp only [acyc, List.all_eq_true, List.mem_range] at h1
      have := h1 i (by simpa using hli) k (by simp; omega)
      simpa [hdep] using this
    have hev : execOp a.eval l[i] = execOp (lexP l T i a0).eval l[i] := by
      refine execOp_congr _ hsel fun x hx => ?_
      cases x with
      | tmp t =>
        show a.tmps.getD t undef = (lexP l T i a0).tmps.getD t undef
        by_cases hex : ∃ k, k < m ∧ dst l k = some t
        · obtain ⟨k, hk, hkt⟩ := hex
          have hdep : dep l.toArray i k = true := by
            have := hops i him k hk
            simp only [hol, hkt, Bool.or_eq_true, Bool.not_eq_true', List.any_eq_false] at this
            refine this.resolve_left fun hall => ?_
            have := hall (.tmp t) (by simpa using hx)
            simp at this
          rw [hR.here k t hk hkt (hd k hdep), hlex.2.2.1 k t (hki k hk hdep) hkt]
        · rw [hR.else_ t (fun k e hk he _ heq => hex ⟨k, hk, by rw [he, heq]⟩), hlex.2.2.2 t (fun k e hk he heq => hex ⟨k, by omega, by rw [he, heq]⟩)]
      | _ => rfl
    have hs := h i l[i] him hol T (fun k hk hdep => hS k (by omega) (hd k hdep)) w1 hEw
    have next : ∀ (v : Value) w2, S i v → E w2 → E w2 ∧ ∃ T : Nat → Value, Rel l m a0 (L.setIfInBounds i true) T (a.put (l[i]).dst v) ∧ (∀ k, k < m → (L.setIfInBounds i true).getD k false = true → S k (T k)) := by
      intro v w2 hv h2
      refine ⟨h2, fun k => if k = i then v else T k, ?_, fun k hk hLk => ?_⟩
      · rw [hod]
        cases hdi : dst l i with
        | none => rw [put_none]; exact hR.skip7 hLi hdi _ (fun k hk => by simp [hk])
        | some d => exact hR.put7 him hLi hdi (hdst i d him hdi) hdis v _ (by simp) (fun k hk => by simp [hk])
      · by_cases hki' : k = i
        · subst hki'; simpa using hv
        · simp only [hki', if_false]
          rw [getD_set hLi] at hLk
          exact hS k hk (by simpa [hki'] using hLk)
    unfold wpOp
    simp only [ho, wanted_none hgu, if_true]
    refine Or.inl ?_
    unfold Oper.wp
    rw [hev]
    rcases hs with ⟨v, w2, hr, hv, hE2⟩ | ⟨w2, hr, hv, hE2⟩ | ⟨f, args, w2, hr, hc⟩
    · rw [hr]
      simp only [Oper.upon]
      exact next v w2 hv hE2
    · rw [hr]
      simp only [Oper.upon]
      exact next undef w2 hv hE2
    · rw [hr]
      simp only [Oper.upon]
      exact hc.mono fun e w3 ⟨v, he, hv, hE3⟩ => by subst he; exact next v w3 hv hE3
  · intro L a w1 hall ⟨hEw, T, hR, hS⟩
    have hlex := lexP_rel7 (m := m) (a0 := a0) T hdst hdis m (Nat.le_refl _)
    have ha : a = lexP l T m a0 := by
      refine act_ext (by rw [hR.defers, hlex.1]) (by rw [hR.size, hlex.2.1]) fun t => ?_
      by_cases hex : ∃ k, k < m ∧ dst l k = some t
      · obtain ⟨k, hk, hkt⟩ := hex
        rw [hR.here k t hk hkt (hall k hk), hlex.2.2.1 k t hk hkt]
      · rw [hR.else_ t (fun k e hk he _ heq => hex ⟨k, hk, by rw [he, heq]⟩), hlex.2.2.2 t (fun k e hk he heq => hex ⟨k, hk, by rw [he, heq]⟩)]
    have hfin := hend T (fun k hk => hS k hk (hall k hk)) w1 hEw
    rw [← ha] at hfin
    have hw := wpOps_eq_wpList (P := P) (ops := l.toArray) (Q := Q) (l.drop m) m (fun j => by simp)
    rw [List.length_drop] at hw
    rw [hsz, hw]
    exact hfin
end
section
variable {P : Program} {Q : Exit → Act → World → Prop}
def wpS7 (P : Program) (E : World → Prop) (QA : Act → Prop) : List (Value → Prop) → List Oper → Act → Prop
  | S :: Ss, o :: l, a => (∀ w, E w → sAt7 P o a w S E) ∧ ∀ v, S v → wpS7 P E QA Ss l (a.put o.dst v)
  | _, [], a => QA a
  | [], _ :: _, _ => False
theorem wpS7_step {E : World → Prop} {QA : Act → Prop} {S : Value → Prop} {Ss : List (Value → Prop)} {o : Oper} {l : List Oper} {a : Act} (h1 : ∀ w, E w → sAt7 P o a w S E) (h2 : ∀ v, S v → wpS7 P E QA Ss l (a.put o.dst v)) : wpS7 P E QA (S :: Ss) (o :: l) a := ⟨h1, h2⟩
/-- The value is known. -/
theorem wpS7_val {E : World → Prop} {QA : Act → Prop} {x : Value} {Ss : List (Value → Prop)} {o : Oper} {l : List Oper} {a : Act} (h1 : ∀ w, E w → (execOp a.eval o).run P w = .ok (.value x) w) (h2 : wpS7 P E QA Ss l (a.put o.dst x)) : wpS7 P E QA ((fun v => v = x) :: Ss) (o :: l) a :=
  ⟨fun w hw => sAt7_val (h1 w hw) rfl hw, fun v hv => by subst hv; exact h2⟩
/-- A store. -/
theorem wpS7_skip {E : World → Prop} {QA : Act → Prop} {Ss : List (Value → Prop)} {o : Oper} {l : List Oper} {a : Act} (hd : o.dst = none) (h1 : ∀ w, E w → ∃ w'', (execOp a.eval o).run P w = .ok .skip w'' ∧ E w'') (h2 : wpS7 P E QA Ss l a) : wpS7 P E QA (anyV :: Ss) (o :: l) a :=
  ⟨fun w hw => by obtain ⟨w'', h3, h4⟩ := h1 w hw; exact sAt7_skip h3 trivial h4, fun v hv => by rw [hd, put_none]; exact h2⟩
theorem wpS7_at {E : World → Prop} {QA : Act → Prop} : ∀ (Ss : List (Value → Prop)) (l : List Oper) (a : Act), wpS7 P E QA Ss l a → ∀ i o, l[i]? = some o → ∀ T : Nat → Value, (∀ k, k < i → (Ss.getD k anyV) (T k)) → ∀ w, E w → sAt7 P o (lexP l T i a) w (Ss.getD i anyV) E
  | [], [], a, h => fun i o ho => by simp at ho
  | S :: Ss, [], a, h => fun i o ho => by simp at ho
  | [], o :: l, a, h => h.elim
  | S :: Ss, o :: l, a, h => fun i o' ho T hT w hw => by
    obtain ⟨h1, h2⟩ := h
    cases i with
    | zero =>
      simp only [List.getElem?_cons_zero, Option.some.injEq] at ho
      subst ho
      exact h1 w hw
    | succ i =>
      rw [lexP_cons]
      exact wpS7_at Ss l _ (h2 (T 0) (hT 0 (by omega))) i o' (by simpa using ho) (fun k => T (k + 1)) (fun k hk => hT (k + 1) (by omega)) w hw
theorem wpS7_end {E : World → Prop} {QA : Act → Prop} : ∀ (Ss : List (Value → Prop)) (l : List Oper) (a : Act), wpS7 P E QA Ss l a → ∀ T : Nat → Value, (∀ k, k < l.length → (Ss.getD k anyV) (T k)) → QA (lexP l T l.length a)
  | [], [], a, h => fun T hT => h
  | S :: Ss, [], a, h => fun T hT => h
  | [], o :: l, a, h => h.elim
  | S :: Ss, o :: l, a, h => fun T hT => by
    rw [List.length_cons, lexP_cons]
    exact wpS7_end Ss l _ (h.2 (T 0) (hT 0 (by simp))) (fun k => T (k + 1)) (fun k hk => hT (k + 1) (by simp; omega))
theorem wp_region_steps7 {id : Nat} {l : List Oper} {a0 : Act} {w : World} (hm : P.follows .mixedOrders = true) (m : Nat) (hB : chk7 l m a0.tmps.size = true) (E : World → Prop) (Ss : List (Value → Prop)) (hin : ∀ S ∈ Ss, ∃ v, S v)
    (h0 : E w.drew) (h : wpS7 P E (fun a => ∀ w', E w' → wpList P l.toArray Q (l.drop m) a w') Ss (l.take m) a0) :
    (Code.region id l.toArray true).wp P Q a0 w := by
  have hB' := hB
  simp only [chk7, Bool.and_eq_true, decide_eq_true_eq] at hB
  obtain ⟨⟨⟨⟨⟨⟨⟨hml, hac⟩, htl⟩, hin'⟩, hns⟩, hg⟩, hdisB⟩, hops⟩ := hB
  simp only [List.all_eq_true, List.mem_range] at hg hdisB hops
  have hdst : ∀ k d, k < m → dst l k = some d → d < a0.tmps.size := by
    intro k d hk hd
    have := hg k hk
    simp only [Bool.and_eq_true, hd] at this
    simpa using this.2
  have hdis : ∀ k k' d, k < m → k' < m → dst l k = some d → dst l k' = some d → k = k' := by
    intro k k' d hk hk' h1 h2
    have := hdisB k hk k' hk'
    simp only [h1, h2, Bool.or_eq_true, beq_iff_eq, bne_iff_ne, Option.isNone_some, ne_eq, not_true_eq_false, or_false] at this
    simpa using this
  have hlexT : ∀ (v : Nat → Value) i, i ≤ m → ∀ a, lexP (l.take m) v i a = lexP l v i a := by
    intro v i
    induction i with
    | zero => intro _ a; rfl
    | succ i ih =>
      intro hi a
      rw [lexP, lexP, ih (by omega)]
      congr 1
      simp [dst, List.getElem?_take, show i < m by omega]
  have hinh : ∀ k, ∃ v, (Ss.getD k anyV) v := by
    intro k
    by_cases hk : k < Ss.length
    · refine hin _ ?_
      rw [List.getD_eq_getElem?_getD, List.getElem?_eq_getElem hk]
      exact List.getElem_mem hk
    · refine ⟨undef, ?_⟩
      rw [List.getD_eq_getElem?_getD, List.getElem?_eq_none (by omega)]
      trivial
  refine wp_region_seq7 hm m hB' E (fun k => Ss.getD k anyV) h0 ?_ ?_
  · intro i o him hol T hT w' hw'
    have hli : i < l.length := by omega
    have ho : l[i] = o := by
      rw [List.getElem?_eq_getElem hli] at hol
      simpa using hol
    let T' : Nat → Value := fun k => if k < i ∧ dep l.toArray i k = true then T k else (hinh k).choose
    have hT' : ∀ k, k < i → (Ss.getD k anyV) (T' k) := by
      intro k hk
      show (Ss.getD k anyV) (if k < i ∧ dep l.toArray i k = true then T k else (hinh k).choose)
      split
      · next hd => exact hT k hk hd.2
      · exact (hinh k).choose_spec
    have hs := wpS7_at Ss (l.take m) a0 h i o (by rw [List.getElem?_take, if_pos him]; exact hol) T' hT' w' hw'
    rw [hlexT T' i (by omega)] at hs
    have hl1 := lexP_rel7 (m := m) (a0 := a0) T hdst hdis i (by omega)
    have hl2 := lexP_rel7 (m := m) (a0 := a0) T' hdst hdis i (by omega)
    have hsel : ∀ cs b, o.op ≠ .select cs b := fun cs b => Region.noSelect_spec hns i o cs b (by simp [hol])
    have hev : execOp (lexP l T i a0).eval o = execOp (lexP l T' i a0).eval o := by
      refine execOp_congr _ hsel fun x hx => ?_
      cases x with
      | tmp t =>
        show (lexP l T i a0).tmps.getD t undef = (lexP l T' i a0).tmps.getD t undef
        by_cases hex : ∃ k, k < i ∧ dst l k = some t
        · obtain ⟨k, hk, hkt⟩ := hex
          have hdep : dep l.toArray i k = true := by
            have := hops i him k (by omega)
            simp only [hol, hkt, Bool.or_eq_true, Bool.not_eq_true', List.any_eq_false] at this
            refine this.resolve_left fun hall => ?_
            have := hall (.tmp t) (by simpa using hx)
            simp at this
          rw [hl1.2.2.1 k t hk hkt, hl2.2.2.1 k t hk hkt]
          show T k = if k < i ∧ dep l.toArray i k = true then T k else (hinh k).choose
          rw [if_pos ⟨hk, hdep⟩]
        · rw [hl1.2.2.2 t (fun k e hk he heq => hex ⟨k, hk, by rw [he, heq]⟩), hl2.2.2.2 t (fun k e hk he heq => hex ⟨k, hk, by rw [he, heq]⟩)]
      | _ => rfl
    unfold sAt7 at hs ⊢
    rw [hev]
    exact hs
  · intro T hT w' hw'
    have hlen : (l.take m).length = m := by simp; omega
    have := wpS7_end Ss (l.take m) a0 h T (by rw [hlen]; exact hT)
    rw [hlen, hlexT T m (Nat.le_refl _)] at this
    exact this w' hw'
end
end Go.Proofs.YtbjcbbnfgfmllaaGreatDoor.Reg
