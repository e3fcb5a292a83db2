/- Rows' joints: an array of two or three numbers by value, opened and shut; the row's last step over a world of which 'Below' is known. -/
import Derived.Test.YtbjcbbnfgfmllaaGreatDoorProg
import Derived.WalkKit
import Derived.ProofKit
import Derived.OpenShut
set_option linter.unusedVariables false
set_option linter.unusedSimpArgs false
set_option maxRecDepth 100000
namespace Go.Proofs.YtbjcbbnfgfmllaaGreatDoor
open Go.RowKit Go.ChangeShapes Go.WideShapes
section
variable {H : Type} {enc : TypeId × Value → H} {P : Program} {w : World} {base : Nat} {spare : Nat → Bool} {held : Bool}

theorem okWide_arr {n : Nat} {t e : TypeId} {r : Reach} {b0 : Nat} {v : Value} (ht : P.underlying t = some (.array n e)) (h : Value.okWide P w r b0 t v) : ∃ cs : Array Value, v = .agg cs ∧ cs.size = P.cellsOf t := by
  simp only [Value.okWide, ht] at h
  obtain ⟨cs, h1, h2, _⟩ := h
  exact ⟨cs, h1, h2⟩
theorem openArr {n : Nat} {t e : TypeId} {r : Reach} {b0 : Nat} {v : Value} {d : DataW H} {p : List MemPlace} (ht : P.underlying t = some (.array n e)) (he : P.underlying e = some (.int .i64)) (hce : P.cellsOf e = 1) (hct : P.cellsOf t = n)
    (hv : Value.okWide P w r b0 t v) (h : DataW.Trod enc P w base spare held t v d p) :
    ∃ zs : List Int, zs.length = n ∧ v = .agg (zs.map (Value.int .i64)).toArray ∧ d = .agg (zs.map fun z => .lit (.int .i64 z)) ∧ p = [] ∧ ∀ z ∈ zs, (Lit.int .i64 z).wf = true := by
  obtain ⟨cs, rfl, hsz⟩ := okWide_arr ht hv
  obtain ⟨fuel, hf⟩ := h
  obtain ⟨xs, m, _, hx, hl, hxl, hel⟩ := DataW.trod_array ht hf
  simp only [Value.cells] at hl hel hf
  rw [hct] at hsz
  have key : ∀ i, i < n → ∃ z, cs[i]? = some (.int .i64 z) ∧ xs[i]? = some (.lit (.int .i64 z), []) ∧ (Lit.int .i64 z).wf = true := by
    intro i hi
    have h1 := hel i hi
    rw [hce, Nat.mul_one] at h1
    have hi' : i < xs.length := by omega
    have hic : i < cs.size := by omega
    have e1 : (cs.toList.drop i).take 1 = [cs[i]] := by
      rw [List.drop_eq_getElem_cons (by simpa using hic)]
      simp
    rw [e1, List.getElem?_eq_getElem hi'] at h1
    obtain ⟨z, hz, hy, hw⟩ := DataW.trod_int he h1
    simp only [List.cons.injEq, and_true] at hz
    exact ⟨z, by rw [Array.getElem?_eq_getElem hic, hz], by rw [List.getElem?_eq_getElem hi', hy], hw⟩
  refine ⟨(List.range n).map (fun i => intOf ((cs[i]?).getD undef)), by simp, ?_, ?_, ?_, ?_⟩
  · congr 1
    apply Array.ext_getElem?
    intro i
    by_cases hi : i < n
    · obtain ⟨z, hz, _, _⟩ := key i hi
      simp [hz, hi, intOf]
    · simp [Array.getElem?_eq_none (show cs.size ≤ i by omega), hi]
  · simp only [Prod.mk.injEq] at hx
    rw [hx.1]
    congr 1
    apply List.ext_getElem?
    intro i
    by_cases hi : i < n
    · obtain ⟨z, hz, hy, _⟩ := key i hi
      simp [hz, hi, hy, intOf]
    · simp [List.getElem?_eq_none (show xs.length ≤ i by omega), hi]
  · simp only [Prod.mk.injEq] at hx
    rw [hx.2]
    rw [List.flatMap_eq_nil_iff]
    intro x hxm
    obtain ⟨i, hi, rfl⟩ := List.getElem_of_mem hxm
    obtain ⟨z, _, hy, _⟩ := key i (by omega)
    rw [List.getElem?_eq_getElem hi] at hy
    injection hy with hy
    rw [hy]
  · intro z hz
    simp only [List.mem_map, List.mem_range] at hz
    obtain ⟨i, hi, rfl⟩ := hz
    obtain ⟨z, hz, _, hw⟩ := key i hi
    simpa [hz, intOf] using hw
theorem shutArr {n : Nat} {t e : TypeId} (ht : P.underlying t = some (.array n e)) (he : P.underlying e = some (.int .i64)) (hce : P.cellsOf e = 1) (hct : P.cellsOf t = n) (zs : List Int) (hn : zs.length = n)
    (hw : ∀ z ∈ zs, (Lit.int .i64 z).wf = true) : DataW.Trod enc P w base spare held t (.agg (zs.map (Value.int .i64)).toArray) (.agg (zs.map fun z => .lit (.int .i64 z))) [] := by
  refine ⟨2, ?_⟩
  unfold DataW.trod
  rw [ht]
  have hm : (List.range n).mapM (fun i => DataW.trod enc P w base spare held 1 e ((((zs.map (Value.int .i64)).drop (i * P.cellsOf e)).take (P.cellsOf e)))) = some (zs.map fun z => (DataW.lit (.int .i64 z), ([] : List MemPlace))) := by
    have hg : ∀ (l : List Int), (∀ z ∈ l, (Lit.int .i64 z).wf = true) → ∀ k, (∀ i, i < l.length → zs[k + i]? = l[i]?) →
        ((List.range l.length).map (k + ·)).mapM (fun i => DataW.trod enc P w base spare held 1 e ((((zs.map (Value.int .i64)).drop (i * P.cellsOf e)).take (P.cellsOf e)))) = some (l.map fun z => (DataW.lit (.int .i64 z), ([] : List MemPlace))) := by
      intro l
      induction l with
      | nil => intros; rfl
      | cons z l ih =>
        intro hwl k hk
        have h0 := hk 0 (by simp)
        simp at h0
        have hkl : k < zs.length := by
          rcases Nat.lt_or_ge k zs.length with h | h
          · exact h
          · rw [List.getElem?_eq_none h] at h0; cases h0
        have e1 : ((zs.map (Value.int .i64)).drop k).take 1 = [.int .i64 z] := by
          rw [List.drop_eq_getElem_cons (by simpa using hkl)]
          rw [List.getElem?_eq_getElem hkl] at h0
          injection h0 with h0
          simp [h0]
        have hz : DataW.trod enc P w base spare held 1 e [.int .i64 z] = some (.lit (.int .i64 z), []) := by
          unfold DataW.trod
          rw [he]
          simp [hwl z (by simp)]
        have ih' := ih (fun y hy => hwl y (by simp [hy])) (k + 1) (fun i hi => by
          have := hk (i + 1) (by simp; omega)
          simpa [Nat.add_assoc, Nat.add_comm 1 i] using this)
        have hr : (List.range (z :: l).length).map (k + ·) = k :: (List.range l.length).map (k + 1 + ·) := by
          rw [List.length_cons, List.range_succ_eq_map]
          simp [List.map_map, Function.comp_def, Nat.add_assoc, Nat.add_comm 1]
        rw [hr, List.mapM_cons]
        rw [hce, Nat.mul_one] at *
        rw [e1, hz]
        simp only [Option.bind_eq_bind, Option.bind_some]
        rw [ih']
        rfl
    have := hg zs hw 0 (fun i hi => by simp)
    simpa [hn] using this
  have hl : ((zs.map (Value.int .i64)).toArray : Array Value).toList.length = P.cellsOf t := by simp [hn, hct]
  show (if ((zs.map (Value.int .i64)).toArray : Array Value).toList.length = P.cellsOf t then _ else none) = _
  rw [if_pos hl]
  show ((List.range n).mapM (fun i => DataW.trod enc P w base spare held 1 e ((((zs.map (Value.int .i64))).drop (i * P.cellsOf e)).take (P.cellsOf e)))).map _ = _
  rw [hm]
  simp [List.map_map, Function.comp_def]
/-- The row's last step, where of the world behind the call 'Below' is known. -/
theorem postBelow {f : Func} {s : ChangeSpec} {apart fresh handsOn again : Bool} {W W' : World} {args : Array Value} {v : Value} {ds gs : List (DataW H)} {before pa pv : List MemPlace}
    (hW : DataW.Whole enc P f.params.toList s.vars apart W args.toList ds gs before)
    (hres : ∀ (b : Nat) (sp : Nat → Bool) (hd : Bool), DataW.TrodAll enc P W' b sp hd f.resultTypes.toList (v.resultList f.resultTypes.size) (s.fn H (ds ++ gs)).results [])
    (hargs : ∀ sp : Nat → Bool, (∀ p ∈ before, sp p.block = true) → DataW.TrodAll enc P W' 0 sp true f.params.toList args.toList (s.fn H (ds ++ gs)).args pa)
    (hvars : ∀ sp : Nat → Bool, (∀ p ∈ before, sp p.block = true) → DataW.TrodVars enc P W' sp s.vars (s.fn H (ds ++ gs)).vars pv)
    (hps : before = pa ++ pv) (hb : Below W.heap.size W W')
    (hok : ∀ (j : Nat) (t : TypeId) (r : Value), f.resultTypes[j]? = some t → (v.resultList f.resultTypes.size)[j]? = some r → Value.okWide P W' .any 0 t r) :
    s.post enc P f apart fresh handsOn again W args v W' := by
  have hlow : ∀ p ∈ before, decide (p.block < W.heap.size) = true := fun p hp => decide_eq_true (hW.lt p hp)
  have htrue : ∀ p ∈ before, (fun _ : Nat => true) p.block = true := fun _ _ => rfl
  refine ⟨ds, gs, before, [], pa, pv, hW, hres _ _ _, hargs (fun b => decide (b < W.heap.size)) hlow, hvars (fun b => decide (b < W.heap.size)) hlow,
    World.keptBut_mono (fun p hp => ⟨hp, Or.inr (by rw [hps, List.mem_append] at hp; exact hp)⟩) (hb.frame (· ∈ before)), fun _ => ?_⟩
  obtain ⟨_, _, _, _, _, hz, hn⟩ := hW
  refine ⟨hok, _, _, ([] ++ pa) ++ pv, ⟨[] ++ pa, pv, trodAll_append (hargs _ htrue) (hres _ _ _), hvars _ htrue, rfl, ?_, ?_⟩, ?_⟩
  · intro b off hp
    have hin : MemPlace.cell b off ∈ before := by rw [hps]; simpa using hp
    have hlt : b < W.heap.size := of_decide_eq_true (hlow _ hin)
    rw [hb.frozen (p := ⟨b, off, none⟩) hlt]
    exact hz b off hin
  · intro ha
    have := hn ha
    rw [hps] at this
    simpa using this
  · intro p hp _
    rw [hps]
    simpa using hp
end
theorem cells2 : Tryz.prog.cellsOf 28 = 2 := by kernel_rfl
theorem cells3 : Tryz.prog.cellsOf 43 = 3 := by kernel_rfl
theorem cellsI : Tryz.prog.cellsOf 2 = 1 := by kernel_rfl
section
variable {H : Type} {enc : TypeId × Value → H} {w : World} {base : Nat} {spare : Nat → Bool} {held : Bool}
theorem open_arr2 {r : Reach} {b0 : Nat} {v : Value} {d : DataW H} {p : List MemPlace} (hv : Value.okWide Tryz.prog w r b0 28 v) (h : DataW.Trod enc Tryz.prog w base spare held 28 v d p) : ∃ x y : Int, v = .agg #[.int .i64 x, .int .i64 y] ∧ d = .agg [.lit (.int .i64 x), .lit (.int .i64 y)] ∧ p = [] ∧ (Lit.int .i64 x).wf = true ∧ (Lit.int .i64 y).wf = true := by obtain ⟨zs, hn, hv, hd, hp, hw⟩ := openArr Tryz.underlying28 Tryz.underlying2 cellsI cells2 hv h; match zs, hn with | [x, y], _ => exact ⟨x, y, hv, hd, hp, hw x (by simp), hw y (by simp)⟩
theorem shut_arr2 {x y : Int} (hx : (Lit.int .i64 x).wf = true) (hy : (Lit.int .i64 y).wf = true) : DataW.Trod enc Tryz.prog w base spare held 28 (.agg #[.int .i64 x, .int .i64 y]) (.agg [.lit (.int .i64 x), .lit (.int .i64 y)]) [] := shutArr Tryz.underlying28 Tryz.underlying2 cellsI cells2 [x, y] rfl (by simp [hx, hy])
theorem open_arr3 {r : Reach} {b0 : Nat} {v : Value} {d : DataW H} {p : List MemPlace} (hv : Value.okWide Tryz.prog w r b0 43 v) (h : DataW.Trod enc Tryz.prog w base spare held 43 v d p) : ∃ x y z : Int, v = .agg #[.int .i64 x, .int .i64 y, .int .i64 z] ∧ d = .agg [.lit (.int .i64 x), .lit (.int .i64 y), .lit (.int .i64 z)] ∧ p = [] ∧ (Lit.int .i64 x).wf = true ∧ (Lit.int .i64 y).wf = true ∧ (Lit.int .i64 z).wf = true := by obtain ⟨zs, hn, hv, hd, hp, hw⟩ := openArr Tryz.underlying43 Tryz.underlying2 cellsI cells3 hv h; match zs, hn with | [x, y, z], _ => exact ⟨x, y, z, hv, hd, hp, hw x (by simp), hw y (by simp), hw z (by simp)⟩
theorem shut_arr3 {x y z : Int} (hx : (Lit.int .i64 x).wf = true) (hy : (Lit.int .i64 y).wf = true) (hz : (Lit.int .i64 z).wf = true) : DataW.Trod enc Tryz.prog w base spare held 43 (.agg #[.int .i64 x, .int .i64 y, .int .i64 z]) (.agg [.lit (.int .i64 x), .lit (.int .i64 y), .lit (.int .i64 z)]) [] := shutArr Tryz.underlying43 Tryz.underlying2 cellsI cells3 [x, y, z] rfl (by simp [hx, hy, hz])
end
end Go.Proofs.YtbjcbbnfgfmllaaGreatDoor
