/- Contracts: lines through a point that are not null. -/
import Derived.Test.YtjjidjcflimhgaaSq
import Derived.Test.YtjjidjcflimhgaaSp
import Derived.Test.YtjjidjcflimhgaaO2
import Derived.Test.YtjjidjcflimhgaaJ
import Derived.Test.YtjjidjcflimhgaaPl10
set_option linter.unusedVariables false
set_option linter.unusedSimpArgs false
set_option maxHeartbeats 1000000
set_option maxRecDepth 100000
namespace Go.Proofs.Ytjjidjcflimhgaa
open Go.RowKit
theorem l03Lines_any (p k ax ay : Int) (w : World) (hp1 : 2 ≤ p) (hp2 : p ≤ 31) (ax1 : 0 ≤ ax) (ax2 : ax < p) (ay1 : 0 ≤ ay) (ay2 : ay < p) :
    Calls Try.prog 110 #[.int .i64 p, .int .i64 k, .agg #[.int .i64 ax, .int .i64 ay]] w fun e w' => ∃ g c, e = .returned (.slice (some ⟨g, 0, none⟩) (Pl.lnsW (fun m => !Pl.nullB p k m.1 m.2.1) p ax ay).length c) ∧ Own w' (w.heap.size) 27 3 g (Pl.lnsW (fun m => !Pl.nullB p k m.1 m.2.1) p ax ay).length c (Pl.flat3 ((Pl.lnsW (fun m => !Pl.nullB p k m.1 m.2.1) p ax ay))) ∧ Below w.heap.size w w' := by
  have r0n := Int.emod_nonneg (-ay) (show p ≠ 0 by omega)
  have r0l := Int.emod_lt_of_pos (-ay) (show 0 < p by omega)
  go_enter Try.func110, Try.ntmps110
  go_wp2_with fail
  generalize hW : (World.alloc w (.cells #[.int .i64 ax, .int .i64 ay] 24)) = W
  have d00 : W.cell? ⟨w.heap.size, 0, none⟩ = some (.int .i64 ax) := by subst hW; go_simp
  have d01 : W.cell? ⟨w.heap.size, 1, none⟩ = some (.int .i64 ay) := by subst hW; go_simp
  have hB : Below w.heap.size w W := by subst hW; go_grown
  clear hW
  refine (l01Parallel_any p 0 1 0 ax ay _ (by omega) (by omega) (by omega) (by omega) (by omega) (by omega) (by omega) (by omega) (by omega) (by omega) (by omega) (by omega)).mono ?_
  rintro e w2 ⟨rfl, hb⟩
  rw [Pl.par0]
  have c02 := keepC hb d00
  have c12 := keepC hb d01
  have hB2 := below_of hB hb hB.size
  have hs2 := hB2.size
  have hs3 := World.block_lt_of_cell? w2 _ c02
  clear hb hB d00 d01
  go_wp2_with fail
  generalize hW : (World.alloc (World.alloc w2 (.cells #[.int .i64 0, .int .i64 1, .int .i64 ((-ay) % p)] 27)) (.cells #[] 27)) = W3
  have hA0 : Own W3 (w.heap.size + 1) 27 3 w2.heap.size 1 1 [0, 1, (-ay) % p] := by subst hW; exact (Own.lit' _ _ _ _ _ 1 [0, 1, (-ay) % p] _ rfl rfl hs3 (by omega) rfl).alloc _
  have hO0 : Own W3 (w.heap.size + 1) 27 3 (w2.heap.size + 1) 0 0 [] := by subst hW; exact Own.lit0 _ _ _ _ _ (by simp) (by simp; exact Nat.le_of_lt hs3)
  have c03 : W3.cell? ⟨w.heap.size, 0, none⟩ = some (.int .i64 ax) := by subst hW; exact keepA _ (keepA _ c02)
  have c13 : W3.cell? ⟨w.heap.size, 1, none⟩ = some (.int .i64 ay) := by subst hW; exact keepA _ (keepA _ c12)
  have hB3 : Below w.heap.size w W3 := by subst hW; exact (hB2.alloc hs2 _).alloc (by simp; omega) _
  have hneq0 : w2.heap.size ≠ w2.heap.size + 1 := by omega
  clear hW c02 c12 hB2
  generalize w2.heap.size + 1 = gO at *
  generalize w2.heap.size = gA at *
  go_loopw [7, 9] (fun v i wr => ∃ j g c : Nat, (j : Int) ≤ p ∧ i = .int .i64 j ∧ v = .slice (some ⟨g, 0, none⟩) (Pl.ltTo p ax ay (j)).length c ∧ Own wr (w.heap.size + 1) 27 3 g (Pl.ltTo p ax ay (j)).length c (Pl.flat3 ((Pl.ltTo p ax ay (j)))) ∧ Own wr (w.heap.size + 1) 27 3 gO 0 0 [] ∧ g ≠ gO ∧ wr.cell? ⟨w.heap.size, 0, none⟩ = some (.int .i64 ax) ∧ wr.cell? ⟨w.heap.size, 1, none⟩ = some (.int .i64 ay) ∧ Below w.heap.size w wr) (fun _ i _ => (p - intOf i).toNat)
  case atStart => exact ⟨0, gA, 1, by omega, rfl, rfl, hA0, hO0, hneq0, c03, c13, hB3⟩
  case round =>
    clear hA0 hO0 hneq0 c03 c13 hB3 hs2 hs3
    obtain ⟨j, g, c, hj, rfl, rfl, hA, hO, hne, c0, c1, hB⟩ := hrel
    have hs := hB.size
    have hnl := hid (Pl.ltTo_len p ax ay j)
    by_cases hlt : (j : Int) < p
    · have hl := hid (Pl.ltTo_succ p ax ay j)
      go_wp2_with fail
      refine (l01Parallel_any p 1 (j : Int) 0 ax ay _ (by omega) (by omega) (by omega) (by omega) (by omega) (by omega) (by omega) (by omega) (by omega) (by omega) (by omega) (by omega)).mono ?_
      rintro e w5 ⟨rfl, hb⟩
      rw [Pl.par1]
      have c05 := keepC hb c0
      have c15 := keepC hb c1
      have hA5 := hA.keep hb
      have hO5 := hO.keep hb
      have hB5 := below_of hB hb hs
      have hs5 := hB5.size
      have hs6 := World.block_lt_of_cell? w5 _ c05
      clear hb hB c0 c1 hA hO
      go_wp2_with (at_builtin; refine wp_push rfl _ _ 49 rfl (w.heap.size + 1) 27 3 24 (.agg #[.int .i64 0, .int .i64 0, .int .i64 0]) Try.underlying49 info_ln rfl (by decide) (by decide) _ _ _ _ rfl (hA5.alloc _) (by rw [hnl.out]; omega) ⟨w5.heap.size, 0, none⟩ 1 [1, (j : Int), ((-ax - (j : Int) * ay) % p)] rfl rfl (new3 _ _ _ _ _) (by simp; exact Nat.le_of_lt hs6) ?_; intro g3 c3 w3 hO3 hb3 hg3 hn3)
      have hA4 := hO3.cast (show (Pl.ltTo p ax ay (j)).length + 1 = (Pl.ltTo p ax ay (j + 1)).length by rw [hl.out]; simp) (show _ = Pl.flat3 (Pl.ltTo p ax ay (j + 1)) by rw [hl.out, Pl.app3])
      have hB4 := (hB5.alloc hs5 _).trans (hb3.mono (Nat.le_succ _))
      have c04 := cellOf hb3 (keepA (.cells #[.int .i64 1, .int .i64 (j : Int), .int .i64 ((-ax - (j : Int) * ay) % p)] 27) c05) (by simp)
      have c14 := cellOf hb3 (keepA (.cells #[.int .i64 1, .int .i64 (j : Int), .int .i64 ((-ax - (j : Int) * ay) % p)] 27) c15) (by simp)
      have hO4 := (hO5.alloc (.cells #[.int .i64 1, .int .i64 (j : Int), .int .i64 ((-ax - (j : Int) * ay) % p)] 27)).grown hg3 (by simp; exact hne)
      have hne4 : g3 ≠ gO := by have h1 := hO5.lt; simp at hn3; omega
      clear hg3 hn3 hO3 hb3 hA5 hO5 hB5 c05 c15
      go_roundw
      case rel => exact ⟨j + 1, g3, c3, by omega, by go_num, by rw [hl.out]; simp, hA4, hO4, hne4, c04, c14, hB4⟩
      case measure => simp [intOf]; omega
    · have hjp : j = p.toNat := by omega
      subst hjp
      have hS1 := hid (show Own wr (w.heap.size) 27 3 g (Pl.ltAll p ax ay).length c (Pl.flat3 ((Pl.ltAll p ax ay))) from hA.low (Nat.le_succ _))
      have hO1 := hO.low (B' := w.heap.size) (Nat.le_succ _)
      clear hA hO c0 c1 hnl
      have hlen0 := hid (show (Pl.ltTo p ax ay (p.toNat)).length = (Pl.ltAll p ax ay).length from rfl)
      go_wp2_with fail
      generalize hL : Pl.ltAll p ax ay = L at *
      have HL := hid hL
      clear hL
      have hnl0 : L.length ≤ 1000 := by rw [← HL.out, Pl.ltAll_len]; omega
      have hlen1 := hlen0.out
      generalize (Pl.ltTo p ax ay (p.toNat)).length = N at *
      subst hlen1
      go_loopw [8, 10] (fun v i wq => ∃ q gq cq : Nat, q ≤ L.length ∧ i = .int .i64 q ∧ v = .slice (some ⟨gq, 0, none⟩) ((L.take (q)).filter (fun m => !Pl.nullB p k m.1 m.2.1)).length cq ∧ Own wq (w.heap.size) 27 3 gq ((L.take (q)).filter (fun m => !Pl.nullB p k m.1 m.2.1)).length cq (Pl.flat3 (((L.take (q)).filter (fun m => !Pl.nullB p k m.1 m.2.1)))) ∧ Hid (Own wq (w.heap.size) 27 3 g (L).length c (Pl.flat3 ((L)))) ∧ gq ≠ g ∧ Below w.heap.size w wq) (fun _ i _ => L.length - (intOf i).toNat)
      case atStart => exact ⟨0, gO, 0, by omega, rfl, rfl, hO1, hS1, fun e => hne e.symm, hB⟩
      case round =>
        clear hO1 hS1 hne hB hs
        obtain ⟨q, gq, cq, hq0, rfl, rfl, hO, hS, hne, hB⟩ := hrel
        have hs := hB.size
        have hnl := hid (Pl.take_len (fun m => !Pl.nullB p k m.1 m.2.1) L q)
        by_cases hlt2 : q < L.length
        · have hcell := hS.out.cell3 hlt2
          have hmem := hid (Pl.getD_mem (0, 0, 0) hlt2)
          have hP1 := hid (fun h => Pl.take_hit (P := fun m => !Pl.nullB p k m.1 m.2.1) (l := L) (k := q) (d := (0, 0, 0)) hlt2 h)
          have hP2 := hid (fun h => Pl.take_miss (P := fun m => !Pl.nullB p k m.1 m.2.1) (l := L) (k := q) (d := (0, 0, 0)) hlt2 h)
          have hq := hid (show L.getD q (0, 0, 0) = ((L.getD q (0, 0, 0)).1, (L.getD q (0, 0, 0)).2.1, (L.getD q (0, 0, 0)).2.2) from rfl)
          generalize hx0 : (L.getD q (0, 0, 0)).1 = x at *
          clear hx0
          generalize hx1 : (L.getD q (0, 0, 0)).2.1 = y at *
          clear hx1
          generalize hx2 : (L.getD q (0, 0, 0)).2.2 = z at *
          clear hx2
          obtain ⟨e0, e1, e2⟩ := hcell
          have hm2 := hid (show (x, y, z) ∈ Pl.ltAll p ax ay from by have h1 := hmem.out; rw [hq.out] at h1; rw [HL.out]; exact h1)
          have hmb := Pl.mem_ltAll (by omega) hm2.out
          obtain ⟨hd, yb1, yb2, zb1, zb2⟩ := hmb
          have x12 : 0 ≤ x ∧ x ≤ 31 := by omega
          obtain ⟨x1, x2⟩ := x12
          clear hd hmem
          go_wp2_with fail
          refine (l03Null_any p k x y z _ (by omega) (by omega) (by omega) (by omega) (by omega) (by omega) (by omega) (by omega)).mono ?_
          rintro e w6 ⟨rfl, hb⟩
          have k0 := keepC hb e0
          have k1 := keepC hb e1
          have k2 := keepC hb e2
          have hO6 := hO.keep hb
          have hS6 := hid (hS.out.keep hb)
          have hB6 := below_of hB hb hB.size
          have hs6 := hB6.size
          clear hO hS hB hb e0 e1 e2
          cases hP : Pl.nullB p k x y with
          | false =>
            have hl := hid (hP1.out (by simp [hP]))
            clear hP1 hP2
            go_wp2_with (at_builtin; refine wp_push rfl _ _ 49 rfl (w.heap.size) 27 3 24 (.agg #[.int .i64 0, .int .i64 0, .int .i64 0]) Try.underlying49 info_ln rfl (by decide) (by decide) _ _ _ _ rfl (hO6.alloc _) (by have := hnl.out; omega) ⟨w6.heap.size, 0, none⟩ 1 [x, y, z] rfl rfl (new3 _ _ _ _ _) (by simp; omega) ?_; intro g5 c5 w5 hO5 hb5 hg5 hn5)
            have hO7 := hO5.cast (show ((L.take (q)).filter (fun m => !Pl.nullB p k m.1 m.2.1)).length + 1 = ((L.take (q + 1)).filter (fun m => !Pl.nullB p k m.1 m.2.1)).length by rw [hl.out]; simp) (show _ = Pl.flat3 ((L.take (q + 1)).filter (fun m => !Pl.nullB p k m.1 m.2.1)) by rw [hl.out, hq.out, Pl.app3])
            have hS7 := hid ((hS6.out.alloc (.cells #[.int .i64 x, .int .i64 y, .int .i64 z] 27)).grown hg5 (by simp; exact hne))
            have hne7 : g5 ≠ g := by have h1 := hS6.out.lt; simp at hn5; omega
            have hB7 := (hB6.alloc hs6 _).trans hb5
            clear hO5 hb5 hg5 hn5 hO6 hS6 hB6
            go_roundw
            case rel => exact ⟨q + 1, g5, c5, by omega, by go_num, by rw [hl.out]; simp, hO7, hS7, hne7, hB7⟩
            case measure => simp [intOf]; omega
          | true =>
            have hl := hid (hP2.out (by simp [hP]))
            clear hP1 hP2
            go_wp2_with fail
            go_roundw
            case rel => exact ⟨q + 1, gq, cq, by omega, by go_num, by rw [hl.out], by rw [hl.out]; exact hO6, hS6, hne, hB6⟩
            case measure => simp [intOf]; omega
        · go_wp2_with fail
          go_ret
          have ht := Pl.take_all (P := fun m => !Pl.nullB p k m.1 m.2.1) (show L.length ≤ q by omega)
          rw [ht, ← HL.out] at hO
          exact ⟨gq, cq, by rw [ht, ← HL.out]; rfl, hO, hB⟩
end Go.Proofs.Ytjjidjcflimhgaa
