/- Lemmas of SrcK. -/
import Derived.Test.YtcjinlfgeljmkaaWSSrcN
set_option linter.unusedSimpArgs false
set_option linter.unusedVariables false
namespace Go.Proofs.Ytcjinlfgeljmkaa
open Go.RowKit

set_option maxHeartbeats 1000000 in
set_option maxRecDepth 100000 in
theorem DrawComposeSeries_d (B n : Nat) (v : Value) (w : World) (hv : RdB w B n v) (hB : B ≤ w.heap.size) :
    Calls Try.prog 29 #[v] w fun e w' => SSDr w w' e := by
  obtain ⟨ov, cv, rfl, hmv, hcv⟩ := id hv
  clear hmv hcv
  go_enter Try.func29, Try.ntmps29
  go_wp2_with fail
  have hR0 := (RB2.mk1 w (.int .i64 0) (.slice none 0 0) 26).below (w' := (w.alloc (.cells #[.int .i64 0, .slice none 0 0] 26)).alloc (.cells #[.int .i64 0, .slice none 0 0] 26)) (by (repeat (first | exact Below.refl _ _ | (refine Below.setCell ?_ (by first | (simp; done) | (simp; omega) | omega) _) | (refine Below.alloc ?_ (by first | (simp; done) | (simp; omega) | omega) _) | (refine below_drewN ?_ _) | (refine Below.drew ?_)))) (Nat.le_refl _)
  have hS0 := RB2.mk2 w (.cells #[.int .i64 0, .slice none 0 0] 26) (.int .i64 0) (.slice none 0 0) 26
  have hb0 : Below w.heap.size w ((w.alloc (.cells #[.int .i64 0, .slice none 0 0] 26)).alloc (.cells #[.int .i64 0, .slice none 0 0] 26)) := (by (repeat (first | exact Below.refl _ _ | (refine Below.setCell ?_ (by first | (simp; done) | (simp; omega) | omega) _) | (refine Below.alloc ?_ (by first | (simp; done) | (simp; omega) | omega) _) | (refine below_drewN ?_ _) | (refine Below.drew ?_))))
  generalize (w.alloc (.cells #[.int .i64 0, .slice none 0 0] 26)).alloc (.cells #[.int .i64 0, .slice none 0 0] 26) = w0 at hR0 hS0 hb0 ⊢
  have hv0 := hv.keep (w' := w0) (fun k hk => hb0.block k (by omega))
  have hl0 := hS0.1.lt
  refine (l01From_c B n _ w0 hv0 (by omega)).mono ?_
  rintro e w1 ⟨b, rfl, hs1, hb1⟩
  have hbl := hs1.1
  have hlt := hs1.lt
  have hR1 := hR0.below hb1 (Nat.le_refl _)
  have hS1 := hS0.below hb1 (Nat.le_refl _)
  have hv1 := hv0.keep (w' := w1) (fun k hk => hb1.block k (by omega))
  have hb1 := hb0.trans (hb1.mono hb0.size)
  have hz1 := hb1.size
  clear hR0 hS0 hb0 hv0
  go_wp2_with fail
  refine (l02Two_d B n _ w1 hv1 (by omega)).mono ?_
  rintro e w2 ⟨m, g, c, ys, k, q, u, zs, rfl, hO2, ⟨hk1, hk2, hk3⟩, hU2, hzl, hb2⟩
  obtain ⟨o', c', rfl⟩ := hU2.shape
  have hz2 := hb2.size
  have hR2 := hR1.below hb2 (Nat.le_refl _)
  have hS2 := hS1.below hb2 (Nat.le_refl _)
  have hd2 := (DW.refl hs1).below hb2
  clear hR1 hS1 hb2 hv1
  by_cases hk : 1 < zs.length
  · have i1 : (1 : Int) < (zs.length : Int) := by omega
    go_wp2_with fail
    have hX3 := (RB2.mk1 w2 (.int .i64 m) (.slice (some ⟨g, 0, none⟩) k c) 26).below (w' := ((w2.alloc (.cells #[.int .i64 m, .slice (some ⟨g, 0, none⟩) k c] 26)).alloc (.cells #[.int .i64 q, .slice o' zs.length c'] 26))) (by (repeat (first | exact Below.refl _ _ | (refine Below.setCell ?_ (by first | (simp; done) | (simp; omega) | omega) _) | (refine Below.alloc ?_ (by first | (simp; done) | (simp; omega) | omega) _) | (refine below_drewN ?_ _) | (refine Below.drew ?_)))) (Nat.le_refl _)
    have hY3 := RB2.mk2 w2 (.cells #[.int .i64 m, .slice (some ⟨g, 0, none⟩) k c] 26) (.int .i64 q) (.slice o' zs.length c') 26
    have hR3 := hR2.below (w' := ((w2.alloc (.cells #[.int .i64 m, .slice (some ⟨g, 0, none⟩) k c] 26)).alloc (.cells #[.int .i64 q, .slice o' zs.length c'] 26))) (by (repeat (first | exact Below.refl _ _ | (refine Below.setCell ?_ (by first | (simp; done) | (simp; omega) | omega) _) | (refine Below.alloc ?_ (by first | (simp; done) | (simp; omega) | omega) _) | (refine below_drewN ?_ _) | (refine Below.drew ?_)))) (Nat.le_refl _)
    have hS3 := hS2.below (w' := ((w2.alloc (.cells #[.int .i64 m, .slice (some ⟨g, 0, none⟩) k c] 26)).alloc (.cells #[.int .i64 q, .slice o' zs.length c'] 26))) (by (repeat (first | exact Below.refl _ _ | (refine Below.setCell ?_ (by first | (simp; done) | (simp; omega) | omega) _) | (refine Below.alloc ?_ (by first | (simp; done) | (simp; omega) | omega) _) | (refine below_drewN ?_ _) | (refine Below.drew ?_)))) (Nat.le_refl _)
    have hO3 := (hO2.alloc (.cells #[.int .i64 m, .slice (some ⟨g, 0, none⟩) k c] 26)).alloc (.cells #[.int .i64 q, .slice o' zs.length c'] 26)
    have hU3 := (hU2.alloc (.cells #[.int .i64 m, .slice (some ⟨g, 0, none⟩) k c] 26)).alloc (.cells #[.int .i64 q, .slice o' zs.length c'] 26)
    have hd3 := (hd2.alloc (.cells #[.int .i64 m, .slice (some ⟨g, 0, none⟩) k c] 26)).alloc (.cells #[.int .i64 q, .slice o' zs.length c'] 26)
    clear hR2 hS2 hO2 hU2 hd2
    generalize ((w2.alloc (.cells #[.int .i64 m, .slice (some ⟨g, 0, none⟩) k c] 26)).alloc (.cells #[.int .i64 q, .slice o' zs.length c'] 26)) = w3 at hX3 hY3 hR3 hS3 hO3 hU3 hd3 ⊢
    have n1 : w2.heap.size ≠ w.heap.size := by omega
    have n2 : w2.heap.size ≠ w.heap.size + 1 := by omega
    have n3 : w2.heap.size + 1 ≠ w.heap.size := by omega
    refine (next_d _ n b _ w3 hd3.src).mono ?_
    rintro e w4 ⟨t, rfl, t0, t1, t2, hd4, hz4⟩
    have hX4 := hX3.dw hd4 (by omega)
    have hY4 := hY3.dw hd4 (by omega)
    have hR4 := hR3.chg hd4.chg (.inl (by omega))
    have hS4 := hS3.chg hd4.chg (.inl (by omega))
    have hO4 := hO3.dw hd4 (by omega)
    have hU4 := hU3.dw hd4 (by omega)
    have hd4 := hd3.trans hd4
    have hl4 := hY4.1.lt
    clear t1 t2 hz4 hX3 hY3 hR3 hS3 hO3 hU3 hd3
    by_cases ht : 0 < t
    · obtain ⟨⟨x0, x1⟩, -⟩ := id hX4
      obtain ⟨⟨y0, y1⟩, -⟩ := id hY4
      go_wp2_with fail
      have hd0 : Below w4.heap.size w4 w4.drew := (Below.refl _ _).drew
      have hsd0 := hd0.size
      refine wp_region_K (S := fun w' => w'.cell? ⟨w2.heap.size, 0, none⟩ = some (.int .i64 m) ∧ w'.cell? ⟨w2.heap.size, 1, none⟩ = some (.slice (some ⟨g, 0, none⟩) k c) ∧ w'.cell? ⟨w2.heap.size + 1, 0, none⟩ = some (.int .i64 q) ∧ w'.cell? ⟨w2.heap.size + 1, 1, none⟩ = some (.slice o' zs.length c')) [4, 5] (by kernel_rfl) ?_
      have hHeld : (fun w' : World => w'.cell? ⟨w2.heap.size, 0, none⟩ = some (.int .i64 m) ∧ w'.cell? ⟨w2.heap.size, 1, none⟩ = some (.slice (some ⟨g, 0, none⟩) k c) ∧ w'.cell? ⟨w2.heap.size + 1, 0, none⟩ = some (.int .i64 q) ∧ w'.cell? ⟨w2.heap.size + 1, 1, none⟩ = some (.slice o' zs.length c')) w4.drew := by go_keep
      refine' wpAnyK_takeL (i := 0) (v := _) rfl (by kernel_rfl) (by kernel_rfl) (by kernel_rfl) (by kernel_rfl) (fun _ _ _ h => h) (Or.inl ⟨by rfl, ?yT1⟩) hHeld ?rT1
      case yT1 => (intro w' hSw; (try dsimp only at hSw); go_simp; try with_reducible rfl)
      try simp only [List.getElem_toArray, List.getElem_cons_zero, List.getElem_cons_succ, Act.put, List.setIfInBounds_toArray, List.set_cons_zero, List.set_cons_succ]
      refine' wpAnyK_takeL (i := 1) (v := _) rfl (by kernel_rfl) (by kernel_rfl) (by kernel_rfl) (by kernel_rfl) (fun _ _ _ h => h) (Or.inl ⟨by rfl, ?yT2⟩) hHeld ?rT2
      case yT2 => (intro w' hSw; (try dsimp only at hSw); go_simp; try with_reducible rfl)
      try simp only [List.getElem_toArray, List.getElem_cons_zero, List.getElem_cons_succ, Act.put, List.setIfInBounds_toArray, List.set_cons_zero, List.set_cons_succ]
      refine' wpAnyK_takeL (i := 2) (v := _) rfl (by kernel_rfl) (by kernel_rfl) (by kernel_rfl) (by kernel_rfl) (fun _ _ _ h => h) (Or.inl ⟨by rfl, ?yT3⟩) hHeld ?rT3
      case yT3 => (intro w' hSw; (try dsimp only at hSw); go_simp; try with_reducible rfl)
      try simp only [List.getElem_toArray, List.getElem_cons_zero, List.getElem_cons_succ, Act.put, List.setIfInBounds_toArray, List.set_cons_zero, List.set_cons_succ]
      refine wpAnyK_oneL (i := 3) rfl (by kernel_rfl) (fun K hK => ?_)
      go_simp
      go_at_call 122
      refine (l02Turn_d _ n b q _ zs w4.drew hd4.drew.src (show RdI w4.drew _ zs from hU4.rd) (by omega) (by omega)).mono ?_
      rintro e w5 ⟨u5, zt, rfl, hT5, hl5, hd5⟩
      obtain ⟨o5, c5, rfl⟩ := hT5.shape
      have hR5 := (show RB2 w4.drew _ _ _ from hR4).chg hd5.chg (.inl (by omega))
      have hS5 := (show RB2 w4.drew _ _ _ from hS4).chg hd5.chg (.inl (by omega))
      have hX5 := (show RB2 w4.drew _ _ _ from hX4).dw hd5 (by omega)
      have hY5 := (show RB2 w4.drew _ _ _ from hY4).dw hd5 (by omega)
      have hO5 := (show OwI w4.drew _ _ _ from hO4).dw hd5 (by omega)
      have hd5 := hd4.drew.trans hd5
      have HL := Lib.hid (show zt.length ≤ 30 by omega)
      clear hl5 hHeld
      obtain ⟨⟨r0, r1⟩, rf⟩ := id hR5
      obtain ⟨⟨s0, s1⟩, sf⟩ := id hS5
      obtain ⟨⟨a0, a1⟩, -⟩ := id hX5
      obtain ⟨⟨b0, b1⟩, -⟩ := id hY5
      go_wp2_with fail
      have hHeld : (fun w' : World => w'.cell? ⟨w2.heap.size, 0, none⟩ = some (.int .i64 m) ∧ w'.cell? ⟨w2.heap.size, 1, none⟩ = some (.slice (some ⟨g, 0, none⟩) k c) ∧ w'.cell? ⟨w2.heap.size + 1, 0, none⟩ = some (.int .i64 q) ∧ w'.cell? ⟨w2.heap.size + 1, 1, none⟩ = some (.slice o' zs.length c')) w5 := by go_keep
      refine hK.out _ _ (fun _ => hHeld) ?_
      clear hK K
      try simp only [List.getElem_toArray, List.getElem_cons_zero, List.getElem_cons_succ, Act.put, List.setIfInBounds_toArray, List.set_cons_zero, List.set_cons_succ]
      refine wpAnyK_oneL (i := 4) rfl (by kernel_rfl) (fun K hK => ?_)
      go_simp
      (try go_wp2_with fail)
      refine hK.out _ _ (fun h => absurd h (by decide)) ?_
      clear hK K
      try simp only [List.getElem_toArray, List.getElem_cons_zero, List.getElem_cons_succ, Act.put, List.setIfInBounds_toArray, List.set_cons_zero, List.set_cons_succ]
      refine wpAnyK_oneL (i := 5) rfl (by kernel_rfl) (fun K hK => ?_)
      go_simp
      (try go_wp2_with fail)
      refine hK.out _ _ (fun h => absurd h (by decide)) ?_
      clear hK K
      try simp only [List.getElem_toArray, List.getElem_cons_zero, List.getElem_cons_succ, Act.put, List.setIfInBounds_toArray, List.set_cons_zero, List.set_cons_succ]
      refine wpAnyK_done (by kernel_rfl) ?_ _
      go_wp2_with fail
      refine bodyPost_ret (v := .tuple #[.agg #[.int .i64 m, .slice (some ⟨g, 0, none⟩) k c], .agg #[.int .i64 q, .slice o5 zt.length c5]]) (by simp [results, Try.results29, go_sem, r0, r1, s0, s1]) rfl ⟨m, _, ys.take k, q, _, zt, rfl, ?_, ?_, by simp; omega, HL.out, ?_⟩
      · exact (rd_put (rd_put (rd_put (rd_put hO5 (by omega) _) (by omega) _) (by omega) _) (by omega) _).rd.take k hk2
      · exact (rd_put (rd_put (rd_put (rd_put hT5 (by simp; omega) _) (by simp; omega) _) (by simp; omega) _) (by simp; omega) _).rd
      · exact below_put (below_put (below_put (below_put (hd5.out hb1 (by omega)) (by omega) _) (by omega) _) (by omega) _) (by omega) _
    · have ht' : ¬ 0 < t := ht
      obtain ⟨⟨x0, x1⟩, -⟩ := id hX4
      obtain ⟨⟨y0, y1⟩, -⟩ := id hY4
      obtain ⟨⟨r0, r1⟩, rf⟩ := id hR4
      obtain ⟨⟨s0, s1⟩, sf⟩ := id hS4
      go_wp2_with fail
      go_region
      go_wp2_with fail
      refine bodyPost_ret (v := .tuple #[.agg #[.int .i64 m, .slice (some ⟨g, 0, none⟩) k c], .agg #[.int .i64 q, .slice o' zs.length c']]) (by simp [results, Try.results29, go_sem, r0, r1, s0, s1]) rfl ⟨m, _, ys.take k, q, _, zs, rfl, ?_, ?_, by simp; omega, hzl, ?_⟩
      · exact (OwI.drew2 (rd_put (rd_put (rd_put (rd_put hO4 (by omega) _) (by omega) _) (by omega) _) (by omega) _)).rd.take k hk2
      · exact (OwI.drew2 (rd_put (rd_put (rd_put (rd_put hU4 (by omega) _) (by omega) _) (by omega) _) (by omega) _)).rd
      · refine Below.drew ?_
        exact below_put (below_put (below_put (below_put (hd4.out hb1 (by omega)) (by omega) _) (by omega) _) (by omega) _) (by omega) _
  · have i1 : ¬ (1 : Int) < (zs.length : Int) := by omega
    have i2 : decide (1 < zs.length) = false := by simpa using hk
    have i3 : decide ((1 : Int) < (zs.length : Int)) = false := by simpa using i1
    clear i1
    go_wp2_with fail
    have hX3 := (RB2.mk1 w2 (.int .i64 m) (.slice (some ⟨g, 0, none⟩) k c) 26).below (w' := ((w2.alloc (.cells #[.int .i64 m, .slice (some ⟨g, 0, none⟩) k c] 26)).alloc (.cells #[.int .i64 q, .slice o' zs.length c'] 26))) (by (repeat (first | exact Below.refl _ _ | (refine Below.setCell ?_ (by first | (simp; done) | (simp; omega) | omega) _) | (refine Below.alloc ?_ (by first | (simp; done) | (simp; omega) | omega) _) | (refine below_drewN ?_ _) | (refine Below.drew ?_)))) (Nat.le_refl _)
    have hY3 := RB2.mk2 w2 (.cells #[.int .i64 m, .slice (some ⟨g, 0, none⟩) k c] 26) (.int .i64 q) (.slice o' zs.length c') 26
    have hR3 := hR2.below (w' := ((w2.alloc (.cells #[.int .i64 m, .slice (some ⟨g, 0, none⟩) k c] 26)).alloc (.cells #[.int .i64 q, .slice o' zs.length c'] 26))) (by (repeat (first | exact Below.refl _ _ | (refine Below.setCell ?_ (by first | (simp; done) | (simp; omega) | omega) _) | (refine Below.alloc ?_ (by first | (simp; done) | (simp; omega) | omega) _) | (refine below_drewN ?_ _) | (refine Below.drew ?_)))) (Nat.le_refl _)
    have hS3 := hS2.below (w' := ((w2.alloc (.cells #[.int .i64 m, .slice (some ⟨g, 0, none⟩) k c] 26)).alloc (.cells #[.int .i64 q, .slice o' zs.length c'] 26))) (by (repeat (first | exact Below.refl _ _ | (refine Below.setCell ?_ (by first | (simp; done) | (simp; omega) | omega) _) | (refine Below.alloc ?_ (by first | (simp; done) | (simp; omega) | omega) _) | (refine below_drewN ?_ _) | (refine Below.drew ?_)))) (Nat.le_refl _)
    have hO3 := (hO2.alloc (.cells #[.int .i64 m, .slice (some ⟨g, 0, none⟩) k c] 26)).alloc (.cells #[.int .i64 q, .slice o' zs.length c'] 26)
    have hU3 := (hU2.alloc (.cells #[.int .i64 m, .slice (some ⟨g, 0, none⟩) k c] 26)).alloc (.cells #[.int .i64 q, .slice o' zs.length c'] 26)
    have hd3 := (hd2.alloc (.cells #[.int .i64 m, .slice (some ⟨g, 0, none⟩) k c] 26)).alloc (.cells #[.int .i64 q, .slice o' zs.length c'] 26)
    clear hR2 hS2 hO2 hU2 hd2
    generalize ((w2.alloc (.cells #[.int .i64 m, .slice (some ⟨g, 0, none⟩) k c] 26)).alloc (.cells #[.int .i64 q, .slice o' zs.length c'] 26)) = w3 at hX3 hY3 hR3 hS3 hO3 hU3 hd3 ⊢
    have n1 : w2.heap.size ≠ w.heap.size := by omega
    have n2 : w2.heap.size ≠ w.heap.size + 1 := by omega
    have n3 : w2.heap.size + 1 ≠ w.heap.size := by omega
    obtain ⟨⟨x0, x1⟩, -⟩ := id hX3
    obtain ⟨⟨y0, y1⟩, -⟩ := id hY3
    obtain ⟨⟨r0, r1⟩, rf⟩ := id hR3
    obtain ⟨⟨s0, s1⟩, sf⟩ := id hS3
    go_region
    go_wp2_with fail
    refine bodyPost_ret (v := .tuple #[.agg #[.int .i64 m, .slice (some ⟨g, 0, none⟩) k c], .agg #[.int .i64 q, .slice o' zs.length c']]) (by simp [results, Try.results29, go_sem, r0, r1, s0, s1]) rfl ⟨m, _, ys.take k, q, _, zs, rfl, ?_, ?_, by simp; omega, hzl, ?_⟩
    · exact (OwI.drew2 (rd_put (rd_put (rd_put (rd_put hO3 (by omega) _) (by omega) _) (by omega) _) (by omega) _)).rd.take k hk2
    · exact (OwI.drew2 (rd_put (rd_put (rd_put (rd_put hU3 (by omega) _) (by omega) _) (by omega) _) (by omega) _)).rd
    · refine Below.drew ?_
      exact below_put (below_put (below_put (below_put (hd3.out hb1 (by omega)) (by omega) _) (by omega) _) (by omega) _) (by omega) _
end Go.Proofs.Ytcjinlfgeljmkaa
