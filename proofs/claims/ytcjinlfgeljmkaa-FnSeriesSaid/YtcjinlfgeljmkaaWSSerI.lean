/- Lemmas of SerI. -/
import Derived.Test.YtcjinlfgeljmkaaWSSerH
set_option linter.unusedSimpArgs false
set_option linter.unusedVariables false
namespace Go.Proofs.Ytcjinlfgeljmkaa
open Go.RowKit

set_option maxHeartbeats 1000000 in
set_option maxRecDepth 100000 in
theorem sReverseSeries_c (m : Int) (v : Value) (xs : List Int) (w : World) (hv : RdI w v xs) :
    Calls Try.prog 26 #[.agg #[.int .i64 m, v]] w fun e w' => SEnd w w' (revR m xs) e := by
  obtain ⟨o, c, rfl, hmx, -⟩ := id hv
  have hml := hmx.1
  clear hmx
  cases h1 : serB m xs
  · have hR : revR m xs = SR.bad 1 := by simp [revR, h1]
    rw [hR]
    clear hR
    go_enter Try.func26, Try.ntmps26
    go_wp2_with fail
    (have X0 := ((RB2.mk1 w  (.int .i64 m) (.slice o xs.length c) 26).1).below (w' := ((w.alloc (.cells #[.int .i64 m, .slice o xs.length c] 26)).alloc (.cells #[.int .i64 0, .slice none 0 0] 26))) (by (repeat (first | exact Below.refl _ _ | (refine Below.setCell ?_ (by first | (simp; done) | (simp; omega) | omega) _) | (refine Below.alloc ?_ (by first | (simp; done) | (simp; omega) | omega) _) | (refine below_drewN ?_ _) | (refine Below.drew ?_)))) (Nat.le_refl _); have R0 := ((RB2.mk2 w (.cells #[.int .i64 m, .slice o xs.length c] 26) (.int .i64 0) (.slice none 0 0) 26)).below (w' := ((w.alloc (.cells #[.int .i64 m, .slice o xs.length c] 26)).alloc (.cells #[.int .i64 0, .slice none 0 0] 26))) (by (repeat (first | exact Below.refl _ _ | (refine Below.setCell ?_ (by first | (simp; done) | (simp; omega) | omega) _) | (refine Below.alloc ?_ (by first | (simp; done) | (simp; omega) | omega) _) | (refine below_drewN ?_ _) | (refine Below.drew ?_)))) (Nat.le_refl _); have B0 : Below w.heap.size w ((w.alloc (.cells #[.int .i64 m, .slice o xs.length c] 26)).alloc (.cells #[.int .i64 0, .slice none 0 0] 26)) := (by (repeat (first | exact Below.refl _ _ | (refine Below.setCell ?_ (by first | (simp; done) | (simp; omega) | omega) _) | (refine Below.alloc ?_ (by first | (simp; done) | (simp; omega) | omega) _) | (refine below_drewN ?_ _) | (refine Below.drew ?_)))); have hv0 := hv.below (w' := ((w.alloc (.cells #[.int .i64 m, .slice o xs.length c] 26)).alloc (.cells #[.int .i64 0, .slice none 0 0] 26))) (by (repeat (first | exact Below.refl _ _ | (refine Below.setCell ?_ (by first | (simp; done) | (simp; omega) | omega) _) | (refine Below.alloc ?_ (by first | (simp; done) | (simp; omega) | omega) _) | (refine below_drewN ?_ _) | (refine Below.drew ?_)))) (Nat.le_refl _); generalize (w.alloc (.cells #[.int .i64 m, .slice o xs.length c] 26)).alloc (.cells #[.int .i64 0, .slice none 0 0] 26) = w0 at X0 R0 B0 hv0 ⊢)
    (obtain ⟨gqX0, gqX1⟩ := id X0; go_wp2_with fail; refine (l02Is_c m _ xs _ hv0).mono ?_; rw [h1]; rintro e w1 ⟨rfl, hb⟩; (have X1 := X0.below hb (Nat.le_refl _); have R1 := R0.below hb (Nat.le_refl _); have hv1 := hv0.below hb (Nat.le_refl _); have B1 := B0.trans (hb.mono B0.size)); clear gqX0 gqX1; clear hb)
    (obtain ⟨⟨r0, r1⟩, rf⟩ := id R1; go_wp2; exact bodyPost_ret (v := .tuple #[.agg #[.int .i64 0, .slice none 0 0], .int .i64 1]) (by simp [results, Try.results26, go_sem, r0, r1]) rfl ⟨_, rfl, OwI.nil _ _, (by (repeat (first | exact Below.refl _ _ | (refine Below.setCell ?_ (by first | (simp; done) | (simp; omega) | omega) _) | (refine Below.alloc ?_ (by first | (simp; done) | (simp; omega) | omega) _) | (refine below_drewN ?_ _) | (refine Below.drew ?_) | (refine Below.trans ?_ (Below.mono B1 (by first | (simp; done) | (simp; omega) | omega)))))), by simp [SR.bad]⟩)
  · have hn := ser_n h1
    have hm := ser_m h1
    have hx := ser_x h1
    have hr1 := at0_range (by omega) hx 1
    have i0 : (1 : Int) < (xs.length : Int) := by omega
    have i2 : 1 < xs.length := by omega
    obtain ⟨bx, fx, rfl, -⟩ := hv.cells (by omega)
    have E1 := Lib.hid (some_at0 (xs := xs) (k := 1) (by omega))
    cases h2 : curB m xs
    · have hR : revR m xs = SR.bad 5 := by
        have : coB m xs = false := by simp [curB, h1] at h2; simp [coB, h2]
        simp [revR, h1, this]
      rw [hR]
      clear hR
      go_enter Try.func26, Try.ntmps26
      go_wp2_with fail
      (have X0 := ((RB2.mk1 w  (.int .i64 m) (.slice (some ⟨bx, fx, none⟩) xs.length c) 26).1).below (w' := ((w.alloc (.cells #[.int .i64 m, .slice (some ⟨bx, fx, none⟩) xs.length c] 26)).alloc (.cells #[.int .i64 0, .slice none 0 0] 26))) (by (repeat (first | exact Below.refl _ _ | (refine Below.setCell ?_ (by first | (simp; done) | (simp; omega) | omega) _) | (refine Below.alloc ?_ (by first | (simp; done) | (simp; omega) | omega) _) | (refine below_drewN ?_ _) | (refine Below.drew ?_)))) (Nat.le_refl _); have R0 := ((RB2.mk2 w (.cells #[.int .i64 m, .slice (some ⟨bx, fx, none⟩) xs.length c] 26) (.int .i64 0) (.slice none 0 0) 26)).below (w' := ((w.alloc (.cells #[.int .i64 m, .slice (some ⟨bx, fx, none⟩) xs.length c] 26)).alloc (.cells #[.int .i64 0, .slice none 0 0] 26))) (by (repeat (first | exact Below.refl _ _ | (refine Below.setCell ?_ (by first | (simp; done) | (simp; omega) | omega) _) | (refine Below.alloc ?_ (by first | (simp; done) | (simp; omega) | omega) _) | (refine below_drewN ?_ _) | (refine Below.drew ?_)))) (Nat.le_refl _); have B0 : Below w.heap.size w ((w.alloc (.cells #[.int .i64 m, .slice (some ⟨bx, fx, none⟩) xs.length c] 26)).alloc (.cells #[.int .i64 0, .slice none 0 0] 26)) := (by (repeat (first | exact Below.refl _ _ | (refine Below.setCell ?_ (by first | (simp; done) | (simp; omega) | omega) _) | (refine Below.alloc ?_ (by first | (simp; done) | (simp; omega) | omega) _) | (refine below_drewN ?_ _) | (refine Below.drew ?_)))); have hv0 := hv.below (w' := ((w.alloc (.cells #[.int .i64 m, .slice (some ⟨bx, fx, none⟩) xs.length c] 26)).alloc (.cells #[.int .i64 0, .slice none 0 0] 26))) (by (repeat (first | exact Below.refl _ _ | (refine Below.setCell ?_ (by first | (simp; done) | (simp; omega) | omega) _) | (refine Below.alloc ?_ (by first | (simp; done) | (simp; omega) | omega) _) | (refine below_drewN ?_ _) | (refine Below.drew ?_)))) (Nat.le_refl _); generalize (w.alloc (.cells #[.int .i64 m, .slice (some ⟨bx, fx, none⟩) xs.length c] 26)).alloc (.cells #[.int .i64 0, .slice none 0 0] 26) = w0 at X0 R0 B0 hv0 ⊢)
      (obtain ⟨gqX0, gqX1⟩ := id X0; go_wp2_with fail; refine (l02Is_c m _ xs _ hv0).mono ?_; rw [h1]; rintro e w1 ⟨rfl, hb⟩; (have X1 := X0.below hb (Nat.le_refl _); have R1 := R0.below hb (Nat.le_refl _); have hv1 := hv0.below hb (Nat.le_refl _); have B1 := B0.trans (hb.mono B0.size)); clear gqX0 gqX1; clear hb)
      have hvd := hv1.below (w' := w1.drew) ((Below.refl _ _).drew) (Nat.le_refl _)
      have c1 := hv1.cell0 E1.out
      obtain ⟨k0, k1⟩ := id X1
      go_wp2_with fail
      have hd0 : Below w1.heap.size w1 w1.drew := (Below.refl _ _).drew
      have hsd0 := hd0.size
      refine wp_region_K (S := fun w' => w'.cell? ⟨w.heap.size, 0, none⟩ = some (.int .i64 m) ∧ w'.cell? ⟨w.heap.size, 1, none⟩ = some (.slice (some ⟨bx, fx, none⟩) xs.length c) ∧ w'.cell? ⟨bx, fx + 1, none⟩ = some (.int .i64 (at0 xs 1))) [13] (by kernel_rfl) ?_
      have hHeld : (fun w' : World => w'.cell? ⟨w.heap.size, 0, none⟩ = some (.int .i64 m) ∧ w'.cell? ⟨w.heap.size, 1, none⟩ = some (.slice (some ⟨bx, fx, none⟩) xs.length c) ∧ w'.cell? ⟨bx, fx + 1, none⟩ = some (.int .i64 (at0 xs 1))) w1.drew := by go_keep
      refine' wpAnyK_takeL (i := 0) (v := _) rfl (by kernel_rfl) (by kernel_rfl) (by kernel_rfl) (by kernel_rfl) (fun _ _ _ h => h) (Or.inl ⟨by rfl, ?yT1⟩) hHeld ?rT1
      case yT1 => (intro w' hSw; (try dsimp only at hSw); go_simp; try with_reducible rfl)
      try simp only [List.getElem_toArray, List.getElem_cons_zero, List.getElem_cons_succ, Act.put, List.setIfInBounds_toArray, List.set_cons_zero, List.set_cons_succ]
      refine wpAnyK_oneL (i := 1) rfl (by kernel_rfl) (fun K hK => ?_)
      go_simp
      go_at_call 113
      have hC := l02Curve_c m _ xs _ hvd
      rw [h2] at hC
      refine hC.mono ?_
      rintro e w2 ⟨rfl, hb⟩
      have hb := (Below.trans (a := w1) (B := w1.heap.size) (b := w1.drew) ((Below.refl _ _).drew) hb)
      have X2 := X1.below hb (Nat.le_refl _)
      have R2 := R1.below hb (Nat.le_refl _)
      have hv2 := hv1.below hb (Nat.le_refl _)
      have B2 := B1.trans (hb.mono B1.size)
      have d1 := hv2.cell0 E1.out
      clear k0 k1 hHeld
      obtain ⟨k0, k1⟩ := id X2
      clear hb hC
      go_wp2_with fail
      have hHeld : (fun w' : World => w'.cell? ⟨w.heap.size, 0, none⟩ = some (.int .i64 m) ∧ w'.cell? ⟨w.heap.size, 1, none⟩ = some (.slice (some ⟨bx, fx, none⟩) xs.length c) ∧ w'.cell? ⟨bx, fx + 1, none⟩ = some (.int .i64 (at0 xs 1))) w2 := by go_keep
      refine hK.out _ _ (fun _ => hHeld) ?_
      clear hK K
      try simp only [List.getElem_toArray, List.getElem_cons_zero, List.getElem_cons_succ, Act.put, List.setIfInBounds_toArray, List.set_cons_zero, List.set_cons_succ]
      refine' wpAnyK_takeL (i := 2) (v := _) rfl (by kernel_rfl) (by kernel_rfl) (by kernel_rfl) (by kernel_rfl) (fun _ _ _ h => h) (Or.inl ⟨by rfl, ?yT2⟩) hHeld ?rT2
      case yT2 => (intro w' hSw; (try dsimp only at hSw); go_simp; try with_reducible rfl)
      try simp only [List.getElem_toArray, List.getElem_cons_zero, List.getElem_cons_succ, Act.put, List.setIfInBounds_toArray, List.set_cons_zero, List.set_cons_succ]
      refine' wpAnyK_takeL (i := 3) (v := _) rfl (by kernel_rfl) (by kernel_rfl) (by kernel_rfl) (by kernel_rfl) (fun _ _ _ h => h) (Or.inl ⟨by rfl, ?yT3⟩) hHeld ?rT3
      case yT3 => (intro w' hSw; (try dsimp only at hSw); go_simp; try with_reducible rfl)
      try simp only [List.getElem_toArray, List.getElem_cons_zero, List.getElem_cons_succ, Act.put, List.setIfInBounds_toArray, List.set_cons_zero, List.set_cons_succ]
      refine' wpAnyK_takeL (i := 4) (v := undef) rfl (by kernel_rfl) (by kernel_rfl) (by kernel_rfl) (by kernel_rfl) (fun _ _ _ h => h) (Or.inr ⟨by rfl, rfl⟩) hHeld ?rT4
      try simp only [List.getElem_toArray, List.getElem_cons_zero, List.getElem_cons_succ, Act.put, List.setIfInBounds_toArray, List.set_cons_zero, List.set_cons_succ]
      refine' wpAnyK_takeL (i := 5) (v := undef) rfl (by kernel_rfl) (by kernel_rfl) (by kernel_rfl) (by kernel_rfl) (fun _ _ _ h => h) (Or.inr ⟨by rfl, rfl⟩) hHeld ?rT5
      try simp only [List.getElem_toArray, List.getElem_cons_zero, List.getElem_cons_succ, Act.put, List.setIfInBounds_toArray, List.set_cons_zero, List.set_cons_succ]
      refine' wpAnyK_takeL (i := 6) (v := undef) rfl (by kernel_rfl) (by kernel_rfl) (by kernel_rfl) (by kernel_rfl) (fun _ _ _ h => h) (Or.inr ⟨by rfl, rfl⟩) hHeld ?rT6
      try simp only [List.getElem_toArray, List.getElem_cons_zero, List.getElem_cons_succ, Act.put, List.setIfInBounds_toArray, List.set_cons_zero, List.set_cons_succ]
      refine' wpAnyK_takeL (i := 7) (v := undef) rfl (by kernel_rfl) (by kernel_rfl) (by kernel_rfl) (by kernel_rfl) (fun _ _ _ h => h) (Or.inr ⟨by rfl, rfl⟩) hHeld ?rT7
      try simp only [List.getElem_toArray, List.getElem_cons_zero, List.getElem_cons_succ, Act.put, List.setIfInBounds_toArray, List.set_cons_zero, List.set_cons_succ]
      refine' wpAnyK_takeL (i := 8) (v := undef) rfl (by kernel_rfl) (by kernel_rfl) (by kernel_rfl) (by kernel_rfl) (fun _ _ _ h => h) (Or.inr ⟨by rfl, rfl⟩) hHeld ?rT8
      try simp only [List.getElem_toArray, List.getElem_cons_zero, List.getElem_cons_succ, Act.put, List.setIfInBounds_toArray, List.set_cons_zero, List.set_cons_succ]
      refine' wpAnyK_takeL (i := 9) (v := undef) rfl (by kernel_rfl) (by kernel_rfl) (by kernel_rfl) (by kernel_rfl) (fun _ _ _ h => h) (Or.inr ⟨by rfl, rfl⟩) hHeld ?rT9
      try simp only [List.getElem_toArray, List.getElem_cons_zero, List.getElem_cons_succ, Act.put, List.setIfInBounds_toArray, List.set_cons_zero, List.set_cons_succ]
      refine' wpAnyK_takeL (i := 10) (v := undef) rfl (by kernel_rfl) (by kernel_rfl) (by kernel_rfl) (by kernel_rfl) (fun _ _ _ h => h) (Or.inr ⟨by rfl, rfl⟩) hHeld ?rT10
      try simp only [List.getElem_toArray, List.getElem_cons_zero, List.getElem_cons_succ, Act.put, List.setIfInBounds_toArray, List.set_cons_zero, List.set_cons_succ]
      refine' wpAnyK_takeL (i := 11) (v := undef) rfl (by kernel_rfl) (by kernel_rfl) (by kernel_rfl) (by kernel_rfl) (fun _ _ _ h => h) (Or.inr ⟨by rfl, rfl⟩) hHeld ?rT11
      try simp only [List.getElem_toArray, List.getElem_cons_zero, List.getElem_cons_succ, Act.put, List.setIfInBounds_toArray, List.set_cons_zero, List.set_cons_succ]
      refine' wpAnyK_takeL (i := 12) (v := _) rfl (by kernel_rfl) (by kernel_rfl) (by kernel_rfl) (by kernel_rfl) (fun _ _ _ h => h) (Or.inl ⟨by rfl, ?yT12⟩) hHeld ?rT12
      case yT12 => (intro w' hSw; (try dsimp only at hSw); go_simp; try with_reducible rfl)
      try simp only [List.getElem_toArray, List.getElem_cons_zero, List.getElem_cons_succ, Act.put, List.setIfInBounds_toArray, List.set_cons_zero, List.set_cons_succ]
      refine wpAnyK_oneL (i := 13) rfl (by kernel_rfl) (fun K hK => ?_)
      go_simp
      (try go_wp2_with fail)
      refine hK.out _ _ (fun h => absurd h (by decide)) ?_
      clear hK K
      try simp only [List.getElem_toArray, List.getElem_cons_zero, List.getElem_cons_succ, Act.put, List.setIfInBounds_toArray, List.set_cons_zero, List.set_cons_succ]
      refine wpAnyK_done (by kernel_rfl) ?_ _
      (obtain ⟨⟨r0, r1⟩, rf⟩ := id R2; go_wp2; exact bodyPost_ret (v := .tuple #[.agg #[.int .i64 0, .slice none 0 0], .int .i64 5]) (by simp [results, Try.results26, go_sem, r0, r1]) rfl ⟨_, rfl, OwI.nil _ _, (by (repeat (first | exact Below.refl _ _ | (refine Below.setCell ?_ (by first | (simp; done) | (simp; omega) | omega) _) | (refine Below.alloc ?_ (by first | (simp; done) | (simp; omega) | omega) _) | (refine below_drewN ?_ _) | (refine Below.drew ?_) | (refine Below.trans ?_ (Below.mono B2 (by first | (simp; done) | (simp; omega) | omega)))))), by simp [SR.bad]⟩)
    · have h20 : at0 xs 0 = 0 := by simp [curB, h1] at h2; exact h2
      have H20 := Lib.hid h20
      clear h20
      cases h3 : unitB m (at0 xs 1)
      · have hR : revR m xs = SR.bad 5 := by simp [revR, h1, coB, h3]
        rw [hR]
        clear hR
        go_enter Try.func26, Try.ntmps26
        go_wp2_with fail
        (have X0 := ((RB2.mk1 w  (.int .i64 m) (.slice (some ⟨bx, fx, none⟩) xs.length c) 26).1).below (w' := ((w.alloc (.cells #[.int .i64 m, .slice (some ⟨bx, fx, none⟩) xs.length c] 26)).alloc (.cells #[.int .i64 0, .slice none 0 0] 26))) (by (repeat (first | exact Below.refl _ _ | (refine Below.setCell ?_ (by first | (simp; done) | (simp; omega) | omega) _) | (refine Below.alloc ?_ (by first | (simp; done) | (simp; omega) | omega) _) | (refine below_drewN ?_ _) | (refine Below.drew ?_)))) (Nat.le_refl _); have R0 := ((RB2.mk2 w (.cells #[.int .i64 m, .slice (some ⟨bx, fx, none⟩) xs.length c] 26) (.int .i64 0) (.slice none 0 0) 26)).below (w' := ((w.alloc (.cells #[.int .i64 m, .slice (some ⟨bx, fx, none⟩) xs.length c] 26)).alloc (.cells #[.int .i64 0, .slice none 0 0] 26))) (by (repeat (first | exact Below.refl _ _ | (refine Below.setCell ?_ (by first | (simp; done) | (simp; omega) | omega) _) | (refine Below.alloc ?_ (by first | (simp; done) | (simp; omega) | omega) _) | (refine below_drewN ?_ _) | (refine Below.drew ?_)))) (Nat.le_refl _); have B0 : Below w.heap.size w ((w.alloc (.cells #[.int .i64 m, .slice (some ⟨bx, fx, none⟩) xs.length c] 26)).alloc (.cells #[.int .i64 0, .slice none 0 0] 26)) := (by (repeat (first | exact Below.refl _ _ | (refine Below.setCell ?_ (by first | (simp; done) | (simp; omega) | omega) _) | (refine Below.alloc ?_ (by first | (simp; done) | (simp; omega) | omega) _) | (refine below_drewN ?_ _) | (refine Below.drew ?_)))); have hv0 := hv.below (w' := ((w.alloc (.cells #[.int .i64 m, .slice (some ⟨bx, fx, none⟩) xs.length c] 26)).alloc (.cells #[.int .i64 0, .slice none 0 0] 26))) (by (repeat (first | exact Below.refl _ _ | (refine Below.setCell ?_ (by first | (simp; done) | (simp; omega) | omega) _) | (refine Below.alloc ?_ (by first | (simp; done) | (simp; omega) | omega) _) | (refine below_drewN ?_ _) | (refine Below.drew ?_)))) (Nat.le_refl _); generalize (w.alloc (.cells #[.int .i64 m, .slice (some ⟨bx, fx, none⟩) xs.length c] 26)).alloc (.cells #[.int .i64 0, .slice none 0 0] 26) = w0 at X0 R0 B0 hv0 ⊢)
        (obtain ⟨gqX0, gqX1⟩ := id X0; go_wp2_with fail; refine (l02Is_c m _ xs _ hv0).mono ?_; rw [h1]; rintro e w1 ⟨rfl, hb⟩; (have X1 := X0.below hb (Nat.le_refl _); have R1 := R0.below hb (Nat.le_refl _); have hv1 := hv0.below hb (Nat.le_refl _); have B1 := B0.trans (hb.mono B0.size)); clear gqX0 gqX1; clear hb)
        have hvd := hv1.below (w' := w1.drew) ((Below.refl _ _).drew) (Nat.le_refl _)
        have c1 := hv1.cell0 E1.out
        obtain ⟨k0, k1⟩ := id X1
        go_wp2_with fail
        have hd0 : Below w1.heap.size w1 w1.drew := (Below.refl _ _).drew
        have hsd0 := hd0.size
        refine wp_region_K (S := fun w' => w'.cell? ⟨w.heap.size, 0, none⟩ = some (.int .i64 m) ∧ w'.cell? ⟨w.heap.size, 1, none⟩ = some (.slice (some ⟨bx, fx, none⟩) xs.length c) ∧ w'.cell? ⟨bx, fx + 1, none⟩ = some (.int .i64 (at0 xs 1))) [13] (by kernel_rfl) ?_
        have hHeld : (fun w' : World => w'.cell? ⟨w.heap.size, 0, none⟩ = some (.int .i64 m) ∧ w'.cell? ⟨w.heap.size, 1, none⟩ = some (.slice (some ⟨bx, fx, none⟩) xs.length c) ∧ w'.cell? ⟨bx, fx + 1, none⟩ = some (.int .i64 (at0 xs 1))) w1.drew := by go_keep
        refine' wpAnyK_takeL (i := 0) (v := _) rfl (by kernel_rfl) (by kernel_rfl) (by kernel_rfl) (by kernel_rfl) (fun _ _ _ h => h) (Or.inl ⟨by rfl, ?yT13⟩) hHeld ?rT13
        case yT13 => (intro w' hSw; (try dsimp only at hSw); go_simp; try with_reducible rfl)
        try simp only [List.getElem_toArray, List.getElem_cons_zero, List.getElem_cons_succ, Act.put, List.setIfInBounds_toArray, List.set_cons_zero, List.set_cons_succ]
        refine wpAnyK_oneL (i := 1) rfl (by kernel_rfl) (fun K hK => ?_)
        go_simp
        go_at_call 113
        have hC := l02Curve_c m _ xs _ hvd
        rw [h2] at hC
        refine hC.mono ?_
        rintro e w2 ⟨rfl, hb⟩
        have hb := (Below.trans (a := w1) (B := w1.heap.size) (b := w1.drew) ((Below.refl _ _).drew) hb)
        have X2 := X1.below hb (Nat.le_refl _)
        have R2 := R1.below hb (Nat.le_refl _)
        have hv2 := hv1.below hb (Nat.le_refl _)
        have B2 := B1.trans (hb.mono B1.size)
        have d1 := hv2.cell0 E1.out
        clear k0 k1 hHeld
        obtain ⟨k0, k1⟩ := id X2
        clear hb hC
        go_wp2_with fail
        have hHeld : (fun w' : World => w'.cell? ⟨w.heap.size, 0, none⟩ = some (.int .i64 m) ∧ w'.cell? ⟨w.heap.size, 1, none⟩ = some (.slice (some ⟨bx, fx, none⟩) xs.length c) ∧ w'.cell? ⟨bx, fx + 1, none⟩ = some (.int .i64 (at0 xs 1))) w2 := by go_keep
        refine hK.out _ _ (fun _ => hHeld) ?_
        clear hK K
        try simp only [List.getElem_toArray, List.getElem_cons_zero, List.getElem_cons_succ, Act.put, List.setIfInBounds_toArray, List.set_cons_zero, List.set_cons_succ]
        refine' wpAnyK_takeL (i := 2) (v := _) rfl (by kernel_rfl) (by kernel_rfl) (by kernel_rfl) (by kernel_rfl) (fun _ _ _ h => h) (Or.inl ⟨by rfl, ?yT14⟩) hHeld ?rT14
        case yT14 => (intro w' hSw; (try dsimp only at hSw); go_simp; try with_reducible rfl)
        try simp only [List.getElem_toArray, List.getElem_cons_zero, List.getElem_cons_succ, Act.put, List.setIfInBounds_toArray, List.set_cons_zero, List.set_cons_succ]
        refine' wpAnyK_takeL (i := 3) (v := _) rfl (by kernel_rfl) (by kernel_rfl) (by kernel_rfl) (by kernel_rfl) (fun _ _ _ h => h) (Or.inl ⟨by rfl, ?yT15⟩) hHeld ?rT15
        case yT15 => (intro w' hSw; (try dsimp only at hSw); go_simp; try with_reducible rfl)
        try simp only [List.getElem_toArray, List.getElem_cons_zero, List.getElem_cons_succ, Act.put, List.setIfInBounds_toArray, List.set_cons_zero, List.set_cons_succ]
        refine' wpAnyK_takeL (i := 4) (v := _) rfl (by kernel_rfl) (by kernel_rfl) (by kernel_rfl) (by kernel_rfl) (fun _ _ _ h => h) (Or.inl ⟨by rfl, ?yT16⟩) hHeld ?rT16
        case yT16 => (intro w' hSw; (try dsimp only at hSw); go_simp; try with_reducible rfl)
        try simp only [List.getElem_toArray, List.getElem_cons_zero, List.getElem_cons_succ, Act.put, List.setIfInBounds_toArray, List.set_cons_zero, List.set_cons_succ]
        refine' wpAnyK_takeL (i := 5) (v := _) rfl (by kernel_rfl) (by kernel_rfl) (by kernel_rfl) (by kernel_rfl) (fun _ _ _ h => h) (Or.inl ⟨by rfl, ?yT17⟩) hHeld ?rT17
        case yT17 => (intro w' hSw; (try dsimp only at hSw); go_simp; try with_reducible rfl)
        try simp only [List.getElem_toArray, List.getElem_cons_zero, List.getElem_cons_succ, Act.put, List.setIfInBounds_toArray, List.set_cons_zero, List.set_cons_succ]
        refine' wpAnyK_takeL (i := 6) (v := _) rfl (by kernel_rfl) (by kernel_rfl) (by kernel_rfl) (by kernel_rfl) (fun _ _ _ h => h) (Or.inl ⟨by rfl, ?yT18⟩) hHeld ?rT18
        case yT18 => (intro w' hSw; (try dsimp only at hSw); go_simp; try with_reducible rfl)
        try simp only [List.getElem_toArray, List.getElem_cons_zero, List.getElem_cons_succ, Act.put, List.setIfInBounds_toArray, List.set_cons_zero, List.set_cons_succ]
        refine' wpAnyK_takeL (i := 7) (v := _) rfl (by kernel_rfl) (by kernel_rfl) (by kernel_rfl) (by kernel_rfl) (fun _ _ _ h => h) (Or.inl ⟨by rfl, ?yT19⟩) hHeld ?rT19
        case yT19 => (intro w' hSw; (try dsimp only at hSw); go_simp; try with_reducible rfl)
        try simp only [List.getElem_toArray, List.getElem_cons_zero, List.getElem_cons_succ, Act.put, List.setIfInBounds_toArray, List.set_cons_zero, List.set_cons_succ]
        refine' wpAnyK_takeL (i := 8) (v := _) rfl (by kernel_rfl) (by kernel_rfl) (by kernel_rfl) (by kernel_rfl) (fun _ _ _ h => h) (Or.inl ⟨by rfl, ?yT20⟩) hHeld ?rT20
        case yT20 => (intro w' hSw; (try dsimp only at hSw); go_simp; try with_reducible rfl)
        try simp only [List.getElem_toArray, List.getElem_cons_zero, List.getElem_cons_succ, Act.put, List.setIfInBounds_toArray, List.set_cons_zero, List.set_cons_succ]
        refine' wpAnyK_takeL (i := 9) (v := _) rfl (by kernel_rfl) (by kernel_rfl) (by kernel_rfl) (by kernel_rfl) (fun _ _ _ h => h) (Or.inl ⟨by rfl, ?yT21⟩) hHeld ?rT21
        case yT21 => (intro w' hSw; (try dsimp only at hSw); go_simp; try with_reducible rfl)
        try simp only [List.getElem_toArray, List.getElem_cons_zero, List.getElem_cons_succ, Act.put, List.setIfInBounds_toArray, List.set_cons_zero, List.set_cons_succ]
        refine wpAnyK_oneL (i := 10) rfl (by kernel_rfl) (fun K hK => ?_)
        go_simp
        go_at_call 119
        refine (l01Unit_c m (at0 xs 1) _ (by omega) (by omega) (by omega) (by omega)).mono ?_
        rintro e w' ⟨rfl, rfl⟩
        go_wp2_with fail
        refine hK.out _ _ (fun _ => hHeld) ?_
        clear hK K
        try simp only [List.getElem_toArray, List.getElem_cons_zero, List.getElem_cons_succ, Act.put, List.setIfInBounds_toArray, List.set_cons_zero, List.set_cons_succ]
        refine' wpAnyK_takeL (i := 11) (v := _) rfl (by kernel_rfl) (by kernel_rfl) (by kernel_rfl) (by kernel_rfl) (fun _ _ _ h => h) (Or.inl ⟨by rfl, ?yT22⟩) hHeld ?rT22
        case yT22 => (intro w' hSw; (try dsimp only at hSw); go_simp; try with_reducible rfl)
        try simp only [List.getElem_toArray, List.getElem_cons_zero, List.getElem_cons_succ, Act.put, List.setIfInBounds_toArray, List.set_cons_zero, List.set_cons_succ]
        refine' wpAnyK_takeL (i := 12) (v := _) rfl (by kernel_rfl) (by kernel_rfl) (by kernel_rfl) (by kernel_rfl) (fun _ _ _ h => h) (Or.inl ⟨by rfl, ?yT23⟩) hHeld ?rT23
        case yT23 => (intro w' hSw; (try dsimp only at hSw); go_simp; try with_reducible rfl)
        try simp only [List.getElem_toArray, List.getElem_cons_zero, List.getElem_cons_succ, Act.put, List.setIfInBounds_toArray, List.set_cons_zero, List.set_cons_succ]
        refine wpAnyK_oneL (i := 13) rfl (by kernel_rfl) (fun K hK => ?_)
        go_simp
        (try go_wp2_with fail)
        refine hK.out _ _ (fun h => absurd h (by decide)) ?_
        clear hK K
        try simp only [List.getElem_toArray, List.getElem_cons_zero, List.getElem_cons_succ, Act.put, List.setIfInBounds_toArray, List.set_cons_zero, List.set_cons_succ]
        refine wpAnyK_done (by kernel_rfl) ?_ _
        (obtain ⟨⟨r0, r1⟩, rf⟩ := id R2; go_wp2; exact bodyPost_ret (v := .tuple #[.agg #[.int .i64 0, .slice none 0 0], .int .i64 5]) (by simp [results, Try.results26, go_sem, r0, r1]) rfl ⟨_, rfl, OwI.nil _ _, (by (repeat (first | exact Below.refl _ _ | (refine Below.setCell ?_ (by first | (simp; done) | (simp; omega) | omega) _) | (refine Below.alloc ?_ (by first | (simp; done) | (simp; omega) | omega) _) | (refine below_drewN ?_ _) | (refine Below.drew ?_) | (refine Below.trans ?_ (Below.mono B2 (by first | (simp; done) | (simp; omega) | omega)))))), by simp [SR.bad]⟩)
      · have hR : revR m xs = ⟨m, revL m xs.length xs, 0⟩ := by simp [revR, h1, coB, h3, H20.out]
        rw [hR]
        clear hR
        have hlen : (revL m xs.length xs).length ≤ 1048576 := by rw [revL_len]; omega
        go_enter Try.func26, Try.ntmps26
        go_wp2_with fail
        (have X0 := ((RB2.mk1 w  (.int .i64 m) (.slice (some ⟨bx, fx, none⟩) xs.length c) 26).1).below (w' := ((w.alloc (.cells #[.int .i64 m, .slice (some ⟨bx, fx, none⟩) xs.length c] 26)).alloc (.cells #[.int .i64 0, .slice none 0 0] 26))) (by (repeat (first | exact Below.refl _ _ | (refine Below.setCell ?_ (by first | (simp; done) | (simp; omega) | omega) _) | (refine Below.alloc ?_ (by first | (simp; done) | (simp; omega) | omega) _) | (refine below_drewN ?_ _) | (refine Below.drew ?_)))) (Nat.le_refl _); have R0 := ((RB2.mk2 w (.cells #[.int .i64 m, .slice (some ⟨bx, fx, none⟩) xs.length c] 26) (.int .i64 0) (.slice none 0 0) 26)).below (w' := ((w.alloc (.cells #[.int .i64 m, .slice (some ⟨bx, fx, none⟩) xs.length c] 26)).alloc (.cells #[.int .i64 0, .slice none 0 0] 26))) (by (repeat (first | exact Below.refl _ _ | (refine Below.setCell ?_ (by first | (simp; done) | (simp; omega) | omega) _) | (refine Below.alloc ?_ (by first | (simp; done) | (simp; omega) | omega) _) | (refine below_drewN ?_ _) | (refine Below.drew ?_)))) (Nat.le_refl _); have B0 : Below w.heap.size w ((w.alloc (.cells #[.int .i64 m, .slice (some ⟨bx, fx, none⟩) xs.length c] 26)).alloc (.cells #[.int .i64 0, .slice none 0 0] 26)) := (by (repeat (first | exact Below.refl _ _ | (refine Below.setCell ?_ (by first | (simp; done) | (simp; omega) | omega) _) | (refine Below.alloc ?_ (by first | (simp; done) | (simp; omega) | omega) _) | (refine below_drewN ?_ _) | (refine Below.drew ?_)))); have hv0 := hv.below (w' := ((w.alloc (.cells #[.int .i64 m, .slice (some ⟨bx, fx, none⟩) xs.length c] 26)).alloc (.cells #[.int .i64 0, .slice none 0 0] 26))) (by (repeat (first | exact Below.refl _ _ | (refine Below.setCell ?_ (by first | (simp; done) | (simp; omega) | omega) _) | (refine Below.alloc ?_ (by first | (simp; done) | (simp; omega) | omega) _) | (refine below_drewN ?_ _) | (refine Below.drew ?_)))) (Nat.le_refl _); generalize (w.alloc (.cells #[.int .i64 m, .slice (some ⟨bx, fx, none⟩) xs.length c] 26)).alloc (.cells #[.int .i64 0, .slice none 0 0] 26) = w0 at X0 R0 B0 hv0 ⊢)
        (obtain ⟨gqX0, gqX1⟩ := id X0; go_wp2_with fail; refine (l02Is_c m _ xs _ hv0).mono ?_; rw [h1]; rintro e w1 ⟨rfl, hb⟩; (have X1 := X0.below hb (Nat.le_refl _); have R1 := R0.below hb (Nat.le_refl _); have hv1 := hv0.below hb (Nat.le_refl _); have B1 := B0.trans (hb.mono B0.size)); clear gqX0 gqX1; clear hb)
        have hvd := hv1.below (w' := w1.drew) ((Below.refl _ _).drew) (Nat.le_refl _)
        have c1 := hv1.cell0 E1.out
        obtain ⟨k0, k1⟩ := id X1
        go_wp2_with fail
        have hd0 : Below w1.heap.size w1 w1.drew := (Below.refl _ _).drew
        have hsd0 := hd0.size
        refine wp_region_K (S := fun w' => w'.cell? ⟨w.heap.size, 0, none⟩ = some (.int .i64 m) ∧ w'.cell? ⟨w.heap.size, 1, none⟩ = some (.slice (some ⟨bx, fx, none⟩) xs.length c) ∧ w'.cell? ⟨bx, fx + 1, none⟩ = some (.int .i64 (at0 xs 1))) [13] (by kernel_rfl) ?_
        have hHeld : (fun w' : World => w'.cell? ⟨w.heap.size, 0, none⟩ = some (.int .i64 m) ∧ w'.cell? ⟨w.heap.size, 1, none⟩ = some (.slice (some ⟨bx, fx, none⟩) xs.length c) ∧ w'.cell? ⟨bx, fx + 1, none⟩ = some (.int .i64 (at0 xs 1))) w1.drew := by go_keep
        refine' wpAnyK_takeL (i := 0) (v := _) rfl (by kernel_rfl) (by kernel_rfl) (by kernel_rfl) (by kernel_rfl) (fun _ _ _ h => h) (Or.inl ⟨by rfl, ?yT24⟩) hHeld ?rT24
        case yT24 => (intro w' hSw; (try dsimp only at hSw); go_simp; try with_reducible rfl)
        try simp only [List.getElem_toArray, List.getElem_cons_zero, List.getElem_cons_succ, Act.put, List.setIfInBounds_toArray, List.set_cons_zero, List.set_cons_succ]
        refine wpAnyK_oneL (i := 1) rfl (by kernel_rfl) (fun K hK => ?_)
        go_simp
        go_at_call 113
        have hC := l02Curve_c m _ xs _ hvd
        rw [h2] at hC
        refine hC.mono ?_
        rintro e w2 ⟨rfl, hb⟩
        have hb := (Below.trans (a := w1) (B := w1.heap.size) (b := w1.drew) ((Below.refl _ _).drew) hb)
        have X2 := X1.below hb (Nat.le_refl _)
        have R2 := R1.below hb (Nat.le_refl _)
        have hv2 := hv1.below hb (Nat.le_refl _)
        have B2 := B1.trans (hb.mono B1.size)
        have d1 := hv2.cell0 E1.out
        clear k0 k1 hHeld
        obtain ⟨k0, k1⟩ := id X2
        clear hb hC
        go_wp2_with fail
        have hHeld : (fun w' : World => w'.cell? ⟨w.heap.size, 0, none⟩ = some (.int .i64 m) ∧ w'.cell? ⟨w.heap.size, 1, none⟩ = some (.slice (some ⟨bx, fx, none⟩) xs.length c) ∧ w'.cell? ⟨bx, fx + 1, none⟩ = some (.int .i64 (at0 xs 1))) w2 := by go_keep
        refine hK.out _ _ (fun _ => hHeld) ?_
        clear hK K
        try simp only [List.getElem_toArray, List.getElem_cons_zero, List.getElem_cons_succ, Act.put, List.setIfInBounds_toArray, List.set_cons_zero, List.set_cons_succ]
        refine' wpAnyK_takeL (i := 2) (v := _) rfl (by kernel_rfl) (by kernel_rfl) (by kernel_rfl) (by kernel_rfl) (fun _ _ _ h => h) (Or.inl ⟨by rfl, ?yT25⟩) hHeld ?rT25
        case yT25 => (intro w' hSw; (try dsimp only at hSw); go_simp; try with_reducible rfl)
        try simp only [List.getElem_toArray, List.getElem_cons_zero, List.getElem_cons_succ, Act.put, List.setIfInBounds_toArray, List.set_cons_zero, List.set_cons_succ]
        refine' wpAnyK_takeL (i := 3) (v := _) rfl (by kernel_rfl) (by kernel_rfl) (by kernel_rfl) (by kernel_rfl) (fun _ _ _ h => h) (Or.inl ⟨by rfl, ?yT26⟩) hHeld ?rT26
        case yT26 => (intro w' hSw; (try dsimp only at hSw); go_simp; try with_reducible rfl)
        try simp only [List.getElem_toArray, List.getElem_cons_zero, List.getElem_cons_succ, Act.put, List.setIfInBounds_toArray, List.set_cons_zero, List.set_cons_succ]
        refine' wpAnyK_takeL (i := 4) (v := _) rfl (by kernel_rfl) (by kernel_rfl) (by kernel_rfl) (by kernel_rfl) (fun _ _ _ h => h) (Or.inl ⟨by rfl, ?yT27⟩) hHeld ?rT27
        case yT27 => (intro w' hSw; (try dsimp only at hSw); go_simp; try with_reducible rfl)
        try simp only [List.getElem_toArray, List.getElem_cons_zero, List.getElem_cons_succ, Act.put, List.setIfInBounds_toArray, List.set_cons_zero, List.set_cons_succ]
        refine' wpAnyK_takeL (i := 5) (v := _) rfl (by kernel_rfl) (by kernel_rfl) (by kernel_rfl) (by kernel_rfl) (fun _ _ _ h => h) (Or.inl ⟨by rfl, ?yT28⟩) hHeld ?rT28
        case yT28 => (intro w' hSw; (try dsimp only at hSw); go_simp; try with_reducible rfl)
        try simp only [List.getElem_toArray, List.getElem_cons_zero, List.getElem_cons_succ, Act.put, List.setIfInBounds_toArray, List.set_cons_zero, List.set_cons_succ]
        refine' wpAnyK_takeL (i := 6) (v := _) rfl (by kernel_rfl) (by kernel_rfl) (by kernel_rfl) (by kernel_rfl) (fun _ _ _ h => h) (Or.inl ⟨by rfl, ?yT29⟩) hHeld ?rT29
        case yT29 => (intro w' hSw; (try dsimp only at hSw); go_simp; try with_reducible rfl)
        try simp only [List.getElem_toArray, List.getElem_cons_zero, List.getElem_cons_succ, Act.put, List.setIfInBounds_toArray, List.set_cons_zero, List.set_cons_succ]
        refine' wpAnyK_takeL (i := 7) (v := _) rfl (by kernel_rfl) (by kernel_rfl) (by kernel_rfl) (by kernel_rfl) (fun _ _ _ h => h) (Or.inl ⟨by rfl, ?yT30⟩) hHeld ?rT30
        case yT30 => (intro w' hSw; (try dsimp only at hSw); go_simp; try with_reducible rfl)
        try simp only [List.getElem_toArray, List.getElem_cons_zero, List.getElem_cons_succ, Act.put, List.setIfInBounds_toArray, List.set_cons_zero, List.set_cons_succ]
        refine' wpAnyK_takeL (i := 8) (v := _) rfl (by kernel_rfl) (by kernel_rfl) (by kernel_rfl) (by kernel_rfl) (fun _ _ _ h => h) (Or.inl ⟨by rfl, ?yT31⟩) hHeld ?rT31
        case yT31 => (intro w' hSw; (try dsimp only at hSw); go_simp; try with_reducible rfl)
        try simp only [List.getElem_toArray, List.getElem_cons_zero, List.getElem_cons_succ, Act.put, List.setIfInBounds_toArray, List.set_cons_zero, List.set_cons_succ]
        refine' wpAnyK_takeL (i := 9) (v := _) rfl (by kernel_rfl) (by kernel_rfl) (by kernel_rfl) (by kernel_rfl) (fun _ _ _ h => h) (Or.inl ⟨by rfl, ?yT32⟩) hHeld ?rT32
        case yT32 => (intro w' hSw; (try dsimp only at hSw); go_simp; try with_reducible rfl)
        try simp only [List.getElem_toArray, List.getElem_cons_zero, List.getElem_cons_succ, Act.put, List.setIfInBounds_toArray, List.set_cons_zero, List.set_cons_succ]
        refine wpAnyK_oneL (i := 10) rfl (by kernel_rfl) (fun K hK => ?_)
        go_simp
        go_at_call 119
        refine (l01Unit_c m (at0 xs 1) _ (by omega) (by omega) (by omega) (by omega)).mono ?_
        rintro e w' ⟨rfl, rfl⟩
        go_wp2_with fail
        refine hK.out _ _ (fun _ => hHeld) ?_
        clear hK K
        try simp only [List.getElem_toArray, List.getElem_cons_zero, List.getElem_cons_succ, Act.put, List.setIfInBounds_toArray, List.set_cons_zero, List.set_cons_succ]
        refine' wpAnyK_takeL (i := 11) (v := _) rfl (by kernel_rfl) (by kernel_rfl) (by kernel_rfl) (by kernel_rfl) (fun _ _ _ h => h) (Or.inl ⟨by rfl, ?yT33⟩) hHeld ?rT33
        case yT33 => (intro w' hSw; (try dsimp only at hSw); go_simp; try with_reducible rfl)
        try simp only [List.getElem_toArray, List.getElem_cons_zero, List.getElem_cons_succ, Act.put, List.setIfInBounds_toArray, List.set_cons_zero, List.set_cons_succ]
        refine' wpAnyK_takeL (i := 12) (v := _) rfl (by kernel_rfl) (by kernel_rfl) (by kernel_rfl) (by kernel_rfl) (fun _ _ _ h => h) (Or.inl ⟨by rfl, ?yT34⟩) hHeld ?rT34
        case yT34 => (intro w' hSw; (try dsimp only at hSw); go_simp; try with_reducible rfl)
        try simp only [List.getElem_toArray, List.getElem_cons_zero, List.getElem_cons_succ, Act.put, List.setIfInBounds_toArray, List.set_cons_zero, List.set_cons_succ]
        refine wpAnyK_oneL (i := 13) rfl (by kernel_rfl) (fun K hK => ?_)
        go_simp
        (try go_wp2_with fail)
        refine hK.out _ _ (fun h => absurd h (by decide)) ?_
        clear hK K
        try simp only [List.getElem_toArray, List.getElem_cons_zero, List.getElem_cons_succ, Act.put, List.setIfInBounds_toArray, List.set_cons_zero, List.set_cons_succ]
        refine wpAnyK_done (by kernel_rfl) ?_ _
        go_wp2_with fail
        clear k0 k1 d1 c1
        have hd0 : Below w2.heap.size w2 w2.drew := (Below.refl _ _).drew
        have hsd0 := hd0.size
        have hrl := R2.1.lt
        have hneR_X2 : w.heap.size + 1 ≠ w.heap.size := by omega
        obtain ⟨⟨q0_R_0, q0_R_1⟩, qf0_R⟩ := R2.below (Below.refl w2.heap.size w2) (Nat.le_refl _)
        obtain ⟨q0_X2_0, q0_X2_1⟩ := X2.below (Below.refl w2.heap.size w2) (Nat.le_refl _)
        go_region_held3 (fun w' => w'.cell? ⟨w.heap.size, 0, none⟩ = some (.int .i64 m) ∧ w'.cell? ⟨w.heap.size, 1, none⟩ = some (.slice (some ⟨bx, fx, none⟩) xs.length c)) (go_keep)
          (first
            | (go_at_call 103; refine (l02Degree_c m _ xs.length c _ hml).mono ?_; rintro e wd1 ⟨rfl, hbd1⟩; have hd1 : Below w2.heap.size w2 wd1 := (by (repeat (first | exact Below.refl _ _ | (refine Below.setCell ?_ (by first | (simp; done) | (simp; omega) | omega) _) | (refine Below.alloc ?_ (by first | (simp; done) | (simp; omega) | omega) _) | (refine below_drewN ?_ _) | (refine Below.drew ?_) | (refine Below.trans ?_ (Below.mono hbd1 (by first | (simp; done) | (simp; omega) | omega)))))); have hsd1 := hd1.size; have hsz1_ := hbd1.size; (try simp at hsz1_); obtain ⟨⟨q1_R_0, q1_R_1⟩, qf1_R⟩ := R2.below hd1 (Nat.le_refl _); obtain ⟨q1_X2_0, q1_X2_1⟩ := X2.below hd1 (Nat.le_refl _))
            | (go_at_call 125; refine (l02Reverse_c m _ xs.length _ xs _ (by omega) ((hv2).below (by (repeat (first | exact Below.refl _ _ | (refine Below.setCell ?_ (by first | (simp; done) | (simp; omega) | omega) _) | (refine Below.alloc ?_ (by first | (simp; done) | (simp; omega) | omega) _) | (refine below_drewN ?_ _) | (refine Below.drew ?_) | (refine Below.trans ?_ (Below.mono hbd1 (by first | (simp; done) | (simp; omega) | omega)))))) (Nat.le_refl _)) rfl (by omega) (by omega) (by omega) (by omega) hx).mono ?_; rintro e wd2 ⟨va2, rfl, hod2, hbd2⟩; obtain ⟨oa, ca, rfl⟩ := hod2.shapeN (n := xs.length) (revL_len _ _ _); have hd2 : Below w2.heap.size w2 wd2 := (by (repeat (first | exact Below.refl _ _ | (refine Below.setCell ?_ (by first | (simp; done) | (simp; omega) | omega) _) | (refine Below.alloc ?_ (by first | (simp; done) | (simp; omega) | omega) _) | (refine below_drewN ?_ _) | (refine Below.drew ?_) | (refine Below.trans ?_ (Below.mono hbd1 (by first | (simp; done) | (simp; omega) | omega))) | (refine Below.trans ?_ (Below.mono hbd2 (by first | (simp; done) | (simp; omega) | omega)))))); have hsd2 := hd2.size; have hsz2_ := hbd2.size; (try simp at hsz2_); obtain ⟨⟨q2_R_0, q2_R_1⟩, qf2_R⟩ := R2.below hd2 (Nat.le_refl _); obtain ⟨q2_X2_0, q2_X2_1⟩ := X2.below hd2 (Nat.le_refl _))
            | (go_at_call 101; refine (l02Make_c m _ _ _ _).mono ?_; rintro e wd3 ⟨rfl, hbd3⟩; have hd3 : Below w2.heap.size w2 wd3 := (by (repeat (first | exact Below.refl _ _ | (refine Below.setCell ?_ (by first | (simp; done) | (simp; omega) | omega) _) | (refine Below.alloc ?_ (by first | (simp; done) | (simp; omega) | omega) _) | (refine below_drewN ?_ _) | (refine Below.drew ?_) | (refine Below.trans ?_ (Below.mono hbd1 (by first | (simp; done) | (simp; omega) | omega))) | (refine Below.trans ?_ (Below.mono hbd2 (by first | (simp; done) | (simp; omega) | omega))) | (refine Below.trans ?_ (Below.mono hbd3 (by first | (simp; done) | (simp; omega) | omega)))))); have hsd3 := hd3.size; have hsz3_ := hbd3.size; (try simp at hsz3_); obtain ⟨⟨q3_R_0, q3_R_1⟩, qf3_R⟩ := R2.below hd3 (Nat.le_refl _); obtain ⟨q3_X2_0, q3_X2_1⟩ := X2.below hd3 (Nat.le_refl _)))
        go_wp2
        refine bodyPost_ret (v := .tuple #[.agg #[.int .i64 m, .slice oa xs.length ca], .int .i64 0]) (by simp [results, Try.results26, go_sem, q3_R_0, q3_R_1]) rfl ⟨_, rfl, ?_, ?_, hlen⟩
        · have hbsz := B2.size
          exact (((hod2.below (by (repeat (first | exact Below.refl _ _ | (refine Below.setCell ?_ (by first | (simp; done) | (simp; omega) | omega) _) | (refine Below.alloc ?_ (by first | (simp; done) | (simp; omega) | omega) _) | (refine below_drewN ?_ _) | (refine Below.drew ?_) | (refine Below.trans ?_ (Below.mono hbd3 (by first | (simp; done) | (simp; omega) | omega))))))).low (by first | (simp; done) | (simp; omega) | omega) _).low (by first | (simp; done) | (simp; omega) | omega) _).mono (by first | (simp; done) | (simp; omega) | omega)
        · have hbsz := B2.size
          (repeat (first | exact Below.refl _ _ | (refine Below.setCell ?_ (by first | (simp; done) | (simp; omega) | omega) _) | (refine Below.alloc ?_ (by first | (simp; done) | (simp; omega) | omega) _) | (refine below_drewN ?_ _) | (refine Below.drew ?_) | (refine Below.trans ?_ (Below.mono hbd1 (by first | (simp; done) | (simp; omega) | omega))) | (refine Below.trans ?_ (Below.mono hbd2 (by first | (simp; done) | (simp; omega) | omega))) | (refine Below.trans ?_ (Below.mono hbd3 (by first | (simp; done) | (simp; omega) | omega))) | (refine Below.trans ?_ (Below.mono B2 (by first | (simp; done) | (simp; omega) | omega)))))
end Go.Proofs.Ytcjinlfgeljmkaa
