/- Lemmas. -/
import Derived.Test.YtoednonijmkbjaaGreatLG3
import Derived.Test.YtoednonijmkbjaaGreatLG6
set_option linter.unusedSimpArgs false
set_option linter.unusedVariables false
namespace Go.Proofs.YtoednonijmkbjaaGreat
open Go.RowKit

set_option maxHeartbeats 2000000 in
set_option maxRecDepth 100000 in
theorem times_c (m m' : Int) (v u : Value) (xs ys : List Int) (w : World) (hv : RdI w v xs) (hu : RdI w u ys) (hl : ys.length = xs.length) (h1 : 1 ≤ xs.length) (hn : xs.length ≤ 1048576) (hm : 2 ≤ m) (hm' : m ≤ 1000000000000)
    (hx : ∀ x ∈ xs, 0 ≤ x ∧ x < m) (hy : ∀ x ∈ ys, 0 ≤ x ∧ x < m) :
    Calls Tryz.prog 110 #[.agg #[.int .i64 m, v], .agg #[.int .i64 m', u]] w fun e w' => SVEnd w w' m (timesL m xs.length xs ys) e := by
  obtain ⟨o, c, rfl, hmx, -⟩ := id hv
  obtain ⟨o', c', rfl, hmy, -⟩ := id hu
  have hml := hmx.1
  unfold maxLen at hmx hmy
  have HL := Lib.hid hl
  clear hl
  go_enter Tryz.func110, Tryz.ntmps110
  go_wp2_with fail
  (have X0 := ((RB2.mk1 w  (.int .i64 m) (.slice o xs.length c) 28).1).below (w' := (((w.alloc (.cells #[.int .i64 m, .slice o xs.length c] 28)).alloc (.cells #[.int .i64 m', .slice o' ys.length c'] 28)).alloc (.cells #[.int .i64 0, .slice none 0 0] 28))) (by (repeat (first | exact bR _ _ | (refine bS ?_ _) | (refine bA ?_ _) | (refine bN ?_ _) | (refine bD ?_)))) (Nat.le_refl _); have Y0 := ((RB2.mk2 w (.cells #[.int .i64 m, .slice o xs.length c] 28) (.int .i64 m') (.slice o' ys.length c') 28).1).below (w' := (((w.alloc (.cells #[.int .i64 m, .slice o xs.length c] 28)).alloc (.cells #[.int .i64 m', .slice o' ys.length c'] 28)).alloc (.cells #[.int .i64 0, .slice none 0 0] 28))) (by (repeat (first | exact bR _ _ | (refine bS ?_ _) | (refine bA ?_ _) | (refine bN ?_ _) | (refine bD ?_)))) (Nat.le_refl _); have R0 := ((RB2.mk3 w (.cells #[.int .i64 m, .slice o xs.length c] 28) (.cells #[.int .i64 m', .slice o' ys.length c'] 28) (.int .i64 0) (.slice none 0 0) 28)).below (w' := (((w.alloc (.cells #[.int .i64 m, .slice o xs.length c] 28)).alloc (.cells #[.int .i64 m', .slice o' ys.length c'] 28)).alloc (.cells #[.int .i64 0, .slice none 0 0] 28))) (by (repeat (first | exact bR _ _ | (refine bS ?_ _) | (refine bA ?_ _) | (refine bN ?_ _) | (refine bD ?_)))) (Nat.le_refl _); have B0 : Below w.heap.size w (((w.alloc (.cells #[.int .i64 m, .slice o xs.length c] 28)).alloc (.cells #[.int .i64 m', .slice o' ys.length c'] 28)).alloc (.cells #[.int .i64 0, .slice none 0 0] 28)) := (by (repeat (first | exact bR _ _ | (refine bS ?_ _) | (refine bA ?_ _) | (refine bN ?_ _) | (refine bD ?_)))); have hv0 := hv.below (w' := (((w.alloc (.cells #[.int .i64 m, .slice o xs.length c] 28)).alloc (.cells #[.int .i64 m', .slice o' ys.length c'] 28)).alloc (.cells #[.int .i64 0, .slice none 0 0] 28))) (by (repeat (first | exact bR _ _ | (refine bS ?_ _) | (refine bA ?_ _) | (refine bN ?_ _) | (refine bD ?_)))) (Nat.le_refl _); have hu0 := hu.below (w' := (((w.alloc (.cells #[.int .i64 m, .slice o xs.length c] 28)).alloc (.cells #[.int .i64 m', .slice o' ys.length c'] 28)).alloc (.cells #[.int .i64 0, .slice none 0 0] 28))) (by (repeat (first | exact bR _ _ | (refine bS ?_ _) | (refine bA ?_ _) | (refine bN ?_ _) | (refine bD ?_)))) (Nat.le_refl _); generalize ((w.alloc (.cells #[.int .i64 m, .slice o xs.length c] 28)).alloc (.cells #[.int .i64 m', .slice o' ys.length c'] 28)).alloc (.cells #[.int .i64 0, .slice none 0 0] 28) = w0 at X0 Y0 R0 B0 hv0 hu0 ⊢)
  have hzl : w.heap.size + 2 < w0.heap.size := R0.1.lt
  go_cut [5] (fun sb u => ∃ (wz : World) (b : Nat) (oz : Option Addr) (cz : Nat), wz = u ∧ sb = .pointer (some ⟨b, 0, none⟩) ∧ w0.heap.size ≤ b ∧ RB2 u b (.int .i64 m) (.slice oz xs.length cz) ∧ OwI u w0.heap.size (.slice oz xs.length cz) (List.replicate xs.length 0) ∧ (∀ k, (Value.slice oz xs.length cz).ownBlock = some k → k ≠ b) ∧ Below w0.heap.size w0 u)
  case first =>
    have hd0 : Below w0.heap.size w0 w0.drew := (Below.refl _ _).drew
    have hsd0 := hd0.size
    have hlb_X0 := X0.lt
    obtain ⟨q0_X0_0, q0_X0_1⟩ := X0.below (Below.refl w0.heap.size w0) (Nat.le_refl _)
    have hne0_X0 : w0.heap.size ≠ w.heap.size := by omega
    go_region_held3 (fun w' => w'.cell? ⟨w.heap.size, 0, none⟩ = some (.int .i64 m) ∧ w'.cell? ⟨w.heap.size, 1, none⟩ = some (.slice o xs.length c)) (go_keep)
      (first
        | (go_at_call 109; refine (degreeS_c m o xs.length c _ hml).mono ?_; rintro e wd1 ⟨rfl, hbd1⟩; have hd1 : Below w0.heap.size w0 wd1 := (by (repeat (first | exact bR _ _ | (refine bS ?_ _) | (refine bA ?_ _) | (refine bN ?_ _) | (refine bD ?_) | (refine bT ?_ hbd1)))); have hsd1 := hd1.size; have hsz1_ := hbd1.size; (try simp at hsz1_); obtain ⟨q1_X0_0, q1_X0_1⟩ := X0.below hd1 (Nat.le_refl _); have hne1_X0 : wd1.heap.size ≠ w.heap.size := (by omega); (try (have RZ := RZ.below hbd1 (Nat.le_refl _))); (try (have RZ := (show RB2 (w0.alloc (.cells #[.int .i64 0, .slice none 0 0] 28)).drew w0.heap.size (.int .i64 0) (.slice none 0 0) from RB2.mk1 w0 (.int .i64 0) (.slice none 0 0) _).below hbd1 (Nat.le_refl _))); (try (obtain ⟨⟨z1_0, z1_1⟩, zf1⟩ := id RZ)))
        | (go_at_call 92; refine (zero_c m ((xs.length : Int) - 1) xs.length _ (by omega) (by omega)).mono ?_; rintro e wd2 ⟨vz2, rfl, hod2, hbd2⟩; obtain ⟨oz, cz, rfl⟩ := hod2.shapeN (n := xs.length) (by simp); have hd2 : Below w0.heap.size w0 wd2 := (by (repeat (first | exact bR _ _ | (refine bS ?_ _) | (refine bA ?_ _) | (refine bN ?_ _) | (refine bD ?_) | (refine bT ?_ hbd1) | (refine bT ?_ hbd2)))); have hsd2 := hd2.size; have hsz2_ := hbd2.size; (try simp at hsz2_); obtain ⟨q2_X0_0, q2_X0_1⟩ := X0.below hd2 (Nat.le_refl _); have hne2_X0 : wd2.heap.size ≠ w.heap.size := (by omega); (try (have RZ := RZ.below hbd2 (Nat.le_refl _))); (try (have RZ := (show RB2 (wd1.alloc (.cells #[.int .i64 0, .slice none 0 0] 28)) wd1.heap.size (.int .i64 0) (.slice none 0 0) from RB2.mk1 wd1 (.int .i64 0) (.slice none 0 0) _).below hbd2 (Nat.le_refl _))); (try (obtain ⟨⟨z2_0, z2_1⟩, zf2⟩ := id RZ))))
    all_goals
      go_wp2_with fail
      go_meet
      have hL := hod2.lt
      refine ⟨_, _, oz, cz, rfl, rfl, ?_, ?_, ?_, ?_, ?_⟩
      · first | omega | (simp; done) | (simp; omega)
      · first | exact RB2.mk1 _ _ _ _ | exact RB2.put RZ _ _
      · first | exact (hod2.alloc _).mono (by first | (simp; done) | (simp; omega) | omega) | exact ((hod2.low (by first | (simp; done) | (simp; omega) | omega) _).low (by first | (simp; done) | (simp; omega) | omega) _).mono (by first | (simp; done) | (simp; omega) | omega)
      · intro k hk; have hq := hL k hk; first | omega | (simp at hq; omega)
      · (repeat (first | exact bR _ _ | (refine bS ?_ _) | (refine bA ?_ _) | (refine bN ?_ _) | (refine bD ?_) | (refine bT ?_ hbd1) | (refine bT ?_ hbd2)))
  case rest =>
  obtain ⟨w1, b, oz, cz, rfl, rfl, hbW, O, how, hneb, hb⟩ := hcut
  (have X1 := X0.below hb (Nat.le_refl _); have Y1 := Y0.below hb (Nat.le_refl _); have R1 := R0.below hb (Nat.le_refl _); have hv1 := hv0.below hb (Nat.le_refl _); have hu1 := hu0.below hb (Nat.le_refl _); have B1 := B0.trans (hb.mono B0.size))
  rw [tmS_0 m _ xs ys] at how
  obtain ⟨g, cap, hsl, hgl, hgl', -, -, -⟩ := how.opn (by rw [tmS_len]; omega)
  obtain ⟨rfl, rfl⟩ : oz = some ⟨g, 0, none⟩ ∧ cz = cap := by simp at hsl; exact ⟨hsl.1, hsl.2.2⟩
  clear hsl
  have hgb := hneb g rfl
  clear hneb
  obtain ⟨bx, fx, rfl, hcx⟩ := hv.cells h1
  obtain ⟨by', fy, rfl, hcy⟩ := hu.cells (by have := HL.out; omega)
  have l1 := cell_lt (hcx 0 _ (some_at0 (by omega)))
  have l2 := cell_lt (hcy 0 _ (some_at0 (by have := HL.out; omega)))
  clear hcx hcy
  have n1 : g ≠ w.heap.size := by omega
  have n2 : g ≠ w.heap.size + 1 := by omega
  have n3 : g ≠ bx := by omega
  have n4 : g ≠ by' := by omega
  have B1s := B1.size
  have m0 : (m == 0) = false := by simp; omega
  have m1 : ¬ m = 0 := by omega
  obtain ⟨x0, x1⟩ := id X1
  go_wp2_with fail
  clear x0 x1
  go_loopw [18] (fun i wr => ∃ k : Nat, k ≤ xs.length ∧ i = .int .i64 k ∧ OwI wr w0.heap.size (.slice (some ⟨g, 0, none⟩) xs.length cz) (tmS m xs.length xs ys k 0) ∧ w1.grownBy wr (some g)) (fun i _ => xs.length - (intOf i).toNat)
  case atStart => exact ⟨0, Nat.zero_le _, rfl, how, World.grownBy.refl _ _⟩
  case round =>
    obtain ⟨k, hk, rfl, hO, hg⟩ := hrel
    obtain ⟨wo, rfl⟩ : ∃ wo : World, wo = wr := ⟨_, rfl⟩
    have Br := below_gr B1 hg (by omega) B1s
    by_cases hlt : k < xs.length
    · have hly : k < ys.length := by have := HL.out; omega
      obtain ⟨y0, y1⟩ := Y1.grown hg (by simp; omega)
      have cx := (hv.below Br (Nat.le_refl _)).cell0 (some_at0 hlt)
      have hxk := at0_range (by omega) hx k
      have i0 : (0 : Int) ≤ (k : Int) := by omega
      have i1 : (k : Int) < (xs.length : Int) := by omega
      have i2 : (0 : Int) ≤ (ys.length : Int) - (k : Int) := by omega
      have i3 : (ys.length : Int) - (k : Int) ≤ (c' : Int) := by omega
      have i4 : ((ys.length : Int) - (k : Int)).toNat = ys.length - k := by omega
      go_wp2_with fail
      clear y0 y1
      go_loopw [32] (fun i w2 => ∃ j : Nat, j ≤ ys.length - k ∧ i = .int .i64 j ∧ OwI w2 w0.heap.size (.slice (some ⟨g, 0, none⟩) xs.length cz) (tmS m xs.length xs ys k j) ∧ w1.grownBy w2 (some g)) (fun i _ => ys.length - k - (intOf i).toNat)
      case atStart => exact ⟨0, Nat.zero_le _, rfl, hO, hg⟩
      case round =>
        obtain ⟨j, hj, rfl, hO2, hg2⟩ := hrel
        have Br2 := below_gr B1 hg2 (by omega) B1s
        by_cases hjl : j < ys.length - k
        · have hkj : k + j < xs.length := by have := HL.out; omega
          obtain ⟨x0, x1⟩ := X1.grown hg2 (by simp; omega)
          obtain ⟨⟨z0, z1⟩, zf⟩ := O.grown hg2 (by simp; omega)
          have cy := (hu.below Br2 (Nat.le_refl _)).cell0 (some_at0 (show j < ys.length by omega))
          have hyk := at0_range (by omega) hy j
          have hc0 := hO2.cell (k := k + j) (mk_get hkj)
          have hf0 := hO2.fz (k + j)
          have hM := mod_lt' (a := at0 xs k * at0 ys j) (show 0 < m by omega)
          have hC := mod_lt' (a := convP (at0 xs) (at0 ys) k j (k + j)) (show 0 < m by omega)
          have hMod := mod_lt' (a := convP (at0 xs) (at0 ys) k j (k + j) % m + at0 xs k * at0 ys j % m) (show 0 < m by omega)
          have Hn := Lib.hid hO2
          clear hO2
          have j0 : (0 : Int) ≤ (j : Int) := by omega
          have j1 : (j : Int) < (ys.length : Int) - (k : Int) := by omega
          have j2 : (0 : Int) ≤ (k : Int) + (j : Int) := by omega
          have j3 : (k : Int) + (j : Int) < (xs.length : Int) := by omega
          have j4 : ((k : Int) + (j : Int)).toNat = k + j := by omega
          go_wp2_with fail
          have e0 : IntKind.i64.wrap ((k : Int) + (j : Int)) = (k : Int) + (j : Int) := IntWalk.i64_in _ (by omega)
          have e1 : IntKind.i64.wrap (convP (at0 xs) (at0 ys) k j (k + j) % m + at0 xs k * at0 ys j % m) = convP (at0 xs) (at0 ys) k j (k + j) % m + at0 xs k * at0 ys j % m := IntWalk.i64_in _ (by omega)
          have e2 : (convP (at0 xs) (at0 ys) k j (k + j) % m + at0 xs k * at0 ys j % m).tmod m = (convP (at0 xs) (at0 ys) k j (k + j) % m + at0 xs k * at0 ys j % m) % m := Int.tmod_eq_emod_of_nonneg (by omega)
          have hd0 : Below wr.heap.size wr wr.drew := (Below.refl _ _).drew
          have hsd0 := hd0.size
          have f0_a := keep_cell hd0 (Nat.le_refl _) x0
          have f0_b := keep_cell hd0 (Nat.le_refl _) z1
          have f0_c := keep_cell hd0 (Nat.le_refl _) hc0
          have f0_d := (Hn.out.below hd0).fz (k + j)
          refine wp_region_K (S := fun w' => w'.cell? ⟨w.heap.size, 0, none⟩ = some (.int .i64 m) ∧ w'.cell? ⟨b, 1, none⟩ = some (.slice (some ⟨g, 0, none⟩) xs.length cz) ∧ w'.cell? ⟨g, k + j, none⟩ = some (.int .i64 (convP (at0 xs) (at0 ys) k j (k + j) % m))) [22] (by kernel_rfl) ?_
          have hHeld : (fun w' : World => w'.cell? ⟨w.heap.size, 0, none⟩ = some (.int .i64 m) ∧ w'.cell? ⟨b, 1, none⟩ = some (.slice (some ⟨g, 0, none⟩) xs.length cz) ∧ w'.cell? ⟨g, k + j, none⟩ = some (.int .i64 (convP (at0 xs) (at0 ys) k j (k + j) % m))) wr.drew := by go_keep
          refine' wpAnyK_takeL (i := 0) (v := _) rfl (by kernel_rfl) (by kernel_rfl) (by kernel_rfl) (by kernel_rfl) (fun _ _ _ h => h) (Or.inl ⟨by rfl, ?yT1⟩) hHeld ?rT1
          case yT1 => (intro w' hSw; (try dsimp only at hSw); go_simp; try with_reducible rfl)
          try simp only [List.getElem_toArray, List.getElem_cons_zero, List.getElem_cons_succ, Act.put, List.setIfInBounds_toArray, List.set_cons_zero, List.set_cons_succ]
          refine' wpAnyK_takeL (i := 1) (v := _) rfl (by kernel_rfl) (by kernel_rfl) (by kernel_rfl) (by kernel_rfl) (fun _ _ _ h => h) (Or.inl ⟨by rfl, ?yT2⟩) hHeld ?rT2
          case yT2 => (intro w' hSw; (try dsimp only at hSw); go_simp; try with_reducible rfl)
          try simp only [List.getElem_toArray, List.getElem_cons_zero, List.getElem_cons_succ, Act.put, List.setIfInBounds_toArray, List.set_cons_zero, List.set_cons_succ]
          refine' wpAnyK_takeL (i := 2) (v := _) rfl (by kernel_rfl) (by kernel_rfl) (by kernel_rfl) (by kernel_rfl) (fun _ _ _ h => h) (Or.inl ⟨by rfl, ?yT3⟩) hHeld ?rT3
          case yT3 => (intro w' hSw; (try dsimp only at hSw); go_simp; try with_reducible rfl)
          try simp only [List.getElem_toArray, List.getElem_cons_zero, List.getElem_cons_succ, Act.put, List.setIfInBounds_toArray, List.set_cons_zero, List.set_cons_succ]
          refine' wpAnyK_takeL (i := 3) (v := _) rfl (by kernel_rfl) (by kernel_rfl) (by kernel_rfl) (by kernel_rfl) (fun _ _ _ h => h) (Or.inl ⟨by rfl, ?yT4⟩) hHeld ?rT4
          case yT4 => (intro w' hSw; (try dsimp only at hSw); go_simp; try with_reducible rfl)
          try simp only [List.getElem_toArray, List.getElem_cons_zero, List.getElem_cons_succ, Act.put, List.setIfInBounds_toArray, List.set_cons_zero, List.set_cons_succ]
          refine' wpAnyK_takeL (i := 4) (v := _) rfl (by kernel_rfl) (by kernel_rfl) (by kernel_rfl) (by kernel_rfl) (fun _ _ _ h => h) (Or.inl ⟨by rfl, ?yT5⟩) hHeld ?rT5
          case yT5 => (intro w' hSw; (try dsimp only at hSw); go_simp; try with_reducible rfl)
          try simp only [List.getElem_toArray, List.getElem_cons_zero, List.getElem_cons_succ, Act.put, List.setIfInBounds_toArray, List.set_cons_zero, List.set_cons_succ]
          refine' wpAnyK_takeL (i := 5) (v := _) rfl (by kernel_rfl) (by kernel_rfl) (by kernel_rfl) (by kernel_rfl) (fun _ _ _ h => h) (Or.inl ⟨by rfl, ?yT6⟩) hHeld ?rT6
          case yT6 => (intro w' hSw; (try dsimp only at hSw); go_simp; try with_reducible rfl)
          try simp only [List.getElem_toArray, List.getElem_cons_zero, List.getElem_cons_succ, Act.put, List.setIfInBounds_toArray, List.set_cons_zero, List.set_cons_succ]
          refine' wpAnyK_takeL (i := 6) (v := _) rfl (by kernel_rfl) (by kernel_rfl) (by kernel_rfl) (by kernel_rfl) (fun _ _ _ h => h) (Or.inl ⟨by rfl, ?yT7⟩) hHeld ?rT7
          case yT7 => (intro w' hSw; (try dsimp only at hSw); go_simp; try with_reducible rfl)
          try simp only [List.getElem_toArray, List.getElem_cons_zero, List.getElem_cons_succ, Act.put, List.setIfInBounds_toArray, List.set_cons_zero, List.set_cons_succ]
          refine' wpAnyK_takeL (i := 7) (v := _) rfl (by kernel_rfl) (by kernel_rfl) (by kernel_rfl) (by kernel_rfl) (fun _ _ _ h => h) (Or.inl ⟨by rfl, ?yT8⟩) hHeld ?rT8
          case yT8 => (intro w' hSw; (try dsimp only at hSw); go_simp; try with_reducible rfl)
          try simp only [List.getElem_toArray, List.getElem_cons_zero, List.getElem_cons_succ, Act.put, List.setIfInBounds_toArray, List.set_cons_zero, List.set_cons_succ]
          refine' wpAnyK_takeL (i := 8) (v := _) rfl (by kernel_rfl) (by kernel_rfl) (by kernel_rfl) (by kernel_rfl) (fun _ _ _ h => h) (Or.inl ⟨by rfl, ?yT9⟩) hHeld ?rT9
          case yT9 => (intro w' hSw; (try dsimp only at hSw); go_simp; try with_reducible rfl)
          try simp only [List.getElem_toArray, List.getElem_cons_zero, List.getElem_cons_succ, Act.put, List.setIfInBounds_toArray, List.set_cons_zero, List.set_cons_succ]
          refine' wpAnyK_takeL (i := 9) (v := _) rfl (by kernel_rfl) (by kernel_rfl) (by kernel_rfl) (by kernel_rfl) (fun _ _ _ h => h) (Or.inl ⟨by rfl, ?yT10⟩) hHeld ?rT10
          case yT10 => (intro w' hSw; (try dsimp only at hSw); go_simp; try with_reducible rfl)
          try simp only [List.getElem_toArray, List.getElem_cons_zero, List.getElem_cons_succ, Act.put, List.setIfInBounds_toArray, List.set_cons_zero, List.set_cons_succ]
          refine' wpAnyK_takeL (i := 10) (v := _) rfl (by kernel_rfl) (by kernel_rfl) (by kernel_rfl) (by kernel_rfl) (fun _ _ _ h => h) (Or.inl ⟨by rfl, ?yT11⟩) hHeld ?rT11
          case yT11 => (intro w' hSw; (try dsimp only at hSw); go_simp; try with_reducible rfl)
          try simp only [List.getElem_toArray, List.getElem_cons_zero, List.getElem_cons_succ, Act.put, List.setIfInBounds_toArray, List.set_cons_zero, List.set_cons_succ]
          refine' wpAnyK_takeL (i := 11) (v := _) rfl (by kernel_rfl) (by kernel_rfl) (by kernel_rfl) (by kernel_rfl) (fun _ _ _ h => h) (Or.inl ⟨by rfl, ?yT12⟩) hHeld ?rT12
          case yT12 => (intro w' hSw; (try dsimp only at hSw); go_simp; try with_reducible rfl)
          try simp only [List.getElem_toArray, List.getElem_cons_zero, List.getElem_cons_succ, Act.put, List.setIfInBounds_toArray, List.set_cons_zero, List.set_cons_succ]
          refine' wpAnyK_takeL (i := 12) (v := _) rfl (by kernel_rfl) (by kernel_rfl) (by kernel_rfl) (by kernel_rfl) (fun _ _ _ h => h) (Or.inl ⟨by rfl, ?yT13⟩) hHeld ?rT13
          case yT13 => (intro w' hSw; (try dsimp only at hSw); go_simp; try with_reducible rfl)
          try simp only [List.getElem_toArray, List.getElem_cons_zero, List.getElem_cons_succ, Act.put, List.setIfInBounds_toArray, List.set_cons_zero, List.set_cons_succ]
          refine' wpAnyK_takeL (i := 13) (v := _) rfl (by kernel_rfl) (by kernel_rfl) (by kernel_rfl) (by kernel_rfl) (fun _ _ _ h => h) (Or.inl ⟨by rfl, ?yT14⟩) hHeld ?rT14
          case yT14 => (intro w' hSw; (try dsimp only at hSw); go_simp; try with_reducible rfl)
          try simp only [List.getElem_toArray, List.getElem_cons_zero, List.getElem_cons_succ, Act.put, List.setIfInBounds_toArray, List.set_cons_zero, List.set_cons_succ]
          refine' wpAnyK_takeL (i := 14) (v := _) rfl (by kernel_rfl) (by kernel_rfl) (by kernel_rfl) (by kernel_rfl) (fun _ _ _ h => h) (Or.inl ⟨by rfl, ?yT15⟩) hHeld ?rT15
          case yT15 => (intro w' hSw; (try dsimp only at hSw); go_simp; try with_reducible rfl)
          try simp only [List.getElem_toArray, List.getElem_cons_zero, List.getElem_cons_succ, Act.put, List.setIfInBounds_toArray, List.set_cons_zero, List.set_cons_succ]
          refine' wpAnyK_takeL (i := 15) (v := _) rfl (by kernel_rfl) (by kernel_rfl) (by kernel_rfl) (by kernel_rfl) (fun _ _ _ h => h) (Or.inl ⟨by rfl, ?yT16⟩) hHeld ?rT16
          case yT16 => (intro w' hSw; (try dsimp only at hSw); go_simp; try with_reducible rfl)
          try simp only [List.getElem_toArray, List.getElem_cons_zero, List.getElem_cons_succ, Act.put, List.setIfInBounds_toArray, List.set_cons_zero, List.set_cons_succ]
          refine' wpAnyK_takeL (i := 18) (v := _) rfl (by kernel_rfl) (by kernel_rfl) (by kernel_rfl) (by kernel_rfl) (fun _ _ _ h => h) (Or.inl ⟨by rfl, ?yT17⟩) hHeld ?rT17
          case yT17 => (intro w' hSw; (try dsimp only at hSw); go_simp; try with_reducible rfl)
          try simp only [List.getElem_toArray, List.getElem_cons_zero, List.getElem_cons_succ, Act.put, List.setIfInBounds_toArray, List.set_cons_zero, List.set_cons_succ]
          refine' wpAnyK_takeL (i := 19) (v := _) rfl (by kernel_rfl) (by kernel_rfl) (by kernel_rfl) (by kernel_rfl) (fun _ _ _ h => h) (Or.inl ⟨by rfl, ?yT18⟩) hHeld ?rT18
          case yT18 => (intro w' hSw; (try dsimp only at hSw); go_simp; try with_reducible rfl)
          try simp only [List.getElem_toArray, List.getElem_cons_zero, List.getElem_cons_succ, Act.put, List.setIfInBounds_toArray, List.set_cons_zero, List.set_cons_succ]
          refine wpAnyK_oneL (i := 16) rfl (by kernel_rfl) (fun K hK => ?_)
          go_simp
          go_at_call 95
          refine (mulC_c m (at0 xs k) (at0 ys j) _ (by omega) (by omega) hxk.1 hyk.1 hxk.2 hyk.2).mono ?_
          rintro e wd1 ⟨rfl, hbd1⟩
          have hd1 : Below wr.heap.size wr wd1 := (by (repeat (first | exact bR _ _ | (refine bS ?_ _) | (refine bA ?_ _) | (refine bN ?_ _) | (refine bD ?_) | (refine bT ?_ hbd1))))
          have hsd1 := hd1.size
          have hsz1_ := hbd1.size
          (try simp at hsz1_)
          have f1_a := keep_cell hd1 (Nat.le_refl _) x0
          have f1_b := keep_cell hd1 (Nat.le_refl _) z1
          have f1_c := keep_cell hd1 (Nat.le_refl _) hc0
          have f1_d := (Hn.out.below hd1).fz (k + j)
          go_wp2_with fail
          clear hHeld
          have hHeld : (fun w' : World => w'.cell? ⟨w.heap.size, 0, none⟩ = some (.int .i64 m) ∧ w'.cell? ⟨b, 1, none⟩ = some (.slice (some ⟨g, 0, none⟩) xs.length cz) ∧ w'.cell? ⟨g, k + j, none⟩ = some (.int .i64 (convP (at0 xs) (at0 ys) k j (k + j) % m))) wd1 := by go_keep
          refine hK.out _ _ (fun _ => hHeld) ?_
          clear hK K
          try simp only [List.getElem_toArray, List.getElem_cons_zero, List.getElem_cons_succ, Act.put, List.setIfInBounds_toArray, List.set_cons_zero, List.set_cons_succ]
          refine' wpAnyK_takeL (i := 17) (v := _) rfl (by kernel_rfl) (by kernel_rfl) (by kernel_rfl) (by kernel_rfl) (fun _ _ _ h => h) (Or.inl ⟨by rfl, ?yT19⟩) hHeld ?rT19
          case yT19 => (intro w' hSw; (try dsimp only at hSw); go_simp; try with_reducible rfl)
          try simp only [List.getElem_toArray, List.getElem_cons_zero, List.getElem_cons_succ, Act.put, List.setIfInBounds_toArray, List.set_cons_zero, List.set_cons_succ]
          refine' wpAnyK_takeL (i := 20) (v := _) rfl (by kernel_rfl) (by kernel_rfl) (by kernel_rfl) (by kernel_rfl) (fun _ _ _ h => h) (Or.inl ⟨by rfl, ?yT20⟩) hHeld ?rT20
          case yT20 => (intro w' hSw; (try dsimp only at hSw); go_simp; try with_reducible rfl)
          try simp only [List.getElem_toArray, List.getElem_cons_zero, List.getElem_cons_succ, Act.put, List.setIfInBounds_toArray, List.set_cons_zero, List.set_cons_succ]
          refine wpAnyK_oneL (i := 21) rfl (by kernel_rfl) (fun K hK => ?_)
          go_simp
          (try go_wp2_with fail)
          refine hK.out _ _ (fun _ => hHeld) ?_
          clear hK K
          try simp only [List.getElem_toArray, List.getElem_cons_zero, List.getElem_cons_succ, Act.put, List.setIfInBounds_toArray, List.set_cons_zero, List.set_cons_succ]
          refine wpAnyK_oneL (i := 22) rfl (by kernel_rfl) (fun K hK => ?_)
          go_simp
          (try go_wp2_with fail)
          refine hK.out _ _ (fun h => absurd h (by decide)) ?_
          clear hK K
          try simp only [List.getElem_toArray, List.getElem_cons_zero, List.getElem_cons_succ, Act.put, List.setIfInBounds_toArray, List.set_cons_zero, List.set_cons_succ]
          refine wpAnyK_done (by kernel_rfl) ?_ _
          go_wp2_with fail
          have h2 := OwI.put (Hn.out.below hd1) (k + j) ((convP (at0 xs) (at0 ys) k j (k + j) + at0 xs k * at0 ys j) % m)
          rw [tmS_set2 rfl rfl] at h2
          have hg3 := gr_put (gr_below hg2 hd1) (k + j) (.int .i64 ((convP (at0 xs) (at0 ys) k j (k + j) + at0 xs k * at0 ys j) % m))
          exact ⟨⟨j + 1, by omega, by go_num, h2, hg3⟩, by simp [intOf]; omega⟩
        · obtain rfl : j = ys.length - k := by omega
          rw [tmS_row (.inl (by have := HL.out; omega))] at hO2
          go_wp2
          exact ⟨⟨k + 1, by omega, by go_num, hO2, hg2⟩, by simp [intOf]; omega⟩
    · obtain rfl : k = xs.length := by omega
      rw [tmS_all (.inl (Nat.le_refl _))] at hO
      obtain ⟨⟨z0, z1⟩, zf⟩ := O.grown hg (by simp; omega)
      obtain ⟨⟨r0, r1⟩, rf⟩ := R1.grown hg (by simp; omega)
      go_wp2
      refine bodyPost_ret (v := .agg #[.int .i64 m, .slice (some ⟨g, 0, none⟩) xs.length cz]) (by simp [results, Tryz.results110, go_sem, r0, r1]) rfl ⟨_, rfl, ?_, ?_⟩
      · exact ((hO.low (by first | (simp; done) | (simp; omega) | omega) _).low (by first | (simp; done) | (simp; omega) | omega) _).mono (by first | (simp; done) | (simp; omega) | omega)
      · (repeat (first | exact bR _ _ | (refine bS ?_ _) | (refine bA ?_ _) | (refine bN ?_ _) | (refine bD ?_) | (refine bT ?_ Br)))

end Go.Proofs.YtoednonijmkbjaaGreat
