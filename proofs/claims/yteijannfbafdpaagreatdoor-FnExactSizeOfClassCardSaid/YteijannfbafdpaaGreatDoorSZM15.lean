/- Lemmas. -/
import Derived.Test.YteijannfbafdpaaGreatDoorSZM14
import Derived.Test.YteijannfbafdpaaGreatDoorSZG15
import Derived.Test.YteijannfbafdpaaGreatDoorSZG3
import Derived.Test.YteijannfbafdpaaGreatDoorSZM10
import Derived.Test.YteijannfbafdpaaGreatDoorSZM13
import Derived.Test.YteijannfbafdpaaGreatDoorSZM2
import Derived.Test.YteijannfbafdpaaGreatDoorSZM8
import Derived.Test.YteijannfbafdpaaGreatDoorSZG1
import Derived.Test.YteijannfbafdpaaGreatDoorSZM11
import Derived.Test.YteijannfbafdpaaGreatDoorSZHomP
import Derived.Test.YteijannfbafdpaaGreatDoorSZG18
import Derived.Test.YteijannfbafdpaaGreatDoorSZG2
set_option linter.unusedSimpArgs false
set_option linter.unusedVariables false
namespace Go.Proofs.YteijannfbafdpaaGreatDoor
open Go.RowKit

set_option maxHeartbeats 2000000 in
set_option maxRecDepth 100000 in
theorem ofS_c (m m' : Int) (n : Nat) (v u : Value) (xs : List Int) (yss : List (List Int)) (w : World) (hv : RdI w v xs) (hu : RdT w u yss) (hxl : 1 ≤ xs.length) (hxn : xs.length ≤ 1048576) (h1 : 1 ≤ n) (hn : n ≤ 1000) (hm : 2 ≤ m) (hm' : m ≤ 3000000000)
    (hx : ∀ x ∈ xs, 0 ≤ x ∧ x < m) (hy : PlaT m n yss) :
    Calls Tryz.prog 62 #[.agg #[.int .i64 m', v], .agg #[.int .i64 m, u]] w fun e w' => PVEnd w w' m (hornT m n yss xs) e := by
  obtain ⟨o, c, rfl, hmx, -⟩ := id hv
  obtain ⟨o', c', rfl, hmy, -⟩ := id hu
  have hml := hmx.1
  rw [hy.1] at hmy hu ⊢
  have hmt := hmy.1
  unfold maxLen at hmx hmy
  have HY := Lib.hid hy
  clear hy
  go_enter Tryz.func62, Tryz.ntmps62
  go_wp2_with fail
  (obtain ⟨w0, hw0⟩ : ∃ W : World, W = (((w.alloc (.cells #[.int .i64 m', .slice o xs.length c] 57)).alloc (.cells #[.int .i64 m, .slice o' n c'] 28)).alloc (.cells #[.int .i64 0, .slice none 0 0] 28)) := ⟨_, rfl⟩; have X0 := (RB2.mk1 w  (.int .i64 m') (.slice o xs.length c) 57).1.below (w' := w0) (by rw [hw0]; (repeat (first | exact bR _ _ | (refine bS ?_ _) | (refine bA ?_ _) | (refine bN ?_ _) | (refine bD ?_)))) (Nat.le_refl _); have Y0 := (RB2.mk2 w (.cells #[.int .i64 m', .slice o xs.length c] 57) (.int .i64 m) (.slice o' n c') 28).1.below (w' := w0) (by rw [hw0]; (repeat (first | exact bR _ _ | (refine bS ?_ _) | (refine bA ?_ _) | (refine bN ?_ _) | (refine bD ?_)))) (Nat.le_refl _); have R0 := (RB2.mk3 w (.cells #[.int .i64 m', .slice o xs.length c] 57) (.cells #[.int .i64 m, .slice o' n c'] 28) (.int .i64 0) (.slice none 0 0) 28).below (w' := w0) (by rw [hw0]; (repeat (first | exact bR _ _ | (refine bS ?_ _) | (refine bA ?_ _) | (refine bN ?_ _) | (refine bD ?_)))) (Nat.le_refl _); have B0 : Below w.heap.size w w0 := (by rw [hw0]; (repeat (first | exact bR _ _ | (refine bS ?_ _) | (refine bA ?_ _) | (refine bN ?_ _) | (refine bD ?_)))); have hv0 := hv.below (w' := w0) (by rw [hw0]; (repeat (first | exact bR _ _ | (refine bS ?_ _) | (refine bA ?_ _) | (refine bN ?_ _) | (refine bD ?_)))) (Nat.le_refl _); have hu0 := hu.below (w' := w0) (by rw [hw0]; (repeat (first | exact bR _ _ | (refine bS ?_ _) | (refine bA ?_ _) | (refine bN ?_ _) | (refine bD ?_)))) (Nat.le_refl _); rw [← hw0]; clear hw0)
  obtain ⟨x0, x1⟩ := id Y0
  have hzl : w.heap.size + 2 < w0.heap.size := R0.1.lt
  go_wp2_with fail
  refine (number_c m 0 o' n c' _ h1 hn hm (by omega) (by omega) (by omega)).mono ?_
  rintro e w1 ⟨vz, rfl, how, hb⟩
  obtain ⟨oz, cz, rfl⟩ := how.shapeN (n := n) (numbT_len _ _ _)
  rw [numbT_0] at how
  (have X1 := X0.below hb (Nat.le_refl _); have Y1 := Y0.below hb (Nat.le_refl _); have R1 := R0.below hb (Nat.le_refl _); have hv1 := hv0.below hb (Nat.le_refl _); have hu1 := hu0.below hb (Nat.le_refl _); have B1 := B0.trans (hb.mono B0.size))
  clear x0 x1
  obtain ⟨x0, x1⟩ := id X1
  have hb1 := hb.size
  have lX := X1.lt
  have lR := R1.1.lt
  go_wp2_with fail
  clear x0 x1
  (have hb : Below w1.heap.size w1 (w1.alloc (.cells #[.int .i64 m, .slice oz n cz] 28)) := (by (repeat (first | exact bR _ _ | (refine bS ?_ _) | (refine bA ?_ _) | (refine bN ?_ _) | (refine bD ?_)))); have X2 := X1.below hb (Nat.le_refl _); have Y2 := Y1.below hb (Nat.le_refl _); have R2 := R1.below hb (Nat.le_refl _); have hv2 := hv1.below hb (Nat.le_refl _); have hu2 := hu1.below hb (Nat.le_refl _); have how := how.alloc (.cells #[.int .i64 m, .slice oz n cz] 28); have B2 := B1.trans (hb.mono B1.size); have O := RB2.mk1 w1 (.int .i64 m) (.slice oz n cz) 28; have hl_w2 := hb.size; clear hb; generalize w1.alloc (.cells #[.int .i64 m, .slice oz n cz] 28) = w2 at O B2 hl_w2 X2 Y2 R2 hv2 hu2 how ⊢)
  refine (degreeS_c m' o xs.length c _ hml).mono ?_
  rintro e w3 ⟨rfl, hb⟩
  (have X3 := X2.below hb (Nat.le_refl _); have Y3 := Y2.below hb (Nat.le_refl _); have R3 := R2.below hb (Nat.le_refl _); have hv3 := hv2.below hb (Nat.le_refl _); have hu3 := hu2.below hb (Nat.le_refl _); have B3 := B2.trans (hb.mono B2.size))
  have O3 := O.below hb (Nat.le_refl _)
  have how3 := how.below hb
  have hb3 := hb.size
  clear hb how O lX lR
  have lX := X3.lt
  have lR := R3.1.lt
  have B3s := B3.size
  obtain ⟨bx, fx, rfl, hcx⟩ := hv.cells hxl
  have lx := cell_lt (hcx 0 _ (some_at0 (by omega)))
  clear hcx
  go_wp2_with fail
  go_loopw [6] (fun i wr => ∃ (j : Nat) (ov : Option Addr) (cv : Nat), j ≤ xs.length ∧ i = .int .i64 ((j : Int) - 1) ∧ OwS wr w0.heap.size (.slice ov n cv) (hornT m n yss (xs.drop j)) ∧ RB2 wr w1.heap.size (.int .i64 m) (.slice ov n cv) ∧ w3.grownBy wr (some w1.heap.size)) (fun i _ => ((intOf i) + 1).toNat)
  case atStart => exact ⟨xs.length, oz, cz, Nat.le_refl _, rfl, by rw [List.drop_length]; exact how3.mono (by omega), O3, World.grownBy.refl _ _⟩
  case round =>
    obtain ⟨j, ov, cv, hj, rfl, hO, OO, hg⟩ := hrel
    have Br := below_gr B3 hg (by omega) B3s
    have Xr := X3.grown hg (by simp; omega)
    have Yr := Y3.grown hg (by simp; omega)
    have hvr := hv.below Br (Nat.le_refl _)
    have hur := hu.below Br (Nat.le_refl _)
    have hgs := hg.size
    by_cases hlt : 0 < j
    · obtain ⟨k, rfl⟩ : ∃ k, j = k + 1 := ⟨j - 1, by omega⟩
      have ek : (((k + 1 : Nat) : Int)) - 1 = (k : Int) := by omega
      rw [ek]
      clear ek
      have HS := Lib.hid (hornT_drop (m := m) (n := n) (t := yss) (some_at0 (show k < xs.length by omega)))
      have HLl := Lib.hid (hornT_ok (m := m) (show 0 < m by omega) n yss (xs.drop (k + 1)))
      generalize hornT m n yss (xs.drop (k + 1)) = l at hO HS HLl
      have HT := Lib.hid (timesT_ok (m := m) (show 0 < m by omega) n l yss)
      have hkx := at0_range (by omega) hx k
      have i0 : (0 : Int) ≤ (k : Int) := by omega
      have i1 : (k : Int) < (xs.length : Int) := by omega
      go_wp2_with fail
      have hd0 : Below wr.heap.size wr wr.drew := (Below.refl _ _).drew
      have hsd0 := hd0.size
      have hlb_OO := OO.1.lt
      obtain ⟨⟨q0_OO_0, q0_OO_1⟩, qf0_OO⟩ := OO.below (Below.refl wr.heap.size wr) (Nat.le_refl _)
      obtain ⟨q0_Xr_0, q0_Xr_1⟩ := Xr.below (Below.refl wr.heap.size wr) (Nat.le_refl _)
      obtain ⟨q0_Yr_0, q0_Yr_1⟩ := Yr.below (Below.refl wr.heap.size wr) (Nat.le_refl _)
      have q0_cx := (((hvr).below (Below.refl wr.heap.size wr) (Nat.le_refl _))).cell0 (some_at0 (show k < xs.length by omega))
      refine wp_region_S (S := fun w' => w'.cell? ⟨w1.heap.size , 0, none⟩ = some (.int .i64 m) ∧ w'.cell? ⟨w1.heap.size , 1, none⟩ = some (.slice ov n cv) ∧ w'.cell? ⟨w.heap.size, 0, none⟩ = some (.int .i64 m') ∧ w'.cell? ⟨w.heap.size, 1, none⟩ = some (.slice (some ⟨bx, fx, none⟩) xs.length c) ∧ w'.cell? ⟨w.heap.size + 1, 0, none⟩ = some (.int .i64 m) ∧ w'.cell? ⟨w.heap.size + 1, 1, none⟩ = some (.slice o' n c') ∧ w'.cell? ⟨bx, fx + k, none⟩ = some (.int .i64 (at0 xs k))) 11 (by kernel_rfl) ?_
      have hHeld : (fun w' : World => w'.cell? ⟨w1.heap.size , 0, none⟩ = some (.int .i64 m) ∧ w'.cell? ⟨w1.heap.size , 1, none⟩ = some (.slice ov n cv) ∧ w'.cell? ⟨w.heap.size, 0, none⟩ = some (.int .i64 m') ∧ w'.cell? ⟨w.heap.size, 1, none⟩ = some (.slice (some ⟨bx, fx, none⟩) xs.length c) ∧ w'.cell? ⟨w.heap.size + 1, 0, none⟩ = some (.int .i64 m) ∧ w'.cell? ⟨w.heap.size + 1, 1, none⟩ = some (.slice o' n c') ∧ w'.cell? ⟨bx, fx + k, none⟩ = some (.int .i64 (at0 xs k))) wr.drew := by go_keep
      refine' wpAnyS_takeL (i := 0) (v := _) rfl (by kernel_rfl) (by kernel_rfl) (by kernel_rfl) (by kernel_rfl) (fun _ _ _ h => h) (Or.inl ⟨by rfl, ?yT1⟩) hHeld ?rT1
      case yT1 => (intro w' hSw; (try dsimp only at hSw); go_simp; try with_reducible rfl)
      try simp only [List.getElem_toArray, List.getElem_cons_zero, List.getElem_cons_succ, Act.put, List.setIfInBounds_toArray, List.set_cons_zero, List.set_cons_succ]
      refine' wpAnyS_takeL (i := 1) (v := _) rfl (by kernel_rfl) (by kernel_rfl) (by kernel_rfl) (by kernel_rfl) (fun _ _ _ h => h) (Or.inl ⟨by rfl, ?yT2⟩) hHeld ?rT2
      case yT2 => (intro w' hSw; (try dsimp only at hSw); go_simp; try with_reducible rfl)
      try simp only [List.getElem_toArray, List.getElem_cons_zero, List.getElem_cons_succ, Act.put, List.setIfInBounds_toArray, List.set_cons_zero, List.set_cons_succ]
      refine' wpAnyS_takeL (i := 3) (v := _) rfl (by kernel_rfl) (by kernel_rfl) (by kernel_rfl) (by kernel_rfl) (fun _ _ _ h => h) (Or.inl ⟨by rfl, ?yT3⟩) hHeld ?rT3
      case yT3 => (intro w' hSw; (try dsimp only at hSw); go_simp; try with_reducible rfl)
      try simp only [List.getElem_toArray, List.getElem_cons_zero, List.getElem_cons_succ, Act.put, List.setIfInBounds_toArray, List.set_cons_zero, List.set_cons_succ]
      refine' wpAnyS_takeL (i := 4) (v := _) rfl (by kernel_rfl) (by kernel_rfl) (by kernel_rfl) (by kernel_rfl) (fun _ _ _ h => h) (Or.inl ⟨by rfl, ?yT4⟩) hHeld ?rT4
      case yT4 => (intro w' hSw; (try dsimp only at hSw); go_simp; try with_reducible rfl)
      try simp only [List.getElem_toArray, List.getElem_cons_zero, List.getElem_cons_succ, Act.put, List.setIfInBounds_toArray, List.set_cons_zero, List.set_cons_succ]
      refine' wpAnyS_takeL (i := 5) (v := _) rfl (by kernel_rfl) (by kernel_rfl) (by kernel_rfl) (by kernel_rfl) (fun _ _ _ h => h) (Or.inl ⟨by rfl, ?yT5⟩) hHeld ?rT5
      case yT5 => (intro w' hSw; (try dsimp only at hSw); go_simp; try with_reducible rfl)
      try simp only [List.getElem_toArray, List.getElem_cons_zero, List.getElem_cons_succ, Act.put, List.setIfInBounds_toArray, List.set_cons_zero, List.set_cons_succ]
      refine' wpAnyS_takeL (i := 6) (v := _) rfl (by kernel_rfl) (by kernel_rfl) (by kernel_rfl) (by kernel_rfl) (fun _ _ _ h => h) (Or.inl ⟨by rfl, ?yT6⟩) hHeld ?rT6
      case yT6 => (intro w' hSw; (try dsimp only at hSw); go_simp; try with_reducible rfl)
      try simp only [List.getElem_toArray, List.getElem_cons_zero, List.getElem_cons_succ, Act.put, List.setIfInBounds_toArray, List.set_cons_zero, List.set_cons_succ]
      refine' wpAnyS_takeL (i := 7) (v := _) rfl (by kernel_rfl) (by kernel_rfl) (by kernel_rfl) (by kernel_rfl) (fun _ _ _ h => h) (Or.inl ⟨by rfl, ?yT7⟩) hHeld ?rT7
      case yT7 => (intro w' hSw; (try dsimp only at hSw); go_simp; try with_reducible rfl)
      try simp only [List.getElem_toArray, List.getElem_cons_zero, List.getElem_cons_succ, Act.put, List.setIfInBounds_toArray, List.set_cons_zero, List.set_cons_succ]
      refine' wpAnyS_takeL (i := 8) (v := _) rfl (by kernel_rfl) (by kernel_rfl) (by kernel_rfl) (by kernel_rfl) (fun _ _ _ h => h) (Or.inl ⟨by rfl, ?yT8⟩) hHeld ?rT8
      case yT8 => (intro w' hSw; (try dsimp only at hSw); go_simp; try with_reducible rfl)
      try simp only [List.getElem_toArray, List.getElem_cons_zero, List.getElem_cons_succ, Act.put, List.setIfInBounds_toArray, List.set_cons_zero, List.set_cons_succ]
      refine wpAnyS_oneL (i := 2) rfl (by kernel_rfl) (fun K hK => ?_)
      go_simp
      go_at_call 90
      refine (timesP_c m m n _ _ l yss _ ((hO.rd).below (by (repeat (first | exact bR _ _ | (refine bS ?_ _) | (refine bA ?_ _) | (refine bN ?_ _) | (refine bD ?_)))) (Nat.le_refl _)) ((hur).below (by (repeat (first | exact bR _ _ | (refine bS ?_ _) | (refine bA ?_ _) | (refine bN ?_ _) | (refine bD ?_)))) (Nat.le_refl _)) h1 hn hm hm' HLl.out HY.out).mono ?_
      rintro e wd1 ⟨vt1, rfl, hod1, hbd1⟩
      obtain ⟨ot, ct, rfl⟩ := hod1.shapeN (n := n) (timesT_len _ _ _ _)
      have hd1 : Below wr.heap.size wr wd1 := (by (repeat (first | exact bR _ _ | (refine bS ?_ _) | (refine bA ?_ _) | (refine bN ?_ _) | (refine bD ?_) | (refine bT ?_ hbd1))))
      have hsd1 := hd1.size
      obtain ⟨⟨q1_OO_0, q1_OO_1⟩, qf1_OO⟩ := OO.below hd1 (Nat.le_refl _)
      obtain ⟨q1_Xr_0, q1_Xr_1⟩ := Xr.below hd1 (Nat.le_refl _)
      obtain ⟨q1_Yr_0, q1_Yr_1⟩ := Yr.below hd1 (Nat.le_refl _)
      have q1_cx := (((hvr).below hd1 (Nat.le_refl _))).cell0 (some_at0 (show k < xs.length by omega))
      go_wp2_with fail
      clear hHeld
      have hHeld : (fun w' : World => w'.cell? ⟨w1.heap.size , 0, none⟩ = some (.int .i64 m) ∧ w'.cell? ⟨w1.heap.size , 1, none⟩ = some (.slice ov n cv) ∧ w'.cell? ⟨w.heap.size, 0, none⟩ = some (.int .i64 m') ∧ w'.cell? ⟨w.heap.size, 1, none⟩ = some (.slice (some ⟨bx, fx, none⟩) xs.length c) ∧ w'.cell? ⟨w.heap.size + 1, 0, none⟩ = some (.int .i64 m) ∧ w'.cell? ⟨w.heap.size + 1, 1, none⟩ = some (.slice o' n c') ∧ w'.cell? ⟨bx, fx + k, none⟩ = some (.int .i64 (at0 xs k))) wd1 := by go_keep
      refine hK.out _ _ (fun _ => hHeld) ?_
      clear hK K
      try simp only [List.getElem_toArray, List.getElem_cons_zero, List.getElem_cons_succ, Act.put, List.setIfInBounds_toArray, List.set_cons_zero, List.set_cons_succ]
      refine wpAnyS_oneL (i := 9) rfl (by kernel_rfl) (fun K hK => ?_)
      go_simp
      go_at_call 89
      refine (number_c m (at0 xs k) o' n c' _ h1 hn hm (by omega) (by omega) (by omega)).mono ?_
      rintro e wd2 ⟨vc2, rfl, hod2, hbd2⟩
      obtain ⟨oc, cc, rfl⟩ := hod2.shapeN (n := n) (numbT_len _ _ _)
      have hd2 : Below wr.heap.size wr wd2 := (by (repeat (first | exact bR _ _ | (refine bS ?_ _) | (refine bA ?_ _) | (refine bN ?_ _) | (refine bD ?_) | (refine bT ?_ hbd1) | (refine bT ?_ hbd2))))
      have hsd2 := hd2.size
      obtain ⟨⟨q2_OO_0, q2_OO_1⟩, qf2_OO⟩ := OO.below hd2 (Nat.le_refl _)
      obtain ⟨q2_Xr_0, q2_Xr_1⟩ := Xr.below hd2 (Nat.le_refl _)
      obtain ⟨q2_Yr_0, q2_Yr_1⟩ := Yr.below hd2 (Nat.le_refl _)
      have q2_cx := (((hvr).below hd2 (Nat.le_refl _))).cell0 (some_at0 (show k < xs.length by omega))
      go_wp2_with fail
      clear hHeld
      have hHeld : (fun w' : World => w'.cell? ⟨w1.heap.size , 0, none⟩ = some (.int .i64 m) ∧ w'.cell? ⟨w1.heap.size , 1, none⟩ = some (.slice ov n cv) ∧ w'.cell? ⟨w.heap.size, 0, none⟩ = some (.int .i64 m') ∧ w'.cell? ⟨w.heap.size, 1, none⟩ = some (.slice (some ⟨bx, fx, none⟩) xs.length c) ∧ w'.cell? ⟨w.heap.size + 1, 0, none⟩ = some (.int .i64 m) ∧ w'.cell? ⟨w.heap.size + 1, 1, none⟩ = some (.slice o' n c') ∧ w'.cell? ⟨bx, fx + k, none⟩ = some (.int .i64 (at0 xs k))) wd2 := by go_keep
      refine hK.out _ _ (fun _ => hHeld) ?_
      clear hK K
      try simp only [List.getElem_toArray, List.getElem_cons_zero, List.getElem_cons_succ, Act.put, List.setIfInBounds_toArray, List.set_cons_zero, List.set_cons_succ]
      refine wpAnyS_oneL (i := 10) rfl (by kernel_rfl) (fun K hK => ?_)
      go_simp
      go_at_call 91
      refine (plusP_c m m _ _ (timesT m n l yss) (numbT m (at0 xs k) n) _ ((hod1.below (by (repeat (first | exact bR _ _ | (refine bS ?_ _) | (refine bA ?_ _) | (refine bN ?_ _) | (refine bD ?_) | (refine bT ?_ hbd2)))))).rd ((hod2.below (by (repeat (first | exact bR _ _ | (refine bS ?_ _) | (refine bA ?_ _) | (refine bN ?_ _) | (refine bD ?_)))))).rd (by rw [timesT_len]; omega) (by rw [timesT_len]; omega) (by rw [timesT_len, numbT_len]) hm (by omega) HT.out.2 (numbT_ok (by omega) _ _).2).mono ?_
      rintro e wd3 ⟨vp3, rfl, hod3, hbd3⟩
      rw [timesT_len] at hod3; obtain ⟨op, cp, rfl⟩ := hod3.shapeN (n := n) (tri_len _ _)
      have hd3 : Below wr.heap.size wr wd3 := (by (repeat (first | exact bR _ _ | (refine bS ?_ _) | (refine bA ?_ _) | (refine bN ?_ _) | (refine bD ?_) | (refine bT ?_ hbd1) | (refine bT ?_ hbd2) | (refine bT ?_ hbd3))))
      have hsd3 := hd3.size
      obtain ⟨⟨q3_OO_0, q3_OO_1⟩, qf3_OO⟩ := OO.below hd3 (Nat.le_refl _)
      obtain ⟨q3_Xr_0, q3_Xr_1⟩ := Xr.below hd3 (Nat.le_refl _)
      obtain ⟨q3_Yr_0, q3_Yr_1⟩ := Yr.below hd3 (Nat.le_refl _)
      have q3_cx := (((hvr).below hd3 (Nat.le_refl _))).cell0 (some_at0 (show k < xs.length by omega))
      go_wp2_with fail
      clear hHeld
      have hHeld : (fun w' : World => w'.cell? ⟨w1.heap.size , 0, none⟩ = some (.int .i64 m) ∧ w'.cell? ⟨w1.heap.size , 1, none⟩ = some (.slice ov n cv) ∧ w'.cell? ⟨w.heap.size, 0, none⟩ = some (.int .i64 m') ∧ w'.cell? ⟨w.heap.size, 1, none⟩ = some (.slice (some ⟨bx, fx, none⟩) xs.length c) ∧ w'.cell? ⟨w.heap.size + 1, 0, none⟩ = some (.int .i64 m) ∧ w'.cell? ⟨w.heap.size + 1, 1, none⟩ = some (.slice o' n c') ∧ w'.cell? ⟨bx, fx + k, none⟩ = some (.int .i64 (at0 xs k))) wd3 := by go_keep
      refine hK.out _ _ (fun _ => hHeld) ?_
      clear hK K
      try simp only [List.getElem_toArray, List.getElem_cons_zero, List.getElem_cons_succ, Act.put, List.setIfInBounds_toArray, List.set_cons_zero, List.set_cons_succ]
      refine wpAnyS_oneL (i := 11) rfl (by kernel_rfl) (fun K hK => ?_)
      go_simp
      (try go_wp2_with fail)
      refine hK.out _ _ (fun h => absurd h (by decide)) ?_
      clear hK K
      try simp only [List.getElem_toArray, List.getElem_cons_zero, List.getElem_cons_succ, Act.put, List.setIfInBounds_toArray, List.set_cons_zero, List.set_cons_succ]
      refine wpAnyS_done (by kernel_rfl) ?_ _
      have hOn := OO.below hd3 (Nat.le_refl _)
      go_wp2_with fail
      have hgZ : wr.grownBy ((wd3.setCell ⟨w1.heap.size , 0, none⟩ (.int .i64 m)).setCell ⟨w1.heap.size , 1, none⟩ (.slice op n cp)) (some w1.heap.size ) := (gr_put (gr_put (show wr.grownBy wd3 (some w1.heap.size ) from World.grownBy.mk hd3.os hd3.tape hd3.output hd3.size (fun k hk _ => hd3.block k hk)) _ _) _ _)
      have hOZ : RB2 ((wd3.setCell ⟨w1.heap.size , 0, none⟩ (.int .i64 m)).setCell ⟨w1.heap.size , 1, none⟩ (.slice op n cp)) w1.heap.size  (.int .i64 m) (.slice op n cp) := RB2.put hOn _ _
      have hRZ : OwS ((wd3.setCell ⟨w1.heap.size , 0, none⟩ (.int .i64 m)).setCell ⟨w1.heap.size , 1, none⟩ (.slice op n cp)) wr.heap.size (.slice op n cp) (tri n (fun i j => (atT (timesT m n l yss) i j + atT (numbT m (at0 xs k) n) i j) % m)) := ((hod3.low (by first | (simp; done) | (simp; omega) | omega) _).low (by first | (simp; done) | (simp; omega) | omega) _).mono (by first | (simp; done) | (simp; omega) | omega)
      rw [addcT_plus (by omega) HT.out, ← HS.out] at hRZ
      exact ⟨⟨k, op, cp, by omega, by go_num, hRZ.mono (by omega), hOZ, hg.trans hgZ⟩, by simp [intOf]⟩
    · obtain rfl : j = 0 := by omega
      rw [List.drop_zero] at hO
      obtain ⟨⟨z0, z1⟩, zf⟩ := id OO
      obtain ⟨⟨r0, r1⟩, rf⟩ := R3.grown hg (by simp; omega)
      go_wp2
      refine bodyPost_ret (v := .agg #[.int .i64 m, .slice ov n cv]) (by simp [results, Tryz.results62, go_sem, r0, r1]) rfl ⟨_, rfl, ?_, ?_⟩
      · exact ((hO.low (by first | (simp; done) | (simp; omega) | omega) _).low (by first | (simp; done) | (simp; omega) | omega) _).mono (by first | (simp; done) | (simp; omega) | omega)
      · (repeat (first | exact bR _ _ | (refine bS ?_ _) | (refine bA ?_ _) | (refine bN ?_ _) | (refine bD ?_) | (refine bT ?_ Br)))

end Go.Proofs.YteijannfbafdpaaGreatDoor
set_option linter.unusedSimpArgs false
set_option linter.unusedVariables false
namespace Go.Proofs.YteijannfbafdpaaGreatDoor
open Go.RowKit

theorem revL_range {m : Int} (hm : 0 < m) (n : Nat) (a : List Int) : ∀ x ∈ revL m n a, 0 ≤ x ∧ x < m := revTo_range hm n a _
end Go.Proofs.YteijannfbafdpaaGreatDoor
set_option linter.unusedSimpArgs false
set_option linter.unusedVariables false
namespace Go.Proofs.YteijannfbafdpaaGreatDoor
open Go.RowKit
open Rg

theorem most_ok {p n : Nat} (hp : P4 p) (hn : n ≤ 10) : Most p (mostOf p n) := by
  have hnn : n = 0 ∨ n = 1 ∨ n = 2 ∨ n = 3 ∨ n = 4 ∨ n = 5 ∨ n = 6 ∨ n = 7 ∨ n = 8 ∨ n = 9 ∨ n = 10 := by omega
  refine ⟨hp, ?_⟩
  rcases hp with rfl | rfl | rfl | rfl <;>
    rcases hnn with rfl | rfl | rfl | rfl | rfl | rfl | rfl | rfl | rfl | rfl | rfl <;> decide
end Go.Proofs.YteijannfbafdpaaGreatDoor
set_option linter.unusedSimpArgs false
set_option linter.unusedVariables false
namespace Go.Proofs.YteijannfbafdpaaGreatDoor
open Go.RowKit
open Rg

theorem num_congr {p : Nat} {v v' : Nat → Int} : ∀ k, (∀ i, i < k → v i = v' i) → num p v k = num p v' k := by
  intro k
  induction k using Nat.strongRecOn with
  | _ k ih =>
    intro h
    cases k with
    | zero => rfl
    | succ k =>
      rw [num_succ, num_succ]
      refine sumN_congr fun i hi => ?_
      rw [ih i (by omega) (fun j hj => h j (by omega)), h (k - i) (by omega)]
theorem tyl_0 (p M : Nat) (v : Nat → Int) : tyl p M v 0 = (p : Int) ^ M := by
  unfold tyl; rw [num_0, Int.mul_one, Nat.sub_zero]
theorem tyl_ne {p M : Nat} (hp : P4 p) (v : Nat → Int) : tyl p M v 0 ≠ 0 := by
  have := hp.pos
  rw [tyl_0]; exact Int.pow_ne_zero (by omega)
def tyLaw (p n : Nat) (v : Nat → Int) : Nat → Nat → Int := tyF p (mostOf p n) (tyl p (mostOf p n) v) (n - 1)
theorem most_lt {p n : Nat} (hp : P4 p) (hn : n ≤ 10) : n < p ^ (mostOf p n + 1) := by
  have k := (most_key hp hn (Nat.le_refl (mostOf p n))).2.2.1
  exact Nat.lt_of_not_le fun h => Nat.lt_irrefl _ (k.1 h)
theorem tyLaw_log {p n : Nat} (hp : P4 p) (n1 : 1 ≤ n) (hn : n ≤ 10) (v : Nat → Int) :
    eqv 0 (n + 1) (LQ p (tyl p (mostOf p n) v) (mostOf p n + 1) (tyLaw p n v)) (ad (LQ p (tyl p (mostOf p n) v) (mostOf p n + 1) xP) (LQ p (tyl p (mostOf p n) v) (mostOf p n + 1) yP)) := by
  obtain ⟨F, hF, h0, h⟩ := ty_ex (most_ok hp hn) v (n := n + 1) (by omega) (most_lt hp hn)
  rw [show n + 1 - 2 = n - 1 by omega] at hF
  rw [hF] at h
  exact h
theorem tyLaw_0 (p n : Nat) (v : Nat → Int) : tyLaw p n v 0 0 = 0 := tyF_0 _ _ _ _
theorem LQ_3 {p M n : Nat} (hp : P4 p) (hM : M ≤ 3) (hn : n ≤ p ^ (M + 1)) (v : Nat → Int) {X : Nat → Nat → Int} (hX : lo 0 1 X) :
    eqv 0 n (LQ p (tyl p 3 v) (3 + 1) X) (ml (ic ((p : Int) ^ (3 - M))) (LQ p (tyl p M v) (M + 1) X)) := by
  have hp2 := hp.pos
  unfold LQ
  rw [show 3 + 1 = (M + 1) + (3 - M) by omega, sm_split, sm_ml]
  refine eqv_trans (eqv_ad (y' := zz) (sm_eqv (g := fun k => ml (ic ((p : Int) ^ (3 - M))) (ml (ic (tyl p M v k)) (pw X (p ^ k)))) fun k hk => eqv_of ?_) (eqv_lo (sm_lo fun i hi => ?_))) (eqv_of (ad_zz _))
  · rw [← ml_assoc, ← ic_ml]
    congr 2
    unfold tyl
    rw [← Int.mul_assoc, ← Int.pow_add, show 3 - M + (M - k) = 3 - k by omega]
  · refine lo_mul _ (lo_le (pw_lo hX _) (Nat.le_trans hn (Nat.pow_le_pow_right (by omega) (by omega))))
theorem most_3 {p n : Nat} (hp : P4 p) (hn : n ≤ 10) : mostOf p n ≤ 3 := (most_ok hp hn).2.1
theorem tyLaw_log3 {p n : Nat} (hp : P4 p) (n1 : 1 ≤ n) (hn : n ≤ 10) (v : Nat → Int) :
    eqv 0 (n + 1) (LQ p (tyl p 3 v) (3 + 1) (tyLaw p n v)) (ad (LQ p (tyl p 3 v) (3 + 1) xP) (LQ p (tyl p 3 v) (3 + 1) yP)) := by
  have hM := most_3 hp hn
  have hk := most_lt hp hn
  have e1 := LQ_3 hp hM (show n + 1 ≤ _ from hk) v (lo_of0 (tyLaw_0 p n v))
  have e2 := LQ_3 hp hM (show n + 1 ≤ _ from hk) v (lo_xP 0)
  have e3 := LQ_3 hp hM (show n + 1 ≤ _ from hk) v (lo_yP 0)
  refine eqv_trans e1 (eqv_trans (eqv_mll _ (tyLaw_log hp n1 hn v)) ?_)
  rw [ml_ad]
  exact eqv_symm (eqv_ad e2 e3)
theorem LQ_par {p r n : Nat} (hp : P4 p) {v v' : Nat → Int} (hv : ∀ i, i < r → v i = v' i) (hn : n ≤ p ^ (r + 1)) {X : Nat → Nat → Int} (hX : lo 0 1 X) :
    eqv 0 n (LQ p (tyl p 3 v) (3 + 1) X) (LQ p (tyl p 3 v') (3 + 1) X) := by
  have hp2 := hp.pos
  refine sm_eqv fun k hk => ?_
  by_cases h : k ≤ r
  · refine eqv_of ?_
    unfold tyl
    rw [num_congr k (fun i hi => hv i (by omega))]
  · have hl : lo 0 n (pw X (p ^ k)) := lo_le (pw_lo hX _) (Nat.le_trans hn (Nat.pow_le_pow_right (by omega) (by omega)))
    exact eqv_trans (eqv_lo (lo_mul _ hl)) (eqv_symm (eqv_lo (lo_mul _ hl)))
theorem tyLaw_agree {p n n' r k : Nat} (hp : P4 p) (n1 : 1 ≤ n) (hn : n ≤ 10) (n1' : 1 ≤ n') (hn' : n' ≤ 10) {v v' : Nat → Int} (hv : ∀ i, i < r → v i = v' i) (h1 : k ≤ n + 1) (h2 : k ≤ n' + 1) (h3 : k ≤ p ^ (r + 1)) :
    ∀ i j, i + j < k → tyLaw p n v i j = tyLaw p n' v' i j := by
  have a := eqv_le (tyLaw_log3 hp n1 hn v) h1
  have b := eqv_le (tyLaw_log3 hp n1' hn' v') h2
  have l1 := lo_of0 (m := 0) (tyLaw_0 p n v)
  have l2 := lo_of0 (m := 0) (tyLaw_0 p n' v')
  have c := eqv_trans (LQ_par hp hv h3 l2) (eqv_trans b (eqv_symm (eqv_ad (LQ_par hp hv h3 (lo_xP 0)) (LQ_par hp hv h3 (lo_yP 0)))))
  have d := LQ_inj (tf_ser (tf_ser tf_int)) hp.pos.1 (tyl_ne hp v) l1 l2 (eqv_trans a (eqv_symm c)) k (Nat.le_refl _)
  intro i j hij
  have := eqv2.1 d i j hij
  rwa [Int.emod_zero, Int.emod_zero] at this

end Go.Proofs.YteijannfbafdpaaGreatDoor
/- Typical laws: both functions answer alike. -/
set_option linter.unusedSimpArgs false
set_option linter.unusedVariables false
namespace Go.Proofs.YteijannfbafdpaaGreatDoor
open Go.RowKit

def typT2 (p : Nat) (m : Int) (n : Nat) (ls : List Int) : List (List Int) := tri (n + 1) (fun i j => tyF p (mostOf p n) (tyl p (mostOf p n) (at0 (ls ++ List.replicate (3 - ls.length) (0 : Int)))) (n - 1) i j % m)
end Go.Proofs.YteijannfbafdpaaGreatDoor

/- Typical laws: both functions answer alike, the good end. -/
set_option linter.unusedSimpArgs false
set_option linter.unusedVariables false
namespace Go.Proofs.YteijannfbafdpaaGreatDoor
open Go.RowKit

end Go.Proofs.YteijannfbafdpaaGreatDoor
set_option linter.unusedSimpArgs false
set_option linter.unusedVariables false
namespace Go.Proofs.YteijannfbafdpaaGreatDoor
open Go.RowKit
open Rg

theorem at0_pad (ls : List Int) (k : Nat) : at0 (ls ++ List.replicate k 0) = at0 ls := by
  funext i
  by_cases h : i < ls.length
  · exact at0_left h
  · have e1 : at0 ls i = 0 := at0_out (by omega)
    rw [e1]
    by_cases h' : i < ls.length + k
    · unfold at0 List.getD
      rw [List.getElem?_append_right (by omega), List.getElem?_replicate, if_pos (by omega)]; rfl
    · have e2 : (ls ++ List.replicate k (0 : Int)).length ≤ i := by rw [List.length_append, List.length_replicate]; omega
      exact at0_out e2
theorem typT2_eq (p : Nat) (m : Int) (n : Nat) (ls : List Int) : typT2 p m n ls = tri (n + 1) (fun i j => tyLaw p n (at0 ls) i j % m) := by
  unfold typT2 tyLaw
  rw [at0_pad]
theorem Lw.cut {m : Int} {n k : Nat} {F : Nat → Nat → Int} (L : Lw m n F) (h2 : 2 ≤ k) (hk : k ≤ n) : Lw m k F := by
  refine ⟨h2, L.zer, fun i hi => L.un i (by omega), fun i j h => L.sy i j (by omega), fun p q r h => ?_⟩
  have lF : lo m 1 F := lo_law L
  have key : ∀ (u : Nat → Int) (a b : Nat), a + b < k → sm n (fun i => u i * (pw F i : Nat → Nat → Int) a b) % m = sm k (fun i => u i * (pw F i : Nat → Nat → Int) a b) % m := by
    intro u a b hab
    rw [← sumN_sm, ← sumN_sm]
    have e1 : sumN n (fun i => u i * (pw F i : Nat → Nat → Int) a b) % m = sumN n (fun i => if i < k then u i * (pw F i : Nat → Nat → Int) a b else 0) % m := by
      refine sumN_mod fun i hi => ?_
      by_cases hik : i < k
      · rw [if_pos hik]
      · rw [if_neg hik]
        have z : (pw F i : Nat → Nat → Int) a b % m = 0 % m := eqv2.1 (eqv_lo (pw_lo lF i)) a b (by omega)
        rw [emod_congr_mul (rfl : u i % m = _) z, Int.mul_zero]
    rw [e1, sumN_cut (n := n) (k := k) hk fun i hi _ => by rw [if_neg (by omega)]]
    exact congrArg (· % m) (sumN_congr fun i hi => by rw [if_pos hi])
  rw [← key (fun i => F i r) p q (by omega), ← key (fun j => F p j) q r (by omega)]
  exact L.as p q r (by omega)
theorem cutT_lw {m : Int} {n k : Nat} {t : List (List Int)} (L : Lw m n (atT t)) (h2 : 2 ≤ k) (hk : k ≤ n) : Lw m k (atT (cutT k t)) := by
  refine (L.cut h2 hk).congr ?_ fun i j h => by rw [cutT_at h]
  rw [cutT_at (by omega)]; exact L.zer

def agrF (p : Nat) (m : Int) (t : List (List Int)) (n : Nat) (ls : List Int) : Prop := n ≤ agrK (cutT (n + 1) t) (typT2 p m n ls) (n + 1)
instance (p : Nat) (m : Int) (t : List (List Int)) (n : Nat) (ls : List Int) : Decidable (agrF p m t n ls) := by unfold agrF; infer_instance
theorem agrK_ge {t s : List (List Int)} {n k : Nat} (hk : k ≤ n) (h : ∀ d, d < k → agrA t s d = true) : k ≤ agrK t s n := by
  have key : ∀ j, j ≤ n → (∀ d, d < j → agrA t s d = true) ∨ ∃ e, e < j ∧ (∀ d, d < e → agrA t s d = true) ∧ agrA t s e = false := by
    intro j
    induction j with
    | zero => intro _; exact .inl fun d hd => by omega
    | succ j ih =>
      intro hj
      rcases ih (by omega) with a | ⟨e, he, a, b⟩
      · cases hx : agrA t s j
        · exact .inr ⟨j, by omega, a, hx⟩
        · refine .inl fun d hd => ?_
          by_cases e : d = j
          · rw [e]; exact hx
          · exact a d (by omega)
      · exact .inr ⟨e, by omega, a, b⟩
  rcases key n (Nat.le_refl _) with a | ⟨e, he, a, b⟩
  · rw [agrK_all a]; exact hk
  · rw [agrK_at he a b]
    refine Nat.le_of_not_lt fun hlt => ?_
    rw [h e hlt] at b; simp at b
section run
variable {p D : Nat} {m : Int} {t : List (List Int)}
end run
end Go.Proofs.YteijannfbafdpaaGreatDoor
