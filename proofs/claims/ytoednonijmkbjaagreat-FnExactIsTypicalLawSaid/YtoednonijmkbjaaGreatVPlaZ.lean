/- Lemmas of PlaZ. -/
import Derived.Test.YtoednonijmkbjaaGreatVPlaU
import Derived.Test.YtoednonijmkbjaaGreatVG15
import Derived.Test.YtoednonijmkbjaaGreatVPlaY
import Derived.Test.YtoednonijmkbjaaGreatVSerC
set_option linter.unusedSimpArgs false
set_option linter.unusedVariables false
namespace Go.Proofs.YtoednonijmkbjaaGreat
open Go.RowKit

set_option maxHeartbeats 2000000 in
set_option maxRecDepth 100000 in
theorem ofS_c (m m' : Int) (n : Nat) (v u : Value) (xs : List Int) (yss : List (List Int)) (w : World) (hv : RdI w v xs) (hu : RdT w u yss) (hxl : 1 ≤ xs.length) (hxn : xs.length ≤ 1048576) (h1 : 1 ≤ n) (hn : n ≤ 1000) (hm : 2 ≤ m) (hm' : m ≤ 1000000000000)
    (hx : ∀ x ∈ xs, 0 ≤ x ∧ x < m) (hy : PlaT m n yss) :
    Calls Tryz.prog 106 #[.agg #[.int .i64 m', v], .agg #[.int .i64 m, u]] w fun e w' => PVEnd w w' m (hornT m n yss xs) e := by
  obtain ⟨o, c, rfl, hmx, -⟩ := id hv
  obtain ⟨o', c', rfl, hmy, -⟩ := id hu
  have hml := hmx.1
  rw [hy.1] at hmy hu ⊢
  have hmt := hmy.1
  unfold maxLen at hmx hmy
  have HY := Lib.hid hy
  clear hy
  go_enter Tryz.func106, Tryz.ntmps106
  go_wp2_with fail
  (have X0 := ((RB2.mk1 w  (.int .i64 m') (.slice o xs.length c) 28).1).below (w' := (((w.alloc (.cells #[.int .i64 m', .slice o xs.length c] 28)).alloc (.cells #[.int .i64 m, .slice o' n c'] 31)).alloc (.cells #[.int .i64 0, .slice none 0 0] 31))) (by (repeat (first | exact Below.refl _ _ | (refine Below.setCell ?_ (by first | (simp; done) | (simp; omega) | omega) _) | (refine Below.alloc ?_ (by first | (simp; done) | (simp; omega) | omega) _) | (refine below_drewN ?_ _) | (refine Below.drew ?_)))) (Nat.le_refl _); have Y0 := ((RB2.mk2 w (.cells #[.int .i64 m', .slice o xs.length c] 28) (.int .i64 m) (.slice o' n c') 31).1).below (w' := (((w.alloc (.cells #[.int .i64 m', .slice o xs.length c] 28)).alloc (.cells #[.int .i64 m, .slice o' n c'] 31)).alloc (.cells #[.int .i64 0, .slice none 0 0] 31))) (by (repeat (first | exact Below.refl _ _ | (refine Below.setCell ?_ (by first | (simp; done) | (simp; omega) | omega) _) | (refine Below.alloc ?_ (by first | (simp; done) | (simp; omega) | omega) _) | (refine below_drewN ?_ _) | (refine Below.drew ?_)))) (Nat.le_refl _); have R0 := ((RB2.mk3 w (.cells #[.int .i64 m', .slice o xs.length c] 28) (.cells #[.int .i64 m, .slice o' n c'] 31) (.int .i64 0) (.slice none 0 0) 31)).below (w' := (((w.alloc (.cells #[.int .i64 m', .slice o xs.length c] 28)).alloc (.cells #[.int .i64 m, .slice o' n c'] 31)).alloc (.cells #[.int .i64 0, .slice none 0 0] 31))) (by (repeat (first | exact Below.refl _ _ | (refine Below.setCell ?_ (by first | (simp; done) | (simp; omega) | omega) _) | (refine Below.alloc ?_ (by first | (simp; done) | (simp; omega) | omega) _) | (refine below_drewN ?_ _) | (refine Below.drew ?_)))) (Nat.le_refl _); have B0 : Below w.heap.size w (((w.alloc (.cells #[.int .i64 m', .slice o xs.length c] 28)).alloc (.cells #[.int .i64 m, .slice o' n c'] 31)).alloc (.cells #[.int .i64 0, .slice none 0 0] 31)) := (by (repeat (first | exact Below.refl _ _ | (refine Below.setCell ?_ (by first | (simp; done) | (simp; omega) | omega) _) | (refine Below.alloc ?_ (by first | (simp; done) | (simp; omega) | omega) _) | (refine below_drewN ?_ _) | (refine Below.drew ?_)))); have hv0 := hv.below (w' := (((w.alloc (.cells #[.int .i64 m', .slice o xs.length c] 28)).alloc (.cells #[.int .i64 m, .slice o' n c'] 31)).alloc (.cells #[.int .i64 0, .slice none 0 0] 31))) (by (repeat (first | exact Below.refl _ _ | (refine Below.setCell ?_ (by first | (simp; done) | (simp; omega) | omega) _) | (refine Below.alloc ?_ (by first | (simp; done) | (simp; omega) | omega) _) | (refine below_drewN ?_ _) | (refine Below.drew ?_)))) (Nat.le_refl _); have hu0 := hu.below (w' := (((w.alloc (.cells #[.int .i64 m', .slice o xs.length c] 28)).alloc (.cells #[.int .i64 m, .slice o' n c'] 31)).alloc (.cells #[.int .i64 0, .slice none 0 0] 31))) (by (repeat (first | exact Below.refl _ _ | (refine Below.setCell ?_ (by first | (simp; done) | (simp; omega) | omega) _) | (refine Below.alloc ?_ (by first | (simp; done) | (simp; omega) | omega) _) | (refine below_drewN ?_ _) | (refine Below.drew ?_)))) (Nat.le_refl _); generalize ((w.alloc (.cells #[.int .i64 m', .slice o xs.length c] 28)).alloc (.cells #[.int .i64 m, .slice o' n c'] 31)).alloc (.cells #[.int .i64 0, .slice none 0 0] 31) = w0 at X0 Y0 R0 B0 hv0 hu0 ⊢)
  obtain ⟨x0, x1⟩ := id Y0
  have hzl : w.heap.size + 2 < w0.heap.size := R0.1.lt
  go_wp2_with fail
  refine (number_c m 0 o' n c' _ h1 hn hm (by omega) (by omega) (by omega)).mono ?_
  rintro e w1 ⟨vz, rfl, how, hb⟩
  obtain ⟨oz, cz, rfl⟩ := how.shapeN (n := n) (numbT_len _ _ _)
  rw [numbT_0] at how
  (have X1 := X0.below hb (Nat.le_refl _); have Y1 := Y0.below hb (Nat.le_refl _); have R1 := R0.below hb (Nat.le_refl _); have hv1 := hv0.below hb (Nat.le_refl _); have hu1 := hu0.below hb (Nat.le_refl _); have B1 := B0.trans (hb.mono B0.size))
  clear x0 x1
  obtain ⟨x0, x1⟩ := id X1
  have hb1 := hb.size
  have lX := X1.lt
  have lR := R1.1.lt
  go_wp2_with fail
  clear x0 x1
  (have hb : Below w1.heap.size w1 (w1.alloc (.cells #[.int .i64 m, .slice oz n cz] 31)) := (by (repeat (first | exact Below.refl _ _ | (refine Below.setCell ?_ (by first | (simp; done) | (simp; omega) | omega) _) | (refine Below.alloc ?_ (by first | (simp; done) | (simp; omega) | omega) _) | (refine below_drewN ?_ _) | (refine Below.drew ?_)))); have X2 := X1.below hb (Nat.le_refl _); have Y2 := Y1.below hb (Nat.le_refl _); have R2 := R1.below hb (Nat.le_refl _); have hv2 := hv1.below hb (Nat.le_refl _); have hu2 := hu1.below hb (Nat.le_refl _); have how := how.alloc (.cells #[.int .i64 m, .slice oz n cz] 31); have B2 := B1.trans (hb.mono B1.size); have O := RB2.mk1 w1 (.int .i64 m) (.slice oz n cz) 31; have hl_w2 := hb.size; clear hb; generalize w1.alloc (.cells #[.int .i64 m, .slice oz n cz] 31) = w2 at O B2 hl_w2 X2 Y2 R2 hv2 hu2 how ⊢)
  refine (degreeS_c m' o xs.length c _ hml).mono ?_
  rintro e w3 ⟨rfl, hb⟩
  (have X3 := X2.below hb (Nat.le_refl _); have Y3 := Y2.below hb (Nat.le_refl _); have R3 := R2.below hb (Nat.le_refl _); have hv3 := hv2.below hb (Nat.le_refl _); have hu3 := hu2.below hb (Nat.le_refl _); have B3 := B2.trans (hb.mono B2.size))
  have O3 := O.below hb (Nat.le_refl _)
  have how3 := how.below hb
  have hb3 := hb.size
  clear hb how O lX lR
  have lX := X3.lt
  have lR := R3.1.lt
  have B3s := B3.size
  obtain ⟨bx, fx, rfl, hcx⟩ := hv.cells hxl
  have lx := cell_lt (hcx 0 _ (some_at0 (by omega)))
  clear hcx
  go_wp2_with fail
  go_loopw [6] (fun i wr => ∃ (j : Nat) (ov : Option Addr) (cv : Nat), j ≤ xs.length ∧ i = .int .i64 ((j : Int) - 1) ∧ OwS wr w0.heap.size (.slice ov n cv) (hornT m n yss (xs.drop j)) ∧ RB2 wr w1.heap.size (.int .i64 m) (.slice ov n cv) ∧ w3.grownBy wr (some w1.heap.size)) (fun i _ => ((intOf i) + 1).toNat)
  case atStart => exact ⟨xs.length, oz, cz, Nat.le_refl _, rfl, by rw [List.drop_length]; exact how3.mono (by omega), O3, World.grownBy.refl _ _⟩
  case round =>
    obtain ⟨j, ov, cv, hj, rfl, hO, OO, hg⟩ := hrel
    have Br := below_gr B3 hg (by omega) B3s
    have Xr := X3.grown hg (by simp; omega)
    have Yr := Y3.grown hg (by simp; omega)
    have hvr := hv.below Br (Nat.le_refl _)
    have hur := hu.below Br (Nat.le_refl _)
    have hgs := hg.size
    by_cases hlt : 0 < j
    · obtain ⟨k, rfl⟩ : ∃ k, j = k + 1 := ⟨j - 1, by omega⟩
      have ek : (((k + 1 : Nat) : Int)) - 1 = (k : Int) := by omega
      rw [ek]
      clear ek
      have HS := Lib.hid (hornT_drop (m := m) (n := n) (t := yss) (some_at0 (show k < xs.length by omega)))
      have HLl := Lib.hid (hornT_ok (m := m) (show 0 < m by omega) n yss (xs.drop (k + 1)))
      generalize hornT m n yss (xs.drop (k + 1)) = l at hO HS HLl
      have HT := Lib.hid (timesT_ok (m := m) (show 0 < m by omega) n l yss)
      have hkx := at0_range (by omega) hx k
      have i0 : (0 : Int) ≤ (k : Int) := by omega
      have i1 : (k : Int) < (xs.length : Int) := by omega
      go_wp2_with fail
      have hd0 : Below wr.heap.size wr wr.drew := (Below.refl _ _).drew
      have hsd0 := hd0.size
      have hlb_OO := OO.1.lt
      obtain ⟨⟨q0_OO_0, q0_OO_1⟩, qf0_OO⟩ := OO.below (Below.refl wr.heap.size wr) (Nat.le_refl _)
      obtain ⟨q0_Xr_0, q0_Xr_1⟩ := Xr.below (Below.refl wr.heap.size wr) (Nat.le_refl _)
      obtain ⟨q0_Yr_0, q0_Yr_1⟩ := Yr.below (Below.refl wr.heap.size wr) (Nat.le_refl _)
      have q0_cx := (((hvr).below (Below.refl wr.heap.size wr) (Nat.le_refl _))).cell0 (some_at0 (show k < xs.length by omega))
      refine wp_region_S (S := fun w' => w'.cell? ⟨w1.heap.size , 0, none⟩ = some (.int .i64 m) ∧ w'.cell? ⟨w1.heap.size , 1, none⟩ = some (.slice ov n cv) ∧ w'.cell? ⟨w.heap.size, 0, none⟩ = some (.int .i64 m') ∧ w'.cell? ⟨w.heap.size, 1, none⟩ = some (.slice (some ⟨bx, fx, none⟩) xs.length c) ∧ w'.cell? ⟨w.heap.size + 1, 0, none⟩ = some (.int .i64 m) ∧ w'.cell? ⟨w.heap.size + 1, 1, none⟩ = some (.slice o' n c') ∧ w'.cell? ⟨bx, fx + k, none⟩ = some (.int .i64 (at0 xs k))) 11 (by kernel_rfl) ?_
      have hHeld : (fun w' : World => w'.cell? ⟨w1.heap.size , 0, none⟩ = some (.int .i64 m) ∧ w'.cell? ⟨w1.heap.size , 1, none⟩ = some (.slice ov n cv) ∧ w'.cell? ⟨w.heap.size, 0, none⟩ = some (.int .i64 m') ∧ w'.cell? ⟨w.heap.size, 1, none⟩ = some (.slice (some ⟨bx, fx, none⟩) xs.length c) ∧ w'.cell? ⟨w.heap.size + 1, 0, none⟩ = some (.int .i64 m) ∧ w'.cell? ⟨w.heap.size + 1, 1, none⟩ = some (.slice o' n c') ∧ w'.cell? ⟨bx, fx + k, none⟩ = some (.int .i64 (at0 xs k))) wr.drew := by go_keep
      refine' wpAnyS_takeL (i := 0) (v := _) rfl (by kernel_rfl) (by kernel_rfl) (by kernel_rfl) (by kernel_rfl) (fun _ _ _ h => h) (Or.inl ⟨by rfl, ?yT1⟩) hHeld ?rT1
      case yT1 => (intro w' hSw; (try dsimp only at hSw); go_simp; try with_reducible rfl)
      try simp only [List.getElem_toArray, List.getElem_cons_zero, List.getElem_cons_succ, Act.put, List.setIfInBounds_toArray, List.set_cons_zero, List.set_cons_succ]
      refine' wpAnyS_takeL (i := 1) (v := _) rfl (by kernel_rfl) (by kernel_rfl) (by kernel_rfl) (by kernel_rfl) (fun _ _ _ h => h) (Or.inl ⟨by rfl, ?yT2⟩) hHeld ?rT2
      case yT2 => (intro w' hSw; (try dsimp only at hSw); go_simp; try with_reducible rfl)
      try simp only [List.getElem_toArray, List.getElem_cons_zero, List.getElem_cons_succ, Act.put, List.setIfInBounds_toArray, List.set_cons_zero, List.set_cons_succ]
      refine' wpAnyS_takeL (i := 3) (v := _) rfl (by kernel_rfl) (by kernel_rfl) (by kernel_rfl) (by kernel_rfl) (fun _ _ _ h => h) (Or.inl ⟨by rfl, ?yT3⟩) hHeld ?rT3
      case yT3 => (intro w' hSw; (try dsimp only at hSw); go_simp; try with_reducible rfl)
      try simp only [List.getElem_toArray, List.getElem_cons_zero, List.getElem_cons_succ, Act.put, List.setIfInBounds_toArray, List.set_cons_zero, List.set_cons_succ]
      refine' wpAnyS_takeL (i := 4) (v := _) rfl (by kernel_rfl) (by kernel_rfl) (by kernel_rfl) (by kernel_rfl) (fun _ _ _ h => h) (Or.inl ⟨by rfl, ?yT4⟩) hHeld ?rT4
      case yT4 => (intro w' hSw; (try dsimp only at hSw); go_simp; try with_reducible rfl)
      try simp only [List.getElem_toArray, List.getElem_cons_zero, List.getElem_cons_succ, Act.put, List.setIfInBounds_toArray, List.set_cons_zero, List.set_cons_succ]
      refine' wpAnyS_takeL (i := 5) (v := _) rfl (by kernel_rfl) (by kernel_rfl) (by kernel_rfl) (by kernel_rfl) (fun _ _ _ h => h) (Or.inl ⟨by rfl, ?yT5⟩) hHeld ?rT5
      case yT5 => (intro w' hSw; (try dsimp only at hSw); go_simp; try with_reducible rfl)
      try simp only [List.getElem_toArray, List.getElem_cons_zero, List.getElem_cons_succ, Act.put, List.setIfInBounds_toArray, List.set_cons_zero, List.set_cons_succ]
      refine' wpAnyS_takeL (i := 6) (v := _) rfl (by kernel_rfl) (by kernel_rfl) (by kernel_rfl) (by kernel_rfl) (fun _ _ _ h => h) (Or.inl ⟨by rfl, ?yT6⟩) hHeld ?rT6
      case yT6 => (intro w' hSw; (try dsimp only at hSw); go_simp; try with_reducible rfl)
      try simp only [List.getElem_toArray, List.getElem_cons_zero, List.getElem_cons_succ, Act.put, List.setIfInBounds_toArray, List.set_cons_zero, List.set_cons_succ]
      refine' wpAnyS_takeL (i := 7) (v := _) rfl (by kernel_rfl) (by kernel_rfl) (by kernel_rfl) (by kernel_rfl) (fun _ _ _ h => h) (Or.inl ⟨by rfl, ?yT7⟩) hHeld ?rT7
      case yT7 => (intro w' hSw; (try dsimp only at hSw); go_simp; try with_reducible rfl)
      try simp only [List.getElem_toArray, List.getElem_cons_zero, List.getElem_cons_succ, Act.put, List.setIfInBounds_toArray, List.set_cons_zero, List.set_cons_succ]
      refine' wpAnyS_takeL (i := 8) (v := _) rfl (by kernel_rfl) (by kernel_rfl) (by kernel_rfl) (by kernel_rfl) (fun _ _ _ h => h) (Or.inl ⟨by rfl, ?yT8⟩) hHeld ?rT8
      case yT8 => (intro w' hSw; (try dsimp only at hSw); go_simp; try with_reducible rfl)
      try simp only [List.getElem_toArray, List.getElem_cons_zero, List.getElem_cons_succ, Act.put, List.setIfInBounds_toArray, List.set_cons_zero, List.set_cons_succ]
      refine wpAnyS_oneL (i := 2) rfl (by kernel_rfl) (fun K hK => ?_)
      go_simp
      go_at_call 132
      refine (timesP_c m m n _ _ l yss _ ((hO.rd).below (by (repeat (first | exact Below.refl _ _ | (refine Below.setCell ?_ (by first | (simp; done) | (simp; omega) | omega) _) | (refine Below.alloc ?_ (by first | (simp; done) | (simp; omega) | omega) _) | (refine below_drewN ?_ _) | (refine Below.drew ?_)))) (Nat.le_refl _)) ((hur).below (by (repeat (first | exact Below.refl _ _ | (refine Below.setCell ?_ (by first | (simp; done) | (simp; omega) | omega) _) | (refine Below.alloc ?_ (by first | (simp; done) | (simp; omega) | omega) _) | (refine below_drewN ?_ _) | (refine Below.drew ?_)))) (Nat.le_refl _)) h1 hn hm hm' HLl.out HY.out).mono ?_
      rintro e wd1 ⟨vt1, rfl, hod1, hbd1⟩
      obtain ⟨ot, ct, rfl⟩ := hod1.shapeN (n := n) (timesT_len _ _ _ _)
      have hd1 : Below wr.heap.size wr wd1 := (by (repeat (first | exact Below.refl _ _ | (refine Below.setCell ?_ (by first | (simp; done) | (simp; omega) | omega) _) | (refine Below.alloc ?_ (by first | (simp; done) | (simp; omega) | omega) _) | (refine below_drewN ?_ _) | (refine Below.drew ?_) | (refine Below.trans ?_ (Below.mono hbd1 (by first | (simp; done) | (simp; omega) | omega))))))
      have hsd1 := hd1.size
      obtain ⟨⟨q1_OO_0, q1_OO_1⟩, qf1_OO⟩ := OO.below hd1 (Nat.le_refl _)
      obtain ⟨q1_Xr_0, q1_Xr_1⟩ := Xr.below hd1 (Nat.le_refl _)
      obtain ⟨q1_Yr_0, q1_Yr_1⟩ := Yr.below hd1 (Nat.le_refl _)
      have q1_cx := (((hvr).below hd1 (Nat.le_refl _))).cell0 (some_at0 (show k < xs.length by omega))
      go_wp2_with fail
      clear hHeld
      have hHeld : (fun w' : World => w'.cell? ⟨w1.heap.size , 0, none⟩ = some (.int .i64 m) ∧ w'.cell? ⟨w1.heap.size , 1, none⟩ = some (.slice ov n cv) ∧ w'.cell? ⟨w.heap.size, 0, none⟩ = some (.int .i64 m') ∧ w'.cell? ⟨w.heap.size, 1, none⟩ = some (.slice (some ⟨bx, fx, none⟩) xs.length c) ∧ w'.cell? ⟨w.heap.size + 1, 0, none⟩ = some (.int .i64 m) ∧ w'.cell? ⟨w.heap.size + 1, 1, none⟩ = some (.slice o' n c') ∧ w'.cell? ⟨bx, fx + k, none⟩ = some (.int .i64 (at0 xs k))) wd1 := by go_keep
      refine hK.out _ _ (fun _ => hHeld) ?_
      clear hK K
      try simp only [List.getElem_toArray, List.getElem_cons_zero, List.getElem_cons_succ, Act.put, List.setIfInBounds_toArray, List.set_cons_zero, List.set_cons_succ]
      refine wpAnyS_oneL (i := 9) rfl (by kernel_rfl) (fun K hK => ?_)
      go_simp
      go_at_call 131
      refine (number_c m (at0 xs k) o' n c' _ h1 hn hm (by omega) (by omega) (by omega)).mono ?_
      rintro e wd2 ⟨vc2, rfl, hod2, hbd2⟩
      obtain ⟨oc, cc, rfl⟩ := hod2.shapeN (n := n) (numbT_len _ _ _)
      have hd2 : Below wr.heap.size wr wd2 := (by (repeat (first | exact Below.refl _ _ | (refine Below.setCell ?_ (by first | (simp; done) | (simp; omega) | omega) _) | (refine Below.alloc ?_ (by first | (simp; done) | (simp; omega) | omega) _) | (refine below_drewN ?_ _) | (refine Below.drew ?_) | (refine Below.trans ?_ (Below.mono hbd1 (by first | (simp; done) | (simp; omega) | omega))) | (refine Below.trans ?_ (Below.mono hbd2 (by first | (simp; done) | (simp; omega) | omega))))))
      have hsd2 := hd2.size
      obtain ⟨⟨q2_OO_0, q2_OO_1⟩, qf2_OO⟩ := OO.below hd2 (Nat.le_refl _)
      obtain ⟨q2_Xr_0, q2_Xr_1⟩ := Xr.below hd2 (Nat.le_refl _)
      obtain ⟨q2_Yr_0, q2_Yr_1⟩ := Yr.below hd2 (Nat.le_refl _)
      have q2_cx := (((hvr).below hd2 (Nat.le_refl _))).cell0 (some_at0 (show k < xs.length by omega))
      go_wp2_with fail
      clear hHeld
      have hHeld : (fun w' : World => w'.cell? ⟨w1.heap.size , 0, none⟩ = some (.int .i64 m) ∧ w'.cell? ⟨w1.heap.size , 1, none⟩ = some (.slice ov n cv) ∧ w'.cell? ⟨w.heap.size, 0, none⟩ = some (.int .i64 m') ∧ w'.cell? ⟨w.heap.size, 1, none⟩ = some (.slice (some ⟨bx, fx, none⟩) xs.length c) ∧ w'.cell? ⟨w.heap.size + 1, 0, none⟩ = some (.int .i64 m) ∧ w'.cell? ⟨w.heap.size + 1, 1, none⟩ = some (.slice o' n c') ∧ w'.cell? ⟨bx, fx + k, none⟩ = some (.int .i64 (at0 xs k))) wd2 := by go_keep
      refine hK.out _ _ (fun _ => hHeld) ?_
      clear hK K
      try simp only [List.getElem_toArray, List.getElem_cons_zero, List.getElem_cons_succ, Act.put, List.setIfInBounds_toArray, List.set_cons_zero, List.set_cons_succ]
      refine wpAnyS_oneL (i := 10) rfl (by kernel_rfl) (fun K hK => ?_)
      go_simp
      go_at_call 130
      refine (plusP_c m m _ _ (timesT m n l yss) (numbT m (at0 xs k) n) _ ((hod1.below (by (repeat (first | exact Below.refl _ _ | (refine Below.setCell ?_ (by first | (simp; done) | (simp; omega) | omega) _) | (refine Below.alloc ?_ (by first | (simp; done) | (simp; omega) | omega) _) | (refine below_drewN ?_ _) | (refine Below.drew ?_) | (refine Below.trans ?_ (Below.mono hbd2 (by first | (simp; done) | (simp; omega) | omega)))))))).rd ((hod2.below (by (repeat (first | exact Below.refl _ _ | (refine Below.setCell ?_ (by first | (simp; done) | (simp; omega) | omega) _) | (refine Below.alloc ?_ (by first | (simp; done) | (simp; omega) | omega) _) | (refine below_drewN ?_ _) | (refine Below.drew ?_)))))).rd (by rw [timesT_len]; omega) (by rw [timesT_len]; omega) (by rw [timesT_len, numbT_len]) hm (by omega) HT.out.2 (numbT_ok (by omega) _ _).2).mono ?_
      rintro e wd3 ⟨vp3, rfl, hod3, hbd3⟩
      rw [timesT_len] at hod3; obtain ⟨op, cp, rfl⟩ := hod3.shapeN (n := n) (tri_len _ _)
      have hd3 : Below wr.heap.size wr wd3 := (by (repeat (first | exact Below.refl _ _ | (refine Below.setCell ?_ (by first | (simp; done) | (simp; omega) | omega) _) | (refine Below.alloc ?_ (by first | (simp; done) | (simp; omega) | omega) _) | (refine below_drewN ?_ _) | (refine Below.drew ?_) | (refine Below.trans ?_ (Below.mono hbd1 (by first | (simp; done) | (simp; omega) | omega))) | (refine Below.trans ?_ (Below.mono hbd2 (by first | (simp; done) | (simp; omega) | omega))) | (refine Below.trans ?_ (Below.mono hbd3 (by first | (simp; done) | (simp; omega) | omega))))))
      have hsd3 := hd3.size
      obtain ⟨⟨q3_OO_0, q3_OO_1⟩, qf3_OO⟩ := OO.below hd3 (Nat.le_refl _)
      obtain ⟨q3_Xr_0, q3_Xr_1⟩ := Xr.below hd3 (Nat.le_refl _)
      obtain ⟨q3_Yr_0, q3_Yr_1⟩ := Yr.below hd3 (Nat.le_refl _)
      have q3_cx := (((hvr).below hd3 (Nat.le_refl _))).cell0 (some_at0 (show k < xs.length by omega))
      go_wp2_with fail
      clear hHeld
      have hHeld : (fun w' : World => w'.cell? ⟨w1.heap.size , 0, none⟩ = some (.int .i64 m) ∧ w'.cell? ⟨w1.heap.size , 1, none⟩ = some (.slice ov n cv) ∧ w'.cell? ⟨w.heap.size, 0, none⟩ = some (.int .i64 m') ∧ w'.cell? ⟨w.heap.size, 1, none⟩ = some (.slice (some ⟨bx, fx, none⟩) xs.length c) ∧ w'.cell? ⟨w.heap.size + 1, 0, none⟩ = some (.int .i64 m) ∧ w'.cell? ⟨w.heap.size + 1, 1, none⟩ = some (.slice o' n c') ∧ w'.cell? ⟨bx, fx + k, none⟩ = some (.int .i64 (at0 xs k))) wd3 := by go_keep
      refine hK.out _ _ (fun _ => hHeld) ?_
      clear hK K
      try simp only [List.getElem_toArray, List.getElem_cons_zero, List.getElem_cons_succ, Act.put, List.setIfInBounds_toArray, List.set_cons_zero, List.set_cons_succ]
      refine wpAnyS_oneL (i := 11) rfl (by kernel_rfl) (fun K hK => ?_)
      go_simp
      (try go_wp2_with fail)
      refine hK.out _ _ (fun h => absurd h (by decide)) ?_
      clear hK K
      try simp only [List.getElem_toArray, List.getElem_cons_zero, List.getElem_cons_succ, Act.put, List.setIfInBounds_toArray, List.set_cons_zero, List.set_cons_succ]
      refine wpAnyS_done (by kernel_rfl) ?_ _
      have hOn := OO.below hd3 (Nat.le_refl _)
      go_wp2_with fail
      have hgZ : wr.grownBy ((wd3.setCell ⟨w1.heap.size , 0, none⟩ (.int .i64 m)).setCell ⟨w1.heap.size , 1, none⟩ (.slice op n cp)) (some w1.heap.size ) := (gr_put (gr_put (show wr.grownBy wd3 (some w1.heap.size ) from World.grownBy.mk hd3.os hd3.tape hd3.output hd3.size (fun k hk _ => hd3.block k hk)) _ _) _ _)
      have hOZ : RB2 ((wd3.setCell ⟨w1.heap.size , 0, none⟩ (.int .i64 m)).setCell ⟨w1.heap.size , 1, none⟩ (.slice op n cp)) w1.heap.size  (.int .i64 m) (.slice op n cp) := RB2.put hOn _ _
      have hRZ : OwS ((wd3.setCell ⟨w1.heap.size , 0, none⟩ (.int .i64 m)).setCell ⟨w1.heap.size , 1, none⟩ (.slice op n cp)) wr.heap.size (.slice op n cp) (tri n (fun i j => (atT (timesT m n l yss) i j + atT (numbT m (at0 xs k) n) i j) % m)) := ((hod3.low (by first | (simp; done) | (simp; omega) | omega) _).low (by first | (simp; done) | (simp; omega) | omega) _).mono (by first | (simp; done) | (simp; omega) | omega)
      rw [addcT_plus (by omega) HT.out, ← HS.out] at hRZ
      exact ⟨⟨k, op, cp, by omega, by go_num, hRZ.mono (by omega), hOZ, hg.trans hgZ⟩, by simp [intOf]⟩
    · obtain rfl : j = 0 := by omega
      rw [List.drop_zero] at hO
      obtain ⟨⟨z0, z1⟩, zf⟩ := id OO
      obtain ⟨⟨r0, r1⟩, rf⟩ := R3.grown hg (by simp; omega)
      go_wp2
      refine bodyPost_ret (v := .agg #[.int .i64 m, .slice ov n cv]) (by simp [results, Tryz.results106, go_sem, r0, r1]) rfl ⟨_, rfl, ?_, ?_⟩
      · exact ((hO.low (by first | (simp; done) | (simp; omega) | omega) _).low (by first | (simp; done) | (simp; omega) | omega) _).mono (by first | (simp; done) | (simp; omega) | omega)
      · (repeat (first | exact Below.refl _ _ | (refine Below.setCell ?_ (by first | (simp; done) | (simp; omega) | omega) _) | (refine Below.alloc ?_ (by first | (simp; done) | (simp; omega) | omega) _) | (refine below_drewN ?_ _) | (refine Below.drew ?_) | (refine Below.trans ?_ (Below.mono Br (by first | (simp; done) | (simp; omega) | omega)))))

end Go.Proofs.YtoednonijmkbjaaGreat
