/- Lemmas. -/
import Derived.Test.YtfpphfjlpgefaaaQAG3
import Derived.Test.YtfpphfjlpgefaaaQAM4
import Derived.Test.YtfpphfjlpgefaaaQAM8
import Derived.Test.YtfpphfjlpgefaaaQAM7
import Derived.Test.YtfpphfjlpgefaaaQAG2
import Derived.Deep.RegionHeld3
import Derived.Test.YtfpphfjlpgefaaaQAG1
set_option linter.unusedSimpArgs false
set_option linter.unusedVariables false
namespace Go.Proofs.Ytfpphfjlpgefaaa
open Go.RowKit

structure Cel1 (w : World) (b f : Nat) (x : Value) : Prop where
  get : w.cell? ⟨b, f, none⟩ = some x
theorem Cel1.below {B : Nat} {w w' : World} {b f : Nat} {x : Value} (h : Cel1 w b f x) (hb : Below B w w') (hB : w.heap.size ≤ B) : Cel1 w' b f x := ⟨keep_cell hb hB h.get⟩

end Go.Proofs.Ytfpphfjlpgefaaa
set_option linter.unusedSimpArgs false
set_option linter.unusedVariables false
namespace Go.Proofs.Ytfpphfjlpgefaaa
open Go.RowKit

set_option maxHeartbeats 2000000 in
set_option maxRecDepth 100000 in
theorem ofS_c (m m' : Int) (n : Nat) (v u : Value) (xs : List Int) (yss : List (List Int)) (w : World) (hv : RdI w v xs) (hu : RdT w u yss) (hxl : 1 ≤ xs.length) (hxn : xs.length ≤ 1048576) (h1 : 1 ≤ n) (hn : n ≤ 1000) (hm : 2 ≤ m) (hm' : m ≤ 3000000000)
    (hx : ∀ x ∈ xs, 0 ≤ x ∧ x < m) (hy : PlaT m n yss) :
    Calls Try.prog 48 #[.agg #[.int .i64 m', v], .agg #[.int .i64 m, u]] w fun e w' => PVEnd w w' m (hornT m n yss xs) e := by
  obtain ⟨o, c, rfl, hmx, -⟩ := id hv
  obtain ⟨o', c', rfl, hmy, -⟩ := id hu
  have hml := hmx.1
  rw [hy.1] at hmy hu ⊢
  have hmt := hmy.1
  unfold maxLen at hmx hmy
  have HY := Lib.hid hy
  clear hy
  go_enter Try.func48, Try.ntmps48
  go_wp2_with fail
  (have X0 := ((RB2.mk1 w  (.int .i64 m') (.slice o xs.length c) 41).1).below (w' := (((w.alloc (.cells #[.int .i64 m', .slice o xs.length c] 41)).alloc (.cells #[.int .i64 m, .slice o' n c'] 29)).alloc (.cells #[.int .i64 0, .slice none 0 0] 29))) (by (repeat (first | exact bR _ _ | (refine bS ?_ _) | (refine bA ?_ _) | (refine bN ?_ _) | (refine bD ?_)))) (Nat.le_refl _); have Y0 := ((RB2.mk2 w (.cells #[.int .i64 m', .slice o xs.length c] 41) (.int .i64 m) (.slice o' n c') 29).1).below (w' := (((w.alloc (.cells #[.int .i64 m', .slice o xs.length c] 41)).alloc (.cells #[.int .i64 m, .slice o' n c'] 29)).alloc (.cells #[.int .i64 0, .slice none 0 0] 29))) (by (repeat (first | exact bR _ _ | (refine bS ?_ _) | (refine bA ?_ _) | (refine bN ?_ _) | (refine bD ?_)))) (Nat.le_refl _); have R0 := ((RB2.mk3 w (.cells #[.int .i64 m', .slice o xs.length c] 41) (.cells #[.int .i64 m, .slice o' n c'] 29) (.int .i64 0) (.slice none 0 0) 29)).below (w' := (((w.alloc (.cells #[.int .i64 m', .slice o xs.length c] 41)).alloc (.cells #[.int .i64 m, .slice o' n c'] 29)).alloc (.cells #[.int .i64 0, .slice none 0 0] 29))) (by (repeat (first | exact bR _ _ | (refine bS ?_ _) | (refine bA ?_ _) | (refine bN ?_ _) | (refine bD ?_)))) (Nat.le_refl _); have B0 : Below w.heap.size w (((w.alloc (.cells #[.int .i64 m', .slice o xs.length c] 41)).alloc (.cells #[.int .i64 m, .slice o' n c'] 29)).alloc (.cells #[.int .i64 0, .slice none 0 0] 29)) := (by (repeat (first | exact bR _ _ | (refine bS ?_ _) | (refine bA ?_ _) | (refine bN ?_ _) | (refine bD ?_)))); have hv0 := hv.below (w' := (((w.alloc (.cells #[.int .i64 m', .slice o xs.length c] 41)).alloc (.cells #[.int .i64 m, .slice o' n c'] 29)).alloc (.cells #[.int .i64 0, .slice none 0 0] 29))) (by (repeat (first | exact bR _ _ | (refine bS ?_ _) | (refine bA ?_ _) | (refine bN ?_ _) | (refine bD ?_)))) (Nat.le_refl _); have hu0 := hu.below (w' := (((w.alloc (.cells #[.int .i64 m', .slice o xs.length c] 41)).alloc (.cells #[.int .i64 m, .slice o' n c'] 29)).alloc (.cells #[.int .i64 0, .slice none 0 0] 29))) (by (repeat (first | exact bR _ _ | (refine bS ?_ _) | (refine bA ?_ _) | (refine bN ?_ _) | (refine bD ?_)))) (Nat.le_refl _); generalize ((w.alloc (.cells #[.int .i64 m', .slice o xs.length c] 41)).alloc (.cells #[.int .i64 m, .slice o' n c'] 29)).alloc (.cells #[.int .i64 0, .slice none 0 0] 29) = w0 at X0 Y0 R0 B0 hv0 hu0 ⊢)
  obtain ⟨x0, x1⟩ := id Y0
  have hzl : w.heap.size + 2 < w0.heap.size := R0.1.lt
  go_wp2_with fail
  refine (number_c m 0 o' n c' _ h1 hn hm (by omega) (by omega) (by omega)).mono ?_
  rintro e w1 ⟨vz, rfl, how, hb⟩
  obtain ⟨oz, cz, rfl⟩ := how.shapeN (n := n) (numbT_len _ _ _)
  rw [numbT_0] at how
  (have X1 := X0.below hb (Nat.le_refl _); have Y1 := Y0.below hb (Nat.le_refl _); have R1 := R0.below hb (Nat.le_refl _); have hv1 := hv0.below hb (Nat.le_refl _); have hu1 := hu0.below hb (Nat.le_refl _); have B1 := B0.trans (hb.mono B0.size))
  clear x0 x1
  obtain ⟨x0, x1⟩ := id X1
  have hb1 := hb.size
  have lX := X1.lt
  have lR := R1.1.lt
  go_wp2_with fail
  clear x0 x1
  (have hb : Below w1.heap.size w1 (w1.alloc (.cells #[.int .i64 m, .slice oz n cz] 29)) := (by (repeat (first | exact bR _ _ | (refine bS ?_ _) | (refine bA ?_ _) | (refine bN ?_ _) | (refine bD ?_)))); have X2 := X1.below hb (Nat.le_refl _); have Y2 := Y1.below hb (Nat.le_refl _); have R2 := R1.below hb (Nat.le_refl _); have hv2 := hv1.below hb (Nat.le_refl _); have hu2 := hu1.below hb (Nat.le_refl _); have how := how.alloc (.cells #[.int .i64 m, .slice oz n cz] 29); have B2 := B1.trans (hb.mono B1.size); have O := RB2.mk1 w1 (.int .i64 m) (.slice oz n cz) 29; have hl_w2 := hb.size; clear hb; generalize w1.alloc (.cells #[.int .i64 m, .slice oz n cz] 29) = w2 at O B2 hl_w2 X2 Y2 R2 hv2 hu2 how ⊢)
  refine (degreeS_c m' o xs.length c _ hml).mono ?_
  rintro e w3 ⟨rfl, hb⟩
  (have X3 := X2.below hb (Nat.le_refl _); have Y3 := Y2.below hb (Nat.le_refl _); have R3 := R2.below hb (Nat.le_refl _); have hv3 := hv2.below hb (Nat.le_refl _); have hu3 := hu2.below hb (Nat.le_refl _); have B3 := B2.trans (hb.mono B2.size))
  have O3 := O.below hb (Nat.le_refl _)
  have how3 := how.below hb
  have hb3 := hb.size
  clear hb how O lX lR
  have lX := X3.lt
  have lR := R3.1.lt
  have B3s := B3.size
  obtain ⟨bx, fx, rfl, hcx⟩ := hv.cells hxl
  have lx := cell_lt (hcx 0 _ (some_at0 (by omega)))
  clear hcx
  go_wp2_with fail
  go_loopw [6] (fun i wr => ∃ (j : Nat) (ov : Option Addr) (cv : Nat), j ≤ xs.length ∧ i = .int .i64 ((j : Int) - 1) ∧ OwS wr w0.heap.size (.slice ov n cv) (hornT m n yss (xs.drop j)) ∧ RB2 wr w1.heap.size (.int .i64 m) (.slice ov n cv) ∧ w3.grownBy wr (some w1.heap.size)) (fun i _ => ((intOf i) + 1).toNat)
  case atStart => exact ⟨xs.length, oz, cz, Nat.le_refl _, rfl, by rw [List.drop_length]; exact how3.mono (by omega), O3, World.grownBy.refl _ _⟩
  case round =>
    obtain ⟨j, ov, cv, hj, rfl, hO, OO, hg⟩ := hrel
    have Br := below_gr B3 hg (by omega) B3s
    have Xr := X3.grown hg (by simp; omega)
    have Yr := Y3.grown hg (by simp; omega)
    have hvr := hv.below Br (Nat.le_refl _)
    have hur := hu.below Br (Nat.le_refl _)
    have hgs := hg.size
    by_cases hlt : 0 < j
    · obtain ⟨k, rfl⟩ : ∃ k, j = k + 1 := ⟨j - 1, by omega⟩
      have ek : (((k + 1 : Nat) : Int)) - 1 = (k : Int) := by omega
      rw [ek]
      clear ek
      have HS := Lib.hid (hornT_drop (m := m) (n := n) (t := yss) (some_at0 (show k < xs.length by omega)))
      have HLl := Lib.hid (hornT_ok (m := m) (show 0 < m by omega) n yss (xs.drop (k + 1)))
      generalize hornT m n yss (xs.drop (k + 1)) = l at hO HS HLl
      have HT := Lib.hid (timesT_ok (m := m) (show 0 < m by omega) n l yss)
      have hkx := at0_range (by omega) hx k
      have i0 : (0 : Int) ≤ (k : Int) := by omega
      have i1 : (k : Int) < (xs.length : Int) := by omega
      go_wp2_with fail
      have hd0 : Below wr.heap.size wr wr.drew := (Below.refl _ _).drew
      have hsd0 := hd0.size
      have hlb_OO := OO.1.lt
      obtain ⟨⟨q0_OO_0, q0_OO_1⟩, qf0_OO⟩ := OO.below (Below.refl wr.heap.size wr) (Nat.le_refl _)
      obtain ⟨q0_Xr_0, q0_Xr_1⟩ := Xr.below (Below.refl wr.heap.size wr) (Nat.le_refl _)
      obtain ⟨q0_Yr_0, q0_Yr_1⟩ := Yr.below (Below.refl wr.heap.size wr) (Nat.le_refl _)
      have q0_cx := (((hvr).below (Below.refl wr.heap.size wr) (Nat.le_refl _))).cell0 (some_at0 (show k < xs.length by omega))
      refine wp_region_S (S := fun w' => w'.cell? ⟨w1.heap.size , 0, none⟩ = some (.int .i64 m) ∧ w'.cell? ⟨w1.heap.size , 1, none⟩ = some (.slice ov n cv) ∧ w'.cell? ⟨w.heap.size, 0, none⟩ = some (.int .i64 m') ∧ w'.cell? ⟨w.heap.size, 1, none⟩ = some (.slice (some ⟨bx, fx, none⟩) xs.length c) ∧ w'.cell? ⟨w.heap.size + 1, 0, none⟩ = some (.int .i64 m) ∧ w'.cell? ⟨w.heap.size + 1, 1, none⟩ = some (.slice o' n c') ∧ w'.cell? ⟨bx, fx + k, none⟩ = some (.int .i64 (at0 xs k))) 11 (by kernel_rfl) ?_
      have hHeld : (fun w' : World => w'.cell? ⟨w1.heap.size , 0, none⟩ = some (.int .i64 m) ∧ w'.cell? ⟨w1.heap.size , 1, none⟩ = some (.slice ov n cv) ∧ w'.cell? ⟨w.heap.size, 0, none⟩ = some (.int .i64 m') ∧ w'.cell? ⟨w.heap.size, 1, none⟩ = some (.slice (some ⟨bx, fx, none⟩) xs.length c) ∧ w'.cell? ⟨w.heap.size + 1, 0, none⟩ = some (.int .i64 m) ∧ w'.cell? ⟨w.heap.size + 1, 1, none⟩ = some (.slice o' n c') ∧ w'.cell? ⟨bx, fx + k, none⟩ = some (.int .i64 (at0 xs k))) wr.drew := by go_keep
      refine' wpAnyS_takeL (i := 0) (v := _) rfl (by kernel_rfl) (by kernel_rfl) (by kernel_rfl) (by kernel_rfl) (fun _ _ _ h => h) (Or.inl ⟨by rfl, ?yT1⟩) hHeld ?rT1
      case yT1 => (intro w' hSw; (try dsimp only at hSw); go_simp; try with_reducible rfl)
      try simp only [List.getElem_toArray, List.getElem_cons_zero, List.getElem_cons_succ, Act.put, List.setIfInBounds_toArray, List.set_cons_zero, List.set_cons_succ]
      refine' wpAnyS_takeL (i := 1) (v := _) rfl (by kernel_rfl) (by kernel_rfl) (by kernel_rfl) (by kernel_rfl) (fun _ _ _ h => h) (Or.inl ⟨by rfl, ?yT2⟩) hHeld ?rT2
      case yT2 => (intro w' hSw; (try dsimp only at hSw); go_simp; try with_reducible rfl)
      try simp only [List.getElem_toArray, List.getElem_cons_zero, List.getElem_cons_succ, Act.put, List.setIfInBounds_toArray, List.set_cons_zero, List.set_cons_succ]
      refine' wpAnyS_takeL (i := 3) (v := _) rfl (by kernel_rfl) (by kernel_rfl) (by kernel_rfl) (by kernel_rfl) (fun _ _ _ h => h) (Or.inl ⟨by rfl, ?yT3⟩) hHeld ?rT3
      case yT3 => (intro w' hSw; (try dsimp only at hSw); go_simp; try with_reducible rfl)
      try simp only [List.getElem_toArray, List.getElem_cons_zero, List.getElem_cons_succ, Act.put, List.setIfInBounds_toArray, List.set_cons_zero, List.set_cons_succ]
      refine' wpAnyS_takeL (i := 4) (v := _) rfl (by kernel_rfl) (by kernel_rfl) (by kernel_rfl) (by kernel_rfl) (fun _ _ _ h => h) (Or.inl ⟨by rfl, ?yT4⟩) hHeld ?rT4
      case yT4 => (intro w' hSw; (try dsimp only at hSw); go_simp; try with_reducible rfl)
      try simp only [List.getElem_toArray, List.getElem_cons_zero, List.getElem_cons_succ, Act.put, List.setIfInBounds_toArray, List.set_cons_zero, List.set_cons_succ]
      refine' wpAnyS_takeL (i := 5) (v := _) rfl (by kernel_rfl) (by kernel_rfl) (by kernel_rfl) (by kernel_rfl) (fun _ _ _ h => h) (Or.inl ⟨by rfl, ?yT5⟩) hHeld ?rT5
      case yT5 => (intro w' hSw; (try dsimp only at hSw); go_simp; try with_reducible rfl)
      try simp only [List.getElem_toArray, List.getElem_cons_zero, List.getElem_cons_succ, Act.put, List.setIfInBounds_toArray, List.set_cons_zero, List.set_cons_succ]
      refine' wpAnyS_takeL (i := 6) (v := _) rfl (by kernel_rfl) (by kernel_rfl) (by kernel_rfl) (by kernel_rfl) (fun _ _ _ h => h) (Or.inl ⟨by rfl, ?yT6⟩) hHeld ?rT6
      case yT6 => (intro w' hSw; (try dsimp only at hSw); go_simp; try with_reducible rfl)
      try simp only [List.getElem_toArray, List.getElem_cons_zero, List.getElem_cons_succ, Act.put, List.setIfInBounds_toArray, List.set_cons_zero, List.set_cons_succ]
      refine' wpAnyS_takeL (i := 7) (v := _) rfl (by kernel_rfl) (by kernel_rfl) (by kernel_rfl) (by kernel_rfl) (fun _ _ _ h => h) (Or.inl ⟨by rfl, ?yT7⟩) hHeld ?rT7
      case yT7 => (intro w' hSw; (try dsimp only at hSw); go_simp; try with_reducible rfl)
      try simp only [List.getElem_toArray, List.getElem_cons_zero, List.getElem_cons_succ, Act.put, List.setIfInBounds_toArray, List.set_cons_zero, List.set_cons_succ]
      refine' wpAnyS_takeL (i := 8) (v := _) rfl (by kernel_rfl) (by kernel_rfl) (by kernel_rfl) (by kernel_rfl) (fun _ _ _ h => h) (Or.inl ⟨by rfl, ?yT8⟩) hHeld ?rT8
      case yT8 => (intro w' hSw; (try dsimp only at hSw); go_simp; try with_reducible rfl)
      try simp only [List.getElem_toArray, List.getElem_cons_zero, List.getElem_cons_succ, Act.put, List.setIfInBounds_toArray, List.set_cons_zero, List.set_cons_succ]
      refine wpAnyS_oneL (i := 2) rfl (by kernel_rfl) (fun K hK => ?_)
      go_simp
      go_at_call 61
      refine (timesP_c m m n _ _ l yss _ ((hO.rd).below (by (repeat (first | exact bR _ _ | (refine bS ?_ _) | (refine bA ?_ _) | (refine bN ?_ _) | (refine bD ?_)))) (Nat.le_refl _)) ((hur).below (by (repeat (first | exact bR _ _ | (refine bS ?_ _) | (refine bA ?_ _) | (refine bN ?_ _) | (refine bD ?_)))) (Nat.le_refl _)) h1 hn hm hm' HLl.out HY.out).mono ?_
      rintro e wd1 ⟨vt1, rfl, hod1, hbd1⟩
      obtain ⟨ot, ct, rfl⟩ := hod1.shapeN (n := n) (timesT_len _ _ _ _)
      have hd1 : Below wr.heap.size wr wd1 := (by (repeat (first | exact bR _ _ | (refine bS ?_ _) | (refine bA ?_ _) | (refine bN ?_ _) | (refine bD ?_) | (refine bT ?_ hbd1))))
      have hsd1 := hd1.size
      obtain ⟨⟨q1_OO_0, q1_OO_1⟩, qf1_OO⟩ := OO.below hd1 (Nat.le_refl _)
      obtain ⟨q1_Xr_0, q1_Xr_1⟩ := Xr.below hd1 (Nat.le_refl _)
      obtain ⟨q1_Yr_0, q1_Yr_1⟩ := Yr.below hd1 (Nat.le_refl _)
      have q1_cx := (((hvr).below hd1 (Nat.le_refl _))).cell0 (some_at0 (show k < xs.length by omega))
      go_wp2_with fail
      clear hHeld
      have hHeld : (fun w' : World => w'.cell? ⟨w1.heap.size , 0, none⟩ = some (.int .i64 m) ∧ w'.cell? ⟨w1.heap.size , 1, none⟩ = some (.slice ov n cv) ∧ w'.cell? ⟨w.heap.size, 0, none⟩ = some (.int .i64 m') ∧ w'.cell? ⟨w.heap.size, 1, none⟩ = some (.slice (some ⟨bx, fx, none⟩) xs.length c) ∧ w'.cell? ⟨w.heap.size + 1, 0, none⟩ = some (.int .i64 m) ∧ w'.cell? ⟨w.heap.size + 1, 1, none⟩ = some (.slice o' n c') ∧ w'.cell? ⟨bx, fx + k, none⟩ = some (.int .i64 (at0 xs k))) wd1 := by go_keep
      refine hK.out _ _ (fun _ => hHeld) ?_
      clear hK K
      try simp only [List.getElem_toArray, List.getElem_cons_zero, List.getElem_cons_succ, Act.put, List.setIfInBounds_toArray, List.set_cons_zero, List.set_cons_succ]
      refine wpAnyS_oneL (i := 9) rfl (by kernel_rfl) (fun K hK => ?_)
      go_simp
      go_at_call 59
      refine (number_c m (at0 xs k) o' n c' _ h1 hn hm (by omega) (by omega) (by omega)).mono ?_
      rintro e wd2 ⟨vc2, rfl, hod2, hbd2⟩
      obtain ⟨oc, cc, rfl⟩ := hod2.shapeN (n := n) (numbT_len _ _ _)
      have hd2 : Below wr.heap.size wr wd2 := (by (repeat (first | exact bR _ _ | (refine bS ?_ _) | (refine bA ?_ _) | (refine bN ?_ _) | (refine bD ?_) | (refine bT ?_ hbd1) | (refine bT ?_ hbd2))))
      have hsd2 := hd2.size
      obtain ⟨⟨q2_OO_0, q2_OO_1⟩, qf2_OO⟩ := OO.below hd2 (Nat.le_refl _)
      obtain ⟨q2_Xr_0, q2_Xr_1⟩ := Xr.below hd2 (Nat.le_refl _)
      obtain ⟨q2_Yr_0, q2_Yr_1⟩ := Yr.below hd2 (Nat.le_refl _)
      have q2_cx := (((hvr).below hd2 (Nat.le_refl _))).cell0 (some_at0 (show k < xs.length by omega))
      go_wp2_with fail
      clear hHeld
      have hHeld : (fun w' : World => w'.cell? ⟨w1.heap.size , 0, none⟩ = some (.int .i64 m) ∧ w'.cell? ⟨w1.heap.size , 1, none⟩ = some (.slice ov n cv) ∧ w'.cell? ⟨w.heap.size, 0, none⟩ = some (.int .i64 m') ∧ w'.cell? ⟨w.heap.size, 1, none⟩ = some (.slice (some ⟨bx, fx, none⟩) xs.length c) ∧ w'.cell? ⟨w.heap.size + 1, 0, none⟩ = some (.int .i64 m) ∧ w'.cell? ⟨w.heap.size + 1, 1, none⟩ = some (.slice o' n c') ∧ w'.cell? ⟨bx, fx + k, none⟩ = some (.int .i64 (at0 xs k))) wd2 := by go_keep
      refine hK.out _ _ (fun _ => hHeld) ?_
      clear hK K
      try simp only [List.getElem_toArray, List.getElem_cons_zero, List.getElem_cons_succ, Act.put, List.setIfInBounds_toArray, List.set_cons_zero, List.set_cons_succ]
      refine wpAnyS_oneL (i := 10) rfl (by kernel_rfl) (fun K hK => ?_)
      go_simp
      go_at_call 62
      refine (plusP_c m m _ _ (timesT m n l yss) (numbT m (at0 xs k) n) _ ((hod1.below (by (repeat (first | exact bR _ _ | (refine bS ?_ _) | (refine bA ?_ _) | (refine bN ?_ _) | (refine bD ?_) | (refine bT ?_ hbd2)))))).rd ((hod2.below (by (repeat (first | exact bR _ _ | (refine bS ?_ _) | (refine bA ?_ _) | (refine bN ?_ _) | (refine bD ?_)))))).rd (by rw [timesT_len]; omega) (by rw [timesT_len]; omega) (by rw [timesT_len, numbT_len]) hm (by omega) HT.out.2 (numbT_ok (by omega) _ _).2).mono ?_
      rintro e wd3 ⟨vp3, rfl, hod3, hbd3⟩
      rw [timesT_len] at hod3; obtain ⟨op, cp, rfl⟩ := hod3.shapeN (n := n) (tri_len _ _)
      have hd3 : Below wr.heap.size wr wd3 := (by (repeat (first | exact bR _ _ | (refine bS ?_ _) | (refine bA ?_ _) | (refine bN ?_ _) | (refine bD ?_) | (refine bT ?_ hbd1) | (refine bT ?_ hbd2) | (refine bT ?_ hbd3))))
      have hsd3 := hd3.size
      obtain ⟨⟨q3_OO_0, q3_OO_1⟩, qf3_OO⟩ := OO.below hd3 (Nat.le_refl _)
      obtain ⟨q3_Xr_0, q3_Xr_1⟩ := Xr.below hd3 (Nat.le_refl _)
      obtain ⟨q3_Yr_0, q3_Yr_1⟩ := Yr.below hd3 (Nat.le_refl _)
      have q3_cx := (((hvr).below hd3 (Nat.le_refl _))).cell0 (some_at0 (show k < xs.length by omega))
      go_wp2_with fail
      clear hHeld
      have hHeld : (fun w' : World => w'.cell? ⟨w1.heap.size , 0, none⟩ = some (.int .i64 m) ∧ w'.cell? ⟨w1.heap.size , 1, none⟩ = some (.slice ov n cv) ∧ w'.cell? ⟨w.heap.size, 0, none⟩ = some (.int .i64 m') ∧ w'.cell? ⟨w.heap.size, 1, none⟩ = some (.slice (some ⟨bx, fx, none⟩) xs.length c) ∧ w'.cell? ⟨w.heap.size + 1, 0, none⟩ = some (.int .i64 m) ∧ w'.cell? ⟨w.heap.size + 1, 1, none⟩ = some (.slice o' n c') ∧ w'.cell? ⟨bx, fx + k, none⟩ = some (.int .i64 (at0 xs k))) wd3 := by go_keep
      refine hK.out _ _ (fun _ => hHeld) ?_
      clear hK K
      try simp only [List.getElem_toArray, List.getElem_cons_zero, List.getElem_cons_succ, Act.put, List.setIfInBounds_toArray, List.set_cons_zero, List.set_cons_succ]
      refine wpAnyS_oneL (i := 11) rfl (by kernel_rfl) (fun K hK => ?_)
      go_simp
      (try go_wp2_with fail)
      refine hK.out _ _ (fun h => absurd h (by decide)) ?_
      clear hK K
      try simp only [List.getElem_toArray, List.getElem_cons_zero, List.getElem_cons_succ, Act.put, List.setIfInBounds_toArray, List.set_cons_zero, List.set_cons_succ]
      refine wpAnyS_done (by kernel_rfl) ?_ _
      have hOn := OO.below hd3 (Nat.le_refl _)
      go_wp2_with fail
      have hgZ : wr.grownBy ((wd3.setCell ⟨w1.heap.size , 0, none⟩ (.int .i64 m)).setCell ⟨w1.heap.size , 1, none⟩ (.slice op n cp)) (some w1.heap.size ) := (gr_put (gr_put (show wr.grownBy wd3 (some w1.heap.size ) from World.grownBy.mk hd3.os hd3.tape hd3.output hd3.size (fun k hk _ => hd3.block k hk)) _ _) _ _)
      have hOZ : RB2 ((wd3.setCell ⟨w1.heap.size , 0, none⟩ (.int .i64 m)).setCell ⟨w1.heap.size , 1, none⟩ (.slice op n cp)) w1.heap.size  (.int .i64 m) (.slice op n cp) := RB2.put hOn _ _
      have hRZ : OwS ((wd3.setCell ⟨w1.heap.size , 0, none⟩ (.int .i64 m)).setCell ⟨w1.heap.size , 1, none⟩ (.slice op n cp)) wr.heap.size (.slice op n cp) (tri n (fun i j => (atT (timesT m n l yss) i j + atT (numbT m (at0 xs k) n) i j) % m)) := ((hod3.low (by first | (simp; done) | (simp; omega) | omega) _).low (by first | (simp; done) | (simp; omega) | omega) _).mono (by first | (simp; done) | (simp; omega) | omega)
      rw [addcT_plus (by omega) HT.out, ← HS.out] at hRZ
      exact ⟨⟨k, op, cp, by omega, by go_num, hRZ.mono (by omega), hOZ, hg.trans hgZ⟩, by simp [intOf]⟩
    · obtain rfl : j = 0 := by omega
      rw [List.drop_zero] at hO
      obtain ⟨⟨z0, z1⟩, zf⟩ := id OO
      obtain ⟨⟨r0, r1⟩, rf⟩ := R3.grown hg (by simp; omega)
      go_wp2
      refine bodyPost_ret (v := .agg #[.int .i64 m, .slice ov n cv]) (by simp [results, Try.results48, go_sem, r0, r1]) rfl ⟨_, rfl, ?_, ?_⟩
      · exact ((hO.low (by first | (simp; done) | (simp; omega) | omega) _).low (by first | (simp; done) | (simp; omega) | omega) _).mono (by first | (simp; done) | (simp; omega) | omega)
      · (repeat (first | exact bR _ _ | (refine bS ?_ _) | (refine bA ?_ _) | (refine bN ?_ _) | (refine bD ?_) | (refine bT ?_ Br)))

end Go.Proofs.Ytfpphfjlpgefaaa
set_option linter.unusedSimpArgs false
set_option linter.unusedVariables false
namespace Go.Proofs.Ytfpphfjlpgefaaa
open Go.RowKit

set_option maxHeartbeats 1000000 in
set_option maxRecDepth 100000 in
theorem powersS_c (m : Int) (n : Nat) (v : Value) (xs : List Int) (w : World) (hv : RdI w v xs) (hl : xs.length = n) (h1 : 1 ≤ n) (hn : n ≤ 1000) (hm : 2 ≤ m) (hm' : m ≤ 3000000000)
    (hx : ∀ x ∈ xs, 0 ≤ x ∧ x < m) :
    Calls Try.prog 66 #[.agg #[.int .i64 m, v]] w fun e w' => ∃ v', e = .returned v' ∧ OwLS w' w.heap.size v' m (powsL m n xs n) ∧ Below w.heap.size w w' := by
  subst hl
  obtain ⟨o, c, rfl, hmx, -⟩ := id hv
  have hml := hmx.1
  unfold maxLen at hmx
  go_enter Try.func66, Try.ntmps66
  go_wp2_with fail
  (have X0 := ((RB2.mk1 w  (.int .i64 m) (.slice o xs.length c) 41).1).below (w' := (w.alloc (.cells #[.int .i64 m, .slice o xs.length c] 41))) (by (repeat (first | exact bR _ _ | (refine bS ?_ _) | (refine bA ?_ _) | (refine bN ?_ _) | (refine bD ?_)))) (Nat.le_refl _); have B0 : Below w.heap.size w (w.alloc (.cells #[.int .i64 m, .slice o xs.length c] 41)) := (by (repeat (first | exact bR _ _ | (refine bS ?_ _) | (refine bA ?_ _) | (refine bN ?_ _) | (refine bD ?_)))); have hv0 := hv.below (w' := (w.alloc (.cells #[.int .i64 m, .slice o xs.length c] 41))) (by (repeat (first | exact bR _ _ | (refine bS ?_ _) | (refine bA ?_ _) | (refine bN ?_ _) | (refine bD ?_)))) (Nat.le_refl _); generalize w.alloc (.cells #[.int .i64 m, .slice o xs.length c] 41) = w0 at X0 B0 hv0 ⊢)
  obtain ⟨x0, x1⟩ := id X0
  go_wp2_with fail
  refine (constant_c m 1 _ xs _ hv0 h1 (by omega) hm (by omega) (by omega) (by omega)).mono ?_
  rintro e w1 ⟨vz, rfl, how, hb⟩
  obtain ⟨oz, cz, rfl⟩ := how.shapeN (n := xs.length) (constL_len _ _ _)
  (have X1 := X0.below hb (Nat.le_refl _); have hv1 := hv0.below hb (Nat.le_refl _); have B1 := B0.trans (hb.mono B0.size))
  have hb1 := hb.size
  have hB0 := B0.size
  have OL := OwLS.lit1 w1 m _ _ (how.rds hb1) hb1
  rw [show [constL m 1 xs.length] = powsL m xs.length xs 1 from rfl] at OL
  clear x0 x1 hb
  obtain ⟨x0, x1⟩ := id X1
  have lX := X1.lt
  go_wp2_with fail
  have hb : Below w1.heap.size w1 (w1.alloc (.cells #[.int .i64 m, .slice oz xs.length cz] 41)) := (by (repeat (first | exact bR _ _ | (refine bS ?_ _) | (refine bA ?_ _) | (refine bN ?_ _) | (refine bD ?_))))
  (have X2 := X1.below hb (Nat.le_refl _); have hv2 := hv1.below hb (Nat.le_refl _); have B2 := B1.trans (hb.mono B1.size))
  clear x0 x1 X1 hv1 hb lX
  generalize w1.alloc (.cells #[.int .i64 m, .slice oz xs.length cz] 41) = w2 at X2 hv2 B2 OL ⊢
  refine (degreeS_c m o xs.length c _ hml).mono ?_
  rintro e w3 ⟨rfl, hb⟩
  (have X3 := X2.below hb (Nat.le_refl _); have hv3 := hv2.below hb (Nat.le_refl _); have B3 := B2.trans (hb.mono B2.size))
  have OL3 := (OL.below hb).mono (show w.heap.size + 1 ≤ w0.heap.size from X0.lt)
  have B3s := B3.size
  clear OL hb how
  go_wp2_with fail
  go_loopw [3, 9] (fun s i wr => ∃ (k : Nat) (ov : Option Addr) (cv : Nat), k + 1 ≤ xs.length ∧ i = .int .i64 k ∧ s = .slice ov (k + 1) cv ∧ OwLS wr (w.heap.size + 1) (.slice ov (k + 1) cv) m (powsL m xs.length xs (k + 1)) ∧ Below w.heap.size w wr ∧ Box2 wr w.heap.size (.int .i64 m) (.slice o xs.length c)) (fun _ i _ => xs.length - 1 - (intOf i).toNat)
  case atStart => exact ⟨0, _, _, h1, rfl, rfl, OL3, B3, X3⟩
  case round =>
    obtain ⟨k, ov, cv, hk, rfl, rfl, hO, hB, hX⟩ := hrel
    have hBs := hB.size
    by_cases hlt : k + 1 < xs.length
    · obtain ⟨q, hq⟩ : ∃ q, q = k + 1 := ⟨_, rfl⟩
      rw [← hq] at hO ⊢
      obtain ⟨bo, off, rfl⟩ := hO.rd.base (by rw [powsL_len]; omega)
      obtain ⟨o1, c1, y0, y1, hr⟩ := hO.rd.at (powsL_get (show k < q by omega))
      rw [powL_len] at y1 hr
      have hvr := hv.below hB (Nat.le_refl _)
      obtain ⟨x0, x1⟩ := id hX
      have HS := Lib.hid (powsL_snoc m xs.length xs q)
      have hlt2 := Lib.hid hO.lt
      have i0 : (0 : Int) ≤ (k : Int) := by omega
      have i1 : (k : Int) < (q : Int) := by omega
      have i2 : (k : Int) < (xs.length : Int) - 1 := by omega
      have i3 : (1 : Int) ≤ (q : Int) := by omega
      have i4 : (q : Int) - 1 < (q : Int) := by omega
      have i5 : ((q : Int) - 1).toNat = k := by omega
      have e0 : IntKind.i64.wrap ((q : Int) - 1) = (q : Int) - 1 := IntWalk.i64_in _ (by omega)
      have ly := cell_lt y0
      have HQ := Lib.hid hq
      have hPq : powL m xs.length xs (k + 1) = powL m xs.length xs q := by rw [hq]
      rw [show powL m xs.length xs q = powL m xs.length xs (k + 1) by rw [hq]] at HS
      clear hPq hq
      have lx := hX.lt
      go_wp2_with fail
      have hd0 : Below wr.heap.size wr wr.drew := (Below.refl _ _).drew
      have hsd0 := hd0.size
      refine wp_region_K (S := fun w' => w'.cell? ⟨bo, off + k * 2, none⟩ = some (.int .i64 m) ∧ w'.cell? ⟨bo, off + k * 2 + 1, none⟩ = some (.slice o1 xs.length c1) ∧ w'.cell? ⟨w.heap.size, 0, none⟩ = some (.int .i64 m) ∧ w'.cell? ⟨w.heap.size, 1, none⟩ = some (.slice o xs.length c)) [0, 8, 9, 10, 11] (by kernel_rfl) ?_
      have hHeld : (fun w' : World => w'.cell? ⟨bo, off + k * 2, none⟩ = some (.int .i64 m) ∧ w'.cell? ⟨bo, off + k * 2 + 1, none⟩ = some (.slice o1 xs.length c1) ∧ w'.cell? ⟨w.heap.size, 0, none⟩ = some (.int .i64 m) ∧ w'.cell? ⟨w.heap.size, 1, none⟩ = some (.slice o xs.length c)) wr.drew := by go_keep
      refine' wpAnyK_pureL (i := 0) (v := _) rfl (by kernel_rfl) (by kernel_rfl) (by kernel_rfl) (by kernel_rfl) (fun _ _ _ h => h) (Or.inl ⟨by rfl, ?yT1⟩) ?rT1
      case yT1 => (intro w' _; go_simp; try with_reducible rfl)
      try simp only [List.getElem_toArray, List.getElem_cons_zero, List.getElem_cons_succ, Act.put, List.setIfInBounds_toArray, List.set_cons_zero, List.set_cons_succ]
      refine' wpAnyK_takeL (i := 1) (v := _) rfl (by kernel_rfl) (by kernel_rfl) (by kernel_rfl) (by kernel_rfl) (fun _ _ _ h => h) (Or.inl ⟨by rfl, ?yT2⟩) hHeld ?rT2
      case yT2 => (intro w' hSw; (try dsimp only at hSw); go_simp; try with_reducible rfl)
      try simp only [List.getElem_toArray, List.getElem_cons_zero, List.getElem_cons_succ, Act.put, List.setIfInBounds_toArray, List.set_cons_zero, List.set_cons_succ]
      refine' wpAnyK_takeL (i := 2) (v := _) rfl (by kernel_rfl) (by kernel_rfl) (by kernel_rfl) (by kernel_rfl) (fun _ _ _ h => h) (Or.inl ⟨by rfl, ?yT3⟩) hHeld ?rT3
      case yT3 => (intro w' hSw; (try dsimp only at hSw); go_simp; try with_reducible rfl)
      try simp only [List.getElem_toArray, List.getElem_cons_zero, List.getElem_cons_succ, Act.put, List.setIfInBounds_toArray, List.set_cons_zero, List.set_cons_succ]
      refine' wpAnyK_takeL (i := 3) (v := _) rfl (by kernel_rfl) (by kernel_rfl) (by kernel_rfl) (by kernel_rfl) (fun _ _ _ h => h) (Or.inl ⟨by rfl, ?yT4⟩) hHeld ?rT4
      case yT4 => (intro w' hSw; (try dsimp only at hSw); go_simp; try with_reducible rfl)
      try simp only [List.getElem_toArray, List.getElem_cons_zero, List.getElem_cons_succ, Act.put, List.setIfInBounds_toArray, List.set_cons_zero, List.set_cons_succ]
      refine' wpAnyK_takeL (i := 4) (v := _) rfl (by kernel_rfl) (by kernel_rfl) (by kernel_rfl) (by kernel_rfl) (fun _ _ _ h => h) (Or.inl ⟨by rfl, ?yT5⟩) hHeld ?rT5
      case yT5 => (intro w' hSw; (try dsimp only at hSw); go_simp; try with_reducible rfl)
      try simp only [List.getElem_toArray, List.getElem_cons_zero, List.getElem_cons_succ, Act.put, List.setIfInBounds_toArray, List.set_cons_zero, List.set_cons_succ]
      refine' wpAnyK_takeL (i := 5) (v := _) rfl (by kernel_rfl) (by kernel_rfl) (by kernel_rfl) (by kernel_rfl) (fun _ _ _ h => h) (Or.inl ⟨by rfl, ?yT6⟩) hHeld ?rT6
      case yT6 => (intro w' hSw; (try dsimp only at hSw); go_simp; try with_reducible rfl)
      try simp only [List.getElem_toArray, List.getElem_cons_zero, List.getElem_cons_succ, Act.put, List.setIfInBounds_toArray, List.set_cons_zero, List.set_cons_succ]
      refine' wpAnyK_takeL (i := 6) (v := _) rfl (by kernel_rfl) (by kernel_rfl) (by kernel_rfl) (by kernel_rfl) (fun _ _ _ h => h) (Or.inl ⟨by rfl, ?yT7⟩) hHeld ?rT7
      case yT7 => (intro w' hSw; (try dsimp only at hSw); go_simp; try with_reducible rfl)
      try simp only [List.getElem_toArray, List.getElem_cons_zero, List.getElem_cons_succ, Act.put, List.setIfInBounds_toArray, List.set_cons_zero, List.set_cons_succ]
      refine' wpAnyK_takeL (i := 7) (v := _) rfl (by kernel_rfl) (by kernel_rfl) (by kernel_rfl) (by kernel_rfl) (fun _ _ _ h => h) (Or.inl ⟨by rfl, ?yT8⟩) hHeld ?rT8
      case yT8 => (intro w' hSw; (try dsimp only at hSw); go_simp; try with_reducible rfl)
      try simp only [List.getElem_toArray, List.getElem_cons_zero, List.getElem_cons_succ, Act.put, List.setIfInBounds_toArray, List.set_cons_zero, List.set_cons_succ]
      refine wpAnyK_oneL (i := 8) rfl (by kernel_rfl) (fun K hK => ?_)
      go_simp
      go_at_call 85
      refine (times_c m m _ _ (powL m xs.length xs k) xs _ ((hr).below (by (repeat (first | exact bR _ _ | (refine bS ?_ _) | (refine bA ?_ _) | (refine bN ?_ _) | (refine bD ?_)))) (Nat.le_refl _)) ((hvr).below (by (repeat (first | exact bR _ _ | (refine bS ?_ _) | (refine bA ?_ _) | (refine bN ?_ _) | (refine bD ?_)))) (Nat.le_refl _)) (by rw [powL_len]) (by rw [powL_len]; omega) (by rw [powL_len]; omega) hm hm' (powL_range (by omega)) hx).mono ?_
      rintro e wd1 ⟨va, rfl, hod1, hbd1⟩
      rw [powL_len] at hod1; obtain ⟨oa, ca, rfl⟩ := hod1.shapeN (n := xs.length) (timesL_len _ _ _ _)
      have hd1 : Below wr.heap.size wr wd1 := (by (repeat (first | exact bR _ _ | (refine bS ?_ _) | (refine bA ?_ _) | (refine bN ?_ _) | (refine bD ?_) | (refine bT ?_ hbd1))))
      have hsd1 := hd1.size
      have hsz1_ := hbd1.size
      (try simp at hsz1_)
      go_wp2_with fail
      refine hK.out _ _ (fun h => absurd h (by decide)) ?_
      clear hK K
      try simp only [List.getElem_toArray, List.getElem_cons_zero, List.getElem_cons_succ, Act.put, List.setIfInBounds_toArray, List.set_cons_zero, List.set_cons_succ]
      refine wpAnyK_oneL (i := 9) rfl (by kernel_rfl) (fun K hK => ?_)
      go_simp
      (try go_wp2_with fail)
      refine hK.out _ _ (fun h => absurd h (by decide)) ?_
      clear hK K
      try simp only [List.getElem_toArray, List.getElem_cons_zero, List.getElem_cons_succ, Act.put, List.setIfInBounds_toArray, List.set_cons_zero, List.set_cons_succ]
      refine wpAnyK_oneL (i := 10) rfl (by kernel_rfl) (fun K hK => ?_)
      have how' : OwI wd1 wr.heap.size (.slice oa xs.length ca) (powL m xs.length xs (k + 1)) := hod1
      obtain ⟨W, hW⟩ : ∃ W : World, W = wd1.alloc (.cells #[.int .i64 m, .slice oa xs.length ca] 41) := ⟨_, rfl⟩
      have hWb1 : Below wd1.heap.size wd1 W := (by rw [hW]; exact (by (repeat (first | exact bR _ _ | (refine bS ?_ _) | (refine bA ?_ _) | (refine bN ?_ _) | (refine bD ?_)))))
      have hT : OwLS W (w.heap.size + 1) (.slice (some ⟨bo, off, none⟩) q cv) m (powsL m xs.length xs q) := (hO.below hd1).below hWb1
      have hU : Rds wr.heap.size wd1.heap.size W (fun x => RdI x (.slice oa xs.length ca) (powL m xs.length xs (k + 1))) := (how'.rds hsd1).below hWb1
      have hC0 : W.cell? ⟨wd1.heap.size, 0, none⟩ = some (.int .i64 m) := (by rw [hW]; simp)
      have hC1 : W.cell? ⟨wd1.heap.size, 1, none⟩ = some (.slice oa xs.length ca) := (by rw [hW]; simp)
      have hWb := hd1.trans (hWb1.mono hsd1)
      have hWz := hWb.size
      rw [← hW]
      have HW := Lib.hid hW
      clear hW
      refine stLS W rfl _ _ rfl (w.heap.size + 1) (.slice (some ⟨bo, off, none⟩) q cv) m (powsL m xs.length xs q) rfl hT (by omega) _ (powL m xs.length xs (k + 1)) wd1.heap.size rfl hC0 hC1 rfl ⟨_, _, by omega, hU, fun b hb => .inl (hlt2.out b hb).2⟩ (by rw [powsL_len]; omega) ?_
      intro g cap w5 hO5 hgr hb5
      have B5 := (hB.trans (hWb.mono hBs)).trans (hb5.mono (by omega))
      have hX5 := ((hX.below hWb (Nat.le_refl _)).grown hgr (fun hb => by have := hlt2.out _ hb.symm; omega))
      refine hK.out _ _ (fun h => absurd h (by decide)) ?_
      clear hK K
      try simp only [List.getElem_toArray, List.getElem_cons_zero, List.getElem_cons_succ, Act.put, List.setIfInBounds_toArray, List.set_cons_zero, List.set_cons_succ]
      refine wpAnyK_oneL (i := 11) rfl (by kernel_rfl) (fun K hK => ?_)
      go_simp
      (try go_wp2_with fail)
      refine hK.out _ _ (fun h => absurd h (by decide)) ?_
      clear hK K
      try simp only [List.getElem_toArray, List.getElem_cons_zero, List.getElem_cons_succ, Act.put, List.setIfInBounds_toArray, List.set_cons_zero, List.set_cons_succ]
      refine wpAnyK_done (by kernel_rfl) ?_ _
      go_wp2_with fail
      rw [powsL_len, ← HS.out] at hO5
      have hq := HQ.out
      go_wp2
      exact ⟨⟨k + 1, _, _, by omega, by go_num, by rw [powsL_len, hq], by rw [hq] at hO5; exact hO5, B5, hX5⟩, by simp [intOf]; omega⟩
    · obtain hk1 : k + 1 = xs.length := by omega
      rw [congrArg (powsL m xs.length xs) hk1] at hO
      clear hk1
      go_wp2
      go_ret
      exact ⟨_, rfl, hO.mono (by omega), hB⟩

theorem OwS.lit1 {w : World} {B : Nat} {u : Value} {row : List Int} (h : OwI w B u row) (hB : B ≤ w.heap.size) : OwS (w.alloc (.cells #[u] 39)) B (.slice (some ⟨w.heap.size, 0, none⟩) 1 1) [row] := by
  have hr := World.ownsRow_lit (base := B) (e := 39) (size := 1) w #[u] 1 hB (by unfold maxLen; omega) rfl
  refine ⟨[u], rfl, hr, fun k u' r hk hx => ?_, fun i j u1 u2 b hi hj hb1 hb2 => ?_, fun i u' b hi hb hv => ?_⟩
  · have : k = 0 := by have := (List.getElem?_eq_some_iff.1 hk).1; simp at this; omega
    subst this
    simp at hk hx
    subst hk hx
    exact h.alloc _
  · have e1 := (List.getElem?_eq_some_iff.1 hi).1
    have e2 := (List.getElem?_eq_some_iff.1 hj).1
    simp at e1 e2
    omega
  · have e1 := (List.getElem?_eq_some_iff.1 hi).1
    simp at e1
    subst e1
    simp at hi
    subst hi
    simp only [Value.ownBlock, Option.some.injEq] at hv
    have := (h.lt b hb).2
    omega

set_option maxHeartbeats 1000000 in
set_option maxRecDepth 100000 in
theorem l03Powers_c (m : Int) (n : Nat) (v : Value) (xs : List Int) (w : World) (hv : RdI w v xs) (hl : xs.length = n) (h1 : 1 ≤ n) (hn : n ≤ 1000) (hm : 2 ≤ m) (hm' : m ≤ 3000000000)
    (hx : ∀ x ∈ xs, 0 ≤ x ∧ x < m) :
    Calls Try.prog 72 #[.int .i64 m, v] w fun e w' => ∃ v', e = .returned v' ∧ OwS w' w.heap.size v' (powsL m n xs n) ∧ Below w.heap.size w w' := by
  subst hl
  obtain ⟨o, c, rfl, hmx, -⟩ := id hv
  unfold maxLen at hmx
  have i00 : (0 : Int) < (xs.length : Int) := by omega
  go_enter Try.func72, Try.ntmps72
  go_wp2_with (at_make; go_loud (refine mkI _ rfl _ _ rfl _ _ _ xs.length rfl rfl rfl (by omega) ?_; intro w1 how hb1 hs1; have hc0 := how.cell (k := 0) (rep_get xs.length 0 0 (by omega)); have hf0 := how.fz 0; have hz1 : w.heap.size < w1.heap.size := (by omega); have Hn := Lib.hid how; clear how hs1))
  have h2 := OwI.put Hn.out 0 1
  rw [show (List.replicate xs.length (0 : Int)).set 0 1 = powL m xs.length xs 0 by unfold powL; rw [one_mod hm]] at h2
  have B1 := below_put hb1 (g := w.heap.size) (k := 0) (Nat.le_refl _) (.int .i64 1)
  have OL := OwS.lit1 h2 (by have := B1.size; exact this)
  have B2 := B1.alloc B1.size (.cells #[.slice (some ⟨w.heap.size, 0, none⟩) xs.length xs.length] 39)
  rw [show [powL m xs.length xs 0] = powsL m xs.length xs 1 from rfl] at OL
  clear h2 hc0 hf0
  have hsz : (w1.setCell ⟨w.heap.size, 0, none⟩ (.int .i64 1)).heap.size = w1.heap.size := by simp
  rw [hsz] at OL
  clear hsz
  generalize (w1.setCell ⟨w.heap.size, 0, none⟩ (.int .i64 1)).alloc (.cells #[.slice (some ⟨w.heap.size, 0, none⟩) xs.length xs.length] 39) = w2 at OL B2 ⊢
  go_loopw [7, 8] (fun s i wr => ∃ (k : Nat) (ov : Option Addr) (cv : Nat), k + 1 ≤ xs.length ∧ i = .int .i64 k ∧ s = .slice ov (k + 1) cv ∧ OwS wr w.heap.size (.slice ov (k + 1) cv) (powsL m xs.length xs (k + 1)) ∧ Below w.heap.size w wr) (fun _ i _ => xs.length - 1 - (intOf i).toNat)
  case atStart => exact ⟨0, _, _, h1, rfl, rfl, OL, B2⟩
  case round =>
    obtain ⟨k, ov, cv, hk, rfl, rfl, hO, hB⟩ := hrel
    have hBs := hB.size
    by_cases hlt : k + 1 < xs.length
    · obtain ⟨g, rfl, hgl, hgl'⟩ := hO.row (by omega)
      obtain ⟨o1, c1, y0, hr, -⟩ := hO.get (powsL_get (show k < k + 1 by omega))
      rw [powL_len] at y0 hr
      have hvr := hv.below hB (Nat.le_refl _)
      have HS := Lib.hid (powsL_snoc m xs.length xs (k + 1))
      have i0 : (0 : Int) ≤ (k : Int) := by omega
      have i1 : (k : Int) < ((k + 1 : Nat) : Int) := by omega
      have i2 : (k : Int) < (xs.length : Int) - 1 := by omega
      go_wp2_with (first
        | (go_at_call 87; refine (l02Times_c m _ xs.length _ _ (powL m xs.length xs k) xs _ rfl hr.rd hvr h1 (by omega) hm hm' (powL_range (by omega)) hx).mono ?_; rintro e w3 ⟨va, rfl, how, hb3⟩; obtain ⟨oa, ca, rfl⟩ := how.shapeN (n := xs.length) (timesL_len _ _ _ _); have hz3 := hb3.size)
        | (at_builtin; obtain ⟨W, hW⟩ : ∃ W : World, W = w3.alloc (.cells #[.slice oa xs.length ca] 39) := ⟨_, rfl⟩; have hWb : Below wr.heap.size wr W := (by rw [hW]; exact (by (repeat (first | exact bR _ _ | (refine bS ?_ _) | (refine bA ?_ _) | (refine bN ?_ _) | (refine bD ?_) | (refine bT ?_ hb3))))); have hT : OwSR w.heap.size wr.heap.size W (.slice (some ⟨g, 0, none⟩) (k + 1) cv) (powsL m xs.length xs (k + 1)) := hO.toR.stay (fun j _ hj => hWb.block j hj); have hU : OwI W wr.heap.size (.slice oa xs.length ca) (powL m xs.length xs (k + 1)) := (by rw [hW]; exact how.alloc _); have hC : W.cell? ⟨w3.heap.size, 0, none⟩ = some (.slice oa xs.length ca) := (by rw [hW]; simp); have B3 := hB.trans (hWb.mono hBs); have hWs := hWb.size; rw [← hW]; have HW := Lib.hid hW; clear hW; go_loud (refine apT W rfl _ _ rfl w.heap.size wr.heap.size _ _ rfl hT (by omega) hBs _ _ w3.heap.size rfl hC hU (by rw [powsL_len]; omega) ?_; intro g2 cap w4 hO4 hgr hb4; clear hgr; have B4 := B3.trans hb4)))
      rw [powsL_len, ← HS.out] at hO4
      exact ⟨⟨k + 1, _, _, by omega, by go_num, by rw [powsL_len], hO4, B4⟩, by simp [intOf]; omega⟩
    · obtain hk1 : k + 1 = xs.length := by omega
      rw [congrArg (powsL m xs.length xs) hk1] at hO
      have i2 : ¬ (k : Int) < (xs.length : Int) - 1 := by omega
      clear hk1
      go_wp2
      go_ret
      exact ⟨_, rfl, hO, hB⟩

end Go.Proofs.Ytfpphfjlpgefaaa
set_option linter.unusedSimpArgs false
set_option linter.unusedVariables false
namespace Go.Proofs.Ytfpphfjlpgefaaa
open Go.RowKit

theorem RB2.mk4 (w : World) (o o' o'' : Obj) (x y : Value) (t : TypeId) : RB2 ((((w.alloc o).alloc o').alloc o'').alloc (.cells #[x, y] t)) (w.heap.size + 3) x y := by
  have := RB2.mk1 (((w.alloc o).alloc o').alloc o'') x y t
  simpa using this

def Cel2 (w : World) (b f : Nat) (x y : Value) : Prop := w.cell? ⟨b, f, none⟩ = some x ∧ w.cell? ⟨b, f + 1, none⟩ = some y
theorem Cel2.below {B : Nat} {w w' : World} {b f : Nat} {x y : Value} (h : Cel2 w b f x y) (hb : Below B w w') (hB : w.heap.size ≤ B) : Cel2 w' b f x y := ⟨keep_cell hb hB h.1, keep_cell hb hB h.2⟩

end Go.Proofs.Ytfpphfjlpgefaaa
