/- Lemmas. -/
import Derived.Test.YtoednonijmkbjaaGreatLM7
import Derived.Test.YtoednonijmkbjaaGreatLSerC
import Derived.Test.YtoednonijmkbjaaGreatLG3
import Derived.Test.YtoednonijmkbjaaGreatLM12
import Derived.Test.YtoednonijmkbjaaGreatLSerT
import Derived.Test.YtoednonijmkbjaaGreatLG1
import Derived.StillTailTactics
import Derived.Test.YtoednonijmkbjaaGreatLG15
import Derived.Test.YtoednonijmkbjaaGreatLM2
set_option linter.unusedSimpArgs false
set_option linter.unusedVariables false
namespace Go.Proofs.YtoednonijmkbjaaGreat
open Go.RowKit

theorem revP_store {m : Int} {n : Nat} {a : List Int} {k : Nat} :
    (revTo m n a (k + 1)).set (k + 2) ((-(at0 (horn m n (revTo m n a (k + 1)) a) (k + 2) * invM m (at0 a 1) % m)) % m) = revTo m n a (k + 1 + 1) := by
  rw [neg_mul_mod]; rfl
theorem rep_set1 {m : Int} {n : Nat} {a : List Int} : (List.replicate n (0 : Int)).set 1 (invM m (at0 a 1)) = revTo m n a (0 + 1) := rfl
theorem revP_end {m : Int} {n : Nat} {a : List Int} {k : Nat} (h : n = k + 2) : revTo m n a (k + 1) = revL m n a := by subst h; rfl

structure Cel1 (w : World) (b f : Nat) (x : Value) : Prop where
  get : w.cell? ⟨b, f, none⟩ = some x
theorem Cel1.below {B : Nat} {w w' : World} {b f : Nat} {x : Value} (h : Cel1 w b f x) (hb : Below B w w') (hB : w.heap.size ≤ B) : Cel1 w' b f x := ⟨keep_cell hb hB h.get⟩

set_option maxHeartbeats 4000000 in
set_option maxRecDepth 100000 in
theorem reverseS_c (m : Int) (v : Value) (xs : List Int) (w : World) (hv : RdI w v xs) (h1 : 2 ≤ xs.length) (hn : xs.length ≤ 1000) (hm : 2 ≤ m) (hm' : m ≤ 1000000000000) (hx : ∀ x ∈ xs, 0 ≤ x ∧ x < m) :
    Calls Tryz.prog 105 #[.agg #[.int .i64 m, v]] w fun e w' => SVEnd w w' m (revL m xs.length xs) e := by
  obtain ⟨o, c, rfl, hmx, -⟩ := id hv
  have hml := hmx.1
  unfold maxLen at hmx
  obtain ⟨bx, fx, rfl, hcx⟩ := hv.cells (by omega)
  have cx : w.cell? ⟨bx, fx + 1, none⟩ = some (.int .i64 (at0 xs 1)) := hcx 1 _ (some_at0 (by omega))
  have lx := cell_lt cx
  have hxr := at0_range (by omega) hx 1
  obtain ⟨u, hu⟩ : ∃ u, u = invM m (at0 xs 1) := ⟨_, rfl⟩
  have hur : 0 ≤ u ∧ u < m := by rw [hu]; exact invM_range (by omega) _
  have HU := Lib.hid hu
  clear hcx hu
  go_enter Tryz.func105, Tryz.ntmps105
  go_wp2_with fail
  (have X0 := ((RB2.mk1 w  (.int .i64 m) (.slice (some ⟨bx, fx, none⟩) xs.length c) 28).1).below (w' := ((w.alloc (.cells #[.int .i64 m, .slice (some ⟨bx, fx, none⟩) xs.length c] 28)).alloc (.cells #[.int .i64 0, .slice none 0 0] 28))) (by (repeat (first | exact bR _ _ | (refine bS ?_ _) | (refine bA ?_ _) | (refine bN ?_ _) | (refine bD ?_)))) (Nat.le_refl _); have R0 := ((RB2.mk2 w (.cells #[.int .i64 m, .slice (some ⟨bx, fx, none⟩) xs.length c] 28) (.int .i64 0) (.slice none 0 0) 28)).below (w' := ((w.alloc (.cells #[.int .i64 m, .slice (some ⟨bx, fx, none⟩) xs.length c] 28)).alloc (.cells #[.int .i64 0, .slice none 0 0] 28))) (by (repeat (first | exact bR _ _ | (refine bS ?_ _) | (refine bA ?_ _) | (refine bN ?_ _) | (refine bD ?_)))) (Nat.le_refl _); have B0 : Below w.heap.size w ((w.alloc (.cells #[.int .i64 m, .slice (some ⟨bx, fx, none⟩) xs.length c] 28)).alloc (.cells #[.int .i64 0, .slice none 0 0] 28)) := (by (repeat (first | exact bR _ _ | (refine bS ?_ _) | (refine bA ?_ _) | (refine bN ?_ _) | (refine bD ?_)))); have hv0 := hv.below (w' := ((w.alloc (.cells #[.int .i64 m, .slice (some ⟨bx, fx, none⟩) xs.length c] 28)).alloc (.cells #[.int .i64 0, .slice none 0 0] 28))) (by (repeat (first | exact bR _ _ | (refine bS ?_ _) | (refine bA ?_ _) | (refine bN ?_ _) | (refine bD ?_)))) (Nat.le_refl _); generalize (w.alloc (.cells #[.int .i64 m, .slice (some ⟨bx, fx, none⟩) xs.length c] 28)).alloc (.cells #[.int .i64 0, .slice none 0 0] 28) = w0 at X0 R0 B0 hv0 ⊢)
  have hzl : w.heap.size + 1 < w0.heap.size := R0.1.lt
  have cx0 := keep_cell B0 (Nat.le_refl _) cx
  have lx0 := cell_lt cx0
  have cx0c : Cel1 w0 bx (fx + 1) (.int .i64 (at0 xs 1)) := ⟨cx0⟩
  go_cut [3, 4] (fun sb su u => ∃ (wz : World) (b : Nat) (oz : Option Addr) (cz : Nat), wz = u ∧ sb = .pointer (some ⟨b, 0, none⟩) ∧ su = .int .i64 (invM m (at0 xs 1)) ∧ w0.heap.size ≤ b ∧ RB2 u b (.int .i64 m) (.slice oz xs.length cz) ∧ OwI u w0.heap.size (.slice oz xs.length cz) (List.replicate xs.length 0) ∧ (∀ k, (Value.slice oz xs.length cz).ownBlock = some k → k ≠ b) ∧ Below w0.heap.size w0 u)
  case first =>
    have hd0 : Below w0.heap.size w0 w0.drew := (Below.refl _ _).drew
    have hsd0 := hd0.size
    have hlb_X0 := X0.lt
    have i0 : (0 : Int) < (xs.length : Int) := by omega
    have i1 : (1 : Int) < (xs.length : Int) := by omega
    have i2 : 1 < xs.length := by omega
    obtain ⟨q0_X0_0, q0_X0_1⟩ := X0.below (Below.refl w0.heap.size w0) (Nat.le_refl _)
    have q0_cx := (((cx0c).below (Below.refl w0.heap.size w0) (Nat.le_refl _))).get
    have hne0_X0 : w0.heap.size ≠ w.heap.size := by omega
    have hne0_bx_ : w0.heap.size ≠ bx := by omega
    go_region_held3 (fun w' => w'.cell? ⟨w.heap.size, 0, none⟩ = some (.int .i64 m) ∧ w'.cell? ⟨w.heap.size, 1, none⟩ = some (.slice (some ⟨bx, fx, none⟩) xs.length c) ∧ w'.cell? ⟨bx, fx + 1, none⟩ = some (.int .i64 (at0 xs 1))) (go_keep)
      (first
        | (go_at_call 109; refine (degreeS_c m (some ⟨bx, fx, none⟩) xs.length c _ hml).mono ?_; rintro e wd1 ⟨rfl, hbd1⟩; have hd1 : Below w0.heap.size w0 wd1 := (by (repeat (first | exact bR _ _ | (refine bS ?_ _) | (refine bA ?_ _) | (refine bN ?_ _) | (refine bD ?_) | (refine bT ?_ hbd1)))); have hsd1 := hd1.size; have hsz1_ := hbd1.size; (try simp at hsz1_); obtain ⟨q1_X0_0, q1_X0_1⟩ := X0.below hd1 (Nat.le_refl _); have q1_cx := (((cx0c).below hd1 (Nat.le_refl _))).get; have hne1_X0 : wd1.heap.size ≠ w.heap.size := (by omega); have hne1_bx_ : wd1.heap.size ≠ bx := (by omega); (try (have RZ := RZ.below hbd1 (Nat.le_refl _))); (try (have RZ := (show RB2 (w0.alloc (.cells #[.int .i64 0, .slice none 0 0] 28)).drew w0.heap.size (.int .i64 0) (.slice none 0 0) from RB2.mk1 w0 (.int .i64 0) (.slice none 0 0) _).below hbd1 (Nat.le_refl _))); (try (obtain ⟨⟨z1_0, z1_1⟩, zf1⟩ := id RZ)))
        | (go_at_call 92; refine (zero_c m ((xs.length : Int) - 1) xs.length _ (by omega) (by omega)).mono ?_; rintro e wd2 ⟨vz2, rfl, hod2, hbd2⟩; obtain ⟨oz, cz, rfl⟩ := hod2.shapeN (n := xs.length) (by simp); have hd2 : Below w0.heap.size w0 wd2 := (by (repeat (first | exact bR _ _ | (refine bS ?_ _) | (refine bA ?_ _) | (refine bN ?_ _) | (refine bD ?_) | (refine bT ?_ hbd1) | (refine bT ?_ hbd2)))); have hsd2 := hd2.size; have hsz2_ := hbd2.size; (try simp at hsz2_); obtain ⟨q2_X0_0, q2_X0_1⟩ := X0.below hd2 (Nat.le_refl _); have q2_cx := (((cx0c).below hd2 (Nat.le_refl _))).get; have hne2_X0 : wd2.heap.size ≠ w.heap.size := (by omega); have hne2_bx_ : wd2.heap.size ≠ bx := (by omega); (try (have RZ := RZ.below hbd2 (Nat.le_refl _))); (try (have RZ := (show RB2 (wd1.alloc (.cells #[.int .i64 0, .slice none 0 0] 28)) wd1.heap.size (.int .i64 0) (.slice none 0 0) from RB2.mk1 wd1 (.int .i64 0) (.slice none 0 0) _).below hbd2 (Nat.le_refl _))); (try (obtain ⟨⟨z2_0, z2_1⟩, zf2⟩ := id RZ)))
        | (go_at_call 61; refine (inverse_c m (at0 xs 1) _ hm (by omega) (by omega) (by omega)).mono ?_; rintro e w' ⟨rfl, rfl⟩))
    all_goals
      go_wp2_with fail
      go_meet
      have hL := hod2.lt
      refine ⟨_, _, oz, cz, rfl, rfl, rfl, ?_, ?_, ?_, ?_, ?_⟩
      · first | omega | (simp; done) | (simp; omega)
      · first | exact RB2.mk1 _ _ _ _ | exact RB2.put RZ _ _
      · first | exact (hod2.alloc _).mono (by first | (simp; done) | (simp; omega) | omega) | exact ((hod2.low (by first | (simp; done) | (simp; omega) | omega) _).low (by first | (simp; done) | (simp; omega) | omega) _).mono (by first | (simp; done) | (simp; omega) | omega)
      · intro k hk; have hq := hL k hk; first | omega | (simp at hq; omega)
      · (repeat (first | exact bR _ _ | (refine bS ?_ _) | (refine bA ?_ _) | (refine bN ?_ _) | (refine bD ?_) | (refine bT ?_ hbd1) | (refine bT ?_ hbd2)))
  case rest =>
  obtain ⟨w1, bo, oz, cz, rfl, rfl, rfl, hbW, O, how, hneb, hb⟩ := hcut
  obtain ⟨g, rfl, hgl, hgl'⟩ := how.row (by omega)
  have hgb := hneb g rfl
  clear hneb
  rw [← HU.out]
  (have X1 := X0.below hb (Nat.le_refl _); have R1 := R0.below hb (Nat.le_refl _); have hv1 := hv0.below hb (Nat.le_refl _); have B1 := B0.trans (hb.mono B0.size))
  have hc0 := how.cell (k := 1) (rep_get xs.length 1 0 (by omega))
  have hf0 := how.fz 1
  have hOz := how.put 1 u
  rw [HU.out, rep_set1] at hOz
  have Oz := O.grown (gr_put (World.grownBy.refl w1 (some g)) 1 (.int .i64 (invM m (at0 xs 1)))) (by simp; omega)
  have hbz := below_put hb (g := g) (k := 1) (by omega) (.int .i64 (invM m (at0 xs 1)))
  rw [← HU.out] at hOz Oz hbz
  obtain ⟨z0, z1⟩ := id O.1
  have i0 : (0 : Int) < (xs.length : Int) := by omega
  have i1 : (1 : Int) < (xs.length : Int) := by omega
  have i2 : 1 < xs.length := by omega
  have HO := Lib.hid hOz
  have OZ := Lib.hid Oz
  clear how O hOz Oz hb
  go_wp2_with fail
  clear hc0 hf0 z0 z1
  have hOz := HO.out
  have Oz := OZ.out
  clear HO OZ
  generalize w1.setCell ⟨g, 1, none⟩ (.int .i64 u) = w2 at hOz Oz hbz ⊢
  go_loopw [5, 6] (fun i _ wr => ∃ k : Nat, k + 2 ≤ xs.length ∧ i = .int .i64 ((k : Int) + 2) ∧ OwI wr w0.heap.size (.slice (some ⟨g, 0, none⟩) xs.length cz) (revTo m xs.length xs (k + 1)) ∧ RB2 wr bo (.int .i64 m) (.slice (some ⟨g, 0, none⟩) xs.length cz) ∧ Below w0.heap.size w0 wr) (fun i _ _ => xs.length - (intOf i).toNat)
  case atStart => exact ⟨0, by omega, by go_num, hOz, Oz, hbz⟩
  case round =>
    clear hOz Oz hbz X1 R1 hv1 B1
    obtain ⟨k, hk, rfl, hO, OO, hbr⟩ := hrel
    have B0s := B0.size
    have hbrs := hbr.size
    have Br := B0.trans (hbr.mono B0s)
    have Xr := X0.below hbr (Nat.le_refl _)
    have hvr := hv0.below hbr (Nat.le_refl _)
    have Rr := R0.below hbr (Nat.le_refl _)
    have lXr := Xr.lt
    obtain ⟨x0, x1⟩ := id Xr
    go_wp2_with fail
    refine (degreeS_c m _ _ c _ hml).mono ?_
    rintro e w3 ⟨rfl, hb3⟩
    clear x0 x1
    have hb3s := hb3.size
    have X3 := Xr.below hb3 (Nat.le_refl _)
    have hv3 := hvr.below hb3 (Nat.le_refl _)
    have O3 := OO.below hb3 (Nat.le_refl _)
    have R3 := Rr.below hb3 (Nat.le_refl _)
    have hO3 := hO.below hb3
    have hbr3 := hbr.trans (hb3.mono hbrs)
    have B3 := B0.trans (hbr3.mono B0s)
    have B3s := B3.size
    clear hO OO Xr hvr Rr hbr Br hb3 lXr
    by_cases hlt : k + 2 < xs.length
    · have i3 : (0 : Int) ≤ (k : Int) + 2 := by omega
      have i4 : (k : Int) + 2 ≤ (xs.length : Int) - 1 := by omega
      have i5 : (k : Int) + 2 < (xs.length : Int) := by omega
      have i6 : ((k : Int) + 2).toNat = k + 2 := by omega
      have hQl : ((horn m xs.length (revTo m xs.length xs (k + 1)) xs)).length = xs.length := by first | exact timesL_len _ _ _ _ | exact horn_len _ _ _ _
      have hQr : ∀ x ∈ (horn m xs.length (revTo m xs.length xs (k + 1)) xs), 0 ≤ x ∧ x < m := by first | exact timesL_range (by omega) | exact horn_range (by omega)
      have HS : Hid (((revTo m xs.length xs (k + 1))).set (k + 2) ((-(at0 (horn m xs.length (revTo m xs.length xs (k + 1)) xs) (k + 2) * invM m (at0 xs 1) % m)) % m) = _) := Lib.hid (revP_store)
      have HLl := Lib.hid (show ((revTo m xs.length xs (k + 1))).length = xs.length from (revTo_len _ _ _ _))
      have HRl := Lib.hid (show ∀ x ∈ (revTo m xs.length xs (k + 1)), 0 ≤ x ∧ x < m from (revTo_range (by omega) _ _ _))
      obtain ⟨q, hq⟩ : ∃ q, q = (horn m xs.length (revTo m xs.length xs (k + 1)) xs) := ⟨_, rfl⟩
      rw [← hq] at hQl hQr HS
      rw [← HU.out] at HS
      have HQ := Lib.hid hq
      clear hq
      have hqr := at0_range (show 0 < m by omega) hQr (k + 2)
      have O3b := O3.1
      obtain ⟨x0, x1⟩ := id X3
      obtain ⟨z0, z1⟩ := id O3b
      have HQ2 := HQ
      generalize (revTo m xs.length xs (k + 1)) = l at hO3 HS HLl HRl HQ
      go_wp2_with fail
      refine (compose_c m m _ _ xs l _ hv3 hO3.rd (by rw [HLl.out]) (by omega) (by omega) hm (by omega) hx HRl.out).mono ?_
      rintro e w4 ⟨vq, rfl, hoq, hb4⟩
      rw [← HQ.out] at hoq
      clear x0 x1 z0 z1
      obtain ⟨oq, cq, rfl⟩ := hoq.shapeN (n := xs.length) hQl
      obtain ⟨gq, rfl, hgq, hgq'⟩ := hoq.row (by omega)
      have hcq := hoq.cell (k := k + 2) (some_at0 (show k + 2 < q.length by omega))
      have X4 := X3.below hb4 (Nat.le_refl _)
      have O4 := O3.below hb4 (Nat.le_refl _)
      have hO4 := hO3.below hb4
      have hbr4 := hbr3.trans (hb4.mono hbr3.size)
      have hc9 := hO4.cell (k := k + 2) (some_at0 (show k + 2 < l.length by rw [HLl.out]; omega))
      have hf9 := hO4.fz (k + 2)
      have Hn := Lib.hid hO4
      clear hoq hO3 hO4 O3 X3
      obtain ⟨x0, x1⟩ := id X4
      obtain ⟨⟨z0, z1⟩, zf⟩ := id O4
      have hmu := mod_lt' (a := at0 q (k + 2) * u) (show 0 < m by omega)
      have hfd : ∀ w : World, (Instr.field 28 (.agg #[.int .i64 m, .slice (some ⟨gq, 0, none⟩) xs.length cq]) 1).run Tryz.prog w = .ok (.slice (some ⟨gq, 0, none⟩) xs.length cq) w := fun _ => by kernel_rfl
      have hwr : IntKind.i64.wrap (-(at0 q (k + 2) * u % m)) = -(at0 q (k + 2) * u % m) := IntWalk.i64_in _ (by omega)
      go_wp2_with fail
      have hd0 : Below w4.heap.size w4 w4.drew := (Below.refl _ _).drew
      have hsd0 := hd0.size
      have f0_a := keep_cell hd0 (Nat.le_refl _) x0
      have f0_b := keep_cell hd0 (Nat.le_refl _) z1
      have f0_c := keep_cell hd0 (Nat.le_refl _) hc9
      have f0_e := (Hn.out.below hd0).fz (k + 2)
      refine wp_region_K (S := fun w' => w'.cell? ⟨w.heap.size, 0, none⟩ = some (.int .i64 m) ∧ w'.cell? ⟨bo, 1, none⟩ = some (.slice (some ⟨g, 0, none⟩) xs.length cz)) [13] (by kernel_rfl) ?_
      have hHeld : (fun w' : World => w'.cell? ⟨w.heap.size, 0, none⟩ = some (.int .i64 m) ∧ w'.cell? ⟨bo, 1, none⟩ = some (.slice (some ⟨g, 0, none⟩) xs.length cz)) w4.drew := by go_keep
      refine' wpAnyK_takeL (i := 0) (v := _) rfl (by kernel_rfl) (by kernel_rfl) (by kernel_rfl) (by kernel_rfl) (fun _ _ _ h => h) (Or.inl ⟨by rfl, ?yT11⟩) hHeld ?rT11
      case yT11 => (intro w' hSw; (try dsimp only at hSw); go_simp; try with_reducible rfl)
      try simp only [List.getElem_toArray, List.getElem_cons_zero, List.getElem_cons_succ, Act.put, List.setIfInBounds_toArray, List.set_cons_zero, List.set_cons_succ]
      refine' wpAnyK_takeL (i := 1) (v := _) rfl (by kernel_rfl) (by kernel_rfl) (by kernel_rfl) (by kernel_rfl) (fun _ _ _ h => h) (Or.inl ⟨by rfl, ?yT12⟩) hHeld ?rT12
      case yT12 => (intro w' hSw; (try dsimp only at hSw); go_simp; try with_reducible rfl)
      try simp only [List.getElem_toArray, List.getElem_cons_zero, List.getElem_cons_succ, Act.put, List.setIfInBounds_toArray, List.set_cons_zero, List.set_cons_succ]
      refine' wpAnyK_takeL (i := 2) (v := _) rfl (by kernel_rfl) (by kernel_rfl) (by kernel_rfl) (by kernel_rfl) (fun _ _ _ h => h) (Or.inl ⟨by rfl, ?yT13⟩) hHeld ?rT13
      case yT13 => (intro w' hSw; (try dsimp only at hSw); go_simp; try with_reducible rfl)
      try simp only [List.getElem_toArray, List.getElem_cons_zero, List.getElem_cons_succ, Act.put, List.setIfInBounds_toArray, List.set_cons_zero, List.set_cons_succ]
      refine' wpAnyK_takeL (i := 3) (v := _) rfl (by kernel_rfl) (by kernel_rfl) (by kernel_rfl) (by kernel_rfl) (fun _ _ _ h => h) (Or.inl ⟨by rfl, ?yT14⟩) hHeld ?rT14
      case yT14 => (intro w' hSw; (try dsimp only at hSw); go_simp; try with_reducible rfl)
      try simp only [List.getElem_toArray, List.getElem_cons_zero, List.getElem_cons_succ, Act.put, List.setIfInBounds_toArray, List.set_cons_zero, List.set_cons_succ]
      refine' wpAnyK_takeL (i := 4) (v := _) rfl (by kernel_rfl) (by kernel_rfl) (by kernel_rfl) (by kernel_rfl) (fun _ _ _ h => h) (Or.inl ⟨by rfl, ?yT15⟩) hHeld ?rT15
      case yT15 => (intro w' hSw; (try dsimp only at hSw); go_simp; try with_reducible rfl)
      try simp only [List.getElem_toArray, List.getElem_cons_zero, List.getElem_cons_succ, Act.put, List.setIfInBounds_toArray, List.set_cons_zero, List.set_cons_succ]
      refine' wpAnyK_takeL (i := 5) (v := _) rfl (by kernel_rfl) (by kernel_rfl) (by kernel_rfl) (by kernel_rfl) (fun _ _ _ h => h) (Or.inl ⟨by rfl, ?yT16⟩) hHeld ?rT16
      case yT16 => (intro w' hSw; (try dsimp only at hSw); go_simp; try with_reducible rfl)
      try simp only [List.getElem_toArray, List.getElem_cons_zero, List.getElem_cons_succ, Act.put, List.setIfInBounds_toArray, List.set_cons_zero, List.set_cons_succ]
      refine' wpAnyK_takeL (i := 6) (v := _) rfl (by kernel_rfl) (by kernel_rfl) (by kernel_rfl) (by kernel_rfl) (fun _ _ _ h => h) (Or.inl ⟨by rfl, ?yT17⟩) hHeld ?rT17
      case yT17 => (intro w' hSw; (try dsimp only at hSw); go_simp; try with_reducible rfl)
      try simp only [List.getElem_toArray, List.getElem_cons_zero, List.getElem_cons_succ, Act.put, List.setIfInBounds_toArray, List.set_cons_zero, List.set_cons_succ]
      refine' wpAnyK_takeL (i := 9) (v := _) rfl (by kernel_rfl) (by kernel_rfl) (by kernel_rfl) (by kernel_rfl) (fun _ _ _ h => h) (Or.inl ⟨by rfl, ?yT18⟩) hHeld ?rT18
      case yT18 => (intro w' hSw; (try dsimp only at hSw); go_simp; try with_reducible rfl)
      try simp only [List.getElem_toArray, List.getElem_cons_zero, List.getElem_cons_succ, Act.put, List.setIfInBounds_toArray, List.set_cons_zero, List.set_cons_succ]
      refine' wpAnyK_takeL (i := 10) (v := _) rfl (by kernel_rfl) (by kernel_rfl) (by kernel_rfl) (by kernel_rfl) (fun _ _ _ h => h) (Or.inl ⟨by rfl, ?yT19⟩) hHeld ?rT19
      case yT19 => (intro w' hSw; (try dsimp only at hSw); go_simp; try with_reducible rfl)
      try simp only [List.getElem_toArray, List.getElem_cons_zero, List.getElem_cons_succ, Act.put, List.setIfInBounds_toArray, List.set_cons_zero, List.set_cons_succ]
      refine wpAnyK_oneL (i := 7) rfl (by kernel_rfl) (fun K hK => ?_)
      go_simp
      go_at_call 95
      refine (mulC_c m (at0 q (k + 2)) u _ (by omega) (by omega) (by omega) (by omega) (by omega) (by omega)).mono ?_
      rintro e wd1 ⟨rfl, hbd1⟩
      have hd1 : Below w4.heap.size w4 wd1 := (by (repeat (first | exact bR _ _ | (refine bS ?_ _) | (refine bA ?_ _) | (refine bN ?_ _) | (refine bD ?_) | (refine bT ?_ hbd1))))
      have hsd1 := hd1.size
      have hsz1_ := hbd1.size
      (try simp at hsz1_)
      have f1_a := keep_cell hd1 (Nat.le_refl _) x0
      have f1_b := keep_cell hd1 (Nat.le_refl _) z1
      have f1_c := keep_cell hd1 (Nat.le_refl _) hc9
      have f1_e := (Hn.out.below hd1).fz (k + 2)
      go_wp2_with fail
      clear hHeld
      have hHeld : (fun w' : World => w'.cell? ⟨w.heap.size, 0, none⟩ = some (.int .i64 m) ∧ w'.cell? ⟨bo, 1, none⟩ = some (.slice (some ⟨g, 0, none⟩) xs.length cz)) wd1 := by go_keep
      refine hK.out _ _ (fun _ => hHeld) ?_
      clear hK K
      try simp only [List.getElem_toArray, List.getElem_cons_zero, List.getElem_cons_succ, Act.put, List.setIfInBounds_toArray, List.set_cons_zero, List.set_cons_succ]
      refine' wpAnyK_takeL (i := 8) (v := _) rfl (by kernel_rfl) (by kernel_rfl) (by kernel_rfl) (by kernel_rfl) (fun _ _ _ h => h) (Or.inl ⟨by rfl, ?yT20⟩) hHeld ?rT20
      case yT20 => (intro w' hSw; (try dsimp only at hSw); go_simp; try with_reducible rfl)
      try simp only [List.getElem_toArray, List.getElem_cons_zero, List.getElem_cons_succ, Act.put, List.setIfInBounds_toArray, List.set_cons_zero, List.set_cons_succ]
      refine wpAnyK_oneL (i := 11) rfl (by kernel_rfl) (fun K hK => ?_)
      go_simp
      go_at_call 75
      refine (mod_c (-(at0 q (k + 2) * u % m)) m _ (by omega) (by omega) (by omega) (by omega)).mono ?_
      rintro e w' ⟨rfl, rfl⟩
      go_wp2_with fail
      refine hK.out _ _ (fun _ => hHeld) ?_
      clear hK K
      try simp only [List.getElem_toArray, List.getElem_cons_zero, List.getElem_cons_succ, Act.put, List.setIfInBounds_toArray, List.set_cons_zero, List.set_cons_succ]
      refine wpAnyK_oneL (i := 12) rfl (by kernel_rfl) (fun K hK => ?_)
      go_simp
      (try go_wp2_with fail)
      refine hK.out _ _ (fun _ => hHeld) ?_
      clear hK K
      try simp only [List.getElem_toArray, List.getElem_cons_zero, List.getElem_cons_succ, Act.put, List.setIfInBounds_toArray, List.set_cons_zero, List.set_cons_succ]
      refine wpAnyK_oneL (i := 13) rfl (by kernel_rfl) (fun K hK => ?_)
      go_simp
      (try go_wp2_with fail)
      refine hK.out _ _ (fun h => absurd h (by decide)) ?_
      clear hK K
      try simp only [List.getElem_toArray, List.getElem_cons_zero, List.getElem_cons_succ, Act.put, List.setIfInBounds_toArray, List.set_cons_zero, List.set_cons_succ]
      refine wpAnyK_done (by kernel_rfl) ?_ _
      go_wp2_with fail
      have hOn := (Hn.out.below hd1).put (k + 2) ((-(at0 q (k + 2) * u % m)) % m)
      rw [HS.out] at hOn
      have hgx := gr_put (gr_below (World.grownBy.refl w4 (some g)) hd1) (k + 2) (.int .i64 ((-(at0 q (k + 2) * u % m)) % m))
      have On := O4.grown hgx (by simp; omega)
      have hbn := below_gr hbr4 hgx (by omega) hbr4.size
      exact ⟨⟨k + 1, by omega, by go_num, hOn, On, hbn⟩, by simp [intOf]; omega⟩
    · have hk' : xs.length = k + 2 := by omega
      rw [revP_end hk'] at hO3
      have i1 : ¬ (k : Int) + 2 ≤ (xs.length : Int) - 1 := by omega
      clear hk'
      obtain ⟨⟨z0, z1⟩, zf⟩ := id O3
      obtain ⟨⟨r0, r1⟩, rf⟩ := id R3
      have lR3 := R3.1.lt
      go_wp2
      refine bodyPost_ret (v := .agg #[.int .i64 m, .slice (some ⟨g, 0, none⟩) xs.length cz]) (by simp [results, Tryz.results105, go_sem, r0, r1]) rfl ⟨_, rfl, ?_, ?_⟩
      · exact ((hO3.low (by first | (simp; done) | (simp; omega) | omega) _).low (by first | (simp; done) | (simp; omega) | omega) _).mono (by first | (simp; done) | (simp; omega) | omega)
      · (repeat (first | exact bR _ _ | (refine bS ?_ _) | (refine bA ?_ _) | (refine bN ?_ _) | (refine bD ?_) | (refine bT ?_ B3)))
end Go.Proofs.YtoednonijmkbjaaGreat
set_option linter.unusedSimpArgs false
set_option linter.unusedVariables false
namespace Go.Proofs.YtoednonijmkbjaaGreat
open Go.RowKit

def sclTo (m c : Int) (xs : List Int) (i : Nat) : List Int := mk xs.length (fun k => if k < i then c * at0 xs k % m else 0)
theorem sclTo_len (m c : Int) (xs : List Int) (i : Nat) : (sclTo m c xs i).length = xs.length := mk_len _ _
theorem sclTo_0 (m c : Int) (xs : List Int) : List.replicate xs.length (0 : Int) = sclTo m c xs 0 := by
  rw [mk_zero]; exact mk_ext (fun k _ => by simp)
theorem sclTo_set {m c : Int} {xs : List Int} {i : Nat} : (sclTo m c xs i).set i (c * at0 xs i % m) = sclTo m c xs (i + 1) := by
  unfold sclTo
  rw [mk_set]
  refine mk_ext fun k hk => ?_
  by_cases h : k = i
  · subst h; simp
  · rw [if_neg h]
    by_cases h1 : k < i
    · rw [if_pos h1, if_pos (by omega)]
    · rw [if_neg h1, if_neg (by omega)]
theorem scaleL_mk (m c : Int) (xs : List Int) : scaleL m c xs = mk xs.length (fun k => c * at0 xs k % m) := by
  conv => lhs; rw [eq_mk (scaleL m c xs), scaleL_len]
  exact mk_ext fun k hk => scaleL_at hk
theorem sclTo_all {m c : Int} {xs : List Int} : sclTo m c xs xs.length = scaleL m c xs := by
  rw [scaleL_mk]; exact mk_ext fun k hk => by rw [if_pos hk]
theorem scaleL_mod (m c : Int) (xs : List Int) : scaleL m (c % m) xs = scaleL m c xs := by
  rw [scaleL_mk, scaleL_mk]; exact mk_ext fun k _ => emod_congr_mul (emod_idem _ _) rfl

set_option maxHeartbeats 1000000 in
set_option maxRecDepth 100000 in
theorem scaled_c (m a : Int) (v : Value) (xs : List Int) (w : World) (hv : RdI w v xs) (h1 : 1 ≤ xs.length) (hn : xs.length ≤ 1048576) (hm : 2 ≤ m) (hm' : m ≤ 3000000000)
    (hx : ∀ x ∈ xs, 0 ≤ x ∧ x < m) (ha : -9000000000000000000 ≤ a) (ha' : a ≤ 9000000000000000000) :
    Calls Tryz.prog 135 #[.agg #[.int .i64 m, v], .int .i64 a] w fun e w' => SVEnd w w' m (scaleL m a xs) e := by
  obtain ⟨o, c, rfl, hmx, -⟩ := id hv
  have hml := hmx.1
  unfold maxLen at hmx
  rw [← scaleL_mod]
  have hA := mod_lt' (a := a) (show 0 < m by omega)
  go_enter Tryz.func135, Tryz.ntmps135
  go_wp2_with fail
  (have X0 := ((RB2.mk1 w  (.int .i64 m) (.slice o xs.length c) 28).1).below (w' := ((w.alloc (.cells #[.int .i64 m, .slice o xs.length c] 28)).alloc (.cells #[.int .i64 0, .slice none 0 0] 28))) (by (repeat (first | exact bR _ _ | (refine bS ?_ _) | (refine bA ?_ _) | (refine bN ?_ _) | (refine bD ?_)))) (Nat.le_refl _); have R0 := ((RB2.mk2 w (.cells #[.int .i64 m, .slice o xs.length c] 28) (.int .i64 0) (.slice none 0 0) 28)).below (w' := ((w.alloc (.cells #[.int .i64 m, .slice o xs.length c] 28)).alloc (.cells #[.int .i64 0, .slice none 0 0] 28))) (by (repeat (first | exact bR _ _ | (refine bS ?_ _) | (refine bA ?_ _) | (refine bN ?_ _) | (refine bD ?_)))) (Nat.le_refl _); have B0 : Below w.heap.size w ((w.alloc (.cells #[.int .i64 m, .slice o xs.length c] 28)).alloc (.cells #[.int .i64 0, .slice none 0 0] 28)) := (by (repeat (first | exact bR _ _ | (refine bS ?_ _) | (refine bA ?_ _) | (refine bN ?_ _) | (refine bD ?_)))); have hv0 := hv.below (w' := ((w.alloc (.cells #[.int .i64 m, .slice o xs.length c] 28)).alloc (.cells #[.int .i64 0, .slice none 0 0] 28))) (by (repeat (first | exact bR _ _ | (refine bS ?_ _) | (refine bA ?_ _) | (refine bN ?_ _) | (refine bD ?_)))) (Nat.le_refl _); generalize (w.alloc (.cells #[.int .i64 m, .slice o xs.length c] 28)).alloc (.cells #[.int .i64 0, .slice none 0 0] 28) = w0 at X0 R0 B0 hv0 ⊢)
  have hzl : w.heap.size + 1 < w0.heap.size := R0.1.lt
  go_cut [5] (fun sb u => ∃ (wz : World) (b : Nat) (oz : Option Addr) (cz : Nat), wz = u ∧ sb = .pointer (some ⟨b, 0, none⟩) ∧ w0.heap.size ≤ b ∧ RB2 u b (.int .i64 m) (.slice oz xs.length cz) ∧ OwI u w0.heap.size (.slice oz xs.length cz) (List.replicate xs.length 0) ∧ (∀ k, (Value.slice oz xs.length cz).ownBlock = some k → k ≠ b) ∧ Below w0.heap.size w0 u)
  case first =>
    have hd0 : Below w0.heap.size w0 w0.drew := (Below.refl _ _).drew
    have hsd0 := hd0.size
    have hlb_X0 := X0.lt
    obtain ⟨q0_X0_0, q0_X0_1⟩ := X0.below (Below.refl w0.heap.size w0) (Nat.le_refl _)
    have hne0_X0 : w0.heap.size ≠ w.heap.size := by omega
    go_region_held3 (fun w' => w'.cell? ⟨w.heap.size, 0, none⟩ = some (.int .i64 m) ∧ w'.cell? ⟨w.heap.size, 1, none⟩ = some (.slice o xs.length c)) (go_keep)
      (first
        | (go_at_call 109; refine (degreeS_c m o xs.length c _ hml).mono ?_; rintro e wd1 ⟨rfl, hbd1⟩; have hd1 : Below w0.heap.size w0 wd1 := (by (repeat (first | exact bR _ _ | (refine bS ?_ _) | (refine bA ?_ _) | (refine bN ?_ _) | (refine bD ?_) | (refine bT ?_ hbd1)))); have hsd1 := hd1.size; have hsz1_ := hbd1.size; (try simp at hsz1_); obtain ⟨q1_X0_0, q1_X0_1⟩ := X0.below hd1 (Nat.le_refl _); have hne1_X0 : wd1.heap.size ≠ w.heap.size := (by omega); (try (have RZ := RZ.below hbd1 (Nat.le_refl _))); (try (have RZ := (show RB2 (w0.alloc (.cells #[.int .i64 0, .slice none 0 0] 28)).drew w0.heap.size (.int .i64 0) (.slice none 0 0) from RB2.mk1 w0 (.int .i64 0) (.slice none 0 0) _).below hbd1 (Nat.le_refl _))); (try (obtain ⟨⟨z1_0, z1_1⟩, zf1⟩ := id RZ)))
        | (go_at_call 92; refine (zero_c m ((xs.length : Int) - 1) xs.length _ (by omega) (by omega)).mono ?_; rintro e wd2 ⟨vz2, rfl, hod2, hbd2⟩; obtain ⟨oz, cz, rfl⟩ := hod2.shapeN (n := xs.length) (by simp); have hd2 : Below w0.heap.size w0 wd2 := (by (repeat (first | exact bR _ _ | (refine bS ?_ _) | (refine bA ?_ _) | (refine bN ?_ _) | (refine bD ?_) | (refine bT ?_ hbd1) | (refine bT ?_ hbd2)))); have hsd2 := hd2.size; have hsz2_ := hbd2.size; (try simp at hsz2_); obtain ⟨q2_X0_0, q2_X0_1⟩ := X0.below hd2 (Nat.le_refl _); have hne2_X0 : wd2.heap.size ≠ w.heap.size := (by omega); (try (have RZ := RZ.below hbd2 (Nat.le_refl _))); (try (have RZ := (show RB2 (wd1.alloc (.cells #[.int .i64 0, .slice none 0 0] 28)) wd1.heap.size (.int .i64 0) (.slice none 0 0) from RB2.mk1 wd1 (.int .i64 0) (.slice none 0 0) _).below hbd2 (Nat.le_refl _))); (try (obtain ⟨⟨z2_0, z2_1⟩, zf2⟩ := id RZ))))
    all_goals
      go_wp2_with fail
      go_meet
      have hL := hod2.lt
      refine ⟨_, _, oz, cz, rfl, rfl, ?_, ?_, ?_, ?_, ?_⟩
      · first | omega | (simp; done) | (simp; omega)
      · first | exact RB2.mk1 _ _ _ _ | exact RB2.put RZ _ _
      · first | exact (hod2.alloc _).mono (by first | (simp; done) | (simp; omega) | omega) | exact ((hod2.low (by first | (simp; done) | (simp; omega) | omega) _).low (by first | (simp; done) | (simp; omega) | omega) _).mono (by first | (simp; done) | (simp; omega) | omega)
      · intro k hk; have hq := hL k hk; first | omega | (simp at hq; omega)
      · (repeat (first | exact bR _ _ | (refine bS ?_ _) | (refine bA ?_ _) | (refine bN ?_ _) | (refine bD ?_) | (refine bT ?_ hbd1) | (refine bT ?_ hbd2)))
  case rest =>
  obtain ⟨w1, b, oz, cz, rfl, rfl, hbW, O, how, hneb, hb⟩ := hcut
  (have X1 := X0.below hb (Nat.le_refl _); have R1 := R0.below hb (Nat.le_refl _); have hv1 := hv0.below hb (Nat.le_refl _); have B1 := B0.trans (hb.mono B0.size))
  rw [sclTo_0 m (a % m) xs] at how
  obtain ⟨g, cap, hsl, hgl, hgl', -, -, -⟩ := how.opn (by rw [sclTo_len]; omega)
  obtain ⟨rfl, rfl⟩ : oz = some ⟨g, 0, none⟩ ∧ cz = cap := by simp at hsl; exact ⟨hsl.1, hsl.2.2⟩
  clear hsl
  have hgb := hneb g rfl
  clear hneb
  obtain ⟨bx, fx, rfl, hcx⟩ := hv.cells h1
  clear hcx
  have B1s := B1.size
  obtain ⟨x0, x1⟩ := id X1
  go_wp2_with fail
  clear x0 x1
  go_loopw [16] (fun i wr => ∃ k : Nat, k ≤ xs.length ∧ i = .int .i64 k ∧ OwI wr w0.heap.size (.slice (some ⟨g, 0, none⟩) xs.length cz) (sclTo m (a % m) xs k) ∧ w1.grownBy wr (some g)) (fun i _ => xs.length - (intOf i).toNat)
  case atStart => exact ⟨0, Nat.zero_le _, rfl, how, World.grownBy.refl _ _⟩
  case round =>
    obtain ⟨k, hk, rfl, hO, hg⟩ := hrel
    have Br := below_gr B1 hg (by omega) B1s
    by_cases hlt : k < xs.length
    · obtain ⟨x0, x1⟩ := X1.grown hg (by simp; omega)
      obtain ⟨⟨z0, z1⟩, zf⟩ := O.grown hg (by simp; omega)
      have cx := (hv.below Br (Nat.le_refl _)).cell0 (some_at0 hlt)
      have hxk := at0_range (by omega) hx k
      have hc0 := hO.cell (k := k) (mk_get hlt)
      have hf0 := hO.fz k
      have Hn := Lib.hid hO
      clear hO
      have i0 : (0 : Int) ≤ (k : Int) := by omega
      have i1 : (k : Int) < (xs.length : Int) := by omega
      go_wp2_with fail
      go_still_tail 12, (by kernel_rfl)
      still_call (stillC (mod_c _ _ _ (by omega) (by omega) (by omega) (by omega)))
      repeat still_step
      still_call (stillC (mul_c _ _ _ _ (by omega) hm' (by omega) (by omega) (by omega) (by omega)))
      repeat still_step
      refine wpStill_nil ?_
      change wpList _ _ _ _ _ wr.drew
      go_wp2
      have h2 := OwI.put Hn.out k (a % m * at0 xs k % m)
      rw [sclTo_set] at h2
      exact ⟨⟨k + 1, by omega, by go_num, h2, gr_drew (gr_put hg _ _)⟩, by simp [intOf]; omega⟩
    · obtain rfl : k = xs.length := by omega
      rw [sclTo_all] at hO
      obtain ⟨⟨z0, z1⟩, zf⟩ := O.grown hg (by simp; omega)
      obtain ⟨⟨r0, r1⟩, rf⟩ := R1.grown hg (by simp; omega)
      go_wp2
      refine bodyPost_ret (v := .agg #[.int .i64 m, .slice (some ⟨g, 0, none⟩) xs.length cz]) (by simp [results, Tryz.results135, go_sem, r0, r1]) rfl ⟨_, rfl, ?_, ?_⟩
      · exact ((hO.low (by first | (simp; done) | (simp; omega) | omega) _).low (by first | (simp; done) | (simp; omega) | omega) _).mono (by first | (simp; done) | (simp; omega) | omega)
      · (repeat (first | exact bR _ _ | (refine bS ?_ _) | (refine bA ?_ _) | (refine bN ?_ _) | (refine bD ?_) | (refine bT ?_ Br)))

set_option maxHeartbeats 1000000 in
set_option maxRecDepth 100000 in
theorem l02Scale_c (m a : Int) (v : Value) (xs : List Int) (w : World) (hv : RdI w v xs) (hn : xs.length ≤ 1048576) (hm : 2 ≤ m) (hm' : m ≤ 3000000000) (ha : 0 ≤ a) (ha' : a < m)
    (hx : ∀ x ∈ xs, 0 ≤ x ∧ x < m) :
    Calls Tryz.prog 123 #[.int .i64 m, .int .i64 a, v] w fun e w' => ∃ v', e = .returned v' ∧ OwI w' w.heap.size v' (scaleL m a xs) ∧ Below w.heap.size w w' := by
  obtain ⟨o, c, rfl, hmx, -⟩ := id hv
  have hml := hmx.1
  unfold maxLen at hmx
  have m0 : (m == 0) = false := by simp; omega
  have m1 : ¬ m = 0 := by omega
  rw [scaleL_mk]
  go_enter Tryz.func123, Tryz.ntmps123
  go_wp2_with fail
  have O1 := OwI.lit w [] (by decide)
  have B1 : Below w.heap.size w (w.alloc (.cells #[] 2)) := (by (repeat (first | exact bR _ _ | (refine bS ?_ _) | (refine bA ?_ _) | (refine bN ?_ _) | (refine bD ?_))))
  simp at O1
  generalize w.alloc (.cells #[] 2) = w1 at O1 B1 ⊢
  go_loopw [7, 8] (fun s i wr => ∃ k : Nat, k ≤ xs.length ∧ i = .int .i64 k ∧ OwI wr w.heap.size s (mk k (fun j => a * at0 xs j % m)) ∧ Below w.heap.size w wr) (fun _ i _ => xs.length - (intOf i).toNat)
  case atStart => exact ⟨0, Nat.zero_le _, rfl, O1, B1⟩
  case round =>
    obtain ⟨k, hk, rfl, hO, hB⟩ := hrel
    obtain ⟨ov, cv, rfl⟩ := hO.shapeN (n := k) (mk_len _ _)
    by_cases hlt : k < xs.length
    · obtain ⟨bx, fx, rfl, -⟩ := hv.cells (by omega)
      have cx := (hv.below hB (Nat.le_refl _)).cell0 (some_at0 hlt)
      have hxk := at0_range (by omega) hx k
      have hpf := prod_fits ha hxk.1 ha' hxk.2 (by omega)
      have HS := Lib.hid (mk_snoc k (fun j => a * at0 xs j % m))
      have hBs := hB.size
      have i0 : (0 : Int) ≤ (k : Int) := by omega
      have i1 : (k : Int) < (xs.length : Int) := by omega
      have e1 : IntKind.i64.wrap (a * at0 xs k) = a * at0 xs k := IntWalk.i64_in _ (by omega)
      have e2 : (a * at0 xs k).tmod m = (a * at0 xs k) % m := Int.tmod_eq_emod_of_nonneg (by omega)
      go_wp2_with (at_builtin; refine apI wr rfl _ _ rfl w.heap.size (.slice ov k cv) _ rfl hO (a * at0 xs k % m) (by go_simp) (by rw [mk_len]; omega) (by omega) ?_; intro v' w4 hO3 hgr hb3 hlt3; clear hgr)
      rw [← HS.out] at hO3
      go_wp2
      exact ⟨⟨k + 1, by omega, by go_num, hO3, hB.trans hb3⟩, by simp [intOf]; omega⟩
    · obtain rfl : k = xs.length := by omega
      go_wp2
      go_ret
      exact ⟨_, rfl, hO, hB⟩

end Go.Proofs.YtoednonijmkbjaaGreat
set_option linter.unusedSimpArgs false
set_option linter.unusedVariables false
namespace Go.Proofs.YtoednonijmkbjaaGreat
open Go.RowKit

set_option maxHeartbeats 1000000 in
set_option maxRecDepth 100000 in
theorem l03Scale_c (m a : Int) (v : Value) (xss : List (List Int)) (w : World) (hv : RdT w v xss) (hm : 2 ≤ m) (hm' : m ≤ 3000000000) (ha : 0 ≤ a) (ha' : a < m) (hn : xss.length ≤ 1000)
    (hx : ∀ i (hi : i < xss.length), xss[i].length = xss.length - i ∧ ∀ x ∈ xss[i], 0 ≤ x ∧ x < m) :
    Calls Tryz.prog 85 #[.int .i64 m, .int .i64 a, v] w fun e w' => ∃ v', e = .returned v' ∧ OwS w' w.heap.size v' (scaT m xss.length a xss) ∧ Below w.heap.size w w' := by
  obtain ⟨o, c, rfl, hmx, -⟩ := id hv
  unfold maxLen at hmx
  have HX := Lib.hid hx
  clear hx
  go_enter Tryz.func85, Tryz.ntmps85
  go_wp2_with fail
  have O1 := OwS.lit0 w
  have B1 : Below w.heap.size w (w.alloc (.cells #[] 26)) := (by (repeat (first | exact bR _ _ | (refine bS ?_ _) | (refine bA ?_ _) | (refine bN ?_ _) | (refine bD ?_))))
  generalize w.alloc (.cells #[] 26) = w1 at O1 B1 ⊢
  go_loopw [7, 8] (fun s i wr => ∃ (k : Nat) (ov : Option Addr) (cv : Nat), k ≤ xss.length ∧ i = .int .i64 k ∧ s = .slice ov k cv ∧ OwS wr w.heap.size (.slice ov k cv) ((List.range k).map (fun i => mk (xss.length - i) ((fun i j => (a * atT xss i j) % m) i))) ∧ Below w.heap.size w wr) (fun _ i _ => xss.length - (intOf i).toNat)
  case atStart => exact ⟨0, _, _, Nat.zero_le _, rfl, rfl, O1, B1⟩
  case round =>
    clear O1 B1
    obtain ⟨k, ov, cv, hk, rfl, rfl, hO, hB⟩ := hrel
    by_cases hlt : k < xss.length
    · have hxl := (HX.out k hlt).1
      have HE := Lib.hid (show scaleL m a xss[k] = mk (xss.length - k) (fun j => (a * atT xss k j) % m) by
        rw [scaleL_mk, hxl]; exact mk_ext fun j _ => by rw [atT_row hlt])
      have hrn : xss[k].length ≤ 1000 := by omega
      have HEl := Lib.hid (scaleL_len m a xss[k])
      clear hxl
      obtain ⟨bx, fx, rfl, -⟩ := hv.rows (by omega)
      obtain ⟨o1, c1, cx0, rx0⟩ := hv.row (show xss[k]? = some xss[k] by simp [hlt])
      have cx := keep_cell hB (Nat.le_refl _) cx0
      have rx := rx0.below hB (Nat.le_refl _)
      have hBs := hB.size
      have HS := Lib.hid (tri_snoc_rows xss.length k (fun i j => (a * atT xss i j) % m))
      have HLn := Lib.hid (show ((List.range k).map (fun i => mk (xss.length - i) ((fun i j => (a * atT xss i j) % m) i))).length = k by simp)
      generalize (List.range k).map (fun i => mk (xss.length - i) ((fun i j => (a * atT xss i j) % m) i)) = l at hO HS HLn
      have i0 : (0 : Int) ≤ (k : Int) := by omega
      have i1 : (k : Int) < (xss.length : Int) := by omega
      go_wp2_with fail
      refine (l02Scale_c m a _ xss[k] _ rx (by omega) hm (by omega) ha ha' (HX.out k hlt).2).mono ?_
      rintro e w2 ⟨va, rfl, how, hb2⟩
      obtain ⟨oa, ca, rfl⟩ := how.shapeN (n := xss[k].length) HEl.out
      have hz2 := hb2.size
      go_wp2_with (at_builtin; obtain ⟨W, hW⟩ : ∃ W : World, W = w2.alloc (.cells #[.slice oa xss[k].length ca] 26) := ⟨_, rfl⟩; have hWs : W.heap.size = w2.heap.size + 1 := (by rw [hW]; simp); have hT : OwSR w.heap.size wr.heap.size W (.slice ov k cv) l := (by rw [hW]; exact hO.toR.stay (fun j _ hj => (Below.heap_alloc _ _ j (by omega)).trans (hb2.block j hj))); have hU : OwI W wr.heap.size (.slice oa xss[k].length ca) (scaleL m a xss[k]) := (by rw [hW]; exact how.alloc _); have hC : W.cell? ⟨w2.heap.size, 0, none⟩ = some (.slice oa xss[k].length ca) := (by rw [hW]; simp); have B3 : Below w.heap.size w W := (by rw [hW]; exact hB.trans ((((Below.refl wr.heap.size wr).trans hb2).alloc hz2 _).mono hBs)); rw [← hW]; have HW := Lib.hid hW; clear hW; go_loud (refine apT W rfl _ _ rfl w.heap.size wr.heap.size (.slice ov k cv) l rfl hT (by omega) hBs _ _ w2.heap.size rfl hC hU (by rw [HLn.out]; omega) ?_; intro g cap w3 hO3 hgr hb3; clear hgr; have B4 := B3.trans hb3))
      rw [HE.out, HLn.out, ← HS.out] at hO3
      exact ⟨⟨k + 1, _, _, by omega, by go_num, by rw [HLn.out], hO3, B4⟩, by simp [intOf]; omega⟩
    · obtain rfl : k = xss.length := by omega
      go_wp2
      go_ret
      exact ⟨_, rfl, hO, hB⟩
end Go.Proofs.YtoednonijmkbjaaGreat
