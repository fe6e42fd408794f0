/- Lemmas. -/
import Derived.Test.YteijannfbafdpaaGreatDoorSZM14
import Derived.Test.YteijannfbafdpaaGreatDoorSZM10
import Derived.Test.YteijannfbafdpaaGreatDoorSZG1
import Derived.Test.YteijannfbafdpaaGreatDoorSZG2
import Derived.Deep.RegionHeld3
import Derived.Deep.DeepCutAuto
import Derived.Test.YteijannfbafdpaaGreatDoorSZG3
/- The powers of a plane: the program's function. -/
set_option linter.unusedSimpArgs false
set_option linter.unusedVariables false
namespace Go.Proofs.YteijannfbafdpaaGreatDoor
open Go.RowKit

set_option maxHeartbeats 1000000 in
set_option maxRecDepth 100000 in
theorem powersP_c (m : Int) (n : Nat) (v : Value) (t : List (List Int)) (w : World) (hv : RdT w v t) (h1 : 1 ≤ n) (hn : n ≤ 1000) (hm : 2 ≤ m) (hm' : m ≤ 3000000000)
    (ht : PlaT m n t) :
    Calls Tryz.prog 100 #[.agg #[.int .i64 m, v]] w fun e w' => ∃ v', e = .returned v' ∧ OwLP w' w.heap.size v' m (powsT m n t n) ∧ Below w.heap.size w w' := by
  obtain ⟨o, c, rfl, hmx, -⟩ := id hv
  have hu : RdT w (.slice o n c) t := by rw [ht.1] at hv; exact hv
  rw [ht.1] at hmx ⊢
  clear hv
  have hml := hmx.1
  unfold maxLen at hmx
  have HT := Lib.hid ht
  clear ht
  go_enter Tryz.func100, Tryz.ntmps100
  go_wp2_with fail
  (obtain ⟨w0, hw0⟩ : ∃ W : World, W = (w.alloc (.cells #[.int .i64 m, .slice o n c] 28)) := ⟨_, rfl⟩; have X0 := (RB2.mk1 w  (.int .i64 m) (.slice o n c) 28).1.below (w' := w0) (by rw [hw0]; (repeat (first | exact bR _ _ | (refine bS ?_ _) | (refine bA ?_ _) | (refine bN ?_ _) | (refine bD ?_)))) (Nat.le_refl _); have B0 : Below w.heap.size w w0 := (by rw [hw0]; (repeat (first | exact bR _ _ | (refine bS ?_ _) | (refine bA ?_ _) | (refine bN ?_ _) | (refine bD ?_)))); have hu0 := hu.below (w' := w0) (by rw [hw0]; (repeat (first | exact bR _ _ | (refine bS ?_ _) | (refine bA ?_ _) | (refine bN ?_ _) | (refine bD ?_)))) (Nat.le_refl _); rw [← hw0]; clear hw0)
  obtain ⟨x0, x1⟩ := id X0
  go_wp2_with fail
  refine (number_c m 1 o n c _ h1 hn hm (by omega) (by omega) (by omega)).mono ?_
  rintro e w1 ⟨vz, rfl, how, hb⟩
  obtain ⟨oz, cz, rfl⟩ := how.shapeN (n := n) (numbT_len _ _ _)
  (have X1 := X0.below hb (Nat.le_refl _); have hu1 := hu0.below hb (Nat.le_refl _); have B1 := B0.trans (hb.mono B0.size))
  have hb1 := hb.size
  have hB0 := B0.size
  have OL := OwLP.lit1 w1 m _ _ how.rds hb1
  rw [show [numbT m 1 n] = powsT m n t 1 from rfl] at OL
  clear x0 x1 hb
  obtain ⟨x0, x1⟩ := id X1
  have lX := X1.lt
  go_wp2_with fail
  have hb : Below w1.heap.size w1 (w1.alloc (.cells #[.int .i64 m, .slice oz n cz] 28)) := (by (repeat (first | exact bR _ _ | (refine bS ?_ _) | (refine bA ?_ _) | (refine bN ?_ _) | (refine bD ?_))))
  (have X2 := X1.below hb (Nat.le_refl _); have hu2 := hu1.below hb (Nat.le_refl _); have B2 := B1.trans (hb.mono B1.size))
  clear x0 x1 X1 hu1 hb lX
  generalize w1.alloc (.cells #[.int .i64 m, .slice oz n cz] 28) = w2 at X2 hu2 B2 OL ⊢
  refine (degreeP_c m o n c _ hml).mono ?_
  rintro e w3 ⟨rfl, hb⟩
  (have X3 := X2.below hb (Nat.le_refl _); have hu3 := hu2.below hb (Nat.le_refl _); have B3 := B2.trans (hb.mono B2.size))
  have OL3 := (OL.below hb).mono (show w.heap.size + 1 ≤ w0.heap.size from X0.lt)
  have B3s := B3.size
  clear OL hb how
  go_wp2_with fail
  go_loopw [3, 9] (fun s i wr => ∃ (k : Nat) (ov : Option Addr) (cv : Nat), k + 1 ≤ n ∧ i = .int .i64 k ∧ s = .slice ov (k + 1) cv ∧ OwLP wr (w.heap.size + 1) (.slice ov (k + 1) cv) m (powsT m n t (k + 1)) ∧ Below w.heap.size w wr ∧ Box2 wr w.heap.size (.int .i64 m) (.slice o n c)) (fun _ i _ => n - 1 - (intOf i).toNat)
  case atStart => exact ⟨0, _, _, h1, rfl, rfl, OL3, B3, X3⟩
  case round =>
    obtain ⟨k, ov, cv, hk, rfl, rfl, hO, hB, hX⟩ := hrel
    have hBs := hB.size
    by_cases hlt : k + 1 < n
    · obtain ⟨q, hq⟩ : ∃ q, q = k + 1 := ⟨_, rfl⟩
      rw [← hq] at hO ⊢
      obtain ⟨bo, off, rfl⟩ := hO.rd.base (by rw [powsT_len]; omega)
      obtain ⟨o1, c1, y0, y1, hr⟩ := hO.rd.at (powsT_get (show k < q by omega))
      rw [powT_len] at y1 hr
      have hvr := hu.below hB (Nat.le_refl _)
      obtain ⟨x0, x1⟩ := id hX
      have HS := Lib.hid (powsT_snoc m n t q)
      have hlt2 := Lib.hid hO.lt
      have i0 : (0 : Int) ≤ (k : Int) := by omega
      have i1 : (k : Int) < (q : Int) := by omega
      have i2 : (k : Int) < (n : Int) - 1 := by omega
      have i3 : (1 : Int) ≤ (q : Int) := by omega
      have i4 : (q : Int) - 1 < (q : Int) := by omega
      have i5 : ((q : Int) - 1).toNat = k := by omega
      have e0 : IntKind.i64.wrap ((q : Int) - 1) = (q : Int) - 1 := IntWalk.i64_in _ (by omega)
      have ly := cell_lt y0
      have HQ := Lib.hid hq
      have hPq : powT m n t (k + 1) = powT m n t q := by rw [hq]
      rw [show powT m n t q = powT m n t (k + 1) by rw [hq]] at HS
      clear hPq hq
      have lx := hX.lt
      go_wp2_with fail
      have hd0 : Below wr.heap.size wr wr.drew := (Below.refl _ _).drew
      have hsd0 := hd0.size
      refine wp_region_K (S := fun w' => w'.cell? ⟨bo, off + k * 2, none⟩ = some (.int .i64 m) ∧ w'.cell? ⟨bo, off + k * 2 + 1, none⟩ = some (.slice o1 n c1) ∧ w'.cell? ⟨w.heap.size, 0, none⟩ = some (.int .i64 m) ∧ w'.cell? ⟨w.heap.size, 1, none⟩ = some (.slice o n c)) [0, 8, 9, 10, 11] (by kernel_rfl) ?_
      have hHeld : (fun w' : World => w'.cell? ⟨bo, off + k * 2, none⟩ = some (.int .i64 m) ∧ w'.cell? ⟨bo, off + k * 2 + 1, none⟩ = some (.slice o1 n c1) ∧ w'.cell? ⟨w.heap.size, 0, none⟩ = some (.int .i64 m) ∧ w'.cell? ⟨w.heap.size, 1, none⟩ = some (.slice o n c)) wr.drew := by go_keep
      refine' wpAnyK_pureL (i := 0) (v := _) rfl (by kernel_rfl) (by kernel_rfl) (by kernel_rfl) (by kernel_rfl) (fun _ _ _ h => h) (Or.inl ⟨by rfl, ?yT1⟩) ?rT1
      case yT1 => (intro w' _; go_simp; try with_reducible rfl)
      try simp only [List.getElem_toArray, List.getElem_cons_zero, List.getElem_cons_succ, Act.put, List.setIfInBounds_toArray, List.set_cons_zero, List.set_cons_succ]
      refine' wpAnyK_takeL (i := 1) (v := _) rfl (by kernel_rfl) (by kernel_rfl) (by kernel_rfl) (by kernel_rfl) (fun _ _ _ h => h) (Or.inl ⟨by rfl, ?yT2⟩) hHeld ?rT2
      case yT2 => (intro w' hSw; (try dsimp only at hSw); go_simp; try with_reducible rfl)
      try simp only [List.getElem_toArray, List.getElem_cons_zero, List.getElem_cons_succ, Act.put, List.setIfInBounds_toArray, List.set_cons_zero, List.set_cons_succ]
      refine' wpAnyK_takeL (i := 2) (v := _) rfl (by kernel_rfl) (by kernel_rfl) (by kernel_rfl) (by kernel_rfl) (fun _ _ _ h => h) (Or.inl ⟨by rfl, ?yT3⟩) hHeld ?rT3
      case yT3 => (intro w' hSw; (try dsimp only at hSw); go_simp; try with_reducible rfl)
      try simp only [List.getElem_toArray, List.getElem_cons_zero, List.getElem_cons_succ, Act.put, List.setIfInBounds_toArray, List.set_cons_zero, List.set_cons_succ]
      refine' wpAnyK_takeL (i := 3) (v := _) rfl (by kernel_rfl) (by kernel_rfl) (by kernel_rfl) (by kernel_rfl) (fun _ _ _ h => h) (Or.inl ⟨by rfl, ?yT4⟩) hHeld ?rT4
      case yT4 => (intro w' hSw; (try dsimp only at hSw); go_simp; try with_reducible rfl)
      try simp only [List.getElem_toArray, List.getElem_cons_zero, List.getElem_cons_succ, Act.put, List.setIfInBounds_toArray, List.set_cons_zero, List.set_cons_succ]
      refine' wpAnyK_takeL (i := 4) (v := _) rfl (by kernel_rfl) (by kernel_rfl) (by kernel_rfl) (by kernel_rfl) (fun _ _ _ h => h) (Or.inl ⟨by rfl, ?yT5⟩) hHeld ?rT5
      case yT5 => (intro w' hSw; (try dsimp only at hSw); go_simp; try with_reducible rfl)
      try simp only [List.getElem_toArray, List.getElem_cons_zero, List.getElem_cons_succ, Act.put, List.setIfInBounds_toArray, List.set_cons_zero, List.set_cons_succ]
      refine' wpAnyK_takeL (i := 5) (v := _) rfl (by kernel_rfl) (by kernel_rfl) (by kernel_rfl) (by kernel_rfl) (fun _ _ _ h => h) (Or.inl ⟨by rfl, ?yT6⟩) hHeld ?rT6
      case yT6 => (intro w' hSw; (try dsimp only at hSw); go_simp; try with_reducible rfl)
      try simp only [List.getElem_toArray, List.getElem_cons_zero, List.getElem_cons_succ, Act.put, List.setIfInBounds_toArray, List.set_cons_zero, List.set_cons_succ]
      refine' wpAnyK_takeL (i := 6) (v := _) rfl (by kernel_rfl) (by kernel_rfl) (by kernel_rfl) (by kernel_rfl) (fun _ _ _ h => h) (Or.inl ⟨by rfl, ?yT7⟩) hHeld ?rT7
      case yT7 => (intro w' hSw; (try dsimp only at hSw); go_simp; try with_reducible rfl)
      try simp only [List.getElem_toArray, List.getElem_cons_zero, List.getElem_cons_succ, Act.put, List.setIfInBounds_toArray, List.set_cons_zero, List.set_cons_succ]
      refine' wpAnyK_takeL (i := 7) (v := _) rfl (by kernel_rfl) (by kernel_rfl) (by kernel_rfl) (by kernel_rfl) (fun _ _ _ h => h) (Or.inl ⟨by rfl, ?yT8⟩) hHeld ?rT8
      case yT8 => (intro w' hSw; (try dsimp only at hSw); go_simp; try with_reducible rfl)
      try simp only [List.getElem_toArray, List.getElem_cons_zero, List.getElem_cons_succ, Act.put, List.setIfInBounds_toArray, List.set_cons_zero, List.set_cons_succ]
      refine wpAnyK_oneL (i := 8) rfl (by kernel_rfl) (fun K hK => ?_)
      go_simp
      go_at_call 90
      refine (timesP_c m m n _ _ (powT m n t k) t _ ((hr).below (by (repeat (first | exact bR _ _ | (refine bS ?_ _) | (refine bA ?_ _) | (refine bN ?_ _) | (refine bD ?_)))) (Nat.le_refl _)) ((hvr).below (by (repeat (first | exact bR _ _ | (refine bS ?_ _) | (refine bA ?_ _) | (refine bN ?_ _) | (refine bD ?_)))) (Nat.le_refl _)) h1 hn hm hm' (powT_ok (by omega) _ _ _) HT.out).mono ?_
      rintro e wd1 ⟨va, rfl, hod1, hbd1⟩
      obtain ⟨oa, ca, rfl⟩ := hod1.shapeN (n := n) (timesT_len _ _ _ _)
      have hd1 : Below wr.heap.size wr wd1 := (by (repeat (first | exact bR _ _ | (refine bS ?_ _) | (refine bA ?_ _) | (refine bN ?_ _) | (refine bD ?_) | (refine bT ?_ hbd1))))
      have hsd1 := hd1.size
      have hsz1_ := hbd1.size
      (try simp at hsz1_)
      go_wp2_with fail
      refine hK.out _ _ (fun h => absurd h (by decide)) ?_
      clear hK K
      try simp only [List.getElem_toArray, List.getElem_cons_zero, List.getElem_cons_succ, Act.put, List.setIfInBounds_toArray, List.set_cons_zero, List.set_cons_succ]
      refine wpAnyK_oneL (i := 9) rfl (by kernel_rfl) (fun K hK => ?_)
      go_simp
      (try go_wp2_with fail)
      refine hK.out _ _ (fun h => absurd h (by decide)) ?_
      clear hK K
      try simp only [List.getElem_toArray, List.getElem_cons_zero, List.getElem_cons_succ, Act.put, List.setIfInBounds_toArray, List.set_cons_zero, List.set_cons_succ]
      refine wpAnyK_oneL (i := 10) rfl (by kernel_rfl) (fun K hK => ?_)
      have how' : OwS wd1 wr.heap.size (.slice oa n ca) (powT m n t (k + 1)) := hod1
      obtain ⟨W, hW⟩ : ∃ W : World, W = wd1.alloc (.cells #[.int .i64 m, .slice oa n ca] 28) := ⟨_, rfl⟩
      have hWb1 : Below wd1.heap.size wd1 W := (by rw [hW]; exact (by (repeat (first | exact bR _ _ | (refine bS ?_ _) | (refine bA ?_ _) | (refine bN ?_ _) | (refine bD ?_)))))
      have hT : OwLP W (w.heap.size + 1) (.slice (some ⟨bo, off, none⟩) q cv) m (powsT m n t q) := (hO.below hd1).below hWb1
      have hU : Rds wr.heap.size wd1.heap.size W (fun x => RdT x (.slice oa n ca) (powT m n t (k + 1))) := how'.rds.below hWb1
      have hC0 : W.cell? ⟨wd1.heap.size, 0, none⟩ = some (.int .i64 m) := (by rw [hW]; simp)
      have hC1 : W.cell? ⟨wd1.heap.size, 1, none⟩ = some (.slice oa n ca) := (by rw [hW]; simp)
      have hWb := hd1.trans (hWb1.mono hsd1)
      have hWz := hWb.size
      rw [← hW]
      have HW := Lib.hid hW
      clear hW
      refine stLP W rfl _ _ rfl (w.heap.size + 1) (.slice (some ⟨bo, off, none⟩) q cv) m (powsT m n t q) rfl hT (by omega) _ (powT m n t (k + 1)) wd1.heap.size rfl hC0 hC1 rfl ⟨_, _, by omega, hU, fun b hb => .inl (hlt2.out b hb).2⟩ (by rw [powsT_len]; omega) ?_
      intro g cap w5 hO5 hgr hb5
      have B5 := (hB.trans (hWb.mono hBs)).trans (hb5.mono (by omega))
      have hX5 := ((hX.below hWb (Nat.le_refl _)).grown hgr (fun hb => by have := hlt2.out _ hb.symm; omega))
      refine hK.out _ _ (fun h => absurd h (by decide)) ?_
      clear hK K
      try simp only [List.getElem_toArray, List.getElem_cons_zero, List.getElem_cons_succ, Act.put, List.setIfInBounds_toArray, List.set_cons_zero, List.set_cons_succ]
      refine wpAnyK_oneL (i := 11) rfl (by kernel_rfl) (fun K hK => ?_)
      go_simp
      (try go_wp2_with fail)
      refine hK.out _ _ (fun h => absurd h (by decide)) ?_
      clear hK K
      try simp only [List.getElem_toArray, List.getElem_cons_zero, List.getElem_cons_succ, Act.put, List.setIfInBounds_toArray, List.set_cons_zero, List.set_cons_succ]
      refine wpAnyK_done (by kernel_rfl) ?_ _
      go_wp2_with fail
      rw [powsT_len, ← HS.out] at hO5
      have hq := HQ.out
      go_wp2
      exact ⟨⟨k + 1, _, _, by omega, by go_num, by rw [powsT_len, hq], by rw [hq] at hO5; exact hO5, B5, hX5⟩, by simp [intOf]; omega⟩
    · obtain hk1 : k + 1 = n := by omega
      rw [congrArg (powsT m n t) hk1] at hO
      clear hk1
      go_wp2
      go_ret
      exact ⟨_, rfl, hO.mono (by omega), hB⟩

end Go.Proofs.YteijannfbafdpaaGreatDoor

/- The defects of a law: the program's closure. -/
set_option linter.unusedSimpArgs false
set_option linter.unusedVariables false
namespace Go.Proofs.YteijannfbafdpaaGreatDoor
open Go.RowKit

set_option maxHeartbeats 2000000 in
set_option maxRecDepth 100000 in
theorem defects1_c (m : Int) (n : Nat) (t : List (List Int)) (bd bf bp : Nat) (o op : Option Addr) (k kp : Nat) (a b c : Nat) (w : World) (hd : w.cell? ⟨bd, 0, none⟩ = some (.int .i64 ((n : Int) - 1))) (hf : Box2 w bf (.int .i64 m) (.slice o n k)) (hv : RdT w (.slice o n k) t)
    (hp : w.cell? ⟨bp, 0, none⟩ = some (.slice op n kp)) (hP : RdLP w (.slice op n kp) m (powsT m n t n)) (h1 : 1 ≤ n) (hn : n ≤ 1000) (hm : 2 ≤ m) (hm' : m ≤ 10000) (ht : PlaT m n t) (habc : a + b + c < n) :
    Calls Tryz.prog 101 #[.int .i64 a, .int .i64 b, .int .i64 c, .pointer (some ⟨bd, 0, none⟩), .pointer (some ⟨bf, 0, none⟩), .pointer (some ⟨bp, 0, none⟩)] w fun e w' => e = .returned (.int .i64 (defC m n t a b c)) ∧ ∃ d, w' = w.drewN d := by
  obtain ⟨bt, ft, rfl, -⟩ := hv.rows (by rw [ht.1]; omega)
  obtain ⟨bl, fl, rfl⟩ := hP.base (by rw [powsT_len]; omega)
  have HT := Lib.hid ht
  clear ht
  have m0 : (m == 0) = false := by simp; omega
  have m1 : ¬ m = 0 := by omega
  have a0 : (0 : Int) ≤ (a : Int) := by omega
  have b0 : (0 : Int) ≤ (b : Int) := by omega
  have c0 : (0 : Int) ≤ (c : Int) := by omega
  have ed : IntKind.i64.wrap ((n : Int) - 1 - (c : Int)) = (n : Int) - 1 - (c : Int) := IntWalk.i64_in _ (by omega)
  have ed' : IntKind.i64.wrap ((n : Int) - 1 - (a : Int)) = (n : Int) - 1 - (a : Int) := IntWalk.i64_in _ (by omega)
  go_enter Tryz.func101, Tryz.ntmps101
  go_wp2_with fail
  go_loopw [10, 12] (fun s i wr => ∃ j : Nat, j ≤ n - c ∧ i = .int .i64 j ∧ s = .int .i64 (lefS m n t a b c j) ∧ ∃ d, wr = w.drewN d) (fun _ i _ => n - c - (intOf i).toNat)
  case atStart => exact ⟨0, Nat.zero_le _, rfl, rfl, 0, rfl⟩
  case round =>
    obtain ⟨j, hj, rfl, rfl, d, rfl⟩ := hrel
    obtain ⟨f0, f1⟩ := id hf
    by_cases hlt : j < n - c
    · obtain ⟨r1, hr1, hl1, hj1⟩ := HT.out.row (show j < n by omega)
      obtain ⟨p1, q1, cx, rx⟩ := hv.row hr1
      rw [hl1] at cx rx
      obtain ⟨b1, f1', rfl, -⟩ := rx.cells (by omega)
      have ex := rx.cell0 (hj1 c (by omega))
      obtain ⟨o2, k2, y0, y1, hQ⟩ := hP.at (powsT_get (show j < n by omega))
      rw [powT_len] at y1 hQ
      obtain ⟨b2, f2, rfl, -⟩ := hQ.rows (by rw [powT_len]; omega)
      have hok := powT_ok (m := m) (by omega) n t j
      obtain ⟨r2, hr2, hl2, hj2⟩ := hok.row (show a < n by omega)
      obtain ⟨p2, q2, cy, ry⟩ := hQ.row hr2
      rw [hl2] at cy ry
      obtain ⟨b3, f3, rfl, -⟩ := ry.cells (by omega)
      have ey := ry.cell0 (hj2 b (by omega))
      obtain ⟨-, -, -, -, hxa, hxb⟩ := HT.out.at (i := j) (j := c) (by omega)
      obtain ⟨-, -, -, -, hya, hyb⟩ := hok.at (i := a) (j := b) (by omega)
      obtain ⟨hS0, hS1⟩ := sumR_bound (m := m) (by omega) hm' (fun i => atT t i c * atT (powT m n t i) a b) j
      have HS := Lib.hid (lefS_step m n t a b c j)
      change 0 ≤ lefS m n t a b c j at hS0
      change lefS m n t a b c j ≤ _ at hS1
      clear hr1 hl1 hj1 hr2 hl2 hj2 hok
      generalize lefS m n t a b c j = S at hS0 hS1 HS ⊢
      generalize hX' : atT t j c = X at ex hxa hxb HS
      generalize hY' : atT (powT m n t j) a b = Y at ey hya hyb HS
      clear hX' hY'
      obtain ⟨hM0, hM1⟩ := prod_fits hxa hya hxb hyb (show m ≤ 3000000000 by omega)
      have hMm := mod_lt' (a := X * Y) (show 0 < m by omega)
      have j0 : (0 : Int) ≤ (j : Int) := by omega
      have j1 : (j : Int) < (n : Int) := by omega
      have j2 : (j : Int) ≤ (n : Int) - 1 - (c : Int) := by omega
      have j3 : (c : Int) < ((n - j : Nat) : Int) := by omega
      have j4 : (a : Int) < (n : Int) := by omega
      have j5 : (b : Int) < ((n - a : Nat) : Int) := by omega
      go_wp2_with fail
      have e1 : IntKind.i64.wrap (X * Y) = X * Y := IntWalk.i64_in _ (by omega)
      have e2 : (X * Y).tmod m = X * Y % m := Int.tmod_eq_emod_of_nonneg (by omega)
      have e3 : IntKind.i64.wrap (S + X * Y % m) = S + X * Y % m := IntWalk.i64_in _ (by omega)
      go_quiet (fail)
      go_wp2
      exact ⟨⟨j + 1, by omega, by go_num, by rw [HS.out], _, rfl⟩, by simp [intOf]; omega⟩
    · obtain rfl : j = n - c := by omega
      have j2 : ¬ ((n - c : Nat) : Int) ≤ (n : Int) - 1 - (c : Int) := by omega
      go_wp2_with fail
      go_loopw [11, 13] (fun s i wr => ∃ j : Nat, j ≤ n - a ∧ i = .int .i64 j ∧ s = .int .i64 (rigS m n t a b c j) ∧ ∃ d, wr = w.drewN d) (fun _ i _ => n - a - (intOf i).toNat)
      case atStart => exact ⟨0, Nat.zero_le _, rfl, rfl, d, rfl⟩
      case round =>
        obtain ⟨j, hj, rfl, rfl, d, rfl⟩ := hrel
        by_cases hlt : j < n - a
        · obtain ⟨r1, hr1, hl1, hj1⟩ := HT.out.row (show a < n by omega)
          obtain ⟨p1, q1, cx, rx⟩ := hv.row hr1
          rw [hl1] at cx rx
          obtain ⟨b1, f1', rfl, -⟩ := rx.cells (by omega)
          have ex := rx.cell0 (hj1 j (by omega))
          obtain ⟨o2, k2, y0, y1, hQ⟩ := hP.at (powsT_get (show j < n by omega))
          rw [powT_len] at y1 hQ
          obtain ⟨b2, f2, rfl, -⟩ := hQ.rows (by rw [powT_len]; omega)
          have hok := powT_ok (m := m) (by omega) n t j
          obtain ⟨r2, hr2, hl2, hj2⟩ := hok.row (show b < n by omega)
          obtain ⟨p2, q2, cy, ry⟩ := hQ.row hr2
          rw [hl2] at cy ry
          obtain ⟨b3, f3, rfl, -⟩ := ry.cells (by omega)
          have ey := ry.cell0 (hj2 c (by omega))
          obtain ⟨-, -, -, -, hxa, hxb⟩ := HT.out.at (i := a) (j := j) (by omega)
          obtain ⟨-, -, -, -, hya, hyb⟩ := hok.at (i := b) (j := c) (by omega)
          obtain ⟨hS0, hS1⟩ := sumR_bound (m := m) (by omega) hm' (fun j => atT t a j * atT (powT m n t j) b c) j
          have HS := Lib.hid (rigS_step m n t a b c j)
          change 0 ≤ rigS m n t a b c j at hS0
          change rigS m n t a b c j ≤ _ at hS1
          clear hr1 hl1 hj1 hr2 hl2 hj2 hok
          generalize rigS m n t a b c j = S at hS0 hS1 HS ⊢
          generalize hX' : atT t a j = X at ex hxa hxb HS
          generalize hY' : atT (powT m n t j) b c = Y at ey hya hyb HS
          clear hX' hY'
          obtain ⟨hM0, hM1⟩ := prod_fits hxa hya hxb hyb (show m ≤ 3000000000 by omega)
          have hMm := mod_lt' (a := X * Y) (show 0 < m by omega)
          have j0 : (0 : Int) ≤ (j : Int) := by omega
          have j1 : (j : Int) < (n : Int) := by omega
          have j2 : (j : Int) ≤ (n : Int) - 1 - (a : Int) := by omega
          have j3 : (j : Int) < ((n - a : Nat) : Int) := by omega
          have j4 : (a : Int) < (n : Int) := by omega
          have j6 : (b : Int) < (n : Int) := by omega
          have j5 : (c : Int) < ((n - b : Nat) : Int) := by omega
          go_wp2_with fail
          have e1 : IntKind.i64.wrap (X * Y) = X * Y := IntWalk.i64_in _ (by omega)
          have e2 : (X * Y).tmod m = X * Y % m := Int.tmod_eq_emod_of_nonneg (by omega)
          have e3 : IntKind.i64.wrap (S + X * Y % m) = S + X * Y % m := IntWalk.i64_in _ (by omega)
          go_quiet (fail)
          go_wp2
          exact ⟨⟨j + 1, by omega, by go_num, by rw [HS.out], _, rfl⟩, by simp [intOf]; omega⟩
        · obtain rfl : j = n - a := by omega
          have j2' : ¬ ((n - a : Nat) : Int) ≤ (n : Int) - 1 - (a : Int) := by omega
          obtain ⟨hS0, hS1⟩ := sumR_bound (m := m) (by omega) hm' (fun i => atT t i c * atT (powT m n t i) a b) (n - c)
          obtain ⟨hR0, hR1⟩ := sumR_bound (m := m) (by omega) hm' (fun j => atT t a j * atT (powT m n t j) b c) (n - a)
          change 0 ≤ lefS m n t a b c (n - c) at hS0
          change lefS m n t a b c (n - c) ≤ _ at hS1
          change 0 ≤ rigS m n t a b c (n - a) at hR0
          change rigS m n t a b c (n - a) ≤ _ at hR1
          have HD := Lib.hid (show defC m n t a b c = (lefS m n t a b c (n - c) - rigS m n t a b c (n - a)) % m from rfl)
          generalize lefS m n t a b c (n - c) = S at hS0 hS1 HD ⊢
          generalize rigS m n t a b c (n - a) = R at hR0 hR1 HD ⊢
          have e1 : IntKind.i64.wrap (S - R) = S - R := IntWalk.i64_in _ (by omega)
          go_wp2_with fail
          go_at_call 87
          refine (mod_c _ _ _ (by omega) (by omega) (by omega) (by omega)).mono ?_
          rintro e w' ⟨rfl, rfl⟩
          go_wp2
          go_ret
          exact ⟨by rw [HD.out]; rfl, _, rfl⟩
theorem defects1_callable : Callable 101 := fun args w => Tryz.call101 args w

end Go.Proofs.YteijannfbafdpaaGreatDoor

/- The defects of a law: the program's function that makes the closure. -/
set_option linter.unusedSimpArgs false
set_option linter.unusedVariables false
namespace Go.Proofs.YteijannfbafdpaaGreatDoor
open Go.RowKit

def RB1 (w : World) (b : Nat) (x : Value) : Prop := w.cell? ⟨b, 0, none⟩ = some x ∧ ∀ k, w.frozen? ⟨b, k, none⟩ = false
theorem RB1.lt {w : World} {b : Nat} {x : Value} (h : RB1 w b x) : b < w.heap.size := cell_lt h.1
theorem RB1.below {B : Nat} {w w' : World} {b : Nat} {x : Value} (h : RB1 w b x) (hb : Below B w w') (hB : w.heap.size ≤ B) : RB1 w' b x :=
  ⟨keep_cell hb hB h.1, fun k => (hb.frozen (p := ⟨b, k, none⟩) (Nat.lt_of_lt_of_le h.lt hB)).trans (h.2 k)⟩
theorem RB1.mk1 (w : World) (x : Value) (t : TypeId) : RB1 (w.alloc (.cells #[x] t)) w.heap.size x := ⟨by simp, frozen_new w _ t⟩
theorem RB1.two {w : World} {b b' : Nat} {x0 y0 : Value} (h : RB1 w b x0) (h' : RB1 w b' y0) (hne : b ≠ b') (x y : Value) :
    ((w.setCell ⟨b, 0, none⟩ x).setCell ⟨b', 0, none⟩ y).cell? ⟨b, 0, none⟩ = some x ∧ ((w.setCell ⟨b, 0, none⟩ x).setCell ⟨b', 0, none⟩ y).cell? ⟨b', 0, none⟩ = some y := by
  have e1 := h.1
  have e2 := h'.1
  have hne' : b' ≠ b := fun e => hne e.symm
  constructor <;> simp [go_sem, *]

set_option maxHeartbeats 4000000 in
set_option maxRecDepth 100000 in
theorem defectsOf_c (m : Int) (n : Nat) (v : Value) (t : List (List Int)) (w : World) (hv : RdT w v t) (h1 : 1 ≤ n) (hn : n ≤ 1000) (hm : 2 ≤ m) (hm' : m ≤ 3000000000) (ht : PlaT m n t) :
    Calls Tryz.prog 78 #[.agg #[.int .i64 m, v]] w fun e w' => ∃ (bd bf bp : Nat) (o op : Option Addr) (k kp : Nat), e = .returned (.func (.func 101) #[] #[.pointer (some ⟨bd, 0, none⟩), .pointer (some ⟨bf, 0, none⟩), .pointer (some ⟨bp, 0, none⟩)]) ∧
      w'.cell? ⟨bd, 0, none⟩ = some (.int .i64 ((n : Int) - 1)) ∧ Box2 w' bf (.int .i64 m) (.slice o n k) ∧ v = .slice o n k ∧ w'.cell? ⟨bp, 0, none⟩ = some (.slice op n kp) ∧ RdLP w' (.slice op n kp) m (powsT m n t n) ∧ Below w.heap.size w w' := by
  obtain ⟨o, c, rfl, hmx, -⟩ := id hv
  have hu : RdT w (.slice o n c) t := by rw [ht.1] at hv; exact hv
  rw [ht.1] at hmx ⊢
  clear hv
  have hml := hmx.1
  unfold maxLen at hmx
  have HT := Lib.hid ht
  clear ht
  go_enter Tryz.func78, Tryz.ntmps78
  go_wp2_with fail
  (obtain ⟨w0, hw0⟩ : ∃ W : World, W = (w.alloc (.cells #[.int .i64 m, .slice o n c] 28)) := ⟨_, rfl⟩; have X0 := (RB2.mk1 w  (.int .i64 m) (.slice o n c) 28).1.below (w' := w0) (by rw [hw0]; (repeat (first | exact bR _ _ | (refine bS ?_ _) | (refine bA ?_ _) | (refine bN ?_ _) | (refine bD ?_)))) (Nat.le_refl _); have B0 : Below w.heap.size w w0 := (by rw [hw0]; (repeat (first | exact bR _ _ | (refine bS ?_ _) | (refine bA ?_ _) | (refine bN ?_ _) | (refine bD ?_)))); have hu0 := hu.below (w' := w0) (by rw [hw0]; (repeat (first | exact bR _ _ | (refine bS ?_ _) | (refine bA ?_ _) | (refine bN ?_ _) | (refine bD ?_)))) (Nat.le_refl _); rw [← hw0]; clear hw0)
  obtain ⟨x0, x1⟩ := id X0
  have lX := X0.lt
  go_wp2_with fail
  go_cut [3, 4] (fun sp sd u => ∃ (wz : World) (bp bd : Nat) (op : Option Addr) (kp : Nat), wz = u ∧ sp = .pointer (some ⟨bp, 0, none⟩) ∧ sd = .pointer (some ⟨bd, 0, none⟩) ∧ u.cell? ⟨bd, 0, none⟩ = some (.int .i64 ((n : Int) - 1)) ∧ u.cell? ⟨bp, 0, none⟩ = some (.slice op n kp) ∧ RdLP u (.slice op n kp) m (powsT m n t n) ∧ Below w0.heap.size w0 u)
  case first =>
    have hd0 : Below w0.heap.size w0 w0.drew := (Below.refl _ _).drew
    refine wp_region_K (S := fun w' => w'.cell? ⟨w.heap.size, 0, none⟩ = some (.int .i64 m) ∧ w'.cell? ⟨w.heap.size, 1, none⟩ = some (.slice o n c)) [3, 6, 7] (by as_aux_lemma => kernel_rfl) ?_
    have hHeld : (fun w' : World => w'.cell? ⟨w.heap.size, 0, none⟩ = some (.int .i64 m) ∧ w'.cell? ⟨w.heap.size, 1, none⟩ = some (.slice o n c)) w0.drew := by go_keep
    refine' wpAnyK_takeL (i := 0) (v := _) rfl (by as_aux_lemma => kernel_rfl) (by as_aux_lemma => kernel_rfl) (by as_aux_lemma => kernel_rfl) (by as_aux_lemma => kernel_rfl) (fun _ _ _ h => h) (Or.inl ⟨by rfl, ?yT9⟩) hHeld ?rT9
    case yT9 => (intro w' hSw; (try dsimp only at hSw); go_simp; try with_reducible rfl)
    try simp only [List.getElem_toArray, List.getElem_cons_zero, List.getElem_cons_succ, Act.put, List.setIfInBounds_toArray, List.set_cons_zero, List.set_cons_succ]
    refine' wpAnyK_takeL (i := 2) (v := _) rfl (by as_aux_lemma => kernel_rfl) (by as_aux_lemma => kernel_rfl) (by as_aux_lemma => kernel_rfl) (by as_aux_lemma => kernel_rfl) (fun _ _ _ h => h) (Or.inl ⟨by rfl, ?yT10⟩) hHeld ?rT10
    case yT10 => (intro w' hSw; (try dsimp only at hSw); go_simp; try with_reducible rfl)
    try simp only [List.getElem_toArray, List.getElem_cons_zero, List.getElem_cons_succ, Act.put, List.setIfInBounds_toArray, List.set_cons_zero, List.set_cons_succ]
    refine wpAnyK_three (i := 1) (j := 4) (k := 5) (by as_aux_lemma => kernel_rfl) rfl rfl rfl (fun K hK => ?_) (fun K hK => ?_) (fun K hK => ?_)
    · as_aux_lemma =>
      go_simp
      go_at_call 100
      refine (powersP_c m n _ t _ (hu0.below (by (repeat (first | exact bR _ _ | (refine bS ?_ _) | (refine bA ?_ _) | (refine bN ?_ _) | (refine bD ?_)))) (Nat.le_refl _)) h1 hn hm hm' HT.out).mono ?_
      rintro e wp ⟨vp, rfl, hol, hbp⟩
      obtain ⟨op, cp, rfl⟩ := hol.shapeN (n := n) (powsT_len _ _ _ _)
      have hrp := hol.rds
      have hlp := hol.lt
      clear hol
      have hdp : Below w0.heap.size w0 wp := (by (repeat (first | exact bR _ _ | (refine bS ?_ _) | (refine bA ?_ _) | (refine bN ?_ _) | (refine bD ?_) | (refine bT ?_ hbp))))
      have hsp := hdp.size
      have hzp : w0.heap.size ≤ wp.heap.size := by first | exact hbp.size | (have := hbp.size; simpa using this)
      have fp0 := keep_cell hdp (Nat.le_refl _) x0
      have fp1 := keep_cell hdp (Nat.le_refl _) x1
      go_wp2_with fail
      clear hHeld
      have hHeld : (fun w' : World => w'.cell? ⟨w.heap.size, 0, none⟩ = some (.int .i64 m) ∧ w'.cell? ⟨w.heap.size, 1, none⟩ = some (.slice o n c)) wp := by go_keep
      refine hK.out _ _ (fun _ => hHeld) ?_
      clear hK K
      try simp only [List.getElem_toArray, List.getElem_cons_zero, List.getElem_cons_succ, Act.put, List.setIfInBounds_toArray, List.set_cons_zero, List.set_cons_succ]
      refine wpAnyK_three (i := 3) (j := 4) (k := 5) (by as_aux_lemma => kernel_rfl) rfl rfl rfl (fun K hK => ?_) (fun K hK => ?_) (fun K hK => ?_)
      · as_aux_lemma =>
        go_simp
        go_at_call 31
        refine (degreeP_c m o n c _ hml).mono ?_
        rintro e wq ⟨rfl, hbq⟩
        have hdq : Below w0.heap.size w0 wq := (by (repeat (first | exact bR _ _ | (refine bS ?_ _) | (refine bA ?_ _) | (refine bN ?_ _) | (refine bD ?_) | (refine bT ?_ hbp) | (refine bT ?_ hbq))))
        have hsq := hdq.size
        have hzq : wp.heap.size ≤ wq.heap.size := by first | exact hbq.size | (have := hbq.size; simpa using this)
        have fq0 := keep_cell hdq (Nat.le_refl _) x0
        have fq1 := keep_cell hdq (Nat.le_refl _) x1
        go_wp2_with fail
        refine hK.out _ _ (fun h => absurd h (by decide)) ?_
        clear hK K
        try simp only [List.getElem_toArray, List.getElem_cons_zero, List.getElem_cons_succ, Act.put, List.setIfInBounds_toArray, List.set_cons_zero, List.set_cons_succ]
        refine wpAnyK_two (i := 4) (j := 5) rfl rfl (by as_aux_lemma => kernel_rfl) (fun K hK => ?_) (fun K hK => ?_)
        · as_aux_lemma =>
          go_simp
          obtain ⟨wa, hwa⟩ : ∃ x : World, x = (wq).alloc (.cells #[.slice none 0 0] 100) := ⟨_, rfl⟩
          have hba : Below (wq).heap.size (wq) wa := by rw [hwa]; exact (by (repeat (first | exact bR _ _ | (refine bS ?_ _) | (refine bA ?_ _) | (refine bN ?_ _) | (refine bD ?_))))
          have A4 : RB1 wa wq.heap.size (.slice none 0 0) := by rw [hwa]; exact RB1.mk1 (wq) _ _
          have ha4 : wq.heap.size < wa.heap.size := A4.lt
          have hda : Below w0.heap.size w0 wa := (by (repeat (first | exact bR _ _ | (refine bS ?_ _) | (refine bA ?_ _) | (refine bN ?_ _) | (refine bD ?_) | (refine bT ?_ hbp) | (refine bT ?_ hbq) | (refine bT ?_ hba))))
          have hsa := hda.size
          have fa0 := keep_cell hda (Nat.le_refl _) x0
          have fa1 := keep_cell hda (Nat.le_refl _) x1
          rw [← hwa]
          clear hwa
          clear hHeld
          have hHeld : (fun w' : World => w'.cell? ⟨w.heap.size, 0, none⟩ = some (.int .i64 m) ∧ w'.cell? ⟨w.heap.size, 1, none⟩ = some (.slice o n c)) wa := by go_keep
          refine hK.out _ _ (fun _ => hHeld) ?_
          clear hK K
          try simp only [List.getElem_toArray, List.getElem_cons_zero, List.getElem_cons_succ, Act.put, List.setIfInBounds_toArray, List.set_cons_zero, List.set_cons_succ]
          refine wpAnyK_oneL (i := 5) rfl (by as_aux_lemma => kernel_rfl) (fun K hK => ?_)
          go_simp
          obtain ⟨wc, hwc⟩ : ∃ x : World, x = (wa).alloc (.cells #[.int .i64 0] 3) := ⟨_, rfl⟩
          have hbc : Below (wa).heap.size (wa) wc := by rw [hwc]; exact (by (repeat (first | exact bR _ _ | (refine bS ?_ _) | (refine bA ?_ _) | (refine bN ?_ _) | (refine bD ?_))))
          have A5 : RB1 wc wa.heap.size (.int .i64 0) := by rw [hwc]; exact RB1.mk1 (wa) _ _
          have ha5 : wa.heap.size < wc.heap.size := A5.lt
          have hdc : Below w0.heap.size w0 wc := (by (repeat (first | exact bR _ _ | (refine bS ?_ _) | (refine bA ?_ _) | (refine bN ?_ _) | (refine bD ?_) | (refine bT ?_ hbp) | (refine bT ?_ hbq) | (refine bT ?_ hba) | (refine bT ?_ hbc))))
          have hsc := hdc.size
          have fc0 := keep_cell hdc (Nat.le_refl _) x0
          have fc1 := keep_cell hdc (Nat.le_refl _) x1
          rw [← hwc]
          clear hwc
          clear hHeld
          have hHeld : (fun w' : World => w'.cell? ⟨w.heap.size, 0, none⟩ = some (.int .i64 m) ∧ w'.cell? ⟨w.heap.size, 1, none⟩ = some (.slice o n c)) wc := by go_keep
          refine hK.out _ _ (fun _ => hHeld) ?_
          clear hK K
          try simp only [List.getElem_toArray, List.getElem_cons_zero, List.getElem_cons_succ, Act.put, List.setIfInBounds_toArray, List.set_cons_zero, List.set_cons_succ]
          refine wpAnyK_oneL (i := 6) rfl (by as_aux_lemma => kernel_rfl) (fun K hK => ?_)
          have L4 : RB1 wc wq.heap.size (.slice none 0 0) := A4.below (B := wa.heap.size) (by (repeat (first | exact bR _ _ | (refine bS ?_ _) | (refine bA ?_ _) | (refine bN ?_ _) | (refine bD ?_) | (refine bT ?_ hbp) | (refine bT ?_ hbq) | (refine bT ?_ hba) | (refine bT ?_ hbc)))) (Nat.le_refl _)
          have L5 : RB1 wc wa.heap.size (.int .i64 0) := A5.below (B := wc.heap.size) (by (repeat (first | exact bR _ _ | (refine bS ?_ _) | (refine bA ?_ _) | (refine bN ?_ _) | (refine bD ?_) | (refine bT ?_ hbp) | (refine bT ?_ hbq) | (refine bT ?_ hba) | (refine bT ?_ hbc)))) (Nat.le_refl _)
          obtain ⟨a4, a4f⟩ := id L4
          obtain ⟨a5, a5f⟩ := id L5
          have a4g := a4f 0
          have a5g := a5f 0
          have hne : wq.heap.size ≠ wa.heap.size := by omega
          have hne' : wa.heap.size ≠ wq.heap.size := by omega
          have hb4 : w0.heap.size ≤ wq.heap.size := by omega
          have hb5 : w0.heap.size ≤ wa.heap.size := by omega
          go_simp
          (try go_wp2_with fail)
          refine hK.out _ _ (fun h => absurd h (by decide)) ?_
          clear hK K
          try simp only [List.getElem_toArray, List.getElem_cons_zero, List.getElem_cons_succ, Act.put, List.setIfInBounds_toArray, List.set_cons_zero, List.set_cons_succ]
          refine wpAnyK_oneL (i := 7) rfl (by as_aux_lemma => kernel_rfl) (fun K hK => ?_)
          go_simp
          (try go_wp2_with fail)
          refine hK.out _ _ (fun h => absurd h (by decide)) ?_
          clear hK K
          try simp only [List.getElem_toArray, List.getElem_cons_zero, List.getElem_cons_succ, Act.put, List.setIfInBounds_toArray, List.set_cons_zero, List.set_cons_succ]
          refine wpAnyK_done (by as_aux_lemma => kernel_rfl) ?_ _
          go_wp2_with fail
          go_meet
          obtain ⟨c4, c5⟩ := L4.two L5 hne (.slice op n cp) (.int .i64 ((n : Int) - 1))
          exact ⟨_, _, _, op, cp, rfl, rfl, rfl, c5, c4, (((hrp.belowB (B := wp.heap.size) (by (repeat (first | exact bR _ _ | (refine bS ?_ _) | (refine bA ?_ _) | (refine bN ?_ _) | (refine bD ?_) | (refine bT ?_ hbp) | (refine bT ?_ hbq) | (refine bT ?_ hba) | (refine bT ?_ hbc)))) (Nat.le_refl _)).put (by first | (simp; done) | (simp; omega) | omega) 0 _).put (by first | (simp; done) | (simp; omega) | omega) 0 _).now, (by (repeat (first | exact bR _ _ | (refine bS ?_ _) | (refine bA ?_ _) | (refine bN ?_ _) | (refine bD ?_) | (refine bT ?_ hbp) | (refine bT ?_ hbq) | (refine bT ?_ hba) | (refine bT ?_ hbc))))⟩
        · as_aux_lemma =>
          go_simp
          obtain ⟨wc, hwc⟩ : ∃ x : World, x = (wq).alloc (.cells #[.int .i64 0] 3) := ⟨_, rfl⟩
          have hbc : Below (wq).heap.size (wq) wc := by rw [hwc]; exact (by (repeat (first | exact bR _ _ | (refine bS ?_ _) | (refine bA ?_ _) | (refine bN ?_ _) | (refine bD ?_))))
          have A5 : RB1 wc wq.heap.size (.int .i64 0) := by rw [hwc]; exact RB1.mk1 (wq) _ _
          have ha5 : wq.heap.size < wc.heap.size := A5.lt
          have hdc : Below w0.heap.size w0 wc := (by (repeat (first | exact bR _ _ | (refine bS ?_ _) | (refine bA ?_ _) | (refine bN ?_ _) | (refine bD ?_) | (refine bT ?_ hbp) | (refine bT ?_ hbq) | (refine bT ?_ hbc))))
          have hsc := hdc.size
          have fc0 := keep_cell hdc (Nat.le_refl _) x0
          have fc1 := keep_cell hdc (Nat.le_refl _) x1
          rw [← hwc]
          clear hwc
          clear hHeld
          have hHeld : (fun w' : World => w'.cell? ⟨w.heap.size, 0, none⟩ = some (.int .i64 m) ∧ w'.cell? ⟨w.heap.size, 1, none⟩ = some (.slice o n c)) wc := by go_keep
          refine hK.out _ _ (fun _ => hHeld) ?_
          clear hK K
          try simp only [List.getElem_toArray, List.getElem_cons_zero, List.getElem_cons_succ, Act.put, List.setIfInBounds_toArray, List.set_cons_zero, List.set_cons_succ]
          refine wpAnyK_oneL (i := 4) rfl (by as_aux_lemma => kernel_rfl) (fun K hK => ?_)
          go_simp
          obtain ⟨wa, hwa⟩ : ∃ x : World, x = (wc).alloc (.cells #[.slice none 0 0] 100) := ⟨_, rfl⟩
          have hba : Below (wc).heap.size (wc) wa := by rw [hwa]; exact (by (repeat (first | exact bR _ _ | (refine bS ?_ _) | (refine bA ?_ _) | (refine bN ?_ _) | (refine bD ?_))))
          have A4 : RB1 wa wc.heap.size (.slice none 0 0) := by rw [hwa]; exact RB1.mk1 (wc) _ _
          have ha4 : wc.heap.size < wa.heap.size := A4.lt
          have hda : Below w0.heap.size w0 wa := (by (repeat (first | exact bR _ _ | (refine bS ?_ _) | (refine bA ?_ _) | (refine bN ?_ _) | (refine bD ?_) | (refine bT ?_ hbp) | (refine bT ?_ hbq) | (refine bT ?_ hbc) | (refine bT ?_ hba))))
          have hsa := hda.size
          have fa0 := keep_cell hda (Nat.le_refl _) x0
          have fa1 := keep_cell hda (Nat.le_refl _) x1
          rw [← hwa]
          clear hwa
          clear hHeld
          have hHeld : (fun w' : World => w'.cell? ⟨w.heap.size, 0, none⟩ = some (.int .i64 m) ∧ w'.cell? ⟨w.heap.size, 1, none⟩ = some (.slice o n c)) wa := by go_keep
          refine hK.out _ _ (fun _ => hHeld) ?_
          clear hK K
          try simp only [List.getElem_toArray, List.getElem_cons_zero, List.getElem_cons_succ, Act.put, List.setIfInBounds_toArray, List.set_cons_zero, List.set_cons_succ]
          refine wpAnyK_oneL (i := 6) rfl (by as_aux_lemma => kernel_rfl) (fun K hK => ?_)
          have L4 : RB1 wa wc.heap.size (.slice none 0 0) := A4.below (B := wa.heap.size) (by (repeat (first | exact bR _ _ | (refine bS ?_ _) | (refine bA ?_ _) | (refine bN ?_ _) | (refine bD ?_) | (refine bT ?_ hbp) | (refine bT ?_ hbq) | (refine bT ?_ hbc) | (refine bT ?_ hba)))) (Nat.le_refl _)
          have L5 : RB1 wa wq.heap.size (.int .i64 0) := A5.below (B := wc.heap.size) (by (repeat (first | exact bR _ _ | (refine bS ?_ _) | (refine bA ?_ _) | (refine bN ?_ _) | (refine bD ?_) | (refine bT ?_ hbp) | (refine bT ?_ hbq) | (refine bT ?_ hbc) | (refine bT ?_ hba)))) (Nat.le_refl _)
          obtain ⟨a4, a4f⟩ := id L4
          obtain ⟨a5, a5f⟩ := id L5
          have a4g := a4f 0
          have a5g := a5f 0
          have hne : wc.heap.size ≠ wq.heap.size := by omega
          have hne' : wq.heap.size ≠ wc.heap.size := by omega
          have hb4 : w0.heap.size ≤ wc.heap.size := by omega
          have hb5 : w0.heap.size ≤ wq.heap.size := by omega
          go_simp
          (try go_wp2_with fail)
          refine hK.out _ _ (fun h => absurd h (by decide)) ?_
          clear hK K
          try simp only [List.getElem_toArray, List.getElem_cons_zero, List.getElem_cons_succ, Act.put, List.setIfInBounds_toArray, List.set_cons_zero, List.set_cons_succ]
          refine wpAnyK_oneL (i := 7) rfl (by as_aux_lemma => kernel_rfl) (fun K hK => ?_)
          go_simp
          (try go_wp2_with fail)
          refine hK.out _ _ (fun h => absurd h (by decide)) ?_
          clear hK K
          try simp only [List.getElem_toArray, List.getElem_cons_zero, List.getElem_cons_succ, Act.put, List.setIfInBounds_toArray, List.set_cons_zero, List.set_cons_succ]
          refine wpAnyK_done (by as_aux_lemma => kernel_rfl) ?_ _
          go_wp2_with fail
          go_meet
          obtain ⟨c4, c5⟩ := L4.two L5 hne (.slice op n cp) (.int .i64 ((n : Int) - 1))
          exact ⟨_, _, _, op, cp, rfl, rfl, rfl, c5, c4, (((hrp.belowB (B := wp.heap.size) (by (repeat (first | exact bR _ _ | (refine bS ?_ _) | (refine bA ?_ _) | (refine bN ?_ _) | (refine bD ?_) | (refine bT ?_ hbp) | (refine bT ?_ hbq) | (refine bT ?_ hbc) | (refine bT ?_ hba)))) (Nat.le_refl _)).put (by first | (simp; done) | (simp; omega) | omega) 0 _).put (by first | (simp; done) | (simp; omega) | omega) 0 _).now, (by (repeat (first | exact bR _ _ | (refine bS ?_ _) | (refine bA ?_ _) | (refine bN ?_ _) | (refine bD ?_) | (refine bT ?_ hbp) | (refine bT ?_ hbq) | (refine bT ?_ hbc) | (refine bT ?_ hba))))⟩
      · as_aux_lemma =>
        go_simp
        obtain ⟨wa, hwa⟩ : ∃ x : World, x = (wp).alloc (.cells #[.slice none 0 0] 100) := ⟨_, rfl⟩
        have hba : Below (wp).heap.size (wp) wa := by rw [hwa]; exact (by (repeat (first | exact bR _ _ | (refine bS ?_ _) | (refine bA ?_ _) | (refine bN ?_ _) | (refine bD ?_))))
        have A4 : RB1 wa wp.heap.size (.slice none 0 0) := by rw [hwa]; exact RB1.mk1 (wp) _ _
        have ha4 : wp.heap.size < wa.heap.size := A4.lt
        have hda : Below w0.heap.size w0 wa := (by (repeat (first | exact bR _ _ | (refine bS ?_ _) | (refine bA ?_ _) | (refine bN ?_ _) | (refine bD ?_) | (refine bT ?_ hbp) | (refine bT ?_ hba))))
        have hsa := hda.size
        have fa0 := keep_cell hda (Nat.le_refl _) x0
        have fa1 := keep_cell hda (Nat.le_refl _) x1
        rw [← hwa]
        clear hwa
        clear hHeld
        have hHeld : (fun w' : World => w'.cell? ⟨w.heap.size, 0, none⟩ = some (.int .i64 m) ∧ w'.cell? ⟨w.heap.size, 1, none⟩ = some (.slice o n c)) wa := by go_keep
        refine hK.out _ _ (fun _ => hHeld) ?_
        clear hK K
        try simp only [List.getElem_toArray, List.getElem_cons_zero, List.getElem_cons_succ, Act.put, List.setIfInBounds_toArray, List.set_cons_zero, List.set_cons_succ]
        refine wpAnyK_two (i := 3) (j := 5) rfl rfl (by as_aux_lemma => kernel_rfl) (fun K hK => ?_) (fun K hK => ?_)
        · as_aux_lemma =>
          go_simp
          go_at_call 31
          refine (degreeP_c m o n c _ hml).mono ?_
          rintro e wq ⟨rfl, hbq⟩
          have hdq : Below w0.heap.size w0 wq := (by (repeat (first | exact bR _ _ | (refine bS ?_ _) | (refine bA ?_ _) | (refine bN ?_ _) | (refine bD ?_) | (refine bT ?_ hbp) | (refine bT ?_ hba) | (refine bT ?_ hbq))))
          have hsq := hdq.size
          have hzq : wa.heap.size ≤ wq.heap.size := by first | exact hbq.size | (have := hbq.size; simpa using this)
          have fq0 := keep_cell hdq (Nat.le_refl _) x0
          have fq1 := keep_cell hdq (Nat.le_refl _) x1
          go_wp2_with fail
          refine hK.out _ _ (fun h => absurd h (by decide)) ?_
          clear hK K
          try simp only [List.getElem_toArray, List.getElem_cons_zero, List.getElem_cons_succ, Act.put, List.setIfInBounds_toArray, List.set_cons_zero, List.set_cons_succ]
          refine wpAnyK_oneL (i := 5) rfl (by as_aux_lemma => kernel_rfl) (fun K hK => ?_)
          go_simp
          obtain ⟨wc, hwc⟩ : ∃ x : World, x = (wq).alloc (.cells #[.int .i64 0] 3) := ⟨_, rfl⟩
          have hbc : Below (wq).heap.size (wq) wc := by rw [hwc]; exact (by (repeat (first | exact bR _ _ | (refine bS ?_ _) | (refine bA ?_ _) | (refine bN ?_ _) | (refine bD ?_))))
          have A5 : RB1 wc wq.heap.size (.int .i64 0) := by rw [hwc]; exact RB1.mk1 (wq) _ _
          have ha5 : wq.heap.size < wc.heap.size := A5.lt
          have hdc : Below w0.heap.size w0 wc := (by (repeat (first | exact bR _ _ | (refine bS ?_ _) | (refine bA ?_ _) | (refine bN ?_ _) | (refine bD ?_) | (refine bT ?_ hbp) | (refine bT ?_ hba) | (refine bT ?_ hbq) | (refine bT ?_ hbc))))
          have hsc := hdc.size
          have fc0 := keep_cell hdc (Nat.le_refl _) x0
          have fc1 := keep_cell hdc (Nat.le_refl _) x1
          rw [← hwc]
          clear hwc
          clear hHeld
          have hHeld : (fun w' : World => w'.cell? ⟨w.heap.size, 0, none⟩ = some (.int .i64 m) ∧ w'.cell? ⟨w.heap.size, 1, none⟩ = some (.slice o n c)) wc := by go_keep
          refine hK.out _ _ (fun _ => hHeld) ?_
          clear hK K
          try simp only [List.getElem_toArray, List.getElem_cons_zero, List.getElem_cons_succ, Act.put, List.setIfInBounds_toArray, List.set_cons_zero, List.set_cons_succ]
          refine wpAnyK_oneL (i := 6) rfl (by as_aux_lemma => kernel_rfl) (fun K hK => ?_)
          have L4 : RB1 wc wp.heap.size (.slice none 0 0) := A4.below (B := wa.heap.size) (by (repeat (first | exact bR _ _ | (refine bS ?_ _) | (refine bA ?_ _) | (refine bN ?_ _) | (refine bD ?_) | (refine bT ?_ hbp) | (refine bT ?_ hba) | (refine bT ?_ hbq) | (refine bT ?_ hbc)))) (Nat.le_refl _)
          have L5 : RB1 wc wq.heap.size (.int .i64 0) := A5.below (B := wc.heap.size) (by (repeat (first | exact bR _ _ | (refine bS ?_ _) | (refine bA ?_ _) | (refine bN ?_ _) | (refine bD ?_) | (refine bT ?_ hbp) | (refine bT ?_ hba) | (refine bT ?_ hbq) | (refine bT ?_ hbc)))) (Nat.le_refl _)
          obtain ⟨a4, a4f⟩ := id L4
          obtain ⟨a5, a5f⟩ := id L5
          have a4g := a4f 0
          have a5g := a5f 0
          have hne : wp.heap.size ≠ wq.heap.size := by omega
          have hne' : wq.heap.size ≠ wp.heap.size := by omega
          have hb4 : w0.heap.size ≤ wp.heap.size := by omega
          have hb5 : w0.heap.size ≤ wq.heap.size := by omega
          go_simp
          (try go_wp2_with fail)
          refine hK.out _ _ (fun h => absurd h (by decide)) ?_
          clear hK K
          try simp only [List.getElem_toArray, List.getElem_cons_zero, List.getElem_cons_succ, Act.put, List.setIfInBounds_toArray, List.set_cons_zero, List.set_cons_succ]
          refine wpAnyK_oneL (i := 7) rfl (by as_aux_lemma => kernel_rfl) (fun K hK => ?_)
          go_simp
          (try go_wp2_with fail)
          refine hK.out _ _ (fun h => absurd h (by decide)) ?_
          clear hK K
          try simp only [List.getElem_toArray, List.getElem_cons_zero, List.getElem_cons_succ, Act.put, List.setIfInBounds_toArray, List.set_cons_zero, List.set_cons_succ]
          refine wpAnyK_done (by as_aux_lemma => kernel_rfl) ?_ _
          go_wp2_with fail
          go_meet
          obtain ⟨c4, c5⟩ := L4.two L5 hne (.slice op n cp) (.int .i64 ((n : Int) - 1))
          exact ⟨_, _, _, op, cp, rfl, rfl, rfl, c5, c4, (((hrp.belowB (B := wp.heap.size) (by (repeat (first | exact bR _ _ | (refine bS ?_ _) | (refine bA ?_ _) | (refine bN ?_ _) | (refine bD ?_) | (refine bT ?_ hbp) | (refine bT ?_ hba) | (refine bT ?_ hbq) | (refine bT ?_ hbc)))) (Nat.le_refl _)).put (by first | (simp; done) | (simp; omega) | omega) 0 _).put (by first | (simp; done) | (simp; omega) | omega) 0 _).now, (by (repeat (first | exact bR _ _ | (refine bS ?_ _) | (refine bA ?_ _) | (refine bN ?_ _) | (refine bD ?_) | (refine bT ?_ hbp) | (refine bT ?_ hba) | (refine bT ?_ hbq) | (refine bT ?_ hbc))))⟩
        · as_aux_lemma =>
          go_simp
          obtain ⟨wc, hwc⟩ : ∃ x : World, x = (wa).alloc (.cells #[.int .i64 0] 3) := ⟨_, rfl⟩
          have hbc : Below (wa).heap.size (wa) wc := by rw [hwc]; exact (by (repeat (first | exact bR _ _ | (refine bS ?_ _) | (refine bA ?_ _) | (refine bN ?_ _) | (refine bD ?_))))
          have A5 : RB1 wc wa.heap.size (.int .i64 0) := by rw [hwc]; exact RB1.mk1 (wa) _ _
          have ha5 : wa.heap.size < wc.heap.size := A5.lt
          have hdc : Below w0.heap.size w0 wc := (by (repeat (first | exact bR _ _ | (refine bS ?_ _) | (refine bA ?_ _) | (refine bN ?_ _) | (refine bD ?_) | (refine bT ?_ hbp) | (refine bT ?_ hba) | (refine bT ?_ hbc))))
          have hsc := hdc.size
          have fc0 := keep_cell hdc (Nat.le_refl _) x0
          have fc1 := keep_cell hdc (Nat.le_refl _) x1
          rw [← hwc]
          clear hwc
          clear hHeld
          have hHeld : (fun w' : World => w'.cell? ⟨w.heap.size, 0, none⟩ = some (.int .i64 m) ∧ w'.cell? ⟨w.heap.size, 1, none⟩ = some (.slice o n c)) wc := by go_keep
          refine hK.out _ _ (fun _ => hHeld) ?_
          clear hK K
          try simp only [List.getElem_toArray, List.getElem_cons_zero, List.getElem_cons_succ, Act.put, List.setIfInBounds_toArray, List.set_cons_zero, List.set_cons_succ]
          refine wpAnyK_oneL (i := 3) rfl (by as_aux_lemma => kernel_rfl) (fun K hK => ?_)
          go_simp
          go_at_call 31
          refine (degreeP_c m o n c _ hml).mono ?_
          rintro e wq ⟨rfl, hbq⟩
          have hdq : Below w0.heap.size w0 wq := (by (repeat (first | exact bR _ _ | (refine bS ?_ _) | (refine bA ?_ _) | (refine bN ?_ _) | (refine bD ?_) | (refine bT ?_ hbp) | (refine bT ?_ hba) | (refine bT ?_ hbc) | (refine bT ?_ hbq))))
          have hsq := hdq.size
          have hzq : wc.heap.size ≤ wq.heap.size := by first | exact hbq.size | (have := hbq.size; simpa using this)
          have fq0 := keep_cell hdq (Nat.le_refl _) x0
          have fq1 := keep_cell hdq (Nat.le_refl _) x1
          go_wp2_with fail
          refine hK.out _ _ (fun h => absurd h (by decide)) ?_
          clear hK K
          try simp only [List.getElem_toArray, List.getElem_cons_zero, List.getElem_cons_succ, Act.put, List.setIfInBounds_toArray, List.set_cons_zero, List.set_cons_succ]
          refine wpAnyK_oneL (i := 6) rfl (by as_aux_lemma => kernel_rfl) (fun K hK => ?_)
          have L4 : RB1 wq wp.heap.size (.slice none 0 0) := A4.below (B := wa.heap.size) (by (repeat (first | exact bR _ _ | (refine bS ?_ _) | (refine bA ?_ _) | (refine bN ?_ _) | (refine bD ?_) | (refine bT ?_ hbp) | (refine bT ?_ hba) | (refine bT ?_ hbc) | (refine bT ?_ hbq)))) (Nat.le_refl _)
          have L5 : RB1 wq wa.heap.size (.int .i64 0) := A5.below (B := wc.heap.size) (by (repeat (first | exact bR _ _ | (refine bS ?_ _) | (refine bA ?_ _) | (refine bN ?_ _) | (refine bD ?_) | (refine bT ?_ hbp) | (refine bT ?_ hba) | (refine bT ?_ hbc) | (refine bT ?_ hbq)))) (Nat.le_refl _)
          obtain ⟨a4, a4f⟩ := id L4
          obtain ⟨a5, a5f⟩ := id L5
          have a4g := a4f 0
          have a5g := a5f 0
          have hne : wp.heap.size ≠ wa.heap.size := by omega
          have hne' : wa.heap.size ≠ wp.heap.size := by omega
          have hb4 : w0.heap.size ≤ wp.heap.size := by omega
          have hb5 : w0.heap.size ≤ wa.heap.size := by omega
          go_simp
          (try go_wp2_with fail)
          refine hK.out _ _ (fun h => absurd h (by decide)) ?_
          clear hK K
          try simp only [List.getElem_toArray, List.getElem_cons_zero, List.getElem_cons_succ, Act.put, List.setIfInBounds_toArray, List.set_cons_zero, List.set_cons_succ]
          refine wpAnyK_oneL (i := 7) rfl (by as_aux_lemma => kernel_rfl) (fun K hK => ?_)
          go_simp
          (try go_wp2_with fail)
          refine hK.out _ _ (fun h => absurd h (by decide)) ?_
          clear hK K
          try simp only [List.getElem_toArray, List.getElem_cons_zero, List.getElem_cons_succ, Act.put, List.setIfInBounds_toArray, List.set_cons_zero, List.set_cons_succ]
          refine wpAnyK_done (by as_aux_lemma => kernel_rfl) ?_ _
          go_wp2_with fail
          go_meet
          obtain ⟨c4, c5⟩ := L4.two L5 hne (.slice op n cp) (.int .i64 ((n : Int) - 1))
          exact ⟨_, _, _, op, cp, rfl, rfl, rfl, c5, c4, (((hrp.belowB (B := wp.heap.size) (by (repeat (first | exact bR _ _ | (refine bS ?_ _) | (refine bA ?_ _) | (refine bN ?_ _) | (refine bD ?_) | (refine bT ?_ hbp) | (refine bT ?_ hba) | (refine bT ?_ hbc) | (refine bT ?_ hbq)))) (Nat.le_refl _)).put (by first | (simp; done) | (simp; omega) | omega) 0 _).put (by first | (simp; done) | (simp; omega) | omega) 0 _).now, (by (repeat (first | exact bR _ _ | (refine bS ?_ _) | (refine bA ?_ _) | (refine bN ?_ _) | (refine bD ?_) | (refine bT ?_ hbp) | (refine bT ?_ hba) | (refine bT ?_ hbc) | (refine bT ?_ hbq))))⟩
      · as_aux_lemma =>
        go_simp
        obtain ⟨wc, hwc⟩ : ∃ x : World, x = (wp).alloc (.cells #[.int .i64 0] 3) := ⟨_, rfl⟩
        have hbc : Below (wp).heap.size (wp) wc := by rw [hwc]; exact (by (repeat (first | exact bR _ _ | (refine bS ?_ _) | (refine bA ?_ _) | (refine bN ?_ _) | (refine bD ?_))))
        have A5 : RB1 wc wp.heap.size (.int .i64 0) := by rw [hwc]; exact RB1.mk1 (wp) _ _
        have ha5 : wp.heap.size < wc.heap.size := A5.lt
        have hdc : Below w0.heap.size w0 wc := (by (repeat (first | exact bR _ _ | (refine bS ?_ _) | (refine bA ?_ _) | (refine bN ?_ _) | (refine bD ?_) | (refine bT ?_ hbp) | (refine bT ?_ hbc))))
        have hsc := hdc.size
        have fc0 := keep_cell hdc (Nat.le_refl _) x0
        have fc1 := keep_cell hdc (Nat.le_refl _) x1
        rw [← hwc]
        clear hwc
        clear hHeld
        have hHeld : (fun w' : World => w'.cell? ⟨w.heap.size, 0, none⟩ = some (.int .i64 m) ∧ w'.cell? ⟨w.heap.size, 1, none⟩ = some (.slice o n c)) wc := by go_keep
        refine hK.out _ _ (fun _ => hHeld) ?_
        clear hK K
        try simp only [List.getElem_toArray, List.getElem_cons_zero, List.getElem_cons_succ, Act.put, List.setIfInBounds_toArray, List.set_cons_zero, List.set_cons_succ]
        refine wpAnyK_two (i := 3) (j := 4) rfl rfl (by as_aux_lemma => kernel_rfl) (fun K hK => ?_) (fun K hK => ?_)
        · as_aux_lemma =>
          go_simp
          go_at_call 31
          refine (degreeP_c m o n c _ hml).mono ?_
          rintro e wq ⟨rfl, hbq⟩
          have hdq : Below w0.heap.size w0 wq := (by (repeat (first | exact bR _ _ | (refine bS ?_ _) | (refine bA ?_ _) | (refine bN ?_ _) | (refine bD ?_) | (refine bT ?_ hbp) | (refine bT ?_ hbc) | (refine bT ?_ hbq))))
          have hsq := hdq.size
          have hzq : wc.heap.size ≤ wq.heap.size := by first | exact hbq.size | (have := hbq.size; simpa using this)
          have fq0 := keep_cell hdq (Nat.le_refl _) x0
          have fq1 := keep_cell hdq (Nat.le_refl _) x1
          go_wp2_with fail
          refine hK.out _ _ (fun h => absurd h (by decide)) ?_
          clear hK K
          try simp only [List.getElem_toArray, List.getElem_cons_zero, List.getElem_cons_succ, Act.put, List.setIfInBounds_toArray, List.set_cons_zero, List.set_cons_succ]
          refine wpAnyK_oneL (i := 4) rfl (by as_aux_lemma => kernel_rfl) (fun K hK => ?_)
          go_simp
          obtain ⟨wa, hwa⟩ : ∃ x : World, x = (wq).alloc (.cells #[.slice none 0 0] 100) := ⟨_, rfl⟩
          have hba : Below (wq).heap.size (wq) wa := by rw [hwa]; exact (by (repeat (first | exact bR _ _ | (refine bS ?_ _) | (refine bA ?_ _) | (refine bN ?_ _) | (refine bD ?_))))
          have A4 : RB1 wa wq.heap.size (.slice none 0 0) := by rw [hwa]; exact RB1.mk1 (wq) _ _
          have ha4 : wq.heap.size < wa.heap.size := A4.lt
          have hda : Below w0.heap.size w0 wa := (by (repeat (first | exact bR _ _ | (refine bS ?_ _) | (refine bA ?_ _) | (refine bN ?_ _) | (refine bD ?_) | (refine bT ?_ hbp) | (refine bT ?_ hbc) | (refine bT ?_ hbq) | (refine bT ?_ hba))))
          have hsa := hda.size
          have fa0 := keep_cell hda (Nat.le_refl _) x0
          have fa1 := keep_cell hda (Nat.le_refl _) x1
          rw [← hwa]
          clear hwa
          clear hHeld
          have hHeld : (fun w' : World => w'.cell? ⟨w.heap.size, 0, none⟩ = some (.int .i64 m) ∧ w'.cell? ⟨w.heap.size, 1, none⟩ = some (.slice o n c)) wa := by go_keep
          refine hK.out _ _ (fun _ => hHeld) ?_
          clear hK K
          try simp only [List.getElem_toArray, List.getElem_cons_zero, List.getElem_cons_succ, Act.put, List.setIfInBounds_toArray, List.set_cons_zero, List.set_cons_succ]
          refine wpAnyK_oneL (i := 6) rfl (by as_aux_lemma => kernel_rfl) (fun K hK => ?_)
          have L4 : RB1 wa wq.heap.size (.slice none 0 0) := A4.below (B := wa.heap.size) (by (repeat (first | exact bR _ _ | (refine bS ?_ _) | (refine bA ?_ _) | (refine bN ?_ _) | (refine bD ?_) | (refine bT ?_ hbp) | (refine bT ?_ hbc) | (refine bT ?_ hbq) | (refine bT ?_ hba)))) (Nat.le_refl _)
          have L5 : RB1 wa wp.heap.size (.int .i64 0) := A5.below (B := wc.heap.size) (by (repeat (first | exact bR _ _ | (refine bS ?_ _) | (refine bA ?_ _) | (refine bN ?_ _) | (refine bD ?_) | (refine bT ?_ hbp) | (refine bT ?_ hbc) | (refine bT ?_ hbq) | (refine bT ?_ hba)))) (Nat.le_refl _)
          obtain ⟨a4, a4f⟩ := id L4
          obtain ⟨a5, a5f⟩ := id L5
          have a4g := a4f 0
          have a5g := a5f 0
          have hne : wq.heap.size ≠ wp.heap.size := by omega
          have hne' : wp.heap.size ≠ wq.heap.size := by omega
          have hb4 : w0.heap.size ≤ wq.heap.size := by omega
          have hb5 : w0.heap.size ≤ wp.heap.size := by omega
          go_simp
          (try go_wp2_with fail)
          refine hK.out _ _ (fun h => absurd h (by decide)) ?_
          clear hK K
          try simp only [List.getElem_toArray, List.getElem_cons_zero, List.getElem_cons_succ, Act.put, List.setIfInBounds_toArray, List.set_cons_zero, List.set_cons_succ]
          refine wpAnyK_oneL (i := 7) rfl (by as_aux_lemma => kernel_rfl) (fun K hK => ?_)
          go_simp
          (try go_wp2_with fail)
          refine hK.out _ _ (fun h => absurd h (by decide)) ?_
          clear hK K
          try simp only [List.getElem_toArray, List.getElem_cons_zero, List.getElem_cons_succ, Act.put, List.setIfInBounds_toArray, List.set_cons_zero, List.set_cons_succ]
          refine wpAnyK_done (by as_aux_lemma => kernel_rfl) ?_ _
          go_wp2_with fail
          go_meet
          obtain ⟨c4, c5⟩ := L4.two L5 hne (.slice op n cp) (.int .i64 ((n : Int) - 1))
          exact ⟨_, _, _, op, cp, rfl, rfl, rfl, c5, c4, (((hrp.belowB (B := wp.heap.size) (by (repeat (first | exact bR _ _ | (refine bS ?_ _) | (refine bA ?_ _) | (refine bN ?_ _) | (refine bD ?_) | (refine bT ?_ hbp) | (refine bT ?_ hbc) | (refine bT ?_ hbq) | (refine bT ?_ hba)))) (Nat.le_refl _)).put (by first | (simp; done) | (simp; omega) | omega) 0 _).put (by first | (simp; done) | (simp; omega) | omega) 0 _).now, (by (repeat (first | exact bR _ _ | (refine bS ?_ _) | (refine bA ?_ _) | (refine bN ?_ _) | (refine bD ?_) | (refine bT ?_ hbp) | (refine bT ?_ hbc) | (refine bT ?_ hbq) | (refine bT ?_ hba))))⟩
        · as_aux_lemma =>
          go_simp
          obtain ⟨wa, hwa⟩ : ∃ x : World, x = (wc).alloc (.cells #[.slice none 0 0] 100) := ⟨_, rfl⟩
          have hba : Below (wc).heap.size (wc) wa := by rw [hwa]; exact (by (repeat (first | exact bR _ _ | (refine bS ?_ _) | (refine bA ?_ _) | (refine bN ?_ _) | (refine bD ?_))))
          have A4 : RB1 wa wc.heap.size (.slice none 0 0) := by rw [hwa]; exact RB1.mk1 (wc) _ _
          have ha4 : wc.heap.size < wa.heap.size := A4.lt
          have hda : Below w0.heap.size w0 wa := (by (repeat (first | exact bR _ _ | (refine bS ?_ _) | (refine bA ?_ _) | (refine bN ?_ _) | (refine bD ?_) | (refine bT ?_ hbp) | (refine bT ?_ hbc) | (refine bT ?_ hba))))
          have hsa := hda.size
          have fa0 := keep_cell hda (Nat.le_refl _) x0
          have fa1 := keep_cell hda (Nat.le_refl _) x1
          rw [← hwa]
          clear hwa
          clear hHeld
          have hHeld : (fun w' : World => w'.cell? ⟨w.heap.size, 0, none⟩ = some (.int .i64 m) ∧ w'.cell? ⟨w.heap.size, 1, none⟩ = some (.slice o n c)) wa := by go_keep
          refine hK.out _ _ (fun _ => hHeld) ?_
          clear hK K
          try simp only [List.getElem_toArray, List.getElem_cons_zero, List.getElem_cons_succ, Act.put, List.setIfInBounds_toArray, List.set_cons_zero, List.set_cons_succ]
          refine wpAnyK_oneL (i := 3) rfl (by as_aux_lemma => kernel_rfl) (fun K hK => ?_)
          go_simp
          go_at_call 31
          refine (degreeP_c m o n c _ hml).mono ?_
          rintro e wq ⟨rfl, hbq⟩
          have hdq : Below w0.heap.size w0 wq := (by (repeat (first | exact bR _ _ | (refine bS ?_ _) | (refine bA ?_ _) | (refine bN ?_ _) | (refine bD ?_) | (refine bT ?_ hbp) | (refine bT ?_ hbc) | (refine bT ?_ hba) | (refine bT ?_ hbq))))
          have hsq := hdq.size
          have hzq : wa.heap.size ≤ wq.heap.size := by first | exact hbq.size | (have := hbq.size; simpa using this)
          have fq0 := keep_cell hdq (Nat.le_refl _) x0
          have fq1 := keep_cell hdq (Nat.le_refl _) x1
          go_wp2_with fail
          refine hK.out _ _ (fun h => absurd h (by decide)) ?_
          clear hK K
          try simp only [List.getElem_toArray, List.getElem_cons_zero, List.getElem_cons_succ, Act.put, List.setIfInBounds_toArray, List.set_cons_zero, List.set_cons_succ]
          refine wpAnyK_oneL (i := 6) rfl (by as_aux_lemma => kernel_rfl) (fun K hK => ?_)
          have L4 : RB1 wq wc.heap.size (.slice none 0 0) := A4.below (B := wa.heap.size) (by (repeat (first | exact bR _ _ | (refine bS ?_ _) | (refine bA ?_ _) | (refine bN ?_ _) | (refine bD ?_) | (refine bT ?_ hbp) | (refine bT ?_ hbc) | (refine bT ?_ hba) | (refine bT ?_ hbq)))) (Nat.le_refl _)
          have L5 : RB1 wq wp.heap.size (.int .i64 0) := A5.below (B := wc.heap.size) (by (repeat (first | exact bR _ _ | (refine bS ?_ _) | (refine bA ?_ _) | (refine bN ?_ _) | (refine bD ?_) | (refine bT ?_ hbp) | (refine bT ?_ hbc) | (refine bT ?_ hba) | (refine bT ?_ hbq)))) (Nat.le_refl _)
          obtain ⟨a4, a4f⟩ := id L4
          obtain ⟨a5, a5f⟩ := id L5
          have a4g := a4f 0
          have a5g := a5f 0
          have hne : wc.heap.size ≠ wp.heap.size := by omega
          have hne' : wp.heap.size ≠ wc.heap.size := by omega
          have hb4 : w0.heap.size ≤ wc.heap.size := by omega
          have hb5 : w0.heap.size ≤ wp.heap.size := by omega
          go_simp
          (try go_wp2_with fail)
          refine hK.out _ _ (fun h => absurd h (by decide)) ?_
          clear hK K
          try simp only [List.getElem_toArray, List.getElem_cons_zero, List.getElem_cons_succ, Act.put, List.setIfInBounds_toArray, List.set_cons_zero, List.set_cons_succ]
          refine wpAnyK_oneL (i := 7) rfl (by as_aux_lemma => kernel_rfl) (fun K hK => ?_)
          go_simp
          (try go_wp2_with fail)
          refine hK.out _ _ (fun h => absurd h (by decide)) ?_
          clear hK K
          try simp only [List.getElem_toArray, List.getElem_cons_zero, List.getElem_cons_succ, Act.put, List.setIfInBounds_toArray, List.set_cons_zero, List.set_cons_succ]
          refine wpAnyK_done (by as_aux_lemma => kernel_rfl) ?_ _
          go_wp2_with fail
          go_meet
          obtain ⟨c4, c5⟩ := L4.two L5 hne (.slice op n cp) (.int .i64 ((n : Int) - 1))
          exact ⟨_, _, _, op, cp, rfl, rfl, rfl, c5, c4, (((hrp.belowB (B := wp.heap.size) (by (repeat (first | exact bR _ _ | (refine bS ?_ _) | (refine bA ?_ _) | (refine bN ?_ _) | (refine bD ?_) | (refine bT ?_ hbp) | (refine bT ?_ hbc) | (refine bT ?_ hba) | (refine bT ?_ hbq)))) (Nat.le_refl _)).put (by first | (simp; done) | (simp; omega) | omega) 0 _).put (by first | (simp; done) | (simp; omega) | omega) 0 _).now, (by (repeat (first | exact bR _ _ | (refine bS ?_ _) | (refine bA ?_ _) | (refine bN ?_ _) | (refine bD ?_) | (refine bT ?_ hbp) | (refine bT ?_ hbc) | (refine bT ?_ hba) | (refine bT ?_ hbq))))⟩
    · as_aux_lemma =>
      go_simp
      obtain ⟨wa, hwa⟩ : ∃ x : World, x = (w0.alloc (.cells #[.slice none 0 0] 100)).drew := ⟨_, rfl⟩
      have hba : Below (w0).heap.size (w0) wa := by rw [hwa]; exact (by (repeat (first | exact bR _ _ | (refine bS ?_ _) | (refine bA ?_ _) | (refine bN ?_ _) | (refine bD ?_))))
      have A4 : RB1 wa w0.heap.size (.slice none 0 0) := by rw [hwa]; exact RB1.mk1 (w0) _ _
      have ha4 : w0.heap.size < wa.heap.size := A4.lt
      have hda : Below w0.heap.size w0 wa := (by (repeat (first | exact bR _ _ | (refine bS ?_ _) | (refine bA ?_ _) | (refine bN ?_ _) | (refine bD ?_) | (refine bT ?_ hba))))
      have hsa := hda.size
      have fa0 := keep_cell hda (Nat.le_refl _) x0
      have fa1 := keep_cell hda (Nat.le_refl _) x1
      rw [← hwa]
      clear hwa
      clear hHeld
      have hHeld : (fun w' : World => w'.cell? ⟨w.heap.size, 0, none⟩ = some (.int .i64 m) ∧ w'.cell? ⟨w.heap.size, 1, none⟩ = some (.slice o n c)) wa := by go_keep
      refine hK.out _ _ (fun _ => hHeld) ?_
      clear hK K
      try simp only [List.getElem_toArray, List.getElem_cons_zero, List.getElem_cons_succ, Act.put, List.setIfInBounds_toArray, List.set_cons_zero, List.set_cons_succ]
      refine wpAnyK_two (i := 1) (j := 5) rfl rfl (by as_aux_lemma => kernel_rfl) (fun K hK => ?_) (fun K hK => ?_)
      · as_aux_lemma =>
        go_simp
        go_at_call 100
        refine (powersP_c m n _ t _ (hu0.below (by (repeat (first | exact bR _ _ | (refine bS ?_ _) | (refine bA ?_ _) | (refine bN ?_ _) | (refine bD ?_) | (refine bT ?_ hba)))) (Nat.le_refl _)) h1 hn hm hm' HT.out).mono ?_
        rintro e wp ⟨vp, rfl, hol, hbp⟩
        obtain ⟨op, cp, rfl⟩ := hol.shapeN (n := n) (powsT_len _ _ _ _)
        have hrp := hol.rds
        have hlp := hol.lt
        clear hol
        have hdp : Below w0.heap.size w0 wp := (by (repeat (first | exact bR _ _ | (refine bS ?_ _) | (refine bA ?_ _) | (refine bN ?_ _) | (refine bD ?_) | (refine bT ?_ hba) | (refine bT ?_ hbp))))
        have hsp := hdp.size
        have hzp : wa.heap.size ≤ wp.heap.size := by first | exact hbp.size | (have := hbp.size; simpa using this)
        have fp0 := keep_cell hdp (Nat.le_refl _) x0
        have fp1 := keep_cell hdp (Nat.le_refl _) x1
        go_wp2_with fail
        clear hHeld
        have hHeld : (fun w' : World => w'.cell? ⟨w.heap.size, 0, none⟩ = some (.int .i64 m) ∧ w'.cell? ⟨w.heap.size, 1, none⟩ = some (.slice o n c)) wp := by go_keep
        refine hK.out _ _ (fun _ => hHeld) ?_
        clear hK K
        try simp only [List.getElem_toArray, List.getElem_cons_zero, List.getElem_cons_succ, Act.put, List.setIfInBounds_toArray, List.set_cons_zero, List.set_cons_succ]
        refine wpAnyK_two (i := 3) (j := 5) rfl rfl (by as_aux_lemma => kernel_rfl) (fun K hK => ?_) (fun K hK => ?_)
        · as_aux_lemma =>
          go_simp
          go_at_call 31
          refine (degreeP_c m o n c _ hml).mono ?_
          rintro e wq ⟨rfl, hbq⟩
          have hdq : Below w0.heap.size w0 wq := (by (repeat (first | exact bR _ _ | (refine bS ?_ _) | (refine bA ?_ _) | (refine bN ?_ _) | (refine bD ?_) | (refine bT ?_ hba) | (refine bT ?_ hbp) | (refine bT ?_ hbq))))
          have hsq := hdq.size
          have hzq : wp.heap.size ≤ wq.heap.size := by first | exact hbq.size | (have := hbq.size; simpa using this)
          have fq0 := keep_cell hdq (Nat.le_refl _) x0
          have fq1 := keep_cell hdq (Nat.le_refl _) x1
          go_wp2_with fail
          refine hK.out _ _ (fun h => absurd h (by decide)) ?_
          clear hK K
          try simp only [List.getElem_toArray, List.getElem_cons_zero, List.getElem_cons_succ, Act.put, List.setIfInBounds_toArray, List.set_cons_zero, List.set_cons_succ]
          refine wpAnyK_oneL (i := 5) rfl (by as_aux_lemma => kernel_rfl) (fun K hK => ?_)
          go_simp
          obtain ⟨wc, hwc⟩ : ∃ x : World, x = (wq).alloc (.cells #[.int .i64 0] 3) := ⟨_, rfl⟩
          have hbc : Below (wq).heap.size (wq) wc := by rw [hwc]; exact (by (repeat (first | exact bR _ _ | (refine bS ?_ _) | (refine bA ?_ _) | (refine bN ?_ _) | (refine bD ?_))))
          have A5 : RB1 wc wq.heap.size (.int .i64 0) := by rw [hwc]; exact RB1.mk1 (wq) _ _
          have ha5 : wq.heap.size < wc.heap.size := A5.lt
          have hdc : Below w0.heap.size w0 wc := (by (repeat (first | exact bR _ _ | (refine bS ?_ _) | (refine bA ?_ _) | (refine bN ?_ _) | (refine bD ?_) | (refine bT ?_ hba) | (refine bT ?_ hbp) | (refine bT ?_ hbq) | (refine bT ?_ hbc))))
          have hsc := hdc.size
          have fc0 := keep_cell hdc (Nat.le_refl _) x0
          have fc1 := keep_cell hdc (Nat.le_refl _) x1
          rw [← hwc]
          clear hwc
          clear hHeld
          have hHeld : (fun w' : World => w'.cell? ⟨w.heap.size, 0, none⟩ = some (.int .i64 m) ∧ w'.cell? ⟨w.heap.size, 1, none⟩ = some (.slice o n c)) wc := by go_keep
          refine hK.out _ _ (fun _ => hHeld) ?_
          clear hK K
          try simp only [List.getElem_toArray, List.getElem_cons_zero, List.getElem_cons_succ, Act.put, List.setIfInBounds_toArray, List.set_cons_zero, List.set_cons_succ]
          refine wpAnyK_oneL (i := 6) rfl (by as_aux_lemma => kernel_rfl) (fun K hK => ?_)
          have L4 : RB1 wc w0.heap.size (.slice none 0 0) := A4.below (B := wa.heap.size) (by (repeat (first | exact bR _ _ | (refine bS ?_ _) | (refine bA ?_ _) | (refine bN ?_ _) | (refine bD ?_) | (refine bT ?_ hba) | (refine bT ?_ hbp) | (refine bT ?_ hbq) | (refine bT ?_ hbc)))) (Nat.le_refl _)
          have L5 : RB1 wc wq.heap.size (.int .i64 0) := A5.below (B := wc.heap.size) (by (repeat (first | exact bR _ _ | (refine bS ?_ _) | (refine bA ?_ _) | (refine bN ?_ _) | (refine bD ?_) | (refine bT ?_ hba) | (refine bT ?_ hbp) | (refine bT ?_ hbq) | (refine bT ?_ hbc)))) (Nat.le_refl _)
          obtain ⟨a4, a4f⟩ := id L4
          obtain ⟨a5, a5f⟩ := id L5
          have a4g := a4f 0
          have a5g := a5f 0
          have hne : w0.heap.size ≠ wq.heap.size := by omega
          have hne' : wq.heap.size ≠ w0.heap.size := by omega
          have hb4 : w0.heap.size ≤ w0.heap.size := by omega
          have hb5 : w0.heap.size ≤ wq.heap.size := by omega
          go_simp
          (try go_wp2_with fail)
          refine hK.out _ _ (fun h => absurd h (by decide)) ?_
          clear hK K
          try simp only [List.getElem_toArray, List.getElem_cons_zero, List.getElem_cons_succ, Act.put, List.setIfInBounds_toArray, List.set_cons_zero, List.set_cons_succ]
          refine wpAnyK_oneL (i := 7) rfl (by as_aux_lemma => kernel_rfl) (fun K hK => ?_)
          go_simp
          (try go_wp2_with fail)
          refine hK.out _ _ (fun h => absurd h (by decide)) ?_
          clear hK K
          try simp only [List.getElem_toArray, List.getElem_cons_zero, List.getElem_cons_succ, Act.put, List.setIfInBounds_toArray, List.set_cons_zero, List.set_cons_succ]
          refine wpAnyK_done (by as_aux_lemma => kernel_rfl) ?_ _
          go_wp2_with fail
          go_meet
          obtain ⟨c4, c5⟩ := L4.two L5 hne (.slice op n cp) (.int .i64 ((n : Int) - 1))
          exact ⟨_, _, _, op, cp, rfl, rfl, rfl, c5, c4, (((hrp.belowB (B := wp.heap.size) (by (repeat (first | exact bR _ _ | (refine bS ?_ _) | (refine bA ?_ _) | (refine bN ?_ _) | (refine bD ?_) | (refine bT ?_ hba) | (refine bT ?_ hbp) | (refine bT ?_ hbq) | (refine bT ?_ hbc)))) (Nat.le_refl _)).put (by first | (simp; done) | (simp; omega) | omega) 0 _).put (by first | (simp; done) | (simp; omega) | omega) 0 _).now, (by (repeat (first | exact bR _ _ | (refine bS ?_ _) | (refine bA ?_ _) | (refine bN ?_ _) | (refine bD ?_) | (refine bT ?_ hba) | (refine bT ?_ hbp) | (refine bT ?_ hbq) | (refine bT ?_ hbc))))⟩
        · as_aux_lemma =>
          go_simp
          obtain ⟨wc, hwc⟩ : ∃ x : World, x = (wp).alloc (.cells #[.int .i64 0] 3) := ⟨_, rfl⟩
          have hbc : Below (wp).heap.size (wp) wc := by rw [hwc]; exact (by (repeat (first | exact bR _ _ | (refine bS ?_ _) | (refine bA ?_ _) | (refine bN ?_ _) | (refine bD ?_))))
          have A5 : RB1 wc wp.heap.size (.int .i64 0) := by rw [hwc]; exact RB1.mk1 (wp) _ _
          have ha5 : wp.heap.size < wc.heap.size := A5.lt
          have hdc : Below w0.heap.size w0 wc := (by (repeat (first | exact bR _ _ | (refine bS ?_ _) | (refine bA ?_ _) | (refine bN ?_ _) | (refine bD ?_) | (refine bT ?_ hba) | (refine bT ?_ hbp) | (refine bT ?_ hbc))))
          have hsc := hdc.size
          have fc0 := keep_cell hdc (Nat.le_refl _) x0
          have fc1 := keep_cell hdc (Nat.le_refl _) x1
          rw [← hwc]
          clear hwc
          clear hHeld
          have hHeld : (fun w' : World => w'.cell? ⟨w.heap.size, 0, none⟩ = some (.int .i64 m) ∧ w'.cell? ⟨w.heap.size, 1, none⟩ = some (.slice o n c)) wc := by go_keep
          refine hK.out _ _ (fun _ => hHeld) ?_
          clear hK K
          try simp only [List.getElem_toArray, List.getElem_cons_zero, List.getElem_cons_succ, Act.put, List.setIfInBounds_toArray, List.set_cons_zero, List.set_cons_succ]
          refine wpAnyK_oneL (i := 3) rfl (by as_aux_lemma => kernel_rfl) (fun K hK => ?_)
          go_simp
          go_at_call 31
          refine (degreeP_c m o n c _ hml).mono ?_
          rintro e wq ⟨rfl, hbq⟩
          have hdq : Below w0.heap.size w0 wq := (by (repeat (first | exact bR _ _ | (refine bS ?_ _) | (refine bA ?_ _) | (refine bN ?_ _) | (refine bD ?_) | (refine bT ?_ hba) | (refine bT ?_ hbp) | (refine bT ?_ hbc) | (refine bT ?_ hbq))))
          have hsq := hdq.size
          have hzq : wc.heap.size ≤ wq.heap.size := by first | exact hbq.size | (have := hbq.size; simpa using this)
          have fq0 := keep_cell hdq (Nat.le_refl _) x0
          have fq1 := keep_cell hdq (Nat.le_refl _) x1
          go_wp2_with fail
          refine hK.out _ _ (fun h => absurd h (by decide)) ?_
          clear hK K
          try simp only [List.getElem_toArray, List.getElem_cons_zero, List.getElem_cons_succ, Act.put, List.setIfInBounds_toArray, List.set_cons_zero, List.set_cons_succ]
          refine wpAnyK_oneL (i := 6) rfl (by as_aux_lemma => kernel_rfl) (fun K hK => ?_)
          have L4 : RB1 wq w0.heap.size (.slice none 0 0) := A4.below (B := wa.heap.size) (by (repeat (first | exact bR _ _ | (refine bS ?_ _) | (refine bA ?_ _) | (refine bN ?_ _) | (refine bD ?_) | (refine bT ?_ hba) | (refine bT ?_ hbp) | (refine bT ?_ hbc) | (refine bT ?_ hbq)))) (Nat.le_refl _)
          have L5 : RB1 wq wp.heap.size (.int .i64 0) := A5.below (B := wc.heap.size) (by (repeat (first | exact bR _ _ | (refine bS ?_ _) | (refine bA ?_ _) | (refine bN ?_ _) | (refine bD ?_) | (refine bT ?_ hba) | (refine bT ?_ hbp) | (refine bT ?_ hbc) | (refine bT ?_ hbq)))) (Nat.le_refl _)
          obtain ⟨a4, a4f⟩ := id L4
          obtain ⟨a5, a5f⟩ := id L5
          have a4g := a4f 0
          have a5g := a5f 0
          have hne : w0.heap.size ≠ wp.heap.size := by omega
          have hne' : wp.heap.size ≠ w0.heap.size := by omega
          have hb4 : w0.heap.size ≤ w0.heap.size := by omega
          have hb5 : w0.heap.size ≤ wp.heap.size := by omega
          go_simp
          (try go_wp2_with fail)
          refine hK.out _ _ (fun h => absurd h (by decide)) ?_
          clear hK K
          try simp only [List.getElem_toArray, List.getElem_cons_zero, List.getElem_cons_succ, Act.put, List.setIfInBounds_toArray, List.set_cons_zero, List.set_cons_succ]
          refine wpAnyK_oneL (i := 7) rfl (by as_aux_lemma => kernel_rfl) (fun K hK => ?_)
          go_simp
          (try go_wp2_with fail)
          refine hK.out _ _ (fun h => absurd h (by decide)) ?_
          clear hK K
          try simp only [List.getElem_toArray, List.getElem_cons_zero, List.getElem_cons_succ, Act.put, List.setIfInBounds_toArray, List.set_cons_zero, List.set_cons_succ]
          refine wpAnyK_done (by as_aux_lemma => kernel_rfl) ?_ _
          go_wp2_with fail
          go_meet
          obtain ⟨c4, c5⟩ := L4.two L5 hne (.slice op n cp) (.int .i64 ((n : Int) - 1))
          exact ⟨_, _, _, op, cp, rfl, rfl, rfl, c5, c4, (((hrp.belowB (B := wp.heap.size) (by (repeat (first | exact bR _ _ | (refine bS ?_ _) | (refine bA ?_ _) | (refine bN ?_ _) | (refine bD ?_) | (refine bT ?_ hba) | (refine bT ?_ hbp) | (refine bT ?_ hbc) | (refine bT ?_ hbq)))) (Nat.le_refl _)).put (by first | (simp; done) | (simp; omega) | omega) 0 _).put (by first | (simp; done) | (simp; omega) | omega) 0 _).now, (by (repeat (first | exact bR _ _ | (refine bS ?_ _) | (refine bA ?_ _) | (refine bN ?_ _) | (refine bD ?_) | (refine bT ?_ hba) | (refine bT ?_ hbp) | (refine bT ?_ hbc) | (refine bT ?_ hbq))))⟩
      · as_aux_lemma =>
        go_simp
        obtain ⟨wc, hwc⟩ : ∃ x : World, x = (wa).alloc (.cells #[.int .i64 0] 3) := ⟨_, rfl⟩
        have hbc : Below (wa).heap.size (wa) wc := by rw [hwc]; exact (by (repeat (first | exact bR _ _ | (refine bS ?_ _) | (refine bA ?_ _) | (refine bN ?_ _) | (refine bD ?_))))
        have A5 : RB1 wc wa.heap.size (.int .i64 0) := by rw [hwc]; exact RB1.mk1 (wa) _ _
        have ha5 : wa.heap.size < wc.heap.size := A5.lt
        have hdc : Below w0.heap.size w0 wc := (by (repeat (first | exact bR _ _ | (refine bS ?_ _) | (refine bA ?_ _) | (refine bN ?_ _) | (refine bD ?_) | (refine bT ?_ hba) | (refine bT ?_ hbc))))
        have hsc := hdc.size
        have fc0 := keep_cell hdc (Nat.le_refl _) x0
        have fc1 := keep_cell hdc (Nat.le_refl _) x1
        rw [← hwc]
        clear hwc
        clear hHeld
        have hHeld : (fun w' : World => w'.cell? ⟨w.heap.size, 0, none⟩ = some (.int .i64 m) ∧ w'.cell? ⟨w.heap.size, 1, none⟩ = some (.slice o n c)) wc := by go_keep
        refine hK.out _ _ (fun _ => hHeld) ?_
        clear hK K
        try simp only [List.getElem_toArray, List.getElem_cons_zero, List.getElem_cons_succ, Act.put, List.setIfInBounds_toArray, List.set_cons_zero, List.set_cons_succ]
        refine wpAnyK_oneL (i := 1) rfl (by as_aux_lemma => kernel_rfl) (fun K hK => ?_)
        go_simp
        go_at_call 100
        refine (powersP_c m n _ t _ (hu0.below (by (repeat (first | exact bR _ _ | (refine bS ?_ _) | (refine bA ?_ _) | (refine bN ?_ _) | (refine bD ?_) | (refine bT ?_ hba) | (refine bT ?_ hbc)))) (Nat.le_refl _)) h1 hn hm hm' HT.out).mono ?_
        rintro e wp ⟨vp, rfl, hol, hbp⟩
        obtain ⟨op, cp, rfl⟩ := hol.shapeN (n := n) (powsT_len _ _ _ _)
        have hrp := hol.rds
        have hlp := hol.lt
        clear hol
        have hdp : Below w0.heap.size w0 wp := (by (repeat (first | exact bR _ _ | (refine bS ?_ _) | (refine bA ?_ _) | (refine bN ?_ _) | (refine bD ?_) | (refine bT ?_ hba) | (refine bT ?_ hbc) | (refine bT ?_ hbp))))
        have hsp := hdp.size
        have hzp : wc.heap.size ≤ wp.heap.size := by first | exact hbp.size | (have := hbp.size; simpa using this)
        have fp0 := keep_cell hdp (Nat.le_refl _) x0
        have fp1 := keep_cell hdp (Nat.le_refl _) x1
        go_wp2_with fail
        clear hHeld
        have hHeld : (fun w' : World => w'.cell? ⟨w.heap.size, 0, none⟩ = some (.int .i64 m) ∧ w'.cell? ⟨w.heap.size, 1, none⟩ = some (.slice o n c)) wp := by go_keep
        refine hK.out _ _ (fun _ => hHeld) ?_
        clear hK K
        try simp only [List.getElem_toArray, List.getElem_cons_zero, List.getElem_cons_succ, Act.put, List.setIfInBounds_toArray, List.set_cons_zero, List.set_cons_succ]
        refine wpAnyK_oneL (i := 3) rfl (by as_aux_lemma => kernel_rfl) (fun K hK => ?_)
        go_simp
        go_at_call 31
        refine (degreeP_c m o n c _ hml).mono ?_
        rintro e wq ⟨rfl, hbq⟩
        have hdq : Below w0.heap.size w0 wq := (by (repeat (first | exact bR _ _ | (refine bS ?_ _) | (refine bA ?_ _) | (refine bN ?_ _) | (refine bD ?_) | (refine bT ?_ hba) | (refine bT ?_ hbc) | (refine bT ?_ hbp) | (refine bT ?_ hbq))))
        have hsq := hdq.size
        have hzq : wp.heap.size ≤ wq.heap.size := by first | exact hbq.size | (have := hbq.size; simpa using this)
        have fq0 := keep_cell hdq (Nat.le_refl _) x0
        have fq1 := keep_cell hdq (Nat.le_refl _) x1
        go_wp2_with fail
        refine hK.out _ _ (fun h => absurd h (by decide)) ?_
        clear hK K
        try simp only [List.getElem_toArray, List.getElem_cons_zero, List.getElem_cons_succ, Act.put, List.setIfInBounds_toArray, List.set_cons_zero, List.set_cons_succ]
        refine wpAnyK_oneL (i := 6) rfl (by as_aux_lemma => kernel_rfl) (fun K hK => ?_)
        have L4 : RB1 wq w0.heap.size (.slice none 0 0) := A4.below (B := wa.heap.size) (by (repeat (first | exact bR _ _ | (refine bS ?_ _) | (refine bA ?_ _) | (refine bN ?_ _) | (refine bD ?_) | (refine bT ?_ hba) | (refine bT ?_ hbc) | (refine bT ?_ hbp) | (refine bT ?_ hbq)))) (Nat.le_refl _)
        have L5 : RB1 wq wa.heap.size (.int .i64 0) := A5.below (B := wc.heap.size) (by (repeat (first | exact bR _ _ | (refine bS ?_ _) | (refine bA ?_ _) | (refine bN ?_ _) | (refine bD ?_) | (refine bT ?_ hba) | (refine bT ?_ hbc) | (refine bT ?_ hbp) | (refine bT ?_ hbq)))) (Nat.le_refl _)
        obtain ⟨a4, a4f⟩ := id L4
        obtain ⟨a5, a5f⟩ := id L5
        have a4g := a4f 0
        have a5g := a5f 0
        have hne : w0.heap.size ≠ wa.heap.size := by omega
        have hne' : wa.heap.size ≠ w0.heap.size := by omega
        have hb4 : w0.heap.size ≤ w0.heap.size := by omega
        have hb5 : w0.heap.size ≤ wa.heap.size := by omega
        go_simp
        (try go_wp2_with fail)
        refine hK.out _ _ (fun h => absurd h (by decide)) ?_
        clear hK K
        try simp only [List.getElem_toArray, List.getElem_cons_zero, List.getElem_cons_succ, Act.put, List.setIfInBounds_toArray, List.set_cons_zero, List.set_cons_succ]
        refine wpAnyK_oneL (i := 7) rfl (by as_aux_lemma => kernel_rfl) (fun K hK => ?_)
        go_simp
        (try go_wp2_with fail)
        refine hK.out _ _ (fun h => absurd h (by decide)) ?_
        clear hK K
        try simp only [List.getElem_toArray, List.getElem_cons_zero, List.getElem_cons_succ, Act.put, List.setIfInBounds_toArray, List.set_cons_zero, List.set_cons_succ]
        refine wpAnyK_done (by as_aux_lemma => kernel_rfl) ?_ _
        go_wp2_with fail
        go_meet
        obtain ⟨c4, c5⟩ := L4.two L5 hne (.slice op n cp) (.int .i64 ((n : Int) - 1))
        exact ⟨_, _, _, op, cp, rfl, rfl, rfl, c5, c4, (((hrp.belowB (B := wp.heap.size) (by (repeat (first | exact bR _ _ | (refine bS ?_ _) | (refine bA ?_ _) | (refine bN ?_ _) | (refine bD ?_) | (refine bT ?_ hba) | (refine bT ?_ hbc) | (refine bT ?_ hbp) | (refine bT ?_ hbq)))) (Nat.le_refl _)).put (by first | (simp; done) | (simp; omega) | omega) 0 _).put (by first | (simp; done) | (simp; omega) | omega) 0 _).now, (by (repeat (first | exact bR _ _ | (refine bS ?_ _) | (refine bA ?_ _) | (refine bN ?_ _) | (refine bD ?_) | (refine bT ?_ hba) | (refine bT ?_ hbc) | (refine bT ?_ hbp) | (refine bT ?_ hbq))))⟩
    · as_aux_lemma =>
      go_simp
      obtain ⟨wc, hwc⟩ : ∃ x : World, x = (w0.alloc (.cells #[.int .i64 0] 3)).drew := ⟨_, rfl⟩
      have hbc : Below (w0).heap.size (w0) wc := by rw [hwc]; exact (by (repeat (first | exact bR _ _ | (refine bS ?_ _) | (refine bA ?_ _) | (refine bN ?_ _) | (refine bD ?_))))
      have A5 : RB1 wc w0.heap.size (.int .i64 0) := by rw [hwc]; exact RB1.mk1 (w0) _ _
      have ha5 : w0.heap.size < wc.heap.size := A5.lt
      have hdc : Below w0.heap.size w0 wc := (by (repeat (first | exact bR _ _ | (refine bS ?_ _) | (refine bA ?_ _) | (refine bN ?_ _) | (refine bD ?_) | (refine bT ?_ hbc))))
      have hsc := hdc.size
      have fc0 := keep_cell hdc (Nat.le_refl _) x0
      have fc1 := keep_cell hdc (Nat.le_refl _) x1
      rw [← hwc]
      clear hwc
      clear hHeld
      have hHeld : (fun w' : World => w'.cell? ⟨w.heap.size, 0, none⟩ = some (.int .i64 m) ∧ w'.cell? ⟨w.heap.size, 1, none⟩ = some (.slice o n c)) wc := by go_keep
      refine hK.out _ _ (fun _ => hHeld) ?_
      clear hK K
      try simp only [List.getElem_toArray, List.getElem_cons_zero, List.getElem_cons_succ, Act.put, List.setIfInBounds_toArray, List.set_cons_zero, List.set_cons_succ]
      refine wpAnyK_two (i := 1) (j := 4) rfl rfl (by as_aux_lemma => kernel_rfl) (fun K hK => ?_) (fun K hK => ?_)
      · as_aux_lemma =>
        go_simp
        go_at_call 100
        refine (powersP_c m n _ t _ (hu0.below (by (repeat (first | exact bR _ _ | (refine bS ?_ _) | (refine bA ?_ _) | (refine bN ?_ _) | (refine bD ?_) | (refine bT ?_ hbc)))) (Nat.le_refl _)) h1 hn hm hm' HT.out).mono ?_
        rintro e wp ⟨vp, rfl, hol, hbp⟩
        obtain ⟨op, cp, rfl⟩ := hol.shapeN (n := n) (powsT_len _ _ _ _)
        have hrp := hol.rds
        have hlp := hol.lt
        clear hol
        have hdp : Below w0.heap.size w0 wp := (by (repeat (first | exact bR _ _ | (refine bS ?_ _) | (refine bA ?_ _) | (refine bN ?_ _) | (refine bD ?_) | (refine bT ?_ hbc) | (refine bT ?_ hbp))))
        have hsp := hdp.size
        have hzp : wc.heap.size ≤ wp.heap.size := by first | exact hbp.size | (have := hbp.size; simpa using this)
        have fp0 := keep_cell hdp (Nat.le_refl _) x0
        have fp1 := keep_cell hdp (Nat.le_refl _) x1
        go_wp2_with fail
        clear hHeld
        have hHeld : (fun w' : World => w'.cell? ⟨w.heap.size, 0, none⟩ = some (.int .i64 m) ∧ w'.cell? ⟨w.heap.size, 1, none⟩ = some (.slice o n c)) wp := by go_keep
        refine hK.out _ _ (fun _ => hHeld) ?_
        clear hK K
        try simp only [List.getElem_toArray, List.getElem_cons_zero, List.getElem_cons_succ, Act.put, List.setIfInBounds_toArray, List.set_cons_zero, List.set_cons_succ]
        refine wpAnyK_two (i := 3) (j := 4) rfl rfl (by as_aux_lemma => kernel_rfl) (fun K hK => ?_) (fun K hK => ?_)
        · as_aux_lemma =>
          go_simp
          go_at_call 31
          refine (degreeP_c m o n c _ hml).mono ?_
          rintro e wq ⟨rfl, hbq⟩
          have hdq : Below w0.heap.size w0 wq := (by (repeat (first | exact bR _ _ | (refine bS ?_ _) | (refine bA ?_ _) | (refine bN ?_ _) | (refine bD ?_) | (refine bT ?_ hbc) | (refine bT ?_ hbp) | (refine bT ?_ hbq))))
          have hsq := hdq.size
          have hzq : wp.heap.size ≤ wq.heap.size := by first | exact hbq.size | (have := hbq.size; simpa using this)
          have fq0 := keep_cell hdq (Nat.le_refl _) x0
          have fq1 := keep_cell hdq (Nat.le_refl _) x1
          go_wp2_with fail
          refine hK.out _ _ (fun h => absurd h (by decide)) ?_
          clear hK K
          try simp only [List.getElem_toArray, List.getElem_cons_zero, List.getElem_cons_succ, Act.put, List.setIfInBounds_toArray, List.set_cons_zero, List.set_cons_succ]
          refine wpAnyK_oneL (i := 4) rfl (by as_aux_lemma => kernel_rfl) (fun K hK => ?_)
          go_simp
          obtain ⟨wa, hwa⟩ : ∃ x : World, x = (wq).alloc (.cells #[.slice none 0 0] 100) := ⟨_, rfl⟩
          have hba : Below (wq).heap.size (wq) wa := by rw [hwa]; exact (by (repeat (first | exact bR _ _ | (refine bS ?_ _) | (refine bA ?_ _) | (refine bN ?_ _) | (refine bD ?_))))
          have A4 : RB1 wa wq.heap.size (.slice none 0 0) := by rw [hwa]; exact RB1.mk1 (wq) _ _
          have ha4 : wq.heap.size < wa.heap.size := A4.lt
          have hda : Below w0.heap.size w0 wa := (by (repeat (first | exact bR _ _ | (refine bS ?_ _) | (refine bA ?_ _) | (refine bN ?_ _) | (refine bD ?_) | (refine bT ?_ hbc) | (refine bT ?_ hbp) | (refine bT ?_ hbq) | (refine bT ?_ hba))))
          have hsa := hda.size
          have fa0 := keep_cell hda (Nat.le_refl _) x0
          have fa1 := keep_cell hda (Nat.le_refl _) x1
          rw [← hwa]
          clear hwa
          clear hHeld
          have hHeld : (fun w' : World => w'.cell? ⟨w.heap.size, 0, none⟩ = some (.int .i64 m) ∧ w'.cell? ⟨w.heap.size, 1, none⟩ = some (.slice o n c)) wa := by go_keep
          refine hK.out _ _ (fun _ => hHeld) ?_
          clear hK K
          try simp only [List.getElem_toArray, List.getElem_cons_zero, List.getElem_cons_succ, Act.put, List.setIfInBounds_toArray, List.set_cons_zero, List.set_cons_succ]
          refine wpAnyK_oneL (i := 6) rfl (by as_aux_lemma => kernel_rfl) (fun K hK => ?_)
          have L4 : RB1 wa wq.heap.size (.slice none 0 0) := A4.below (B := wa.heap.size) (by (repeat (first | exact bR _ _ | (refine bS ?_ _) | (refine bA ?_ _) | (refine bN ?_ _) | (refine bD ?_) | (refine bT ?_ hbc) | (refine bT ?_ hbp) | (refine bT ?_ hbq) | (refine bT ?_ hba)))) (Nat.le_refl _)
          have L5 : RB1 wa w0.heap.size (.int .i64 0) := A5.below (B := wc.heap.size) (by (repeat (first | exact bR _ _ | (refine bS ?_ _) | (refine bA ?_ _) | (refine bN ?_ _) | (refine bD ?_) | (refine bT ?_ hbc) | (refine bT ?_ hbp) | (refine bT ?_ hbq) | (refine bT ?_ hba)))) (Nat.le_refl _)
          obtain ⟨a4, a4f⟩ := id L4
          obtain ⟨a5, a5f⟩ := id L5
          have a4g := a4f 0
          have a5g := a5f 0
          have hne : wq.heap.size ≠ w0.heap.size := by omega
          have hne' : w0.heap.size ≠ wq.heap.size := by omega
          have hb4 : w0.heap.size ≤ wq.heap.size := by omega
          have hb5 : w0.heap.size ≤ w0.heap.size := by omega
          go_simp
          (try go_wp2_with fail)
          refine hK.out _ _ (fun h => absurd h (by decide)) ?_
          clear hK K
          try simp only [List.getElem_toArray, List.getElem_cons_zero, List.getElem_cons_succ, Act.put, List.setIfInBounds_toArray, List.set_cons_zero, List.set_cons_succ]
          refine wpAnyK_oneL (i := 7) rfl (by as_aux_lemma => kernel_rfl) (fun K hK => ?_)
          go_simp
          (try go_wp2_with fail)
          refine hK.out _ _ (fun h => absurd h (by decide)) ?_
          clear hK K
          try simp only [List.getElem_toArray, List.getElem_cons_zero, List.getElem_cons_succ, Act.put, List.setIfInBounds_toArray, List.set_cons_zero, List.set_cons_succ]
          refine wpAnyK_done (by as_aux_lemma => kernel_rfl) ?_ _
          go_wp2_with fail
          go_meet
          obtain ⟨c4, c5⟩ := L4.two L5 hne (.slice op n cp) (.int .i64 ((n : Int) - 1))
          exact ⟨_, _, _, op, cp, rfl, rfl, rfl, c5, c4, (((hrp.belowB (B := wp.heap.size) (by (repeat (first | exact bR _ _ | (refine bS ?_ _) | (refine bA ?_ _) | (refine bN ?_ _) | (refine bD ?_) | (refine bT ?_ hbc) | (refine bT ?_ hbp) | (refine bT ?_ hbq) | (refine bT ?_ hba)))) (Nat.le_refl _)).put (by first | (simp; done) | (simp; omega) | omega) 0 _).put (by first | (simp; done) | (simp; omega) | omega) 0 _).now, (by (repeat (first | exact bR _ _ | (refine bS ?_ _) | (refine bA ?_ _) | (refine bN ?_ _) | (refine bD ?_) | (refine bT ?_ hbc) | (refine bT ?_ hbp) | (refine bT ?_ hbq) | (refine bT ?_ hba))))⟩
        · as_aux_lemma =>
          go_simp
          obtain ⟨wa, hwa⟩ : ∃ x : World, x = (wp).alloc (.cells #[.slice none 0 0] 100) := ⟨_, rfl⟩
          have hba : Below (wp).heap.size (wp) wa := by rw [hwa]; exact (by (repeat (first | exact bR _ _ | (refine bS ?_ _) | (refine bA ?_ _) | (refine bN ?_ _) | (refine bD ?_))))
          have A4 : RB1 wa wp.heap.size (.slice none 0 0) := by rw [hwa]; exact RB1.mk1 (wp) _ _
          have ha4 : wp.heap.size < wa.heap.size := A4.lt
          have hda : Below w0.heap.size w0 wa := (by (repeat (first | exact bR _ _ | (refine bS ?_ _) | (refine bA ?_ _) | (refine bN ?_ _) | (refine bD ?_) | (refine bT ?_ hbc) | (refine bT ?_ hbp) | (refine bT ?_ hba))))
          have hsa := hda.size
          have fa0 := keep_cell hda (Nat.le_refl _) x0
          have fa1 := keep_cell hda (Nat.le_refl _) x1
          rw [← hwa]
          clear hwa
          clear hHeld
          have hHeld : (fun w' : World => w'.cell? ⟨w.heap.size, 0, none⟩ = some (.int .i64 m) ∧ w'.cell? ⟨w.heap.size, 1, none⟩ = some (.slice o n c)) wa := by go_keep
          refine hK.out _ _ (fun _ => hHeld) ?_
          clear hK K
          try simp only [List.getElem_toArray, List.getElem_cons_zero, List.getElem_cons_succ, Act.put, List.setIfInBounds_toArray, List.set_cons_zero, List.set_cons_succ]
          refine wpAnyK_oneL (i := 3) rfl (by as_aux_lemma => kernel_rfl) (fun K hK => ?_)
          go_simp
          go_at_call 31
          refine (degreeP_c m o n c _ hml).mono ?_
          rintro e wq ⟨rfl, hbq⟩
          have hdq : Below w0.heap.size w0 wq := (by (repeat (first | exact bR _ _ | (refine bS ?_ _) | (refine bA ?_ _) | (refine bN ?_ _) | (refine bD ?_) | (refine bT ?_ hbc) | (refine bT ?_ hbp) | (refine bT ?_ hba) | (refine bT ?_ hbq))))
          have hsq := hdq.size
          have hzq : wa.heap.size ≤ wq.heap.size := by first | exact hbq.size | (have := hbq.size; simpa using this)
          have fq0 := keep_cell hdq (Nat.le_refl _) x0
          have fq1 := keep_cell hdq (Nat.le_refl _) x1
          go_wp2_with fail
          refine hK.out _ _ (fun h => absurd h (by decide)) ?_
          clear hK K
          try simp only [List.getElem_toArray, List.getElem_cons_zero, List.getElem_cons_succ, Act.put, List.setIfInBounds_toArray, List.set_cons_zero, List.set_cons_succ]
          refine wpAnyK_oneL (i := 6) rfl (by as_aux_lemma => kernel_rfl) (fun K hK => ?_)
          have L4 : RB1 wq wp.heap.size (.slice none 0 0) := A4.below (B := wa.heap.size) (by (repeat (first | exact bR _ _ | (refine bS ?_ _) | (refine bA ?_ _) | (refine bN ?_ _) | (refine bD ?_) | (refine bT ?_ hbc) | (refine bT ?_ hbp) | (refine bT ?_ hba) | (refine bT ?_ hbq)))) (Nat.le_refl _)
          have L5 : RB1 wq w0.heap.size (.int .i64 0) := A5.below (B := wc.heap.size) (by (repeat (first | exact bR _ _ | (refine bS ?_ _) | (refine bA ?_ _) | (refine bN ?_ _) | (refine bD ?_) | (refine bT ?_ hbc) | (refine bT ?_ hbp) | (refine bT ?_ hba) | (refine bT ?_ hbq)))) (Nat.le_refl _)
          obtain ⟨a4, a4f⟩ := id L4
          obtain ⟨a5, a5f⟩ := id L5
          have a4g := a4f 0
          have a5g := a5f 0
          have hne : wp.heap.size ≠ w0.heap.size := by omega
          have hne' : w0.heap.size ≠ wp.heap.size := by omega
          have hb4 : w0.heap.size ≤ wp.heap.size := by omega
          have hb5 : w0.heap.size ≤ w0.heap.size := by omega
          go_simp
          (try go_wp2_with fail)
          refine hK.out _ _ (fun h => absurd h (by decide)) ?_
          clear hK K
          try simp only [List.getElem_toArray, List.getElem_cons_zero, List.getElem_cons_succ, Act.put, List.setIfInBounds_toArray, List.set_cons_zero, List.set_cons_succ]
          refine wpAnyK_oneL (i := 7) rfl (by as_aux_lemma => kernel_rfl) (fun K hK => ?_)
          go_simp
          (try go_wp2_with fail)
          refine hK.out _ _ (fun h => absurd h (by decide)) ?_
          clear hK K
          try simp only [List.getElem_toArray, List.getElem_cons_zero, List.getElem_cons_succ, Act.put, List.setIfInBounds_toArray, List.set_cons_zero, List.set_cons_succ]
          refine wpAnyK_done (by as_aux_lemma => kernel_rfl) ?_ _
          go_wp2_with fail
          go_meet
          obtain ⟨c4, c5⟩ := L4.two L5 hne (.slice op n cp) (.int .i64 ((n : Int) - 1))
          exact ⟨_, _, _, op, cp, rfl, rfl, rfl, c5, c4, (((hrp.belowB (B := wp.heap.size) (by (repeat (first | exact bR _ _ | (refine bS ?_ _) | (refine bA ?_ _) | (refine bN ?_ _) | (refine bD ?_) | (refine bT ?_ hbc) | (refine bT ?_ hbp) | (refine bT ?_ hba) | (refine bT ?_ hbq)))) (Nat.le_refl _)).put (by first | (simp; done) | (simp; omega) | omega) 0 _).put (by first | (simp; done) | (simp; omega) | omega) 0 _).now, (by (repeat (first | exact bR _ _ | (refine bS ?_ _) | (refine bA ?_ _) | (refine bN ?_ _) | (refine bD ?_) | (refine bT ?_ hbc) | (refine bT ?_ hbp) | (refine bT ?_ hba) | (refine bT ?_ hbq))))⟩
      · as_aux_lemma =>
        go_simp
        obtain ⟨wa, hwa⟩ : ∃ x : World, x = (wc).alloc (.cells #[.slice none 0 0] 100) := ⟨_, rfl⟩
        have hba : Below (wc).heap.size (wc) wa := by rw [hwa]; exact (by (repeat (first | exact bR _ _ | (refine bS ?_ _) | (refine bA ?_ _) | (refine bN ?_ _) | (refine bD ?_))))
        have A4 : RB1 wa wc.heap.size (.slice none 0 0) := by rw [hwa]; exact RB1.mk1 (wc) _ _
        have ha4 : wc.heap.size < wa.heap.size := A4.lt
        have hda : Below w0.heap.size w0 wa := (by (repeat (first | exact bR _ _ | (refine bS ?_ _) | (refine bA ?_ _) | (refine bN ?_ _) | (refine bD ?_) | (refine bT ?_ hbc) | (refine bT ?_ hba))))
        have hsa := hda.size
        have fa0 := keep_cell hda (Nat.le_refl _) x0
        have fa1 := keep_cell hda (Nat.le_refl _) x1
        rw [← hwa]
        clear hwa
        clear hHeld
        have hHeld : (fun w' : World => w'.cell? ⟨w.heap.size, 0, none⟩ = some (.int .i64 m) ∧ w'.cell? ⟨w.heap.size, 1, none⟩ = some (.slice o n c)) wa := by go_keep
        refine hK.out _ _ (fun _ => hHeld) ?_
        clear hK K
        try simp only [List.getElem_toArray, List.getElem_cons_zero, List.getElem_cons_succ, Act.put, List.setIfInBounds_toArray, List.set_cons_zero, List.set_cons_succ]
        refine wpAnyK_oneL (i := 1) rfl (by as_aux_lemma => kernel_rfl) (fun K hK => ?_)
        go_simp
        go_at_call 100
        refine (powersP_c m n _ t _ (hu0.below (by (repeat (first | exact bR _ _ | (refine bS ?_ _) | (refine bA ?_ _) | (refine bN ?_ _) | (refine bD ?_) | (refine bT ?_ hbc) | (refine bT ?_ hba)))) (Nat.le_refl _)) h1 hn hm hm' HT.out).mono ?_
        rintro e wp ⟨vp, rfl, hol, hbp⟩
        obtain ⟨op, cp, rfl⟩ := hol.shapeN (n := n) (powsT_len _ _ _ _)
        have hrp := hol.rds
        have hlp := hol.lt
        clear hol
        have hdp : Below w0.heap.size w0 wp := (by (repeat (first | exact bR _ _ | (refine bS ?_ _) | (refine bA ?_ _) | (refine bN ?_ _) | (refine bD ?_) | (refine bT ?_ hbc) | (refine bT ?_ hba) | (refine bT ?_ hbp))))
        have hsp := hdp.size
        have hzp : wa.heap.size ≤ wp.heap.size := by first | exact hbp.size | (have := hbp.size; simpa using this)
        have fp0 := keep_cell hdp (Nat.le_refl _) x0
        have fp1 := keep_cell hdp (Nat.le_refl _) x1
        go_wp2_with fail
        clear hHeld
        have hHeld : (fun w' : World => w'.cell? ⟨w.heap.size, 0, none⟩ = some (.int .i64 m) ∧ w'.cell? ⟨w.heap.size, 1, none⟩ = some (.slice o n c)) wp := by go_keep
        refine hK.out _ _ (fun _ => hHeld) ?_
        clear hK K
        try simp only [List.getElem_toArray, List.getElem_cons_zero, List.getElem_cons_succ, Act.put, List.setIfInBounds_toArray, List.set_cons_zero, List.set_cons_succ]
        refine wpAnyK_oneL (i := 3) rfl (by as_aux_lemma => kernel_rfl) (fun K hK => ?_)
        go_simp
        go_at_call 31
        refine (degreeP_c m o n c _ hml).mono ?_
        rintro e wq ⟨rfl, hbq⟩
        have hdq : Below w0.heap.size w0 wq := (by (repeat (first | exact bR _ _ | (refine bS ?_ _) | (refine bA ?_ _) | (refine bN ?_ _) | (refine bD ?_) | (refine bT ?_ hbc) | (refine bT ?_ hba) | (refine bT ?_ hbp) | (refine bT ?_ hbq))))
        have hsq := hdq.size
        have hzq : wp.heap.size ≤ wq.heap.size := by first | exact hbq.size | (have := hbq.size; simpa using this)
        have fq0 := keep_cell hdq (Nat.le_refl _) x0
        have fq1 := keep_cell hdq (Nat.le_refl _) x1
        go_wp2_with fail
        refine hK.out _ _ (fun h => absurd h (by decide)) ?_
        clear hK K
        try simp only [List.getElem_toArray, List.getElem_cons_zero, List.getElem_cons_succ, Act.put, List.setIfInBounds_toArray, List.set_cons_zero, List.set_cons_succ]
        refine wpAnyK_oneL (i := 6) rfl (by as_aux_lemma => kernel_rfl) (fun K hK => ?_)
        have L4 : RB1 wq wc.heap.size (.slice none 0 0) := A4.below (B := wa.heap.size) (by (repeat (first | exact bR _ _ | (refine bS ?_ _) | (refine bA ?_ _) | (refine bN ?_ _) | (refine bD ?_) | (refine bT ?_ hbc) | (refine bT ?_ hba) | (refine bT ?_ hbp) | (refine bT ?_ hbq)))) (Nat.le_refl _)
        have L5 : RB1 wq w0.heap.size (.int .i64 0) := A5.below (B := wc.heap.size) (by (repeat (first | exact bR _ _ | (refine bS ?_ _) | (refine bA ?_ _) | (refine bN ?_ _) | (refine bD ?_) | (refine bT ?_ hbc) | (refine bT ?_ hba) | (refine bT ?_ hbp) | (refine bT ?_ hbq)))) (Nat.le_refl _)
        obtain ⟨a4, a4f⟩ := id L4
        obtain ⟨a5, a5f⟩ := id L5
        have a4g := a4f 0
        have a5g := a5f 0
        have hne : wc.heap.size ≠ w0.heap.size := by omega
        have hne' : w0.heap.size ≠ wc.heap.size := by omega
        have hb4 : w0.heap.size ≤ wc.heap.size := by omega
        have hb5 : w0.heap.size ≤ w0.heap.size := by omega
        go_simp
        (try go_wp2_with fail)
        refine hK.out _ _ (fun h => absurd h (by decide)) ?_
        clear hK K
        try simp only [List.getElem_toArray, List.getElem_cons_zero, List.getElem_cons_succ, Act.put, List.setIfInBounds_toArray, List.set_cons_zero, List.set_cons_succ]
        refine wpAnyK_oneL (i := 7) rfl (by as_aux_lemma => kernel_rfl) (fun K hK => ?_)
        go_simp
        (try go_wp2_with fail)
        refine hK.out _ _ (fun h => absurd h (by decide)) ?_
        clear hK K
        try simp only [List.getElem_toArray, List.getElem_cons_zero, List.getElem_cons_succ, Act.put, List.setIfInBounds_toArray, List.set_cons_zero, List.set_cons_succ]
        refine wpAnyK_done (by as_aux_lemma => kernel_rfl) ?_ _
        go_wp2_with fail
        go_meet
        obtain ⟨c4, c5⟩ := L4.two L5 hne (.slice op n cp) (.int .i64 ((n : Int) - 1))
        exact ⟨_, _, _, op, cp, rfl, rfl, rfl, c5, c4, (((hrp.belowB (B := wp.heap.size) (by (repeat (first | exact bR _ _ | (refine bS ?_ _) | (refine bA ?_ _) | (refine bN ?_ _) | (refine bD ?_) | (refine bT ?_ hbc) | (refine bT ?_ hba) | (refine bT ?_ hbp) | (refine bT ?_ hbq)))) (Nat.le_refl _)).put (by first | (simp; done) | (simp; omega) | omega) 0 _).put (by first | (simp; done) | (simp; omega) | omega) 0 _).now, (by (repeat (first | exact bR _ _ | (refine bS ?_ _) | (refine bA ?_ _) | (refine bN ?_ _) | (refine bD ?_) | (refine bT ?_ hbc) | (refine bT ?_ hba) | (refine bT ?_ hbp) | (refine bT ?_ hbq))))⟩
  case rest =>
    obtain ⟨w1, bp, bd, op, kp, rfl, rfl, rfl, hcd, hcp, hR, hb⟩ := hcut
    have B1 := B0.trans (hb.mono B0.size)
    have X1 := X0.below hb (Nat.le_refl _)
    go_wp2
    go_ret
    exact ⟨bd, w.heap.size, bp, o, op, c, kp, rfl, hcd, X1, rfl, hcp, hR, B1⟩
end Go.Proofs.YteijannfbafdpaaGreatDoor

/- The first fault of a law: the program's function. -/
set_option linter.unusedSimpArgs false
set_option linter.unusedVariables false
namespace Go.Proofs.YteijannfbafdpaaGreatDoor
open Go.RowKit

theorem dueI_1 {k : Nat} (h : ((k : Int) == 1) = true) : dueI k = 1 := by
  have : (k : Int) = 1 := by simpa using h
  unfold dueI; rw [if_pos (by omega)]
theorem dueI_0 {k : Nat} (h : ((k : Int) == 1) = false) : dueI k = 0 := by
  have : ¬ (k : Int) = 1 := by simpa using h
  unfold dueI; rw [if_neg (by omega)]
def FEnd (w w' : World) (l : List Int) (e : Ending) : Prop := ∃ v', e = .returned v' ∧ OwI w' w.heap.size v' l ∧ (l = [] → v' = .slice none 0 0) ∧ Below w.heap.size w w'
theorem FEnd.nil {w w' : World} {l : List Int} (h : l = []) (hb : Below w.heap.size w w') : FEnd w w' l (.returned (.slice none 0 0)) := ⟨_, rfl, by rw [h]; exact OwI.nil _ _, fun _ => rfl, hb⟩
theorem FEnd.lit {w W : World} {l : List Int} {ys : List Int} {n : Nat} (h : l = ys) (hne : ys ≠ []) (hl : ys.length = n) (hm : n ≤ 4) (hs : w.heap.size ≤ W.heap.size) (hb : Below w.heap.size w W) :
    FEnd w (W.alloc (.cells (ys.map (Value.int .i64)).toArray 2)) l (.returned (.slice (some ⟨W.heap.size, 0, none⟩) n n)) := by
  subst h hl
  exact ⟨_, rfl, (OwI.lit W l (by unfold maxLen; omega)).mono hs, fun h => absurd h hne, hb.alloc hs _⟩

set_option maxHeartbeats 4000000 in
set_option maxRecDepth 100000 in
theorem axioms_c (m : Int) (n : Nat) (v : Value) (t : List (List Int)) (w : World) (hv : RdT w v t) (h1 : 1 ≤ n) (hn : n ≤ 1000) (hm : 2 ≤ m) (hm' : m ≤ 10000) (ht : PlaT m n t) :
    Calls Tryz.prog 54 #[.agg #[.int .i64 m, v]] w fun e w' => FEnd w w' (fauL m t n) e := by
  obtain ⟨o, c, rfl, hmx, -⟩ := id hv
  have hu : RdT w (.slice o n c) t := by rw [ht.1] at hv; exact hv
  rw [ht.1] at hmx ⊢
  clear hv
  have hml := hmx.1
  unfold maxLen at hmx
  have HT := Lib.hid ht
  obtain ⟨bt, ft, rfl, -⟩ := hu.rows (by rw [ht.1]; omega)
  clear ht
  go_enter Tryz.func54, Tryz.ntmps54
  go_wp2_with fail
  (obtain ⟨w0, hw0⟩ : ∃ W : World, W = (w.alloc (.cells #[.int .i64 m, .slice (some ⟨bt, ft, none⟩) n c] 28)) := ⟨_, rfl⟩; have X0 := (RB2.mk1 w  (.int .i64 m) (.slice (some ⟨bt, ft, none⟩) n c) 28).1.below (w' := w0) (by rw [hw0]; (repeat (first | exact bR _ _ | (refine bS ?_ _) | (refine bA ?_ _) | (refine bN ?_ _) | (refine bD ?_)))) (Nat.le_refl _); have B0 : Below w.heap.size w w0 := (by rw [hw0]; (repeat (first | exact bR _ _ | (refine bS ?_ _) | (refine bA ?_ _) | (refine bN ?_ _) | (refine bD ?_)))); have hu0 := hu.below (w' := w0) (by rw [hw0]; (repeat (first | exact bR _ _ | (refine bS ?_ _) | (refine bA ?_ _) | (refine bN ?_ _) | (refine bD ?_)))) (Nat.le_refl _); rw [← hw0]; clear hw0)
  have B0s := B0.size
  obtain ⟨x0, x1⟩ := id X0
  go_wp2_with fail
  go_loopw [16] (fun s wr => ∃ k : Nat, k ≤ n ∧ s = .int .i64 k ∧ Hid (∀ j, j < k → atT t j 0 = dueI j) ∧ ∃ d, wr = w0.drewN d) (fun i _ => n - (intOf i).toNat)
  case atStart => exact ⟨0, Nat.zero_le _, rfl, Lib.hid (fun j hj => by omega), 0, rfl⟩
  case round =>
    obtain ⟨k, hk, rfl, HQ, d, rfl⟩ := hrel
    by_cases hlt : k < n
    · obtain ⟨r1, hr1, hl1, hj1⟩ := HT.out.row hlt
      obtain ⟨p1, q1, cx, rx⟩ := hu0.row hr1
      rw [hl1] at cx rx
      obtain ⟨b1, f1, rfl, -⟩ := rx.cells (by omega)
      have ex := rx.cell0 (hj1 0 (by omega))
      rw [Nat.add_zero] at ex
      clear hr1 hl1 hj1
      have i0 : (0 : Int) ≤ (k : Int) := by omega
      have i1 : (k : Int) < (n : Int) := by omega
      have i2 : (0 : Int) < ((n - k : Nat) : Int) := by omega
      have i3 : 0 < n - k := by omega
      cases hk1 : ((k : Int) == 1)
      · cases hx : (atT t k 0 != 0)
        · have HE := Lib.hid (show atT t k 0 = dueI k by rw [dueI_0 hk1]; simpa using hx)
          go_wp2
          exact ⟨⟨k + 1, by omega, by go_num, Lib.hid (fun j hj => by
            rcases Nat.lt_or_ge j k with h | h
            · exact HQ.out j h
            · obtain rfl : j = k := by omega
              exact HE.out), _, rfl⟩, by simp [intOf]; omega⟩
        · have HE := Lib.hid (show fauL m t n = [0, (k : Int)] from fauL_1 hlt HQ.out (by rw [dueI_0 hk1]; simpa using hx))
          go_wp2
          go_ret
          exact FEnd.lit (n := 2) (W := w0.drewN d) (ys := [0, (k : Int)]) HE.out (by simp) rfl (by omega) (by first | (simp; done) | (simp; omega) | omega) (by (repeat (first | exact bR _ _ | (refine bS ?_ _) | (refine bA ?_ _) | (refine bN ?_ _) | (refine bD ?_) | (refine bT ?_ B0))))
      · cases hx : (atT t k 0 != 1)
        · have HE := Lib.hid (show atT t k 0 = dueI k by rw [dueI_1 hk1]; simpa using hx)
          go_wp2
          exact ⟨⟨k + 1, by omega, by go_num, Lib.hid (fun j hj => by
            rcases Nat.lt_or_ge j k with h | h
            · exact HQ.out j h
            · obtain rfl : j = k := by omega
              exact HE.out), _, rfl⟩, by simp [intOf]; omega⟩
        · have HE := Lib.hid (show fauL m t n = [0, (k : Int)] from fauL_1 hlt HQ.out (by rw [dueI_1 hk1]; simpa using hx))
          go_wp2
          go_ret
          exact FEnd.lit (n := 2) (W := w0.drewN d) (ys := [0, (k : Int)]) HE.out (by simp) rfl (by omega) (by first | (simp; done) | (simp; omega) | omega) (by (repeat (first | exact bR _ _ | (refine bS ?_ _) | (refine bA ?_ _) | (refine bN ?_ _) | (refine bD ?_) | (refine bT ?_ B0))))
    · obtain rfl : k = n := by omega
      have H1 := HQ
      clear HQ
      go_wp2_with fail
      go_loopw [36] (fun s wr => ∃ i : Nat, i ≤ k ∧ s = .int .i64 i ∧ Hid (∀ i', i' < i → ∀ j', i' < j' → i' + j' < k → atT t i' j' = atT t j' i') ∧ ∃ d, wr = w0.drewN d) (fun i _ => k - (intOf i).toNat)
      case atStart => exact ⟨0, Nat.zero_le _, rfl, Lib.hid (fun j hj => by omega), d, rfl⟩
      case round =>
        obtain ⟨i, hi, rfl, HA, d, rfl⟩ := hrel
        by_cases hlt : i < k
        · obtain ⟨r1, hr1, hl1, hj1⟩ := HT.out.row hlt
          obtain ⟨p1, q1, cx, rx⟩ := hu0.row hr1
          rw [hl1] at cx rx
          obtain ⟨b1, f1, rfl, -⟩ := rx.cells (by omega)
          have HJ := Lib.hid hj1
          clear hr1 hl1 hj1
          have i0 : (0 : Int) ≤ (i : Int) := by omega
          have i1 : (i : Int) < (k : Int) := by omega
          go_wp2_with fail
          go_loopw [7] (fun s wr => ∃ j : Nat, i < j ∧ (j ≤ k - i ∨ j = i + 1) ∧ s = .int .i64 j ∧ Hid (∀ j', i < j' → j' < j → atT t i j' = atT t j' i) ∧ ∃ d, wr = w0.drewN d) (fun i' _ => k - i - (intOf i').toNat)
          case atStart => exact ⟨i + 1, by omega, .inr rfl, by go_num, Lib.hid (fun j hj h => by omega), d, rfl⟩
          case round =>
            obtain ⟨j, hij, hj, rfl, HB, d, rfl⟩ := hrel
            by_cases hjl : j < k - i
            · have ex := rx.cell0 (HJ.out j hjl)
              obtain ⟨r2, hr2, hl2, hj2⟩ := HT.out.row (show j < k by omega)
              obtain ⟨p2, q2, cy, ry⟩ := hu0.row hr2
              rw [hl2] at cy ry
              obtain ⟨b2, f2, rfl, -⟩ := ry.cells (by omega)
              have ey := ry.cell0 (hj2 i (by omega))
              clear hr2 hl2 hj2
              have j0 : (0 : Int) ≤ (j : Int) := by omega
              have j1 : (j : Int) < ((k - i : Nat) : Int) := by omega
              have j2 : (j : Int) < (k : Int) := by omega
              have j3 : (i : Int) < ((k - j : Nat) : Int) := by omega
              cases hx : (atT t i j != atT t j i)
              · have HE := Lib.hid (show atT t i j = atT t j i by simpa using hx)
                go_wp2_with fail
                go_quiet (fail)
                go_wp2
                exact ⟨⟨j + 1, by omega, by omega, by go_num, Lib.hid (fun j' h1 h2 => by
                  rcases Nat.lt_or_ge j' j with h | h
                  · exact HB.out j' h1 h
                  · obtain rfl : j' = j := by omega
                    exact HE.out), _, rfl⟩, by simp [intOf]; omega⟩
              · have HE := Lib.hid (show fauL m t k = [1, (i : Int), (j : Int)] from fauL_2 hij (by omega) H1.out HA.out HB.out (by simpa using hx))
                go_wp2_with fail
                go_quiet (fail)
                go_wp2
                go_ret
                exact FEnd.lit (n := 3) (W := w0.drewN (d + nq)) (ys := [1, (i : Int), (j : Int)]) HE.out (by simp) rfl (by omega) (by first | (simp; done) | (simp; omega) | omega) (by (repeat (first | exact bR _ _ | (refine bS ?_ _) | (refine bA ?_ _) | (refine bN ?_ _) | (refine bD ?_) | (refine bT ?_ B0))))
            · have HE := Lib.hid (fun j' (h1 : i < j') (h2 : i + j' < k) => HB.out j' h1 (by omega))
              have j1 : ¬ (j : Int) < ((k - i : Nat) : Int) := by omega
              go_wp2
              exact ⟨⟨i + 1, by omega, by go_num, Lib.hid (fun i' h1 j' h2 h3 => by
                rcases Nat.lt_or_ge i' i with h | h
                · exact HA.out i' h j' h2 h3
                · obtain rfl : i' = i := by omega
                  exact HE.out j' h2 h3), _, rfl⟩, by simp [intOf]; omega⟩
        · obtain rfl : i = k := by omega
          have H2 := Lib.hid (fun i' j' (h1 : i' < j') (h2 : i' + j' < i) => HA.out i' (by omega) j' h1 h2)
          clear HA
          obtain ⟨w1, hw1⟩ : ∃ w1, w1 = w0.drewN d := ⟨_, rfl⟩
          have hb : Below w0.heap.size w0 w1 := by rw [hw1]; exact (by (repeat (first | exact bR _ _ | (refine bS ?_ _) | (refine bA ?_ _) | (refine bN ?_ _) | (refine bD ?_))))
          (have X1 := X0.below hb (Nat.le_refl _); have hu1 := hu0.below hb (Nat.le_refl _); have B1 := B0.trans (hb.mono B0.size))
          rw [← hw1]
          clear x0 x1 hw1 hb
          obtain ⟨x0, x1⟩ := id X1
          go_wp2_with fail
          refine (defectsOf_c m i _ t _ hu1 h1 hn hm (by omega) HT.out).mono ?_
          rintro e w2 ⟨bd, bf, bp, o', op, k', kp, rfl, hcd, hXf, hvv, hcp, hR, hb⟩
          (have X2 := X1.below hb (Nat.le_refl _); have hu2 := hu1.below hb (Nat.le_refl _); have B2 := B1.trans (hb.mono B1.size))
          obtain ⟨rfl, -, rfl⟩ := Value.slice.inj hvv
          clear hvv x0 x1
          obtain ⟨x0, x1⟩ := id X2
          go_wp2_with fail
          refine (degreeP_c m _ i c _ hml).mono ?_
          rintro e w3 ⟨rfl, hb⟩
          have hcd3 := keep_cell hb (Nat.le_refl _) hcd
          have hXf3 := hXf.below hb (Nat.le_refl _)
          have hcp3 := keep_cell hb (Nat.le_refl _) hcp
          have hR3 := hR.below hb (Nat.le_refl _)
          (have X3 := X2.below hb (Nat.le_refl _); have hu3 := hu2.below hb (Nat.le_refl _); have B3 := B2.trans (hb.mono B2.size))
          have B3s := B3.size
          clear x0 x1 hcd hXf hcp hR
          have hG := defects1_callable
          unfold Callable at hG
          go_wp2_with fail
          go_loopw [10] (fun s wr => ∃ a : Nat, a ≤ i ∧ s = .int .i64 a ∧ Hid (∀ a', a' < a → ∀ b c, a' + b + c < i → lefC m i t a' b c = rigC m i t a' b c) ∧ ∃ d, wr = w3.drewN d) (fun s _ => i - (intOf s).toNat)
          case atStart => exact ⟨0, Nat.zero_le _, rfl, Lib.hid (fun j hj => by omega), 0, rfl⟩
          case round =>
            obtain ⟨a, ha, rfl, HA, d, rfl⟩ := hrel
            by_cases hlt : a < i
            · have a0 : (a : Int) ≤ (i : Int) - 1 := by omega
              go_wp2_with fail
              go_loopw [11] (fun s wr => ∃ b : Nat, b ≤ i - a ∧ s = .int .i64 b ∧ Hid (∀ b', b' < b → ∀ c, a + b' + c < i → lefC m i t a b' c = rigC m i t a b' c) ∧ ∃ d, wr = w3.drewN d) (fun s _ => i - a - (intOf s).toNat)
              case atStart => exact ⟨0, Nat.zero_le _, rfl, Lib.hid (fun j hj => by omega), d, rfl⟩
              case round =>
                obtain ⟨b, hb', rfl, HB, d, rfl⟩ := hrel
                by_cases hlt : b < i - a
                · have b0 : (a : Int) + (b : Int) ≤ (i : Int) - 1 := by omega
                  go_wp2_with fail
                  go_loopw [12] (fun s wr => ∃ c : Nat, c ≤ i - a - b ∧ s = .int .i64 c ∧ Hid (∀ c', c' < c → lefC m i t a b c' = rigC m i t a b c') ∧ ∃ d, wr = w3.drewN d) (fun s _ => i - a - b - (intOf s).toNat)
                  case atStart => exact ⟨0, Nat.zero_le _, rfl, Lib.hid (fun j hj => by omega), d, rfl⟩
                  case round =>
                    obtain ⟨cc, hc', rfl, HC, d, rfl⟩ := hrel
                    by_cases hlt : cc < i - a - b
                    · have c0 : (a : Int) + (b : Int) + (cc : Int) ≤ (i : Int) - 1 := by omega
                      have hbd : Below w3.heap.size w3 (w3.drewN d) := (by (repeat (first | exact bR _ _ | (refine bS ?_ _) | (refine bA ?_ _) | (refine bN ?_ _) | (refine bD ?_))))
                      have HD := Lib.hid (defects1_c m i t bd bf bp _ op c kp a b cc (w3.drewN d) (keep_cell hbd (Nat.le_refl _) hcd3) (hXf3.below hbd (Nat.le_refl _)) (hu3.below hbd (Nat.le_refl _)) (keep_cell hbd (Nat.le_refl _) hcp3) (hR3.below hbd (Nat.le_refl _)) h1 hn hm hm' HT.out (by omega))
                      cases hx : (defC m i t a b cc != 0)
                      · have HE := Lib.hid (defC_1 hx)
                        go_wp2_with fail
                        refine HD.out.mono ?_
                        rintro e w' ⟨rfl, d', rfl⟩
                        go_wp2
                        exact ⟨⟨cc + 1, by omega, by go_num, Lib.hid (fun c' h1 => by
                          rcases Nat.lt_or_ge c' cc with h | h
                          · exact HC.out c' h
                          · obtain rfl : c' = cc := by omega
                            exact HE.out), _, rfl⟩, by simp [intOf]; omega⟩
                      · have HE := Lib.hid (show fauL m t i = [2, (a : Int), (b : Int), (cc : Int)] from fauL_3 (by omega) H1.out H2.out HA.out HB.out HC.out (defC_0.1 hx))
                        go_wp2_with fail
                        refine HD.out.mono ?_
                        rintro e w' ⟨rfl, d', rfl⟩
                        go_wp2
                        go_ret
                        exact FEnd.lit (n := 4) (W := w3.drewN (d + d')) (ys := [2, (a : Int), (b : Int), (cc : Int)]) HE.out (by simp) rfl (by omega) (by first | (simp; done) | (simp; omega) | omega) (by (repeat (first | exact bR _ _ | (refine bS ?_ _) | (refine bA ?_ _) | (refine bN ?_ _) | (refine bD ?_) | (refine bT ?_ B3))))
                    · have c0 : ¬ (a : Int) + (b : Int) + (cc : Int) ≤ (i : Int) - 1 := by omega
                      have HE := Lib.hid (fun c' (h2 : a + b + c' < i) => HC.out c' (by omega))
                      go_wp2
                      exact ⟨⟨b + 1, by omega, by go_num, Lib.hid (fun b' h1 c' h2 => by
                        rcases Nat.lt_or_ge b' b with h | h
                        · exact HB.out b' h c' h2
                        · obtain rfl : b' = b := by omega
                          exact HE.out c' h2), _, rfl⟩, by simp [intOf]; omega⟩
                · have b0 : ¬ (a : Int) + (b : Int) ≤ (i : Int) - 1 := by omega
                  have HE := Lib.hid (fun b' c' (h2 : a + b' + c' < i) => HB.out b' (by omega) c' h2)
                  go_wp2
                  exact ⟨⟨a + 1, by omega, by go_num, Lib.hid (fun a' h1 b' c' h2 => by
                    rcases Nat.lt_or_ge a' a with h | h
                    · exact HA.out a' h b' c' h2
                    · obtain rfl : a' = a := by omega
                      exact HE.out b' c' h2), _, rfl⟩, by simp [intOf]; omega⟩
            · obtain rfl : a = i := by omega
              have a0 : ¬ (a : Int) ≤ (a : Int) - 1 := by omega
              have HE := Lib.hid (show fauL m t a = [] from fauL_0 H1.out H2.out (fun a' b c h => HA.out a' (by omega) b c h))
              go_wp2
              go_ret
              exact FEnd.nil HE.out (by (repeat (first | exact bR _ _ | (refine bS ?_ _) | (refine bA ?_ _) | (refine bN ?_ _) | (refine bD ?_) | (refine bT ?_ B3))))
end Go.Proofs.YteijannfbafdpaaGreatDoor

/- A column of a table: the reference's function. -/
set_option linter.unusedSimpArgs false
set_option linter.unusedVariables false
namespace Go.Proofs.YteijannfbafdpaaGreatDoor
open Go.RowKit

theorem colT_range {m : Int} {n : Nat} {t : List (List Int)} (ht : PlaT m n t) (j : Nat) : ∀ x ∈ colT t n j, 0 ≤ x ∧ x < m := by
  intro x hx
  obtain ⟨k, hk, rfl⟩ := mem_mk hx
  obtain ⟨-, -, -, -, h1, h2⟩ := ht.at (i := k) (j := j) (by omega)
  exact ⟨h1, h2⟩

set_option maxHeartbeats 1000000 in
set_option maxRecDepth 100000 in
theorem l04Column_c (m : Int) (n j : Nat) (v : Value) (t : List (List Int)) (w : World) (hv : RdT w v t) (h1 : 1 ≤ n) (hn : n ≤ 1000) (hj : j ≤ n) (ht : PlaT m n t) :
    Calls Tryz.prog 66 #[v, .int .i64 j] w fun e w' => ∃ v', e = .returned v' ∧ OwI w' w.heap.size v' (colT t n j) ∧ Below w.heap.size w w' := by
  obtain ⟨o, c, rfl, hmx, -⟩ := id hv
  have hu : RdT w (.slice o n c) t := by rw [ht.1] at hv; exact hv
  rw [ht.1] at hmx ⊢
  clear hv
  unfold maxLen at hmx
  have HT := Lib.hid ht
  obtain ⟨bt, ft, rfl, -⟩ := hu.rows (by rw [ht.1]; omega)
  clear ht
  have j0 : (0 : Int) ≤ (j : Int) := by omega
  go_enter Tryz.func66, Tryz.ntmps66
  go_wp2_with fail
  have O1 := OwI.lit w [] (by decide)
  have B1 : Below w.heap.size w (w.alloc (.cells #[] 2)) := (by (repeat (first | exact bR _ _ | (refine bS ?_ _) | (refine bA ?_ _) | (refine bN ?_ _) | (refine bD ?_))))
  simp at O1
  generalize w.alloc (.cells #[] 2) = w1 at O1 B1 ⊢
  go_loopw [5, 6] (fun s i wr => ∃ k : Nat, k ≤ n - j ∧ i = .int .i64 k ∧ OwI wr w.heap.size s (mk k (fun i => atT t i j)) ∧ Below w.heap.size w wr) (fun _ i _ => n - j - (intOf i).toNat)
  case atStart => exact ⟨0, Nat.zero_le _, rfl, O1, B1⟩
  case round =>
    obtain ⟨k, hk, rfl, hO, hB⟩ := hrel
    obtain ⟨ov, cv, rfl⟩ := hO.shapeN (n := k) (mk_len _ _)
    by_cases hlt : k < n - j
    · obtain ⟨r1, hr1, hl1, hj1⟩ := HT.out.row (show k < n by omega)
      obtain ⟨p1, q1, cx0, rx0⟩ := hu.row hr1
      rw [hl1] at cx0 rx0
      obtain ⟨b1, f1, rfl, -⟩ := rx0.cells (by omega)
      have cx := keep_cell hB (Nat.le_refl _) cx0
      have ex := (rx0.below hB (Nat.le_refl _)).cell0 (hj1 j (by omega))
      have HS := Lib.hid (mk_snoc k (fun i => atT t i j))
      have hBs := hB.size
      have i0 : (0 : Int) ≤ (k : Int) := by omega
      have i1 : (k : Int) < (n : Int) := by omega
      have i2 : (k : Int) + (j : Int) < (n : Int) := by omega
      have i3 : (j : Int) < ((n - k : Nat) : Int) := by omega
      clear hr1 hl1 hj1 cx0
      go_wp2_with (at_builtin; refine apI wr rfl _ _ rfl w.heap.size (.slice ov k cv) _ rfl hO (atT t k j) (by go_simp) (by rw [mk_len]; omega) (by omega) ?_; intro v' w4 hO3 hgr hb3 hlt3; clear hgr)
      rw [← HS.out] at hO3
      go_wp2
      exact ⟨⟨k + 1, by omega, by go_num, hO3, hB.trans hb3⟩, by simp [intOf]; omega⟩
    · obtain rfl : k = n - j := by omega
      have i2 : ¬ ((n - j : Nat) : Int) + (j : Int) < (n : Int) := by omega
      go_wp2
      go_ret
      exact ⟨_, rfl, hO, hB⟩
end Go.Proofs.YteijannfbafdpaaGreatDoor

/- The first fault of a law: the reference's function. -/
set_option linter.unusedSimpArgs false
set_option linter.unusedVariables false
namespace Go.Proofs.YteijannfbafdpaaGreatDoor
open Go.RowKit

def lefL (m : Int) (n : Nat) (t : List (List Int)) (k : Nat) : List (List (List Int)) := (List.range k).map (fun c => hornT m n t (colT t n c))
def rigL (m : Int) (n : Nat) (t : List (List Int)) (k : Nat) : List (List (List Int)) := (List.range k).map (fun a => hornT m n t (t.getD a []))
theorem lefL_len (m : Int) (n : Nat) (t : List (List Int)) (k : Nat) : (lefL m n t k).length = k := by simp [lefL]
theorem rigL_len (m : Int) (n : Nat) (t : List (List Int)) (k : Nat) : (rigL m n t k).length = k := by simp [rigL]
theorem lefL_get {m : Int} {n : Nat} {t : List (List Int)} {k i : Nat} (h : i < k) : (lefL m n t k)[i]? = some (hornT m n t (colT t n i)) := by simp [lefL, h]
theorem rigL_get {m : Int} {n : Nat} {t : List (List Int)} {k i : Nat} (h : i < k) : (rigL m n t k)[i]? = some (hornT m n t (t.getD i [])) := by simp [rigL, h]
theorem lefL_snoc (m : Int) (n : Nat) (t : List (List Int)) (k : Nat) : lefL m n t (k + 1) = lefL m n t k ++ [hornT m n t (colT t n k)] := by simp [lefL, List.range_succ]
theorem rigL_snoc (m : Int) (n : Nat) (t : List (List Int)) (k : Nat) : rigL m n t (k + 1) = rigL m n t k ++ [hornT m n t (t.getD k [])] := by simp [rigL, List.range_succ]
theorem getD_some {t : List (List Int)} {k : Nat} {r : List Int} (h : t[k]? = some r) : t.getD k [] = r := by simp [List.getD, h]
theorem right_eq2 {m : Int} {n : Nat} {t : List (List Int)} (ht : PlaT m n t) {a b c : Nat} (h : a + b + c < n) : atT (hornT m n t (t.getD a [])) b c = rigC m n t a b c := by
  obtain ⟨row, hr, -⟩ := ht.row (i := a) (by omega)
  rw [getD_some hr]
  exact right_eq ht h row hr
theorem PlaT.rowx {m : Int} {n : Nat} {t : List (List Int)} (ht : PlaT m n t) {k : Nat} {r : List Int} (h : t[k]? = some r) : ∀ x ∈ r, 0 ≤ x ∧ x < m := by
  obtain ⟨hl, rfl⟩ := List.getElem?_eq_some_iff.1 h
  exact (ht.2 k hl).2

set_option maxHeartbeats 6000000 in
set_option maxRecDepth 100000 in
theorem l04Fault_c (m : Int) (n : Nat) (v : Value) (t : List (List Int)) (w : World) (hv : RdT w v t) (h1 : 1 ≤ n) (hn : n ≤ 1000) (hm : 2 ≤ m) (hm' : m ≤ 10000) (ht : PlaT m n t) :
    Calls Tryz.prog 39 #[.agg #[.int .i64 m, v]] w fun e w' => FEnd w w' (fauL m t n) e := by
  obtain ⟨o, c, rfl, hmx, -⟩ := id hv
  have hu : RdT w (.slice o n c) t := by rw [ht.1] at hv; exact hv
  rw [ht.1] at hmx ⊢
  clear hv
  unfold maxLen at hmx
  have HT := Lib.hid ht
  obtain ⟨bt, ft, rfl, -⟩ := hu.rows (by rw [ht.1]; omega)
  clear ht
  go_enter Tryz.func39, Tryz.ntmps39
  go_wp2_with fail
  (obtain ⟨w0, hw0⟩ : ∃ W : World, W = (w.alloc (.cells #[.int .i64 m, .slice (some ⟨bt, ft, none⟩) n c] 28)) := ⟨_, rfl⟩; have X0 := (RB2.mk1 w  (.int .i64 m) (.slice (some ⟨bt, ft, none⟩) n c) 28).1.below (w' := w0) (by rw [hw0]; (repeat (first | exact bR _ _ | (refine bS ?_ _) | (refine bA ?_ _) | (refine bN ?_ _) | (refine bD ?_)))) (Nat.le_refl _); have B0 : Below w.heap.size w w0 := (by rw [hw0]; (repeat (first | exact bR _ _ | (refine bS ?_ _) | (refine bA ?_ _) | (refine bN ?_ _) | (refine bD ?_)))); have hu0 := hu.below (w' := w0) (by rw [hw0]; (repeat (first | exact bR _ _ | (refine bS ?_ _) | (refine bA ?_ _) | (refine bN ?_ _) | (refine bD ?_)))) (Nat.le_refl _); rw [← hw0]; clear hw0)
  have B0s := B0.size
  obtain ⟨x0, x1⟩ := id X0
  go_quiet (fail)
  go_wp2_with fail
  go_loopw [5] (fun s wr => ∃ k : Nat, k ≤ n ∧ s = .int .i64 k ∧ Hid (∀ j, j < k → atT t j 0 = dueI j) ∧ ∃ d, wr = w0.drewN d) (fun i _ => n - (intOf i).toNat)
  case atStart => exact ⟨0, Nat.zero_le _, rfl, Lib.hid (fun j hj => by omega), _, rfl⟩
  case round =>
    obtain ⟨k, hk, rfl, HQ, d, rfl⟩ := hrel
    by_cases hlt : k < n
    · obtain ⟨r1, hr1, hl1, hj1⟩ := HT.out.row hlt
      obtain ⟨p1, q1, cx, rx⟩ := hu0.row hr1
      rw [hl1] at cx rx
      obtain ⟨b1, f1, rfl, -⟩ := rx.cells (by omega)
      have ex := rx.cell0 (hj1 0 (by omega))
      rw [Nat.add_zero] at ex
      clear hr1 hl1 hj1
      have i0 : (0 : Int) ≤ (k : Int) := by omega
      have i1 : (k : Int) < (n : Int) := by omega
      have i2 : (0 : Int) < ((n - k : Nat) : Int) := by omega
      have i3 : 0 < n - k := by omega
      cases hk1 : ((k : Int) == 1)
      · cases hx : (atT t k 0 != 0)
        · have HE := Lib.hid (show atT t k 0 = dueI k by rw [dueI_0 hk1]; simpa using hx)
          go_wp2
          exact ⟨⟨k + 1, by omega, by go_num, Lib.hid (fun j hj => by
            rcases Nat.lt_or_ge j k with h | h
            · exact HQ.out j h
            · obtain rfl : j = k := by omega
              exact HE.out), _, rfl⟩, by simp [intOf]; omega⟩
        · have HE := Lib.hid (show fauL m t n = [0, (k : Int)] from fauL_1 hlt HQ.out (by rw [dueI_0 hk1]; simpa using hx))
          go_wp2
          go_ret
          exact FEnd.lit (n := 2) (W := w0.drewN d) (ys := [0, (k : Int)]) HE.out (by simp) rfl (by omega) (by first | (simp; done) | (simp; omega) | omega) (by (repeat (first | exact bR _ _ | (refine bS ?_ _) | (refine bA ?_ _) | (refine bN ?_ _) | (refine bD ?_) | (refine bT ?_ B0))))
      · cases hx : (atT t k 0 != 1)
        · have HE := Lib.hid (show atT t k 0 = dueI k by rw [dueI_1 hk1]; simpa using hx)
          go_wp2
          exact ⟨⟨k + 1, by omega, by go_num, Lib.hid (fun j hj => by
            rcases Nat.lt_or_ge j k with h | h
            · exact HQ.out j h
            · obtain rfl : j = k := by omega
              exact HE.out), _, rfl⟩, by simp [intOf]; omega⟩
        · have HE := Lib.hid (show fauL m t n = [0, (k : Int)] from fauL_1 hlt HQ.out (by rw [dueI_1 hk1]; simpa using hx))
          go_wp2
          go_ret
          exact FEnd.lit (n := 2) (W := w0.drewN d) (ys := [0, (k : Int)]) HE.out (by simp) rfl (by omega) (by first | (simp; done) | (simp; omega) | omega) (by (repeat (first | exact bR _ _ | (refine bS ?_ _) | (refine bA ?_ _) | (refine bN ?_ _) | (refine bD ?_) | (refine bT ?_ B0))))
    · obtain rfl : k = n := by omega
      have H1 := HQ
      clear HQ
      go_wp2_with fail
      go_loopw [7] (fun s wr => ∃ i : Nat, i ≤ k ∧ s = .int .i64 i ∧ Hid (∀ i', i' < i → ∀ j', i' < j' → i' + j' < k → atT t i' j' = atT t j' i') ∧ ∃ d, wr = w0.drewN d) (fun i _ => k - (intOf i).toNat)
      case atStart => exact ⟨0, Nat.zero_le _, rfl, Lib.hid (fun j hj => by omega), d, rfl⟩
      case round =>
        obtain ⟨i, hi, rfl, HA, d, rfl⟩ := hrel
        by_cases hlt : i < k
        · have i0 : (0 : Int) ≤ (i : Int) := by omega
          have i1 : (i : Int) < (k : Int) := by omega
          go_wp2_with fail
          go_loopw [8] (fun s wr => ∃ j : Nat, i < j ∧ (j ≤ k - i ∨ j = i + 1) ∧ s = .int .i64 j ∧ Hid (∀ j', i < j' → j' < j → atT t i j' = atT t j' i) ∧ ∃ d, wr = w0.drewN d) (fun i' _ => k - i - (intOf i').toNat)
          case atStart => exact ⟨i + 1, by omega, .inr rfl, by go_num, Lib.hid (fun j hj h => by omega), d, rfl⟩
          case round =>
            obtain ⟨j, hij, hj, rfl, HB, d, rfl⟩ := hrel
            by_cases hjl : j < k - i
            · obtain ⟨r1, hr1, hl1, hj1⟩ := HT.out.row hlt
              obtain ⟨p1, q1, cx, rx⟩ := hu0.row hr1
              rw [hl1] at cx rx
              obtain ⟨b1, f1, rfl, -⟩ := rx.cells (by omega)
              have ex := rx.cell0 (hj1 j hjl)
              obtain ⟨r2, hr2, hl2, hj2⟩ := HT.out.row (show j < k by omega)
              obtain ⟨p2, q2, cy, ry⟩ := hu0.row hr2
              rw [hl2] at cy ry
              obtain ⟨b2, f2, rfl, -⟩ := ry.cells (by omega)
              have ey := ry.cell0 (hj2 i (by omega))
              clear hr1 hl1 hj1 hr2 hl2 hj2
              have j0 : (0 : Int) ≤ (j : Int) := by omega
              have j1 : (j : Int) < ((k - i : Nat) : Int) := by omega
              have j2 : (j : Int) < (k : Int) := by omega
              have j3 : (i : Int) < ((k - j : Nat) : Int) := by omega
              have j4 : (i : Int) + (j : Int) < (k : Int) := by omega
              cases hx : (atT t i j != atT t j i)
              · have HE := Lib.hid (show atT t i j = atT t j i by simpa using hx)
                go_wp2_with fail
                go_quiet (fail)
                go_wp2
                exact ⟨⟨j + 1, by omega, by omega, by go_num, Lib.hid (fun j' h1 h2 => by
                  rcases Nat.lt_or_ge j' j with h | h
                  · exact HB.out j' h1 h
                  · obtain rfl : j' = j := by omega
                    exact HE.out), _, rfl⟩, by simp [intOf]; omega⟩
              · have HE := Lib.hid (show fauL m t k = [1, (i : Int), (j : Int)] from fauL_2 hij (by omega) H1.out HA.out HB.out (by simpa using hx))
                go_wp2_with fail
                go_quiet (fail)
                go_wp2
                go_ret
                exact FEnd.lit (n := 3) (W := w0.drewN (d + nq)) (ys := [1, (i : Int), (j : Int)]) HE.out (by simp) rfl (by omega) (by first | (simp; done) | (simp; omega) | omega) (by (repeat (first | exact bR _ _ | (refine bS ?_ _) | (refine bA ?_ _) | (refine bN ?_ _) | (refine bD ?_) | (refine bT ?_ B0))))
            · have HE := Lib.hid (fun j' (h1 : i < j') (h2 : i + j' < k) => HB.out j' h1 (by omega))
              have j4 : ¬ (i : Int) + (j : Int) < (k : Int) := by omega
              go_wp2
              exact ⟨⟨i + 1, by omega, by go_num, Lib.hid (fun i' h1 j' h2 h3 => by
                rcases Nat.lt_or_ge i' i with h | h
                · exact HA.out i' h j' h2 h3
                · obtain rfl : i' = i := by omega
                  exact HE.out j' h2 h3), _, rfl⟩, by simp [intOf]; omega⟩
        · obtain rfl : i = k := by omega
          have H2 := Lib.hid (fun i' j' (h1 : i' < j') (h2 : i' + j' < i) => HA.out i' (by omega) j' h1 h2)
          clear HA
          obtain ⟨w1, hw1⟩ : ∃ w1, w1 = w0.drewN d := ⟨_, rfl⟩
          have hb : Below w0.heap.size w0 w1 := by rw [hw1]; exact (by (repeat (first | exact bR _ _ | (refine bS ?_ _) | (refine bA ?_ _) | (refine bN ?_ _) | (refine bD ?_))))
          (have X1 := X0.below hb (Nat.le_refl _); have hu1 := hu0.below hb (Nat.le_refl _); have B1 := B0.trans (hb.mono B0.size))
          rw [← hw1]
          have B1s := B1.size
          have X1l := X1.lt
          clear x0 x1 hw1 hb
          go_wp2_with fail
          have OL := (OwLQ.lit0 w1 (w1.heap.size + 1)).below (w' := (w1.alloc (.cells #[] 22)).alloc (.cells #[] 22)) (by (repeat (first | exact bR _ _ | (refine bS ?_ _) | (refine bA ?_ _) | (refine bN ?_ _) | (refine bD ?_))))
          have OR := OwLQ.lit0 (w1.alloc (.cells #[] 22)) w1.heap.size
          have hs1 : (w1.alloc (.cells #[] 22)).heap.size = w1.heap.size + 1 := by simp
          rw [hs1] at OR
          have OR := OR.mono (show w1.heap.size ≤ w1.heap.size + 1 by omega)
          have hb2 : Below w1.heap.size w1 ((w1.alloc (.cells #[] 22)).alloc (.cells #[] 22)) := (by (repeat (first | exact bR _ _ | (refine bS ?_ _) | (refine bA ?_ _) | (refine bN ?_ _) | (refine bD ?_))))
          clear hs1
          generalize (w1.alloc (.cells #[] 22)).alloc (.cells #[] 22) = w2 at OL OR hb2 ⊢
          have hb2s := hb2.size
          go_loopw [9, 10, 11] (fun l r s wr => ∃ k gl cl gr cr : Nat, k ≤ i ∧ s = .int .i64 k ∧ l = .slice (some ⟨gl, 0, none⟩) k cl ∧ r = .slice (some ⟨gr, 0, none⟩) k cr ∧ gl ≠ gr ∧ OwLQ wr w1.heap.size gr gl k cl (lefL m i t k) ∧ OwLQ wr w1.heap.size gl gr k cr (rigL m i t k) ∧ Below w1.heap.size w1 wr) (fun _ _ s _ => i - (intOf s).toNat)
          case atStart => exact ⟨0, _, _, _, _, Nat.zero_le _, rfl, rfl, rfl, by omega, OL, OR, hb2⟩
          case round =>
            clear OL OR hb2 hb2s
            obtain ⟨k, gl, cl, gr, cr, hk, rfl, rfl, rfl, hne, OL, OR, hbr⟩ := hrel
            have hbrs := hbr.size
            have hLlt := OL.lt
            have hRlt := OR.lt
            by_cases hlt : k < i
            · have XR := X1.below hbr (Nat.le_refl _)
              have hur := hu1.below hbr (Nat.le_refl _)
              obtain ⟨y0, y1⟩ := id XR
              have k0 : (0 : Int) ≤ (k : Int) := by omega
              have k1 : (k : Int) < (i : Int) := by omega
              obtain ⟨r1, hr1, hl1, -⟩ := HT.out.row hlt
              have HR1 := Lib.hid hr1
              obtain ⟨p1, q1, cx, rx⟩ := hur.row hr1
              rw [hl1] at cx rx
              have HL1 := Lib.hid hl1
              clear hr1 hl1
              have HSL := Lib.hid (lefL_snoc m i t k)
              have HSR := Lib.hid (rigL_snoc m i t k)
              have HLL := Lib.hid (lefL_len m i t k)
              have HRL := Lib.hid (rigL_len m i t k)
              generalize lefL m i t k = lL at OL HSL HLL
              generalize rigL m i t k = lR at OR HSR HRL
              have lX := XR.lt
              have lcx := cell_lt cx
              go_wp2_with fail
              have hd0 : Below wr.heap.size wr wr.drew := (Below.refl _ _).drew
              have hsd0 := hd0.size
              have f0_a := keep_cell hd0 (Nat.le_refl _) y0
              refine wp_region_K (S := fun w' => w'.cell? ⟨w.heap.size, 0, none⟩ = some (.int .i64 m)) [0, 7, 8, 9, 10] (by kernel_rfl) ?_
              have hHeld : (fun w' : World => w'.cell? ⟨w.heap.size, 0, none⟩ = some (.int .i64 m)) wr.drew := by go_keep
              refine' wpAnyK_pureL (i := 0) (v := _) rfl (by kernel_rfl) (by kernel_rfl) (by kernel_rfl) (by kernel_rfl) (fun _ _ _ h => h) (Or.inl ⟨by rfl, ?yT11⟩) ?rT11
              case yT11 => (intro w' _; go_simp; try with_reducible rfl)
              try simp only [List.getElem_toArray, List.getElem_cons_zero, List.getElem_cons_succ, Act.put, List.setIfInBounds_toArray, List.set_cons_zero, List.set_cons_succ]
              refine' wpAnyK_takeL (i := 1) (v := _) rfl (by kernel_rfl) (by kernel_rfl) (by kernel_rfl) (by kernel_rfl) (fun _ _ _ h => h) (Or.inl ⟨by rfl, ?yT12⟩) hHeld ?rT12
              case yT12 => (intro w' hSw; (try dsimp only at hSw); go_simp; try with_reducible rfl)
              try simp only [List.getElem_toArray, List.getElem_cons_zero, List.getElem_cons_succ, Act.put, List.setIfInBounds_toArray, List.set_cons_zero, List.set_cons_succ]
              refine' wpAnyK_takeL (i := 2) (v := _) rfl (by kernel_rfl) (by kernel_rfl) (by kernel_rfl) (by kernel_rfl) (fun _ _ _ h => h) (Or.inl ⟨by rfl, ?yT13⟩) hHeld ?rT13
              case yT13 => (intro w' hSw; (try dsimp only at hSw); go_simp; try with_reducible rfl)
              try simp only [List.getElem_toArray, List.getElem_cons_zero, List.getElem_cons_succ, Act.put, List.setIfInBounds_toArray, List.set_cons_zero, List.set_cons_succ]
              refine' wpAnyK_takeL (i := 3) (v := _) rfl (by kernel_rfl) (by kernel_rfl) (by kernel_rfl) (by kernel_rfl) (fun _ _ _ h => h) (Or.inl ⟨by rfl, ?yT14⟩) hHeld ?rT14
              case yT14 => (intro w' hSw; (try dsimp only at hSw); go_simp; try with_reducible rfl)
              try simp only [List.getElem_toArray, List.getElem_cons_zero, List.getElem_cons_succ, Act.put, List.setIfInBounds_toArray, List.set_cons_zero, List.set_cons_succ]
              refine' wpAnyK_takeL (i := 4) (v := _) rfl (by kernel_rfl) (by kernel_rfl) (by kernel_rfl) (by kernel_rfl) (fun _ _ _ h => h) (Or.inl ⟨by rfl, ?yT15⟩) hHeld ?rT15
              case yT15 => (intro w' hSw; (try dsimp only at hSw); go_simp; try with_reducible rfl)
              try simp only [List.getElem_toArray, List.getElem_cons_zero, List.getElem_cons_succ, Act.put, List.setIfInBounds_toArray, List.set_cons_zero, List.set_cons_succ]
              refine' wpAnyK_takeL (i := 6) (v := _) rfl (by kernel_rfl) (by kernel_rfl) (by kernel_rfl) (by kernel_rfl) (fun _ _ _ h => h) (Or.inl ⟨by rfl, ?yT16⟩) hHeld ?rT16
              case yT16 => (intro w' hSw; (try dsimp only at hSw); go_simp; try with_reducible rfl)
              try simp only [List.getElem_toArray, List.getElem_cons_zero, List.getElem_cons_succ, Act.put, List.setIfInBounds_toArray, List.set_cons_zero, List.set_cons_succ]
              refine wpAnyK_oneL (i := 5) rfl (by kernel_rfl) (fun K hK => ?_)
              go_simp
              go_at_call 66
              refine (l04Column_c m i k _ t _ ((hur).below (by (repeat (first | exact bR _ _ | (refine bS ?_ _) | (refine bA ?_ _) | (refine bN ?_ _) | (refine bD ?_)))) (Nat.le_refl _)) h1 hn (by omega) HT.out).mono ?_
              rintro e wd1 ⟨va, rfl, hod1, hbd1⟩
              obtain ⟨oa, ca, rfl⟩ := hod1.shapeN (n := i - k) (colT_len _ _ _)
              have hd1 : Below wr.heap.size wr wd1 := (by (repeat (first | exact bR _ _ | (refine bS ?_ _) | (refine bA ?_ _) | (refine bN ?_ _) | (refine bD ?_) | (refine bT ?_ hbd1))))
              have hsd1 := hd1.size
              have hsz1_ := hbd1.size
              (try simp at hsz1_)
              have f1_a := keep_cell hd1 (Nat.le_refl _) y0
              go_wp2_with fail
              clear hHeld
              have hHeld : (fun w' : World => w'.cell? ⟨w.heap.size, 0, none⟩ = some (.int .i64 m)) wd1 := by go_keep
              refine hK.out _ _ (fun _ => hHeld) ?_
              clear hK K
              try simp only [List.getElem_toArray, List.getElem_cons_zero, List.getElem_cons_succ, Act.put, List.setIfInBounds_toArray, List.set_cons_zero, List.set_cons_succ]
              refine wpAnyK_oneL (i := 7) rfl (by kernel_rfl) (fun K hK => ?_)
              go_simp
              go_at_call 42
              refine (l03After_c m i _ _ (colT t i k) t _ ((hod1.below (by (repeat (first | exact bR _ _ | (refine bS ?_ _) | (refine bA ?_ _) | (refine bN ?_ _) | (refine bD ?_)))))).rd ((hur).below (by (repeat (first | exact bR _ _ | (refine bS ?_ _) | (refine bA ?_ _) | (refine bN ?_ _) | (refine bD ?_) | (refine bT ?_ hbd1)))) (Nat.le_refl _)) h1 hn hm (by omega) (by rw [colT_len]; omega) (colT_range HT.out k) HT.out).mono ?_
              rintro e wd2 ⟨vb, rfl, hod2, hbd2⟩
              obtain ⟨ob, cb, rfl⟩ := hod2.shapeN (n := i) (hornT_len _ _ _ _)
              have hd2 : Below wr.heap.size wr wd2 := (by (repeat (first | exact bR _ _ | (refine bS ?_ _) | (refine bA ?_ _) | (refine bN ?_ _) | (refine bD ?_) | (refine bT ?_ hbd1) | (refine bT ?_ hbd2))))
              have hsd2 := hd2.size
              have hsz2_ := hbd2.size
              (try simp at hsz2_)
              have f2_a := keep_cell hd2 (Nat.le_refl _) y0
              go_wp2_with fail
              refine hK.out _ _ (fun h => absurd h (by decide)) ?_
              clear hK K
              try simp only [List.getElem_toArray, List.getElem_cons_zero, List.getElem_cons_succ, Act.put, List.setIfInBounds_toArray, List.set_cons_zero, List.set_cons_succ]
              refine wpAnyK_oneL (i := 8) rfl (by kernel_rfl) (fun K hK => ?_)
              go_simp
              (try go_wp2_with fail)
              refine hK.out _ _ (fun h => absurd h (by decide)) ?_
              clear hK K
              try simp only [List.getElem_toArray, List.getElem_cons_zero, List.getElem_cons_succ, Act.put, List.setIfInBounds_toArray, List.set_cons_zero, List.set_cons_succ]
              refine wpAnyK_oneL (i := 9) rfl (by kernel_rfl) (fun K hK => ?_)
              obtain ⟨W, hW⟩ : ∃ W : World, W = wd2.alloc (.cells #[.slice ob i cb] 22) := ⟨_, rfl⟩
              have hWb1 : Below wd2.heap.size wd2 W := (by rw [hW]; exact (by (repeat (first | exact bR _ _ | (refine bS ?_ _) | (refine bA ?_ _) | (refine bN ?_ _) | (refine bD ?_)))))
              have hWb := hd2.trans (hWb1.mono hsd2)
              have hWz := hWb.size
              have hz12 := hbd2.size
              have hT := OL.below hWb
              have hU : Rds wd1.heap.size wd2.heap.size W (fun x => RdT x (.slice ob i cb) (hornT m i t (colT t i k))) := (OwS.rds hod2).below hWb1
              have hC0 : W.cell? ⟨wd2.heap.size, 0, none⟩ = some (.slice ob i cb) := (by rw [hW]; simp)
              rw [← hW]
              have HW := Lib.hid hW
              clear hW
              refine stLQ W rfl _ _ rfl w1.heap.size gr gl k cl lL rfl hT (by omega) _ (hornT m i t (colT t i k)) wd2.heap.size rfl hC0 rfl ⟨_, _, hU, .inl (by omega), .inl (by omega)⟩ (by rw [HLL.out]; omega) ?_
              intro g2 cap w5 hO5 hgr hb5 hg5
              have OR5 := (OR.below hWb).other hgr (fun e => hne e.symm) (hg5.imp id id)
              have B5 := hbr.trans (hWb.mono hbrs)
              have B6 := B5.trans (hb5.mono (by omega))
              have hne2 : g2 ≠ gr := (by rcases hg5 with h | h <;> omega)
              refine hK.out _ _ (fun h => absurd h (by decide)) ?_
              clear hK K
              try simp only [List.getElem_toArray, List.getElem_cons_zero, List.getElem_cons_succ, Act.put, List.setIfInBounds_toArray, List.set_cons_zero, List.set_cons_succ]
              refine wpAnyK_oneL (i := 10) rfl (by kernel_rfl) (fun K hK => ?_)
              go_simp
              (try go_wp2_with fail)
              refine hK.out _ _ (fun h => absurd h (by decide)) ?_
              clear hK K
              try simp only [List.getElem_toArray, List.getElem_cons_zero, List.getElem_cons_succ, Act.put, List.setIfInBounds_toArray, List.set_cons_zero, List.set_cons_succ]
              refine wpAnyK_done (by kernel_rfl) ?_ _
              go_wp2_with fail
              rw [← HSL.out] at hO5
              clear y0 y1 cx rx XR hur lX lcx
              have XR5 := X1.below B6 (Nat.le_refl _)
              have hu5 := hu1.below B6 (Nat.le_refl _)
              have B6s := B6.size
              have hg2 := hO5.lt
              have hgr5 := OR5.lt
              obtain ⟨z0, z1⟩ := id XR5
              obtain ⟨p5, q5, cx5, rx5⟩ := hu5.row HR1.out
              rw [HL1.out] at cx5 rx5
              have lX5 := XR5.lt
              have lcx5 := cell_lt cx5
              clear hd1 hd2
              go_wp2_with fail
              have hd0 : Below w5.heap.size w5 w5.drew := (Below.refl _ _).drew
              have hsd0 := hd0.size
              have f0_a := keep_cell hd0 (Nat.le_refl _) z0
              have f0_b := keep_cell hd0 (Nat.le_refl _) cx5
              refine wp_region_K (S := fun w' => w'.cell? ⟨w.heap.size, 0, none⟩ = some (.int .i64 m) ∧ w'.cell? ⟨bt, ft + k, none⟩ = some (.slice p5 (i - k) q5)) [0, 8, 9, 10, 11] (by kernel_rfl) ?_
              have hHeld : (fun w' : World => w'.cell? ⟨w.heap.size, 0, none⟩ = some (.int .i64 m) ∧ w'.cell? ⟨bt, ft + k, none⟩ = some (.slice p5 (i - k) q5)) w5.drew := by go_keep
              refine' wpAnyK_pureL (i := 0) (v := _) rfl (by kernel_rfl) (by kernel_rfl) (by kernel_rfl) (by kernel_rfl) (fun _ _ _ h => h) (Or.inl ⟨by rfl, ?yT17⟩) ?rT17
              case yT17 => (intro w' _; go_simp; try with_reducible rfl)
              try simp only [List.getElem_toArray, List.getElem_cons_zero, List.getElem_cons_succ, Act.put, List.setIfInBounds_toArray, List.set_cons_zero, List.set_cons_succ]
              refine' wpAnyK_takeL (i := 1) (v := _) rfl (by kernel_rfl) (by kernel_rfl) (by kernel_rfl) (by kernel_rfl) (fun _ _ _ h => h) (Or.inl ⟨by rfl, ?yT18⟩) hHeld ?rT18
              case yT18 => (intro w' hSw; (try dsimp only at hSw); go_simp; try with_reducible rfl)
              try simp only [List.getElem_toArray, List.getElem_cons_zero, List.getElem_cons_succ, Act.put, List.setIfInBounds_toArray, List.set_cons_zero, List.set_cons_succ]
              refine' wpAnyK_takeL (i := 2) (v := _) rfl (by kernel_rfl) (by kernel_rfl) (by kernel_rfl) (by kernel_rfl) (fun _ _ _ h => h) (Or.inl ⟨by rfl, ?yT19⟩) hHeld ?rT19
              case yT19 => (intro w' hSw; (try dsimp only at hSw); go_simp; try with_reducible rfl)
              try simp only [List.getElem_toArray, List.getElem_cons_zero, List.getElem_cons_succ, Act.put, List.setIfInBounds_toArray, List.set_cons_zero, List.set_cons_succ]
              refine' wpAnyK_takeL (i := 3) (v := _) rfl (by kernel_rfl) (by kernel_rfl) (by kernel_rfl) (by kernel_rfl) (fun _ _ _ h => h) (Or.inl ⟨by rfl, ?yT20⟩) hHeld ?rT20
              case yT20 => (intro w' hSw; (try dsimp only at hSw); go_simp; try with_reducible rfl)
              try simp only [List.getElem_toArray, List.getElem_cons_zero, List.getElem_cons_succ, Act.put, List.setIfInBounds_toArray, List.set_cons_zero, List.set_cons_succ]
              refine' wpAnyK_takeL (i := 4) (v := _) rfl (by kernel_rfl) (by kernel_rfl) (by kernel_rfl) (by kernel_rfl) (fun _ _ _ h => h) (Or.inl ⟨by rfl, ?yT21⟩) hHeld ?rT21
              case yT21 => (intro w' hSw; (try dsimp only at hSw); go_simp; try with_reducible rfl)
              try simp only [List.getElem_toArray, List.getElem_cons_zero, List.getElem_cons_succ, Act.put, List.setIfInBounds_toArray, List.set_cons_zero, List.set_cons_succ]
              refine' wpAnyK_takeL (i := 5) (v := _) rfl (by kernel_rfl) (by kernel_rfl) (by kernel_rfl) (by kernel_rfl) (fun _ _ _ h => h) (Or.inl ⟨by rfl, ?yT22⟩) hHeld ?rT22
              case yT22 => (intro w' hSw; (try dsimp only at hSw); go_simp; try with_reducible rfl)
              try simp only [List.getElem_toArray, List.getElem_cons_zero, List.getElem_cons_succ, Act.put, List.setIfInBounds_toArray, List.set_cons_zero, List.set_cons_succ]
              refine' wpAnyK_takeL (i := 6) (v := _) rfl (by kernel_rfl) (by kernel_rfl) (by kernel_rfl) (by kernel_rfl) (fun _ _ _ h => h) (Or.inl ⟨by rfl, ?yT23⟩) hHeld ?rT23
              case yT23 => (intro w' hSw; (try dsimp only at hSw); go_simp; try with_reducible rfl)
              try simp only [List.getElem_toArray, List.getElem_cons_zero, List.getElem_cons_succ, Act.put, List.setIfInBounds_toArray, List.set_cons_zero, List.set_cons_succ]
              refine' wpAnyK_takeL (i := 7) (v := _) rfl (by kernel_rfl) (by kernel_rfl) (by kernel_rfl) (by kernel_rfl) (fun _ _ _ h => h) (Or.inl ⟨by rfl, ?yT24⟩) hHeld ?rT24
              case yT24 => (intro w' hSw; (try dsimp only at hSw); go_simp; try with_reducible rfl)
              try simp only [List.getElem_toArray, List.getElem_cons_zero, List.getElem_cons_succ, Act.put, List.setIfInBounds_toArray, List.set_cons_zero, List.set_cons_succ]
              refine wpAnyK_oneL (i := 8) rfl (by kernel_rfl) (fun K hK => ?_)
              go_simp
              go_at_call 42
              refine (l03After_c m i _ _ r1 t _ ((rx5).below (by (repeat (first | exact bR _ _ | (refine bS ?_ _) | (refine bA ?_ _) | (refine bN ?_ _) | (refine bD ?_)))) (Nat.le_refl _)) ((hu5).below (by (repeat (first | exact bR _ _ | (refine bS ?_ _) | (refine bA ?_ _) | (refine bN ?_ _) | (refine bD ?_)))) (Nat.le_refl _)) h1 hn hm (by omega) (by rw [HL1.out]; omega) (HT.out.rowx HR1.out) HT.out).mono ?_
              rintro e wd1 ⟨vb, rfl, hod1, hbd1⟩
              obtain ⟨oe, ce, rfl⟩ := hod1.shapeN (n := i) (hornT_len _ _ _ _)
              have hd1 : Below w5.heap.size w5 wd1 := (by (repeat (first | exact bR _ _ | (refine bS ?_ _) | (refine bA ?_ _) | (refine bN ?_ _) | (refine bD ?_) | (refine bT ?_ hbd1))))
              have hsd1 := hd1.size
              have hsz1_ := hbd1.size
              (try simp at hsz1_)
              have f1_a := keep_cell hd1 (Nat.le_refl _) z0
              have f1_b := keep_cell hd1 (Nat.le_refl _) cx5
              go_wp2_with fail
              refine hK.out _ _ (fun h => absurd h (by decide)) ?_
              clear hK K
              try simp only [List.getElem_toArray, List.getElem_cons_zero, List.getElem_cons_succ, Act.put, List.setIfInBounds_toArray, List.set_cons_zero, List.set_cons_succ]
              refine wpAnyK_oneL (i := 9) rfl (by kernel_rfl) (fun K hK => ?_)
              go_simp
              (try go_wp2_with fail)
              refine hK.out _ _ (fun h => absurd h (by decide)) ?_
              clear hK K
              try simp only [List.getElem_toArray, List.getElem_cons_zero, List.getElem_cons_succ, Act.put, List.setIfInBounds_toArray, List.set_cons_zero, List.set_cons_succ]
              refine wpAnyK_oneL (i := 10) rfl (by kernel_rfl) (fun K hK => ?_)
              have hoe : OwS wd1 w5.heap.size (.slice oe i ce) (hornT m i t r1) := hod1
              obtain ⟨W, hW⟩ : ∃ W : World, W = wd1.alloc (.cells #[.slice oe i ce] 22) := ⟨_, rfl⟩
              have hWb1 : Below wd1.heap.size wd1 W := (by rw [hW]; exact (by (repeat (first | exact bR _ _ | (refine bS ?_ _) | (refine bA ?_ _) | (refine bN ?_ _) | (refine bD ?_)))))
              have hWb := hd1.trans (hWb1.mono hsd1)
              have hWz := hWb.size
              have hT := OR5.below hWb
              have hU : Rds w5.heap.size wd1.heap.size W (fun x => RdT x (.slice oe i ce) (hornT m i t r1)) := (OwS.rds hoe).below hWb1
              have hC0 : W.cell? ⟨wd1.heap.size, 0, none⟩ = some (.slice oe i ce) := (by rw [hW]; simp)
              rw [← hW]
              have HW := Lib.hid hW
              clear hW
              refine stLQ W rfl _ _ rfl w1.heap.size g2 gr k cr lR rfl hT (by omega) _ (hornT m i t r1) wd1.heap.size rfl hC0 rfl ⟨_, _, hU, .inl (by omega), .inl (by omega)⟩ (by rw [HRL.out]; omega) ?_
              intro g3 cap3 w7 hO7 hgr7 hb7 hg7
              have OL7 := (hO5.below hWb).other hgr7 hne2 (hg7.imp id id)
              have B7 := (B6.trans (hWb.mono B6s)).trans (hb7.mono (by omega))
              have hne3 : g2 ≠ g3 := (by rcases hg7 with h | h <;> omega)
              refine hK.out _ _ (fun h => absurd h (by decide)) ?_
              clear hK K
              try simp only [List.getElem_toArray, List.getElem_cons_zero, List.getElem_cons_succ, Act.put, List.setIfInBounds_toArray, List.set_cons_zero, List.set_cons_succ]
              refine wpAnyK_oneL (i := 11) rfl (by kernel_rfl) (fun K hK => ?_)
              go_simp
              (try go_wp2_with fail)
              refine hK.out _ _ (fun h => absurd h (by decide)) ?_
              clear hK K
              try simp only [List.getElem_toArray, List.getElem_cons_zero, List.getElem_cons_succ, Act.put, List.setIfInBounds_toArray, List.set_cons_zero, List.set_cons_succ]
              refine wpAnyK_done (by kernel_rfl) ?_ _
              go_wp2_with fail
              rw [← getD_some HR1.out, ← HSR.out] at hO7
              go_wp2
              exact ⟨⟨k + 1, g2, cap, g3, cap3, by omega, by go_num, rfl, rfl, hne3, OL7, hO7, B7⟩, by simp [intOf]; omega⟩
            · obtain rfl : k = i := by omega
              have hLrd := OL.rd
              have hRrd := OR.rd
              have B2 := B1.trans (hbr.mono B1s)
              have B2s := B2.size
              clear OL OR hne hLlt hRlt X0 X1 hu0 hu1
              go_wp2_with fail
              go_loopw [12] (fun s w3 => ∃ a : Nat, a ≤ k ∧ s = .int .i64 a ∧ Hid (∀ a', a' < a → ∀ b c, a' + b + c < k → lefC m k t a' b c = rigC m k t a' b c) ∧ ∃ d, w3 = wr.drewN d) (fun s _ => k - (intOf s).toNat)
              case atStart => exact ⟨0, Nat.zero_le _, rfl, Lib.hid (fun j hj => by omega), 0, rfl⟩
              case round =>
                obtain ⟨a, ha, rfl, HA, d, rfl⟩ := hrel
                by_cases hlt : a < k
                · have a0 : (a : Int) < (k : Int) := by omega
                  go_wp2_with fail
                  go_loopw [13] (fun s w3 => ∃ b : Nat, b ≤ k - a ∧ s = .int .i64 b ∧ Hid (∀ b', b' < b → ∀ c, a + b' + c < k → lefC m k t a b' c = rigC m k t a b' c) ∧ ∃ d, w3 = wr.drewN d) (fun s _ => k - a - (intOf s).toNat)
                  case atStart => exact ⟨0, Nat.zero_le _, rfl, Lib.hid (fun j hj => by omega), d, rfl⟩
                  case round =>
                    obtain ⟨b, hb', rfl, HB, d, rfl⟩ := hrel
                    by_cases hlt : b < k - a
                    · have b0 : (a : Int) + (b : Int) < (k : Int) := by omega
                      go_wp2_with fail
                      go_loopw [14] (fun s w3 => ∃ c : Nat, c ≤ k - a - b ∧ s = .int .i64 c ∧ Hid (∀ c', c' < c → lefC m k t a b c' = rigC m k t a b c') ∧ ∃ d, w3 = wr.drewN d) (fun s _ => k - a - b - (intOf s).toNat)
                      case atStart => exact ⟨0, Nat.zero_le _, rfl, Lib.hid (fun j hj => by omega), d, rfl⟩
                      case round =>
                        obtain ⟨cc, hc', rfl, HC, d, rfl⟩ := hrel
                        by_cases hlt : cc < k - a - b
                        · have c0 : (a : Int) + (b : Int) + (cc : Int) < (k : Int) := by omega
                          have c1 : (0 : Int) ≤ (cc : Int) := by omega
                          have c2 : (cc : Int) < (k : Int) := by omega
                          have c3 : (0 : Int) ≤ (a : Int) := by omega
                          have c4 : (0 : Int) ≤ (b : Int) := by omega
                          have c5 : (a : Int) < (k : Int) := by omega
                          have c6 : (b : Int) < (k : Int) := by omega
                          have c7 : (b : Int) < ((k - a : Nat) : Int) := by omega
                          have c8 : (cc : Int) < ((k - b : Nat) : Int) := by omega
                          obtain ⟨o2, k2, y0, hT1⟩ := hLrd.at (lefL_get (show cc < k by omega))
                          obtain ⟨o3, k3, z0, hT2⟩ := hRrd.at (rigL_get (show a < k by omega))
                          rw [hornT_len] at y0 hT1 z0 hT2
                          rw [Nat.zero_add] at y0 z0
                          obtain ⟨b2, f2, rfl, -⟩ := hT1.rows (by rw [hornT_len]; omega)
                          obtain ⟨b3, f3, rfl, -⟩ := hT2.rows (by rw [hornT_len]; omega)
                          obtain ⟨r2, hr2, hl2, hj2⟩ := (hornT_ok (m := m) (by omega) k t (colT t k cc)).row (show a < k by omega)
                          obtain ⟨r3, hr3, hl3, hj3⟩ := (hornT_ok (m := m) (by omega) k t (t.getD a [])).row (show b < k by omega)
                          obtain ⟨p2, q2, cy, ry⟩ := hT1.row hr2
                          obtain ⟨p3, q3, cz, rz⟩ := hT2.row hr3
                          rw [hl2] at cy ry
                          rw [hl3] at cz rz
                          obtain ⟨b4, f4, rfl, -⟩ := ry.cells (by omega)
                          obtain ⟨b5, f5, rfl, -⟩ := rz.cells (by omega)
                          have ey := ry.cell0 (hj2 b (by omega))
                          have ez := rz.cell0 (hj3 cc (by omega))
                          have eL := left_eq (m := m) (n := k) (t := t) (a := a) (b := b) (c := cc) (by omega)
                          have eR := right_eq2 (m := m) HT.out (a := a) (b := b) (c := cc) (by omega)
                          rw [eL] at ey
                          rw [eR] at ez
                          clear hr2 hl2 hj2 hr3 hl3 hj3 eL eR
                          cases hx : (lefC m k t a b cc != rigC m k t a b cc)
                          · have HE := Lib.hid (show lefC m k t a b cc = rigC m k t a b cc by simpa using hx)
                            go_wp2_with fail
                            go_quiet (fail)
                            go_wp2
                            exact ⟨⟨cc + 1, by omega, by go_num, Lib.hid (fun c' h1 => by
                              rcases Nat.lt_or_ge c' cc with h | h
                              · exact HC.out c' h
                              · obtain rfl : c' = cc := by omega
                                exact HE.out), _, rfl⟩, by simp [intOf]; omega⟩
                          · have HE := Lib.hid (show fauL m t k = [2, (a : Int), (b : Int), (cc : Int)] from fauL_3 (by omega) H1.out H2.out HA.out HB.out HC.out (by simpa using hx))
                            go_wp2_with fail
                            go_quiet (fail)
                            go_wp2
                            go_ret
                            exact FEnd.lit (n := 4) (W := wr.drewN (d + nq)) (ys := [2, (a : Int), (b : Int), (cc : Int)]) HE.out (by simp) rfl (by omega) (by first | (simp; done) | (simp; omega) | omega) (by (repeat (first | exact bR _ _ | (refine bS ?_ _) | (refine bA ?_ _) | (refine bN ?_ _) | (refine bD ?_) | (refine bT ?_ B2))))
                        · have c0 : ¬ (a : Int) + (b : Int) + (cc : Int) < (k : Int) := by omega
                          have HE := Lib.hid (fun c' (h2 : a + b + c' < k) => HC.out c' (by omega))
                          go_wp2
                          exact ⟨⟨b + 1, by omega, by go_num, Lib.hid (fun b' h1 c' h2 => by
                            rcases Nat.lt_or_ge b' b with h | h
                            · exact HB.out b' h c' h2
                            · obtain rfl : b' = b := by omega
                              exact HE.out c' h2), _, rfl⟩, by simp [intOf]; omega⟩
                    · have b0 : ¬ (a : Int) + (b : Int) < (k : Int) := by omega
                      have HE := Lib.hid (fun b' c' (h2 : a + b' + c' < k) => HB.out b' (by omega) c' h2)
                      go_wp2
                      exact ⟨⟨a + 1, by omega, by go_num, Lib.hid (fun a' h1 b' c' h2 => by
                        rcases Nat.lt_or_ge a' a with h | h
                        · exact HA.out a' h b' c' h2
                        · obtain rfl : a' = a := by omega
                          exact HE.out b' c' h2), _, rfl⟩, by simp [intOf]; omega⟩
                · obtain rfl : a = k := by omega
                  have HE := Lib.hid (show fauL m t a = [] from fauL_0 H1.out H2.out (fun a' b c h => HA.out a' (by omega) b c h))
                  go_wp2
                  go_ret
                  exact FEnd.nil HE.out (by (repeat (first | exact bR _ _ | (refine bS ?_ _) | (refine bA ?_ _) | (refine bN ?_ _) | (refine bD ?_) | (refine bT ?_ B2))))
end Go.Proofs.YteijannfbafdpaaGreatDoor

/- Laws: is a plane one; its first fault. -/
set_option linter.unusedSimpArgs false
set_option linter.unusedVariables false
namespace Go.Proofs.YteijannfbafdpaaGreatDoor
open Go.RowKit

theorem eqlS_some (w : World) (a : Addr) (n c : Nat) : (binOp .eql 34 (.slice (some a) n c) (.slice none 0 0)).run Tryz.prog w = .ok (.bool false) w := by
  have h : ∀ d : Nat, (Op.equalIn (d + 1) 34 (.slice (some a) n c) (.slice none 0 0)).run Tryz.prog w = .ok false w := fun d => by
    simp [Op.equalIn, run_underlying Tryz.underlying34]
  simp only [binOp]
  simp [Op.equal, Op.maxDepth, h 9999]
theorem eqlS_none (w : World) : (binOp .eql 34 (.slice none 0 0) (.slice none 0 0)).run Tryz.prog w = .ok (.bool true) w := by
  have h : ∀ d : Nat, (Op.equalIn (d + 1) 34 (.slice none 0 0) (.slice none 0 0)).run Tryz.prog w = .ok true w := fun d => by
    simp [Op.equalIn, run_underlying Tryz.underlying34]
  simp only [binOp]
  simp [Op.equal, Op.maxDepth, h 9999]

structure IR where
  val : Int
  code : Int
def IEnd (w w' : World) (r : IR) (e : Ending) : Prop := e = .returned (.tuple #[.int .i64 r.val, .int .i64 r.code]) ∧ Below w.heap.size w w'
structure LR where
  xs : List Int
  code : Int
def lawB (m : Int) (t : List (List Int)) : Bool := plaB m t && (fauL m t t.length).isEmpty
theorem lawB_t {m : Int} {t : List (List Int)} (h : lawB m t = true) : plaB m t = true ∧ fauL m t t.length = [] := by
  simpa [lawB] using h
set_option maxHeartbeats 1000000 in
set_option maxRecDepth 100000 in
theorem IsLaw_c (m : Int) (v : Value) (t : List (List Int)) (w : World) (hv : RdT w v t) :
    Calls Tryz.prog 30 #[.agg #[.int .i64 m, v]] w fun e w' => e = .returned (.bool (lawB m t)) ∧ Below w.heap.size w w' := by
  obtain ⟨o, c, rfl, -, -⟩ := id hv
  cases h1 : plaB m t
  · have hR : lawB m t = false := by simp [lawB, h1]
    rw [hR]
    go_enter Tryz.func30, Tryz.ntmps30
    go_wp2_with fail
    (obtain ⟨w0, hw0⟩ : ∃ W : World, W = (w.alloc (.cells #[.int .i64 m, .slice o t.length c] 28)) := ⟨_, rfl⟩; have X0 := (RB2.mk1 w  (.int .i64 m) (.slice o t.length c) 28).1.below (w' := w0) (by rw [hw0]; (repeat (first | exact bR _ _ | (refine bS ?_ _) | (refine bA ?_ _) | (refine bN ?_ _) | (refine bD ?_)))) (Nat.le_refl _); have B0 : Below w.heap.size w w0 := (by rw [hw0]; (repeat (first | exact bR _ _ | (refine bS ?_ _) | (refine bA ?_ _) | (refine bN ?_ _) | (refine bD ?_)))); have hv0 := hv.below (w' := w0) (by rw [hw0]; (repeat (first | exact bR _ _ | (refine bS ?_ _) | (refine bA ?_ _) | (refine bN ?_ _) | (refine bD ?_)))) (Nat.le_refl _); rw [← hw0]; clear hw0)
    (obtain ⟨gqX0, gqX1⟩ := id X0; go_wp2_with fail; refine (IsPlane_c m _ t _ hv0).mono ?_; rw [h1]; rintro e w1 ⟨rfl, hb⟩; (have X1 := X0.below hb (Nat.le_refl _); have B1 := B0.trans (hb.mono B0.size)); clear gqX0 gqX1; clear hb)
    go_wp2
    go_ret
    exact ⟨rfl, B1⟩
  · have hm := pla_m h1
    have hn := pla_n h1
    have HP := Lib.hid (show PlaT m t.length t from ⟨rfl, pla_row h1⟩)
    have HR := Lib.hid (show lawB m t = (fauL m t t.length).isEmpty by simp [lawB, h1])
    go_enter Tryz.func30, Tryz.ntmps30
    go_wp2_with fail
    (obtain ⟨w0, hw0⟩ : ∃ W : World, W = (w.alloc (.cells #[.int .i64 m, .slice o t.length c] 28)) := ⟨_, rfl⟩; have X0 := (RB2.mk1 w  (.int .i64 m) (.slice o t.length c) 28).1.below (w' := w0) (by rw [hw0]; (repeat (first | exact bR _ _ | (refine bS ?_ _) | (refine bA ?_ _) | (refine bN ?_ _) | (refine bD ?_)))) (Nat.le_refl _); have B0 : Below w.heap.size w w0 := (by rw [hw0]; (repeat (first | exact bR _ _ | (refine bS ?_ _) | (refine bA ?_ _) | (refine bN ?_ _) | (refine bD ?_)))); have hv0 := hv.below (w' := w0) (by rw [hw0]; (repeat (first | exact bR _ _ | (refine bS ?_ _) | (refine bA ?_ _) | (refine bN ?_ _) | (refine bD ?_)))) (Nat.le_refl _); rw [← hw0]; clear hw0)
    (obtain ⟨gqX0, gqX1⟩ := id X0; go_wp2_with fail; refine (IsPlane_c m _ t _ hv0).mono ?_; rw [h1]; rintro e w1 ⟨rfl, hb⟩; (have X1 := X0.below hb (Nat.le_refl _); have hv1 := hv0.below hb (Nat.le_refl _); have B1 := B0.trans (hb.mono B0.size)); clear gqX0 gqX1; clear hb)
    obtain ⟨x0, x1⟩ := id X1
    go_wp2_with fail
    refine (axioms_c m t.length _ t _ hv1 (by omega) (by omega) (by omega) (by omega) HP.out).mono ?_
    rintro e w2 ⟨vf, rfl, how, hnil, hb⟩
    (have X2 := X1.below hb (Nat.le_refl _); have B2 := B1.trans (hb.mono B1.size))
    cases h2 : (fauL m t t.length).isEmpty
    · have hne : fauL m t t.length ≠ [] := by intro h; rw [h] at h2; cases h2
      have hln : 1 ≤ (fauL m t t.length).length := by
        cases h : fauL m t t.length with
        | nil => exact absurd h hne
        | cons => simp
      obtain ⟨of, cf, rfl⟩ := how.shape
      obtain ⟨g, rfl, -, -⟩ := how.row hln
      have hl0 : (((fauL m t t.length).length : Int) == 0) = false := by simp; omega
      have HR2 := Lib.hid (show lawB m t = false by rw [HR.out, h2])
      have hq := eqlS_some w2 ⟨g, 0, none⟩ (fauL m t t.length).length cf
      clear h2 hne hln
      go_wp2
      go_ret
      exact ⟨by rw [HR2.out]; rfl, B2⟩
    · have he : fauL m t t.length = [] := by simpa using h2
      obtain rfl := hnil he
      have HR2 := Lib.hid (show lawB m t = true by rw [HR.out, h2])
      have hq := eqlS_none w2
      clear h2 he
      go_wp2
      go_ret
      exact ⟨by rw [HR2.out]; rfl, B2⟩
set_option maxHeartbeats 1000000 in
set_option maxRecDepth 100000 in
theorem l04Is_c (m : Int) (v : Value) (t : List (List Int)) (w : World) (hv : RdT w v t) :
    Calls Tryz.prog 21 #[.agg #[.int .i64 m, v]] w fun e w' => e = .returned (.bool (lawB m t)) ∧ Below w.heap.size w w' := by
  obtain ⟨o, c, rfl, -, -⟩ := id hv
  cases h1 : plaB m t
  · have hR : lawB m t = false := by simp [lawB, h1]
    rw [hR]
    go_enter Tryz.func21, Tryz.ntmps21
    go_wp2_with fail
    (obtain ⟨w0, hw0⟩ : ∃ W : World, W = (w.alloc (.cells #[.int .i64 m, .slice o t.length c] 28)) := ⟨_, rfl⟩; have X0 := (RB2.mk1 w  (.int .i64 m) (.slice o t.length c) 28).1.below (w' := w0) (by rw [hw0]; (repeat (first | exact bR _ _ | (refine bS ?_ _) | (refine bA ?_ _) | (refine bN ?_ _) | (refine bD ?_)))) (Nat.le_refl _); have B0 : Below w.heap.size w w0 := (by rw [hw0]; (repeat (first | exact bR _ _ | (refine bS ?_ _) | (refine bA ?_ _) | (refine bN ?_ _) | (refine bD ?_)))); have hv0 := hv.below (w' := w0) (by rw [hw0]; (repeat (first | exact bR _ _ | (refine bS ?_ _) | (refine bA ?_ _) | (refine bN ?_ _) | (refine bD ?_)))) (Nat.le_refl _); rw [← hw0]; clear hw0)
    (obtain ⟨gqX0, gqX1⟩ := id X0; go_wp2_with fail; refine (l03Is_c m _ t _ hv0).mono ?_; rw [h1]; rintro e w1 ⟨rfl, hb⟩; (have X1 := X0.below hb (Nat.le_refl _); have B1 := B0.trans (hb.mono B0.size)); clear gqX0 gqX1; clear hb)
    go_wp2
    go_ret
    exact ⟨rfl, B1⟩
  · have hm := pla_m h1
    have hn := pla_n h1
    have HP := Lib.hid (show PlaT m t.length t from ⟨rfl, pla_row h1⟩)
    have HR := Lib.hid (show lawB m t = (fauL m t t.length).isEmpty by simp [lawB, h1])
    go_enter Tryz.func21, Tryz.ntmps21
    go_wp2_with fail
    (obtain ⟨w0, hw0⟩ : ∃ W : World, W = (w.alloc (.cells #[.int .i64 m, .slice o t.length c] 28)) := ⟨_, rfl⟩; have X0 := (RB2.mk1 w  (.int .i64 m) (.slice o t.length c) 28).1.below (w' := w0) (by rw [hw0]; (repeat (first | exact bR _ _ | (refine bS ?_ _) | (refine bA ?_ _) | (refine bN ?_ _) | (refine bD ?_)))) (Nat.le_refl _); have B0 : Below w.heap.size w w0 := (by rw [hw0]; (repeat (first | exact bR _ _ | (refine bS ?_ _) | (refine bA ?_ _) | (refine bN ?_ _) | (refine bD ?_)))); have hv0 := hv.below (w' := w0) (by rw [hw0]; (repeat (first | exact bR _ _ | (refine bS ?_ _) | (refine bA ?_ _) | (refine bN ?_ _) | (refine bD ?_)))) (Nat.le_refl _); rw [← hw0]; clear hw0)
    (obtain ⟨gqX0, gqX1⟩ := id X0; go_wp2_with fail; refine (l03Is_c m _ t _ hv0).mono ?_; rw [h1]; rintro e w1 ⟨rfl, hb⟩; (have X1 := X0.below hb (Nat.le_refl _); have hv1 := hv0.below hb (Nat.le_refl _); have B1 := B0.trans (hb.mono B0.size)); clear gqX0 gqX1; clear hb)
    obtain ⟨x0, x1⟩ := id X1
    go_wp2_with fail
    refine (l04Fault_c m t.length _ t _ hv1 (by omega) (by omega) (by omega) (by omega) HP.out).mono ?_
    rintro e w2 ⟨vf, rfl, how, hnil, hb⟩
    (have X2 := X1.below hb (Nat.le_refl _); have B2 := B1.trans (hb.mono B1.size))
    cases h2 : (fauL m t t.length).isEmpty
    · have hne : fauL m t t.length ≠ [] := by intro h; rw [h] at h2; cases h2
      have hln : 1 ≤ (fauL m t t.length).length := by
        cases h : fauL m t t.length with
        | nil => exact absurd h hne
        | cons => simp
      obtain ⟨of, cf, rfl⟩ := how.shape
      obtain ⟨g, rfl, -, -⟩ := how.row hln
      have hl0 : (((fauL m t t.length).length : Int) == 0) = false := by simp; omega
      have HR2 := Lib.hid (show lawB m t = false by rw [HR.out, h2])
      have hq := eqlS_some w2 ⟨g, 0, none⟩ (fauL m t t.length).length cf
      clear h2 hne hln
      go_wp2
      go_ret
      exact ⟨by rw [HR2.out]; rfl, B2⟩
    · have he : fauL m t t.length = [] := by simpa using h2
      obtain rfl := hnil he
      have HR2 := Lib.hid (show lawB m t = true by rw [HR.out, h2])
      have hq := eqlS_none w2
      clear h2 he
      go_wp2
      go_ret
      exact ⟨by rw [HR2.out]; rfl, B2⟩

end Go.Proofs.YteijannfbafdpaaGreatDoor

/- Two laws: are they alike; where they agree. -/
set_option linter.unusedSimpArgs false
set_option linter.unusedVariables false
namespace Go.Proofs.YteijannfbafdpaaGreatDoor
open Go.RowKit

end Go.Proofs.YteijannfbafdpaaGreatDoor
