/- The powers of a plane: the program's function. -/
import Derived.Test.YtflebfmkgmhccaaPlaU
import Derived.Test.YtflebfmkgmhccaaPlaT
import Derived.Test.YtflebfmkgmhccaaPlc
import Derived.Test.YtflebfmkgmhccaaLis
import Derived.Deep.RegionHeld3
import Derived.Test.YtflebfmkgmhccaaLinK
set_option linter.unusedSimpArgs false
set_option linter.unusedVariables false
namespace Go.Proofs.Ytflebfmkgmhccaa
open Go.RowKit

set_option maxHeartbeats 1000000 in
set_option maxRecDepth 100000 in
theorem powersP_c (m : Int) (n : Nat) (v : Value) (t : List (List Int)) (w : World) (hv : RdT w v t) (h1 : 1 ≤ n) (hn : n ≤ 1000) (hm : 2 ≤ m) (hm' : m ≤ 3000000000)
    (ht : PlaT m n t) :
    Calls Try.prog 146 #[.agg #[.int .i64 m, v]] w fun e w' => ∃ v', e = .returned v' ∧ OwLP w' w.heap.size v' m (powsT m n t n) ∧ Below w.heap.size w w' := by
  obtain ⟨o, c, rfl, hmx, -⟩ := id hv
  have hu : RdT w (.slice o n c) t := by rw [ht.1] at hv; exact hv
  rw [ht.1] at hmx ⊢
  clear hv
  have hml := hmx.1
  unfold maxLen at hmx
  have HT := Lib.hid ht
  clear ht
  go_enter Try.func146, Try.ntmps146
  go_wp2_with fail
  (have X0 := ((RB2.mk1 w  (.int .i64 m) (.slice o n c) 29).1).below (w' := (w.alloc (.cells #[.int .i64 m, .slice o n c] 29))) (by (repeat (first | exact Below.refl _ _ | (refine Below.setCell ?_ (by first | (simp; done) | (simp; omega) | omega) _) | (refine Below.alloc ?_ (by first | (simp; done) | (simp; omega) | omega) _) | (refine below_drewN ?_ _) | (refine Below.drew ?_)))) (Nat.le_refl _); have B0 : Below w.heap.size w (w.alloc (.cells #[.int .i64 m, .slice o n c] 29)) := (by (repeat (first | exact Below.refl _ _ | (refine Below.setCell ?_ (by first | (simp; done) | (simp; omega) | omega) _) | (refine Below.alloc ?_ (by first | (simp; done) | (simp; omega) | omega) _) | (refine below_drewN ?_ _) | (refine Below.drew ?_)))); have hu0 := hu.below (w' := (w.alloc (.cells #[.int .i64 m, .slice o n c] 29))) (by (repeat (first | exact Below.refl _ _ | (refine Below.setCell ?_ (by first | (simp; done) | (simp; omega) | omega) _) | (refine Below.alloc ?_ (by first | (simp; done) | (simp; omega) | omega) _) | (refine below_drewN ?_ _) | (refine Below.drew ?_)))) (Nat.le_refl _); generalize w.alloc (.cells #[.int .i64 m, .slice o n c] 29) = w0 at X0 B0 hu0 ⊢)
  obtain ⟨x0, x1⟩ := id X0
  go_wp2_with fail
  refine (number_c m 1 o n c _ h1 hn hm (by omega) (by omega) (by omega)).mono ?_
  rintro e w1 ⟨vz, rfl, how, hb⟩
  obtain ⟨oz, cz, rfl⟩ := how.shapeN (n := n) (numbT_len _ _ _)
  (have X1 := X0.below hb (Nat.le_refl _); have hu1 := hu0.below hb (Nat.le_refl _); have B1 := B0.trans (hb.mono B0.size))
  have hb1 := hb.size
  have hB0 := B0.size
  have OL := OwLP.lit1 w1 m _ _ how.rds hb1
  rw [show [numbT m 1 n] = powsT m n t 1 from rfl] at OL
  clear x0 x1 hb
  obtain ⟨x0, x1⟩ := id X1
  have lX := X1.lt
  go_wp2_with fail
  have hb : Below w1.heap.size w1 (w1.alloc (.cells #[.int .i64 m, .slice oz n cz] 29)) := (by (repeat (first | exact Below.refl _ _ | (refine Below.setCell ?_ (by first | (simp; done) | (simp; omega) | omega) _) | (refine Below.alloc ?_ (by first | (simp; done) | (simp; omega) | omega) _) | (refine below_drewN ?_ _) | (refine Below.drew ?_))))
  (have X2 := X1.below hb (Nat.le_refl _); have hu2 := hu1.below hb (Nat.le_refl _); have B2 := B1.trans (hb.mono B1.size))
  clear x0 x1 X1 hu1 hb lX
  generalize w1.alloc (.cells #[.int .i64 m, .slice oz n cz] 29) = w2 at X2 hu2 B2 OL ⊢
  refine (degreeP_c m o n c _ hml).mono ?_
  rintro e w3 ⟨rfl, hb⟩
  (have X3 := X2.below hb (Nat.le_refl _); have hu3 := hu2.below hb (Nat.le_refl _); have B3 := B2.trans (hb.mono B2.size))
  have OL3 := (OL.below hb).mono (show w.heap.size + 1 ≤ w0.heap.size from X0.lt)
  have B3s := B3.size
  clear OL hb how
  go_wp2_with fail
  go_loopw [3, 9] (fun s i wr => ∃ (k : Nat) (ov : Option Addr) (cv : Nat), k + 1 ≤ n ∧ i = .int .i64 k ∧ s = .slice ov (k + 1) cv ∧ OwLP wr (w.heap.size + 1) (.slice ov (k + 1) cv) m (powsT m n t (k + 1)) ∧ Below w.heap.size w wr ∧ Box2 wr w.heap.size (.int .i64 m) (.slice o n c)) (fun _ i _ => n - 1 - (intOf i).toNat)
  case atStart => exact ⟨0, _, _, h1, rfl, rfl, OL3, B3, X3⟩
  case round =>
    obtain ⟨k, ov, cv, hk, rfl, rfl, hO, hB, hX⟩ := hrel
    have hBs := hB.size
    by_cases hlt : k + 1 < n
    · obtain ⟨q, hq⟩ : ∃ q, q = k + 1 := ⟨_, rfl⟩
      rw [← hq] at hO ⊢
      obtain ⟨bo, off, rfl⟩ := hO.rd.base (by rw [powsT_len]; omega)
      obtain ⟨o1, c1, y0, y1, hr⟩ := hO.rd.at (powsT_get (show k < q by omega))
      rw [powT_len] at y1 hr
      have hvr := hu.below hB (Nat.le_refl _)
      obtain ⟨x0, x1⟩ := id hX
      have HS := Lib.hid (powsT_snoc m n t q)
      have hlt2 := Lib.hid hO.lt
      have i0 : (0 : Int) ≤ (k : Int) := by omega
      have i1 : (k : Int) < (q : Int) := by omega
      have i2 : (k : Int) < (n : Int) - 1 := by omega
      have i3 : (1 : Int) ≤ (q : Int) := by omega
      have i4 : (q : Int) - 1 < (q : Int) := by omega
      have i5 : ((q : Int) - 1).toNat = k := by omega
      have e0 : IntKind.i64.wrap ((q : Int) - 1) = (q : Int) - 1 := IntWalk.i64_in _ (by omega)
      have ly := cell_lt y0
      have HQ := Lib.hid hq
      have hPq : powT m n t (k + 1) = powT m n t q := by rw [hq]
      rw [show powT m n t q = powT m n t (k + 1) by rw [hq]] at HS
      clear hPq hq
      have lx := hX.lt
      go_wp2_with fail
      have hd0 : Below wr.heap.size wr wr.drew := (Below.refl _ _).drew
      have hsd0 := hd0.size
      refine wp_region_K (S := fun w' => w'.cell? ⟨bo, off + k * 2, none⟩ = some (.int .i64 m) ∧ w'.cell? ⟨bo, off + k * 2 + 1, none⟩ = some (.slice o1 n c1) ∧ w'.cell? ⟨w.heap.size, 0, none⟩ = some (.int .i64 m) ∧ w'.cell? ⟨w.heap.size, 1, none⟩ = some (.slice o n c)) [0, 8, 9, 10, 11] (by kernel_rfl) ?_
      have hHeld : (fun w' : World => w'.cell? ⟨bo, off + k * 2, none⟩ = some (.int .i64 m) ∧ w'.cell? ⟨bo, off + k * 2 + 1, none⟩ = some (.slice o1 n c1) ∧ w'.cell? ⟨w.heap.size, 0, none⟩ = some (.int .i64 m) ∧ w'.cell? ⟨w.heap.size, 1, none⟩ = some (.slice o n c)) wr.drew := by go_keep
      refine' wpAnyK_pureL (i := 0) (v := _) rfl (by kernel_rfl) (by kernel_rfl) (by kernel_rfl) (by kernel_rfl) (fun _ _ _ h => h) (Or.inl ⟨by rfl, ?yT1⟩) ?rT1
      case yT1 => (intro w' _; go_simp; try with_reducible rfl)
      try simp only [List.getElem_toArray, List.getElem_cons_zero, List.getElem_cons_succ, Act.put, List.setIfInBounds_toArray, List.set_cons_zero, List.set_cons_succ]
      refine' wpAnyK_takeL (i := 1) (v := _) rfl (by kernel_rfl) (by kernel_rfl) (by kernel_rfl) (by kernel_rfl) (fun _ _ _ h => h) (Or.inl ⟨by rfl, ?yT2⟩) hHeld ?rT2
      case yT2 => (intro w' hSw; (try dsimp only at hSw); go_simp; try with_reducible rfl)
      try simp only [List.getElem_toArray, List.getElem_cons_zero, List.getElem_cons_succ, Act.put, List.setIfInBounds_toArray, List.set_cons_zero, List.set_cons_succ]
      refine' wpAnyK_takeL (i := 2) (v := _) rfl (by kernel_rfl) (by kernel_rfl) (by kernel_rfl) (by kernel_rfl) (fun _ _ _ h => h) (Or.inl ⟨by rfl, ?yT3⟩) hHeld ?rT3
      case yT3 => (intro w' hSw; (try dsimp only at hSw); go_simp; try with_reducible rfl)
      try simp only [List.getElem_toArray, List.getElem_cons_zero, List.getElem_cons_succ, Act.put, List.setIfInBounds_toArray, List.set_cons_zero, List.set_cons_succ]
      refine' wpAnyK_takeL (i := 3) (v := _) rfl (by kernel_rfl) (by kernel_rfl) (by kernel_rfl) (by kernel_rfl) (fun _ _ _ h => h) (Or.inl ⟨by rfl, ?yT4⟩) hHeld ?rT4
      case yT4 => (intro w' hSw; (try dsimp only at hSw); go_simp; try with_reducible rfl)
      try simp only [List.getElem_toArray, List.getElem_cons_zero, List.getElem_cons_succ, Act.put, List.setIfInBounds_toArray, List.set_cons_zero, List.set_cons_succ]
      refine' wpAnyK_takeL (i := 4) (v := _) rfl (by kernel_rfl) (by kernel_rfl) (by kernel_rfl) (by kernel_rfl) (fun _ _ _ h => h) (Or.inl ⟨by rfl, ?yT5⟩) hHeld ?rT5
      case yT5 => (intro w' hSw; (try dsimp only at hSw); go_simp; try with_reducible rfl)
      try simp only [List.getElem_toArray, List.getElem_cons_zero, List.getElem_cons_succ, Act.put, List.setIfInBounds_toArray, List.set_cons_zero, List.set_cons_succ]
      refine' wpAnyK_takeL (i := 5) (v := _) rfl (by kernel_rfl) (by kernel_rfl) (by kernel_rfl) (by kernel_rfl) (fun _ _ _ h => h) (Or.inl ⟨by rfl, ?yT6⟩) hHeld ?rT6
      case yT6 => (intro w' hSw; (try dsimp only at hSw); go_simp; try with_reducible rfl)
      try simp only [List.getElem_toArray, List.getElem_cons_zero, List.getElem_cons_succ, Act.put, List.setIfInBounds_toArray, List.set_cons_zero, List.set_cons_succ]
      refine' wpAnyK_takeL (i := 6) (v := _) rfl (by kernel_rfl) (by kernel_rfl) (by kernel_rfl) (by kernel_rfl) (fun _ _ _ h => h) (Or.inl ⟨by rfl, ?yT7⟩) hHeld ?rT7
      case yT7 => (intro w' hSw; (try dsimp only at hSw); go_simp; try with_reducible rfl)
      try simp only [List.getElem_toArray, List.getElem_cons_zero, List.getElem_cons_succ, Act.put, List.setIfInBounds_toArray, List.set_cons_zero, List.set_cons_succ]
      refine' wpAnyK_takeL (i := 7) (v := _) rfl (by kernel_rfl) (by kernel_rfl) (by kernel_rfl) (by kernel_rfl) (fun _ _ _ h => h) (Or.inl ⟨by rfl, ?yT8⟩) hHeld ?rT8
      case yT8 => (intro w' hSw; (try dsimp only at hSw); go_simp; try with_reducible rfl)
      try simp only [List.getElem_toArray, List.getElem_cons_zero, List.getElem_cons_succ, Act.put, List.setIfInBounds_toArray, List.set_cons_zero, List.set_cons_succ]
      refine wpAnyK_oneL (i := 8) rfl (by kernel_rfl) (fun K hK => ?_)
      go_simp
      go_at_call 152
      refine (timesP_c m m n _ _ (powT m n t k) t _ ((hr).below (by (repeat (first | exact Below.refl _ _ | (refine Below.setCell ?_ (by first | (simp; done) | (simp; omega) | omega) _) | (refine Below.alloc ?_ (by first | (simp; done) | (simp; omega) | omega) _) | (refine below_drewN ?_ _) | (refine Below.drew ?_)))) (Nat.le_refl _)) ((hvr).below (by (repeat (first | exact Below.refl _ _ | (refine Below.setCell ?_ (by first | (simp; done) | (simp; omega) | omega) _) | (refine Below.alloc ?_ (by first | (simp; done) | (simp; omega) | omega) _) | (refine below_drewN ?_ _) | (refine Below.drew ?_)))) (Nat.le_refl _)) h1 hn hm hm' (powT_ok (by omega) _ _ _) HT.out).mono ?_
      rintro e wd1 ⟨va, rfl, hod1, hbd1⟩
      obtain ⟨oa, ca, rfl⟩ := hod1.shapeN (n := n) (timesT_len _ _ _ _)
      have hd1 : Below wr.heap.size wr wd1 := (by (repeat (first | exact Below.refl _ _ | (refine Below.setCell ?_ (by first | (simp; done) | (simp; omega) | omega) _) | (refine Below.alloc ?_ (by first | (simp; done) | (simp; omega) | omega) _) | (refine below_drewN ?_ _) | (refine Below.drew ?_) | (refine Below.trans ?_ (Below.mono hbd1 (by first | (simp; done) | (simp; omega) | omega))))))
      have hsd1 := hd1.size
      go_wp2_with fail
      refine hK.out _ _ (fun h => absurd h (by decide)) ?_
      clear hK K
      try simp only [List.getElem_toArray, List.getElem_cons_zero, List.getElem_cons_succ, Act.put, List.setIfInBounds_toArray, List.set_cons_zero, List.set_cons_succ]
      refine wpAnyK_oneL (i := 9) rfl (by kernel_rfl) (fun K hK => ?_)
      go_simp
      (try go_wp2_with fail)
      refine hK.out _ _ (fun h => absurd h (by decide)) ?_
      clear hK K
      try simp only [List.getElem_toArray, List.getElem_cons_zero, List.getElem_cons_succ, Act.put, List.setIfInBounds_toArray, List.set_cons_zero, List.set_cons_succ]
      refine wpAnyK_oneL (i := 10) rfl (by kernel_rfl) (fun K hK => ?_)
      have how' : OwS wd1 wr.heap.size (.slice oa n ca) (powT m n t (k + 1)) := hod1
      obtain ⟨W, hW⟩ : ∃ W : World, W = wd1.alloc (.cells #[.int .i64 m, .slice oa n ca] 29) := ⟨_, rfl⟩
      have hWb1 : Below wd1.heap.size wd1 W := (by rw [hW]; exact (by (repeat (first | exact Below.refl _ _ | (refine Below.setCell ?_ (by first | (simp; done) | (simp; omega) | omega) _) | (refine Below.alloc ?_ (by first | (simp; done) | (simp; omega) | omega) _) | (refine below_drewN ?_ _) | (refine Below.drew ?_)))))
      have hT : OwLP W (w.heap.size + 1) (.slice (some ⟨bo, off, none⟩) q cv) m (powsT m n t q) := (hO.below hd1).below hWb1
      have hU : Rds wr.heap.size wd1.heap.size W (fun x => RdT x (.slice oa n ca) (powT m n t (k + 1))) := how'.rds.below hWb1
      have hC0 : W.cell? ⟨wd1.heap.size, 0, none⟩ = some (.int .i64 m) := (by rw [hW]; simp)
      have hC1 : W.cell? ⟨wd1.heap.size, 1, none⟩ = some (.slice oa n ca) := (by rw [hW]; simp)
      have hWb := hd1.trans (hWb1.mono hsd1)
      have hWz := hWb.size
      rw [← hW]
      have HW := Lib.hid hW
      clear hW
      refine stLP W rfl _ _ rfl (w.heap.size + 1) (.slice (some ⟨bo, off, none⟩) q cv) m (powsT m n t q) rfl hT (by omega) _ (powT m n t (k + 1)) wd1.heap.size rfl hC0 hC1 rfl ⟨_, _, by omega, hU, fun b hb => .inl (hlt2.out b hb).2⟩ (by rw [powsT_len]; omega) ?_
      intro g cap w5 hO5 hgr hb5
      have B5 := (hB.trans (hWb.mono hBs)).trans (hb5.mono (by omega))
      have hX5 := ((hX.below hWb (Nat.le_refl _)).grown hgr (fun hb => by have := hlt2.out _ hb.symm; omega))
      refine hK.out _ _ (fun h => absurd h (by decide)) ?_
      clear hK K
      try simp only [List.getElem_toArray, List.getElem_cons_zero, List.getElem_cons_succ, Act.put, List.setIfInBounds_toArray, List.set_cons_zero, List.set_cons_succ]
      refine wpAnyK_oneL (i := 11) rfl (by kernel_rfl) (fun K hK => ?_)
      go_simp
      (try go_wp2_with fail)
      refine hK.out _ _ (fun h => absurd h (by decide)) ?_
      clear hK K
      try simp only [List.getElem_toArray, List.getElem_cons_zero, List.getElem_cons_succ, Act.put, List.setIfInBounds_toArray, List.set_cons_zero, List.set_cons_succ]
      refine wpAnyK_done (by kernel_rfl) ?_ _
      go_wp2_with fail
      rw [powsT_len, ← HS.out] at hO5
      have hq := HQ.out
      go_wp2
      exact ⟨⟨k + 1, _, _, by omega, by go_num, by rw [powsT_len, hq], by rw [hq] at hO5; exact hO5, B5, hX5⟩, by simp [intOf]; omega⟩
    · obtain hk1 : k + 1 = n := by omega
      rw [congrArg (powsT m n t) hk1] at hO
      clear hk1
      go_wp2
      go_ret
      exact ⟨_, rfl, hO.mono (by omega), hB⟩

end Go.Proofs.Ytflebfmkgmhccaa
