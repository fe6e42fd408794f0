/- Lemmas. -/
import Derived.Test.YteijannfbafdpaaGreatDoorSZG3
import Derived.Test.YteijannfbafdpaaGreatDoorSZG2
import Derived.Test.YteijannfbafdpaaGreatDoorSZM8
import Derived.Deep.RegionHeld3
import Derived.Test.YteijannfbafdpaaGreatDoorSZG1
import Derived.Test.YteijannfbafdpaaGreatDoorSZM14
import Derived.Test.YteijannfbafdpaaGreatDoorSZM10
set_option linter.unusedSimpArgs false
set_option linter.unusedVariables false
namespace Go.Proofs.YteijannfbafdpaaGreatDoor
open Go.RowKit

set_option maxHeartbeats 1000000 in
set_option maxRecDepth 100000 in
theorem powersS_c (m : Int) (n : Nat) (v : Value) (xs : List Int) (w : World) (hv : RdI w v xs) (hl : xs.length = n) (h1 : 1 ≤ n) (hn : n ≤ 1000) (hm : 2 ≤ m) (hm' : m ≤ 3000000000)
    (hx : ∀ x ∈ xs, 0 ≤ x ∧ x < m) :
    Calls Tryz.prog 92 #[.agg #[.int .i64 m, v]] w fun e w' => ∃ v', e = .returned v' ∧ OwLS w' w.heap.size v' m (powsL m n xs n) ∧ Below w.heap.size w w' := by
  subst hl
  obtain ⟨o, c, rfl, hmx, -⟩ := id hv
  have hml := hmx.1
  unfold maxLen at hmx
  go_enter Tryz.func92, Tryz.ntmps92
  go_wp2_with fail
  (obtain ⟨w0, hw0⟩ : ∃ W : World, W = (w.alloc (.cells #[.int .i64 m, .slice o xs.length c] 57)) := ⟨_, rfl⟩; have X0 := (RB2.mk1 w  (.int .i64 m) (.slice o xs.length c) 57).1.below (w' := w0) (by rw [hw0]; (repeat (first | exact bR _ _ | (refine bS ?_ _) | (refine bA ?_ _) | (refine bN ?_ _) | (refine bD ?_)))) (Nat.le_refl _); have B0 : Below w.heap.size w w0 := (by rw [hw0]; (repeat (first | exact bR _ _ | (refine bS ?_ _) | (refine bA ?_ _) | (refine bN ?_ _) | (refine bD ?_)))); have hv0 := hv.below (w' := w0) (by rw [hw0]; (repeat (first | exact bR _ _ | (refine bS ?_ _) | (refine bA ?_ _) | (refine bN ?_ _) | (refine bD ?_)))) (Nat.le_refl _); rw [← hw0]; clear hw0)
  obtain ⟨x0, x1⟩ := id X0
  go_wp2_with fail
  refine (constant_c m 1 _ xs _ hv0 h1 (by omega) hm (by omega) (by omega) (by omega)).mono ?_
  rintro e w1 ⟨vz, rfl, how, hb⟩
  obtain ⟨oz, cz, rfl⟩ := how.shapeN (n := xs.length) (constL_len _ _ _)
  (have X1 := X0.below hb (Nat.le_refl _); have hv1 := hv0.below hb (Nat.le_refl _); have B1 := B0.trans (hb.mono B0.size))
  have hb1 := hb.size
  have hB0 := B0.size
  have OL := OwLS.lit1 w1 m _ _ (how.rds hb1) hb1
  rw [show [constL m 1 xs.length] = powsL m xs.length xs 1 from rfl] at OL
  clear x0 x1 hb
  obtain ⟨x0, x1⟩ := id X1
  have lX := X1.lt
  go_wp2_with fail
  have hb : Below w1.heap.size w1 (w1.alloc (.cells #[.int .i64 m, .slice oz xs.length cz] 57)) := (by (repeat (first | exact bR _ _ | (refine bS ?_ _) | (refine bA ?_ _) | (refine bN ?_ _) | (refine bD ?_))))
  (have X2 := X1.below hb (Nat.le_refl _); have hv2 := hv1.below hb (Nat.le_refl _); have B2 := B1.trans (hb.mono B1.size))
  clear x0 x1 X1 hv1 hb lX
  generalize w1.alloc (.cells #[.int .i64 m, .slice oz xs.length cz] 57) = w2 at X2 hv2 B2 OL ⊢
  refine (degreeS_c m o xs.length c _ hml).mono ?_
  rintro e w3 ⟨rfl, hb⟩
  (have X3 := X2.below hb (Nat.le_refl _); have hv3 := hv2.below hb (Nat.le_refl _); have B3 := B2.trans (hb.mono B2.size))
  have OL3 := (OL.below hb).mono (show w.heap.size + 1 ≤ w0.heap.size from X0.lt)
  have B3s := B3.size
  clear OL hb how
  go_wp2_with fail
  go_loopw [3, 9] (fun s i wr => ∃ (k : Nat) (ov : Option Addr) (cv : Nat), k + 1 ≤ xs.length ∧ i = .int .i64 k ∧ s = .slice ov (k + 1) cv ∧ OwLS wr (w.heap.size + 1) (.slice ov (k + 1) cv) m (powsL m xs.length xs (k + 1)) ∧ Below w.heap.size w wr ∧ Box2 wr w.heap.size (.int .i64 m) (.slice o xs.length c)) (fun _ i _ => xs.length - 1 - (intOf i).toNat)
  case atStart => exact ⟨0, _, _, h1, rfl, rfl, OL3, B3, X3⟩
  case round =>
    obtain ⟨k, ov, cv, hk, rfl, rfl, hO, hB, hX⟩ := hrel
    have hBs := hB.size
    by_cases hlt : k + 1 < xs.length
    · obtain ⟨q, hq⟩ : ∃ q, q = k + 1 := ⟨_, rfl⟩
      rw [← hq] at hO ⊢
      obtain ⟨bo, off, rfl⟩ := hO.rd.base (by rw [powsL_len]; omega)
      obtain ⟨o1, c1, y0, y1, hr⟩ := hO.rd.at (powsL_get (show k < q by omega))
      rw [powL_len] at y1 hr
      have hvr := hv.below hB (Nat.le_refl _)
      obtain ⟨x0, x1⟩ := id hX
      have HS := Lib.hid (powsL_snoc m xs.length xs q)
      have hlt2 := Lib.hid hO.lt
      have i0 : (0 : Int) ≤ (k : Int) := by omega
      have i1 : (k : Int) < (q : Int) := by omega
      have i2 : (k : Int) < (xs.length : Int) - 1 := by omega
      have i3 : (1 : Int) ≤ (q : Int) := by omega
      have i4 : (q : Int) - 1 < (q : Int) := by omega
      have i5 : ((q : Int) - 1).toNat = k := by omega
      have e0 : IntKind.i64.wrap ((q : Int) - 1) = (q : Int) - 1 := IntWalk.i64_in _ (by omega)
      have ly := cell_lt y0
      have HQ := Lib.hid hq
      have hPq : powL m xs.length xs (k + 1) = powL m xs.length xs q := by rw [hq]
      rw [show powL m xs.length xs q = powL m xs.length xs (k + 1) by rw [hq]] at HS
      clear hPq hq
      have lx := hX.lt
      go_wp2_with fail
      have hd0 : Below wr.heap.size wr wr.drew := (Below.refl _ _).drew
      have hsd0 := hd0.size
      refine wp_region_K (S := fun w' => w'.cell? ⟨bo, off + k * 2, none⟩ = some (.int .i64 m) ∧ w'.cell? ⟨bo, off + k * 2 + 1, none⟩ = some (.slice o1 xs.length c1) ∧ w'.cell? ⟨w.heap.size, 0, none⟩ = some (.int .i64 m) ∧ w'.cell? ⟨w.heap.size, 1, none⟩ = some (.slice o xs.length c)) [0, 8, 9, 10, 11] (by kernel_rfl) ?_
      have hHeld : (fun w' : World => w'.cell? ⟨bo, off + k * 2, none⟩ = some (.int .i64 m) ∧ w'.cell? ⟨bo, off + k * 2 + 1, none⟩ = some (.slice o1 xs.length c1) ∧ w'.cell? ⟨w.heap.size, 0, none⟩ = some (.int .i64 m) ∧ w'.cell? ⟨w.heap.size, 1, none⟩ = some (.slice o xs.length c)) wr.drew := by go_keep
      refine' wpAnyK_pureL (i := 0) (v := _) rfl (by kernel_rfl) (by kernel_rfl) (by kernel_rfl) (by kernel_rfl) (fun _ _ _ h => h) (Or.inl ⟨by rfl, ?yT1⟩) ?rT1
      case yT1 => (intro w' _; go_simp; try with_reducible rfl)
      try simp only [List.getElem_toArray, List.getElem_cons_zero, List.getElem_cons_succ, Act.put, List.setIfInBounds_toArray, List.set_cons_zero, List.set_cons_succ]
      refine' wpAnyK_takeL (i := 1) (v := _) rfl (by kernel_rfl) (by kernel_rfl) (by kernel_rfl) (by kernel_rfl) (fun _ _ _ h => h) (Or.inl ⟨by rfl, ?yT2⟩) hHeld ?rT2
      case yT2 => (intro w' hSw; (try dsimp only at hSw); go_simp; try with_reducible rfl)
      try simp only [List.getElem_toArray, List.getElem_cons_zero, List.getElem_cons_succ, Act.put, List.setIfInBounds_toArray, List.set_cons_zero, List.set_cons_succ]
      refine' wpAnyK_takeL (i := 2) (v := _) rfl (by kernel_rfl) (by kernel_rfl) (by kernel_rfl) (by kernel_rfl) (fun _ _ _ h => h) (Or.inl ⟨by rfl, ?yT3⟩) hHeld ?rT3
      case yT3 => (intro w' hSw; (try dsimp only at hSw); go_simp; try with_reducible rfl)
      try simp only [List.getElem_toArray, List.getElem_cons_zero, List.getElem_cons_succ, Act.put, List.setIfInBounds_toArray, List.set_cons_zero, List.set_cons_succ]
      refine' wpAnyK_takeL (i := 3) (v := _) rfl (by kernel_rfl) (by kernel_rfl) (by kernel_rfl) (by kernel_rfl) (fun _ _ _ h => h) (Or.inl ⟨by rfl, ?yT4⟩) hHeld ?rT4
      case yT4 => (intro w' hSw; (try dsimp only at hSw); go_simp; try with_reducible rfl)
      try simp only [List.getElem_toArray, List.getElem_cons_zero, List.getElem_cons_succ, Act.put, List.setIfInBounds_toArray, List.set_cons_zero, List.set_cons_succ]
      refine' wpAnyK_takeL (i := 4) (v := _) rfl (by kernel_rfl) (by kernel_rfl) (by kernel_rfl) (by kernel_rfl) (fun _ _ _ h => h) (Or.inl ⟨by rfl, ?yT5⟩) hHeld ?rT5
      case yT5 => (intro w' hSw; (try dsimp only at hSw); go_simp; try with_reducible rfl)
      try simp only [List.getElem_toArray, List.getElem_cons_zero, List.getElem_cons_succ, Act.put, List.setIfInBounds_toArray, List.set_cons_zero, List.set_cons_succ]
      refine' wpAnyK_takeL (i := 5) (v := _) rfl (by kernel_rfl) (by kernel_rfl) (by kernel_rfl) (by kernel_rfl) (fun _ _ _ h => h) (Or.inl ⟨by rfl, ?yT6⟩) hHeld ?rT6
      case yT6 => (intro w' hSw; (try dsimp only at hSw); go_simp; try with_reducible rfl)
      try simp only [List.getElem_toArray, List.getElem_cons_zero, List.getElem_cons_succ, Act.put, List.setIfInBounds_toArray, List.set_cons_zero, List.set_cons_succ]
      refine' wpAnyK_takeL (i := 6) (v := _) rfl (by kernel_rfl) (by kernel_rfl) (by kernel_rfl) (by kernel_rfl) (fun _ _ _ h => h) (Or.inl ⟨by rfl, ?yT7⟩) hHeld ?rT7
      case yT7 => (intro w' hSw; (try dsimp only at hSw); go_simp; try with_reducible rfl)
      try simp only [List.getElem_toArray, List.getElem_cons_zero, List.getElem_cons_succ, Act.put, List.setIfInBounds_toArray, List.set_cons_zero, List.set_cons_succ]
      refine' wpAnyK_takeL (i := 7) (v := _) rfl (by kernel_rfl) (by kernel_rfl) (by kernel_rfl) (by kernel_rfl) (fun _ _ _ h => h) (Or.inl ⟨by rfl, ?yT8⟩) hHeld ?rT8
      case yT8 => (intro w' hSw; (try dsimp only at hSw); go_simp; try with_reducible rfl)
      try simp only [List.getElem_toArray, List.getElem_cons_zero, List.getElem_cons_succ, Act.put, List.setIfInBounds_toArray, List.set_cons_zero, List.set_cons_succ]
      refine wpAnyK_oneL (i := 8) rfl (by kernel_rfl) (fun K hK => ?_)
      go_simp
      go_at_call 107
      refine (times_c m m _ _ (powL m xs.length xs k) xs _ ((hr).below (by (repeat (first | exact bR _ _ | (refine bS ?_ _) | (refine bA ?_ _) | (refine bN ?_ _) | (refine bD ?_)))) (Nat.le_refl _)) ((hvr).below (by (repeat (first | exact bR _ _ | (refine bS ?_ _) | (refine bA ?_ _) | (refine bN ?_ _) | (refine bD ?_)))) (Nat.le_refl _)) (by rw [powL_len]) (by rw [powL_len]; omega) (by rw [powL_len]; omega) hm hm' (powL_range (by omega)) hx).mono ?_
      rintro e wd1 ⟨va, rfl, hod1, hbd1⟩
      rw [powL_len] at hod1; obtain ⟨oa, ca, rfl⟩ := hod1.shapeN (n := xs.length) (timesL_len _ _ _ _)
      have hd1 : Below wr.heap.size wr wd1 := (by (repeat (first | exact bR _ _ | (refine bS ?_ _) | (refine bA ?_ _) | (refine bN ?_ _) | (refine bD ?_) | (refine bT ?_ hbd1))))
      have hsd1 := hd1.size
      have hsz1_ := hbd1.size
      (try simp at hsz1_)
      go_wp2_with fail
      refine hK.out _ _ (fun h => absurd h (by decide)) ?_
      clear hK K
      try simp only [List.getElem_toArray, List.getElem_cons_zero, List.getElem_cons_succ, Act.put, List.setIfInBounds_toArray, List.set_cons_zero, List.set_cons_succ]
      refine wpAnyK_oneL (i := 9) rfl (by kernel_rfl) (fun K hK => ?_)
      go_simp
      (try go_wp2_with fail)
      refine hK.out _ _ (fun h => absurd h (by decide)) ?_
      clear hK K
      try simp only [List.getElem_toArray, List.getElem_cons_zero, List.getElem_cons_succ, Act.put, List.setIfInBounds_toArray, List.set_cons_zero, List.set_cons_succ]
      refine wpAnyK_oneL (i := 10) rfl (by kernel_rfl) (fun K hK => ?_)
      have how' : OwI wd1 wr.heap.size (.slice oa xs.length ca) (powL m xs.length xs (k + 1)) := hod1
      obtain ⟨W, hW⟩ : ∃ W : World, W = wd1.alloc (.cells #[.int .i64 m, .slice oa xs.length ca] 57) := ⟨_, rfl⟩
      have hWb1 : Below wd1.heap.size wd1 W := (by rw [hW]; exact (by (repeat (first | exact bR _ _ | (refine bS ?_ _) | (refine bA ?_ _) | (refine bN ?_ _) | (refine bD ?_)))))
      have hT : OwLS W (w.heap.size + 1) (.slice (some ⟨bo, off, none⟩) q cv) m (powsL m xs.length xs q) := (hO.below hd1).below hWb1
      have hU : Rds wr.heap.size wd1.heap.size W (fun x => RdI x (.slice oa xs.length ca) (powL m xs.length xs (k + 1))) := (how'.rds hsd1).below hWb1
      have hC0 : W.cell? ⟨wd1.heap.size, 0, none⟩ = some (.int .i64 m) := (by rw [hW]; simp)
      have hC1 : W.cell? ⟨wd1.heap.size, 1, none⟩ = some (.slice oa xs.length ca) := (by rw [hW]; simp)
      have hWb := hd1.trans (hWb1.mono hsd1)
      have hWz := hWb.size
      rw [← hW]
      have HW := Lib.hid hW
      clear hW
      refine stLS W rfl _ _ rfl (w.heap.size + 1) (.slice (some ⟨bo, off, none⟩) q cv) m (powsL m xs.length xs q) rfl hT (by omega) _ (powL m xs.length xs (k + 1)) wd1.heap.size rfl hC0 hC1 rfl ⟨_, _, by omega, hU, fun b hb => .inl (hlt2.out b hb).2⟩ (by rw [powsL_len]; omega) ?_
      intro g cap w5 hO5 hgr hb5
      have B5 := (hB.trans (hWb.mono hBs)).trans (hb5.mono (by omega))
      have hX5 := ((hX.below hWb (Nat.le_refl _)).grown hgr (fun hb => by have := hlt2.out _ hb.symm; omega))
      refine hK.out _ _ (fun h => absurd h (by decide)) ?_
      clear hK K
      try simp only [List.getElem_toArray, List.getElem_cons_zero, List.getElem_cons_succ, Act.put, List.setIfInBounds_toArray, List.set_cons_zero, List.set_cons_succ]
      refine wpAnyK_oneL (i := 11) rfl (by kernel_rfl) (fun K hK => ?_)
      go_simp
      (try go_wp2_with fail)
      refine hK.out _ _ (fun h => absurd h (by decide)) ?_
      clear hK K
      try simp only [List.getElem_toArray, List.getElem_cons_zero, List.getElem_cons_succ, Act.put, List.setIfInBounds_toArray, List.set_cons_zero, List.set_cons_succ]
      refine wpAnyK_done (by kernel_rfl) ?_ _
      go_wp2_with fail
      rw [powsL_len, ← HS.out] at hO5
      have hq := HQ.out
      go_wp2
      exact ⟨⟨k + 1, _, _, by omega, by go_num, by rw [powsL_len, hq], by rw [hq] at hO5; exact hO5, B5, hX5⟩, by simp [intOf]; omega⟩
    · obtain hk1 : k + 1 = xs.length := by omega
      rw [congrArg (powsL m xs.length xs) hk1] at hO
      clear hk1
      go_wp2
      go_ret
      exact ⟨_, rfl, hO.mono (by omega), hB⟩

theorem OwS.lit1 {w : World} {B : Nat} {u : Value} {row : List Int} (h : OwI w B u row) (hB : B ≤ w.heap.size) : OwS (w.alloc (.cells #[u] 34)) B (.slice (some ⟨w.heap.size, 0, none⟩) 1 1) [row] := by
  have hr := World.ownsRow_lit (base := B) (e := 34) (size := 1) w #[u] 1 hB (by unfold maxLen; omega) rfl
  refine ⟨[u], rfl, hr, fun k u' r hk hx => ?_, fun i j u1 u2 b hi hj hb1 hb2 => ?_, fun i u' b hi hb hv => ?_⟩
  · have : k = 0 := by have := (List.getElem?_eq_some_iff.1 hk).1; simp at this; omega
    subst this
    simp at hk hx
    subst hk hx
    exact h.alloc _
  · have e1 := (List.getElem?_eq_some_iff.1 hi).1
    have e2 := (List.getElem?_eq_some_iff.1 hj).1
    simp at e1 e2
    omega
  · have e1 := (List.getElem?_eq_some_iff.1 hi).1
    simp at e1
    subst e1
    simp at hi
    subst hi
    simp only [Value.ownBlock, Option.some.injEq] at hv
    have := (h.lt b hb).2
    omega

set_option maxHeartbeats 1000000 in
set_option maxRecDepth 100000 in
theorem l03Powers_c (m : Int) (n : Nat) (v : Value) (xs : List Int) (w : World) (hv : RdI w v xs) (hl : xs.length = n) (h1 : 1 ≤ n) (hn : n ≤ 1000) (hm : 2 ≤ m) (hm' : m ≤ 3000000000)
    (hx : ∀ x ∈ xs, 0 ≤ x ∧ x < m) :
    Calls Tryz.prog 97 #[.int .i64 m, v] w fun e w' => ∃ v', e = .returned v' ∧ OwS w' w.heap.size v' (powsL m n xs n) ∧ Below w.heap.size w w' := by
  subst hl
  obtain ⟨o, c, rfl, hmx, -⟩ := id hv
  unfold maxLen at hmx
  have i00 : (0 : Int) < (xs.length : Int) := by omega
  go_enter Tryz.func97, Tryz.ntmps97
  go_wp2_with (at_make; go_loud (refine mkI _ rfl _ _ rfl _ _ _ xs.length rfl rfl rfl (by omega) ?_; intro w1 how hb1 hs1; have hc0 := how.cell (k := 0) (rep_get xs.length 0 0 (by omega)); have hf0 := how.fz 0; have hz1 : w.heap.size < w1.heap.size := (by omega); have Hn := Lib.hid how; clear how hs1))
  have h2 := OwI.put Hn.out 0 1
  rw [show (List.replicate xs.length (0 : Int)).set 0 1 = powL m xs.length xs 0 by unfold powL; rw [one_mod hm]] at h2
  have B1 := below_put hb1 (g := w.heap.size) (k := 0) (Nat.le_refl _) (.int .i64 1)
  have OL := OwS.lit1 h2 (by have := B1.size; exact this)
  have B2 := B1.alloc B1.size (.cells #[.slice (some ⟨w.heap.size, 0, none⟩) xs.length xs.length] 34)
  rw [show [powL m xs.length xs 0] = powsL m xs.length xs 1 from rfl] at OL
  clear h2 hc0 hf0
  have hsz : (w1.setCell ⟨w.heap.size, 0, none⟩ (.int .i64 1)).heap.size = w1.heap.size := by simp
  rw [hsz] at OL
  clear hsz
  generalize (w1.setCell ⟨w.heap.size, 0, none⟩ (.int .i64 1)).alloc (.cells #[.slice (some ⟨w.heap.size, 0, none⟩) xs.length xs.length] 34) = w2 at OL B2 ⊢
  go_loopw [7, 8] (fun s i wr => ∃ (k : Nat) (ov : Option Addr) (cv : Nat), k + 1 ≤ xs.length ∧ i = .int .i64 k ∧ s = .slice ov (k + 1) cv ∧ OwS wr w.heap.size (.slice ov (k + 1) cv) (powsL m xs.length xs (k + 1)) ∧ Below w.heap.size w wr) (fun _ i _ => xs.length - 1 - (intOf i).toNat)
  case atStart => exact ⟨0, _, _, h1, rfl, rfl, OL, B2⟩
  case round =>
    obtain ⟨k, ov, cv, hk, rfl, rfl, hO, hB⟩ := hrel
    have hBs := hB.size
    by_cases hlt : k + 1 < xs.length
    · obtain ⟨g, rfl, hgl, hgl'⟩ := hO.row (by omega)
      obtain ⟨o1, c1, y0, hr, -⟩ := hO.get (powsL_get (show k < k + 1 by omega))
      rw [powL_len] at y0 hr
      have hvr := hv.below hB (Nat.le_refl _)
      have HS := Lib.hid (powsL_snoc m xs.length xs (k + 1))
      have i0 : (0 : Int) ≤ (k : Int) := by omega
      have i1 : (k : Int) < ((k + 1 : Nat) : Int) := by omega
      have i2 : (k : Int) < (xs.length : Int) - 1 := by omega
      go_wp2_with (first
        | (go_at_call 96; refine (l02Times_c m _ xs.length _ _ (powL m xs.length xs k) xs _ rfl hr.rd hvr h1 (by omega) hm hm' (powL_range (by omega)) hx).mono ?_; rintro e w3 ⟨va, rfl, how, hb3⟩; obtain ⟨oa, ca, rfl⟩ := how.shapeN (n := xs.length) (timesL_len _ _ _ _); have hz3 := hb3.size)
        | (at_builtin; obtain ⟨W, hW⟩ : ∃ W : World, W = w3.alloc (.cells #[.slice oa xs.length ca] 34) := ⟨_, rfl⟩; have hWb : Below wr.heap.size wr W := (by rw [hW]; exact (by (repeat (first | exact bR _ _ | (refine bS ?_ _) | (refine bA ?_ _) | (refine bN ?_ _) | (refine bD ?_) | (refine bT ?_ hb3))))); have hT : OwSR w.heap.size wr.heap.size W (.slice (some ⟨g, 0, none⟩) (k + 1) cv) (powsL m xs.length xs (k + 1)) := hO.toR.stay (fun j _ hj => hWb.block j hj); have hU : OwI W wr.heap.size (.slice oa xs.length ca) (powL m xs.length xs (k + 1)) := (by rw [hW]; exact how.alloc _); have hC : W.cell? ⟨w3.heap.size, 0, none⟩ = some (.slice oa xs.length ca) := (by rw [hW]; simp); have B3 := hB.trans (hWb.mono hBs); have hWs := hWb.size; rw [← hW]; have HW := Lib.hid hW; clear hW; go_loud (refine apT W rfl _ _ rfl w.heap.size wr.heap.size _ _ rfl hT (by omega) hBs _ _ w3.heap.size rfl hC hU (by rw [powsL_len]; omega) ?_; intro g2 cap w4 hO4 hgr hb4; clear hgr; have B4 := B3.trans hb4)))
      rw [powsL_len, ← HS.out] at hO4
      exact ⟨⟨k + 1, _, _, by omega, by go_num, by rw [powsL_len], hO4, B4⟩, by simp [intOf]; omega⟩
    · obtain hk1 : k + 1 = xs.length := by omega
      rw [congrArg (powsL m xs.length xs) hk1] at hO
      have i2 : ¬ (k : Int) < (xs.length : Int) - 1 := by omega
      clear hk1
      go_wp2
      go_ret
      exact ⟨_, rfl, hO, hB⟩

end Go.Proofs.YteijannfbafdpaaGreatDoor
set_option linter.unusedSimpArgs false
set_option linter.unusedVariables false
namespace Go.Proofs.YteijannfbafdpaaGreatDoor
open Go.RowKit

theorem RB2.mk4 (w : World) (o o' o'' : Obj) (x y : Value) (t : TypeId) : RB2 ((((w.alloc o).alloc o').alloc o'').alloc (.cells #[x, y] t)) (w.heap.size + 3) x y := by
  have := RB2.mk1 (((w.alloc o).alloc o').alloc o'') x y t
  simpa using this

def Cel2 (w : World) (b f : Nat) (x y : Value) : Prop := w.cell? ⟨b, f, none⟩ = some x ∧ w.cell? ⟨b, f + 1, none⟩ = some y
theorem Cel2.below {B : Nat} {w w' : World} {b f : Nat} {x y : Value} (h : Cel2 w b f x y) (hb : Below B w w') (hB : w.heap.size ≤ B) : Cel2 w' b f x y := ⟨keep_cell hb hB h.1, keep_cell hb hB h.2⟩

end Go.Proofs.YteijannfbafdpaaGreatDoor
set_option linter.unusedSimpArgs false
set_option linter.unusedVariables false
namespace Go.Proofs.YteijannfbafdpaaGreatDoor
open Go.RowKit

def Rdo (lo hi : Nat) (w : World) (R : World → Prop) : Prop := ∀ x : World, (∀ k, k < w.heap.size → (k < lo ∨ hi ≤ k) → x.heap[k]? = w.heap[k]?) → R x
theorem Rdo.now {lo hi : Nat} {w : World} {R : World → Prop} (h : Rdo lo hi w R) : R w := h w (fun _ _ _ => rfl)
theorem Rdo.chg {lo hi : Nat} {w w' : World} {R : World → Prop} (h : Rdo lo hi w R) (hc : Chg lo hi w w') : Rdo lo hi w' R :=
  fun x hx => h x (fun k hk hd => (hx k (Nat.lt_of_lt_of_le hk hc.size) hd).trans (hc.block k hk hd))
theorem Rdo.below {lo hi : Nat} {w w' : World} {R : World → Prop} (h : Rdo lo hi w R) (hb : Below w.heap.size w w') : Rdo lo hi w' R := h.chg (Chg.of_below hb)
theorem Rds.outside {lo hi a b : Nat} {w : World} {R : World → Prop} (h : Rds a b w R) (hd : b ≤ lo ∨ hi ≤ a) : Rdo lo hi w R :=
  fun x hx => h.2 x (fun k h1 h2 => hx k (Nat.lt_of_lt_of_le h2 h.1) (by omega))
theorem Rds.chg {lo hi a b : Nat} {w w' : World} {R : World → Prop} (h : Rds a b w R) (hc : Chg lo hi w w') (hd : b ≤ lo ∨ hi ≤ a) : Rds a b w' R :=
  ⟨Nat.le_trans h.1 hc.size, fun u hu => h.2 u (fun k h1 h2 => (hu k h1 h2).trans (hc.block k (Nat.lt_of_lt_of_le h2 h.1) (by omega)))⟩
def outTo (m : Int) (n : Nat) (f : List (List Int)) (a b : List Int) (i j : Nat) : List (List Int) := tri n (fun p q => if p < i ∨ (p = i ∧ q < j) then (atT f p q + at0 a p * at0 b q) % m else atT f p q)
def outRow (m : Int) (n : Nat) (f : List (List Int)) (a b : List Int) (i j : Nat) : List Int := mk (n - i) (fun q => if q < j then (atT f i q + at0 a i * at0 b q) % m else atT f i q)
theorem outRow_len (m : Int) (n : Nat) (f : List (List Int)) (a b : List Int) (i j : Nat) : (outRow m n f a b i j).length = n - i := mk_len _ _
theorem outTo_0 {m : Int} {n : Nat} {f : List (List Int)} (hf : PlaT m n f) (a b : List Int) : f = outTo m n f a b 0 0 := by
  have e := tri_eq (t := f) (n := n) hf.1 (fun i hi => by rw [(hf.2 i hi).1, hf.1])
  conv => lhs; rw [e]
  exact tri_ext fun p q _ => by rw [if_neg (by omega)]
theorem outTo_get {m : Int} {n : Nat} {f : List (List Int)} {a b : List Int} {i j : Nat} (h : i < n) : (outTo m n f a b i j)[i]? = some (outRow m n f a b i j) := by
  unfold outTo outRow
  rw [tri_get h]
  exact congrArg some (mk_ext fun q _ => by
    by_cases e : q < j
    · rw [if_pos e, if_pos (.inr ⟨rfl, e⟩)]
    · rw [if_neg e, if_neg (by omega)])
theorem outRow_get {m : Int} {n : Nat} {f : List (List Int)} {a b : List Int} {i j : Nat} (h : j < n - i) : (outRow m n f a b i j)[j]? = some (atT f i j) := by
  unfold outRow
  rw [mk_get h, if_neg (by omega)]
theorem outTo_set {m : Int} {n : Nat} {f : List (List Int)} {a b : List Int} {i j : Nat} (h : i + j < n) : (outTo m n f a b i j).set i ((outRow m n f a b i j).set j ((atT f i j + at0 a i * at0 b j) % m)) = outTo m n f a b i (j + 1) := by
  have e : outRow m n f a b i j = mk (n - i) ((fun p q => if p < i ∨ (p = i ∧ q < j) then (atT f p q + at0 a p * at0 b q) % m else atT f p q) i) := mk_ext fun q _ => by
    by_cases e : q < j <;> simp [e]
  unfold outTo
  rw [e, tri_set h]
  refine tri_ext fun p q _ => ?_
  by_cases e1 : p = i ∧ q = j
  · obtain ⟨rfl, rfl⟩ := e1
    rw [if_pos ⟨rfl, rfl⟩, if_pos (.inr ⟨rfl, by omega⟩)]
  · rw [if_neg e1]
    by_cases e2 : p < i ∨ (p = i ∧ q < j)
    · rw [if_pos e2, if_pos (by omega)]
    · rw [if_neg e2, if_neg (by omega)]
theorem outTo_row {m : Int} {n : Nat} {f : List (List Int)} {a b : List Int} {i : Nat} : outTo m n f a b i (n - i) = outTo m n f a b (i + 1) 0 := tri_ext fun p q h => by
  by_cases e : p < i ∨ (p = i ∧ q < n - i)
  · rw [if_pos e, if_pos (by omega)]
  · rw [if_neg e, if_neg (by omega)]
theorem outTo_all {m : Int} {n : Nat} {f : List (List Int)} {a b : List Int} : outTo m n f a b n 0 = outT m n f a b := tri_ext fun p q h => by rw [if_pos (by omega)]

set_option maxHeartbeats 2000000 in
set_option maxRecDepth 100000 in
theorem addOuter_c (m m1 m2 : Int) (n : Nat) (us : List Value) (lo hi : Nat) (v u u' : Value) (f : List (List Int)) (a b : List Int) (w : World) (hv : OwSU us lo hi w v f) (hh : hi ≤ w.heap.size) (hu : Rdo lo hi w (fun x => RdI x u a)) (hu' : Rdo lo hi w (fun x => RdI x u' b))
    (hla : a.length = n) (hlb : b.length = n) (h1 : 1 ≤ n) (hn : n ≤ 1000) (hm : 2 ≤ m) (hm' : m ≤ 3000000000) (hf : PlaT m n f) (hx : ∀ x ∈ a, 0 ≤ x ∧ x < m) (hy : ∀ x ∈ b, 0 ≤ x ∧ x < m) :
    Calls Tryz.prog 93 #[.agg #[.int .i64 m, v], .agg #[.int .i64 m1, u], .agg #[.int .i64 m2, u']] w fun e w' => e = .returned (.tuple #[]) ∧ OwSU us lo hi w' v (outT m n f a b) ∧ Chg lo hi w w' := by
  subst hla
  obtain ⟨o, c, rfl⟩ := hv.r.ow.shapeN (n := a.length) hf.1
  obtain ⟨o1, c1, rfl, hmx, -⟩ := id hu.now
  obtain ⟨o2, c2, rfl, hmy, -⟩ := id hu'.now
  rw [hlb] at hu' ⊢
  unfold maxLen at hmx hmy
  have HF := Lib.hid hf
  have HLB := Lib.hid hlb
  obtain ⟨g, rfl, hgl, hgl'⟩ := hv.row (by omega)
  rw [outTo_0 hf a b] at hv
  obtain ⟨ba, fa, rfl, -⟩ := hu.now.cells (by omega)
  obtain ⟨bb, fb, rfl, -⟩ := hu'.now.cells (by omega)
  clear hf hlb hmx hmy
  have m0 : (m == 0) = false := by simp; omega
  have m1' : ¬ m = 0 := by omega
  go_enter Tryz.func93, Tryz.ntmps93
  go_wp2_with fail
  (obtain ⟨w0, hw0⟩ : ∃ W : World, W = (((w.alloc (.cells #[.int .i64 m, .slice (some ⟨g, 0, none⟩) a.length c] 28)).alloc (.cells #[.int .i64 m1, .slice (some ⟨ba, fa, none⟩) a.length c1] 57)).alloc (.cells #[.int .i64 m2, .slice (some ⟨bb, fb, none⟩) a.length c2] 57)) := ⟨_, rfl⟩; have X0 := (RB2.mk1 w  (.int .i64 m) (.slice (some ⟨g, 0, none⟩) a.length c) 28).1.below (w' := w0) (by rw [hw0]; (repeat (first | exact bR _ _ | (refine bS ?_ _) | (refine bA ?_ _) | (refine bN ?_ _) | (refine bD ?_)))) (Nat.le_refl _); have Y0 := (RB2.mk2 w (.cells #[.int .i64 m, .slice (some ⟨g, 0, none⟩) a.length c] 28) (.int .i64 m1) (.slice (some ⟨ba, fa, none⟩) a.length c1) 57).1.below (w' := w0) (by rw [hw0]; (repeat (first | exact bR _ _ | (refine bS ?_ _) | (refine bA ?_ _) | (refine bN ?_ _) | (refine bD ?_)))) (Nat.le_refl _); have Z0 := (RB2.mk3 w (.cells #[.int .i64 m, .slice (some ⟨g, 0, none⟩) a.length c] 28) (.cells #[.int .i64 m1, .slice (some ⟨ba, fa, none⟩) a.length c1] 57) (.int .i64 m2) (.slice (some ⟨bb, fb, none⟩) a.length c2) 57).1.below (w' := w0) (by rw [hw0]; (repeat (first | exact bR _ _ | (refine bS ?_ _) | (refine bA ?_ _) | (refine bN ?_ _) | (refine bD ?_)))) (Nat.le_refl _); have B0 : Below w.heap.size w w0 := (by rw [hw0]; (repeat (first | exact bR _ _ | (refine bS ?_ _) | (refine bA ?_ _) | (refine bN ?_ _) | (refine bD ?_)))); rw [← hw0]; clear hw0)
  have B0s := B0.size
  have hv0 := hv.stay (u' := w0) (fun k _ hk => B0.block k (by omega))
  have hX0l : w.heap.size ≤ w.heap.size := Nat.le_refl _
  obtain ⟨x0, x1⟩ := id X0
  go_wp2_with fail
  clear x0 x1
  go_loopw [12] (fun s wr => ∃ i : Nat, i ≤ a.length ∧ s = .int .i64 i ∧ OwSU us lo hi wr (.slice (some ⟨g, 0, none⟩) a.length c) (outTo m a.length f a b i 0) ∧ Chg lo hi w0 wr) (fun i _ => a.length - (intOf i).toNat)
  case atStart => exact ⟨0, Nat.zero_le _, rfl, hv0, Chg.refl _ _ _⟩
  case round =>
    obtain ⟨i, hi', rfl, hO, hC⟩ := hrel
    by_cases hlt : i < a.length
    · obtain ⟨o3, c3, hu3, cx3, -, -, -⟩ := hO.at (outTo_get hlt)
      rw [outRow_len] at hu3 cx3
      have i0 : (0 : Int) ≤ (i : Int) := by omega
      have i1 : (i : Int) < (a.length : Int) := by omega
      go_wp2_with fail
      clear cx3
      go_loopw [19] (fun s wr => ∃ j : Nat, j ≤ a.length - i ∧ s = .int .i64 j ∧ OwSU us lo hi wr (.slice (some ⟨g, 0, none⟩) a.length c) (outTo m a.length f a b i j) ∧ Chg lo hi w0 wr) (fun i' _ => a.length - i - (intOf i').toNat)
      case atStart => exact ⟨0, Nat.zero_le _, rfl, hO, hC⟩
      case round =>
        clear hO hC
        obtain ⟨j, hj, rfl, hO, hC⟩ := hrel
        by_cases hjl : j < a.length - i
        · obtain ⟨o4, c4, hu4, cx4, how4, hbl4, hset4⟩ := hO.at (outTo_get hlt)
          rw [outRow_len] at hu4 cx4 how4 hbl4 hset4
          obtain ⟨rfl, rfl⟩ : o3 = o4 ∧ c3 = c4 := by rw [hu3] at hu4; simpa using hu4
          obtain ⟨gr, rfl, hgr1, hgr2⟩ := how4.row (by omega)
          have hgr3 := hbl4 gr rfl
          have hc0 := how4.cell (k := j) (outRow_get hjl)
          have hf0 := how4.fz j
          have hN := Lib.hid how4
          have hS := Lib.hid hset4
          obtain ⟨-, -, -, -, hta, htb⟩ := HF.out.at (i := i) (j := j) (by omega)
          clear how4 hset4 hbl4 hu4 cx4
          obtain ⟨x0, x1⟩ := X0.chg hC (by omega)
          obtain ⟨y0, y1⟩ := Y0.chg hC (by omega)
          obtain ⟨z0, z1⟩ := Z0.chg hC (by omega)
          have hCw : Chg lo hi w wr := (Chg.of_below ⟨B0.os, B0.tape, B0.output, B0.size, B0.block⟩).trans hC
          have ca := (hu.chg hCw).now.cell0 (some_at0 hlt)
          have cb := (hu'.chg hCw).now.cell0 (some_at0 (show j < b.length by rw [HLB.out]; omega))
          have hak := at0_range (by omega) hx i
          have hbk := at0_range (by omega) hy j
          have j0 : (0 : Int) ≤ (j : Int) := by omega
          have j1 : (j : Int) < ((a.length - i : Nat) : Int) := by omega
          have j2 : (j : Int) < (a.length : Int) := by omega
          have hM := mod_lt' (a := at0 a i * at0 b j) (show 0 < m by omega)
          have hMod := mod_lt' (a := atT f i j + at0 a i * at0 b j % m) (show 0 < m by omega)
          go_wp2_with fail
          have e1 : IntKind.i64.wrap (atT f i j + at0 a i * at0 b j % m) = atT f i j + at0 a i * at0 b j % m := IntWalk.i64_in _ (by omega)
          have e2 : (atT f i j + at0 a i * at0 b j % m).tmod m = (atT f i j + at0 a i * at0 b j % m) % m := Int.tmod_eq_emod_of_nonneg (by omega)
          go_still_tail 24, (by kernel_rfl)
          still_call (stillC (mul_c _ _ _ _ (by omega) hm' (by omega) (by omega) (by omega) (by omega)))
          repeat still_step
          refine wpStill_nil ?_
          change wpList _ _ _ _ _ wr.drew
          have hg0 := gr_put (gr_drewN (World.grownBy.refl wr (some gr)) 1) j (.int .i64 ((atT f i j + at0 a i * at0 b j % m) % m))
          have hOn := hS.out _ _ (by rw [List.length_set, outRow_len]) hg0 ((hN.out.drewN 1).put j _)
          have hCn := hC.grown hg0 hgr3.1 hgr3.2.1
          have hme : (atT f i j + at0 a i * at0 b j % m) % m = (atT f i j + at0 a i * at0 b j) % m := emod_congr_add rfl (emod_idem _ _)
          rw [hme, outTo_set (by omega)] at hOn
          rw [hme] at hCn
          go_wp2
          exact ⟨⟨j + 1, by omega, by go_num, hOn, hCn⟩, by simp [intOf]; omega⟩
        · obtain rfl : j = a.length - i := by omega
          rw [outTo_row] at hO
          go_wp2
          exact ⟨⟨i + 1, by omega, by go_num, hO, hC⟩, by simp [intOf]; omega⟩
    · obtain rfl : i = a.length := by omega
      rw [outTo_all] at hO
      have hCw : Chg lo hi w wr := (Chg.of_below ⟨B0.os, B0.tape, B0.output, B0.size, B0.block⟩).trans hC
      go_wp2
      exact bodyPost_end (v := .tuple #[]) (by simp [results, Tryz.results93, go_sem]) rfl ⟨rfl, hO, hCw⟩

end Go.Proofs.YteijannfbafdpaaGreatDoor
