/- Inverses, reversions and integrals of series: the reference's functions, and the program's integral. -/
import Derived.Test.YtdnkadlondediaaSRev
import Derived.Test.YtdnkadlondediaaSerQ
set_option linter.unusedSimpArgs false
set_option linter.unusedVariables false
namespace Go.Proofs.Ytdnkadlondediaa
open Go.RowKit

set_option maxHeartbeats 4000000 in
set_option maxRecDepth 100000 in
theorem l02Reverse_c (m d : Int) (n : Nat) (v : Value) (xs : List Int) (w : World) (hd : d + 1 = (n : Int)) (hv : RdI w v xs) (hl : xs.length = n) (h1 : 2 ≤ n) (hn : n ≤ 1000) (hm : 2 ≤ m) (hm' : m ≤ 10000) (hx : ∀ x ∈ xs, 0 ≤ x ∧ x < m) :
    Calls Try.prog 67 #[.int .i64 m, v, .int .i64 d] w fun e w' => ∃ v', e = .returned v' ∧ OwI w' w.heap.size v' (revL m n xs) ∧ Below w.heap.size w w' := by
  subst hl
  obtain ⟨o, c, rfl, hmx, -⟩ := id hv
  unfold maxLen at hmx
  obtain ⟨bx, fx, rfl, hcx⟩ := hv.cells (by omega)
  have cx : w.cell? ⟨bx, fx + 1, none⟩ = some (.int .i64 (at0 xs 1)) := hcx 1 _ (some_at0 (by omega))
  have lx := cell_lt cx
  have hxr := at0_range (by omega) hx 1
  obtain ⟨u, hu⟩ : ∃ u, u = invM m (at0 xs 1) := ⟨_, rfl⟩
  have hur : 0 ≤ u ∧ u < m := by rw [hu]; exact invM_range (by omega) _
  have HU := Lib.hid hu
  clear hcx hu
  have i1 : (1 : Int) < (xs.length : Int) := by omega
  have i2 : 1 < xs.length := by omega
  go_enter Try.func67, Try.ntmps67
  go_wp2_with (first | (at_make; go_loud (refine mkI _ rfl _ _ rfl _ _ _ xs.length rfl rfl rfl (by omega) ?_; intro w1 hown hb hs1; have cx1 := keep_cell hb (Nat.le_refl _) cx; have hc0 := hown.cell (k := 1) (rep_get xs.length 1 0 (by omega)); have hf0 := hown.fz 1; have Hown := Lib.hid hown; clear hown; have Hs1 := Lib.hid hs1; clear hs1)) | (go_at_call 125; refine (l01Inv_c m (at0 xs 1) _ hm (by omega) (by omega) (by omega)).mono ?_; rw [← HU.out]; rintro e w' ⟨rfl, rfl⟩))
  have hOz := Hown.out.put 1 u
  have hbz := below_put hb (g := w.heap.size) (k := 1) (Nat.le_refl _) (.int .i64 u)
  rw [HU.out, rep_set1, ← HU.out] at hOz
  clear hc0 hf0 Hown cx1 Hs1 hb
  generalize w1.setCell ⟨w.heap.size, 1, none⟩ (.int .i64 u) = w2 at hOz hbz ⊢
  go_loopw [9, 10] (fun i _ wr => ∃ k : Nat, k + 2 ≤ xs.length ∧ i = .int .i64 ((k : Int) + 2) ∧ OwI wr w.heap.size (.slice (some ⟨w.heap.size, 0, none⟩) xs.length xs.length) (revTo m xs.length xs (k + 1)) ∧ Below w.heap.size w wr) (fun i _ _ => xs.length - (intOf i).toNat)
  case atStart => exact ⟨0, by omega, by go_num, hOz, hbz⟩
  case round =>
    clear hOz hbz
    obtain ⟨k, hk, rfl, hO, hB⟩ := hrel
    have hBs := hB.size
    by_cases hlt : k + 2 < xs.length
    · have i3 : (0 : Int) ≤ (k : Int) + 2 := by omega
      have i4 : (k : Int) + 2 ≤ d := by omega
      have i5 : (k : Int) + 2 < (xs.length : Int) := by omega
      have i6 : ((k : Int) + 2).toNat = k + 2 := by omega
      have i7 : (k : Int) + 2 < ((k + 3 : Nat) : Int) := by omega
      have HS := Lib.hid (rev_step (m := m) (show 0 < m by omega) (n := xs.length) (k := k) (a := xs) hlt)
      have HN := Lib.hid (show (revTo m xs.length xs (k + 1)).set (k + 2) ((-(at0 (horn m xs.length (revTo m xs.length xs (k + 1)) xs) (k + 2)) * u) % m) = revTo m xs.length xs (k + 1 + 1) by rw [HU.out]; rfl)
      have HLl := Lib.hid (revTo_len m xs.length xs (k + 1))
      have HRl := Lib.hid (revTo_range (m := m) (show 0 < m by omega) xs.length xs (k + 1))
      rw [← HU.out] at HS
      obtain ⟨q, hq⟩ : ∃ q, q = horn m (k + 3) (revTo m xs.length xs (k + 1)) (xs.take (k + 3)) := ⟨_, rfl⟩
      have HQ := Lib.hid hq
      have hql : q.length = k + 3 := by rw [hq]; exact horn_len _ _ _ _
      have hqr : 0 ≤ at0 q (k + 2) ∧ at0 q (k + 2) < m := at0_range (by omega) (by rw [hq]; exact horn_range (by omega)) _
      rw [← hq] at HS
      have HN2 := Lib.hid (show (revTo m xs.length xs (k + 1)).set (k + 2) ((m - at0 q (k + 2)) * u % m) = revTo m xs.length xs (k + 1 + 1) by rw [HS.out]; exact HN.out)
      clear hq HN HS
      have m0 : (m == 0) = false := by simp; omega
      have m1 : ¬ m = 0 := by omega
      have hp := Int.mul_nonneg (show 0 ≤ m - at0 q (k + 2) by omega) hur.1
      have hp2 : (m - at0 q (k + 2)) * u ≤ 10000 * 10000 := Int.mul_le_mul (by omega) (by omega) hur.1 (by omega)
      have e1 : IntKind.i64.wrap (m - at0 q (k + 2)) = m - at0 q (k + 2) := IntWalk.i64_in _ (by omega)
      have e2 : IntKind.i64.wrap ((m - at0 q (k + 2)) * u) = (m - at0 q (k + 2)) * u := IntWalk.i64_in _ (by omega)
      have e3 : ((m - at0 q (k + 2)) * u).tmod m = (m - at0 q (k + 2)) * u % m := Int.tmod_eq_emod_of_nonneg (by omega)
      go_wp2_with (go_at_call 66; refine (l02Compose_c m _ (k + 3) _ _ xs (revTo m xs.length xs (k + 1)) _ (by omega) (hv.below hB (Nat.le_refl _)) hO.rd (by omega) (by omega) (by omega) hm hm' hx HRl.out).mono ?_; rw [← HQ.out]; rintro e w3 ⟨vp, rfl, hop, hb3⟩; obtain ⟨op, cp, rfl⟩ := hop.shapeN (n := k + 3) hql; obtain ⟨gp, rfl, hgp, hgp'⟩ := hop.row (by omega); have hcv := hop.cell (k := k + 2) (some_at0 (show k + 2 < q.length by omega)); have hO3 := hO.below hb3; have hB3 := hB.trans (hb3.mono hBs); have hc9 := hO3.cell (k := k + 2) (some_at0 (show k + 2 < (revTo m xs.length xs (k + 1)).length by rw [HLl.out]; omega)); have hf9 := hO3.fz (k + 2); have Hn := Lib.hid hO3; clear hO3 hop)
      have hOn := Hn.out.put (k + 2) ((m - at0 q (k + 2)) * u % m)
      rw [HN2.out] at hOn
      have hbn := below_put hB3 (g := w.heap.size) (k := k + 2) (Nat.le_refl _) (.int .i64 ((m - at0 q (k + 2)) * u % m))
      exact ⟨⟨k + 1, by omega, by go_num, by first | exact hOn | exact hOn.drewN 1, by first | exact hbn | exact hbn.drew⟩, by simp [intOf]; omega⟩
    · have hk' : xs.length = k + 2 := by omega
      rw [revP_end hk'] at hO
      have i1 : ¬ (k : Int) + 2 ≤ d := by omega
      clear hk'
      go_wp2
      go_ret
      exact ⟨_, rfl, hO, hB⟩

set_option maxHeartbeats 4000000 in
set_option maxRecDepth 100000 in
theorem l02Inverse_c (m d : Int) (n : Nat) (v : Value) (xs : List Int) (w : World) (hd : d + 1 = (n : Int)) (hv : RdI w v xs) (hl : xs.length = n) (h1 : 1 ≤ n) (hn : n ≤ 1000) (hm : 2 ≤ m) (hm' : m ≤ 10000) (hx : ∀ x ∈ xs, 0 ≤ x ∧ x < m) :
    Calls Try.prog 123 #[.int .i64 m, v, .int .i64 d] w fun e w' => ∃ v', e = .returned v' ∧ OwI w' w.heap.size v' (invS m n xs) ∧ Below w.heap.size w w' := by
  subst hl
  obtain ⟨o, c, rfl, hmx, -⟩ := id hv
  unfold maxLen at hmx
  obtain ⟨bx, fx, rfl, hcx⟩ := hv.cells (by omega)
  have cx : w.cell? ⟨bx, fx, none⟩ = some (.int .i64 (at0 xs 0)) := hcx 0 _ (some_at0 (by omega))
  have hxr := at0_range (by omega) hx 0
  obtain ⟨u, hu⟩ : ∃ u, u = invM m (at0 xs 0) := ⟨_, rfl⟩
  have hur : 0 ≤ u ∧ u < m := by rw [hu]; exact invM_range (by omega) _
  have HU := Lib.hid hu
  clear hcx hu
  have i0 : (0 : Int) < (xs.length : Int) := by omega
  have i2 : 0 < xs.length := by omega
  go_enter Try.func123, Try.ntmps123
  go_wp2_with (go_at_call 125; refine (l01Inv_c m (at0 xs 0) _ hm (by omega) (by omega) (by omega)).mono ?_; rw [← HU.out]; rintro e w' ⟨rfl, rfl⟩)
  have O1 := OwI.lit w [u] (by simp [maxLen])
  simp at O1
  have HG0 := Lib.hid (show [u] = invG m xs 0 by rw [HU.out]; rfl)
  rw [HG0.out] at O1
  have B1 : Below w.heap.size w (w.alloc (.cells #[.int .i64 u] 2)) := (by (repeat (first | exact Below.refl _ _ | (refine Below.setCell ?_ (by first | (simp; done) | (simp; omega) | omega) _) | (refine Below.alloc ?_ (by first | (simp; done) | (simp; omega) | omega) _) | (refine below_drewN ?_ _) | (refine Below.drew ?_))))
  generalize w.alloc (.cells #[.int .i64 u] 2) = w1 at O1 B1 ⊢
  go_loopw [8, 9, 10, 11] (fun so i _ _ wr => ∃ (k : Nat) (ov : Option Addr) (cv : Nat), k + 1 ≤ xs.length ∧ i = .int .i64 ((k : Int) + 1) ∧ so = .slice ov (k + 1) cv ∧ OwI wr w.heap.size (.slice ov (k + 1) cv) (invG m xs k) ∧ Below w.heap.size w wr) (fun _ i _ _ _ => xs.length - (intOf i).toNat)
  case atStart => exact ⟨0, _, _, by omega, by go_num, rfl, O1, B1⟩
  case round =>
    clear O1 B1
    obtain ⟨k, ov, cv, hk, rfl, rfl, hO, hB⟩ := hrel
    have hBs := hB.size
    have HLg := Lib.hid (invG_len m xs k)
    by_cases hlt : k + 1 < xs.length
    · have i4 : (k : Int) + 1 ≤ d := by omega
      obtain ⟨gv, rfl, hgv, hgv'⟩ := hO.row (by omega)
      have hvr := hv.below hB (Nat.le_refl _)
      go_wp2_with fail
      go_loopw [10, 11] (fun s i w2 => ∃ j : Nat, j ≤ k + 1 ∧ s = .int .i64 (sumTo m xs (invG m xs k) (k + 1) j) ∧ i = .int .i64 ((j : Int) + 1) ∧ ∃ e, w2 = wr.drewN e) (fun _ i _ => k + 2 - (intOf i).toNat)
      case atStart => exact ⟨0, by omega, by simp [sumTo, sumN], by go_num, 0, rfl⟩
      case round =>
        obtain ⟨j, hj, rfl, rfl, e, rfl⟩ := hrel
        by_cases hjl : j < k + 1
        · have i5 : (j : Int) + 1 ≤ (k : Int) + 1 := by omega
          have i6 : (j : Int) + 1 < (xs.length : Int) := by omega
          have i7 : (0 : Int) ≤ (j : Int) + 1 := by omega
          have i8 : ((j : Int) + 1).toNat = j + 1 := by omega
          have cj := hvr.cell0 (some_at0 (show j + 1 < xs.length by omega))
          have cg := hO.cell (k := k + 1 - (j + 1)) (some_at0 (show k + 1 - (j + 1) < (invG m xs k).length by rw [HLg.out]; omega))
          have hxj := at0_range (by omega) hx (j + 1)
          have hgj := at0_range (by omega) (invG_range (m := m) (show 0 < m by omega) xs k) (k + 1 - (j + 1))
          have hsr := sumTo_range (show 0 < m by omega) xs (invG m xs k) (k + 1) j
          have HS := Lib.hid (sumTo_step (m := m) (a := xs) (b := invG m xs k) (n := k + 1) (i := j))
          obtain ⟨p, hp0⟩ : ∃ p, p = k + 1 - (j + 1) := ⟨_, rfl⟩
          rw [← hp0] at cg hgj HS
          have d0 : (k : Int) + 1 - ((j : Int) + 1) = (p : Int) := by omega
          have d1 : (0 : Int) ≤ (p : Int) := by omega
          have d2 : (p : Int) < ((k + 1 : Nat) : Int) := by omega
          have d3 : (p : Int) < (k : Int) + 1 := by omega
          have d4 : IntKind.i64.wrap (p : Int) = (p : Int) := IntWalk.i64_in _ (by omega)
          have HP := Lib.hid hp0
          clear hp0
          generalize at0 xs (j + 1) = x at cj hxj HS
          generalize at0 (invG m xs k) p = y at cg hgj HS
          generalize sumTo m xs (invG m xs k) (k + 1) j = s at hsr HS ⊢
          have hp := Int.mul_nonneg hxj.1 hgj.1
          have hp2 : x * y ≤ 10000 * 10000 := Int.mul_le_mul (by omega) (by omega) hgj.1 (by omega)
          have m0 : (m == 0) = false := by simp; omega
          have m1 : ¬ m = 0 := by omega
          have e1 : IntKind.i64.wrap (x * y) = x * y := IntWalk.i64_in _ (by omega)
          have e2 : IntKind.i64.wrap (s + x * y) = s + x * y := IntWalk.i64_in _ (by omega)
          have e3 : (s + x * y).tmod m = (s + x * y) % m := Int.tmod_eq_emod_of_nonneg (by omega)
          go_wp2_with fail
          go_quiet (fail)
          go_wp2
          exact ⟨⟨j + 1, by omega, by rw [← HS.out], by go_num, e + nq, by first | rfl | rw [World.drewN_drewN]⟩, by simp [intOf]; omega⟩
        · obtain rfl : j = k + 1 := by omega
          have i5 : ¬ ((k + 1 : Nat) : Int) + 1 ≤ (k : Int) + 1 := by omega
          have hsr := sumTo_range (show 0 < m by omega) xs (invG m xs k) (k + 1) (k + 1)
          have HS := Lib.hid (show invG m xs k ++ [(m - sumTo m xs (invG m xs k) (k + 1) (k + 1)) * u % m] = invG m xs (k + 1) by rw [HU.out, inv_step (Nat.le_refl _) (.inl rfl)]; rfl)
          generalize sumTo m xs (invG m xs k) (k + 1) (k + 1) = s at hsr HS ⊢
          have hp := Int.mul_nonneg (show 0 ≤ m - s by omega) hur.1
          have hp2 : (m - s) * u ≤ 10000 * 10000 := Int.mul_le_mul (by omega) (by omega) hur.1 (by omega)
          have m0 : (m == 0) = false := by simp; omega
          have m1 : ¬ m = 0 := by omega
          have e1 : IntKind.i64.wrap (m - s) = m - s := IntWalk.i64_in _ (by omega)
          have e2 : IntKind.i64.wrap ((m - s) * u) = (m - s) * u := IntWalk.i64_in _ (by omega)
          have e3 : ((m - s) * u).tmod m = (m - s) * u % m := Int.tmod_eq_emod_of_nonneg (by omega)
          have Hd : Below w.heap.size w (wr.drewN e) := (by (repeat (first | exact Below.refl _ _ | (refine Below.setCell ?_ (by first | (simp; done) | (simp; omega) | omega) _) | (refine Below.alloc ?_ (by first | (simp; done) | (simp; omega) | omega) _) | (refine below_drewN ?_ _) | (refine Below.drew ?_) | (refine Below.trans ?_ (Below.mono hB (by first | (simp; done) | (simp; omega) | omega))))))
          have HdO := hO.drewN e
          have Hds := Hd.size
          generalize wr.drewN e = w2 at Hd HdO Hds ⊢
          go_wp2_with (at_builtin; refine apI w2 rfl _ _ rfl w.heap.size (.slice (some ⟨gv, 0, none⟩) (k + 1) cv) (invG m xs k) rfl HdO ((m - s) * u % m) rfl (by rw [HLg.out]; omega) (by omega) ?_; intro v' w4 hO3 hgr hb3 hlt3; clear hgr)
          rw [HS.out] at hO3
          obtain ⟨o4, c4, rfl⟩ := hO3.shapeN (n := k + 1 + 1) (invG_len _ _ _)
          exact ⟨⟨k + 1, _, _, by omega, by go_num, rfl, hO3, Hd.trans (hb3.mono (Nat.le_refl _))⟩, by simp [intOf]; omega⟩
    · have hk' : k = xs.length - 1 := by omega
      have HI := Lib.hid (show invG m xs k = invS m xs.length xs by rw [hk']; rfl)
      have i4 : ¬ (k : Int) + 1 ≤ d := by omega
      rw [HI.out] at hO
      clear hk'
      go_wp2
      go_ret
      exact ⟨_, rfl, hO, hB⟩

set_option maxHeartbeats 2000000 in
set_option maxRecDepth 100000 in
theorem l02Integrate_c (m : Int) (v : Value) (xs : List Int) (w : World) (hv : RdI w v xs) (hn : xs.length ≤ 1000) (hm : 2 ≤ m) (hm' : m ≤ 10000) (hx : ∀ x ∈ xs, 0 ≤ x ∧ x < m) :
    Calls Try.prog 122 #[.int .i64 m, v] w fun e w' => ∃ v', e = .returned v' ∧ OwI w' w.heap.size v' (intL m xs) ∧ Below w.heap.size w w' := by
  obtain ⟨o, c, rfl, hmx, -⟩ := id hv
  unfold maxLen at hmx
  have m0 : (m == 0) = false := by simp; omega
  have m1 : ¬ m = 0 := by omega
  go_enter Try.func122, Try.ntmps122
  go_wp2_with fail
  have O1 := OwI.lit w [0] (by simp [maxLen])
  simp at O1
  have B1 : Below w.heap.size w (w.alloc (.cells #[.int .i64 0] 2)) := (by (repeat (first | exact Below.refl _ _ | (refine Below.setCell ?_ (by first | (simp; done) | (simp; omega) | omega) _) | (refine Below.alloc ?_ (by first | (simp; done) | (simp; omega) | omega) _) | (refine below_drewN ?_ _) | (refine Below.drew ?_))))
  generalize w.alloc (.cells #[.int .i64 0] 2) = w1 at O1 B1 ⊢
  go_loopw [5, 6] (fun so i wr => ∃ k : Nat, k ≤ xs.length ∧ i = .int .i64 k ∧ OwI wr w.heap.size so (intTo m xs k) ∧ Below w.heap.size w wr) (fun _ i _ => xs.length - (intOf i).toNat)
  case atStart => exact ⟨0, Nat.zero_le _, rfl, O1, B1⟩
  case round =>
    clear O1 B1
    obtain ⟨k, hk, rfl, hO, hB⟩ := hrel
    obtain ⟨ov, cv, rfl⟩ := hO.shapeN (n := k + 1) (intTo_len _ _ _)
    by_cases hlt : k < xs.length
    · obtain ⟨bx, fx, rfl, -⟩ := hv.cells (by omega)
      have cx := (hv.below hB (Nat.le_refl _)).cell0 (some_at0 hlt)
      have hxk := at0_range (by omega) hx k
      have HS := Lib.hid (intTo_snoc m xs k)
      have hur : 0 ≤ invM m ((k : Int) + 1) ∧ invM m ((k : Int) + 1) < m := invM_range (by omega) _
      have HC := Lib.hid (show intC m xs k = at0 xs k * invM m ((k : Int) + 1) % m from rfl)
      rw [HC.out] at HS
      have HLt := Lib.hid (intTo_len m xs k)
      generalize hu : invM m ((k : Int) + 1) = u at hur HS
      have HU := Lib.hid hu
      clear hu
      generalize intTo m xs k = l at hO HS HLt
      have hp := Int.mul_nonneg hxk.1 hur.1
      have hp2 : at0 xs k * u ≤ 10000 * 10000 := Int.mul_le_mul (by omega) (by omega) hur.1 (by omega)
      have hBs := hB.size
      have i0 : (0 : Int) ≤ (k : Int) := by omega
      have i1 : (k : Int) < (xs.length : Int) := by omega
      go_wp2_with fail
      have e0 : IntKind.i64.wrap ((k : Int) + 1) = (k : Int) + 1 := IntWalk.i64_in _ (by omega)
      have e1 : IntKind.i64.wrap (at0 xs k * u) = at0 xs k * u := IntWalk.i64_in _ (by omega)
      have e2 : (at0 xs k * u).tmod m = at0 xs k * u % m := Int.tmod_eq_emod_of_nonneg (by omega)
      go_region_held3 (fun w' => w'.cell? ⟨bx, fx + k, none⟩ = some (.int .i64 (at0 xs k))) (go_keep)
        (first
          | (go_at_call 125; refine (l01Inv_c m ((k : Int) + 1) _ hm (by omega) (by omega) (by omega)).mono ?_; rw [HU.out]; rintro e w' ⟨rfl, rfl⟩)
          | (refine stI wr rfl _ _ rfl w.heap.size (.slice ov (k + 1) cv) _ rfl hO _ rfl (by rw [HLt.out]; omega) (by omega) ?_; intro v' w4 hO3 hb3; have cx2 := (hv.below (hB.trans hb3) (Nat.le_refl _)).cell0 (some_at0 hlt)))
      rw [← HS.out] at hO3
      go_wp2
      exact ⟨⟨k + 1, by omega, by go_num, hO3, hB.trans hb3⟩, by simp [intOf]; omega⟩
    · obtain rfl : k = xs.length := by omega
      go_wp2
      go_ret
      exact ⟨_, rfl, hO, hB⟩

set_option maxHeartbeats 2000000 in
set_option maxRecDepth 100000 in
theorem integrated_c (m : Int) (v : Value) (xs : List Int) (w : World) (hv : RdI w v xs) (h1 : 1 ≤ xs.length) (hn : xs.length ≤ 1000) (hm : 2 ≤ m) (hm' : m ≤ 10000) (hx : ∀ x ∈ xs, 0 ≤ x ∧ x < m) :
    Calls Try.prog 132 #[.agg #[.int .i64 m, v]] w fun e w' => SVEnd w w' m (intL m xs) e := by
  obtain ⟨o, c, rfl, hmx, -⟩ := id hv
  have hml := hmx.1
  unfold maxLen at hmx
  have e0 : ((xs.length : Int) - 1) + 1 = (xs.length : Int) := by omega
  go_enter Try.func132, Try.ntmps132
  go_wp2_with fail
  (have X0 := ((RB2.mk1 w  (.int .i64 m) (.slice o xs.length c) 34).1).below (w' := ((w.alloc (.cells #[.int .i64 m, .slice o xs.length c] 34)).alloc (.cells #[.int .i64 0, .slice none 0 0] 34))) (by (repeat (first | exact Below.refl _ _ | (refine Below.setCell ?_ (by first | (simp; done) | (simp; omega) | omega) _) | (refine Below.alloc ?_ (by first | (simp; done) | (simp; omega) | omega) _) | (refine below_drewN ?_ _) | (refine Below.drew ?_)))) (Nat.le_refl _); have R0 := ((RB2.mk2 w (.cells #[.int .i64 m, .slice o xs.length c] 34) (.int .i64 0) (.slice none 0 0) 34)).below (w' := ((w.alloc (.cells #[.int .i64 m, .slice o xs.length c] 34)).alloc (.cells #[.int .i64 0, .slice none 0 0] 34))) (by (repeat (first | exact Below.refl _ _ | (refine Below.setCell ?_ (by first | (simp; done) | (simp; omega) | omega) _) | (refine Below.alloc ?_ (by first | (simp; done) | (simp; omega) | omega) _) | (refine below_drewN ?_ _) | (refine Below.drew ?_)))) (Nat.le_refl _); have B0 : Below w.heap.size w ((w.alloc (.cells #[.int .i64 m, .slice o xs.length c] 34)).alloc (.cells #[.int .i64 0, .slice none 0 0] 34)) := (by (repeat (first | exact Below.refl _ _ | (refine Below.setCell ?_ (by first | (simp; done) | (simp; omega) | omega) _) | (refine Below.alloc ?_ (by first | (simp; done) | (simp; omega) | omega) _) | (refine below_drewN ?_ _) | (refine Below.drew ?_)))); have hv0 := hv.below (w' := ((w.alloc (.cells #[.int .i64 m, .slice o xs.length c] 34)).alloc (.cells #[.int .i64 0, .slice none 0 0] 34))) (by (repeat (first | exact Below.refl _ _ | (refine Below.setCell ?_ (by first | (simp; done) | (simp; omega) | omega) _) | (refine Below.alloc ?_ (by first | (simp; done) | (simp; omega) | omega) _) | (refine below_drewN ?_ _) | (refine Below.drew ?_)))) (Nat.le_refl _); generalize (w.alloc (.cells #[.int .i64 m, .slice o xs.length c] 34)).alloc (.cells #[.int .i64 0, .slice none 0 0] 34) = w0 at X0 R0 B0 hv0 ⊢)
  have hzl : w.heap.size + 1 < w0.heap.size := R0.1.lt
  go_cut [3] (fun sb u => ∃ (wz : World) (b : Nat) (oz : Option Addr) (cz : Nat), wz = u ∧ sb = .pointer (some ⟨b, 0, none⟩) ∧ w0.heap.size ≤ b ∧ RB2 u b (.int .i64 m) (.slice oz (xs.length + 1) cz) ∧ OwI u w0.heap.size (.slice oz (xs.length + 1) cz) (List.replicate (xs.length + 1) 0) ∧ (∀ k, (Value.slice oz (xs.length + 1) cz).ownBlock = some k → k ≠ b) ∧ Below w0.heap.size w0 u)
  case first =>
    have hd0 : Below w0.heap.size w0 w0.drew := (Below.refl _ _).drew
    have hsd0 := hd0.size
    have hlb_X0 := X0.lt
    have e1 : IntKind.i64.wrap (xs.length : Int) = (xs.length : Int) := IntWalk.i64_in _ (by omega)
    obtain ⟨q0_X0_0, q0_X0_1⟩ := X0.below (Below.refl w0.heap.size w0) (Nat.le_refl _)
    have hne0_X0 : w0.heap.size ≠ w.heap.size := by omega
    go_region_held3 (fun w' => w'.cell? ⟨w.heap.size, 0, none⟩ = some (.int .i64 m) ∧ w'.cell? ⟨w.heap.size, 1, none⟩ = some (.slice o xs.length c)) (go_keep)
      (first
        | (go_at_call 112; refine (degreeS_c m o xs.length c _ hml).mono ?_; rintro e wd1 ⟨rfl, hbd1⟩; have hd1 : Below w0.heap.size w0 wd1 := (by (repeat (first | exact Below.refl _ _ | (refine Below.setCell ?_ (by first | (simp; done) | (simp; omega) | omega) _) | (refine Below.alloc ?_ (by first | (simp; done) | (simp; omega) | omega) _) | (refine below_drewN ?_ _) | (refine Below.drew ?_) | (refine Below.trans ?_ (Below.mono hbd1 (by first | (simp; done) | (simp; omega) | omega)))))); have hsd1 := hd1.size; have hsz1_ := hbd1.size; (try simp at hsz1_); obtain ⟨q1_X0_0, q1_X0_1⟩ := X0.below hd1 (Nat.le_refl _); have hne1_X0 : wd1.heap.size ≠ w.heap.size := (by omega); (try (have RZ := RZ.below hbd1 (Nat.le_refl _))); (try (have RZ := (show RB2 (w0.alloc (.cells #[.int .i64 0, .slice none 0 0] 34)).drew w0.heap.size (.int .i64 0) (.slice none 0 0) from RB2.mk1 w0 (.int .i64 0) (.slice none 0 0) _).below hbd1 (Nat.le_refl _))); (try (obtain ⟨⟨z1_0, z1_1⟩, zf1⟩ := id RZ)))
        | (go_at_call 95; refine (zero_c m (xs.length : Int) (xs.length + 1) _ (by omega) (by omega)).mono ?_; rintro e wd2 ⟨vz2, rfl, hod2, hbd2⟩; obtain ⟨oz, cz, rfl⟩ := hod2.shapeN (n := xs.length + 1) (by simp); have hd2 : Below w0.heap.size w0 wd2 := (by (repeat (first | exact Below.refl _ _ | (refine Below.setCell ?_ (by first | (simp; done) | (simp; omega) | omega) _) | (refine Below.alloc ?_ (by first | (simp; done) | (simp; omega) | omega) _) | (refine below_drewN ?_ _) | (refine Below.drew ?_) | (refine Below.trans ?_ (Below.mono hbd1 (by first | (simp; done) | (simp; omega) | omega))) | (refine Below.trans ?_ (Below.mono hbd2 (by first | (simp; done) | (simp; omega) | omega)))))); have hsd2 := hd2.size; have hsz2_ := hbd2.size; (try simp at hsz2_); obtain ⟨q2_X0_0, q2_X0_1⟩ := X0.below hd2 (Nat.le_refl _); have hne2_X0 : wd2.heap.size ≠ w.heap.size := (by omega); (try (have RZ := RZ.below hbd2 (Nat.le_refl _))); (try (have RZ := (show RB2 (wd1.alloc (.cells #[.int .i64 0, .slice none 0 0] 34)) wd1.heap.size (.int .i64 0) (.slice none 0 0) from RB2.mk1 wd1 (.int .i64 0) (.slice none 0 0) _).below hbd2 (Nat.le_refl _))); (try (obtain ⟨⟨z2_0, z2_1⟩, zf2⟩ := id RZ))))
    all_goals
      go_wp2_with fail
      go_meet
      have hL := hod2.lt
      refine ⟨_, _, oz, cz, rfl, rfl, ?_, ?_, ?_, ?_, ?_⟩
      · first | omega | (simp; done) | (simp; omega)
      · first | exact RB2.mk1 _ _ _ _ | exact RB2.put RZ _ _
      · first | exact (hod2.alloc _).mono (by first | (simp; done) | (simp; omega) | omega) | exact ((hod2.low (by first | (simp; done) | (simp; omega) | omega) _).low (by first | (simp; done) | (simp; omega) | omega) _).mono (by first | (simp; done) | (simp; omega) | omega)
      · intro k hk; have hq := hL k hk; first | omega | (simp at hq; omega)
      · (repeat (first | exact Below.refl _ _ | (refine Below.setCell ?_ (by first | (simp; done) | (simp; omega) | omega) _) | (refine Below.alloc ?_ (by first | (simp; done) | (simp; omega) | omega) _) | (refine below_drewN ?_ _) | (refine Below.drew ?_) | (refine Below.trans ?_ (Below.mono hbd1 (by first | (simp; done) | (simp; omega) | omega))) | (refine Below.trans ?_ (Below.mono hbd2 (by first | (simp; done) | (simp; omega) | omega)))))
  case rest =>
  obtain ⟨w1, b, oz, cz, rfl, rfl, hbW, O, how, hneb, hb⟩ := hcut
  (have X1 := X0.below hb (Nat.le_refl _); have R1 := R0.below hb (Nat.le_refl _); have hv1 := hv0.below hb (Nat.le_refl _); have B1 := B0.trans (hb.mono B0.size))
  rw [intP_0 m (xs.length + 1) xs] at how
  obtain ⟨g, rfl, hgl, hgl'⟩ := how.row (by omega)
  have hgb := hneb g rfl
  clear hneb
  obtain ⟨bx, fx, rfl, hcx⟩ := hv.cells h1
  clear hcx
  have B1s := B1.size
  obtain ⟨x0, x1⟩ := id X1
  go_wp2_with fail
  clear x0 x1
  go_loopw [15] (fun i wr => ∃ k : Nat, k ≤ xs.length ∧ i = .int .i64 k ∧ OwI wr w0.heap.size (.slice (some ⟨g, 0, none⟩) (xs.length + 1) cz) (intP m (xs.length + 1) xs k) ∧ w1.grownBy wr (some g)) (fun i _ => xs.length - (intOf i).toNat)
  case atStart => exact ⟨0, Nat.zero_le _, rfl, how, World.grownBy.refl _ _⟩
  case round =>
    obtain ⟨k, hk, rfl, hO, hg⟩ := hrel
    have Br := below_gr B1 hg (by omega) B1s
    by_cases hlt : k < xs.length
    · obtain ⟨x0, x1⟩ := X1.grown hg (by simp; omega)
      obtain ⟨⟨z0, z1⟩, zf⟩ := O.grown hg (by simp; omega)
      have cx := (hv.below Br (Nat.le_refl _)).cell0 (some_at0 hlt)
      have hxk := at0_range (by omega) hx k
      have hll := intP_len m (xs.length + 1) xs k
      have hc0 := hO.cell (k := k + 1) (some_at0 (show k + 1 < (intP m (xs.length + 1) xs k).length by omega))
      have hf0 := hO.fz (k + 1)
      have HS := Lib.hid (intP_set (m := m) (n := xs.length + 1) (a := xs) (i := k))
      have hur : 0 ≤ invM m (((k : Int) + 1) % m) ∧ invM m (((k : Int) + 1) % m) < m := invM_range (by omega) _
      have HC := Lib.hid (show intC m xs k = at0 xs k * invM m (((k : Int) + 1) % m) % m by rw [invM_mod]; rfl)
      rw [HC.out] at HS
      generalize hu : invM m (((k : Int) + 1) % m) = u at hur HS
      have HU := Lib.hid hu
      clear hu hll
      have Hn := Lib.hid hO
      clear hO
      have hkm := mod_lt' (a := (k : Int) + 1) (show 0 < m by omega)
      have m0 : (m == 0) = false := by simp; omega
      have m1 : ¬ m = 0 := by omega
      have hp := Int.mul_nonneg hxk.1 hur.1
      have hp2 : at0 xs k * u ≤ 10000 * 10000 := Int.mul_le_mul (by omega) (by omega) hur.1 (by omega)
      have i0 : (0 : Int) ≤ (k : Int) := by omega
      have i1 : (k : Int) < (xs.length : Int) := by omega
      have i2 : (0 : Int) ≤ (k : Int) + 1 := by omega
      have i3 : (k : Int) + 1 < ((xs.length + 1 : Nat) : Int) := by omega
      have i4 : ((k : Int) + 1).toNat = k + 1 := by omega
      have e1 : IntKind.i64.wrap ((k : Int) + 1) = (k : Int) + 1 := IntWalk.i64_in _ (by omega)
      have e2 : IntKind.i64.wrap (at0 xs k * u) = at0 xs k * u := IntWalk.i64_in _ (by omega)
      have e3 : (at0 xs k * u).tmod m = at0 xs k * u % m := Int.tmod_eq_emod_of_nonneg (by omega)
      go_wp2_with fail
      go_still_tail 18, (by kernel_rfl)
      still_call (stillC (mod_c ((k : Int) + 1) m _ (by omega) (by omega) (by omega) (by omega)))
      repeat still_step
      still_call (stillC ((inverse_c m (((k : Int) + 1) % m) _ hm (by omega) (by omega) (by omega)).mono (fun e w' h => by rw [HU.out] at h; exact h)))
      repeat still_step
      refine wpStill_nil ?_
      change wpList _ _ _ _ _ wr.drew
      have hOn := Hn.out.put (k + 1) (at0 xs k * u % m)
      rw [HS.out] at hOn
      go_wp2
      exact ⟨⟨k + 1, by omega, by go_num, by first | exact hOn | exact hOn.drewN 1, gr_drew (hg.trans (gr_put (World.grownBy.refl wr (some g)) (k + 1) (.int .i64 (at0 xs k * u % m))))⟩, by simp [intOf]; omega⟩
    · obtain rfl : k = xs.length := by omega
      rw [intP_all] at hO
      obtain ⟨⟨z0, z1⟩, zf⟩ := O.grown hg (by simp; omega)
      obtain ⟨⟨r0, r1⟩, rf⟩ := R1.grown hg (by simp; omega)
      go_wp2
      refine bodyPost_ret (v := .agg #[.int .i64 m, .slice (some ⟨g, 0, none⟩) (xs.length + 1) cz]) (by simp [results, Try.results132, go_sem, r0, r1]) rfl ⟨_, rfl, ?_, ?_⟩
      · exact ((hO.low (by first | (simp; done) | (simp; omega) | omega) _).low (by first | (simp; done) | (simp; omega) | omega) _).mono (by first | (simp; done) | (simp; omega) | omega)
      · (repeat (first | exact Below.refl _ _ | (refine Below.setCell ?_ (by first | (simp; done) | (simp; omega) | omega) _) | (refine Below.alloc ?_ (by first | (simp; done) | (simp; omega) | omega) _) | (refine below_drewN ?_ _) | (refine Below.drew ?_) | (refine Below.trans ?_ (Below.mono Br (by first | (simp; done) | (simp; omega) | omega)))))
end Go.Proofs.Ytdnkadlondediaa
