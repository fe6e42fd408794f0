/- Series: the reference's sums, products and compositions. -/
import Derived.Test.YtflebfmkgmhccaaSerA
import Derived.Test.YtflebfmkgmhccaaArith
import Derived.StillTailTactics
import Derived.Deep.DeepCutAuto
set_option linter.unusedSimpArgs false
set_option linter.unusedVariables false
namespace Go.Proofs.Ytflebfmkgmhccaa
open Go.RowKit

set_option maxHeartbeats 400000 in
theorem l02Make_c (m : Int) (o : Option Addr) (n c : Nat) (w : World) :
    Calls Try.prog 67 #[.int .i64 m, .slice o n c] w fun e w' => e = .returned (.agg #[.int .i64 m, .slice o n c]) ∧ Below w.heap.size w w' := by
  go_enter Try.func67, Try.ntmps67
  go_wp2
  exact bodyPost_ret (v := .agg #[.int .i64 m, .slice o n c]) (by simp [results, Try.results67, go_sem]) rfl ⟨rfl, (by (repeat (first | exact Below.refl _ _ | (refine Below.setCell ?_ (by first | (simp; done) | (simp; omega) | omega) _) | (refine Below.alloc ?_ (by first | (simp; done) | (simp; omega) | omega) _) | (refine below_drewN ?_ _) | (refine Below.drew ?_))))⟩


set_option maxHeartbeats 1000000 in
set_option maxRecDepth 100000 in
theorem l02Add_c (m : Int) (v u : Value) (xs ys : List Int) (w : World) (hv : RdI w v xs) (hu : RdI w u ys) (hl : xs.length ≤ ys.length) (hn : xs.length ≤ 1048576) (hm : 2 ≤ m) (hm' : m ≤ 1000000000000)
    (hx : ∀ x ∈ xs, 0 ≤ x ∧ x < m) (hy : ∀ x ∈ ys, 0 ≤ x ∧ x < m) :
    Calls Try.prog 116 #[.int .i64 m, v, u] w fun e w' => ∃ v', e = .returned v' ∧ OwI w' w.heap.size v' (addL m xs.length xs ys) ∧ Below w.heap.size w w' := by
  obtain ⟨o, c, rfl, hmx, -⟩ := id hv
  obtain ⟨o', c', rfl, hmy, -⟩ := id hu
  have hml := hmx.1
  unfold maxLen at hmx hmy
  have m0 : (m == 0) = false := by simp; omega
  have m1 : ¬ m = 0 := by omega
  go_enter Try.func116, Try.ntmps116
  go_wp2_with fail
  have O1 := OwI.lit w [] (by decide)
  have B1 : Below w.heap.size w (w.alloc (.cells #[] 2)) := (by (repeat (first | exact Below.refl _ _ | (refine Below.setCell ?_ (by first | (simp; done) | (simp; omega) | omega) _) | (refine Below.alloc ?_ (by first | (simp; done) | (simp; omega) | omega) _) | (refine below_drewN ?_ _) | (refine Below.drew ?_))))
  simp at O1
  generalize w.alloc (.cells #[] 2) = w1 at O1 B1 ⊢
  go_loopw [7, 8] (fun s i wr => ∃ k : Nat, k ≤ xs.length ∧ i = .int .i64 k ∧ OwI wr w.heap.size s (mk k (fun j => (at0 xs j + at0 ys j) % m)) ∧ Below w.heap.size w wr) (fun _ i _ => xs.length - (intOf i).toNat)
  case atStart => exact ⟨0, Nat.zero_le _, rfl, O1, B1⟩
  case round =>
    obtain ⟨k, hk, rfl, hO, hB⟩ := hrel
    obtain ⟨ov, cv, rfl⟩ := hO.shapeN (n := k) (mk_len _ _)
    by_cases hlt : k < xs.length
    · obtain ⟨bx, fx, rfl, -⟩ := hv.cells (by omega)
      obtain ⟨by', fy, rfl, -⟩ := hu.cells (by omega)
      have cx := (hv.below hB (Nat.le_refl _)).cell0 (some_at0 hlt)
      have cy := (hu.below hB (Nat.le_refl _)).cell0 (some_at0 (show k < ys.length by omega))
      have hxk := at0_range (by omega) hx k
      have hyk := at0_range (by omega) hy k
      have hMod := mod_lt' (a := at0 xs k + at0 ys k) (show 0 < m by omega)
      have HS := Lib.hid (mk_snoc k (fun j => (at0 xs j + at0 ys j) % m))
      have hBs := hB.size
      have i0 : (0 : Int) ≤ (k : Int) := by omega
      have i1 : (k : Int) < (xs.length : Int) := by omega
      have i2 : (k : Int) < (ys.length : Int) := by omega
      go_wp2_with fail
      have e1 : IntKind.i64.wrap (at0 xs k + at0 ys k) = at0 xs k + at0 ys k := IntWalk.i64_in _ (by omega)
      have e2 : (at0 xs k + at0 ys k).tmod m = (at0 xs k + at0 ys k) % m := Int.tmod_eq_emod_of_nonneg (by omega)
      go_region_held3 (fun w' => w'.cell? ⟨bx, fx + k, none⟩ = some (.int .i64 (at0 xs k)) ∧ w'.cell? ⟨by', fy + k, none⟩ = some (.int .i64 (at0 ys k))) (go_keep)
        ((refine stI wr rfl _ _ rfl w.heap.size (.slice ov k cv) _ rfl hO _ rfl (by rw [mk_len]; omega) (by omega) ?_; intro v' w4 hO3 hb3; have cx2 := (hv.below (hB.trans hb3) (Nat.le_refl _)).cell0 (some_at0 hlt); have cy2 := (hu.below (hB.trans hb3) (Nat.le_refl _)).cell0 (some_at0 (show k < ys.length by omega))))
      rw [← HS.out] at hO3
      go_wp2
      exact ⟨⟨k + 1, by omega, by go_num, hO3, hB.trans hb3⟩, by simp [intOf]; omega⟩
    · obtain rfl : k = xs.length := by omega
      go_wp2
      go_ret
      exact ⟨_, rfl, hO, hB⟩

set_option maxHeartbeats 2000000 in
set_option maxRecDepth 100000 in
theorem l02Times_c (m d : Int) (n : Nat) (v u : Value) (xs ys : List Int) (w : World) (hd : d = (n : Int) - 1) (hv : RdI w v xs) (hu : RdI w u ys) (h1 : 1 ≤ n) (hn : n ≤ 1048576) (hm : 2 ≤ m) (hm' : m ≤ 3000000000)
    (hx : ∀ x ∈ xs, 0 ≤ x ∧ x < m) (hy : ∀ x ∈ ys, 0 ≤ x ∧ x < m) :
    Calls Try.prog 118 #[.int .i64 m, v, u, .int .i64 d] w fun e w' => ∃ v', e = .returned v' ∧ OwI w' w.heap.size v' (timesL m n xs ys) ∧ Below w.heap.size w w' := by
  subst hd
  obtain ⟨o, c, rfl, hmx, -⟩ := id hv
  obtain ⟨o', c', rfl, hmy, -⟩ := id hu
  unfold maxLen at hmx hmy
  have m0 : (m == 0) = false := by simp; omega
  have m1 : ¬ m = 0 := by omega
  go_enter Try.func118, Try.ntmps118
  go_wp2_with (at_make; refine mkI _ rfl _ _ rfl _ _ _ n rfl rfl (by omega) (by omega) ?_; intro w1 hown hb hs1)
  rw [tmS_0 m _ xs ys] at hown
  have hz : w.heap.size < w1.heap.size := by omega
  clear hs1
  go_loopw [10] (fun i wr => ∃ k : Nat, k ≤ n ∧ i = .int .i64 k ∧ OwI wr w.heap.size (.slice (some ⟨w.heap.size, 0, none⟩) n n) (tmS m n xs ys k 0) ∧ Below w.heap.size w wr) (fun i _ => n - (intOf i).toNat)
  case atStart => exact ⟨0, Nat.zero_le _, rfl, hown, hb⟩
  case round =>
    obtain ⟨k, hk, rfl, hO, hB⟩ := hrel
    obtain ⟨wo, rfl⟩ : ∃ wo : World, wo = wr := ⟨_, rfl⟩
    by_cases hlt : k < xs.length ∧ k < n
    · obtain ⟨hlt, hkn⟩ := hlt
      obtain ⟨bx, fx, rfl, -⟩ := hv.cells (by omega)
      have hxk := at0_range (by omega) hx k
      have i0 : (0 : Int) ≤ (k : Int) := by omega
      have i1 : (k : Int) < (xs.length : Int) := by omega
      have i2 : (k : Int) ≤ (n : Int) - 1 := by omega
      go_wp2_with fail
      go_loopw [11] (fun i w2 => ∃ j : Nat, j ≤ n - k ∧ i = .int .i64 j ∧ OwI w2 w.heap.size (.slice (some ⟨w.heap.size, 0, none⟩) n n) (tmS m n xs ys k j) ∧ Below w.heap.size w w2) (fun i _ => n - k - (intOf i).toNat)
      case atStart => exact ⟨0, Nat.zero_le _, rfl, hO, hB⟩
      case round =>
        obtain ⟨j, hj, rfl, hO2, hB2⟩ := hrel
        have cx := (hv.below hB2 (Nat.le_refl _)).cell0 (some_at0 hlt)
        by_cases hjl : j < ys.length ∧ k + j < n ∧ ¬ at0 xs k = 0
        · obtain ⟨hjl, hkj, hne⟩ := hjl
          have hne' : (at0 xs k != 0) = true := by simpa using hne
          obtain ⟨by', fy, rfl, -⟩ := hu.cells (by omega)
          have cy := (hu.below hB2 (Nat.le_refl _)).cell0 (some_at0 hjl)
          have hyk := at0_range (by omega) hy j
          have hc0 := hO2.cell (k := k + j) (mk_get hkj)
          have hf0 := hO2.fz (k + j)
          obtain ⟨hM0, hM1⟩ := prod_fits hxk.1 hyk.1 hxk.2 hyk.2 hm'
          have hC := mod_lt' (a := convP (at0 xs) (at0 ys) k j (k + j)) (show 0 < m by omega)
          have hMod := mod_lt' (a := convP (at0 xs) (at0 ys) k j (k + j) % m + at0 xs k * at0 ys j) (show 0 < m by omega)
          have Hn := Lib.hid hO2
          clear hO2
          have j0 : (0 : Int) ≤ (j : Int) := by omega
          have j1 : (j : Int) < (ys.length : Int) := by omega
          have j2 : (0 : Int) ≤ (k : Int) + (j : Int) := by omega
          have j3 : (k : Int) + (j : Int) < (n : Int) := by omega
          have j5 : (k : Int) + (j : Int) ≤ (n : Int) - 1 := by omega
          have j4 : ((k : Int) + (j : Int)).toNat = k + j := by omega
          have Hne := Lib.hid hne
          clear hne
          go_wp2_with fail
          have e0 : IntKind.i64.wrap ((k : Int) + (j : Int)) = (k : Int) + (j : Int) := IntWalk.i64_in _ (by omega)
          have e3 : IntKind.i64.wrap (at0 xs k * at0 ys j) = at0 xs k * at0 ys j := IntWalk.i64_in _ (by omega)
          have e1 : IntKind.i64.wrap (convP (at0 xs) (at0 ys) k j (k + j) % m + at0 xs k * at0 ys j) = convP (at0 xs) (at0 ys) k j (k + j) % m + at0 xs k * at0 ys j := IntWalk.i64_in _ (by omega)
          have e2 : (convP (at0 xs) (at0 ys) k j (k + j) % m + at0 xs k * at0 ys j).tmod m = (convP (at0 xs) (at0 ys) k j (k + j) % m + at0 xs k * at0 ys j) % m := Int.tmod_eq_emod_of_nonneg (by omega)
          go_still_tail 23, (by kernel_rfl)
          change wpList _ _ _ _ _ wr.drew
          go_wp2
          have h2 := OwI.put Hn.out (k + j) ((convP (at0 xs) (at0 ys) k j (k + j) + at0 xs k * at0 ys j) % m)
          rw [tmS_set2 rfl rfl] at h2
          exact ⟨⟨j + 1, by omega, by go_num, h2, (below_put hB2 (Nat.le_refl _) _).drew⟩, by simp [intOf]; omega⟩
        · have hrow : tmS m n xs ys k j = tmS m n xs ys (k + 1) 0 := tmS_row (by
            by_cases h1 : j < ys.length
            · by_cases h2 : k + j < n
              · exact .inr (.inr (Classical.byContradiction fun h3 => hjl ⟨h1, h2, h3⟩))
              · exact .inl (by omega)
            · exact .inr (.inl (by omega)))
          rw [hrow] at hO2
          clear hrow
          have i3 : ((k : Int) + (j : Int)) ≤ 2097152 := by omega
          by_cases h1 : j < ys.length
          · by_cases h2 : k + j < n
            · have h3 : at0 xs k = 0 := Classical.byContradiction fun h3 => hjl ⟨h1, h2, h3⟩
              have h3' : (at0 xs k != 0) = false := by simpa using h3
              have j5 : (k : Int) + (j : Int) ≤ (n : Int) - 1 := by omega
              clear hjl h3
              go_wp2
              exact ⟨⟨k + 1, by omega, by go_num, hO2, hB2⟩, by simp [intOf]; omega⟩
            · have j5 : ¬ (k : Int) + (j : Int) ≤ (n : Int) - 1 := by omega
              clear hjl
              go_wp2
              exact ⟨⟨k + 1, by omega, by go_num, hO2, hB2⟩, by simp [intOf]; omega⟩
          · clear hjl
            go_wp2
            exact ⟨⟨k + 1, by omega, by go_num, hO2, hB2⟩, by simp [intOf]; omega⟩
    · rw [tmS_all (by omega)] at hO
      by_cases h1 : k < xs.length
      · have h2 : ¬ (k : Int) ≤ (n : Int) - 1 := by omega
        clear hlt
        go_wp2
        go_ret
        exact ⟨_, rfl, hO, hB⟩
      · clear hlt
        go_wp2
        go_ret
        exact ⟨_, rfl, hO, hB⟩

end Go.Proofs.Ytflebfmkgmhccaa
