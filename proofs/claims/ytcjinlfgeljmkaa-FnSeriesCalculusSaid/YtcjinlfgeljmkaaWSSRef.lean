/- Lemmas of SRef. -/
import Derived.Test.YtcjinlfgeljmkaaWSSRev
import Derived.Test.YtcjinlfgeljmkaaWSSerQ
set_option linter.unusedSimpArgs false
set_option linter.unusedVariables false
namespace Go.Proofs.Ytcjinlfgeljmkaa
open Go.RowKit

set_option maxHeartbeats 2000000 in
set_option maxRecDepth 100000 in
theorem l02Integrate_c (m : Int) (v : Value) (xs : List Int) (w : World) (hv : RdI w v xs) (hn : xs.length ≤ 1000) (hm : 2 ≤ m) (hm' : m ≤ 10000) (hx : ∀ x ∈ xs, 0 ≤ x ∧ x < m) :
    Calls Try.prog 135 #[.int .i64 m, v] w fun e w' => ∃ v', e = .returned v' ∧ OwI w' w.heap.size v' (intL m xs) ∧ Below w.heap.size w w' := by
  obtain ⟨o, c, rfl, hmx, -⟩ := id hv
  unfold maxLen at hmx
  have m0 : (m == 0) = false := by simp; omega
  have m1 : ¬ m = 0 := by omega
  go_enter Try.func135, Try.ntmps135
  go_wp2_with fail
  have O1 := OwI.lit w [0] (by simp [maxLen])
  simp at O1
  have B1 : Below w.heap.size w (w.alloc (.cells #[.int .i64 0] 2)) := (by (repeat (first | exact Below.refl _ _ | (refine Below.setCell ?_ (by first | (simp; done) | (simp; omega) | omega) _) | (refine Below.alloc ?_ (by first | (simp; done) | (simp; omega) | omega) _) | (refine below_drewN ?_ _) | (refine Below.drew ?_))))
  generalize w.alloc (.cells #[.int .i64 0] 2) = w1 at O1 B1 ⊢
  go_loopw [5, 6] (fun so i wr => ∃ k : Nat, k ≤ xs.length ∧ i = .int .i64 k ∧ OwI wr w.heap.size so (intTo m xs k) ∧ Below w.heap.size w wr) (fun _ i _ => xs.length - (intOf i).toNat)
  case atStart => exact ⟨0, Nat.zero_le _, rfl, O1, B1⟩
  case round =>
    clear O1 B1
    obtain ⟨k, hk, rfl, hO, hB⟩ := hrel
    obtain ⟨ov, cv, rfl⟩ := hO.shapeN (n := k + 1) (intTo_len _ _ _)
    by_cases hlt : k < xs.length
    · obtain ⟨bx, fx, rfl, -⟩ := hv.cells (by omega)
      have cx := (hv.below hB (Nat.le_refl _)).cell0 (some_at0 hlt)
      have hxk := at0_range (by omega) hx k
      have HS := Lib.hid (intTo_snoc m xs k)
      have hur : 0 ≤ invM m ((k : Int) + 1) ∧ invM m ((k : Int) + 1) < m := invM_range (by omega) _
      have HC := Lib.hid (show intC m xs k = at0 xs k * invM m ((k : Int) + 1) % m from rfl)
      rw [HC.out] at HS
      have HLt := Lib.hid (intTo_len m xs k)
      generalize hu : invM m ((k : Int) + 1) = u at hur HS
      have HU := Lib.hid hu
      clear hu
      generalize intTo m xs k = l at hO HS HLt
      have hp := Int.mul_nonneg hxk.1 hur.1
      have hp2 : at0 xs k * u ≤ 10000 * 10000 := Int.mul_le_mul (by omega) (by omega) hur.1 (by omega)
      have hBs := hB.size
      have i0 : (0 : Int) ≤ (k : Int) := by omega
      have i1 : (k : Int) < (xs.length : Int) := by omega
      go_wp2_with fail
      have e0 : IntKind.i64.wrap ((k : Int) + 1) = (k : Int) + 1 := IntWalk.i64_in _ (by omega)
      have e1 : IntKind.i64.wrap (at0 xs k * u) = at0 xs k * u := IntWalk.i64_in _ (by omega)
      have e2 : (at0 xs k * u).tmod m = at0 xs k * u % m := Int.tmod_eq_emod_of_nonneg (by omega)
      go_region_held3 (fun w' => w'.cell? ⟨bx, fx + k, none⟩ = some (.int .i64 (at0 xs k))) (go_keep)
        (first
          | (go_at_call 210; refine (l01Inv_c m ((k : Int) + 1) _ hm (by omega) (by omega) (by omega)).mono ?_; rw [HU.out]; rintro e w' ⟨rfl, rfl⟩)
          | (refine stI wr rfl _ _ rfl w.heap.size (.slice ov (k + 1) cv) _ rfl hO _ rfl (by rw [HLt.out]; omega) (by omega) ?_; intro v' w4 hO3 hb3; have cx2 := (hv.below (hB.trans hb3) (Nat.le_refl _)).cell0 (some_at0 hlt)))
      rw [← HS.out] at hO3
      go_wp2
      exact ⟨⟨k + 1, by omega, by go_num, hO3, hB.trans hb3⟩, by simp [intOf]; omega⟩
    · obtain rfl : k = xs.length := by omega
      go_wp2
      go_ret
      exact ⟨_, rfl, hO, hB⟩

set_option maxHeartbeats 2000000 in
set_option maxRecDepth 100000 in
theorem integrated_c (m : Int) (v : Value) (xs : List Int) (w : World) (hv : RdI w v xs) (h1 : 1 ≤ xs.length) (hn : xs.length ≤ 1000) (hm : 2 ≤ m) (hm' : m ≤ 10000) (hx : ∀ x ∈ xs, 0 ≤ x ∧ x < m) :
    Calls Try.prog 133 #[.agg #[.int .i64 m, v]] w fun e w' => SVEnd w w' m (intL m xs) e := by
  obtain ⟨o, c, rfl, hmx, -⟩ := id hv
  have hml := hmx.1
  unfold maxLen at hmx
  have e0 : ((xs.length : Int) - 1) + 1 = (xs.length : Int) := by omega
  go_enter Try.func133, Try.ntmps133
  go_wp2_with fail
  (have X0 := ((RB2.mk1 w  (.int .i64 m) (.slice o xs.length c) 26).1).below (w' := ((w.alloc (.cells #[.int .i64 m, .slice o xs.length c] 26)).alloc (.cells #[.int .i64 0, .slice none 0 0] 26))) (by (repeat (first | exact Below.refl _ _ | (refine Below.setCell ?_ (by first | (simp; done) | (simp; omega) | omega) _) | (refine Below.alloc ?_ (by first | (simp; done) | (simp; omega) | omega) _) | (refine below_drewN ?_ _) | (refine Below.drew ?_)))) (Nat.le_refl _); have R0 := ((RB2.mk2 w (.cells #[.int .i64 m, .slice o xs.length c] 26) (.int .i64 0) (.slice none 0 0) 26)).below (w' := ((w.alloc (.cells #[.int .i64 m, .slice o xs.length c] 26)).alloc (.cells #[.int .i64 0, .slice none 0 0] 26))) (by (repeat (first | exact Below.refl _ _ | (refine Below.setCell ?_ (by first | (simp; done) | (simp; omega) | omega) _) | (refine Below.alloc ?_ (by first | (simp; done) | (simp; omega) | omega) _) | (refine below_drewN ?_ _) | (refine Below.drew ?_)))) (Nat.le_refl _); have B0 : Below w.heap.size w ((w.alloc (.cells #[.int .i64 m, .slice o xs.length c] 26)).alloc (.cells #[.int .i64 0, .slice none 0 0] 26)) := (by (repeat (first | exact Below.refl _ _ | (refine Below.setCell ?_ (by first | (simp; done) | (simp; omega) | omega) _) | (refine Below.alloc ?_ (by first | (simp; done) | (simp; omega) | omega) _) | (refine below_drewN ?_ _) | (refine Below.drew ?_)))); have hv0 := hv.below (w' := ((w.alloc (.cells #[.int .i64 m, .slice o xs.length c] 26)).alloc (.cells #[.int .i64 0, .slice none 0 0] 26))) (by (repeat (first | exact Below.refl _ _ | (refine Below.setCell ?_ (by first | (simp; done) | (simp; omega) | omega) _) | (refine Below.alloc ?_ (by first | (simp; done) | (simp; omega) | omega) _) | (refine below_drewN ?_ _) | (refine Below.drew ?_)))) (Nat.le_refl _); generalize (w.alloc (.cells #[.int .i64 m, .slice o xs.length c] 26)).alloc (.cells #[.int .i64 0, .slice none 0 0] 26) = w0 at X0 R0 B0 hv0 ⊢)
  have hzl : w.heap.size + 1 < w0.heap.size := R0.1.lt
  go_cut [3] (fun sb u => ∃ (wz : World) (b : Nat) (oz : Option Addr) (cz : Nat), wz = u ∧ sb = .pointer (some ⟨b, 0, none⟩) ∧ w0.heap.size ≤ b ∧ RB2 u b (.int .i64 m) (.slice oz (xs.length + 1) cz) ∧ OwI u w0.heap.size (.slice oz (xs.length + 1) cz) (List.replicate (xs.length + 1) 0) ∧ (∀ k, (Value.slice oz (xs.length + 1) cz).ownBlock = some k → k ≠ b) ∧ Below w0.heap.size w0 u)
  case first =>
    have hd0 : Below w0.heap.size w0 w0.drew := (Below.refl _ _).drew
    have hsd0 := hd0.size
    have hlb_X0 := X0.lt
    have e1 : IntKind.i64.wrap (xs.length : Int) = (xs.length : Int) := IntWalk.i64_in _ (by omega)
    obtain ⟨q0_X0_0, q0_X0_1⟩ := X0.below (Below.refl w0.heap.size w0) (Nat.le_refl _)
    have hne0_X0 : w0.heap.size ≠ w.heap.size := by omega
    go_region_held3 (fun w' => w'.cell? ⟨w.heap.size, 0, none⟩ = some (.int .i64 m) ∧ w'.cell? ⟨w.heap.size, 1, none⟩ = some (.slice o xs.length c)) (go_keep)
      (first
        | (go_at_call 108; refine (degreeS_c m o xs.length c _ hml).mono ?_; rintro e wd1 ⟨rfl, hbd1⟩; have hd1 : Below w0.heap.size w0 wd1 := (by (repeat (first | exact Below.refl _ _ | (refine Below.setCell ?_ (by first | (simp; done) | (simp; omega) | omega) _) | (refine Below.alloc ?_ (by first | (simp; done) | (simp; omega) | omega) _) | (refine below_drewN ?_ _) | (refine Below.drew ?_) | (refine Below.trans ?_ (Below.mono hbd1 (by first | (simp; done) | (simp; omega) | omega)))))); have hsd1 := hd1.size; have hsz1_ := hbd1.size; (try simp at hsz1_); obtain ⟨q1_X0_0, q1_X0_1⟩ := X0.below hd1 (Nat.le_refl _); have hne1_X0 : wd1.heap.size ≠ w.heap.size := (by omega); (try (have RZ := RZ.below hbd1 (Nat.le_refl _))); (try (have RZ := (show RB2 (w0.alloc (.cells #[.int .i64 0, .slice none 0 0] 26)).drew w0.heap.size (.int .i64 0) (.slice none 0 0) from RB2.mk1 w0 (.int .i64 0) (.slice none 0 0) _).below hbd1 (Nat.le_refl _))); (try (obtain ⟨⟨z1_0, z1_1⟩, zf1⟩ := id RZ)))
        | (go_at_call 204; refine (zero_c m (xs.length : Int) (xs.length + 1) _ (by omega) (by omega)).mono ?_; rintro e wd2 ⟨vz2, rfl, hod2, hbd2⟩; obtain ⟨oz, cz, rfl⟩ := hod2.shapeN (n := xs.length + 1) (by simp); have hd2 : Below w0.heap.size w0 wd2 := (by (repeat (first | exact Below.refl _ _ | (refine Below.setCell ?_ (by first | (simp; done) | (simp; omega) | omega) _) | (refine Below.alloc ?_ (by first | (simp; done) | (simp; omega) | omega) _) | (refine below_drewN ?_ _) | (refine Below.drew ?_) | (refine Below.trans ?_ (Below.mono hbd1 (by first | (simp; done) | (simp; omega) | omega))) | (refine Below.trans ?_ (Below.mono hbd2 (by first | (simp; done) | (simp; omega) | omega)))))); have hsd2 := hd2.size; have hsz2_ := hbd2.size; (try simp at hsz2_); obtain ⟨q2_X0_0, q2_X0_1⟩ := X0.below hd2 (Nat.le_refl _); have hne2_X0 : wd2.heap.size ≠ w.heap.size := (by omega); (try (have RZ := RZ.below hbd2 (Nat.le_refl _))); (try (have RZ := (show RB2 (wd1.alloc (.cells #[.int .i64 0, .slice none 0 0] 26)) wd1.heap.size (.int .i64 0) (.slice none 0 0) from RB2.mk1 wd1 (.int .i64 0) (.slice none 0 0) _).below hbd2 (Nat.le_refl _))); (try (obtain ⟨⟨z2_0, z2_1⟩, zf2⟩ := id RZ))))
    all_goals
      go_wp2_with fail
      go_meet
      have hL := hod2.lt
      refine ⟨_, _, oz, cz, rfl, rfl, ?_, ?_, ?_, ?_, ?_⟩
      · first | omega | (simp; done) | (simp; omega)
      · first | exact RB2.mk1 _ _ _ _ | exact RB2.put RZ _ _
      · first | exact (hod2.alloc _).mono (by first | (simp; done) | (simp; omega) | omega) | exact ((hod2.low (by first | (simp; done) | (simp; omega) | omega) _).low (by first | (simp; done) | (simp; omega) | omega) _).mono (by first | (simp; done) | (simp; omega) | omega)
      · intro k hk; have hq := hL k hk; first | omega | (simp at hq; omega)
      · (repeat (first | exact Below.refl _ _ | (refine Below.setCell ?_ (by first | (simp; done) | (simp; omega) | omega) _) | (refine Below.alloc ?_ (by first | (simp; done) | (simp; omega) | omega) _) | (refine below_drewN ?_ _) | (refine Below.drew ?_) | (refine Below.trans ?_ (Below.mono hbd1 (by first | (simp; done) | (simp; omega) | omega))) | (refine Below.trans ?_ (Below.mono hbd2 (by first | (simp; done) | (simp; omega) | omega)))))
  case rest =>
  obtain ⟨w1, b, oz, cz, rfl, rfl, hbW, O, how, hneb, hb⟩ := hcut
  (have X1 := X0.below hb (Nat.le_refl _); have R1 := R0.below hb (Nat.le_refl _); have hv1 := hv0.below hb (Nat.le_refl _); have B1 := B0.trans (hb.mono B0.size))
  rw [intP_0 m (xs.length + 1) xs] at how
  obtain ⟨g, rfl, hgl, hgl'⟩ := how.row (by omega)
  have hgb := hneb g rfl
  clear hneb
  obtain ⟨bx, fx, rfl, hcx⟩ := hv.cells h1
  clear hcx
  have B1s := B1.size
  obtain ⟨x0, x1⟩ := id X1
  go_wp2_with fail
  clear x0 x1
  go_loopw [15] (fun i wr => ∃ k : Nat, k ≤ xs.length ∧ i = .int .i64 k ∧ OwI wr w0.heap.size (.slice (some ⟨g, 0, none⟩) (xs.length + 1) cz) (intP m (xs.length + 1) xs k) ∧ w1.grownBy wr (some g)) (fun i _ => xs.length - (intOf i).toNat)
  case atStart => exact ⟨0, Nat.zero_le _, rfl, how, World.grownBy.refl _ _⟩
  case round =>
    obtain ⟨k, hk, rfl, hO, hg⟩ := hrel
    have Br := below_gr B1 hg (by omega) B1s
    by_cases hlt : k < xs.length
    · obtain ⟨x0, x1⟩ := X1.grown hg (by simp; omega)
      obtain ⟨⟨z0, z1⟩, zf⟩ := O.grown hg (by simp; omega)
      have cx := (hv.below Br (Nat.le_refl _)).cell0 (some_at0 hlt)
      have hxk := at0_range (by omega) hx k
      have hll := intP_len m (xs.length + 1) xs k
      have hc0 := hO.cell (k := k + 1) (some_at0 (show k + 1 < (intP m (xs.length + 1) xs k).length by omega))
      have hf0 := hO.fz (k + 1)
      have HS := Lib.hid (intP_set (m := m) (n := xs.length + 1) (a := xs) (i := k))
      have hur : 0 ≤ invM m (((k : Int) + 1) % m) ∧ invM m (((k : Int) + 1) % m) < m := invM_range (by omega) _
      have HC := Lib.hid (show intC m xs k = at0 xs k * invM m (((k : Int) + 1) % m) % m by rw [invM_mod]; rfl)
      rw [HC.out] at HS
      generalize hu : invM m (((k : Int) + 1) % m) = u at hur HS
      have HU := Lib.hid hu
      clear hu hll
      have Hn := Lib.hid hO
      clear hO
      have hkm := mod_lt' (a := (k : Int) + 1) (show 0 < m by omega)
      have m0 : (m == 0) = false := by simp; omega
      have m1 : ¬ m = 0 := by omega
      have hp := Int.mul_nonneg hxk.1 hur.1
      have hp2 : at0 xs k * u ≤ 10000 * 10000 := Int.mul_le_mul (by omega) (by omega) hur.1 (by omega)
      have i0 : (0 : Int) ≤ (k : Int) := by omega
      have i1 : (k : Int) < (xs.length : Int) := by omega
      have i2 : (0 : Int) ≤ (k : Int) + 1 := by omega
      have i3 : (k : Int) + 1 < ((xs.length + 1 : Nat) : Int) := by omega
      have i4 : ((k : Int) + 1).toNat = k + 1 := by omega
      have e1 : IntKind.i64.wrap ((k : Int) + 1) = (k : Int) + 1 := IntWalk.i64_in _ (by omega)
      have e2 : IntKind.i64.wrap (at0 xs k * u) = at0 xs k * u := IntWalk.i64_in _ (by omega)
      have e3 : (at0 xs k * u).tmod m = at0 xs k * u % m := Int.tmod_eq_emod_of_nonneg (by omega)
      go_wp2_with fail
      go_still_tail 18, (by kernel_rfl)
      still_call (stillC (mod_c ((k : Int) + 1) m _ (by omega) (by omega) (by omega) (by omega)))
      repeat still_step
      still_call (stillC ((inverse_c m (((k : Int) + 1) % m) _ hm (by omega) (by omega) (by omega)).mono (fun e w' h => by rw [HU.out] at h; exact h)))
      repeat still_step
      refine wpStill_nil ?_
      change wpList _ _ _ _ _ wr.drew
      have hOn := Hn.out.put (k + 1) (at0 xs k * u % m)
      rw [HS.out] at hOn
      go_wp2
      exact ⟨⟨k + 1, by omega, by go_num, by first | exact hOn | exact hOn.drewN 1, gr_drew (hg.trans (gr_put (World.grownBy.refl wr (some g)) (k + 1) (.int .i64 (at0 xs k * u % m))))⟩, by simp [intOf]; omega⟩
    · obtain rfl : k = xs.length := by omega
      rw [intP_all] at hO
      obtain ⟨⟨z0, z1⟩, zf⟩ := O.grown hg (by simp; omega)
      obtain ⟨⟨r0, r1⟩, rf⟩ := R1.grown hg (by simp; omega)
      go_wp2
      refine bodyPost_ret (v := .agg #[.int .i64 m, .slice (some ⟨g, 0, none⟩) (xs.length + 1) cz]) (by simp [results, Try.results133, go_sem, r0, r1]) rfl ⟨_, rfl, ?_, ?_⟩
      · exact ((hO.low (by first | (simp; done) | (simp; omega) | omega) _).low (by first | (simp; done) | (simp; omega) | omega) _).mono (by first | (simp; done) | (simp; omega) | omega)
      · (repeat (first | exact Below.refl _ _ | (refine Below.setCell ?_ (by first | (simp; done) | (simp; omega) | omega) _) | (refine Below.alloc ?_ (by first | (simp; done) | (simp; omega) | omega) _) | (refine below_drewN ?_ _) | (refine Below.drew ?_) | (refine Below.trans ?_ (Below.mono Br (by first | (simp; done) | (simp; omega) | omega)))))
end Go.Proofs.Ytcjinlfgeljmkaa
