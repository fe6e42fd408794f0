/- Lemmas of WeiC. -/
import Derived.Test.YtmmneicblcjkjaaQWeiB
set_option linter.unusedSimpArgs false
set_option linter.unusedVariables false
namespace Go.Proofs.Ytmmneicblcjkjaa
open Go.RowKit

set_option maxHeartbeats 4000000 in
set_option maxRecDepth 100000 in
theorem l08Series_c (m d : Int) (N : Nat) (v : Value) (ls : List Int) (w : World) (hd : d + 1 = (N : Int)) (hv : RdI w v ls) (hl : ls.length = 5) (h3 : 3 ≤ N) (hN : N ≤ 1000) (hm : 2 ≤ m) (hm' : m ≤ 10000) (hx : ∀ x ∈ ls, 0 ≤ x ∧ x < m) :
    Calls Try.prog 21 #[.int .i64 m, .int .i64 d, v] w fun e w' => ∃ v', e = .returned v' ∧ OwI w' w.heap.size v' (weiR m N (at0 ls) (N - 3)) ∧ Below w.heap.size w w' := by
  obtain ⟨o, c, rfl, hmx, -⟩ := id hv
  obtain ⟨bl, fl, rfl, -⟩ := hv.cells (by omega)
  have r0 := at0_range (show 0 < m by omega) hx 0
  have r1 := at0_range (show 0 < m by omega) hx 1
  have r2 := at0_range (show 0 < m by omega) hx 2
  have r3 := at0_range (show 0 < m by omega) hx 3
  have r4 := at0_range (show 0 < m by omega) hx 4
  have HL := Lib.hid hl
  rw [hl] at hv ⊢
  have hd1 : 0 ≤ d := by omega
  have hd2 : d ≤ 1000 := by omega
  have m0 : (m == 0) = false := by simp; omega
  have m1 : ¬ m = 0 := by omega
  clear hl hmx
  go_enter Try.func21, Try.ntmps21
  have i0 : (0 : Int) < (N : Int) := by omega
  have ew : IntKind.i64.wrap (d + 1) = d + 1 := IntWalk.i64_in _ (by omega)
  go_wp2_with (at_make; go_loud (refine mkI _ rfl _ _ rfl _ _ _ N rfl rfl (by omega) (by omega) ?_; intro w1 hO1 hb1 hz1; clear hz1))
  go_loopw [8] (fun i wr => ∃ (k : Nat), k + 3 ≤ N ∧ i = .int .i64 ((k : Int) + 3) ∧ OwI wr w.heap.size (.slice (some ⟨w.heap.size, 0, none⟩) N N) (weiR m N (at0 ls) k) ∧ Below w.heap.size w wr) (fun i _ => (d + 1 - intOf i).toNat)
  case atStart => exact ⟨0, by omega, by go_num, hO1, hb1⟩
  case round =>
    clear hO1 hb1
    obtain ⟨k, hk, rfl, hO, hB⟩ := hrel
    have HR := Lib.hid (weiR_range (m := m) (show 0 < m by omega) N (at0 ls) k)
    have HWl := Lib.hid (weiR_len m N (at0 ls) k)
    by_cases hlt : k + 3 < N
    · have j1 : (k : Int) + 3 ≤ d := by omega
      have HS := Lib.hid (show weiR m N (at0 ls) (k + 1) = (weiR m N (at0 ls) k).set (k + 3) (weiV m (at0 ls) (weiR m N (at0 ls) k) k) from rfl)
      generalize weiR m N (at0 ls) k = W at hO HR HWl HS
      have hBs := hB.size
      go_wp2_with fail
      refine (l02Times_c m ((k : Int) + 3) (k + 4) _ _ W W wr (by omega) hO.rd hO.rd (by omega) (by omega) (by omega) (by omega) HR.out HR.out).mono ?_
      rintro e w2 ⟨v2, rfl, hO2, hb2⟩
      obtain ⟨g2, c2, rfl⟩ : ∃ g c, v2 = .slice (some ⟨g, 0, none⟩) (k + 4) c := by
        obtain ⟨o', c', rfl⟩ := hO2.shapeN (n := k + 4) (timesL_len _ _ _ _)
        obtain ⟨g', rfl, -, -⟩ := hO2.row (by omega)
        exact ⟨g', c', rfl⟩
      have HQ := Lib.hid (timesL_range (m := m) (show 0 < m by omega) (n := k + 4) (a := W) (b := W))
      have HQl := Lib.hid (timesL_len m (k + 4) W W)
      have hO' := hO.below hb2
      have hB2 := hB.trans (hb2.mono hBs)
      go_wp2_with fail
      refine (l02Times_c m ((k : Int) + 3) (k + 4) _ _ (timesL m (k + 4) W W) W w2 (by omega) hO2.rd hO'.rd (by omega) (by omega) (by omega) (by omega) HQ.out HR.out).mono ?_
      rintro e w3 ⟨v3, rfl, hO3, hb3⟩
      obtain ⟨g3, c3, rfl⟩ : ∃ g c, v3 = .slice (some ⟨g, 0, none⟩) (k + 4) c := by
        obtain ⟨o', c', rfl⟩ := hO3.shapeN (n := k + 4) (timesL_len _ _ _ _)
        obtain ⟨g', rfl, -, -⟩ := hO3.row (by omega)
        exact ⟨g', c', rfl⟩
      have HC := Lib.hid (timesL_range (m := m) (show 0 < m by omega) (n := k + 4) (a := timesL m (k + 4) W W) (b := W))
      have HCl := Lib.hid (timesL_len m (k + 4) (timesL m (k + 4) W W) W)
      have hO4 := hO'.below hb3
      have hQ4 := hO2.below hb3
      have hB3 := hB2.trans (hb3.mono hB2.size)
      have HV := Lib.hid (show weiV m (at0 ls) W k = (at0 ls 0 * at0 W (k + 2) + at0 ls 1 * at0 W (k + 1) + at0 ls 2 * at0 (timesL m (k + 4) W W) (k + 3) + at0 ls 3 * at0 (timesL m (k + 4) W W) (k + 2) + at0 ls 4 * at0 (timesL m (k + 4) (timesL m (k + 4) W W) W) (k + 3) + (if k = 0 then 1 else 0)) % m from rfl)
      rw [HV.out] at HS
      generalize timesL m (k + 4) (timesL m (k + 4) W W) W = C at hO3 HC HCl HS
      generalize timesL m (k + 4) W W = Q at hQ4 HQ HQl HS
      clear hO hO' hO2 hB hB2 hb2 hb3 HV
      have s1 := at0_range (show 0 < m by omega) HR.out (k + 2)
      have s2 := at0_range (show 0 < m by omega) HR.out (k + 1)
      have s3 := at0_range (show 0 < m by omega) HQ.out (k + 3)
      have s4 := at0_range (show 0 < m by omega) HQ.out (k + 2)
      have s5 := at0_range (show 0 < m by omega) HC.out (k + 3)
      have hvr := hv.below hB3 (Nat.le_refl _)
      have a0 := hvr.cell0 (some_at0 (xs := ls) (k := 0) (by have := HL.out; omega))
      have a1 := hvr.cell0 (some_at0 (xs := ls) (k := 1) (by have := HL.out; omega))
      have a2 := hvr.cell0 (some_at0 (xs := ls) (k := 2) (by have := HL.out; omega))
      have a3 := hvr.cell0 (some_at0 (xs := ls) (k := 3) (by have := HL.out; omega))
      have a4 := hvr.cell0 (some_at0 (xs := ls) (k := 4) (by have := HL.out; omega))
      have b1 := hO4.cell (k := k + 2) (some_at0 (by have := HWl.out; omega))
      have b2 := hO4.cell (k := k + 1) (some_at0 (by have := HWl.out; omega))
      have b3 := hQ4.cell (k := k + 3) (some_at0 (by have := HQl.out; omega))
      have b4 := hQ4.cell (k := k + 2) (some_at0 (by have := HQl.out; omega))
      have b5 := hO3.cell (k := k + 3) (some_at0 (by have := HCl.out; omega))
      generalize at0 ls 0 = l0 at a0 r0 HS
      generalize at0 ls 1 = l1 at a1 r1 HS
      generalize at0 ls 2 = l2 at a2 r2 HS
      generalize at0 ls 3 = l3 at a3 r3 HS
      generalize at0 ls 4 = l4 at a4 r4 HS
      generalize at0 W (k + 2) = x1 at b1 s1 HS
      generalize at0 W (k + 1) = x2 at b2 s2 HS
      generalize at0 Q (k + 3) = x3 at b3 s3 HS
      generalize at0 Q (k + 2) = x4 at b4 s4 HS
      generalize at0 C (k + 3) = x5 at b5 s5 HS
      rw [Nat.add_zero] at a0
      have P1 := Int.mul_nonneg r0.1 s1.1
      have P2 := Int.mul_nonneg r1.1 s2.1
      have P3 := Int.mul_nonneg r2.1 s3.1
      have P4 := Int.mul_nonneg r3.1 s4.1
      have P5 := Int.mul_nonneg r4.1 s5.1
      have U1 : l0 * x1 ≤ 10000 * 10000 := Int.mul_le_mul (by omega) (by omega) s1.1 (by omega)
      have U2 : l1 * x2 ≤ 10000 * 10000 := Int.mul_le_mul (by omega) (by omega) s2.1 (by omega)
      have U3 : l2 * x3 ≤ 10000 * 10000 := Int.mul_le_mul (by omega) (by omega) s3.1 (by omega)
      have U4 : l3 * x4 ≤ 10000 * 10000 := Int.mul_le_mul (by omega) (by omega) s4.1 (by omega)
      have U5 : l4 * x5 ≤ 10000 * 10000 := Int.mul_le_mul (by omega) (by omega) s5.1 (by omega)
      have e1 : IntKind.i64.wrap (l0 * x1) = l0 * x1 := IntWalk.i64_in _ (by omega)
      have e2 : IntKind.i64.wrap (l1 * x2) = l1 * x2 := IntWalk.i64_in _ (by omega)
      have e3 : IntKind.i64.wrap (l2 * x3) = l2 * x3 := IntWalk.i64_in _ (by omega)
      have e4 : IntKind.i64.wrap (l3 * x4) = l3 * x4 := IntWalk.i64_in _ (by omega)
      have e5 : IntKind.i64.wrap (l4 * x5) = l4 * x5 := IntWalk.i64_in _ (by omega)
      have q2 : IntKind.i64.wrap (l0 * x1 + l1 * x2) = l0 * x1 + l1 * x2 := IntWalk.i64_in _ (by omega)
      have q3 : IntKind.i64.wrap (l0 * x1 + l1 * x2 + l2 * x3) = l0 * x1 + l1 * x2 + l2 * x3 := IntWalk.i64_in _ (by omega)
      have q4 : IntKind.i64.wrap (l0 * x1 + l1 * x2 + l2 * x3 + l3 * x4) = l0 * x1 + l1 * x2 + l2 * x3 + l3 * x4 := IntWalk.i64_in _ (by omega)
      have q5 : IntKind.i64.wrap (l0 * x1 + l1 * x2 + l2 * x3 + l3 * x4 + l4 * x5) = l0 * x1 + l1 * x2 + l2 * x3 + l3 * x4 + l4 * x5 := IntWalk.i64_in _ (by omega)
      have q6 : IntKind.i64.wrap (l0 * x1 + l1 * x2 + l2 * x3 + l3 * x4 + l4 * x5 + 1) = l0 * x1 + l1 * x2 + l2 * x3 + l3 * x4 + l4 * x5 + 1 := IntWalk.i64_in _ (by omega)
      have f1 : IntKind.i64.wrap ((k : Int) + 3 - 1) = (k : Int) + 2 := by rw [IntWalk.i64_in _ (by omega)]; omega
      have f2 : IntKind.i64.wrap ((k : Int) + 3 - 2) = (k : Int) + 1 := by rw [IntWalk.i64_in _ (by omega)]; omega
      have g1 : ((k : Int) + 2).toNat = k + 2 := by omega
      have g2' : ((k : Int) + 1).toNat = k + 1 := by omega
      have g3' : ((k : Int) + 3).toNat = k + 3 := by omega
      have z1 : (0 : Int) ≤ (k : Int) + 2 := by omega
      have z2 : (0 : Int) ≤ (k : Int) + 1 := by omega
      have z3 : (0 : Int) ≤ (k : Int) + 3 := by omega
      have y1 : (k : Int) + 2 < (N : Int) := by omega
      have y2 : (k : Int) + 1 < (N : Int) := by omega
      have y3 : (k : Int) + 3 < (N : Int) := by omega
      have y4 : (k : Int) + 3 < ((k + 4 : Nat) : Int) := by omega
      have y5 : (k : Int) + 2 < ((k + 4 : Nat) : Int) := by omega
      have t1 : (l0 * x1 + l1 * x2 + l2 * x3 + l3 * x4 + l4 * x5).tmod m = (l0 * x1 + l1 * x2 + l2 * x3 + l3 * x4 + l4 * x5) % m := Int.tmod_eq_emod_of_nonneg (by omega)
      have t2 : (l0 * x1 + l1 * x2 + l2 * x3 + l3 * x4 + l4 * x5 + 1).tmod m = (l0 * x1 + l1 * x2 + l2 * x3 + l3 * x4 + l4 * x5 + 1) % m := Int.tmod_eq_emod_of_nonneg (by omega)
      go_wp2_with fail
      go_quiet (fail)
      obtain ⟨w4, hw4⟩ : ∃ u : World, u = w3.drewN nq := ⟨_, rfl⟩
      have hO5 : OwI w4 w.heap.size (.slice (some ⟨w.heap.size, 0, none⟩) N N) W := by rw [hw4]; exact hO4.drewN nq
      have hB5 : Below w.heap.size w w4 := by rw [hw4]; exact below_drewN hB3 nq
      rw [← hw4]
      have hc5 := hO5.cell (k := k + 3) (some_at0 (by have := HWl.out; omega))
      have hf5 := hO5.fz (k + 3)
      clear hw4 a0 a1 a2 a3 a4 b1 b2 b3 b4 b5
      by_cases hk0 : k = 0
      · have c1 : ((k : Int) + 3 == 3) = true := by simp; omega
        have HS := Lib.hid (show weiR m N (at0 ls) (k + 1) = W.set (k + 3) ((l0 * x1 + l1 * x2 + l2 * x3 + l3 * x4 + l4 * x5 + 1) % m) by rw [HS.out, if_pos hk0])
        clear hk0
        go_wp2_with fail
        have hO6 := hO5.put (k + 3) ((l0 * x1 + l1 * x2 + l2 * x3 + l3 * x4 + l4 * x5 + 1) % m)
        rw [← HS.out] at hO6
        exact ⟨⟨k + 1, by omega, by go_num, hO6, below_put hB5 (Nat.le_refl _) _⟩, by simp [intOf]; omega⟩
      · have c1 : ((k : Int) + 3 == 3) = false := by simp; omega
        have HS := Lib.hid (show weiR m N (at0 ls) (k + 1) = W.set (k + 3) ((l0 * x1 + l1 * x2 + l2 * x3 + l3 * x4 + l4 * x5) % m) by rw [HS.out, if_neg hk0, Int.add_zero])
        clear hk0
        go_wp2_with fail
        have hO6 := hO5.put (k + 3) ((l0 * x1 + l1 * x2 + l2 * x3 + l3 * x4 + l4 * x5) % m)
        rw [← HS.out] at hO6
        exact ⟨⟨k + 1, by omega, by go_num, hO6, below_put hB5 (Nat.le_refl _) _⟩, by simp [intOf]; omega⟩
    · have hkN : k = N - 3 := by omega
      have j1 : ¬ (k : Int) + 3 ≤ d := by omega
      have HE := Lib.hid (show weiR m N (at0 ls) k = weiR m N (at0 ls) (N - 3) by rw [hkN])
      rw [HE.out] at hO
      clear hkN
      go_wp2
      go_ret
      exact ⟨_, rfl, hO, hB⟩
end Go.Proofs.Ytmmneicblcjkjaa
