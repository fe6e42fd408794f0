/- Lemmas of PlaV. -/
import Derived.Test.YtoednonijmkbjaaGreatVPlaT
import Derived.Test.YtoednonijmkbjaaGreatVG15
import Derived.Test.YtoednonijmkbjaaGreatVPlaR
set_option linter.unusedSimpArgs false
set_option linter.unusedVariables false
namespace Go.Proofs.YtoednonijmkbjaaGreat
open Go.RowKit

set_option maxHeartbeats 4000000 in
set_option maxRecDepth 100000 in
theorem l03Times_c (m : Int) (n : Nat) (v u : Value) (xss yss : List (List Int)) (w : World) (hv : RdT w v xss) (hu : RdT w u yss) (h1 : 1 ≤ n) (hn : n ≤ 1000) (hm : 2 ≤ m) (hm' : m ≤ 3000000000)
    (hx : PlaT m n xss) (hy : PlaT m n yss) :
    Calls Tryz.prog 124 #[.int .i64 m, v, u] w fun e w' => ∃ v', e = .returned v' ∧ OwS w' w.heap.size v' (timesT m n xss yss) ∧ Below w.heap.size w w' := by
  obtain ⟨o, c, rfl, hmx, -⟩ := id hv
  obtain ⟨o', c', rfl, hmy, -⟩ := id hu
  rw [hx.1] at hmx ⊢
  rw [hy.1] at hmy ⊢
  unfold maxLen at hmx hmy
  have hv' : RdT w (.slice o n c) xss := by rw [hx.1] at hv; exact hv
  have hu' : RdT w (.slice o' n c') yss := by rw [hy.1] at hu; exact hu
  clear hv hu
  have HX := Lib.hid hx
  have HY := Lib.hid hy
  have hxl := hx.1
  have hyl := hy.1
  clear hx hy
  obtain ⟨bx, fx, rfl, -⟩ := hv'.rows (by omega)
  obtain ⟨by', fy, rfl, -⟩ := hu'.rows (by omega)
  clear hxl hyl
  have m0 : (m == 0) = false := by simp; omega
  have m1 : ¬ m = 0 := by omega
  go_enter Tryz.func124, Tryz.ntmps124
  go_wp2_with (go_at_call 79; refine (l03Zero_c ((n : Int) - 1) n _ rfl hn).mono ?_; rintro e w2 ⟨vz, rfl, how, B2⟩; obtain ⟨oz, cz, rfl⟩ := how.shapeN (n := n) (zeroT_len n))
  have how := how.toR
  obtain ⟨hi, hhi⟩ : ∃ hi, w2.heap.size = hi := ⟨_, rfl⟩
  rw [hhi] at how
  obtain ⟨us, how⟩ := how.named
  obtain ⟨g, rfl, hgl, hgl'⟩ := how.row h1
  rw [tmT_0 m n xss yss] at how
  have B2s := B2.size
  go_loopw [9] (fun s wr => ∃ i : Nat, i ≤ n ∧ s = .int .i64 i ∧ OwSU us w.heap.size hi wr (.slice (some ⟨g, 0, none⟩) n cz) (tmT m n xss yss i 0 0 0) ∧ Chg w.heap.size hi w2 wr) (fun i _ => n - (intOf i).toNat)
  case atStart => exact ⟨0, Nat.zero_le _, rfl, how, Chg.refl _ _ _⟩
  case round =>
    obtain ⟨i, hi', rfl, hO, hC⟩ := hrel
    by_cases hlt : i < n
    · obtain ⟨r1, hr1, hl1, hj1⟩ := HX.out.row hlt
      obtain ⟨p1, q1, cx0, rx0⟩ := hv'.row hr1
      rw [hl1] at cx0 rx0
      obtain ⟨b1, f1, rfl, -⟩ := rx0.cells (by omega)
      have i0 : (0 : Int) ≤ (i : Int) := by omega
      have i1 : (i : Int) < (n : Int) := by omega
      have HJ := Lib.hid hj1
      clear hr1 hl1 hj1
      go_wp2_with fail
      go_loopw [10] (fun s wr => ∃ j : Nat, j ≤ n - i ∧ s = .int .i64 j ∧ OwSU us w.heap.size hi wr (.slice (some ⟨g, 0, none⟩) n cz) (tmT m n xss yss i j 0 0) ∧ Chg w.heap.size hi w2 wr) (fun i' _ => n - i - (intOf i').toNat)
      case atStart => exact ⟨0, Nat.zero_le _, rfl, hO, hC⟩
      case round =>
        obtain ⟨j, hj, rfl, hO, hC⟩ := hrel
        have Br := hC.below B2 (by omega) B2s
        by_cases hjl : j < n - i
        · have ex := (rx0.below Br (Nat.le_refl _)).cell0 (HJ.out j hjl)
          have cx := keep_cell Br (Nat.le_refl _) cx0
          obtain ⟨-, -, -, -, hxa, hxb⟩ := HX.out.at (i := i) (j := j) (by omega)
          have j0 : (0 : Int) ≤ (j : Int) := by omega
          have j1 : (j : Int) < ((n - i : Nat) : Int) := by omega
          have j2 : (i : Int) + (j : Int) < (n : Int) := by omega
          cases hx0 : (atT xss i j == 0)
          · go_wp2_with fail
            clear ex cx
            go_loopw [11] (fun s wr => ∃ k : Nat, k ≤ n - i - j ∧ s = .int .i64 k ∧ OwSU us w.heap.size hi wr (.slice (some ⟨g, 0, none⟩) n cz) (tmT m n xss yss i j k 0) ∧ Chg w.heap.size hi w2 wr) (fun i' _ => n - i - j - (intOf i').toNat)
            case atStart => exact ⟨0, Nat.zero_le _, rfl, hO, hC⟩
            case round =>
              obtain ⟨k, hk, rfl, hO, hC⟩ := hrel
              have Br := hC.below B2 (by omega) B2s
              by_cases hkl : k < n - i - j
              · obtain ⟨r2, hr2, hl2, hj2⟩ := HY.out.row (show k < n by omega)
                obtain ⟨p2, q2, cy0, ry0⟩ := hu'.row hr2
                rw [hl2] at cy0 ry0
                obtain ⟨b2, f2, rfl, -⟩ := ry0.cells (by omega)
                have cy := keep_cell Br (Nat.le_refl _) cy0
                have HJ2 := Lib.hid hj2
                clear hr2 hl2 hj2 cy0
                obtain ⟨o3, c3, hu3, cx3, how3, hbl3, -⟩ := hO.at (tmT_row' (show i + k < n by omega))
                rw [tmTr_len] at hu3 cx3 how3 hbl3
                obtain ⟨gr, rfl, hgr1, hgr2⟩ := how3.row (by omega)
                have hgr3 := hbl3 gr rfl
                have HU3 := Lib.hid hu3
                clear how3 hbl3 hu3
                have k0 : (0 : Int) ≤ (k : Int) := by omega
                have k1 : (k : Int) < (n : Int) := by omega
                have k2 : (i : Int) + (j : Int) + (k : Int) < (n : Int) := by omega
                have k3 : (0 : Int) ≤ (i : Int) + (k : Int) := by omega
                have k4 : (i : Int) + (k : Int) < (n : Int) := by omega
                have k5 : ((i : Int) + (k : Int)).toNat = i + k := by omega
                go_wp2_with fail
                have e0 : IntKind.i64.wrap ((i : Int) + (k : Int)) = (i : Int) + (k : Int) := IntWalk.i64_in _ (by omega)
                go_quiet (fail)
                clear cy cx3 e0
                go_wp2_with fail
                go_loopw [14] (fun s wr => ∃ l : Nat, l ≤ n - i - j - k ∧ s = .int .i64 l ∧ OwSU us w.heap.size hi wr (.slice (some ⟨g, 0, none⟩) n cz) (tmT m n xss yss i j k l) ∧ Chg w.heap.size hi w2 wr) (fun i' _ => n - i - j - k - (intOf i').toNat)
                case atStart => exact ⟨0, Nat.zero_le _, rfl, hO, hC.drewN _⟩
                case round =>
                  obtain ⟨l, hl, rfl, hO, hC⟩ := hrel
                  have Br := hC.below B2 (by omega) B2s
                  by_cases hll : l < n - i - j - k
                  · have ey := (ry0.below Br (Nat.le_refl _)).cell0 (HJ2.out l (by omega))
                    have ex := (rx0.below Br (Nat.le_refl _)).cell0 (HJ.out j hjl)
                    have cx := keep_cell Br (Nat.le_refl _) cx0
                    obtain ⟨-, -, -, -, hya, hyb⟩ := HY.out.at (i := k) (j := l) (by omega)
                    obtain ⟨o4, c4, hu4, -, how3, -, hset3⟩ := hO.at (tmT_row' (show i + k < n by omega))
                    rw [tmTr_len] at hu4 how3 hset3
                    obtain ⟨rfl, rfl⟩ : some ⟨gr, 0, none⟩ = o4 ∧ c3 = c4 := by rw [HU3.out] at hu4; simpa using hu4
                    have hc0 := how3.cell (k := j + l) (tmTr_get (show i + k + (j + l) < n by omega))
                    have hf0 := how3.fz (j + l)
                    have hN := Lib.hid how3
                    have hS := Lib.hid hset3
                    clear how3 hset3 hu4
                    have l0 : (0 : Int) ≤ (l : Int) := by omega
                    have l1 : (l : Int) < ((n - k : Nat) : Int) := by omega
                    have l2 : (i : Int) + (j : Int) + (k : Int) + (l : Int) < (n : Int) := by omega
                    have l5 : (0 : Int) ≤ (j : Int) + (l : Int) := by omega
                    have l6 : (j : Int) + (l : Int) < ((n - (i + k) : Nat) : Int) := by omega
                    have l7 : ((j : Int) + (l : Int)).toNat = j + l := by omega
                    obtain ⟨hM0, hM1⟩ := prod_fits hxa hya hxb hyb hm'
                    have hCm := mod_lt' (a := c2P n (atT xss) (atT yss) i j k l (i + k) (j + l)) (show 0 < m by omega)
                    have hMod := mod_lt' (a := c2P n (atT xss) (atT yss) i j k l (i + k) (j + l) % m + atT xss i j * atT yss k l) (show 0 < m by omega)
                    go_wp2_with fail
                    have e0 : IntKind.i64.wrap ((j : Int) + (l : Int)) = (j : Int) + (l : Int) := IntWalk.i64_in _ (by omega)
                    have e3 : IntKind.i64.wrap (atT xss i j * atT yss k l) = atT xss i j * atT yss k l := IntWalk.i64_in _ (by omega)
                    have e1 : IntKind.i64.wrap (c2P n (atT xss) (atT yss) i j k l (i + k) (j + l) % m + atT xss i j * atT yss k l) = c2P n (atT xss) (atT yss) i j k l (i + k) (j + l) % m + atT xss i j * atT yss k l := IntWalk.i64_in _ (by omega)
                    have e2 : (c2P n (atT xss) (atT yss) i j k l (i + k) (j + l) % m + atT xss i j * atT yss k l).tmod m = (c2P n (atT xss) (atT yss) i j k l (i + k) (j + l) % m + atT xss i j * atT yss k l) % m := Int.tmod_eq_emod_of_nonneg (by omega)
                    go_still_tail 26, (by kernel_rfl)
                    change wpList _ _ _ _ _ wr.drew
                    have HE := Lib.hid (show (c2P n (atT xss) (atT yss) i j k l (i + k) (j + l) % m + atT xss i j * atT yss k l) % m = (c2P n (atT xss) (atT yss) i j k l (i + k) (j + l) + atT xss i j * atT yss k l) % m by rw [Int.add_emod, Int.emod_emod_of_dvd _ (Int.dvd_refl m), ← Int.add_emod])
                    have hg0 := gr_put (gr_drewN (World.grownBy.refl wr (some gr)) 1) (j + l) (.int .i64 ((c2P n (atT xss) (atT yss) i j k l (i + k) (j + l) % m + atT xss i j * atT yss k l) % m))
                    have hOn := hS.out _ _ (by rw [List.length_set, tmTr_len]) hg0 ((hN.out.drewN 1).put (j + l) _)
                    have hCn := hC.grown hg0 hgr3.1 hgr3.2.1
                    rw [HE.out, tmT_set (by omega)] at hOn
                    rw [HE.out] at hCn
                    go_wp2
                    exact ⟨⟨l + 1, by omega, by go_num, hOn, hCn⟩, by simp [intOf]; omega⟩
                  · obtain rfl : l = n - i - j - k := by omega
                    rw [tmT_row (by omega)] at hO
                    have l2 : ¬ (i : Int) + (j : Int) + (k : Int) + ((n - i - j - k : Nat) : Int) < (n : Int) := by omega
                    go_wp2
                    exact ⟨⟨k + 1, by omega, by go_num, hO, hC⟩, by simp [intOf]; omega⟩
              · obtain rfl : k = n - i - j := by omega
                rw [tmT_place (.inl (by omega))] at hO
                have k2 : ¬ (i : Int) + (j : Int) + ((n - i - j : Nat) : Int) < (n : Int) := by omega
                go_wp2
                exact ⟨⟨j + 1, by omega, by go_num, hO, hC⟩, by simp [intOf]; omega⟩
          · rw [tmT_place (.inr (by simpa using hx0))] at hO
            go_wp2
            exact ⟨⟨j + 1, by omega, by go_num, hO, hC⟩, by simp [intOf]; omega⟩
        · obtain rfl : j = n - i := by omega
          rw [tmT_line rfl] at hO
          have j2 : ¬ (i : Int) + ((n - i : Nat) : Int) < (n : Int) := by omega
          go_wp2
          exact ⟨⟨i + 1, by omega, by go_num, hO, hC⟩, by simp [intOf]; omega⟩
    · obtain rfl : i = n := by omega
      rw [tmT_all] at hO
      have Br := hC.below B2 (by omega) B2s
      go_wp2
      go_ret
      exact ⟨_, rfl, hO.r.ow, Br⟩

end Go.Proofs.YtoednonijmkbjaaGreat
