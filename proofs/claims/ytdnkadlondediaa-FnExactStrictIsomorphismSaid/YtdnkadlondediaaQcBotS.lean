/- Lemmas of BotS. -/
import Derived.Test.YtdnkadlondediaaQcPut
import Derived.Test.YtdnkadlondediaaQcG1
import Derived.Test.YtdnkadlondediaaQcG4
set_option linter.unusedSimpArgs false
set_option linter.unusedVariables false
namespace Go.Proofs.Ytdnkadlondediaa
open Go.RowKit

set_option maxHeartbeats 4000000 in
set_option maxRecDepth 100000 in
theorem l03Both_c (m : Int) (n : Nat) (v u u' : Value) (t : List (List Int)) (xs ys : List Int) (w : World) (hv : RdT w v t) (hu : RdI w u xs) (hu' : RdI w u' ys) (hlx : xs.length = n) (hly : ys.length = n) (h1 : 1 ≤ n) (hn : n ≤ 1000) (hm : 2 ≤ m) (hm' : m ≤ 10000)
    (ht : PlaT m n t) (hx : ∀ x ∈ xs, 0 ≤ x ∧ x < m) (hy : ∀ x ∈ ys, 0 ≤ x ∧ x < m) (hx0 : at0 xs 0 = 0) (hy0 : at0 ys 0 = 0) :
    Calls Try.prog 168 #[.int .i64 m, v, u, u'] w fun e w' => ∃ v', e = .returned v' ∧ OwS w' w.heap.size v' (botL m n t xs ys) ∧ Below w.heap.size w w' := by
  subst hlx
  obtain ⟨o, c, rfl, hmt, -⟩ := id hv
  have hv' : RdT w (.slice o xs.length c) t := by rw [ht.1] at hv; exact hv
  rw [ht.1] at hmt ⊢
  have HLY := Lib.hid hly
  have HT := Lib.hid ht
  have HX0 := Lib.hid hx0
  have HY0 := Lib.hid hy0
  clear hly ht hv hx0 hy0
  unfold maxLen at hmt
  obtain ⟨bt, ft, rfl, -⟩ := hv'.rows (by have := HT.out.1; omega)
  have m0 : (m == 0) = false := by simp; omega
  have m1 : ¬ m = 0 := by omega
  go_enter Try.func168, Try.ntmps168
  go_wp2_with fail
  go_at_call 170
  refine (l03Powers_c m xs.length u xs _ hu rfl h1 hn hm (by omega) hx).mono ?_
  rintro e w1 ⟨vp, rfl, hop, hb1⟩
  obtain ⟨op, cp, rfl⟩ := hop.shapeN (n := xs.length) (powsL_len _ _ _ _)
  have hP1 := hop.rd
  clear hop
  go_wp2_with fail
  go_at_call 170
  refine (l03Powers_c m xs.length u' ys _ (hu'.below hb1 (Nat.le_refl _)) HLY.out h1 hn hm (by omega) hy).mono ?_
  rintro e w2 ⟨vq, rfl, hoq, hb2⟩
  obtain ⟨oq, cq, rfl⟩ := hoq.shapeN (n := xs.length) (powsL_len _ _ _ _)
  have hQ2 := hoq.rd
  have hP2 := hP1.below hb2 (Nat.le_refl _)
  clear hoq hP1
  obtain ⟨bp, fp, rfl, -⟩ := hP2.rows (by rw [powsL_len]; omega)
  obtain ⟨bq, fq, rfl, -⟩ := hQ2.rows (by rw [powsL_len]; omega)
  have B2 := hb1.trans (hb2.mono hb1.size)
  clear hb1 hb2
  go_wp2_with fail
  go_at_call 108
  refine (l03Zero_c ((xs.length : Int) - 1) xs.length _ rfl hn).mono ?_
  rintro e w3 ⟨vz, rfl, how, hb3⟩
  obtain ⟨oz, cz, rfl⟩ := how.shapeN (n := xs.length) (zeroT_len xs.length)
  have how := how.toR
  obtain ⟨lo, hlo⟩ : ∃ lo, w2.heap.size = lo := ⟨_, rfl⟩
  obtain ⟨hi, hhi⟩ : ∃ hi, w3.heap.size = hi := ⟨_, rfl⟩
  rw [hlo, hhi] at how
  obtain ⟨us, how⟩ := how.named
  obtain ⟨g, rfl, hgl, hgl'⟩ := how.row h1
  rw [botTo_0 m xs.length (atT t) (powL m xs.length xs) (powL m xs.length ys)] at how
  have B2s := B2.size
  have b3s := hb3.size
  go_wp2_with fail
  go_loopw [13] (fun s wr => ∃ i : Nat, i ≤ xs.length ∧ s = .int .i64 i ∧ OwSU us lo hi wr (.slice (some ⟨g, 0, none⟩) xs.length cz) (botTo m xs.length (atT t) (powL m xs.length xs) (powL m xs.length ys) i 0) ∧ Chg lo hi w3 wr) (fun i _ => xs.length - (intOf i).toNat)
  case atStart => exact ⟨0, Nat.zero_le _, rfl, how, Chg.refl _ _ _⟩
  case round =>
    obtain ⟨i, hi', rfl, hO, hC⟩ := hrel
    by_cases hlt : i < xs.length
    · have i0 : (0 : Int) ≤ (i : Int) := by omega
      have i1 : (i : Int) < (xs.length : Int) := by omega
      go_wp2_with fail
      go_loopw [14] (fun s wr => ∃ j : Nat, j ≤ xs.length - i ∧ s = .int .i64 j ∧ OwSU us lo hi wr (.slice (some ⟨g, 0, none⟩) xs.length cz) (botTo m xs.length (atT t) (powL m xs.length xs) (powL m xs.length ys) i j) ∧ Chg lo hi w3 wr) (fun i' _ => xs.length - i - (intOf i').toNat)
      case atStart => exact ⟨0, Nat.zero_le _, rfl, hO, hC⟩
      case round =>
        clear hO hC
        obtain ⟨j, hj, rfl, hO, hC⟩ := hrel
        by_cases hjl : j < xs.length - i
        · obtain ⟨r1, hr1, hl1, hj1⟩ := HT.out.row hlt
          obtain ⟨p1, q1, cx0, rx0⟩ := hv'.row hr1
          rw [hl1] at cx0 rx0
          obtain ⟨b1, f1, rfl, -⟩ := rx0.cells (by omega)
          have ex0 := rx0.cell0 (hj1 j hjl)
          obtain ⟨o3, c3, y0, rp⟩ := hP2.row (powsL_get (show i < xs.length by omega))
          obtain ⟨o4, c4, z0, rq⟩ := hQ2.row (powsL_get (show j < xs.length by omega))
          rw [powL_len] at y0 rp z0 rq
          obtain ⟨b3, f3, rfl, -⟩ := rp.cells (by rw [powL_len]; omega)
          obtain ⟨b4, f4, rfl, -⟩ := rq.cells (by rw [powL_len]; omega)
          clear hr1 hl1 hj1
          obtain ⟨-, -, -, -, hxa, hxb⟩ := HT.out.at (i := i) (j := j) (by omega)
          have j0 : (0 : Int) ≤ (j : Int) := by omega
          have j1 : (j : Int) < ((xs.length - i : Nat) : Int) := by omega
          have j2 : (i : Int) + (j : Int) < (xs.length : Int) := by omega
          have j3 : (j : Int) < (xs.length : Int) := by omega
          rw [bpT_0] at hO
          go_wp2_with fail
          go_loopw [15] (fun s wr => ∃ k : Nat, i ≤ k ∧ k ≤ xs.length ∧ s = .int .i64 k ∧ OwSU us lo hi wr (.slice (some ⟨g, 0, none⟩) xs.length cz) (bpT m xs.length (atT t) (powL m xs.length xs) (powL m xs.length ys) i j k j) ∧ Chg lo hi w3 wr) (fun i' _ => xs.length - (intOf i').toNat)
          case atStart => exact ⟨i, Nat.le_refl _, by omega, rfl, hO, hC⟩
          case round =>
            clear hO hC
            obtain ⟨k, hik, hk, rfl, hO, hC⟩ := hrel
            have Br2 := hC.below hb3 (by omega) b3s
            have Br := B2.trans (Br2.mono B2s)
            by_cases hkl : k < xs.length
            · have cx := keep_cell Br (Nat.le_refl _) cx0
              have ex := keep_cell Br (Nat.le_refl _) ex0
              have k0 : (0 : Int) ≤ (k : Int) := by omega
              have k1 : (k : Int) < (xs.length : Int) := by omega
              cases hx0 : (atT t i j != 0)
              · rw [bpT_skip (by simpa using hx0)] at hO
                go_wp2
                exact ⟨⟨j + 1, by omega, by go_num, hO, hC⟩, by simp [intOf]; omega⟩
              · obtain ⟨o5, c5, hu5, cx5, how5, hbl5, -⟩ := hO.at (bpT_row hkl)
                rw [bpR_len] at hu5 cx5 how5 hbl5
                obtain ⟨gr, rfl, hgr1, hgr2⟩ : ∃ gr, o5 = some ⟨gr, 0, none⟩ ∧ lo ≤ gr ∧ gr < wr.heap.size := how5.row (by omega)
                have hgr3 := hbl5 gr rfl
                have HU5 := Lib.hid hu5
                clear how5 hbl5 hu5
                go_wp2_with fail
                clear cx ex cx5
                go_loopw [17] (fun s wr => ∃ l : Nat, j ≤ l ∧ (l ≤ xs.length - k ∨ l = j) ∧ s = .int .i64 l ∧ OwSU us lo hi wr (.slice (some ⟨g, 0, none⟩) xs.length cz) (bpT m xs.length (atT t) (powL m xs.length xs) (powL m xs.length ys) i j k l) ∧ Chg lo hi w3 wr) (fun i' _ => xs.length - k - (intOf i').toNat)
                case atStart => exact ⟨j, Nat.le_refl _, .inr rfl, rfl, hO, hC⟩
                case round =>
                  clear hO hC Br2 Br
                  obtain ⟨l, hjl', hl, rfl, hO, hC⟩ := hrel
                  have Br2 := hC.below hb3 (by omega) b3s
                  have Br := B2.trans (Br2.mono B2s)
                  by_cases hll : l < xs.length - k
                  · have cx := keep_cell Br (Nat.le_refl _) cx0
                    have ex := keep_cell Br (Nat.le_refl _) ex0
                    have cp := keep_cell Br2 (Nat.le_refl _) y0
                    have cq := keep_cell Br2 (Nat.le_refl _) z0
                    have ep := (rp.below Br2 (Nat.le_refl _)).cell0 (some_at0 (show k < (powL m xs.length xs i).length by rw [powL_len]; omega))
                    have eq := (rq.below Br2 (Nat.le_refl _)).cell0 (some_at0 (show l < (powL m xs.length ys j).length by rw [powL_len]; omega))
                    obtain ⟨hpa, hpb⟩ := at0_range (m := m) (by omega) (powL_range (m := m) (n := xs.length) (a := xs) (k := i) (by omega)) k
                    obtain ⟨hqa, hqb⟩ := at0_range (m := m) (by omega) (powL_range (m := m) (n := xs.length) (a := ys) (k := j) (by omega)) l
                    obtain ⟨o6, c6, hu6, -, how6, -, hset6⟩ := hO.at (bpT_row hkl)
                    rw [bpR_len] at hu6 how6 hset6
                    obtain ⟨rfl, rfl⟩ : some ⟨gr, 0, none⟩ = o6 ∧ c5 = c6 := by rw [HU5.out] at hu6; simpa using hu6
                    have hc0 := how6.cell (k := l) (bpR_get (by omega))
                    have hf0 := how6.fz l
                    have hN := Lib.hid how6
                    have hS := Lib.hid hset6
                    have hSt := Lib.hid (bpT_set (m := m) (n := xs.length) (t := atT t) (P := powL m xs.length xs) (Q := powL m xs.length ys) hik hjl' (show k + l < xs.length by omega))
                    clear how6 hset6 hu6
                    have l0 : (0 : Int) ≤ (l : Int) := by omega
                    have l1 : (l : Int) < ((xs.length - k : Nat) : Int) := by omega
                    have l2 : (k : Int) + (l : Int) < (xs.length : Int) := by omega
                    have l3 : (l : Int) < (xs.length : Int) := by omega
                    generalize hP' : at0 (powL m xs.length xs i) k = pk at ep hpa hpb hSt
                    generalize hQ' : at0 (powL m xs.length ys j) l = ql at eq hqa hqb hSt
                    generalize hA' : botS xs.length (atT t) (powL m xs.length xs) (powL m xs.length ys) i j k l = sa at hc0 hSt
                    obtain ⟨hM0, hM1⟩ := prod_fits hxa hpa hxb hpb (show m ≤ 3000000000 by omega)
                    have hMm := mod_lt' (a := atT t i j * pk) (show 0 < m by omega)
                    obtain ⟨hN0, hN1⟩ := prod_fits hMm.1 hqa hMm.2 hqb (show m ≤ 3000000000 by omega)
                    have hCm := mod_lt' (a := sa) (show 0 < m by omega)
                    clear hP' hQ' hA'
                    go_wp2_with fail
                    have e3 : IntKind.i64.wrap (atT t i j * pk) = atT t i j * pk := IntWalk.i64_in _ (by omega)
                    have e4 : (atT t i j * pk).tmod m = atT t i j * pk % m := Int.tmod_eq_emod_of_nonneg (by omega)
                    have e5 : IntKind.i64.wrap (atT t i j * pk % m * ql) = atT t i j * pk % m * ql := IntWalk.i64_in _ (by omega)
                    have e1 : IntKind.i64.wrap (sa % m + atT t i j * pk % m * ql) = sa % m + atT t i j * pk % m * ql := IntWalk.i64_in _ (by omega)
                    have e2 : (sa % m + atT t i j * pk % m * ql).tmod m = (sa % m + atT t i j * pk % m * ql) % m := Int.tmod_eq_emod_of_nonneg (by omega)
                    go_still_tail 35, (by kernel_rfl)
                    change wpList _ _ _ _ _ wr.drew
                    have HE := Lib.hid (show (sa % m + atT t i j * pk % m * ql) % m = (sa + atT t i j * pk % m * ql) % m from emod_congr_add (emod_idem _ _) rfl)
                    have hg0 := gr_put (gr_drewN (World.grownBy.refl wr (some gr)) 1) l (.int .i64 ((sa % m + atT t i j * pk % m * ql) % m))
                    have hOn := hS.out _ _ (by rw [List.length_set, bpR_len]) hg0 ((hN.out.drewN 1).put l _)
                    have hCn := hC.grown hg0 hgr3.1 hgr3.2.1
                    rw [hSt.out, HE.out] at hOn
                    rw [HE.out] at hCn
                    go_wp2
                    exact ⟨⟨l + 1, by omega, by omega, by go_num, hOn, hCn⟩, by simp [intOf]; omega⟩
                  · rw [bpT_line (by omega)] at hO
                    have l2 : ¬ (k : Int) + (l : Int) < (xs.length : Int) := by omega
                    go_wp2
                    exact ⟨⟨k + 1, by omega, by omega, by go_num, hO, hC⟩, by simp [intOf]; omega⟩
            · obtain rfl : k = xs.length := by omega
              rw [bpT_all (powL_low HX0.out i) (powL_low HY0.out j)] at hO
              go_wp2
              exact ⟨⟨j + 1, by omega, by go_num, hO, hC⟩, by simp [intOf]; omega⟩
        · obtain rfl : j = xs.length - i := by omega
          rw [botTo_row rfl] at hO
          have j2 : ¬ (i : Int) + ((xs.length - i : Nat) : Int) < (xs.length : Int) := by omega
          go_wp2
          exact ⟨⟨i + 1, by omega, by go_num, hO, hC⟩, by simp [intOf]; omega⟩
    · obtain rfl : i = xs.length := by omega
      have Br2 := hC.below hb3 (by omega) b3s
      have Br := B2.trans (Br2.mono B2s)
      go_wp2
      go_ret
      exact ⟨_, rfl, hO.r.ow.mono (by omega), Br⟩

end Go.Proofs.Ytdnkadlondediaa
