/- Lemmas. -/
import Derived.Test.YtfpphfjlpgefaaaQAM10
import Derived.Test.YtfpphfjlpgefaaaQAG1
import Derived.Test.YtfpphfjlpgefaaaQAM7
import Derived.Test.YtfpphfjlpgefaaaQAM8
import Derived.Test.YtfpphfjlpgefaaaQAM4
import Derived.Test.YtfpphfjlpgefaaaQAG3
import Derived.Deep.RegionHeld3
import Derived.Test.YtfpphfjlpgefaaaQAM11
import Derived.Test.YtfpphfjlpgefaaaQASame
import Derived.Test.YtfpphfjlpgefaaaQAG2
import Derived.Test.YtfpphfjlpgefaaaQAG5
import Derived.Test.YtfpphfjlpgefaaaQATabG
set_option linter.unusedSimpArgs false
set_option linter.unusedVariables false
namespace Go.Proofs.Ytfpphfjlpgefaaa
open Go.RowKit

set_option maxHeartbeats 4000000 in
set_option maxRecDepth 100000 in
theorem l03Both_c (m : Int) (n : Nat) (v u u' : Value) (t : List (List Int)) (xs ys : List Int) (w : World) (hv : RdT w v t) (hu : RdI w u xs) (hu' : RdI w u' ys) (hlx : xs.length = n) (hly : ys.length = n) (h1 : 1 ≤ n) (hn : n ≤ 1000) (hm : 2 ≤ m) (hm' : m ≤ 10000)
    (ht : PlaT m n t) (hx : ∀ x ∈ xs, 0 ≤ x ∧ x < m) (hy : ∀ x ∈ ys, 0 ≤ x ∧ x < m) (hx0 : at0 xs 0 = 0) (hy0 : at0 ys 0 = 0) :
    Calls Try.prog 56 #[.int .i64 m, v, u, u'] w fun e w' => ∃ v', e = .returned v' ∧ OwS w' w.heap.size v' (botL m n t xs ys) ∧ Below w.heap.size w w' := by
  subst hlx
  obtain ⟨o, c, rfl, hmt, -⟩ := id hv
  have hv' : RdT w (.slice o xs.length c) t := by rw [ht.1] at hv; exact hv
  rw [ht.1] at hmt ⊢
  have HLY := Lib.hid hly
  have HT := Lib.hid ht
  have HX0 := Lib.hid hx0
  have HY0 := Lib.hid hy0
  clear hly ht hv hx0 hy0
  unfold maxLen at hmt
  obtain ⟨bt, ft, rfl, -⟩ := hv'.rows (by have := HT.out.1; omega)
  have m0 : (m == 0) = false := by simp; omega
  have m1 : ¬ m = 0 := by omega
  go_enter Try.func56, Try.ntmps56
  go_wp2_with fail
  go_at_call 72
  refine (l03Powers_c m xs.length u xs _ hu rfl h1 hn hm (by omega) hx).mono ?_
  rintro e w1 ⟨vp, rfl, hop, hb1⟩
  obtain ⟨op, cp, rfl⟩ := hop.shapeN (n := xs.length) (powsL_len _ _ _ _)
  have hP1 := hop.rd
  clear hop
  go_wp2_with fail
  go_at_call 72
  refine (l03Powers_c m xs.length u' ys _ (hu'.below hb1 (Nat.le_refl _)) HLY.out h1 hn hm (by omega) hy).mono ?_
  rintro e w2 ⟨vq, rfl, hoq, hb2⟩
  obtain ⟨oq, cq, rfl⟩ := hoq.shapeN (n := xs.length) (powsL_len _ _ _ _)
  have hQ2 := hoq.rd
  have hP2 := hP1.below hb2 (Nat.le_refl _)
  clear hoq hP1
  obtain ⟨bp, fp, rfl, -⟩ := hP2.rows (by rw [powsL_len]; omega)
  obtain ⟨bq, fq, rfl, -⟩ := hQ2.rows (by rw [powsL_len]; omega)
  have B2 := hb1.trans (hb2.mono hb1.size)
  clear hb1 hb2
  go_wp2_with fail
  go_at_call 54
  refine (l03Zero_c ((xs.length : Int) - 1) xs.length _ rfl hn).mono ?_
  rintro e w3 ⟨vz, rfl, how, hb3⟩
  obtain ⟨oz, cz, rfl⟩ := how.shapeN (n := xs.length) (zeroT_len xs.length)
  have how := how.toR
  obtain ⟨lo, hlo⟩ : ∃ lo, w2.heap.size = lo := ⟨_, rfl⟩
  obtain ⟨hi, hhi⟩ : ∃ hi, w3.heap.size = hi := ⟨_, rfl⟩
  rw [hlo, hhi] at how
  obtain ⟨us, how⟩ := how.named
  obtain ⟨g, rfl, hgl, hgl'⟩ := how.row h1
  rw [botTo_0 m xs.length (atT t) (powL m xs.length xs) (powL m xs.length ys)] at how
  have B2s := B2.size
  have b3s := hb3.size
  go_wp2_with fail
  go_loopw [13] (fun s wr => ∃ i : Nat, i ≤ xs.length ∧ s = .int .i64 i ∧ OwSU us lo hi wr (.slice (some ⟨g, 0, none⟩) xs.length cz) (botTo m xs.length (atT t) (powL m xs.length xs) (powL m xs.length ys) i 0) ∧ Chg lo hi w3 wr) (fun i _ => xs.length - (intOf i).toNat)
  case atStart => exact ⟨0, Nat.zero_le _, rfl, how, Chg.refl _ _ _⟩
  case round =>
    obtain ⟨i, hi', rfl, hO, hC⟩ := hrel
    by_cases hlt : i < xs.length
    · have i0 : (0 : Int) ≤ (i : Int) := by omega
      have i1 : (i : Int) < (xs.length : Int) := by omega
      go_wp2_with fail
      go_loopw [14] (fun s wr => ∃ j : Nat, j ≤ xs.length - i ∧ s = .int .i64 j ∧ OwSU us lo hi wr (.slice (some ⟨g, 0, none⟩) xs.length cz) (botTo m xs.length (atT t) (powL m xs.length xs) (powL m xs.length ys) i j) ∧ Chg lo hi w3 wr) (fun i' _ => xs.length - i - (intOf i').toNat)
      case atStart => exact ⟨0, Nat.zero_le _, rfl, hO, hC⟩
      case round =>
        clear hO hC
        obtain ⟨j, hj, rfl, hO, hC⟩ := hrel
        by_cases hjl : j < xs.length - i
        · obtain ⟨r1, hr1, hl1, hj1⟩ := HT.out.row hlt
          obtain ⟨p1, q1, cx0, rx0⟩ := hv'.row hr1
          rw [hl1] at cx0 rx0
          obtain ⟨b1, f1, rfl, -⟩ := rx0.cells (by omega)
          have ex0 := rx0.cell0 (hj1 j hjl)
          obtain ⟨o3, c3, y0, rp⟩ := hP2.row (powsL_get (show i < xs.length by omega))
          obtain ⟨o4, c4, z0, rq⟩ := hQ2.row (powsL_get (show j < xs.length by omega))
          rw [powL_len] at y0 rp z0 rq
          obtain ⟨b3, f3, rfl, -⟩ := rp.cells (by rw [powL_len]; omega)
          obtain ⟨b4, f4, rfl, -⟩ := rq.cells (by rw [powL_len]; omega)
          clear hr1 hl1 hj1
          obtain ⟨-, -, -, -, hxa, hxb⟩ := HT.out.at (i := i) (j := j) (by omega)
          have j0 : (0 : Int) ≤ (j : Int) := by omega
          have j1 : (j : Int) < ((xs.length - i : Nat) : Int) := by omega
          have j2 : (i : Int) + (j : Int) < (xs.length : Int) := by omega
          have j3 : (j : Int) < (xs.length : Int) := by omega
          rw [bpT_0] at hO
          go_wp2_with fail
          go_loopw [15] (fun s wr => ∃ k : Nat, i ≤ k ∧ k ≤ xs.length ∧ s = .int .i64 k ∧ OwSU us lo hi wr (.slice (some ⟨g, 0, none⟩) xs.length cz) (bpT m xs.length (atT t) (powL m xs.length xs) (powL m xs.length ys) i j k j) ∧ Chg lo hi w3 wr) (fun i' _ => xs.length - (intOf i').toNat)
          case atStart => exact ⟨i, Nat.le_refl _, by omega, rfl, hO, hC⟩
          case round =>
            clear hO hC
            obtain ⟨k, hik, hk, rfl, hO, hC⟩ := hrel
            have Br2 := hC.below hb3 (by omega) b3s
            have Br := B2.trans (Br2.mono B2s)
            by_cases hkl : k < xs.length
            · have cx := keep_cell Br (Nat.le_refl _) cx0
              have ex := keep_cell Br (Nat.le_refl _) ex0
              have k0 : (0 : Int) ≤ (k : Int) := by omega
              have k1 : (k : Int) < (xs.length : Int) := by omega
              cases hx0 : (atT t i j != 0)
              · rw [bpT_skip (by simpa using hx0)] at hO
                go_wp2
                exact ⟨⟨j + 1, by omega, by go_num, hO, hC⟩, by simp [intOf]; omega⟩
              · obtain ⟨o5, c5, hu5, cx5, how5, hbl5, -⟩ := hO.at (bpT_row hkl)
                rw [bpR_len] at hu5 cx5 how5 hbl5
                obtain ⟨gr, rfl, hgr1, hgr2⟩ : ∃ gr, o5 = some ⟨gr, 0, none⟩ ∧ lo ≤ gr ∧ gr < wr.heap.size := how5.row (by omega)
                have hgr3 := hbl5 gr rfl
                have HU5 := Lib.hid hu5
                clear how5 hbl5 hu5
                go_wp2_with fail
                clear cx ex cx5
                go_loopw [17] (fun s wr => ∃ l : Nat, j ≤ l ∧ (l ≤ xs.length - k ∨ l = j) ∧ s = .int .i64 l ∧ OwSU us lo hi wr (.slice (some ⟨g, 0, none⟩) xs.length cz) (bpT m xs.length (atT t) (powL m xs.length xs) (powL m xs.length ys) i j k l) ∧ Chg lo hi w3 wr) (fun i' _ => xs.length - k - (intOf i').toNat)
                case atStart => exact ⟨j, Nat.le_refl _, .inr rfl, rfl, hO, hC⟩
                case round =>
                  clear hO hC Br2 Br
                  obtain ⟨l, hjl', hl, rfl, hO, hC⟩ := hrel
                  have Br2 := hC.below hb3 (by omega) b3s
                  have Br := B2.trans (Br2.mono B2s)
                  by_cases hll : l < xs.length - k
                  · have cx := keep_cell Br (Nat.le_refl _) cx0
                    have ex := keep_cell Br (Nat.le_refl _) ex0
                    have cp := keep_cell Br2 (Nat.le_refl _) y0
                    have cq := keep_cell Br2 (Nat.le_refl _) z0
                    have ep := (rp.below Br2 (Nat.le_refl _)).cell0 (some_at0 (show k < (powL m xs.length xs i).length by rw [powL_len]; omega))
                    have eq := (rq.below Br2 (Nat.le_refl _)).cell0 (some_at0 (show l < (powL m xs.length ys j).length by rw [powL_len]; omega))
                    obtain ⟨hpa, hpb⟩ := at0_range (m := m) (by omega) (powL_range (m := m) (n := xs.length) (a := xs) (k := i) (by omega)) k
                    obtain ⟨hqa, hqb⟩ := at0_range (m := m) (by omega) (powL_range (m := m) (n := xs.length) (a := ys) (k := j) (by omega)) l
                    obtain ⟨o6, c6, hu6, -, how6, -, hset6⟩ := hO.at (bpT_row hkl)
                    rw [bpR_len] at hu6 how6 hset6
                    obtain ⟨rfl, rfl⟩ : some ⟨gr, 0, none⟩ = o6 ∧ c5 = c6 := by rw [HU5.out] at hu6; simpa using hu6
                    have hc0 := how6.cell (k := l) (bpR_get (by omega))
                    have hf0 := how6.fz l
                    have hN := Lib.hid how6
                    have hS := Lib.hid hset6
                    have hSt := Lib.hid (bpT_set (m := m) (n := xs.length) (t := atT t) (P := powL m xs.length xs) (Q := powL m xs.length ys) hik hjl' (show k + l < xs.length by omega))
                    clear how6 hset6 hu6
                    have l0 : (0 : Int) ≤ (l : Int) := by omega
                    have l1 : (l : Int) < ((xs.length - k : Nat) : Int) := by omega
                    have l2 : (k : Int) + (l : Int) < (xs.length : Int) := by omega
                    have l3 : (l : Int) < (xs.length : Int) := by omega
                    generalize hP' : at0 (powL m xs.length xs i) k = pk at ep hpa hpb hSt
                    generalize hQ' : at0 (powL m xs.length ys j) l = ql at eq hqa hqb hSt
                    generalize hA' : botS xs.length (atT t) (powL m xs.length xs) (powL m xs.length ys) i j k l = sa at hc0 hSt
                    obtain ⟨hM0, hM1⟩ := prod_fits hxa hpa hxb hpb (show m ≤ 3000000000 by omega)
                    have hMm := mod_lt' (a := atT t i j * pk) (show 0 < m by omega)
                    obtain ⟨hN0, hN1⟩ := prod_fits hMm.1 hqa hMm.2 hqb (show m ≤ 3000000000 by omega)
                    have hCm := mod_lt' (a := sa) (show 0 < m by omega)
                    clear hP' hQ' hA'
                    go_wp2_with fail
                    have e3 : IntKind.i64.wrap (atT t i j * pk) = atT t i j * pk := IntWalk.i64_in _ (by omega)
                    have e4 : (atT t i j * pk).tmod m = atT t i j * pk % m := Int.tmod_eq_emod_of_nonneg (by omega)
                    have e5 : IntKind.i64.wrap (atT t i j * pk % m * ql) = atT t i j * pk % m * ql := IntWalk.i64_in _ (by omega)
                    have e1 : IntKind.i64.wrap (sa % m + atT t i j * pk % m * ql) = sa % m + atT t i j * pk % m * ql := IntWalk.i64_in _ (by omega)
                    have e2 : (sa % m + atT t i j * pk % m * ql).tmod m = (sa % m + atT t i j * pk % m * ql) % m := Int.tmod_eq_emod_of_nonneg (by omega)
                    go_still_tail 35, (by kernel_rfl)
                    change wpList _ _ _ _ _ wr.drew
                    have HE := Lib.hid (show (sa % m + atT t i j * pk % m * ql) % m = (sa + atT t i j * pk % m * ql) % m from emod_congr_add (emod_idem _ _) rfl)
                    have hg0 := gr_put (gr_drewN (World.grownBy.refl wr (some gr)) 1) l (.int .i64 ((sa % m + atT t i j * pk % m * ql) % m))
                    have hOn := hS.out _ _ (by rw [List.length_set, bpR_len]) hg0 ((hN.out.drewN 1).put l _)
                    have hCn := hC.grown hg0 hgr3.1 hgr3.2.1
                    rw [hSt.out, HE.out] at hOn
                    rw [HE.out] at hCn
                    go_wp2
                    exact ⟨⟨l + 1, by omega, by omega, by go_num, hOn, hCn⟩, by simp [intOf]; omega⟩
                  · rw [bpT_line (by omega)] at hO
                    have l2 : ¬ (k : Int) + (l : Int) < (xs.length : Int) := by omega
                    go_wp2
                    exact ⟨⟨k + 1, by omega, by omega, by go_num, hO, hC⟩, by simp [intOf]; omega⟩
            · obtain rfl : k = xs.length := by omega
              rw [bpT_all (powL_low HX0.out i) (powL_low HY0.out j)] at hO
              go_wp2
              exact ⟨⟨j + 1, by omega, by go_num, hO, hC⟩, by simp [intOf]; omega⟩
        · obtain rfl : j = xs.length - i := by omega
          rw [botTo_row rfl] at hO
          have j2 : ¬ (i : Int) + ((xs.length - i : Nat) : Int) < (xs.length : Int) := by omega
          go_wp2
          exact ⟨⟨i + 1, by omega, by go_num, hO, hC⟩, by simp [intOf]; omega⟩
    · obtain rfl : i = xs.length := by omega
      have Br2 := hC.below hb3 (by omega) b3s
      have Br := B2.trans (Br2.mono B2s)
      go_wp2
      go_ret
      exact ⟨_, rfl, hO.r.ow.mono (by omega), Br⟩

end Go.Proofs.Ytfpphfjlpgefaaa
set_option linter.unusedSimpArgs false
set_option linter.unusedVariables false
namespace Go.Proofs.Ytfpphfjlpgefaaa
open Go.RowKit

theorem botM_len (m : Int) (n : Nat) (t : List (List Int)) (a b : List Int) : (botL m n t a b).length = n := tri_len _ _
set_option maxHeartbeats 400000 in
theorem l03Both2_c (m : Int) (n : Nat) (v u : Value) (t : List (List Int)) (xs : List Int) (w : World) (hv : RdT w v t) (hu : RdI w u xs) (hlx : xs.length = n) (h1 : 1 ≤ n) (hn : n ≤ 1000) (hm : 2 ≤ m) (hm' : m ≤ 10000)
    (ht : PlaT m n t) (hx : ∀ x ∈ xs, 0 ≤ x ∧ x < m) (hx0 : at0 xs 0 = 0) :
    Calls Try.prog 43 #[.int .i64 m, v, u] w fun e w' => ∃ v', e = .returned v' ∧ OwS w' w.heap.size v' (botL m n t xs xs) ∧ Below w.heap.size w w' := by
  have HX := Lib.hid hx0
  clear hx0
  go_enter Try.func43, Try.ntmps43
  go_wp2_with fail
  refine (l03Both_c m n _ _ _ t xs xs _ hv hu hu hlx hlx h1 hn hm hm' ht hx hx HX.out HX.out).mono ?_
  rintro e w1 ⟨v', rfl, how, hb⟩
  go_wp2
  go_ret
  exact ⟨_, rfl, how, hb⟩

end Go.Proofs.Ytfpphfjlpgefaaa
set_option linter.unusedSimpArgs false
set_option linter.unusedVariables false
namespace Go.Proofs.Ytfpphfjlpgefaaa
open Go.RowKit

structure BR where
  val : Bool
  code : Int
end Go.Proofs.Ytfpphfjlpgefaaa
set_option linter.unusedSimpArgs false
set_option linter.unusedVariables false
namespace Go.Proofs.Ytfpphfjlpgefaaa
open Go.RowKit

def homB (m : Int) (n : Nat) (t s : List (List Int)) (xs : List Int) : Bool := eqTB (hornT m n t xs) (botL m n s xs xs)
set_option maxHeartbeats 2000000 in
set_option maxRecDepth 100000 in
theorem isHomomorphism_c (m : Int) (n : Nat) (v u u' : Value) (t s : List (List Int)) (xs : List Int) (b : Bool) (w : World) (hv : RdT w v t) (hu : RdT w u s) (hu' : RdI w u' xs) (hl : xs.length = n) (h1 : 2 ≤ n) (hn : n ≤ 1000) (hm : 2 ≤ m) (hm' : m ≤ 10000) (ht : PlaT m n t) (hs : PlaT m n s)
    (hx : ∀ x ∈ xs, 0 ≤ x ∧ x < m) (hb : homB m n t s xs = b) :
    Calls Try.prog 38 #[.agg #[.int .i64 m, v], .agg #[.int .i64 m, u], .agg #[.int .i64 m, u']] w fun e w' => e = .returned (.bool b) ∧ Below w.heap.size w w' := by
  subst hl
  obtain ⟨o, c, rfl, -, -⟩ := id hv
  obtain ⟨o1, c1, rfl, -, -⟩ := id hu
  obtain ⟨o2, c2, rfl, -, -⟩ := id hu'
  have hv2 : RdT w (.slice o xs.length c) t := by rw [ht.1] at hv; exact hv
  have hu2 : RdT w (.slice o1 xs.length c1) s := by rw [hs.1] at hu; exact hu
  rw [ht.1, hs.1]
  have HT := Lib.hid ht
  have HS := Lib.hid hs
  have HTh := Lib.hid (hornT_len m xs.length t xs)
  have HBl := Lib.hid (botM_len m xs.length s xs xs)
  have HE := Lib.hid (show eqPB m (hornT m xs.length t xs) m (botL m xs.length s xs xs) = b by simp [eqPB, ← hb, homB])
  clear ht hs hv hu hb
  go_enter Try.func38, Try.ntmps38
  go_wp2_with fail
  (have X0 := ((RB2.mk1 w  (.int .i64 m) (.slice o xs.length c) 29).1).below (w' := (((w.alloc (.cells #[.int .i64 m, .slice o xs.length c] 29)).alloc (.cells #[.int .i64 m, .slice o1 xs.length c1] 29)).alloc (.cells #[.int .i64 m, .slice o2 xs.length c2] 41))) (by (repeat (first | exact bR _ _ | (refine bS ?_ _) | (refine bA ?_ _) | (refine bN ?_ _) | (refine bD ?_)))) (Nat.le_refl _); have Y0 := ((RB2.mk2 w (.cells #[.int .i64 m, .slice o xs.length c] 29) (.int .i64 m) (.slice o1 xs.length c1) 29).1).below (w' := (((w.alloc (.cells #[.int .i64 m, .slice o xs.length c] 29)).alloc (.cells #[.int .i64 m, .slice o1 xs.length c1] 29)).alloc (.cells #[.int .i64 m, .slice o2 xs.length c2] 41))) (by (repeat (first | exact bR _ _ | (refine bS ?_ _) | (refine bA ?_ _) | (refine bN ?_ _) | (refine bD ?_)))) (Nat.le_refl _); have Z0 := ((RB2.mk3 w (.cells #[.int .i64 m, .slice o xs.length c] 29) (.cells #[.int .i64 m, .slice o1 xs.length c1] 29) (.int .i64 m) (.slice o2 xs.length c2) 41).1).below (w' := (((w.alloc (.cells #[.int .i64 m, .slice o xs.length c] 29)).alloc (.cells #[.int .i64 m, .slice o1 xs.length c1] 29)).alloc (.cells #[.int .i64 m, .slice o2 xs.length c2] 41))) (by (repeat (first | exact bR _ _ | (refine bS ?_ _) | (refine bA ?_ _) | (refine bN ?_ _) | (refine bD ?_)))) (Nat.le_refl _); have B0 : Below w.heap.size w (((w.alloc (.cells #[.int .i64 m, .slice o xs.length c] 29)).alloc (.cells #[.int .i64 m, .slice o1 xs.length c1] 29)).alloc (.cells #[.int .i64 m, .slice o2 xs.length c2] 41)) := (by (repeat (first | exact bR _ _ | (refine bS ?_ _) | (refine bA ?_ _) | (refine bN ?_ _) | (refine bD ?_)))); have hv20 := hv2.below (w' := (((w.alloc (.cells #[.int .i64 m, .slice o xs.length c] 29)).alloc (.cells #[.int .i64 m, .slice o1 xs.length c1] 29)).alloc (.cells #[.int .i64 m, .slice o2 xs.length c2] 41))) (by (repeat (first | exact bR _ _ | (refine bS ?_ _) | (refine bA ?_ _) | (refine bN ?_ _) | (refine bD ?_)))) (Nat.le_refl _); have hu20 := hu2.below (w' := (((w.alloc (.cells #[.int .i64 m, .slice o xs.length c] 29)).alloc (.cells #[.int .i64 m, .slice o1 xs.length c1] 29)).alloc (.cells #[.int .i64 m, .slice o2 xs.length c2] 41))) (by (repeat (first | exact bR _ _ | (refine bS ?_ _) | (refine bA ?_ _) | (refine bN ?_ _) | (refine bD ?_)))) (Nat.le_refl _); have hu'0 := hu'.below (w' := (((w.alloc (.cells #[.int .i64 m, .slice o xs.length c] 29)).alloc (.cells #[.int .i64 m, .slice o1 xs.length c1] 29)).alloc (.cells #[.int .i64 m, .slice o2 xs.length c2] 41))) (by (repeat (first | exact bR _ _ | (refine bS ?_ _) | (refine bA ?_ _) | (refine bN ?_ _) | (refine bD ?_)))) (Nat.le_refl _); generalize ((w.alloc (.cells #[.int .i64 m, .slice o xs.length c] 29)).alloc (.cells #[.int .i64 m, .slice o1 xs.length c1] 29)).alloc (.cells #[.int .i64 m, .slice o2 xs.length c2] 41) = w0 at X0 Y0 Z0 B0 hv20 hu20 hu'0 ⊢)
  have hne2 : ¬ (w.heap.size + 2 = w.heap.size) := by omega
  have B0s := B0.size
  go_wp2_with fail
  have hd0 : Below w0.heap.size w0 w0.drew := (Below.refl _ _).drew
  have hsd0 := hd0.size
  obtain ⟨f0_a, f0_b⟩ := ((X0).below (Below.refl w0.heap.size w0) (Nat.le_refl _))
  obtain ⟨f0_c, f0_d⟩ := ((Y0).below (Below.refl w0.heap.size w0) (Nat.le_refl _))
  obtain ⟨f0_e, f0_f⟩ := ((Z0).below (Below.refl w0.heap.size w0) (Nat.le_refl _))
  refine wp_region_K (S := fun w' => w'.cell? ⟨w.heap.size, 0, none⟩ = some (.int .i64 m) ∧ w'.cell? ⟨w.heap.size, 1, none⟩ = some (.slice o xs.length c) ∧ w'.cell? ⟨w.heap.size + 1, 0, none⟩ = some (.int .i64 m) ∧ w'.cell? ⟨w.heap.size + 1, 1, none⟩ = some (.slice o1 xs.length c1) ∧ w'.cell? ⟨w.heap.size + 2, 0, none⟩ = some (.int .i64 m) ∧ w'.cell? ⟨w.heap.size + 2, 1, none⟩ = some (.slice o2 xs.length c2)) [] (by kernel_rfl) ?_
  have hHeld : (fun w' : World => w'.cell? ⟨w.heap.size, 0, none⟩ = some (.int .i64 m) ∧ w'.cell? ⟨w.heap.size, 1, none⟩ = some (.slice o xs.length c) ∧ w'.cell? ⟨w.heap.size + 1, 0, none⟩ = some (.int .i64 m) ∧ w'.cell? ⟨w.heap.size + 1, 1, none⟩ = some (.slice o1 xs.length c1) ∧ w'.cell? ⟨w.heap.size + 2, 0, none⟩ = some (.int .i64 m) ∧ w'.cell? ⟨w.heap.size + 2, 1, none⟩ = some (.slice o2 xs.length c2)) w0.drew := by go_keep
  refine' wpAnyK_takeL (i := 0) (v := _) rfl (by kernel_rfl) (by kernel_rfl) (by kernel_rfl) (by kernel_rfl) (fun _ _ _ h => h) (Or.inl ⟨by rfl, ?yT1⟩) hHeld ?rT1
  case yT1 => (intro w' hSw; (try dsimp only at hSw); go_simp; try with_reducible rfl)
  try simp only [List.getElem_toArray, List.getElem_cons_zero, List.getElem_cons_succ, Act.put, List.setIfInBounds_toArray, List.set_cons_zero, List.set_cons_succ]
  refine' wpAnyK_takeL (i := 1) (v := _) rfl (by kernel_rfl) (by kernel_rfl) (by kernel_rfl) (by kernel_rfl) (fun _ _ _ h => h) (Or.inl ⟨by rfl, ?yT2⟩) hHeld ?rT2
  case yT2 => (intro w' hSw; (try dsimp only at hSw); go_simp; try with_reducible rfl)
  try simp only [List.getElem_toArray, List.getElem_cons_zero, List.getElem_cons_succ, Act.put, List.setIfInBounds_toArray, List.set_cons_zero, List.set_cons_succ]
  refine' wpAnyK_takeL (i := 3) (v := _) rfl (by kernel_rfl) (by kernel_rfl) (by kernel_rfl) (by kernel_rfl) (fun _ _ _ h => h) (Or.inl ⟨by rfl, ?yT3⟩) hHeld ?rT3
  case yT3 => (intro w' hSw; (try dsimp only at hSw); go_simp; try with_reducible rfl)
  try simp only [List.getElem_toArray, List.getElem_cons_zero, List.getElem_cons_succ, Act.put, List.setIfInBounds_toArray, List.set_cons_zero, List.set_cons_succ]
  refine' wpAnyK_takeL (i := 4) (v := _) rfl (by kernel_rfl) (by kernel_rfl) (by kernel_rfl) (by kernel_rfl) (fun _ _ _ h => h) (Or.inl ⟨by rfl, ?yT4⟩) hHeld ?rT4
  case yT4 => (intro w' hSw; (try dsimp only at hSw); go_simp; try with_reducible rfl)
  try simp only [List.getElem_toArray, List.getElem_cons_zero, List.getElem_cons_succ, Act.put, List.setIfInBounds_toArray, List.set_cons_zero, List.set_cons_succ]
  refine' wpAnyK_takeL (i := 5) (v := _) rfl (by kernel_rfl) (by kernel_rfl) (by kernel_rfl) (by kernel_rfl) (fun _ _ _ h => h) (Or.inl ⟨by rfl, ?yT5⟩) hHeld ?rT5
  case yT5 => (intro w' hSw; (try dsimp only at hSw); go_simp; try with_reducible rfl)
  try simp only [List.getElem_toArray, List.getElem_cons_zero, List.getElem_cons_succ, Act.put, List.setIfInBounds_toArray, List.set_cons_zero, List.set_cons_succ]
  refine wpAnyK_oneL (i := 2) rfl (by kernel_rfl) (fun K hK => ?_)
  go_simp
  go_at_call 48
  refine (ofS_c m m xs.length _ _ xs t _ ((hu'0).below (by (repeat (first | exact bR _ _ | (refine bS ?_ _) | (refine bA ?_ _) | (refine bN ?_ _) | (refine bD ?_)))) (Nat.le_refl _)) ((hv20).below (by (repeat (first | exact bR _ _ | (refine bS ?_ _) | (refine bA ?_ _) | (refine bN ?_ _) | (refine bD ?_)))) (Nat.le_refl _)) (by omega) (by omega) (by omega) (by omega) hm (by omega) hx HT.out).mono ?_
  rintro e wd1 ⟨vl, rfl, hod1, hbd1⟩
  obtain ⟨ol, cl, rfl⟩ := hod1.shapeN (n := xs.length) HTh.out
  have hd1 : Below w0.heap.size w0 wd1 := (by (repeat (first | exact bR _ _ | (refine bS ?_ _) | (refine bA ?_ _) | (refine bN ?_ _) | (refine bD ?_) | (refine bT ?_ hbd1))))
  have hsd1 := hd1.size
  have hsz1_ := hbd1.size
  (try simp at hsz1_)
  obtain ⟨f1_a, f1_b⟩ := ((X0).below hd1 (Nat.le_refl _))
  obtain ⟨f1_c, f1_d⟩ := ((Y0).below hd1 (Nat.le_refl _))
  obtain ⟨f1_e, f1_f⟩ := ((Z0).below hd1 (Nat.le_refl _))
  go_wp2_with fail
  clear hHeld
  have hHeld : (fun w' : World => w'.cell? ⟨w.heap.size, 0, none⟩ = some (.int .i64 m) ∧ w'.cell? ⟨w.heap.size, 1, none⟩ = some (.slice o xs.length c) ∧ w'.cell? ⟨w.heap.size + 1, 0, none⟩ = some (.int .i64 m) ∧ w'.cell? ⟨w.heap.size + 1, 1, none⟩ = some (.slice o1 xs.length c1) ∧ w'.cell? ⟨w.heap.size + 2, 0, none⟩ = some (.int .i64 m) ∧ w'.cell? ⟨w.heap.size + 2, 1, none⟩ = some (.slice o2 xs.length c2)) wd1 := by go_keep
  refine hK.out _ _ (fun _ => hHeld) ?_
  clear hK K
  try simp only [List.getElem_toArray, List.getElem_cons_zero, List.getElem_cons_succ, Act.put, List.setIfInBounds_toArray, List.set_cons_zero, List.set_cons_succ]
  refine wpAnyK_oneL (i := 6) rfl (by kernel_rfl) (fun K hK => ?_)
  go_simp
  go_at_call 50
  refine (bothP_c m xs.length _ _ _ s xs xs _ ((hu20).below (by (repeat (first | exact bR _ _ | (refine bS ?_ _) | (refine bA ?_ _) | (refine bN ?_ _) | (refine bD ?_) | (refine bT ?_ hbd1)))) (Nat.le_refl _)) ((hu'0).below (by (repeat (first | exact bR _ _ | (refine bS ?_ _) | (refine bA ?_ _) | (refine bN ?_ _) | (refine bD ?_) | (refine bT ?_ hbd1)))) (Nat.le_refl _)) ((hu'0).below (by (repeat (first | exact bR _ _ | (refine bS ?_ _) | (refine bA ?_ _) | (refine bN ?_ _) | (refine bD ?_) | (refine bT ?_ hbd1)))) (Nat.le_refl _)) rfl rfl (by omega) (by omega) hm hm' HS.out hx hx).mono ?_
  rintro e wd2 ⟨vb, rfl, hod2, hbd2⟩
  obtain ⟨ob, cb, rfl⟩ := hod2.shapeN (n := xs.length) HBl.out
  have hd2 : Below w0.heap.size w0 wd2 := (by (repeat (first | exact bR _ _ | (refine bS ?_ _) | (refine bA ?_ _) | (refine bN ?_ _) | (refine bD ?_) | (refine bT ?_ hbd1) | (refine bT ?_ hbd2))))
  have hsd2 := hd2.size
  have hsz2_ := hbd2.size
  (try simp at hsz2_)
  obtain ⟨f2_a, f2_b⟩ := ((X0).below hd2 (Nat.le_refl _))
  obtain ⟨f2_c, f2_d⟩ := ((Y0).below hd2 (Nat.le_refl _))
  obtain ⟨f2_e, f2_f⟩ := ((Z0).below hd2 (Nat.le_refl _))
  go_wp2_with fail
  clear hHeld
  have hHeld : (fun w' : World => w'.cell? ⟨w.heap.size, 0, none⟩ = some (.int .i64 m) ∧ w'.cell? ⟨w.heap.size, 1, none⟩ = some (.slice o xs.length c) ∧ w'.cell? ⟨w.heap.size + 1, 0, none⟩ = some (.int .i64 m) ∧ w'.cell? ⟨w.heap.size + 1, 1, none⟩ = some (.slice o1 xs.length c1) ∧ w'.cell? ⟨w.heap.size + 2, 0, none⟩ = some (.int .i64 m) ∧ w'.cell? ⟨w.heap.size + 2, 1, none⟩ = some (.slice o2 xs.length c2)) wd2 := by go_keep
  refine hK.out _ _ (fun _ => hHeld) ?_
  clear hK K
  try simp only [List.getElem_toArray, List.getElem_cons_zero, List.getElem_cons_succ, Act.put, List.setIfInBounds_toArray, List.set_cons_zero, List.set_cons_succ]
  refine wpAnyK_oneL (i := 7) rfl (by kernel_rfl) (fun K hK => ?_)
  go_simp
  go_at_call 49
  refine (sameP_c m m _ _ (hornT m xs.length t xs) (botL m xs.length s xs xs) _ ((hod1.below (by (repeat (first | exact bR _ _ | (refine bS ?_ _) | (refine bA ?_ _) | (refine bN ?_ _) | (refine bD ?_) | (refine bT ?_ hbd2)))))).rd ((hod2.below (by (repeat (first | exact bR _ _ | (refine bS ?_ _) | (refine bA ?_ _) | (refine bN ?_ _) | (refine bD ?_)))))).rd).mono ?_
  rintro e wd3 ⟨hq, hbd3⟩
  rw [HE.out] at hq; subst hq
  have hd3 : Below w0.heap.size w0 wd3 := (by (repeat (first | exact bR _ _ | (refine bS ?_ _) | (refine bA ?_ _) | (refine bN ?_ _) | (refine bD ?_) | (refine bT ?_ hbd1) | (refine bT ?_ hbd2) | (refine bT ?_ hbd3))))
  have hsd3 := hd3.size
  have hsz3_ := hbd3.size
  (try simp at hsz3_)
  obtain ⟨f3_a, f3_b⟩ := ((X0).below hd3 (Nat.le_refl _))
  obtain ⟨f3_c, f3_d⟩ := ((Y0).below hd3 (Nat.le_refl _))
  obtain ⟨f3_e, f3_f⟩ := ((Z0).below hd3 (Nat.le_refl _))
  go_wp2_with fail
  clear hHeld
  have hHeld : (fun w' : World => w'.cell? ⟨w.heap.size, 0, none⟩ = some (.int .i64 m) ∧ w'.cell? ⟨w.heap.size, 1, none⟩ = some (.slice o xs.length c) ∧ w'.cell? ⟨w.heap.size + 1, 0, none⟩ = some (.int .i64 m) ∧ w'.cell? ⟨w.heap.size + 1, 1, none⟩ = some (.slice o1 xs.length c1) ∧ w'.cell? ⟨w.heap.size + 2, 0, none⟩ = some (.int .i64 m) ∧ w'.cell? ⟨w.heap.size + 2, 1, none⟩ = some (.slice o2 xs.length c2)) wd3 := by go_keep
  refine hK.out _ _ (fun _ => hHeld) ?_
  clear hK K
  try simp only [List.getElem_toArray, List.getElem_cons_zero, List.getElem_cons_succ, Act.put, List.setIfInBounds_toArray, List.set_cons_zero, List.set_cons_succ]
  refine wpAnyK_oneL (i := 8) rfl (by kernel_rfl) (fun K hK => ?_)
  go_simp
  (try go_wp2_with fail)
  refine hK.out _ _ (fun _ => hHeld) ?_
  clear hK K
  try simp only [List.getElem_toArray, List.getElem_cons_zero, List.getElem_cons_succ, Act.put, List.setIfInBounds_toArray, List.set_cons_zero, List.set_cons_succ]
  refine wpAnyK_done (by kernel_rfl) ?_ _
  go_wp2_with fail
  have B1 := B0.trans (hd3.mono B0s)
  go_wp2
  go_ret
  exact ⟨rfl, B1⟩

set_option maxHeartbeats 2000000 in
set_option maxRecDepth 100000 in
theorem l06Fits_c (m : Int) (n : Nat) (v u u' : Value) (t s : List (List Int)) (xs : List Int) (w : World) (hv : RdT w v t) (hu : RdT w u s) (hu' : RdI w u' xs) (hl : xs.length = n) (h1 : 1 ≤ n) (hn : n ≤ 1000) (hm : 2 ≤ m) (hm' : m ≤ 10000) (ht : PlaT m n t) (hs : PlaT m n s)
    (hx : ∀ x ∈ xs, 0 ≤ x ∧ x < m) (hx0 : at0 xs 0 = 0) :
    Calls Try.prog 29 #[.int .i64 m, v, u, u'] w fun e w' => e = .returned (.bool (homB m n t s xs)) ∧ Below w.heap.size w w' := by
  have H0 := Lib.hid hx0
  clear hx0
  go_enter Try.func29, Try.ntmps29
  go_wp2_with fail
  refine (l03After_c m n _ _ xs t _ hu' hv (by omega) (by omega) (by omega) (by omega) (by omega) hx ht).mono ?_
  rintro e w1 ⟨vl, rfl, hol, B1⟩
  obtain ⟨ol, cl, rfl⟩ := hol.shapeN (n := n) (hornT_len _ _ _ _)
  go_wp2_with fail
  refine (l03Both2_c m n _ _ s xs _ (hu.below B1 (Nat.le_refl _)) (hu'.below B1 (Nat.le_refl _)) hl (by omega) (by omega) hm hm' hs hx H0.out).mono ?_
  rintro e w2 ⟨vb, rfl, hob, hb2⟩
  obtain ⟨ob, cb, rfl⟩ := hob.shapeN (n := n) (botM_len _ _ _ _ _)
  have B2 := B1.trans (hb2.mono B1.size)
  go_wp2_with fail
  refine (l01Same2_c _ _ (hornT m n t xs) (botL m n s xs xs) _ (hol.rd.below hb2 (Nat.le_refl _)) hob.rd).mono ?_
  rintro e w3 ⟨rfl, d, rfl⟩
  go_wp2
  go_ret
  exact ⟨rfl, (by (repeat (first | exact bR _ _ | (refine bS ?_ _) | (refine bA ?_ _) | (refine bN ?_ _) | (refine bD ?_) | (refine bT ?_ B2))))⟩

end Go.Proofs.Ytfpphfjlpgefaaa
set_option linter.unusedSimpArgs false
set_option linter.unusedVariables false
namespace Go.Proofs.Ytfpphfjlpgefaaa
open Go.RowKit

set_option maxHeartbeats 400000 in
theorem copyOfI_c (ad : Addr) (n c : Nat) (ys : List Int) (w : World) (hr : RdI w (.slice (some ad) n c) ys) (hn : ys.length ≤ 1048576) :
    Calls Try.prog 47 #[.slice (some ad) n c] w fun e w' => ∃ v', e = .returned v' ∧ OwI w' w.heap.size v' ys ∧ Below w.heap.size w w' := by
  have hr' := hr.below (w' := w.alloc (.cells #[] 2)) ((by (repeat (first | exact bR _ _ | (refine bS ?_ _) | (refine bA ?_ _) | (refine bN ?_ _) | (refine bD ?_))))) (Nat.le_refl _)
  go_enter Try.func47, Try.ntmps47
  go_wp2_with (at_builtin; refine apR _ rfl _ _ rfl w.heap.size _ [] rfl (OwI.lit w [] (Nat.zero_le _)) ad n c ys rfl hr' (by simp; omega) (by simp) ?_; intro o1 c1 w1 how hgr hb; clear hgr)
  go_ret
  exact ⟨_, rfl, how, by refine Below.trans ?_ hb; (repeat (first | exact bR _ _ | (refine bS ?_ _) | (refine bA ?_ _) | (refine bN ?_ _) | (refine bD ?_)))⟩
set_option maxHeartbeats 400000 in
theorem l01Own_c (ad : Addr) (n c : Nat) (ys : List Int) (w : World) (hr : RdI w (.slice (some ad) n c) ys) (hn : ys.length ≤ 1048576) :
    Calls Try.prog 44 #[.slice (some ad) n c] w fun e w' => ∃ v', e = .returned v' ∧ OwI w' w.heap.size v' ys ∧ Below w.heap.size w w' := by
  have hr' := hr.below (w' := w.alloc (.cells #[] 2)) ((by (repeat (first | exact bR _ _ | (refine bS ?_ _) | (refine bA ?_ _) | (refine bN ?_ _) | (refine bD ?_))))) (Nat.le_refl _)
  go_enter Try.func44, Try.ntmps44
  go_wp2_with (at_builtin; refine apR _ rfl _ _ rfl w.heap.size _ [] rfl (OwI.lit w [] (Nat.zero_le _)) ad n c ys rfl hr' (by simp; omega) (by simp) ?_; intro o1 c1 w1 how hgr hb; clear hgr)
  go_ret
  exact ⟨_, rfl, how, by refine Below.trans ?_ hb; (repeat (first | exact bR _ _ | (refine bS ?_ _) | (refine bA ?_ _) | (refine bN ?_ _) | (refine bD ?_)))⟩

end Go.Proofs.Ytfpphfjlpgefaaa
set_option linter.unusedSimpArgs false
set_option linter.unusedVariables false
namespace Go.Proofs.Ytfpphfjlpgefaaa
open Go.RowKit

def cutRows (k i : Nat) (t : List (List Int)) : List (List Int) := (List.range i).map (fun r => mk (k - r) (atT t r))
theorem cutRows_len (k i : Nat) (t : List (List Int)) : (cutRows k i t).length = i := by simp [cutRows]
theorem cutRows_snoc (k i : Nat) (t : List (List Int)) : cutRows k (i + 1) t = cutRows k i t ++ [mk (k - i) (atT t i)] := tri_snoc_rows k i _
theorem take_row {m : Int} {n k i : Nat} {t : List (List Int)} (ht : PlaT m n t) (hi : i < k) (hk : k ≤ n) {row : List Int} (hr : t[i]? = some row) : row.take (k - i) = mk (k - i) (atT t i) := by
  obtain ⟨hl, rfl⟩ := List.getElem?_eq_some_iff.1 hr
  have e := (ht.2 i hl).1
  rw [ht.1] at e
  rw [eq_mk (t[i].take (k - i)), List.length_take, e, show min (k - i) (n - i) = k - i by omega]
  exact mk_ext fun j hj => by rw [at0_take hj, atT_row hl]

set_option maxHeartbeats 1000000 in
set_option maxRecDepth 100000 in
theorem l03Cut_c (m d : Int) (n k : Nat) (v : Value) (t : List (List Int)) (w : World) (hv : RdT w v t) (ht : PlaT m n t) (hd : d = (k : Int) - 1) (h1 : 1 ≤ k) (hk : k ≤ n) (hn : n ≤ 1000) :
    Calls Try.prog 30 #[v, .int .i64 d] w fun e w' => ∃ v', e = .returned v' ∧ OwS w' w.heap.size v' (cutT k t) ∧ Below w.heap.size w w' := by
  subst hd
  obtain ⟨o, c, rfl, hmt, -⟩ := id hv
  have hv' : RdT w (.slice o n c) t := by rw [ht.1] at hv; exact hv
  rw [ht.1]
  have HT := Lib.hid ht
  clear ht hv hmt
  go_enter Try.func30, Try.ntmps30
  go_wp2_with fail
  have O1 := OwS.lit0 w
  have hb1 : Below w.heap.size w (w.alloc (.cells #[] 39)) := (by (repeat (first | exact bR _ _ | (refine bS ?_ _) | (refine bA ?_ _) | (refine bN ?_ _) | (refine bD ?_))))
  generalize w.alloc (.cells #[] 39) = w1 at O1 hb1 ⊢
  go_loopw [5, 6] (fun l i wr => ∃ r : Nat, r ≤ k ∧ i = .int .i64 r ∧ OwS wr w.heap.size l (cutRows k r t) ∧ Below w.heap.size w wr) (fun _ i _ => k - (intOf i).toNat)
  case atStart => exact ⟨0, Nat.zero_le _, rfl, O1, hb1⟩
  case round =>
    clear O1 hb1
    obtain ⟨r, hr, rfl, hO, hB⟩ := hrel
    have hBs := hB.size
    obtain ⟨ol, cl, rfl⟩ := hO.shapeN (n := r) (cutRows_len _ _ _)
    by_cases hlt : r < k
    · obtain ⟨row, hr1, hl1, hj1⟩ := HT.out.row (show r < n by omega)
      have hvr := hv'.below hB (Nat.le_refl _)
      obtain ⟨bt, ft, rfl, -⟩ := hvr.rows (by have := HT.out.1; omega)
      obtain ⟨o1, c1, cx, rx⟩ := hvr.row hr1
      obtain ⟨b1, f1, rfl, -⟩ := rx.cells (by omega)
      have hcap := rx.len
      have rt := rx.take (k - r) (by omega)
      rw [take_row HT.out hlt hk hr1] at rt
      have HS := Lib.hid (cutRows_snoc k r t)
      have HL := Lib.hid (cutRows_len k r t)
      generalize cutRows k r t = l at hO HS HL
      have i0 : (0 : Int) ≤ (r : Int) := by omega
      have i1 : (r : Int) < (n : Int) := by omega
      have i2 : (r : Int) ≤ (k : Int) - 1 := by omega
      have e1 : IntKind.i64.wrap ((k : Int) - 1 - (r : Int)) = (k : Int) - 1 - (r : Int) := IntWalk.i64_in _ (by omega)
      have e2 : (k : Int) - 1 - (r : Int) + 1 = ((k - r : Nat) : Int) := by omega
      have e3 : IntKind.i64.wrap ((k - r : Nat) : Int) = ((k - r : Nat) : Int) := IntWalk.i64_in _ (by omega)
      have e4 : (((k - r : Nat) : Int)).toNat = k - r := by omega
      have e5 : ((k - r : Nat) : Int) ≤ (c1 : Int) := by omega
      have e6 : (0 : Int) ≤ ((k - r : Nat) : Int) := by omega
      clear hr1 hj1
      have hrk : k - r ≤ 1048576 := by omega
      go_wp2_with (first
        | (go_at_call 44; go_loud (refine (l01Own_c ⟨b1, f1, none⟩ (k - r) c1 (mk (k - r) (atT t r)) _ rt (by rw [mk_len]; exact hrk)).mono ?_; rintro e w3 ⟨vo, rfl, how, hb3⟩; obtain ⟨oa, ca, rfl⟩ := how.shapeN (n := k - r) (mk_len _ _); have hz3 := hb3.size))
        | (at_builtin; obtain ⟨W, hW⟩ : ∃ W : World, W = w3.alloc (.cells #[.slice oa (k - r) ca] 39) := ⟨_, rfl⟩; have hWb : Below wr.heap.size wr W := (by rw [hW]; exact (by (repeat (first | exact bR _ _ | (refine bS ?_ _) | (refine bA ?_ _) | (refine bN ?_ _) | (refine bD ?_) | (refine bT ?_ hb3))))); have hT : OwSR w.heap.size wr.heap.size W (.slice ol r cl) l := hO.toR.stay (fun j _ hj => hWb.block j hj); have hU : OwI W wr.heap.size (.slice oa (k - r) ca) (mk (k - r) (atT t r)) := (by rw [hW]; exact how.alloc _); have hC : W.cell? ⟨w3.heap.size, 0, none⟩ = some (.slice oa (k - r) ca) := (by rw [hW]; simp); have B3 := hB.trans (hWb.mono hBs); have hWs := hWb.size; rw [← hW]; have HW := Lib.hid hW; clear hW; go_loud (refine apT W rfl _ _ rfl w.heap.size wr.heap.size _ _ rfl hT (by omega) hBs _ _ w3.heap.size rfl hC hU (by rw [HL.out]; omega) ?_; intro g2 cap w4 hO4 hgr hb4; clear hgr; have B4 := B3.trans hb4)))
      rw [← HS.out] at hO4
      exact ⟨⟨r + 1, by omega, by go_num, hO4, B4⟩, by simp [intOf]; omega⟩
    · obtain rfl : r = k := by omega
      have i2 : ¬ (r : Int) ≤ (r : Int) - 1 := by omega
      go_wp2
      go_ret
      exact ⟨_, rfl, hO, hB⟩

end Go.Proofs.Ytfpphfjlpgefaaa
set_option linter.unusedSimpArgs false
set_option linter.unusedVariables false
namespace Go.Proofs.Ytfpphfjlpgefaaa
open Go.RowKit

def largeB (m : Int) : Nat → Int → Bool
  | 0, _ => false
  | k + 1, a => if 20000 < a * m then true else largeB m k (a * m)
set_option maxHeartbeats 1000000 in
set_option maxRecDepth 100000 in
theorem l06Large_c (m d : Int) (k : Nat) (w : World) (hd : d = (k : Int)) (hk : k ≤ 1000) (hm : 2 ≤ m) (hm' : m ≤ 10000) :
    Calls Try.prog 28 #[.int .i64 m, .int .i64 d] w fun e w' => e = .returned (.bool (largeB m k 1)) ∧ w = w' := by
  subst hd
  go_enter Try.func28, Try.ntmps28
  go_wp2
  go_loop [1, 5] (fun i a => ∃ (j : Nat) (x : Int), j ≤ k ∧ i = .int .i64 j ∧ a = .int .i64 x ∧ 0 ≤ x ∧ x ≤ 20000 ∧ largeB m j x = largeB m k 1) (fun i _ => (intOf i).toNat)
  case atStart => exact ⟨k, 1, Nat.le_refl _, rfl, rfl, by omega, by omega, rfl⟩
  case round =>
    obtain ⟨j, x, hj, rfl, rfl, hx0, hx1, hR⟩ := hrel
    by_cases hlt : j = 0
    · subst hlt
      have hR2 : largeB m k 1 = false := hR.symm
      go_wp2
      go_ret
      exact ⟨rfl, rfl⟩
    · obtain ⟨i, rfl⟩ : ∃ i, j = i + 1 := ⟨j - 1, by omega⟩
      have i0 : (0 : Int) < ((i + 1 : Nat) : Int) := by omega
      have hb : 0 ≤ x * m ∧ x * m ≤ 20000 * 10000 := ⟨Int.mul_nonneg hx0 (by omega), Int.mul_le_mul hx1 hm' (by omega) (by omega)⟩
      have e0 : IntKind.i64.wrap (x * m) = x * m := IntWalk.i64_in _ (by omega)
      have e1 : IntKind.i64.wrap (((i + 1 : Nat) : Int) - 1) = ((i + 1 : Nat) : Int) - 1 := IntWalk.i64_in _ (by omega)
      by_cases hq : 20000 < x * m
      · have hR2 : largeB m k 1 = true := by rw [← hR]; unfold largeB; rw [if_pos hq]
        clear hR
        go_wp2
        go_ret
        exact ⟨rfl, rfl⟩
      · have hR2 : largeB m i (x * m) = largeB m k 1 := by rw [← hR]; conv => rhs; unfold largeB; rw [if_neg hq]
        clear hR
        go_wp2
        exact ⟨⟨i, x * m, by omega, by go_num, rfl, hb.1, by omega, hR2⟩, by simp [intOf]⟩
end Go.Proofs.Ytfpphfjlpgefaaa
