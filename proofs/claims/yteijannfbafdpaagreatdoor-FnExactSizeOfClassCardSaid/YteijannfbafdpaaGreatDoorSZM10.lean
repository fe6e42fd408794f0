/- Lemmas. -/
import Derived.Test.YteijannfbafdpaaGreatDoorSZG15
import Derived.Test.YteijannfbafdpaaGreatDoorSZG1
import Derived.Test.YteijannfbafdpaaGreatDoorSZM8
import Derived.Test.YteijannfbafdpaaGreatDoorSZG2
import Derived.Test.YteijannfbafdpaaGreatDoorSZSza
import Derived.Test.YteijannfbafdpaaGreatDoorSZG18
import Derived.Test.YteijannfbafdpaaGreatDoorSZM2
set_option linter.unusedSimpArgs false
set_option linter.unusedVariables false
namespace Go.Proofs.YteijannfbafdpaaGreatDoor
open Go.RowKit

theorem PlaT.at {m : Int} {n : Nat} {t : List (List Int)} (h : PlaT m n t) {i j : Nat} (hij : i + j < n) : ∃ row, t[i]? = some row ∧ row[j]? = some (atT t i j) ∧ row.length = n - i ∧ 0 ≤ atT t i j ∧ atT t i j < m :=
  pla_at h.1 h.2 hij
theorem PlaT.row {m : Int} {n : Nat} {t : List (List Int)} (h : PlaT m n t) {i : Nat} (hi : i < n) : ∃ row, t[i]? = some row ∧ row.length = n - i ∧ (∀ j, j < n - i → row[j]? = some (atT t i j)) := by
  have hi' : i < t.length := by rw [h.1]; exact hi
  have h1 := h.2 i hi'
  refine ⟨t[i], by simp [hi'], by rw [h1.1, h.1], fun j hj => ?_⟩
  rw [atT_row hi']
  exact some_at0 (by rw [h1.1, h.1]; exact hj)

set_option maxHeartbeats 4000000 in
set_option maxRecDepth 100000 in
theorem timesP_c (m m' : Int) (n : Nat) (v u : Value) (xss yss : List (List Int)) (w : World) (hv : RdT w v xss) (hu : RdT w u yss) (h1 : 1 ≤ n) (hn : n ≤ 1000) (hm : 2 ≤ m) (hm' : m ≤ 3000000000)
    (hx : PlaT m n xss) (hy : PlaT m n yss) :
    Calls Tryz.prog 90 #[.agg #[.int .i64 m, v], .agg #[.int .i64 m', u]] w fun e w' => PVEnd w w' m (timesT m n xss yss) e := by
  obtain ⟨o, c, rfl, hmx, -⟩ := id hv
  obtain ⟨o', c', rfl, hmy, -⟩ := id hu
  rw [hx.1] at hmx ⊢
  rw [hy.1] at hmy ⊢
  unfold maxLen at hmx hmy
  have hv' : RdT w (.slice o n c) xss := by rw [hx.1] at hv; exact hv
  have hu' : RdT w (.slice o' n c') yss := by rw [hy.1] at hu; exact hu
  clear hv hu
  have HX := Lib.hid hx
  have HY := Lib.hid hy
  have hxl := hx.1
  have hyl := hy.1
  clear hx hy
  obtain ⟨bx, fx, rfl, -⟩ := hv'.rows (by omega)
  obtain ⟨by', fy, rfl, -⟩ := hu'.rows (by omega)
  clear hxl hyl
  go_enter Tryz.func90, Tryz.ntmps90
  go_wp2_with fail
  (obtain ⟨w0, hw0⟩ : ∃ W : World, W = (((w.alloc (.cells #[.int .i64 m, .slice (some ⟨bx, fx, none⟩) n c] 28)).alloc (.cells #[.int .i64 m', .slice (some ⟨by', fy, none⟩) n c'] 28)).alloc (.cells #[.int .i64 0, .slice none 0 0] 28)) := ⟨_, rfl⟩; have X0 := (RB2.mk1 w  (.int .i64 m) (.slice (some ⟨bx, fx, none⟩) n c) 28).1.below (w' := w0) (by rw [hw0]; (repeat (first | exact bR _ _ | (refine bS ?_ _) | (refine bA ?_ _) | (refine bN ?_ _) | (refine bD ?_)))) (Nat.le_refl _); have Y0 := (RB2.mk2 w (.cells #[.int .i64 m, .slice (some ⟨bx, fx, none⟩) n c] 28) (.int .i64 m') (.slice (some ⟨by', fy, none⟩) n c') 28).1.below (w' := w0) (by rw [hw0]; (repeat (first | exact bR _ _ | (refine bS ?_ _) | (refine bA ?_ _) | (refine bN ?_ _) | (refine bD ?_)))) (Nat.le_refl _); have R0 := (RB2.mk3 w (.cells #[.int .i64 m, .slice (some ⟨bx, fx, none⟩) n c] 28) (.cells #[.int .i64 m', .slice (some ⟨by', fy, none⟩) n c'] 28) (.int .i64 0) (.slice none 0 0) 28).below (w' := w0) (by rw [hw0]; (repeat (first | exact bR _ _ | (refine bS ?_ _) | (refine bA ?_ _) | (refine bN ?_ _) | (refine bD ?_)))) (Nat.le_refl _); have B0 : Below w.heap.size w w0 := (by rw [hw0]; (repeat (first | exact bR _ _ | (refine bS ?_ _) | (refine bA ?_ _) | (refine bN ?_ _) | (refine bD ?_)))); rw [← hw0]; clear hw0)
  have hzl : w.heap.size + 2 < w0.heap.size := R0.1.lt
  go_cut [5] (fun sb u => ∃ (wz : World) (b : Nat) (oz : Option Addr) (cz : Nat), wz = u ∧ sb = .pointer (some ⟨b, 0, none⟩) ∧ w0.heap.size ≤ b ∧ RB2 u b (.int .i64 m) (.slice oz n cz) ∧ (∃ lo hi, OwSR lo hi u (.slice oz n cz) (zeroT n) ∧ w0.heap.size ≤ lo ∧ (b < lo ∨ hi ≤ b) ∧ hi ≤ u.heap.size) ∧ True ∧ Below w0.heap.size w0 u)
  case first =>
    have hd0 : Below w0.heap.size w0 w0.drew := (Below.refl _ _).drew
    have hsd0 := hd0.size
    have hlb_X0 := X0.lt
    obtain ⟨q0_X0_0, q0_X0_1⟩ := X0.below (Below.refl w0.heap.size w0) (Nat.le_refl _)
    have hne0_X0 : w0.heap.size ≠ w.heap.size := by omega
    go_region_held3 (fun w' => w'.cell? ⟨w.heap.size, 0, none⟩ = some (.int .i64 m) ∧ w'.cell? ⟨w.heap.size, 1, none⟩ = some (.slice (some ⟨bx, fx, none⟩) n c)) (go_keep)
      (first
        | (go_at_call 31; refine (degreeP_c m (some ⟨bx, fx, none⟩) n c _ (by unfold maxLen; omega)).mono ?_; rintro e wd1 ⟨rfl, hbd1⟩; have hd1 : Below w0.heap.size w0 wd1 := (by (repeat (first | exact bR _ _ | (refine bS ?_ _) | (refine bA ?_ _) | (refine bN ?_ _) | (refine bD ?_) | (refine bT ?_ hbd1)))); have hsd1 := hd1.size; have hsz1_ := hbd1.size; (try simp at hsz1_); obtain ⟨q1_X0_0, q1_X0_1⟩ := X0.below hd1 (Nat.le_refl _); have hne1_X0 : wd1.heap.size ≠ w.heap.size := (by omega); (try (have RZ := RZ.below hbd1 (Nat.le_refl _))); (try (have RZ := (show RB2 (w0.alloc (.cells #[.int .i64 0, .slice none 0 0] 28)).drew w0.heap.size (.int .i64 0) (.slice none 0 0) from RB2.mk1 w0 (.int .i64 0) (.slice none 0 0) _).below hbd1 (Nat.le_refl _))); (try (obtain ⟨⟨z1_0, z1_1⟩, zf1⟩ := id RZ)))
        | (go_at_call 111; refine (emptyPlane_c m ((n : Int) - 1) n _ rfl hn).mono ?_; rintro e wd2 ⟨vz2, rfl, hod2, hbd2⟩; obtain ⟨oz, cz, rfl⟩ := hod2.shapeN (n := n) (zeroT_len n); have hd2 : Below w0.heap.size w0 wd2 := (by (repeat (first | exact bR _ _ | (refine bS ?_ _) | (refine bA ?_ _) | (refine bN ?_ _) | (refine bD ?_) | (refine bT ?_ hbd1) | (refine bT ?_ hbd2)))); have hsd2 := hd2.size; have hsz2_ := hbd2.size; (try simp at hsz2_); obtain ⟨q2_X0_0, q2_X0_1⟩ := X0.below hd2 (Nat.le_refl _); have hne2_X0 : wd2.heap.size ≠ w.heap.size := (by omega); (try (have RZ := RZ.below hbd2 (Nat.le_refl _))); (try (have RZ := (show RB2 (wd1.alloc (.cells #[.int .i64 0, .slice none 0 0] 28)) wd1.heap.size (.int .i64 0) (.slice none 0 0) from RB2.mk1 wd1 (.int .i64 0) (.slice none 0 0) _).below hbd2 (Nat.le_refl _))); (try (obtain ⟨⟨z2_0, z2_1⟩, zf2⟩ := id RZ))))
    all_goals
      go_wp2_with fail
      go_meet
      refine ⟨_, _, oz, cz, rfl, rfl, ?_, ?_, ?_, ?_, ?_⟩
      · first | omega | (simp; done) | (simp; omega)
      · first | exact RB2.mk1 _ _ _ _ | exact RB2.put RZ _ _
      · first | exact ⟨_, _, hod2.ra _, (by first | (simp; done) | (simp; omega) | omega), .inr (Nat.le_refl _), (by first | (simp; done) | (simp; omega) | omega)⟩ | exact ⟨_, _, hod2.rp2 (by first | (simp; done) | (simp; omega) | omega) _ _, (by first | (simp; done) | (simp; omega) | omega), .inl (by first | (simp; done) | (simp; omega) | omega), (by first | (simp; done) | (simp; omega) | omega)⟩
      · trivial
      · (repeat (first | exact bR _ _ | (refine bS ?_ _) | (refine bA ?_ _) | (refine bN ?_ _) | (refine bD ?_) | (refine bT ?_ hbd1) | (refine bT ?_ hbd2)))
  case rest =>
  obtain ⟨w1, b, oz, cz, rfl, rfl, hbW, O, how, hneb, hb⟩ := hcut
  (have X1 := X0.below hb (Nat.le_refl _); have Y1 := Y0.below hb (Nat.le_refl _); have R1 := R0.below hb (Nat.le_refl _); have B1 := B0.trans (hb.mono B0.size))
  obtain ⟨lo, hi, how, hlo, hbo, hhi⟩ := how
  obtain ⟨us, how⟩ := how.named
  obtain ⟨g, rfl, hgl, hgl'⟩ := how.row h1
  rw [tmT_0 m n xss yss] at how
  obtain ⟨x0, x1⟩ := id X1
  go_wp2_with fail
  refine (degreeP_c m (some ⟨bx, fx, none⟩) n c _ (by unfold maxLen; omega)).mono ?_
  rintro e w2 ⟨rfl, hb2⟩
  (have X2 := X1.below hb2 (Nat.le_refl _); have Y2 := Y1.below hb2 (Nat.le_refl _); have R2 := R1.below hb2 (Nat.le_refl _); have B2 := B1.trans (hb2.mono B1.size))
  have O2 := O.below hb2 (Nat.le_refl _)
  have how2 := how.stay (u' := w2) (fun k _ hk => hb2.block k (by omega))
  clear O how x0 x1 hb2
  have B2s := B2.size
  have hlB : w.heap.size + 2 < lo := by omega
  have m0 : (m == 0) = false := by simp; omega
  have m1 : ¬ m = 0 := by omega
  obtain ⟨x0, x1⟩ := id X2
  go_wp2_with fail
  clear x0 x1
  go_loopw [24] (fun s wr => ∃ i : Nat, i ≤ n ∧ s = .int .i64 i ∧ OwSU us lo hi wr (.slice (some ⟨g, 0, none⟩) n cz) (tmT m n xss yss i 0 0 0) ∧ Chg lo hi w2 wr) (fun i _ => n - (intOf i).toNat)
  case atStart => exact ⟨0, Nat.zero_le _, rfl, how2, Chg.refl _ _ _⟩
  case round =>
    obtain ⟨i, hi', rfl, hO, hC⟩ := hrel
    by_cases hlt : i < n
    · obtain ⟨r1, hr1, hl1, hj1⟩ := HX.out.row hlt
      obtain ⟨p1, q1, cx0, rx0⟩ := hv'.row hr1
      rw [hl1] at cx0 rx0
      obtain ⟨b1, f1, rfl, -⟩ := rx0.cells (by omega)
      have Br := hC.below B2 (by omega) B2s
      have cx := keep_cell Br (Nat.le_refl _) cx0
      have i0 : (0 : Int) ≤ (i : Int) := by omega
      have i1 : (i : Int) < (n : Int) := by omega
      have HJ := Lib.hid hj1
      clear hr1 hl1 hj1 cx0
      go_wp2_with fail
      clear cx
      go_loopw [31] (fun s wr => ∃ j : Nat, j ≤ n - i ∧ s = .int .i64 j ∧ OwSU us lo hi wr (.slice (some ⟨g, 0, none⟩) n cz) (tmT m n xss yss i j 0 0) ∧ Chg lo hi w2 wr) (fun i' _ => n - i - (intOf i').toNat)
      case atStart => exact ⟨0, Nat.zero_le _, rfl, hO, hC⟩
      case round =>
        obtain ⟨j, hj, rfl, hO, hC⟩ := hrel
        have Br := hC.below B2 (by omega) B2s
        by_cases hjl : j < n - i
        · have ex := (rx0.below Br (Nat.le_refl _)).cell0 (HJ.out j hjl)
          obtain ⟨-, -, -, -, hxa, hxb⟩ := HX.out.at (i := i) (j := j) (by omega)
          have j0 : (0 : Int) ≤ (j : Int) := by omega
          have j1 : (j : Int) < ((n - i : Nat) : Int) := by omega
          cases hx0 : (atT xss i j == 0)
          · go_wp2_with fail
            clear ex
            go_loopw [11] (fun s wr => ∃ k : Nat, k ≤ n - i - j ∧ s = .int .i64 k ∧ OwSU us lo hi wr (.slice (some ⟨g, 0, none⟩) n cz) (tmT m n xss yss i j k 0) ∧ Chg lo hi w2 wr) (fun i' _ => n - i - j - (intOf i').toNat)
            case atStart => exact ⟨0, Nat.zero_le _, rfl, hO, hC⟩
            case round =>
              obtain ⟨k, hk, rfl, hO, hC⟩ := hrel
              have Br := hC.below B2 (by omega) B2s
              by_cases hkl : k < n - i - j
              · obtain ⟨r2, hr2, hl2, hj2⟩ := HY.out.row (show k < n by omega)
                obtain ⟨p2, q2, cy0, ry0⟩ := hu'.row hr2
                rw [hl2] at cy0 ry0
                obtain ⟨-, -, hq2⟩ := ry0.len
                rw [hl2] at hq2
                obtain ⟨b2, f2, rfl, -⟩ := ry0.cells (by omega)
                have cy := keep_cell Br (Nat.le_refl _) cy0
                obtain ⟨y0, y1⟩ := Y2.chg hC (by omega)
                have HJ2 := Lib.hid hj2
                clear hr2 hl2 hj2 cy0
                have k0 : (0 : Int) ≤ (k : Int) := by omega
                have k1 : (k : Int) < (n : Int) := by omega
                have k2 : (i : Int) + (j : Int) + (k : Int) ≤ (n : Int) - 1 := by omega
                have k3 : (0 : Int) ≤ (n : Int) - 1 - (i : Int) - (j : Int) - (k : Int) + 1 := by omega
                have k4 : (n : Int) - 1 - (i : Int) - (j : Int) - (k : Int) + 1 ≤ (q2 : Int) := by omega
                have k5 : ((n : Int) - 1 - (i : Int) - (j : Int) - (k : Int) + 1).toNat = n - i - j - k := by omega
                go_wp2_with fail
                clear cy y0 y1
                go_loopw [62] (fun s wr => ∃ l : Nat, l ≤ n - i - j - k ∧ s = .int .i64 l ∧ OwSU us lo hi wr (.slice (some ⟨g, 0, none⟩) n cz) (tmT m n xss yss i j k l) ∧ Chg lo hi w2 wr) (fun i' _ => n - i - j - k - (intOf i').toNat)
                case atStart => exact ⟨0, Nat.zero_le _, rfl, hO, hC⟩
                case round =>
                  obtain ⟨l, hl, rfl, hO, hC⟩ := hrel
                  have Br := hC.below B2 (by omega) B2s
                  by_cases hll : l < n - i - j - k
                  · have ey := (ry0.below Br (Nat.le_refl _)).cell0 (HJ2.out l (by omega))
                    obtain ⟨-, -, -, -, hya, hyb⟩ := HY.out.at (i := k) (j := l) (by omega)
                    obtain ⟨o3, c3, hu3, cx3, how3, hbl3, hset3⟩ := hO.at (tmT_row' (show i + k < n by omega))
                    rw [tmTr_len] at hu3 cx3 how3 hbl3 hset3
                    obtain ⟨gr, rfl, hgr1, hgr2⟩ := how3.row (by omega)
                    have hgr3 := hbl3 gr rfl
                    have hc0 := how3.cell (k := j + l) (tmTr_get (show i + k + (j + l) < n by omega))
                    have hf0 := how3.fz (j + l)
                    have hN := Lib.hid how3
                    have hS := Lib.hid hset3
                    clear how3 hset3 hbl3 hu3
                    obtain ⟨x0, x1⟩ := X2.chg hC (by omega)
                    obtain ⟨⟨z0, z1⟩, zf⟩ := O2.chg hC hbo
                    have l0 : (0 : Int) ≤ (l : Int) := by omega
                    have l1 : (l : Int) < ((n - i - j - k : Nat) : Int) := by omega
                    have l2 : (0 : Int) ≤ (i : Int) + (k : Int) := by omega
                    have l3 : (i : Int) + (k : Int) < (n : Int) := by omega
                    have l4 : ((i : Int) + (k : Int)).toNat = i + k := by omega
                    have l5 : (0 : Int) ≤ (j : Int) + (l : Int) := by omega
                    have l6 : (j : Int) + (l : Int) < ((n - (i + k) : Nat) : Int) := by omega
                    have l7 : ((j : Int) + (l : Int)).toNat = j + l := by omega
                    have hM := mod_lt' (a := atT xss i j * atT yss k l) (show 0 < m by omega)
                    have hCm := mod_lt' (a := c2P n (atT xss) (atT yss) i j k l (i + k) (j + l)) (show 0 < m by omega)
                    have hMod := mod_lt' (a := c2P n (atT xss) (atT yss) i j k l (i + k) (j + l) % m + atT xss i j * atT yss k l % m) (show 0 < m by omega)
                    go_wp2_with fail
                    have e0 : IntKind.i64.wrap ((i : Int) + (k : Int)) = (i : Int) + (k : Int) := IntWalk.i64_in _ (by omega)
                    have e3 : IntKind.i64.wrap ((j : Int) + (l : Int)) = (j : Int) + (l : Int) := IntWalk.i64_in _ (by omega)
                    have e1 : IntKind.i64.wrap (c2P n (atT xss) (atT yss) i j k l (i + k) (j + l) % m + atT xss i j * atT yss k l % m) = c2P n (atT xss) (atT yss) i j k l (i + k) (j + l) % m + atT xss i j * atT yss k l % m := IntWalk.i64_in _ (by omega)
                    have e2 : (c2P n (atT xss) (atT yss) i j k l (i + k) (j + l) % m + atT xss i j * atT yss k l % m).tmod m = (c2P n (atT xss) (atT yss) i j k l (i + k) (j + l) % m + atT xss i j * atT yss k l % m) % m := Int.tmod_eq_emod_of_nonneg (by omega)
                    go_still_tail 32, (by kernel_rfl)
                    still_call (stillC (mul_c _ _ _ _ (by omega) hm' (by omega) (by omega) (by omega) (by omega)))
                    repeat still_step
                    refine wpStill_nil ?_
                    change wpList _ _ _ _ _ wr.drew
                    have hg0 := gr_put (gr_drewN (World.grownBy.refl wr (some gr)) 1) (j + l) (.int .i64 ((c2P n (atT xss) (atT yss) i j k l (i + k) (j + l) % m + atT xss i j * atT yss k l % m) % m))
                    have hOn := hS.out _ _ (by rw [List.length_set, tmTr_len]) hg0 ((hN.out.drewN 1).put (j + l) _)
                    have hCn := hC.grown hg0 hgr3.1 hgr3.2.1
                    rw [← Int.add_emod, tmT_set (by omega)] at hOn
                    rw [← Int.add_emod] at hCn
                    go_wp2
                    exact ⟨⟨l + 1, by omega, by go_num, hOn, hCn⟩, by simp [intOf]; omega⟩
                  · obtain rfl : l = n - i - j - k := by omega
                    rw [tmT_row (by omega)] at hO
                    go_wp2
                    exact ⟨⟨k + 1, by omega, by go_num, hO, hC⟩, by simp [intOf]; omega⟩
              · obtain rfl : k = n - i - j := by omega
                rw [tmT_place (.inl (by omega))] at hO
                have k2 : ¬ (i : Int) + (j : Int) + ((n - i - j : Nat) : Int) ≤ (n : Int) - 1 := by omega
                go_wp2
                exact ⟨⟨j + 1, by omega, by go_num, hO, hC⟩, by simp [intOf]; omega⟩
          · rw [tmT_place (.inr (by simpa using hx0))] at hO
            go_wp2
            exact ⟨⟨j + 1, by omega, by go_num, hO, hC⟩, by simp [intOf]; omega⟩
        · obtain rfl : j = n - i := by omega
          rw [tmT_line rfl] at hO
          go_wp2
          exact ⟨⟨i + 1, by omega, by go_num, hO, hC⟩, by simp [intOf]; omega⟩
    · obtain rfl : i = n := by omega
      rw [tmT_all] at hO
      obtain ⟨⟨z0, z1⟩, zf⟩ := O2.chg hC hbo
      obtain ⟨⟨r0, r1⟩, rf⟩ := R2.chg hC (.inl hlB)
      have Br := hC.below B2 (by omega) B2s
      go_wp2
      refine bodyPost_ret (v := .agg #[.int .i64 m, .slice (some ⟨g, 0, none⟩) i cz]) (by simp [results, Tryz.results90, go_sem, r0, r1]) rfl ⟨_, rfl, ?_, ?_⟩
      · exact ((hO.r.ow.low hlB _).low hlB _).mono (by omega)
      · (repeat (first | exact bR _ _ | (refine bS ?_ _) | (refine bA ?_ _) | (refine bN ?_ _) | (refine bD ?_) | (refine bT ?_ Br)))

end Go.Proofs.YteijannfbafdpaaGreatDoor
/- Lazard's cocycle as a table: the reference. -/
set_option linter.unusedSimpArgs false
set_option linter.unusedVariables false
namespace Go.Proofs.YteijannfbafdpaaGreatDoor
open Go.RowKit

def cocTo (m : Int) (n k : Nat) : List (List Int) := tri (n + 1) (fun i j => if i + j = n ∧ i < k then laz n i % m else 0)
def cocT (m : Int) (n : Nat) : List (List Int) := tri (n + 1) (fun i j => if i + j = n then laz n i % m else 0)
theorem laz_0 (n : Nat) : laz n 0 = 0 := by unfold laz; rw [if_neg (by omega)]
theorem cocTo_1 (m : Int) (n : Nat) : zeroT (n + 1) = cocTo m n 1 := tri_ext fun i j _ => by
  by_cases h : i + j = n ∧ i < 1
  · rw [if_pos h, show i = 0 by omega, laz_0, Int.zero_emod]
  · rw [if_neg h]
theorem cocTo_n (m : Int) (n : Nat) : cocTo m n n = cocT m n := tri_ext fun i j _ => by
  by_cases h : i + j = n
  · rw [if_pos h]
    by_cases h' : i < n
    · rw [if_pos ⟨h, h'⟩]
    · rw [if_neg (fun e => h' e.2), laz_out (by omega), Int.zero_emod]
  · rw [if_neg (fun e => h e.1), if_neg h]
theorem cocTo_set {m : Int} {n k : Nat} (hk : k < n) : (cocTo m n k).set k ((mk (n + 1 - k) (fun j => if k + j = n ∧ k < k then laz n k % m else 0)).set (n - k) (laz n k % m)) = cocTo m n (k + 1) := by
  unfold cocTo
  rw [tri_set (f := fun i j => if i + j = n ∧ i < k then laz n i % m else 0) (by omega)]
  refine tri_ext fun a b h => ?_
  by_cases e : a = k ∧ b = n - k
  · obtain ⟨rfl, rfl⟩ := e
    rw [if_pos ⟨rfl, rfl⟩, if_pos (by omega)]
  · rw [if_neg e]
    by_cases e2 : a + b = n ∧ a < k
    · rw [if_pos e2, if_pos (by omega)]
    · rw [if_neg e2, if_neg (by omega)]

set_option maxHeartbeats 1000000 in
set_option maxRecDepth 100000 in
theorem l07Cocycle_c (m : Int) (n : Nat) (w : World) (h2 : 2 ≤ n) (hn : n ≤ 10) (hm : 2 ≤ m) (hm' : m ≤ 10000) :
    Calls Tryz.prog 25 #[.int .i64 m, .int .i64 n] w fun e w' => ∃ v', e = .returned v' ∧ OwS w' w.heap.size v' (cocT m n) ∧ Below w.heap.size w w' := by
  go_enter Tryz.func25, Tryz.ntmps25
  go_wp2_with fail
  refine (l03Zero_c _ (n + 1) _ (by omega) (by omega)).mono ?_
  rintro e w1 ⟨v1, rfl, how, hb1⟩
  obtain ⟨oT, cT, rfl⟩ := how.shapeN (n := n + 1) (zeroT_len _)
  have hb1s := hb1.size
  go_wp2_with fail
  refine (l01Lazard_c n _ h2 hn).mono ?_
  rintro e w2 ⟨rfl, hb2⟩
  have hb2s := hb2.size
  have B2 := hb1.trans (hb2.mono hb1s)
  have how := how.toR
  obtain ⟨us, how⟩ := how.named
  have how := how.stay (u' := w2) (fun k _ hk => hb2.block k (by omega))
  obtain ⟨gT, rfl, hg1, hg2⟩ := how.row (by omega)
  rw [cocTo_1 m] at how
  obtain ⟨hi, hhi⟩ : ∃ hi, hi = w1.heap.size := ⟨_, rfl⟩
  rw [← hhi] at how hg2 hb2s hb1s
  obtain ⟨la1, la2⟩ := lam_range n h2 hn
  obtain ⟨L, hL⟩ : ∃ L, L = lam n := ⟨_, rfl⟩
  rw [← hL] at la1 la2 ⊢
  have HL := Lib.hid hL
  clear hL hb1 hb2 hhi
  have l1 : ¬ L = 0 := by omega
  have l2 : (L == 0) = false := by simp; omega
  have l3 : ¬ m = 0 := by omega
  have l4 : (m == 0) = false := by simp; omega
  go_wp2_with fail
  go_loopw [7] (fun i wr => ∃ k : Nat, 1 ≤ k ∧ k ≤ n ∧ i = .int .i64 k ∧ OwSU us w.heap.size hi wr (.slice (some ⟨gT, 0, none⟩) (n + 1) cT) (cocTo m n k) ∧ Below w.heap.size w wr ∧ hi ≤ wr.heap.size) (fun i _ => n - (intOf i).toNat)
  case atStart => exact ⟨1, Nat.le_refl _, by omega, rfl, how, B2, hb2s⟩
  case round =>
    clear how B2 hb2s
    obtain ⟨k, hk1, hk, rfl, hO, hB, hhw⟩ := hrel
    have hBs := hB.size
    by_cases hlt : k < n
    · have i1 : (k : Int) < (n : Int) := by omega
      have i2 : (0 : Int) ≤ (k : Int) := by omega
      have i3 : (k : Int) < (n : Int) + 1 := by omega
      have i4 : (k : Int) < ((n + 1 : Nat) : Int) := by omega
      have r2 := bin_r10 hn k
      have hq := laz_quo h2 hn hk1 hlt
      rw [← HL.out] at hq
      have q0 : 0 ≤ laz n k ∧ laz n k ≤ 1024 := laz_range h2 hn k
      have rq := mod_lt' (a := laz n k) (show 0 < m by omega)
      have e3 : IntKind.i64.wrap (laz n k) = laz n k := IntWalk.i64_in _ (by omega)
      have e4 : (laz n k).tmod m = laz n k % m := Int.tmod_eq_emod_of_nonneg q0.1
      have e5 : IntKind.i64.wrap ((n : Int) - (k : Int)) = ((n - k : Nat) : Int) := by rw [IntWalk.i64_in _ (by omega)]; omega
      have HS := Lib.hid (cocTo_set (m := m) hlt)
      have hrP : (cocTo m n k)[k]? = some (mk (n + 1 - k) (fun j => if k + j = n ∧ k < k then laz n k % m else 0)) := tri_get (by omega)
      obtain ⟨rP, hrPe⟩ : ∃ rP, rP = mk (n + 1 - k) (fun j => if k + j = n ∧ k < k then laz n k % m else 0) := ⟨_, rfl⟩
      rw [← hrPe] at HS hrP
      have hrPl : rP.length = n + 1 - k := by rw [hrPe, mk_len]
      have Hlen := Lib.hid hrPl
      clear hrPe
      obtain ⟨oP, cP, huP, cxP, -, hblP, -⟩ := hO.at hrP
      rw [hrPl] at cxP
      go_wp2_with fail
      refine (l01Binomial_c n k _ (by omega) hn).mono ?_
      rintro e w4 ⟨rfl, hb4⟩
      have hO4 := hO.stay (u' := w4) (fun k _ hk => hb4.block k (by omega))
      have hb4s := hb4.size
      have B4 := hB.trans (hb4.mono hBs)
      obtain ⟨oQ, cQ, huQ, cxQ, howP, hblQ, hsetP⟩ := hO4.at hrP
      obtain ⟨rfl, rfl⟩ : oP = oQ ∧ cP = cQ := by rw [huP] at huQ; simp at huQ; exact huQ
      rw [hrPl] at howP hblQ hsetP cxQ
      obtain ⟨gP, rfl, hgP1, hgP2⟩ := howP.row (by omega)
      have hgP3 := hblQ gP rfl
      have hfP := howP.fz (n - k)
      have hcP := howP.cell (k := n - k) (some_at0 (by omega))
      have HSP := Lib.hid hsetP
      have HownP := Lib.hid howP
      clear hsetP howP huP hblP hrP hrPl huQ hO hO4 cxP
      have j5 : ((n - k : Nat) : Int) < ((n + 1 - k : Nat) : Int) := by omega
      have j6 : n - k < n + 1 - k := by omega
      go_wp2_with fail
      have hg0 := gr_put (World.grownBy.refl w4 (some gP)) (n - k) (.int .i64 (laz n k % m))
      have hOn := HSP.out _ _ (by rw [List.length_set, Hlen.out]) hg0 (HownP.out.put (n - k) (laz n k % m))
      rw [HS.out] at hOn
      have hBn := below_put B4 (g := gP) (k := n - k) (by omega) (.int .i64 (laz n k % m))
      exact ⟨⟨k + 1, by omega, by omega, by go_num, hOn, hBn, by simp; omega⟩, by simp [intOf]; omega⟩
    · obtain rfl : k = n := by omega
      rw [cocTo_n] at hO
      have hOs := hO.r.ow
      have i1 : ¬ (k : Int) < (k : Int) := by omega
      go_wp2
      go_ret
      exact ⟨_, rfl, hOs, hB⟩
end Go.Proofs.YteijannfbafdpaaGreatDoor

/- The factor of a cocycle: the reference's search. -/
set_option linter.unusedSimpArgs false
set_option linter.unusedVariables false
namespace Go.Proofs.YteijannfbafdpaaGreatDoor
open Go.RowKit

end Go.Proofs.YteijannfbafdpaaGreatDoor
set_option linter.unusedSimpArgs false
set_option linter.unusedVariables false
namespace Go.Proofs.YteijannfbafdpaaGreatDoor
open Rg

def lonT (n : Nat) (t : List (List Int)) : List (List Int) := tri (n + 1) (fun i j => if i + j < n then atT t i j else 0)
theorem lonT_ok {m : Int} {n : Nat} {t : List (List Int)} (hm : 0 < m) (ht : PlaT m n t) : PlaT m (n + 1) (lonT n t) := tri_ok fun i j _ => by
  by_cases h : i + j < n
  · rw [if_pos h]; exact tab_range ht h
  · rw [if_neg h]; omega
theorem lonT_at {n : Nat} {t : List (List Int)} {i j : Nat} (h : i + j < n + 1) : atT (lonT n t) i j = if i + j < n then atT t i j else 0 := atT_tri h
def symR (m : Int) (n k : Nat) : List Int := ((List.replicate n 0).set (k - 1) 1).set (n - k - 1) (m - 1)
def asR (m : Int) (n : Nat) (t : List (List Int)) (a c : Nat) : List Int :=
  (((List.replicate n 0).set (n - c - 1) (bin (n - c) a % m)).set (a - 1) ((0 - bin (n - a) (n - a - c)) % m)).set (n - 1) ((rigC m (n + 1) (lonT n t) a (n - a - c) c - lefC m (n + 1) (lonT n t) a (n - a - c) c) % m)
structure EqOK (m : Int) (n : Nat) (t : List (List Int)) (R : List (List Int)) : Prop where
  row : ∀ r ∈ R, (∃ k, 1 ≤ k ∧ 2 * k < n ∧ r = symR m n k) ∨ (∃ a c, 1 ≤ a ∧ 1 ≤ c ∧ a + c < n ∧ r = asR m n t a c)
  sy : ∀ k, 1 ≤ k → 2 * k < n → symR m n k ∈ R
  asc : ∀ a c, 1 ≤ a → 1 ≤ c → a + c < n → asR m n t a c ∈ R
theorem dt_set {L : Nat} {r : List Int} (hl : r.length = L) {i : Nat} (hi : i < L) (v : Int) (y : Nat → Int) : dt L (r.set i v) y = dt L r y + (v - at0 r i) * y i := by
  have key : ∀ K, K ≤ L → dt K (r.set i v) y = dt K r y + if i < K then (v - at0 r i) * y i else 0 := by
    intro K
    induction K with
    | zero => intro _; rw [if_neg (by omega)]; rfl
    | succ K ih =>
      intro hK
      show dt K (r.set i v) y + at0 (r.set i v) K * y K = dt K r y + at0 r K * y K + _
      rw [ih (by omega), at0_set]
      by_cases h : K = i
      · subst h
        rw [if_neg (Nat.lt_irrefl _), if_pos (show K = K ∧ K < r.length from ⟨rfl, by omega⟩), if_pos (Nat.lt_succ_self _), Int.sub_mul]; omega
      · rw [if_neg (show ¬ (K = i ∧ i < r.length) from fun e => h e.1)]
        by_cases h2 : i < K
        · rw [if_pos h2, if_pos (show i < K + 1 by omega)]; omega
        · rw [if_neg h2, if_neg (show ¬ i < K + 1 by omega)]; omega
  rw [key L (Nat.le_refl _), if_pos hi]
theorem symR_rw {m : Int} {n k : Nat} (hm : 2 ≤ m) : (symR m n k).length = n ∧ ∀ x ∈ symR m n k, 0 ≤ x ∧ x < m := by
  refine ⟨by simp [symR], fun x hx => ?_⟩
  rcases List.mem_or_eq_of_mem_set hx with hx | rfl
  · rcases List.mem_or_eq_of_mem_set hx with hx | rfl
    · have := (List.mem_replicate.1 hx).2; omega
    · omega
  · omega
theorem asR_rw {m : Int} {n a c : Nat} {t : List (List Int)} (hm : 2 ≤ m) : (asR m n t a c).length = n ∧ ∀ x ∈ asR m n t a c, 0 ≤ x ∧ x < m := by
  refine ⟨by simp [asR], fun x hx => ?_⟩
  rcases List.mem_or_eq_of_mem_set hx with hx | rfl
  · rcases List.mem_or_eq_of_mem_set hx with hx | rfl
    · rcases List.mem_or_eq_of_mem_set hx with hx | rfl
      · have := (List.mem_replicate.1 hx).2; omega
      · exact mod_lt' (by omega)
    · exact mod_lt' (by omega)
  · exact mod_lt' (by omega)
theorem EqOK.rw {m : Int} {n : Nat} {t R : List (List Int)} (hm : 2 ≤ m) (h : EqOK m n t R) : ∀ r ∈ R, r.length = n ∧ ∀ x ∈ r, 0 ≤ x ∧ x < m := by
  intro r hr
  rcases h.row r hr with ⟨k, _, _, rfl⟩ | ⟨a, c, _, _, _, rfl⟩
  · exact symR_rw hm
  · exact asR_rw hm
theorem symR_dt {m : Int} {n k : Nat} (h1 : 1 ≤ k) (h2 : 2 * k < n) (y : Nat → Int) : dt n (symR m n k) y % m = (y (k - 1) - y (n - k - 1)) % m := by
  unfold symR
  rw [dt_set (by simp) (by omega), dt_set (by simp) (by omega), dt_rep, at0_set, if_neg (by omega), at0_rep, at0_rep]
  have : (0 : Int) + (1 - 0) * y (k - 1) + (m - 1 - 0) * y (n - k - 1) = (y (k - 1) - y (n - k - 1)) + m * y (n - k - 1) := by
    rw [Int.sub_zero, Int.sub_zero, Int.sub_mul, Int.one_mul, Int.one_mul]; omega
  rw [this, Int.add_mul_emod_self_left]
theorem asR_dt {m : Int} {n a c : Nat} {t : List (List Int)} (ha : 1 ≤ a) (hc : 1 ≤ c) (h : a + c < n) (y : Nat → Int) :
    dt n (asR m n t a c) y % m = (bin (n - c) a * y (n - c - 1) - bin (n - a) (n - a - c) * y (a - 1) + (rigC m (n + 1) (lonT n t) a (n - a - c) c - lefC m (n + 1) (lonT n t) a (n - a - c) c) * y (n - 1)) % m := by
  unfold asR
  rw [dt_set (by simp) (by omega), dt_set (by simp) (by omega), dt_set (by simp) (by omega), dt_rep, at0_set, if_neg (by omega), at0_set, if_neg (by omega), at0_rep, at0_set, if_neg (by omega), at0_rep, at0_rep]
  simp only [Int.sub_zero, Int.zero_add, Int.zero_sub]
  generalize rigC m (n + 1) (lonT n t) a (n - a - c) c - lefC m (n + 1) (lonT n t) a (n - a - c) c = D
  have e1 := emod_congr_mul (emod_idem (bin (n - c) a) m) (rfl : y (n - c - 1) % m = y (n - c - 1) % m)
  have e2 := emod_congr_mul (emod_idem (-bin (n - a) (n - a - c)) m) (rfl : y (a - 1) % m = y (a - 1) % m)
  have e3 := emod_congr_mul (emod_idem D m) (rfl : y (n - 1) % m = y (n - 1) % m)
  rw [emod_congr_add (emod_congr_add e1 e2) e3, Int.neg_mul]
  congr 1

theorem coc_side2 {m : Int} {n : Nat} {F G : Nat → Nat → Int} (lF : lo m 1 F) (eF : eqv m 2 F (ad xP yP)) (LG : Lw m (n + 1) G) (he : ∀ i j, i + j < n → F i j % m = G i j % m) (u v : Nat → Int) {r a b : Nat} (hr : 1 ≤ r) (hn : a + b + r = n) (h1 : ∀ i, i + r < n → u i % m = v i % m) :
    sm (n + 1) (fun i => v i * (pw G i : Nat → Nat → Int) a b) % m = (sm (n + 1) (fun i => u i * (pw F i : Nat → Nat → Int) a b) + (v (a + b) - u (a + b)) * bin (a + b) a) % m := by
  have e : sm (n + 1) (fun i => u i * (pw F i : Nat → Nat → Int) a b) + (v (a + b) - u (a + b)) * bin (a + b) a = sm (n + 1) (fun i => u i * (pw F i : Nat → Nat → Int) a b + if i = a + b then (v (a + b) - u (a + b)) * bin (a + b) a else 0) := by
    have h := sm_ad (n + 1) (fun i => u i * (pw F i : Nat → Nat → Int) a b) (fun i => if i = a + b then (v (a + b) - u (a + b)) * bin (a + b) a else zz)
    rw [sm_ite (show a + b < n + 1 by omega)] at h
    exact h.symm
  rw [e, ← sumN_sm, ← sumN_sm]
  refine sumN_mod fun i hi => ?_
  by_cases h : i + r < n
  · rw [if_neg (by omega), Int.add_zero]
    refine emod_congr_mul (h1 i h).symm ?_
    exact (eqv2.1 (pw_eqv (eqv2.2 he) i) a b (by omega)).symm
  · by_cases h' : i = a + b
    · subst h'
      rw [if_pos rfl]
      have e1 : (v (a + b) * (pw G (a + b) : Nat → Nat → Int) a b) % m = (v (a + b) * bin (a + b) a) % m := emod_congr_mul rfl (law_pw LG a b)
      have e0 : (pw F (a + b) : Nat → Nat → Int) a b % m = bin (a + b) a % m := by
        rw [← xy_pw]
        exact eqv2.1 (pw_up1 lF (lo_xy m) eF (a + b)) a b (by omega)
      have e2 : (u (a + b) * (pw F (a + b) : Nat → Nat → Int) a b) % m = (u (a + b) * bin (a + b) a) % m := emod_congr_mul rfl e0
      rw [e1, Int.add_emod, e2, ← Int.add_emod, ← Int.add_mul]
      congr 2; omega
    · rw [if_neg h', Int.add_zero]
      have e1 := emod_congr_mul (rfl : v i % m = v i % m) (law_pw_z LG (show a + b < i by omega))
      have e0 : (pw F i : Nat → Nat → Int) a b % m = 0 % m := eqv2.1 (eqv_lo (pw_lo lF i)) a b (by omega)
      have e2 := emod_congr_mul (rfl : u i % m = u i % m) e0
      rw [e1, e2, Int.mul_zero, Int.mul_zero]
theorem lefC_sm {m : Int} {n : Nat} {t : List (List Int)} (ht : PlaT m n t) {p q k : Nat} (h : p + q + k < n) : lefC m n t p q k = sm n (fun i => atT t i k * (pw (atT t) i : Nat → Nat → Int) p q) % m := by
  unfold lefC
  rw [← sumN_sm, sumN_cut (n := n) (k := n - k) (by omega) fun i hi _ => by rw [atT_out ht (by omega), Int.zero_mul]]
  exact sumN_mod fun i _ => emod_congr_mul rfl (eqv2.1 (T_pow m n t i) p q (by omega))
theorem rigC_sm {m : Int} {n : Nat} {t : List (List Int)} (ht : PlaT m n t) {p q k : Nat} (h : p + q + k < n) : rigC m n t p q k = sm n (fun j => atT t p j * (pw (atT t) j : Nat → Nat → Int) q k) % m := by
  unfold rigC
  rw [← sumN_sm, sumN_cut (n := n) (k := n - p) (by omega) fun j hj _ => by rw [atT_out ht (by omega), Int.zero_mul]]
  exact sumN_mod fun j _ => emod_congr_mul rfl (eqv2.1 (T_pow m n t j) q k (by omega))
def topY (n : Nat) (G : Nat → Nat → Int) : Nat → Int := fun k => if k + 1 = n then -1 else G (k + 1) (n - (k + 1))
theorem law_sts {m : Int} {n : Nat} {t R : List (List Int)} {G : Nat → Nat → Int} (hm : 2 ≤ m) (h2 : 2 ≤ n) (ht : PlaT m n t) (LG : Lw m (n + 1) G) (he : ∀ i j, i + j < n → atT t i j % m = G i j % m) (hR : EqOK m n t R) : sts m n R (topY n G) := by
  intro r hr
  rcases hR.row r hr with ⟨k, h1, h3, rfl⟩ | ⟨a, c, h1, h3, h4, rfl⟩
  · rw [symR_dt h1 h3]
    unfold topY
    rw [if_neg (by omega), if_neg (by omega), show k - 1 + 1 = k by omega, show n - k - 1 + 1 = n - k by omega, show n - (n - k) = k by omega]
    exact Int.emod_eq_emod_iff_emod_sub_eq_zero.1 (LG.sy k (n - k) (by omega))
  · rw [asR_dt h1 h3 h4]
    have HP := lonT_ok (by omega) ht
    have hF : ∀ i j, i + j < n → atT (lonT n t) i j % m = G i j % m := fun i j h => by rw [lonT_at (by omega), if_pos h]; exact he i j h
    have hz : ∀ i j, i + j = n → atT (lonT n t) i j = 0 := fun i j h => by rw [lonT_at (by omega), if_neg (by omega)]
    have e1 : eqv m 2 (atT (lonT n t)) G := eqv2.2 fun i j h => hF i j (by omega)
    have lF : lo m 1 (atT (lonT n t)) := lo_eqv (eqv_le e1 (by omega)) (Nat.le_refl _) (lo_law LG)
    have eF := eqv_trans e1 (law_xy LG)
    obtain ⟨b, hb⟩ : ∃ b, n - a - c = b := ⟨_, rfl⟩
    rw [hb, lefC_sm HP (by omega), rigC_sm HP (by omega)]
    have hasc := LG.as a b c (by omega)
    rw [coc_side2 lF eF LG hF (fun i => atT (lonT n t) i c) (fun i => G i c) (r := c) h3 (by omega) (fun i hi => hF i c hi), coc_side2 lF eF LG hF (fun j => atT (lonT n t) a j) (fun j => G a j) (r := a) h1 (by omega) (fun i hi => hF a i (by omega))] at hasc
    rw [hz (a + b) c (by omega), hz a (b + c) (by omega)] at hasc
    unfold topY
    rw [if_neg (by omega), if_neg (by omega), if_pos (by omega), show n - c - 1 + 1 = a + b by omega, show n - (a + b) = c by omega, show a - 1 + 1 = a by omega, show n - a = b + c by omega, show n - c = a + b by omega]
    generalize sm (n + 1) (fun i => atT (lonT n t) i c * (pw (atT (lonT n t)) i : Nat → Nat → Int) a b) = A at hasc ⊢
    generalize sm (n + 1) (fun j => atT (lonT n t) a j * (pw (atT (lonT n t)) j : Nat → Nat → Int) b c) = B at hasc ⊢
    rw [Int.sub_zero, Int.sub_zero, Int.mul_comm (G (a + b) c), Int.mul_comm (G a (b + c))] at hasc
    generalize bin (a + b) a * G (a + b) c = X at hasc ⊢
    generalize bin (b + c) b * G a (b + c) = Y at hasc ⊢
    have s0 := Int.emod_eq_emod_iff_emod_sub_eq_zero.1 hasc
    have e5 : (X - Y + (B % m - A % m) * -1) % m = (X - Y + (B - A) * -1) % m := emod_congr_add rfl (emod_congr_mul (emod_congr_sub (emod_idem _ _) (emod_idem _ _)) rfl)
    rw [e5, ← s0]
    congr 1; omega
theorem sol_laz {m : Int} {n : Nat} {t R : List (List Int)} {G : Nat → Nat → Int} {l : List Int} (hm : 2 ≤ m) (h2 : 2 ≤ n) (hn : n ≤ 10) (ht : PlaT m n t) (LG : Lw m (n + 1) G) (he : ∀ i j, i + j < n → atT t i j % m = G i j % m) (hR : EqOK m n t R) (hl : sts m n R (yv n l)) :
    ∃ x, ∀ i, 1 ≤ i → i < n → m ∣ G i (n - i) - at0 l (i - 1) - x * laz n i := by
  have hG := law_sts hm h2 ht LG he hR
  refine coc_ex (d := fun i => G i (n - i) - at0 l (i - 1)) h2 hn ⟨?_, ?_⟩
  · have key : ∀ k, 1 ≤ k → 2 * k < n → m ∣ (G k (n - k) - at0 l (k - 1)) - (G (n - k) k - at0 l (n - k - 1)) := by
      intro k h1 h3
      have a := hG _ (hR.sy k h1 h3)
      have b := hl _ (hR.sy k h1 h3)
      rw [symR_dt h1 h3] at a b
      unfold topY at a
      unfold yv at b
      rw [if_neg (by omega), if_neg (by omega), show k - 1 + 1 = k by omega, show n - k - 1 + 1 = n - k by omega, show n - (n - k) = k by omega] at a
      rw [if_neg (by omega), if_neg (by omega)] at b
      have d := Int.dvd_sub (Int.dvd_of_emod_eq_zero a) (Int.dvd_of_emod_eq_zero b)
      have e : G k (n - k) - G (n - k) k - (at0 l (k - 1) - at0 l (n - k - 1)) = (G k (n - k) - at0 l (k - 1)) - (G (n - k) k - at0 l (n - k - 1)) := by omega
      rwa [e] at d
    intro i h1 h3
    show m ∣ (G i (n - i) - at0 l (i - 1)) - (G (n - i) (n - (n - i)) - at0 l (n - i - 1))
    rw [show n - (n - i) = i by omega]
    rcases Nat.lt_trichotomy (2 * i) n with h | h | h
    · exact key i h1 h
    · have : n - i = i := by omega
      rw [this]
      have e : G i i - at0 l (i - 1) - (G i i - at0 l (i - 1)) = 0 := by omega
      rw [e]; exact Int.dvd_zero m
    · have d := key (n - i) (by omega) (by omega)
      rw [show n - (n - i) = i by omega] at d
      have := Int.dvd_neg.2 d
      have e : -((G (n - i) i - at0 l (n - i - 1)) - (G i (n - i) - at0 l (i - 1))) = (G i (n - i) - at0 l (i - 1)) - (G (n - i) i - at0 l (n - i - 1)) := by omega
      rwa [e] at this
  · intro p q k hp hq hk hn'
    have a := hG _ (hR.asc p k hp hk (by omega))
    have b := hl _ (hR.asc p k hp hk (by omega))
    rw [asR_dt hp hk (by omega)] at a b
    unfold topY at a
    unfold yv at b
    rw [if_neg (by omega), if_neg (by omega), if_pos (by omega), show n - k - 1 + 1 = p + q by omega, show n - (p + q) = k by omega, show p - 1 + 1 = p by omega, show n - p = q + k by omega, show n - k = p + q by omega, show q + k - k = q by omega] at a
    rw [if_neg (by omega), if_neg (by omega), if_pos (by omega), show n - p = q + k by omega, show n - k = p + q by omega, show q + k - k = q by omega] at b
    show m ∣ bin (p + q) p * (G (p + q) (n - (p + q)) - at0 l (p + q - 1)) - bin (q + k) q * (G p (n - p) - at0 l (p - 1))
    rw [show n - (p + q) = k by omega, show n - p = q + k by omega]
    have d := Int.dvd_sub (Int.dvd_of_emod_eq_zero a) (Int.dvd_of_emod_eq_zero b)
    rw [Int.mul_sub, Int.mul_sub]
    generalize bin (p + q) p * G (p + q) k = A at d ⊢
    generalize bin (q + k) q * G p (q + k) = B at d ⊢
    generalize bin (p + q) p * at0 l (p + q - 1) = C at d ⊢
    generalize bin (q + k) q * at0 l (p - 1) = D at d ⊢
    generalize (rigC m (n + 1) (lonT n t) p q k - lefC m (n + 1) (lonT n t) p q k) * -1 = E at d
    have e : A - B + E - (C - D + E) = A - C - (B - D) := by omega
    rwa [e] at d
def firT (n : Nat) (t : List (List Int)) (l : List Int) : List (List Int) := tri (n + 1) (fun i j => if i + j < n then atT t i j else if 1 ≤ i ∧ i < n then at0 l (i - 1) else 0)
theorem firT_ok {m : Int} {n : Nat} {t : List (List Int)} {l : List Int} (hm : 0 < m) (ht : PlaT m n t) (hl : ∀ x ∈ l, 0 ≤ x ∧ x < m) : PlaT m (n + 1) (firT n t l) := tri_ok fun i j _ => by
  by_cases h : i + j < n
  · rw [if_pos h]; exact tab_range ht h
  · rw [if_neg h]
    by_cases h2 : 1 ≤ i ∧ i < n
    · rw [if_pos h2]
      by_cases h3 : i - 1 < l.length
      · exact hl _ (mem_at0 h3)
      · rw [at0_out (by omega)]; omega
    · rw [if_neg h2]; omega
def FirOK (m : Int) (n : Nat) (t s : List (List Int)) : Prop :=
  PlaT m (n + 1) s ∧ ∀ g, PlaT m (n + 1) g → Lw m (n + 1) (atT g) → (∀ i j, i + j < n → atT t i j = atT g i j) → ∃ x : Nat, (x : Int) < m ∧ g = addT m (n + 1) s (scaT m (n + 1) x (cocT m n))
theorem firOK {m : Int} {n : Nat} {t R : List (List Int)} {l : List Int} (hm : 2 ≤ m) (h2 : 2 ≤ n) (hn : n ≤ 10) (ht : PlaT m n t) (hl : ∀ x ∈ l, 0 ≤ x ∧ x < m) (hR : EqOK m n t R) (hF : (∃ y : Nat → Int, y (n - 1) = -1 ∧ sts m n R y) → sts m n R (yv n l)) : FirOK m n t (firT n t l) := by
  refine ⟨firT_ok (by omega) ht hl, fun g hg LG he => ?_⟩
  have he' : ∀ i j, i + j < n → atT t i j % m = atT g i j % m := fun i j h => by rw [he i j h]
  obtain ⟨x, hx⟩ := sol_laz hm h2 hn ht LG he' hR (hF ⟨topY n (atT g), by unfold topY; rw [if_pos (by omega)], law_sts hm h2 ht LG he' hR⟩)
  have hxr := mod_lt' (a := x) (show 0 < m by omega)
  refine ⟨(x % m).toNat, by omega, ?_⟩
  rw [show (((x % m).toNat : Nat) : Int) = x % m by omega]
  refine tab_eq hg (addT_ok (by omega) _ _ _) (eqv2.2 fun i j hij => ?_)
  unfold addT
  rw [atT_tri hij, mod_self_mod]
  unfold firT scaT cocT
  rw [atT_tri hij, atT_tri hij, atT_tri hij]
  by_cases h : i + j < n
  · rw [if_pos h, if_neg (by omega), Int.mul_zero, Int.zero_emod, Int.add_zero, he i j h]
  · have hj : j = n - i := by omega
    subst hj
    rw [if_neg h, if_pos (show i + (n - i) = n by omega)]
    by_cases h3 : 1 ≤ i ∧ i < n
    · rw [if_pos h3]
      have d := Int.emod_eq_emod_iff_emod_sub_eq_zero.2 (Int.emod_eq_zero_of_dvd (hx i h3.1 h3.2))
      have e1 : (x % m * (laz n i % m)) % m = x * laz n i % m := emod_congr_mul (mod_self_mod _ _) (mod_self_mod _ _)
      have e2 : (at0 l (i - 1) + x % m * (laz n i % m) % m) % m = (at0 l (i - 1) + (atT g i (n - i) - at0 l (i - 1))) % m := emod_congr_add rfl (by rw [mod_self_mod, e1, ← d])
      rw [e2]; congr 1; omega
    · rw [if_neg h3]
      have z : laz n i = 0 := by unfold laz; rw [if_neg h3]
      rw [z, Int.zero_emod, Int.mul_zero, Int.zero_emod, Int.add_zero, Int.zero_emod]
      obtain rfl | rfl : i = 0 ∨ i = n := by omega
      · rw [Nat.sub_zero, LG.sy 0 n (by omega), LG.un n (by omega), if_neg (by omega), Int.zero_emod]
      · rw [Nat.sub_self, LG.un i (by omega), if_neg (by omega), Int.zero_emod]
end Go.Proofs.YteijannfbafdpaaGreatDoor
set_option linter.unusedSimpArgs false
set_option linter.unusedVariables false
namespace Go.Proofs.YteijannfbafdpaaGreatDoor
open Go.RowKit

set_option maxHeartbeats 400000 in
theorem copyOfI_c (ad : Addr) (n c : Nat) (ys : List Int) (w : World) (hr : RdI w (.slice (some ad) n c) ys) (hn : ys.length ≤ 1048576) :
    Calls Tryz.prog 79 #[.slice (some ad) n c] w fun e w' => ∃ v', e = .returned v' ∧ OwI w' w.heap.size v' ys ∧ Below w.heap.size w w' := by
  have hr' := hr.below (w' := w.alloc (.cells #[] 2)) ((by (repeat (first | exact bR _ _ | (refine bS ?_ _) | (refine bA ?_ _) | (refine bN ?_ _) | (refine bD ?_))))) (Nat.le_refl _)
  go_enter Tryz.func79, Tryz.ntmps79
  go_wp2_with (at_builtin; refine apR _ rfl _ _ rfl w.heap.size _ [] rfl (OwI.lit w [] (Nat.zero_le _)) ad n c ys rfl hr' (by simp; omega) (by simp) ?_; intro o1 c1 w1 how hgr hb; clear hgr)
  go_ret
  exact ⟨_, rfl, how, by refine Below.trans ?_ hb; (repeat (first | exact bR _ _ | (refine bS ?_ _) | (refine bA ?_ _) | (refine bN ?_ _) | (refine bD ?_)))⟩
set_option maxHeartbeats 400000 in
theorem l01Own_c (ad : Addr) (n c : Nat) (ys : List Int) (w : World) (hr : RdI w (.slice (some ad) n c) ys) (hn : ys.length ≤ 1048576) :
    Calls Tryz.prog 73 #[.slice (some ad) n c] w fun e w' => ∃ v', e = .returned v' ∧ OwI w' w.heap.size v' ys ∧ Below w.heap.size w w' := by
  have hr' := hr.below (w' := w.alloc (.cells #[] 2)) ((by (repeat (first | exact bR _ _ | (refine bS ?_ _) | (refine bA ?_ _) | (refine bN ?_ _) | (refine bD ?_))))) (Nat.le_refl _)
  go_enter Tryz.func73, Tryz.ntmps73
  go_wp2_with (at_builtin; refine apR _ rfl _ _ rfl w.heap.size _ [] rfl (OwI.lit w [] (Nat.zero_le _)) ad n c ys rfl hr' (by simp; omega) (by simp) ?_; intro o1 c1 w1 how hgr hb; clear hgr)
  go_ret
  exact ⟨_, rfl, how, by refine Below.trans ?_ hb; (repeat (first | exact bR _ _ | (refine bS ?_ _) | (refine bA ?_ _) | (refine bN ?_ _) | (refine bD ?_)))⟩

end Go.Proofs.YteijannfbafdpaaGreatDoor
