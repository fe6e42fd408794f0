/- Lemmas. -/
import Derived.Test.YtfpphfjlpgefaaaGreatDoorQCG15
import Derived.Test.YtfpphfjlpgefaaaGreatDoorQCG1
import Derived.Test.YtfpphfjlpgefaaaGreatDoorQCG3
set_option linter.unusedSimpArgs false
set_option linter.unusedVariables false
namespace Go.Proofs.YtfpphfjlpgefaaaGreatDoor
open Go.RowKit

theorem PlaT.at {m : Int} {n : Nat} {t : List (List Int)} (h : PlaT m n t) {i j : Nat} (hij : i + j < n) : ∃ row, t[i]? = some row ∧ row[j]? = some (atT t i j) ∧ row.length = n - i ∧ 0 ≤ atT t i j ∧ atT t i j < m :=
  pla_at h.1 h.2 hij
theorem PlaT.row {m : Int} {n : Nat} {t : List (List Int)} (h : PlaT m n t) {i : Nat} (hi : i < n) : ∃ row, t[i]? = some row ∧ row.length = n - i ∧ (∀ j, j < n - i → row[j]? = some (atT t i j)) := by
  have hi' : i < t.length := by rw [h.1]; exact hi
  have h1 := h.2 i hi'
  refine ⟨t[i], by simp [hi'], by rw [h1.1, h.1], fun j hj => ?_⟩
  rw [atT_row hi']
  exact some_at0 (by rw [h1.1, h.1]; exact hj)

set_option maxHeartbeats 4000000 in
set_option maxRecDepth 100000 in
theorem timesP_c (m m' : Int) (n : Nat) (v u : Value) (xss yss : List (List Int)) (w : World) (hv : RdT w v xss) (hu : RdT w u yss) (h1 : 1 ≤ n) (hn : n ≤ 1000) (hm : 2 ≤ m) (hm' : m ≤ 3000000000)
    (hx : PlaT m n xss) (hy : PlaT m n yss) :
    Calls Tryz.prog 74 #[.agg #[.int .i64 m, v], .agg #[.int .i64 m', u]] w fun e w' => PVEnd w w' m (timesT m n xss yss) e := by
  obtain ⟨o, c, rfl, hmx, -⟩ := id hv
  obtain ⟨o', c', rfl, hmy, -⟩ := id hu
  rw [hx.1] at hmx ⊢
  rw [hy.1] at hmy ⊢
  unfold maxLen at hmx hmy
  have hv' : RdT w (.slice o n c) xss := by rw [hx.1] at hv; exact hv
  have hu' : RdT w (.slice o' n c') yss := by rw [hy.1] at hu; exact hu
  clear hv hu
  have HX := Lib.hid hx
  have HY := Lib.hid hy
  have hxl := hx.1
  have hyl := hy.1
  clear hx hy
  obtain ⟨bx, fx, rfl, -⟩ := hv'.rows (by omega)
  obtain ⟨by', fy, rfl, -⟩ := hu'.rows (by omega)
  clear hxl hyl
  go_enter Tryz.func74, Tryz.ntmps74
  go_wp2_with fail
  (have X0 := ((RB2.mk1 w  (.int .i64 m) (.slice (some ⟨bx, fx, none⟩) n c) 28).1).below (w' := (((w.alloc (.cells #[.int .i64 m, .slice (some ⟨bx, fx, none⟩) n c] 28)).alloc (.cells #[.int .i64 m', .slice (some ⟨by', fy, none⟩) n c'] 28)).alloc (.cells #[.int .i64 0, .slice none 0 0] 28))) (by (repeat (first | exact bR _ _ | (refine bS ?_ _) | (refine bA ?_ _) | (refine bN ?_ _) | (refine bD ?_)))) (Nat.le_refl _); have Y0 := ((RB2.mk2 w (.cells #[.int .i64 m, .slice (some ⟨bx, fx, none⟩) n c] 28) (.int .i64 m') (.slice (some ⟨by', fy, none⟩) n c') 28).1).below (w' := (((w.alloc (.cells #[.int .i64 m, .slice (some ⟨bx, fx, none⟩) n c] 28)).alloc (.cells #[.int .i64 m', .slice (some ⟨by', fy, none⟩) n c'] 28)).alloc (.cells #[.int .i64 0, .slice none 0 0] 28))) (by (repeat (first | exact bR _ _ | (refine bS ?_ _) | (refine bA ?_ _) | (refine bN ?_ _) | (refine bD ?_)))) (Nat.le_refl _); have R0 := ((RB2.mk3 w (.cells #[.int .i64 m, .slice (some ⟨bx, fx, none⟩) n c] 28) (.cells #[.int .i64 m', .slice (some ⟨by', fy, none⟩) n c'] 28) (.int .i64 0) (.slice none 0 0) 28)).below (w' := (((w.alloc (.cells #[.int .i64 m, .slice (some ⟨bx, fx, none⟩) n c] 28)).alloc (.cells #[.int .i64 m', .slice (some ⟨by', fy, none⟩) n c'] 28)).alloc (.cells #[.int .i64 0, .slice none 0 0] 28))) (by (repeat (first | exact bR _ _ | (refine bS ?_ _) | (refine bA ?_ _) | (refine bN ?_ _) | (refine bD ?_)))) (Nat.le_refl _); have B0 : Below w.heap.size w (((w.alloc (.cells #[.int .i64 m, .slice (some ⟨bx, fx, none⟩) n c] 28)).alloc (.cells #[.int .i64 m', .slice (some ⟨by', fy, none⟩) n c'] 28)).alloc (.cells #[.int .i64 0, .slice none 0 0] 28)) := (by (repeat (first | exact bR _ _ | (refine bS ?_ _) | (refine bA ?_ _) | (refine bN ?_ _) | (refine bD ?_)))); generalize ((w.alloc (.cells #[.int .i64 m, .slice (some ⟨bx, fx, none⟩) n c] 28)).alloc (.cells #[.int .i64 m', .slice (some ⟨by', fy, none⟩) n c'] 28)).alloc (.cells #[.int .i64 0, .slice none 0 0] 28) = w0 at X0 Y0 R0 B0  ⊢)
  have hzl : w.heap.size + 2 < w0.heap.size := R0.1.lt
  go_cut [5] (fun sb u => ∃ (wz : World) (b : Nat) (oz : Option Addr) (cz : Nat), wz = u ∧ sb = .pointer (some ⟨b, 0, none⟩) ∧ w0.heap.size ≤ b ∧ RB2 u b (.int .i64 m) (.slice oz n cz) ∧ (∃ lo hi, OwSR lo hi u (.slice oz n cz) (zeroT n) ∧ w0.heap.size ≤ lo ∧ (b < lo ∨ hi ≤ b) ∧ hi ≤ u.heap.size) ∧ True ∧ Below w0.heap.size w0 u)
  case first =>
    have hd0 : Below w0.heap.size w0 w0.drew := (Below.refl _ _).drew
    have hsd0 := hd0.size
    have hlb_X0 := X0.lt
    obtain ⟨q0_X0_0, q0_X0_1⟩ := X0.below (Below.refl w0.heap.size w0) (Nat.le_refl _)
    have hne0_X0 : w0.heap.size ≠ w.heap.size := by omega
    go_region_held3 (fun w' => w'.cell? ⟨w.heap.size, 0, none⟩ = some (.int .i64 m) ∧ w'.cell? ⟨w.heap.size, 1, none⟩ = some (.slice (some ⟨bx, fx, none⟩) n c)) (go_keep)
      (first
        | (go_at_call 28; refine (degreeP_c m (some ⟨bx, fx, none⟩) n c _ (by unfold maxLen; omega)).mono ?_; rintro e wd1 ⟨rfl, hbd1⟩; have hd1 : Below w0.heap.size w0 wd1 := (by (repeat (first | exact bR _ _ | (refine bS ?_ _) | (refine bA ?_ _) | (refine bN ?_ _) | (refine bD ?_) | (refine bT ?_ hbd1)))); have hsd1 := hd1.size; have hsz1_ := hbd1.size; (try simp at hsz1_); obtain ⟨q1_X0_0, q1_X0_1⟩ := X0.below hd1 (Nat.le_refl _); have hne1_X0 : wd1.heap.size ≠ w.heap.size := (by omega); (try (have RZ := RZ.below hbd1 (Nat.le_refl _))); (try (have RZ := (show RB2 (w0.alloc (.cells #[.int .i64 0, .slice none 0 0] 28)).drew w0.heap.size (.int .i64 0) (.slice none 0 0) from RB2.mk1 w0 (.int .i64 0) (.slice none 0 0) _).below hbd1 (Nat.le_refl _))); (try (obtain ⟨⟨z1_0, z1_1⟩, zf1⟩ := id RZ)))
        | (go_at_call 93; refine (emptyPlane_c m ((n : Int) - 1) n _ rfl hn).mono ?_; rintro e wd2 ⟨vz2, rfl, hod2, hbd2⟩; obtain ⟨oz, cz, rfl⟩ := hod2.shapeN (n := n) (zeroT_len n); have hd2 : Below w0.heap.size w0 wd2 := (by (repeat (first | exact bR _ _ | (refine bS ?_ _) | (refine bA ?_ _) | (refine bN ?_ _) | (refine bD ?_) | (refine bT ?_ hbd1) | (refine bT ?_ hbd2)))); have hsd2 := hd2.size; have hsz2_ := hbd2.size; (try simp at hsz2_); obtain ⟨q2_X0_0, q2_X0_1⟩ := X0.below hd2 (Nat.le_refl _); have hne2_X0 : wd2.heap.size ≠ w.heap.size := (by omega); (try (have RZ := RZ.below hbd2 (Nat.le_refl _))); (try (have RZ := (show RB2 (wd1.alloc (.cells #[.int .i64 0, .slice none 0 0] 28)) wd1.heap.size (.int .i64 0) (.slice none 0 0) from RB2.mk1 wd1 (.int .i64 0) (.slice none 0 0) _).below hbd2 (Nat.le_refl _))); (try (obtain ⟨⟨z2_0, z2_1⟩, zf2⟩ := id RZ))))
    all_goals
      go_wp2_with fail
      go_meet
      refine ⟨_, _, oz, cz, rfl, rfl, ?_, ?_, ?_, ?_, ?_⟩
      · first | omega | (simp; done) | (simp; omega)
      · first | exact RB2.mk1 _ _ _ _ | exact RB2.put RZ _ _
      · first | exact ⟨_, _, hod2.ra _, (by first | (simp; done) | (simp; omega) | omega), .inr (Nat.le_refl _), (by first | (simp; done) | (simp; omega) | omega)⟩ | exact ⟨_, _, hod2.rp2 (by first | (simp; done) | (simp; omega) | omega) _ _, (by first | (simp; done) | (simp; omega) | omega), .inl (by first | (simp; done) | (simp; omega) | omega), (by first | (simp; done) | (simp; omega) | omega)⟩
      · trivial
      · (repeat (first | exact bR _ _ | (refine bS ?_ _) | (refine bA ?_ _) | (refine bN ?_ _) | (refine bD ?_) | (refine bT ?_ hbd1) | (refine bT ?_ hbd2)))
  case rest =>
  obtain ⟨w1, b, oz, cz, rfl, rfl, hbW, O, how, hneb, hb⟩ := hcut
  (have X1 := X0.below hb (Nat.le_refl _); have Y1 := Y0.below hb (Nat.le_refl _); have R1 := R0.below hb (Nat.le_refl _); have B1 := B0.trans (hb.mono B0.size))
  obtain ⟨lo, hi, how, hlo, hbo, hhi⟩ := how
  obtain ⟨us, how⟩ := how.named
  obtain ⟨g, rfl, hgl, hgl'⟩ := how.row h1
  rw [tmT_0 m n xss yss] at how
  obtain ⟨x0, x1⟩ := id X1
  go_wp2_with fail
  refine (degreeP_c m (some ⟨bx, fx, none⟩) n c _ (by unfold maxLen; omega)).mono ?_
  rintro e w2 ⟨rfl, hb2⟩
  (have X2 := X1.below hb2 (Nat.le_refl _); have Y2 := Y1.below hb2 (Nat.le_refl _); have R2 := R1.below hb2 (Nat.le_refl _); have B2 := B1.trans (hb2.mono B1.size))
  have O2 := O.below hb2 (Nat.le_refl _)
  have how2 := how.stay (u' := w2) (fun k _ hk => hb2.block k (by omega))
  clear O how x0 x1 hb2
  have B2s := B2.size
  have hlB : w.heap.size + 2 < lo := by omega
  have m0 : (m == 0) = false := by simp; omega
  have m1 : ¬ m = 0 := by omega
  obtain ⟨x0, x1⟩ := id X2
  go_wp2_with fail
  clear x0 x1
  go_loopw [24] (fun s wr => ∃ i : Nat, i ≤ n ∧ s = .int .i64 i ∧ OwSU us lo hi wr (.slice (some ⟨g, 0, none⟩) n cz) (tmT m n xss yss i 0 0 0) ∧ Chg lo hi w2 wr) (fun i _ => n - (intOf i).toNat)
  case atStart => exact ⟨0, Nat.zero_le _, rfl, how2, Chg.refl _ _ _⟩
  case round =>
    obtain ⟨i, hi', rfl, hO, hC⟩ := hrel
    by_cases hlt : i < n
    · obtain ⟨r1, hr1, hl1, hj1⟩ := HX.out.row hlt
      obtain ⟨p1, q1, cx0, rx0⟩ := hv'.row hr1
      rw [hl1] at cx0 rx0
      obtain ⟨b1, f1, rfl, -⟩ := rx0.cells (by omega)
      have Br := hC.below B2 (by omega) B2s
      have cx := keep_cell Br (Nat.le_refl _) cx0
      have i0 : (0 : Int) ≤ (i : Int) := by omega
      have i1 : (i : Int) < (n : Int) := by omega
      have HJ := Lib.hid hj1
      clear hr1 hl1 hj1 cx0
      go_wp2_with fail
      clear cx
      go_loopw [31] (fun s wr => ∃ j : Nat, j ≤ n - i ∧ s = .int .i64 j ∧ OwSU us lo hi wr (.slice (some ⟨g, 0, none⟩) n cz) (tmT m n xss yss i j 0 0) ∧ Chg lo hi w2 wr) (fun i' _ => n - i - (intOf i').toNat)
      case atStart => exact ⟨0, Nat.zero_le _, rfl, hO, hC⟩
      case round =>
        obtain ⟨j, hj, rfl, hO, hC⟩ := hrel
        have Br := hC.below B2 (by omega) B2s
        by_cases hjl : j < n - i
        · have ex := (rx0.below Br (Nat.le_refl _)).cell0 (HJ.out j hjl)
          obtain ⟨-, -, -, -, hxa, hxb⟩ := HX.out.at (i := i) (j := j) (by omega)
          have j0 : (0 : Int) ≤ (j : Int) := by omega
          have j1 : (j : Int) < ((n - i : Nat) : Int) := by omega
          cases hx0 : (atT xss i j == 0)
          · go_wp2_with fail
            clear ex
            go_loopw [11] (fun s wr => ∃ k : Nat, k ≤ n - i - j ∧ s = .int .i64 k ∧ OwSU us lo hi wr (.slice (some ⟨g, 0, none⟩) n cz) (tmT m n xss yss i j k 0) ∧ Chg lo hi w2 wr) (fun i' _ => n - i - j - (intOf i').toNat)
            case atStart => exact ⟨0, Nat.zero_le _, rfl, hO, hC⟩
            case round =>
              obtain ⟨k, hk, rfl, hO, hC⟩ := hrel
              have Br := hC.below B2 (by omega) B2s
              by_cases hkl : k < n - i - j
              · obtain ⟨r2, hr2, hl2, hj2⟩ := HY.out.row (show k < n by omega)
                obtain ⟨p2, q2, cy0, ry0⟩ := hu'.row hr2
                rw [hl2] at cy0 ry0
                obtain ⟨-, -, hq2⟩ := ry0.len
                rw [hl2] at hq2
                obtain ⟨b2, f2, rfl, -⟩ := ry0.cells (by omega)
                have cy := keep_cell Br (Nat.le_refl _) cy0
                obtain ⟨y0, y1⟩ := Y2.chg hC (by omega)
                have HJ2 := Lib.hid hj2
                clear hr2 hl2 hj2 cy0
                have k0 : (0 : Int) ≤ (k : Int) := by omega
                have k1 : (k : Int) < (n : Int) := by omega
                have k2 : (i : Int) + (j : Int) + (k : Int) ≤ (n : Int) - 1 := by omega
                have k3 : (0 : Int) ≤ (n : Int) - 1 - (i : Int) - (j : Int) - (k : Int) + 1 := by omega
                have k4 : (n : Int) - 1 - (i : Int) - (j : Int) - (k : Int) + 1 ≤ (q2 : Int) := by omega
                have k5 : ((n : Int) - 1 - (i : Int) - (j : Int) - (k : Int) + 1).toNat = n - i - j - k := by omega
                go_wp2_with fail
                clear cy y0 y1
                go_loopw [62] (fun s wr => ∃ l : Nat, l ≤ n - i - j - k ∧ s = .int .i64 l ∧ OwSU us lo hi wr (.slice (some ⟨g, 0, none⟩) n cz) (tmT m n xss yss i j k l) ∧ Chg lo hi w2 wr) (fun i' _ => n - i - j - k - (intOf i').toNat)
                case atStart => exact ⟨0, Nat.zero_le _, rfl, hO, hC⟩
                case round =>
                  obtain ⟨l, hl, rfl, hO, hC⟩ := hrel
                  have Br := hC.below B2 (by omega) B2s
                  by_cases hll : l < n - i - j - k
                  · have ey := (ry0.below Br (Nat.le_refl _)).cell0 (HJ2.out l (by omega))
                    obtain ⟨-, -, -, -, hya, hyb⟩ := HY.out.at (i := k) (j := l) (by omega)
                    obtain ⟨o3, c3, hu3, cx3, how3, hbl3, hset3⟩ := hO.at (tmT_row' (show i + k < n by omega))
                    rw [tmTr_len] at hu3 cx3 how3 hbl3 hset3
                    obtain ⟨gr, rfl, hgr1, hgr2⟩ := how3.row (by omega)
                    have hgr3 := hbl3 gr rfl
                    have hc0 := how3.cell (k := j + l) (tmTr_get (show i + k + (j + l) < n by omega))
                    have hf0 := how3.fz (j + l)
                    have hN := Lib.hid how3
                    have hS := Lib.hid hset3
                    clear how3 hset3 hbl3 hu3
                    obtain ⟨x0, x1⟩ := X2.chg hC (by omega)
                    obtain ⟨⟨z0, z1⟩, zf⟩ := O2.chg hC hbo
                    have l0 : (0 : Int) ≤ (l : Int) := by omega
                    have l1 : (l : Int) < ((n - i - j - k : Nat) : Int) := by omega
                    have l2 : (0 : Int) ≤ (i : Int) + (k : Int) := by omega
                    have l3 : (i : Int) + (k : Int) < (n : Int) := by omega
                    have l4 : ((i : Int) + (k : Int)).toNat = i + k := by omega
                    have l5 : (0 : Int) ≤ (j : Int) + (l : Int) := by omega
                    have l6 : (j : Int) + (l : Int) < ((n - (i + k) : Nat) : Int) := by omega
                    have l7 : ((j : Int) + (l : Int)).toNat = j + l := by omega
                    have hM := mod_lt' (a := atT xss i j * atT yss k l) (show 0 < m by omega)
                    have hCm := mod_lt' (a := c2P n (atT xss) (atT yss) i j k l (i + k) (j + l)) (show 0 < m by omega)
                    have hMod := mod_lt' (a := c2P n (atT xss) (atT yss) i j k l (i + k) (j + l) % m + atT xss i j * atT yss k l % m) (show 0 < m by omega)
                    go_wp2_with fail
                    have e0 : IntKind.i64.wrap ((i : Int) + (k : Int)) = (i : Int) + (k : Int) := IntWalk.i64_in _ (by omega)
                    have e3 : IntKind.i64.wrap ((j : Int) + (l : Int)) = (j : Int) + (l : Int) := IntWalk.i64_in _ (by omega)
                    have e1 : IntKind.i64.wrap (c2P n (atT xss) (atT yss) i j k l (i + k) (j + l) % m + atT xss i j * atT yss k l % m) = c2P n (atT xss) (atT yss) i j k l (i + k) (j + l) % m + atT xss i j * atT yss k l % m := IntWalk.i64_in _ (by omega)
                    have e2 : (c2P n (atT xss) (atT yss) i j k l (i + k) (j + l) % m + atT xss i j * atT yss k l % m).tmod m = (c2P n (atT xss) (atT yss) i j k l (i + k) (j + l) % m + atT xss i j * atT yss k l % m) % m := Int.tmod_eq_emod_of_nonneg (by omega)
                    go_still_tail 32, (by kernel_rfl)
                    still_call (stillC (mul_c _ _ _ _ (by omega) hm' (by omega) (by omega) (by omega) (by omega)))
                    repeat still_step
                    refine wpStill_nil ?_
                    change wpList _ _ _ _ _ wr.drew
                    have hg0 := gr_put (gr_drewN (World.grownBy.refl wr (some gr)) 1) (j + l) (.int .i64 ((c2P n (atT xss) (atT yss) i j k l (i + k) (j + l) % m + atT xss i j * atT yss k l % m) % m))
                    have hOn := hS.out _ _ (by rw [List.length_set, tmTr_len]) hg0 ((hN.out.drewN 1).put (j + l) _)
                    have hCn := hC.grown hg0 hgr3.1 hgr3.2.1
                    rw [← Int.add_emod, tmT_set (by omega)] at hOn
                    rw [← Int.add_emod] at hCn
                    go_wp2
                    exact ⟨⟨l + 1, by omega, by go_num, hOn, hCn⟩, by simp [intOf]; omega⟩
                  · obtain rfl : l = n - i - j - k := by omega
                    rw [tmT_row (by omega)] at hO
                    go_wp2
                    exact ⟨⟨k + 1, by omega, by go_num, hO, hC⟩, by simp [intOf]; omega⟩
              · obtain rfl : k = n - i - j := by omega
                rw [tmT_place (.inl (by omega))] at hO
                have k2 : ¬ (i : Int) + (j : Int) + ((n - i - j : Nat) : Int) ≤ (n : Int) - 1 := by omega
                go_wp2
                exact ⟨⟨j + 1, by omega, by go_num, hO, hC⟩, by simp [intOf]; omega⟩
          · rw [tmT_place (.inr (by simpa using hx0))] at hO
            go_wp2
            exact ⟨⟨j + 1, by omega, by go_num, hO, hC⟩, by simp [intOf]; omega⟩
        · obtain rfl : j = n - i := by omega
          rw [tmT_line rfl] at hO
          go_wp2
          exact ⟨⟨i + 1, by omega, by go_num, hO, hC⟩, by simp [intOf]; omega⟩
    · obtain rfl : i = n := by omega
      rw [tmT_all] at hO
      obtain ⟨⟨z0, z1⟩, zf⟩ := O2.chg hC hbo
      obtain ⟨⟨r0, r1⟩, rf⟩ := R2.chg hC (.inl hlB)
      have Br := hC.below B2 (by omega) B2s
      go_wp2
      refine bodyPost_ret (v := .agg #[.int .i64 m, .slice (some ⟨g, 0, none⟩) i cz]) (by simp [results, Tryz.results74, go_sem, r0, r1]) rfl ⟨_, rfl, ?_, ?_⟩
      · exact ((hO.r.ow.low hlB _).low hlB _).mono (by omega)
      · (repeat (first | exact bR _ _ | (refine bS ?_ _) | (refine bA ?_ _) | (refine bN ?_ _) | (refine bD ?_) | (refine bT ?_ Br)))

end Go.Proofs.YtfpphfjlpgefaaaGreatDoor
set_option linter.unusedSimpArgs false
set_option linter.unusedVariables false
namespace Go.Proofs.YtfpphfjlpgefaaaGreatDoor
open Go.RowKit

set_option maxHeartbeats 1000000 in
set_option maxRecDepth 100000 in
theorem l03Zero_c (d : Int) (n : Nat) (w : World) (hd : d = (n : Int) - 1) (hn : n ≤ 1000) :
    Calls Tryz.prog 38 #[.int .i64 d] w fun e w' => ∃ v', e = .returned v' ∧ OwS w' w.heap.size v' (zeroT n) ∧ Below w.heap.size w w' := by
  subst hd
  go_enter Tryz.func38, Tryz.ntmps38
  go_wp2_with fail
  have O1 := OwS.lit0 w
  have B1 : Below w.heap.size w (w.alloc (.cells #[] 35)) := (by (repeat (first | exact bR _ _ | (refine bS ?_ _) | (refine bA ?_ _) | (refine bN ?_ _) | (refine bD ?_))))
  generalize w.alloc (.cells #[] 35) = w1 at O1 B1 ⊢
  go_loopw [3, 4] (fun s i wr => ∃ (k : Nat) (ov : Option Addr) (cv : Nat), k ≤ n ∧ i = .int .i64 k ∧ s = .slice ov k cv ∧ OwS wr w.heap.size (.slice ov k cv) (zeroRows n k) ∧ Below w.heap.size w wr) (fun _ i _ => n - (intOf i).toNat)
  case atStart => exact ⟨0, _, _, Nat.zero_le _, rfl, rfl, O1, B1⟩
  case round =>
    obtain ⟨k, ov, cv, hk, rfl, rfl, hO, hB⟩ := hrel
    by_cases hlt : k < n
    · have i1 : (k : Int) ≤ (n : Int) - 1 := by omega
      have hBs := hB.size
      have HS := Lib.hid (zeroRows_snoc n k)
      have HLn := Lib.hid (zeroRows_len n k)
      generalize zeroRows n k = l at hO HS HLn
      go_wp2_with (first
        | (at_make; go_loud (refine mkI _ rfl _ _ rfl _ _ _ (n - k) rfl rfl (by omega) (by omega) ?_; intro w2 how hb2 hs2; have hz2 : wr.heap.size < w2.heap.size := (by omega); clear hs2))
        | (at_builtin; obtain ⟨W, hW⟩ : ∃ W : World, W = w2.alloc (.cells #[.slice (some ⟨wr.heap.size, 0, none⟩) (n - k) (n - k)] 35) := ⟨_, rfl⟩; have hWs : W.heap.size = w2.heap.size + 1 := (by rw [hW]; simp); have hT : OwSR w.heap.size wr.heap.size W (.slice ov k cv) l := (by rw [hW]; exact hO.toR.stay (fun j _ hj => (Below.heap_alloc _ _ j (by omega)).trans (hb2.block j hj))); have hU : OwI W wr.heap.size (.slice (some ⟨wr.heap.size, 0, none⟩) (n - k) (n - k)) (List.replicate (n - k) 0) := (by rw [hW]; exact how.alloc _); have hC : W.cell? ⟨w2.heap.size, 0, none⟩ = some (.slice (some ⟨wr.heap.size, 0, none⟩) (n - k) (n - k)) := (by rw [hW]; simp); have B3 : Below w.heap.size w W := (by rw [hW]; exact hB.trans ((((Below.refl wr.heap.size wr).trans hb2).alloc (Nat.le_of_lt hz2) _).mono hBs)); rw [← hW]; have HW := Lib.hid hW; clear hW; go_loud (refine apT W rfl _ _ rfl w.heap.size wr.heap.size (.slice ov k cv) l rfl hT (by omega) hBs _ _ w2.heap.size rfl hC hU (by rw [HLn.out]; omega) ?_; intro g cap w3 hO3 hgr hb3; clear hgr; have B4 := B3.trans hb3)))
      rw [HLn.out, ← HS.out] at hO3
      exact ⟨⟨k + 1, _, _, by omega, by go_num, by rw [HLn.out], hO3, B4⟩, by simp [intOf]; omega⟩
    · obtain rfl : k = n := by omega
      have i1 : ¬ (k : Int) ≤ (k : Int) - 1 := by omega
      rw [zeroRows_all] at hO
      go_wp2
      go_ret
      exact ⟨_, rfl, hO, hB⟩

end Go.Proofs.YtfpphfjlpgefaaaGreatDoor
set_option linter.unusedSimpArgs false
set_option linter.unusedVariables false
namespace Go.Proofs.YtfpphfjlpgefaaaGreatDoor
open Go.RowKit

set_option maxHeartbeats 4000000 in
set_option maxRecDepth 100000 in
theorem l03Times_c (m : Int) (n : Nat) (v u : Value) (xss yss : List (List Int)) (w : World) (hv : RdT w v xss) (hu : RdT w u yss) (h1 : 1 ≤ n) (hn : n ≤ 1000) (hm : 2 ≤ m) (hm' : m ≤ 3000000000)
    (hx : PlaT m n xss) (hy : PlaT m n yss) :
    Calls Tryz.prog 39 #[.int .i64 m, v, u] w fun e w' => ∃ v', e = .returned v' ∧ OwS w' w.heap.size v' (timesT m n xss yss) ∧ Below w.heap.size w w' := by
  obtain ⟨o, c, rfl, hmx, -⟩ := id hv
  obtain ⟨o', c', rfl, hmy, -⟩ := id hu
  rw [hx.1] at hmx ⊢
  rw [hy.1] at hmy ⊢
  unfold maxLen at hmx hmy
  have hv' : RdT w (.slice o n c) xss := by rw [hx.1] at hv; exact hv
  have hu' : RdT w (.slice o' n c') yss := by rw [hy.1] at hu; exact hu
  clear hv hu
  have HX := Lib.hid hx
  have HY := Lib.hid hy
  have hxl := hx.1
  have hyl := hy.1
  clear hx hy
  obtain ⟨bx, fx, rfl, -⟩ := hv'.rows (by omega)
  obtain ⟨by', fy, rfl, -⟩ := hu'.rows (by omega)
  clear hxl hyl
  have m0 : (m == 0) = false := by simp; omega
  have m1 : ¬ m = 0 := by omega
  go_enter Tryz.func39, Tryz.ntmps39
  go_wp2_with (go_at_call 38; refine (l03Zero_c ((n : Int) - 1) n _ rfl hn).mono ?_; rintro e w2 ⟨vz, rfl, how, B2⟩; obtain ⟨oz, cz, rfl⟩ := how.shapeN (n := n) (zeroT_len n))
  have how := how.toR
  obtain ⟨hi, hhi⟩ : ∃ hi, w2.heap.size = hi := ⟨_, rfl⟩
  rw [hhi] at how
  obtain ⟨us, how⟩ := how.named
  obtain ⟨g, rfl, hgl, hgl'⟩ := how.row h1
  rw [tmT_0 m n xss yss] at how
  have B2s := B2.size
  go_loopw [9] (fun s wr => ∃ i : Nat, i ≤ n ∧ s = .int .i64 i ∧ OwSU us w.heap.size hi wr (.slice (some ⟨g, 0, none⟩) n cz) (tmT m n xss yss i 0 0 0) ∧ Chg w.heap.size hi w2 wr) (fun i _ => n - (intOf i).toNat)
  case atStart => exact ⟨0, Nat.zero_le _, rfl, how, Chg.refl _ _ _⟩
  case round =>
    obtain ⟨i, hi', rfl, hO, hC⟩ := hrel
    by_cases hlt : i < n
    · obtain ⟨r1, hr1, hl1, hj1⟩ := HX.out.row hlt
      obtain ⟨p1, q1, cx0, rx0⟩ := hv'.row hr1
      rw [hl1] at cx0 rx0
      obtain ⟨b1, f1, rfl, -⟩ := rx0.cells (by omega)
      have i0 : (0 : Int) ≤ (i : Int) := by omega
      have i1 : (i : Int) < (n : Int) := by omega
      have HJ := Lib.hid hj1
      clear hr1 hl1 hj1
      go_wp2_with fail
      go_loopw [10] (fun s wr => ∃ j : Nat, j ≤ n - i ∧ s = .int .i64 j ∧ OwSU us w.heap.size hi wr (.slice (some ⟨g, 0, none⟩) n cz) (tmT m n xss yss i j 0 0) ∧ Chg w.heap.size hi w2 wr) (fun i' _ => n - i - (intOf i').toNat)
      case atStart => exact ⟨0, Nat.zero_le _, rfl, hO, hC⟩
      case round =>
        obtain ⟨j, hj, rfl, hO, hC⟩ := hrel
        have Br := hC.below B2 (by omega) B2s
        by_cases hjl : j < n - i
        · have ex := (rx0.below Br (Nat.le_refl _)).cell0 (HJ.out j hjl)
          have cx := keep_cell Br (Nat.le_refl _) cx0
          obtain ⟨-, -, -, -, hxa, hxb⟩ := HX.out.at (i := i) (j := j) (by omega)
          have j0 : (0 : Int) ≤ (j : Int) := by omega
          have j1 : (j : Int) < ((n - i : Nat) : Int) := by omega
          have j2 : (i : Int) + (j : Int) < (n : Int) := by omega
          cases hx0 : (atT xss i j == 0)
          · go_wp2_with fail
            clear ex cx
            go_loopw [11] (fun s wr => ∃ k : Nat, k ≤ n - i - j ∧ s = .int .i64 k ∧ OwSU us w.heap.size hi wr (.slice (some ⟨g, 0, none⟩) n cz) (tmT m n xss yss i j k 0) ∧ Chg w.heap.size hi w2 wr) (fun i' _ => n - i - j - (intOf i').toNat)
            case atStart => exact ⟨0, Nat.zero_le _, rfl, hO, hC⟩
            case round =>
              obtain ⟨k, hk, rfl, hO, hC⟩ := hrel
              have Br := hC.below B2 (by omega) B2s
              by_cases hkl : k < n - i - j
              · obtain ⟨r2, hr2, hl2, hj2⟩ := HY.out.row (show k < n by omega)
                obtain ⟨p2, q2, cy0, ry0⟩ := hu'.row hr2
                rw [hl2] at cy0 ry0
                obtain ⟨b2, f2, rfl, -⟩ := ry0.cells (by omega)
                have cy := keep_cell Br (Nat.le_refl _) cy0
                have HJ2 := Lib.hid hj2
                clear hr2 hl2 hj2 cy0
                obtain ⟨o3, c3, hu3, cx3, how3, hbl3, -⟩ := hO.at (tmT_row' (show i + k < n by omega))
                rw [tmTr_len] at hu3 cx3 how3 hbl3
                obtain ⟨gr, rfl, hgr1, hgr2⟩ := how3.row (by omega)
                have hgr3 := hbl3 gr rfl
                have HU3 := Lib.hid hu3
                clear how3 hbl3 hu3
                have k0 : (0 : Int) ≤ (k : Int) := by omega
                have k1 : (k : Int) < (n : Int) := by omega
                have k2 : (i : Int) + (j : Int) + (k : Int) < (n : Int) := by omega
                have k3 : (0 : Int) ≤ (i : Int) + (k : Int) := by omega
                have k4 : (i : Int) + (k : Int) < (n : Int) := by omega
                have k5 : ((i : Int) + (k : Int)).toNat = i + k := by omega
                go_wp2_with fail
                have e0 : IntKind.i64.wrap ((i : Int) + (k : Int)) = (i : Int) + (k : Int) := IntWalk.i64_in _ (by omega)
                go_quiet (fail)
                clear cy cx3 e0
                go_wp2_with fail
                go_loopw [14] (fun s wr => ∃ l : Nat, l ≤ n - i - j - k ∧ s = .int .i64 l ∧ OwSU us w.heap.size hi wr (.slice (some ⟨g, 0, none⟩) n cz) (tmT m n xss yss i j k l) ∧ Chg w.heap.size hi w2 wr) (fun i' _ => n - i - j - k - (intOf i').toNat)
                case atStart => exact ⟨0, Nat.zero_le _, rfl, hO, hC.drewN _⟩
                case round =>
                  obtain ⟨l, hl, rfl, hO, hC⟩ := hrel
                  have Br := hC.below B2 (by omega) B2s
                  by_cases hll : l < n - i - j - k
                  · have ey := (ry0.below Br (Nat.le_refl _)).cell0 (HJ2.out l (by omega))
                    have ex := (rx0.below Br (Nat.le_refl _)).cell0 (HJ.out j hjl)
                    have cx := keep_cell Br (Nat.le_refl _) cx0
                    obtain ⟨-, -, -, -, hya, hyb⟩ := HY.out.at (i := k) (j := l) (by omega)
                    obtain ⟨o4, c4, hu4, -, how3, -, hset3⟩ := hO.at (tmT_row' (show i + k < n by omega))
                    rw [tmTr_len] at hu4 how3 hset3
                    obtain ⟨rfl, rfl⟩ : some ⟨gr, 0, none⟩ = o4 ∧ c3 = c4 := by rw [HU3.out] at hu4; simpa using hu4
                    have hc0 := how3.cell (k := j + l) (tmTr_get (show i + k + (j + l) < n by omega))
                    have hf0 := how3.fz (j + l)
                    have hN := Lib.hid how3
                    have hS := Lib.hid hset3
                    clear how3 hset3 hu4
                    have l0 : (0 : Int) ≤ (l : Int) := by omega
                    have l1 : (l : Int) < ((n - k : Nat) : Int) := by omega
                    have l2 : (i : Int) + (j : Int) + (k : Int) + (l : Int) < (n : Int) := by omega
                    have l5 : (0 : Int) ≤ (j : Int) + (l : Int) := by omega
                    have l6 : (j : Int) + (l : Int) < ((n - (i + k) : Nat) : Int) := by omega
                    have l7 : ((j : Int) + (l : Int)).toNat = j + l := by omega
                    obtain ⟨hM0, hM1⟩ := prod_fits hxa hya hxb hyb hm'
                    have hCm := mod_lt' (a := c2P n (atT xss) (atT yss) i j k l (i + k) (j + l)) (show 0 < m by omega)
                    have hMod := mod_lt' (a := c2P n (atT xss) (atT yss) i j k l (i + k) (j + l) % m + atT xss i j * atT yss k l) (show 0 < m by omega)
                    go_wp2_with fail
                    have e0 : IntKind.i64.wrap ((j : Int) + (l : Int)) = (j : Int) + (l : Int) := IntWalk.i64_in _ (by omega)
                    have e3 : IntKind.i64.wrap (atT xss i j * atT yss k l) = atT xss i j * atT yss k l := IntWalk.i64_in _ (by omega)
                    have e1 : IntKind.i64.wrap (c2P n (atT xss) (atT yss) i j k l (i + k) (j + l) % m + atT xss i j * atT yss k l) = c2P n (atT xss) (atT yss) i j k l (i + k) (j + l) % m + atT xss i j * atT yss k l := IntWalk.i64_in _ (by omega)
                    have e2 : (c2P n (atT xss) (atT yss) i j k l (i + k) (j + l) % m + atT xss i j * atT yss k l).tmod m = (c2P n (atT xss) (atT yss) i j k l (i + k) (j + l) % m + atT xss i j * atT yss k l) % m := Int.tmod_eq_emod_of_nonneg (by omega)
                    go_still_tail 26, (by kernel_rfl)
                    change wpList _ _ _ _ _ wr.drew
                    have HE := Lib.hid (show (c2P n (atT xss) (atT yss) i j k l (i + k) (j + l) % m + atT xss i j * atT yss k l) % m = (c2P n (atT xss) (atT yss) i j k l (i + k) (j + l) + atT xss i j * atT yss k l) % m by rw [Int.add_emod, Int.emod_emod_of_dvd _ (Int.dvd_refl m), ← Int.add_emod])
                    have hg0 := gr_put (gr_drewN (World.grownBy.refl wr (some gr)) 1) (j + l) (.int .i64 ((c2P n (atT xss) (atT yss) i j k l (i + k) (j + l) % m + atT xss i j * atT yss k l) % m))
                    have hOn := hS.out _ _ (by rw [List.length_set, tmTr_len]) hg0 ((hN.out.drewN 1).put (j + l) _)
                    have hCn := hC.grown hg0 hgr3.1 hgr3.2.1
                    rw [HE.out, tmT_set (by omega)] at hOn
                    rw [HE.out] at hCn
                    go_wp2
                    exact ⟨⟨l + 1, by omega, by go_num, hOn, hCn⟩, by simp [intOf]; omega⟩
                  · obtain rfl : l = n - i - j - k := by omega
                    rw [tmT_row (by omega)] at hO
                    have l2 : ¬ (i : Int) + (j : Int) + (k : Int) + ((n - i - j - k : Nat) : Int) < (n : Int) := by omega
                    go_wp2
                    exact ⟨⟨k + 1, by omega, by go_num, hO, hC⟩, by simp [intOf]; omega⟩
              · obtain rfl : k = n - i - j := by omega
                rw [tmT_place (.inl (by omega))] at hO
                have k2 : ¬ (i : Int) + (j : Int) + ((n - i - j : Nat) : Int) < (n : Int) := by omega
                go_wp2
                exact ⟨⟨j + 1, by omega, by go_num, hO, hC⟩, by simp [intOf]; omega⟩
          · rw [tmT_place (.inr (by simpa using hx0))] at hO
            go_wp2
            exact ⟨⟨j + 1, by omega, by go_num, hO, hC⟩, by simp [intOf]; omega⟩
        · obtain rfl : j = n - i := by omega
          rw [tmT_line rfl] at hO
          have j2 : ¬ (i : Int) + ((n - i : Nat) : Int) < (n : Int) := by omega
          go_wp2
          exact ⟨⟨i + 1, by omega, by go_num, hO, hC⟩, by simp [intOf]; omega⟩
    · obtain rfl : i = n := by omega
      rw [tmT_all] at hO
      have Br := hC.below B2 (by omega) B2s
      go_wp2
      go_ret
      exact ⟨_, rfl, hO.r.ow, Br⟩

end Go.Proofs.YtfpphfjlpgefaaaGreatDoor
