/- Lemmas. -/
import Derived.Test.YtoednonijmkbjaaGreatLG15
import Derived.Test.YtoednonijmkbjaaGreatLG6
import Derived.Test.YtoednonijmkbjaaGreatLG1
import Derived.Test.YtoednonijmkbjaaGreatLM8
import Derived.Test.YtoednonijmkbjaaGreatLHomP
import Derived.Test.YtoednonijmkbjaaGreatLM7
set_option linter.unusedSimpArgs false
set_option linter.unusedVariables false
namespace Go.Proofs.YtoednonijmkbjaaGreat
open Go.RowKit

theorem PlaT.at {m : Int} {n : Nat} {t : List (List Int)} (h : PlaT m n t) {i j : Nat} (hij : i + j < n) : ∃ row, t[i]? = some row ∧ row[j]? = some (atT t i j) ∧ row.length = n - i ∧ 0 ≤ atT t i j ∧ atT t i j < m :=
  pla_at h.1 h.2 hij
theorem PlaT.row {m : Int} {n : Nat} {t : List (List Int)} (h : PlaT m n t) {i : Nat} (hi : i < n) : ∃ row, t[i]? = some row ∧ row.length = n - i ∧ (∀ j, j < n - i → row[j]? = some (atT t i j)) := by
  have hi' : i < t.length := by rw [h.1]; exact hi
  have h1 := h.2 i hi'
  refine ⟨t[i], by simp [hi'], by rw [h1.1, h.1], fun j hj => ?_⟩
  rw [atT_row hi']
  exact some_at0 (by rw [h1.1, h.1]; exact hj)

set_option maxHeartbeats 4000000 in
set_option maxRecDepth 100000 in
theorem timesP_c (m m' : Int) (n : Nat) (v u : Value) (xss yss : List (List Int)) (w : World) (hv : RdT w v xss) (hu : RdT w u yss) (h1 : 1 ≤ n) (hn : n ≤ 1000) (hm : 2 ≤ m) (hm' : m ≤ 1000000000000)
    (hx : PlaT m n xss) (hy : PlaT m n yss) :
    Calls Tryz.prog 132 #[.agg #[.int .i64 m, v], .agg #[.int .i64 m', u]] w fun e w' => PVEnd w w' m (timesT m n xss yss) e := by
  obtain ⟨o, c, rfl, hmx, -⟩ := id hv
  obtain ⟨o', c', rfl, hmy, -⟩ := id hu
  rw [hx.1] at hmx ⊢
  rw [hy.1] at hmy ⊢
  unfold maxLen at hmx hmy
  have hv' : RdT w (.slice o n c) xss := by rw [hx.1] at hv; exact hv
  have hu' : RdT w (.slice o' n c') yss := by rw [hy.1] at hu; exact hu
  clear hv hu
  have HX := Lib.hid hx
  have HY := Lib.hid hy
  have hxl := hx.1
  have hyl := hy.1
  clear hx hy
  obtain ⟨bx, fx, rfl, -⟩ := hv'.rows (by omega)
  obtain ⟨by', fy, rfl, -⟩ := hu'.rows (by omega)
  clear hxl hyl
  go_enter Tryz.func132, Tryz.ntmps132
  go_wp2_with fail
  (have X0 := ((RB2.mk1 w  (.int .i64 m) (.slice (some ⟨bx, fx, none⟩) n c) 31).1).below (w' := (((w.alloc (.cells #[.int .i64 m, .slice (some ⟨bx, fx, none⟩) n c] 31)).alloc (.cells #[.int .i64 m', .slice (some ⟨by', fy, none⟩) n c'] 31)).alloc (.cells #[.int .i64 0, .slice none 0 0] 31))) (by (repeat (first | exact bR _ _ | (refine bS ?_ _) | (refine bA ?_ _) | (refine bN ?_ _) | (refine bD ?_)))) (Nat.le_refl _); have Y0 := ((RB2.mk2 w (.cells #[.int .i64 m, .slice (some ⟨bx, fx, none⟩) n c] 31) (.int .i64 m') (.slice (some ⟨by', fy, none⟩) n c') 31).1).below (w' := (((w.alloc (.cells #[.int .i64 m, .slice (some ⟨bx, fx, none⟩) n c] 31)).alloc (.cells #[.int .i64 m', .slice (some ⟨by', fy, none⟩) n c'] 31)).alloc (.cells #[.int .i64 0, .slice none 0 0] 31))) (by (repeat (first | exact bR _ _ | (refine bS ?_ _) | (refine bA ?_ _) | (refine bN ?_ _) | (refine bD ?_)))) (Nat.le_refl _); have R0 := ((RB2.mk3 w (.cells #[.int .i64 m, .slice (some ⟨bx, fx, none⟩) n c] 31) (.cells #[.int .i64 m', .slice (some ⟨by', fy, none⟩) n c'] 31) (.int .i64 0) (.slice none 0 0) 31)).below (w' := (((w.alloc (.cells #[.int .i64 m, .slice (some ⟨bx, fx, none⟩) n c] 31)).alloc (.cells #[.int .i64 m', .slice (some ⟨by', fy, none⟩) n c'] 31)).alloc (.cells #[.int .i64 0, .slice none 0 0] 31))) (by (repeat (first | exact bR _ _ | (refine bS ?_ _) | (refine bA ?_ _) | (refine bN ?_ _) | (refine bD ?_)))) (Nat.le_refl _); have B0 : Below w.heap.size w (((w.alloc (.cells #[.int .i64 m, .slice (some ⟨bx, fx, none⟩) n c] 31)).alloc (.cells #[.int .i64 m', .slice (some ⟨by', fy, none⟩) n c'] 31)).alloc (.cells #[.int .i64 0, .slice none 0 0] 31)) := (by (repeat (first | exact bR _ _ | (refine bS ?_ _) | (refine bA ?_ _) | (refine bN ?_ _) | (refine bD ?_)))); generalize ((w.alloc (.cells #[.int .i64 m, .slice (some ⟨bx, fx, none⟩) n c] 31)).alloc (.cells #[.int .i64 m', .slice (some ⟨by', fy, none⟩) n c'] 31)).alloc (.cells #[.int .i64 0, .slice none 0 0] 31) = w0 at X0 Y0 R0 B0  ⊢)
  have hzl : w.heap.size + 2 < w0.heap.size := R0.1.lt
  go_cut [5] (fun sb u => ∃ (wz : World) (b : Nat) (oz : Option Addr) (cz : Nat), wz = u ∧ sb = .pointer (some ⟨b, 0, none⟩) ∧ w0.heap.size ≤ b ∧ RB2 u b (.int .i64 m) (.slice oz n cz) ∧ (∃ lo hi, OwSR lo hi u (.slice oz n cz) (zeroT n) ∧ w0.heap.size ≤ lo ∧ (b < lo ∨ hi ≤ b) ∧ hi ≤ u.heap.size) ∧ True ∧ Below w0.heap.size w0 u)
  case first =>
    have hd0 : Below w0.heap.size w0 w0.drew := (Below.refl _ _).drew
    have hsd0 := hd0.size
    have hlb_X0 := X0.lt
    obtain ⟨q0_X0_0, q0_X0_1⟩ := X0.below (Below.refl w0.heap.size w0) (Nat.le_refl _)
    have hne0_X0 : w0.heap.size ≠ w.heap.size := by omega
    go_region_held3 (fun w' => w'.cell? ⟨w.heap.size, 0, none⟩ = some (.int .i64 m) ∧ w'.cell? ⟨w.heap.size, 1, none⟩ = some (.slice (some ⟨bx, fx, none⟩) n c)) (go_keep)
      (first
        | (go_at_call 54; refine (degreeP_c m (some ⟨bx, fx, none⟩) n c _ (by unfold maxLen; omega)).mono ?_; rintro e wd1 ⟨rfl, hbd1⟩; have hd1 : Below w0.heap.size w0 wd1 := (by (repeat (first | exact bR _ _ | (refine bS ?_ _) | (refine bA ?_ _) | (refine bN ?_ _) | (refine bD ?_) | (refine bT ?_ hbd1)))); have hsd1 := hd1.size; have hsz1_ := hbd1.size; (try simp at hsz1_); obtain ⟨q1_X0_0, q1_X0_1⟩ := X0.below hd1 (Nat.le_refl _); have hne1_X0 : wd1.heap.size ≠ w.heap.size := (by omega); (try (have RZ := RZ.below hbd1 (Nat.le_refl _))); (try (have RZ := (show RB2 (w0.alloc (.cells #[.int .i64 0, .slice none 0 0] 31)).drew w0.heap.size (.int .i64 0) (.slice none 0 0) from RB2.mk1 w0 (.int .i64 0) (.slice none 0 0) _).below hbd1 (Nat.le_refl _))); (try (obtain ⟨⟨z1_0, z1_1⟩, zf1⟩ := id RZ)))
        | (go_at_call 98; refine (emptyPlane_c m ((n : Int) - 1) n _ rfl hn).mono ?_; rintro e wd2 ⟨vz2, rfl, hod2, hbd2⟩; obtain ⟨oz, cz, rfl⟩ := hod2.shapeN (n := n) (zeroT_len n); have hd2 : Below w0.heap.size w0 wd2 := (by (repeat (first | exact bR _ _ | (refine bS ?_ _) | (refine bA ?_ _) | (refine bN ?_ _) | (refine bD ?_) | (refine bT ?_ hbd1) | (refine bT ?_ hbd2)))); have hsd2 := hd2.size; have hsz2_ := hbd2.size; (try simp at hsz2_); obtain ⟨q2_X0_0, q2_X0_1⟩ := X0.below hd2 (Nat.le_refl _); have hne2_X0 : wd2.heap.size ≠ w.heap.size := (by omega); (try (have RZ := RZ.below hbd2 (Nat.le_refl _))); (try (have RZ := (show RB2 (wd1.alloc (.cells #[.int .i64 0, .slice none 0 0] 31)) wd1.heap.size (.int .i64 0) (.slice none 0 0) from RB2.mk1 wd1 (.int .i64 0) (.slice none 0 0) _).below hbd2 (Nat.le_refl _))); (try (obtain ⟨⟨z2_0, z2_1⟩, zf2⟩ := id RZ))))
    all_goals
      go_wp2_with fail
      go_meet
      refine ⟨_, _, oz, cz, rfl, rfl, ?_, ?_, ?_, ?_, ?_⟩
      · first | omega | (simp; done) | (simp; omega)
      · first | exact RB2.mk1 _ _ _ _ | exact RB2.put RZ _ _
      · first | exact ⟨_, _, hod2.ra _, (by first | (simp; done) | (simp; omega) | omega), .inr (Nat.le_refl _), (by first | (simp; done) | (simp; omega) | omega)⟩ | exact ⟨_, _, hod2.rp2 (by first | (simp; done) | (simp; omega) | omega) _ _, (by first | (simp; done) | (simp; omega) | omega), .inl (by first | (simp; done) | (simp; omega) | omega), (by first | (simp; done) | (simp; omega) | omega)⟩
      · trivial
      · (repeat (first | exact bR _ _ | (refine bS ?_ _) | (refine bA ?_ _) | (refine bN ?_ _) | (refine bD ?_) | (refine bT ?_ hbd1) | (refine bT ?_ hbd2)))
  case rest =>
  obtain ⟨w1, b, oz, cz, rfl, rfl, hbW, O, how, hneb, hb⟩ := hcut
  (have X1 := X0.below hb (Nat.le_refl _); have Y1 := Y0.below hb (Nat.le_refl _); have R1 := R0.below hb (Nat.le_refl _); have B1 := B0.trans (hb.mono B0.size))
  obtain ⟨lo, hi, how, hlo, hbo, hhi⟩ := how
  obtain ⟨us, how⟩ := how.named
  obtain ⟨g, rfl, hgl, hgl'⟩ := how.row h1
  rw [tmT_0 m n xss yss] at how
  obtain ⟨x0, x1⟩ := id X1
  go_wp2_with fail
  refine (degreeP_c m (some ⟨bx, fx, none⟩) n c _ (by unfold maxLen; omega)).mono ?_
  rintro e w2 ⟨rfl, hb2⟩
  (have X2 := X1.below hb2 (Nat.le_refl _); have Y2 := Y1.below hb2 (Nat.le_refl _); have R2 := R1.below hb2 (Nat.le_refl _); have B2 := B1.trans (hb2.mono B1.size))
  have O2 := O.below hb2 (Nat.le_refl _)
  have how2 := how.stay (u' := w2) (fun k _ hk => hb2.block k (by omega))
  clear O how x0 x1 hb2
  have B2s := B2.size
  have hlB : w.heap.size + 2 < lo := by omega
  have m0 : (m == 0) = false := by simp; omega
  have m1 : ¬ m = 0 := by omega
  obtain ⟨x0, x1⟩ := id X2
  go_wp2_with fail
  clear x0 x1
  go_loopw [24] (fun s wr => ∃ i : Nat, i ≤ n ∧ s = .int .i64 i ∧ OwSU us lo hi wr (.slice (some ⟨g, 0, none⟩) n cz) (tmT m n xss yss i 0 0 0) ∧ Chg lo hi w2 wr) (fun i _ => n - (intOf i).toNat)
  case atStart => exact ⟨0, Nat.zero_le _, rfl, how2, Chg.refl _ _ _⟩
  case round =>
    obtain ⟨i, hi', rfl, hO, hC⟩ := hrel
    by_cases hlt : i < n
    · obtain ⟨r1, hr1, hl1, hj1⟩ := HX.out.row hlt
      obtain ⟨p1, q1, cx0, rx0⟩ := hv'.row hr1
      rw [hl1] at cx0 rx0
      obtain ⟨b1, f1, rfl, -⟩ := rx0.cells (by omega)
      have Br := hC.below B2 (by omega) B2s
      have cx := keep_cell Br (Nat.le_refl _) cx0
      have i0 : (0 : Int) ≤ (i : Int) := by omega
      have i1 : (i : Int) < (n : Int) := by omega
      have HJ := Lib.hid hj1
      clear hr1 hl1 hj1 cx0
      go_wp2_with fail
      clear cx
      go_loopw [31] (fun s wr => ∃ j : Nat, j ≤ n - i ∧ s = .int .i64 j ∧ OwSU us lo hi wr (.slice (some ⟨g, 0, none⟩) n cz) (tmT m n xss yss i j 0 0) ∧ Chg lo hi w2 wr) (fun i' _ => n - i - (intOf i').toNat)
      case atStart => exact ⟨0, Nat.zero_le _, rfl, hO, hC⟩
      case round =>
        obtain ⟨j, hj, rfl, hO, hC⟩ := hrel
        have Br := hC.below B2 (by omega) B2s
        by_cases hjl : j < n - i
        · have ex := (rx0.below Br (Nat.le_refl _)).cell0 (HJ.out j hjl)
          obtain ⟨-, -, -, -, hxa, hxb⟩ := HX.out.at (i := i) (j := j) (by omega)
          have j0 : (0 : Int) ≤ (j : Int) := by omega
          have j1 : (j : Int) < ((n - i : Nat) : Int) := by omega
          cases hx0 : (atT xss i j == 0)
          · go_wp2_with fail
            clear ex
            go_loopw [11] (fun s wr => ∃ k : Nat, k ≤ n - i - j ∧ s = .int .i64 k ∧ OwSU us lo hi wr (.slice (some ⟨g, 0, none⟩) n cz) (tmT m n xss yss i j k 0) ∧ Chg lo hi w2 wr) (fun i' _ => n - i - j - (intOf i').toNat)
            case atStart => exact ⟨0, Nat.zero_le _, rfl, hO, hC⟩
            case round =>
              obtain ⟨k, hk, rfl, hO, hC⟩ := hrel
              have Br := hC.below B2 (by omega) B2s
              by_cases hkl : k < n - i - j
              · obtain ⟨r2, hr2, hl2, hj2⟩ := HY.out.row (show k < n by omega)
                obtain ⟨p2, q2, cy0, ry0⟩ := hu'.row hr2
                rw [hl2] at cy0 ry0
                obtain ⟨-, -, hq2⟩ := ry0.len
                rw [hl2] at hq2
                obtain ⟨b2, f2, rfl, -⟩ := ry0.cells (by omega)
                have cy := keep_cell Br (Nat.le_refl _) cy0
                obtain ⟨y0, y1⟩ := Y2.chg hC (by omega)
                have HJ2 := Lib.hid hj2
                clear hr2 hl2 hj2 cy0
                have k0 : (0 : Int) ≤ (k : Int) := by omega
                have k1 : (k : Int) < (n : Int) := by omega
                have k2 : (i : Int) + (j : Int) + (k : Int) ≤ (n : Int) - 1 := by omega
                have k3 : (0 : Int) ≤ (n : Int) - 1 - (i : Int) - (j : Int) - (k : Int) + 1 := by omega
                have k4 : (n : Int) - 1 - (i : Int) - (j : Int) - (k : Int) + 1 ≤ (q2 : Int) := by omega
                have k5 : ((n : Int) - 1 - (i : Int) - (j : Int) - (k : Int) + 1).toNat = n - i - j - k := by omega
                go_wp2_with fail
                clear cy y0 y1
                go_loopw [62] (fun s wr => ∃ l : Nat, l ≤ n - i - j - k ∧ s = .int .i64 l ∧ OwSU us lo hi wr (.slice (some ⟨g, 0, none⟩) n cz) (tmT m n xss yss i j k l) ∧ Chg lo hi w2 wr) (fun i' _ => n - i - j - k - (intOf i').toNat)
                case atStart => exact ⟨0, Nat.zero_le _, rfl, hO, hC⟩
                case round =>
                  obtain ⟨l, hl, rfl, hO, hC⟩ := hrel
                  have Br := hC.below B2 (by omega) B2s
                  by_cases hll : l < n - i - j - k
                  · have ey := (ry0.below Br (Nat.le_refl _)).cell0 (HJ2.out l (by omega))
                    obtain ⟨-, -, -, -, hya, hyb⟩ := HY.out.at (i := k) (j := l) (by omega)
                    obtain ⟨o3, c3, hu3, cx3, how3, hbl3, hset3⟩ := hO.at (tmT_row' (show i + k < n by omega))
                    rw [tmTr_len] at hu3 cx3 how3 hbl3 hset3
                    obtain ⟨gr, rfl, hgr1, hgr2⟩ := how3.row (by omega)
                    have hgr3 := hbl3 gr rfl
                    have hc0 := how3.cell (k := j + l) (tmTr_get (show i + k + (j + l) < n by omega))
                    have hf0 := how3.fz (j + l)
                    have hN := Lib.hid how3
                    have hS := Lib.hid hset3
                    clear how3 hset3 hbl3 hu3
                    obtain ⟨x0, x1⟩ := X2.chg hC (by omega)
                    obtain ⟨⟨z0, z1⟩, zf⟩ := O2.chg hC hbo
                    have l0 : (0 : Int) ≤ (l : Int) := by omega
                    have l1 : (l : Int) < ((n - i - j - k : Nat) : Int) := by omega
                    have l2 : (0 : Int) ≤ (i : Int) + (k : Int) := by omega
                    have l3 : (i : Int) + (k : Int) < (n : Int) := by omega
                    have l4 : ((i : Int) + (k : Int)).toNat = i + k := by omega
                    have l5 : (0 : Int) ≤ (j : Int) + (l : Int) := by omega
                    have l6 : (j : Int) + (l : Int) < ((n - (i + k) : Nat) : Int) := by omega
                    have l7 : ((j : Int) + (l : Int)).toNat = j + l := by omega
                    have hM := mod_lt' (a := atT xss i j * atT yss k l) (show 0 < m by omega)
                    have hCm := mod_lt' (a := c2P n (atT xss) (atT yss) i j k l (i + k) (j + l)) (show 0 < m by omega)
                    have hMod := mod_lt' (a := c2P n (atT xss) (atT yss) i j k l (i + k) (j + l) % m + atT xss i j * atT yss k l % m) (show 0 < m by omega)
                    go_wp2_with fail
                    have e0 : IntKind.i64.wrap ((i : Int) + (k : Int)) = (i : Int) + (k : Int) := IntWalk.i64_in _ (by omega)
                    have e3 : IntKind.i64.wrap ((j : Int) + (l : Int)) = (j : Int) + (l : Int) := IntWalk.i64_in _ (by omega)
                    have e1 : IntKind.i64.wrap (c2P n (atT xss) (atT yss) i j k l (i + k) (j + l) % m + atT xss i j * atT yss k l % m) = c2P n (atT xss) (atT yss) i j k l (i + k) (j + l) % m + atT xss i j * atT yss k l % m := IntWalk.i64_in _ (by omega)
                    have e2 : (c2P n (atT xss) (atT yss) i j k l (i + k) (j + l) % m + atT xss i j * atT yss k l % m).tmod m = (c2P n (atT xss) (atT yss) i j k l (i + k) (j + l) % m + atT xss i j * atT yss k l % m) % m := Int.tmod_eq_emod_of_nonneg (by omega)
                    have hd0 : Below wr.heap.size wr wr.drew := (Below.refl _ _).drew
                    have hsd0 := hd0.size
                    have f0_a := keep_cell hd0 (Nat.le_refl _) x0
                    have f0_b := keep_cell hd0 (Nat.le_refl _) z1
                    have f0_c := keep_cell hd0 (Nat.le_refl _) cx3
                    have f0_d := keep_cell hd0 (Nat.le_refl _) hc0
                    have f0_e := (hN.out.below hd0).fz (j + l)
                    refine wp_region_K (S := fun w' => w'.cell? ⟨w.heap.size, 0, none⟩ = some (.int .i64 m) ∧ w'.cell? ⟨b, 1, none⟩ = some (.slice (some ⟨g, 0, none⟩) n cz) ∧ w'.cell? ⟨g, i + k, none⟩ = some (.slice (some ⟨gr, 0, none⟩) (n - (i + k)) c3) ∧ w'.cell? ⟨gr, j + l, none⟩ = some (.int .i64 (c2P n (atT xss) (atT yss) i j k l (i + k) (j + l) % m))) [32] (by kernel_rfl) ?_
                    have hHeld : (fun w' : World => w'.cell? ⟨w.heap.size, 0, none⟩ = some (.int .i64 m) ∧ w'.cell? ⟨b, 1, none⟩ = some (.slice (some ⟨g, 0, none⟩) n cz) ∧ w'.cell? ⟨g, i + k, none⟩ = some (.slice (some ⟨gr, 0, none⟩) (n - (i + k)) c3) ∧ w'.cell? ⟨gr, j + l, none⟩ = some (.int .i64 (c2P n (atT xss) (atT yss) i j k l (i + k) (j + l) % m))) wr.drew := by go_keep
                    refine' wpAnyK_takeL (i := 0) (v := _) rfl (by kernel_rfl) (by kernel_rfl) (by kernel_rfl) (by kernel_rfl) (fun _ _ _ h => h) (Or.inl ⟨by rfl, ?yT1⟩) hHeld ?rT1
                    case yT1 => (intro w' hSw; (try dsimp only at hSw); go_simp; try with_reducible rfl)
                    try simp only [List.getElem_toArray, List.getElem_cons_zero, List.getElem_cons_succ, Act.put, List.setIfInBounds_toArray, List.set_cons_zero, List.set_cons_succ]
                    refine' wpAnyK_takeL (i := 1) (v := _) rfl (by kernel_rfl) (by kernel_rfl) (by kernel_rfl) (by kernel_rfl) (fun _ _ _ h => h) (Or.inl ⟨by rfl, ?yT2⟩) hHeld ?rT2
                    case yT2 => (intro w' hSw; (try dsimp only at hSw); go_simp; try with_reducible rfl)
                    try simp only [List.getElem_toArray, List.getElem_cons_zero, List.getElem_cons_succ, Act.put, List.setIfInBounds_toArray, List.set_cons_zero, List.set_cons_succ]
                    refine' wpAnyK_takeL (i := 2) (v := _) rfl (by kernel_rfl) (by kernel_rfl) (by kernel_rfl) (by kernel_rfl) (fun _ _ _ h => h) (Or.inl ⟨by rfl, ?yT3⟩) hHeld ?rT3
                    case yT3 => (intro w' hSw; (try dsimp only at hSw); go_simp; try with_reducible rfl)
                    try simp only [List.getElem_toArray, List.getElem_cons_zero, List.getElem_cons_succ, Act.put, List.setIfInBounds_toArray, List.set_cons_zero, List.set_cons_succ]
                    refine' wpAnyK_takeL (i := 3) (v := _) rfl (by kernel_rfl) (by kernel_rfl) (by kernel_rfl) (by kernel_rfl) (fun _ _ _ h => h) (Or.inl ⟨by rfl, ?yT4⟩) hHeld ?rT4
                    case yT4 => (intro w' hSw; (try dsimp only at hSw); go_simp; try with_reducible rfl)
                    try simp only [List.getElem_toArray, List.getElem_cons_zero, List.getElem_cons_succ, Act.put, List.setIfInBounds_toArray, List.set_cons_zero, List.set_cons_succ]
                    refine' wpAnyK_takeL (i := 4) (v := _) rfl (by kernel_rfl) (by kernel_rfl) (by kernel_rfl) (by kernel_rfl) (fun _ _ _ h => h) (Or.inl ⟨by rfl, ?yT5⟩) hHeld ?rT5
                    case yT5 => (intro w' hSw; (try dsimp only at hSw); go_simp; try with_reducible rfl)
                    try simp only [List.getElem_toArray, List.getElem_cons_zero, List.getElem_cons_succ, Act.put, List.setIfInBounds_toArray, List.set_cons_zero, List.set_cons_succ]
                    refine' wpAnyK_takeL (i := 5) (v := _) rfl (by kernel_rfl) (by kernel_rfl) (by kernel_rfl) (by kernel_rfl) (fun _ _ _ h => h) (Or.inl ⟨by rfl, ?yT6⟩) hHeld ?rT6
                    case yT6 => (intro w' hSw; (try dsimp only at hSw); go_simp; try with_reducible rfl)
                    try simp only [List.getElem_toArray, List.getElem_cons_zero, List.getElem_cons_succ, Act.put, List.setIfInBounds_toArray, List.set_cons_zero, List.set_cons_succ]
                    refine' wpAnyK_takeL (i := 6) (v := _) rfl (by kernel_rfl) (by kernel_rfl) (by kernel_rfl) (by kernel_rfl) (fun _ _ _ h => h) (Or.inl ⟨by rfl, ?yT7⟩) hHeld ?rT7
                    case yT7 => (intro w' hSw; (try dsimp only at hSw); go_simp; try with_reducible rfl)
                    try simp only [List.getElem_toArray, List.getElem_cons_zero, List.getElem_cons_succ, Act.put, List.setIfInBounds_toArray, List.set_cons_zero, List.set_cons_succ]
                    refine' wpAnyK_takeL (i := 7) (v := _) rfl (by kernel_rfl) (by kernel_rfl) (by kernel_rfl) (by kernel_rfl) (fun _ _ _ h => h) (Or.inl ⟨by rfl, ?yT8⟩) hHeld ?rT8
                    case yT8 => (intro w' hSw; (try dsimp only at hSw); go_simp; try with_reducible rfl)
                    try simp only [List.getElem_toArray, List.getElem_cons_zero, List.getElem_cons_succ, Act.put, List.setIfInBounds_toArray, List.set_cons_zero, List.set_cons_succ]
                    refine' wpAnyK_takeL (i := 8) (v := _) rfl (by kernel_rfl) (by kernel_rfl) (by kernel_rfl) (by kernel_rfl) (fun _ _ _ h => h) (Or.inl ⟨by rfl, ?yT9⟩) hHeld ?rT9
                    case yT9 => (intro w' hSw; (try dsimp only at hSw); go_simp; try with_reducible rfl)
                    try simp only [List.getElem_toArray, List.getElem_cons_zero, List.getElem_cons_succ, Act.put, List.setIfInBounds_toArray, List.set_cons_zero, List.set_cons_succ]
                    refine' wpAnyK_takeL (i := 9) (v := _) rfl (by kernel_rfl) (by kernel_rfl) (by kernel_rfl) (by kernel_rfl) (fun _ _ _ h => h) (Or.inl ⟨by rfl, ?yT10⟩) hHeld ?rT10
                    case yT10 => (intro w' hSw; (try dsimp only at hSw); go_simp; try with_reducible rfl)
                    try simp only [List.getElem_toArray, List.getElem_cons_zero, List.getElem_cons_succ, Act.put, List.setIfInBounds_toArray, List.set_cons_zero, List.set_cons_succ]
                    refine' wpAnyK_takeL (i := 10) (v := _) rfl (by kernel_rfl) (by kernel_rfl) (by kernel_rfl) (by kernel_rfl) (fun _ _ _ h => h) (Or.inl ⟨by rfl, ?yT11⟩) hHeld ?rT11
                    case yT11 => (intro w' hSw; (try dsimp only at hSw); go_simp; try with_reducible rfl)
                    try simp only [List.getElem_toArray, List.getElem_cons_zero, List.getElem_cons_succ, Act.put, List.setIfInBounds_toArray, List.set_cons_zero, List.set_cons_succ]
                    refine' wpAnyK_takeL (i := 11) (v := _) rfl (by kernel_rfl) (by kernel_rfl) (by kernel_rfl) (by kernel_rfl) (fun _ _ _ h => h) (Or.inl ⟨by rfl, ?yT12⟩) hHeld ?rT12
                    case yT12 => (intro w' hSw; (try dsimp only at hSw); go_simp; try with_reducible rfl)
                    try simp only [List.getElem_toArray, List.getElem_cons_zero, List.getElem_cons_succ, Act.put, List.setIfInBounds_toArray, List.set_cons_zero, List.set_cons_succ]
                    refine' wpAnyK_takeL (i := 12) (v := _) rfl (by kernel_rfl) (by kernel_rfl) (by kernel_rfl) (by kernel_rfl) (fun _ _ _ h => h) (Or.inl ⟨by rfl, ?yT13⟩) hHeld ?rT13
                    case yT13 => (intro w' hSw; (try dsimp only at hSw); go_simp; try with_reducible rfl)
                    try simp only [List.getElem_toArray, List.getElem_cons_zero, List.getElem_cons_succ, Act.put, List.setIfInBounds_toArray, List.set_cons_zero, List.set_cons_succ]
                    refine' wpAnyK_takeL (i := 13) (v := _) rfl (by kernel_rfl) (by kernel_rfl) (by kernel_rfl) (by kernel_rfl) (fun _ _ _ h => h) (Or.inl ⟨by rfl, ?yT14⟩) hHeld ?rT14
                    case yT14 => (intro w' hSw; (try dsimp only at hSw); go_simp; try with_reducible rfl)
                    try simp only [List.getElem_toArray, List.getElem_cons_zero, List.getElem_cons_succ, Act.put, List.setIfInBounds_toArray, List.set_cons_zero, List.set_cons_succ]
                    refine' wpAnyK_takeL (i := 14) (v := _) rfl (by kernel_rfl) (by kernel_rfl) (by kernel_rfl) (by kernel_rfl) (fun _ _ _ h => h) (Or.inl ⟨by rfl, ?yT15⟩) hHeld ?rT15
                    case yT15 => (intro w' hSw; (try dsimp only at hSw); go_simp; try with_reducible rfl)
                    try simp only [List.getElem_toArray, List.getElem_cons_zero, List.getElem_cons_succ, Act.put, List.setIfInBounds_toArray, List.set_cons_zero, List.set_cons_succ]
                    refine' wpAnyK_takeL (i := 15) (v := _) rfl (by kernel_rfl) (by kernel_rfl) (by kernel_rfl) (by kernel_rfl) (fun _ _ _ h => h) (Or.inl ⟨by rfl, ?yT16⟩) hHeld ?rT16
                    case yT16 => (intro w' hSw; (try dsimp only at hSw); go_simp; try with_reducible rfl)
                    try simp only [List.getElem_toArray, List.getElem_cons_zero, List.getElem_cons_succ, Act.put, List.setIfInBounds_toArray, List.set_cons_zero, List.set_cons_succ]
                    refine' wpAnyK_takeL (i := 16) (v := _) rfl (by kernel_rfl) (by kernel_rfl) (by kernel_rfl) (by kernel_rfl) (fun _ _ _ h => h) (Or.inl ⟨by rfl, ?yT17⟩) hHeld ?rT17
                    case yT17 => (intro w' hSw; (try dsimp only at hSw); go_simp; try with_reducible rfl)
                    try simp only [List.getElem_toArray, List.getElem_cons_zero, List.getElem_cons_succ, Act.put, List.setIfInBounds_toArray, List.set_cons_zero, List.set_cons_succ]
                    refine' wpAnyK_takeL (i := 17) (v := _) rfl (by kernel_rfl) (by kernel_rfl) (by kernel_rfl) (by kernel_rfl) (fun _ _ _ h => h) (Or.inl ⟨by rfl, ?yT18⟩) hHeld ?rT18
                    case yT18 => (intro w' hSw; (try dsimp only at hSw); go_simp; try with_reducible rfl)
                    try simp only [List.getElem_toArray, List.getElem_cons_zero, List.getElem_cons_succ, Act.put, List.setIfInBounds_toArray, List.set_cons_zero, List.set_cons_succ]
                    refine' wpAnyK_takeL (i := 18) (v := _) rfl (by kernel_rfl) (by kernel_rfl) (by kernel_rfl) (by kernel_rfl) (fun _ _ _ h => h) (Or.inl ⟨by rfl, ?yT19⟩) hHeld ?rT19
                    case yT19 => (intro w' hSw; (try dsimp only at hSw); go_simp; try with_reducible rfl)
                    try simp only [List.getElem_toArray, List.getElem_cons_zero, List.getElem_cons_succ, Act.put, List.setIfInBounds_toArray, List.set_cons_zero, List.set_cons_succ]
                    refine' wpAnyK_takeL (i := 19) (v := _) rfl (by kernel_rfl) (by kernel_rfl) (by kernel_rfl) (by kernel_rfl) (fun _ _ _ h => h) (Or.inl ⟨by rfl, ?yT20⟩) hHeld ?rT20
                    case yT20 => (intro w' hSw; (try dsimp only at hSw); go_simp; try with_reducible rfl)
                    try simp only [List.getElem_toArray, List.getElem_cons_zero, List.getElem_cons_succ, Act.put, List.setIfInBounds_toArray, List.set_cons_zero, List.set_cons_succ]
                    refine' wpAnyK_takeL (i := 20) (v := _) rfl (by kernel_rfl) (by kernel_rfl) (by kernel_rfl) (by kernel_rfl) (fun _ _ _ h => h) (Or.inl ⟨by rfl, ?yT21⟩) hHeld ?rT21
                    case yT21 => (intro w' hSw; (try dsimp only at hSw); go_simp; try with_reducible rfl)
                    try simp only [List.getElem_toArray, List.getElem_cons_zero, List.getElem_cons_succ, Act.put, List.setIfInBounds_toArray, List.set_cons_zero, List.set_cons_succ]
                    refine' wpAnyK_takeL (i := 21) (v := _) rfl (by kernel_rfl) (by kernel_rfl) (by kernel_rfl) (by kernel_rfl) (fun _ _ _ h => h) (Or.inl ⟨by rfl, ?yT22⟩) hHeld ?rT22
                    case yT22 => (intro w' hSw; (try dsimp only at hSw); go_simp; try with_reducible rfl)
                    try simp only [List.getElem_toArray, List.getElem_cons_zero, List.getElem_cons_succ, Act.put, List.setIfInBounds_toArray, List.set_cons_zero, List.set_cons_succ]
                    refine' wpAnyK_takeL (i := 22) (v := _) rfl (by kernel_rfl) (by kernel_rfl) (by kernel_rfl) (by kernel_rfl) (fun _ _ _ h => h) (Or.inl ⟨by rfl, ?yT23⟩) hHeld ?rT23
                    case yT23 => (intro w' hSw; (try dsimp only at hSw); go_simp; try with_reducible rfl)
                    try simp only [List.getElem_toArray, List.getElem_cons_zero, List.getElem_cons_succ, Act.put, List.setIfInBounds_toArray, List.set_cons_zero, List.set_cons_succ]
                    refine' wpAnyK_takeL (i := 23) (v := _) rfl (by kernel_rfl) (by kernel_rfl) (by kernel_rfl) (by kernel_rfl) (fun _ _ _ h => h) (Or.inl ⟨by rfl, ?yT24⟩) hHeld ?rT24
                    case yT24 => (intro w' hSw; (try dsimp only at hSw); go_simp; try with_reducible rfl)
                    try simp only [List.getElem_toArray, List.getElem_cons_zero, List.getElem_cons_succ, Act.put, List.setIfInBounds_toArray, List.set_cons_zero, List.set_cons_succ]
                    refine' wpAnyK_takeL (i := 24) (v := _) rfl (by kernel_rfl) (by kernel_rfl) (by kernel_rfl) (by kernel_rfl) (fun _ _ _ h => h) (Or.inl ⟨by rfl, ?yT25⟩) hHeld ?rT25
                    case yT25 => (intro w' hSw; (try dsimp only at hSw); go_simp; try with_reducible rfl)
                    try simp only [List.getElem_toArray, List.getElem_cons_zero, List.getElem_cons_succ, Act.put, List.setIfInBounds_toArray, List.set_cons_zero, List.set_cons_succ]
                    refine' wpAnyK_takeL (i := 25) (v := _) rfl (by kernel_rfl) (by kernel_rfl) (by kernel_rfl) (by kernel_rfl) (fun _ _ _ h => h) (Or.inl ⟨by rfl, ?yT26⟩) hHeld ?rT26
                    case yT26 => (intro w' hSw; (try dsimp only at hSw); go_simp; try with_reducible rfl)
                    try simp only [List.getElem_toArray, List.getElem_cons_zero, List.getElem_cons_succ, Act.put, List.setIfInBounds_toArray, List.set_cons_zero, List.set_cons_succ]
                    refine' wpAnyK_takeL (i := 28) (v := _) rfl (by kernel_rfl) (by kernel_rfl) (by kernel_rfl) (by kernel_rfl) (fun _ _ _ h => h) (Or.inl ⟨by rfl, ?yT27⟩) hHeld ?rT27
                    case yT27 => (intro w' hSw; (try dsimp only at hSw); go_simp; try with_reducible rfl)
                    try simp only [List.getElem_toArray, List.getElem_cons_zero, List.getElem_cons_succ, Act.put, List.setIfInBounds_toArray, List.set_cons_zero, List.set_cons_succ]
                    refine' wpAnyK_takeL (i := 29) (v := _) rfl (by kernel_rfl) (by kernel_rfl) (by kernel_rfl) (by kernel_rfl) (fun _ _ _ h => h) (Or.inl ⟨by rfl, ?yT28⟩) hHeld ?rT28
                    case yT28 => (intro w' hSw; (try dsimp only at hSw); go_simp; try with_reducible rfl)
                    try simp only [List.getElem_toArray, List.getElem_cons_zero, List.getElem_cons_succ, Act.put, List.setIfInBounds_toArray, List.set_cons_zero, List.set_cons_succ]
                    refine wpAnyK_oneL (i := 26) rfl (by kernel_rfl) (fun K hK => ?_)
                    go_simp
                    go_at_call 95
                    refine (mulC_c m (atT xss i j) (atT yss k l) _ (by omega) (by omega) hxa hya hxb hyb).mono ?_
                    rintro e wd1 ⟨rfl, hbd1⟩
                    have hd1 : Below wr.heap.size wr wd1 := (by (repeat (first | exact bR _ _ | (refine bS ?_ _) | (refine bA ?_ _) | (refine bN ?_ _) | (refine bD ?_) | (refine bT ?_ hbd1))))
                    have hsd1 := hd1.size
                    have hsz1_ := hbd1.size
                    (try simp at hsz1_)
                    have f1_a := keep_cell hd1 (Nat.le_refl _) x0
                    have f1_b := keep_cell hd1 (Nat.le_refl _) z1
                    have f1_c := keep_cell hd1 (Nat.le_refl _) cx3
                    have f1_d := keep_cell hd1 (Nat.le_refl _) hc0
                    have f1_e := (hN.out.below hd1).fz (j + l)
                    go_wp2_with fail
                    clear hHeld
                    have hHeld : (fun w' : World => w'.cell? ⟨w.heap.size, 0, none⟩ = some (.int .i64 m) ∧ w'.cell? ⟨b, 1, none⟩ = some (.slice (some ⟨g, 0, none⟩) n cz) ∧ w'.cell? ⟨g, i + k, none⟩ = some (.slice (some ⟨gr, 0, none⟩) (n - (i + k)) c3) ∧ w'.cell? ⟨gr, j + l, none⟩ = some (.int .i64 (c2P n (atT xss) (atT yss) i j k l (i + k) (j + l) % m))) wd1 := by go_keep
                    refine hK.out _ _ (fun _ => hHeld) ?_
                    clear hK K
                    try simp only [List.getElem_toArray, List.getElem_cons_zero, List.getElem_cons_succ, Act.put, List.setIfInBounds_toArray, List.set_cons_zero, List.set_cons_succ]
                    refine' wpAnyK_takeL (i := 27) (v := _) rfl (by kernel_rfl) (by kernel_rfl) (by kernel_rfl) (by kernel_rfl) (fun _ _ _ h => h) (Or.inl ⟨by rfl, ?yT29⟩) hHeld ?rT29
                    case yT29 => (intro w' hSw; (try dsimp only at hSw); go_simp; try with_reducible rfl)
                    try simp only [List.getElem_toArray, List.getElem_cons_zero, List.getElem_cons_succ, Act.put, List.setIfInBounds_toArray, List.set_cons_zero, List.set_cons_succ]
                    refine' wpAnyK_takeL (i := 30) (v := _) rfl (by kernel_rfl) (by kernel_rfl) (by kernel_rfl) (by kernel_rfl) (fun _ _ _ h => h) (Or.inl ⟨by rfl, ?yT30⟩) hHeld ?rT30
                    case yT30 => (intro w' hSw; (try dsimp only at hSw); go_simp; try with_reducible rfl)
                    try simp only [List.getElem_toArray, List.getElem_cons_zero, List.getElem_cons_succ, Act.put, List.setIfInBounds_toArray, List.set_cons_zero, List.set_cons_succ]
                    refine wpAnyK_oneL (i := 31) rfl (by kernel_rfl) (fun K hK => ?_)
                    go_simp
                    (try go_wp2_with fail)
                    refine hK.out _ _ (fun _ => hHeld) ?_
                    clear hK K
                    try simp only [List.getElem_toArray, List.getElem_cons_zero, List.getElem_cons_succ, Act.put, List.setIfInBounds_toArray, List.set_cons_zero, List.set_cons_succ]
                    refine wpAnyK_oneL (i := 32) rfl (by kernel_rfl) (fun K hK => ?_)
                    go_simp
                    (try go_wp2_with fail)
                    refine hK.out _ _ (fun h => absurd h (by decide)) ?_
                    clear hK K
                    try simp only [List.getElem_toArray, List.getElem_cons_zero, List.getElem_cons_succ, Act.put, List.setIfInBounds_toArray, List.set_cons_zero, List.set_cons_succ]
                    refine wpAnyK_done (by kernel_rfl) ?_ _
                    go_wp2_with fail
                    have hg0 := gr_put (gr_below (World.grownBy.refl wr (some gr)) hd1) (j + l) (.int .i64 ((c2P n (atT xss) (atT yss) i j k l (i + k) (j + l) % m + atT xss i j * atT yss k l % m) % m))
                    have hOn := hS.out _ _ (by rw [List.length_set, tmTr_len]) hg0 ((hN.out.below hd1).put (j + l) _)
                    have hCn := hC.grown hg0 hgr3.1 hgr3.2.1
                    rw [← Int.add_emod, tmT_set (by omega)] at hOn
                    rw [← Int.add_emod] at hCn
                    exact ⟨⟨l + 1, by omega, by go_num, hOn, hCn⟩, by simp [intOf]; omega⟩
                  · obtain rfl : l = n - i - j - k := by omega
                    rw [tmT_row (by omega)] at hO
                    go_wp2
                    exact ⟨⟨k + 1, by omega, by go_num, hO, hC⟩, by simp [intOf]; omega⟩
              · obtain rfl : k = n - i - j := by omega
                rw [tmT_place (.inl (by omega))] at hO
                have k2 : ¬ (i : Int) + (j : Int) + ((n - i - j : Nat) : Int) ≤ (n : Int) - 1 := by omega
                go_wp2
                exact ⟨⟨j + 1, by omega, by go_num, hO, hC⟩, by simp [intOf]; omega⟩
          · rw [tmT_place (.inr (by simpa using hx0))] at hO
            go_wp2
            exact ⟨⟨j + 1, by omega, by go_num, hO, hC⟩, by simp [intOf]; omega⟩
        · obtain rfl : j = n - i := by omega
          rw [tmT_line rfl] at hO
          go_wp2
          exact ⟨⟨i + 1, by omega, by go_num, hO, hC⟩, by simp [intOf]; omega⟩
    · obtain rfl : i = n := by omega
      rw [tmT_all] at hO
      obtain ⟨⟨z0, z1⟩, zf⟩ := O2.chg hC hbo
      obtain ⟨⟨r0, r1⟩, rf⟩ := R2.chg hC (.inl hlB)
      have Br := hC.below B2 (by omega) B2s
      go_wp2
      refine bodyPost_ret (v := .agg #[.int .i64 m, .slice (some ⟨g, 0, none⟩) i cz]) (by simp [results, Tryz.results132, go_sem, r0, r1]) rfl ⟨_, rfl, ?_, ?_⟩
      · exact ((hO.r.ow.low hlB _).low hlB _).mono (by omega)
      · (repeat (first | exact bR _ _ | (refine bS ?_ _) | (refine bA ?_ _) | (refine bN ?_ _) | (refine bD ?_) | (refine bT ?_ Br)))

end Go.Proofs.YtoednonijmkbjaaGreat
set_option linter.unusedSimpArgs false
set_option linter.unusedVariables false
namespace Go.Proofs.YtoednonijmkbjaaGreat
open Go.RowKit

def cutRows (k i : Nat) (t : List (List Int)) : List (List Int) := (List.range i).map (fun r => mk (k - r) (atT t r))
theorem cutRows_len (k i : Nat) (t : List (List Int)) : (cutRows k i t).length = i := by simp [cutRows]
theorem cutRows_snoc (k i : Nat) (t : List (List Int)) : cutRows k (i + 1) t = cutRows k i t ++ [mk (k - i) (atT t i)] := tri_snoc_rows k i _
theorem take_row {m : Int} {n k i : Nat} {t : List (List Int)} (ht : PlaT m n t) (hi : i < k) (hk : k ≤ n) {row : List Int} (hr : t[i]? = some row) : row.take (k - i) = mk (k - i) (atT t i) := by
  obtain ⟨hl, rfl⟩ := List.getElem?_eq_some_iff.1 hr
  have e := (ht.2 i hl).1
  rw [ht.1] at e
  rw [eq_mk (t[i].take (k - i)), List.length_take, e, show min (k - i) (n - i) = k - i by omega]
  exact mk_ext fun j hj => by rw [at0_take hj, atT_row hl]

set_option maxHeartbeats 1000000 in
set_option maxRecDepth 100000 in
theorem l03Cut_c (m d : Int) (n k : Nat) (v : Value) (t : List (List Int)) (w : World) (hv : RdT w v t) (ht : PlaT m n t) (hd : d = (k : Int) - 1) (h1 : 1 ≤ k) (hk : k ≤ n) (hn : n ≤ 1000) :
    Calls Tryz.prog 47 #[v, .int .i64 d] w fun e w' => ∃ v', e = .returned v' ∧ OwS w' w.heap.size v' (cutT k t) ∧ Below w.heap.size w w' := by
  subst hd
  obtain ⟨o, c, rfl, hmt, -⟩ := id hv
  have hv' : RdT w (.slice o n c) t := by rw [ht.1] at hv; exact hv
  rw [ht.1]
  have HT := Lib.hid ht
  clear ht hv hmt
  go_enter Tryz.func47, Tryz.ntmps47
  go_wp2_with fail
  have O1 := OwS.lit0 w
  have hb1 : Below w.heap.size w (w.alloc (.cells #[] 26)) := (by (repeat (first | exact bR _ _ | (refine bS ?_ _) | (refine bA ?_ _) | (refine bN ?_ _) | (refine bD ?_))))
  generalize w.alloc (.cells #[] 26) = w1 at O1 hb1 ⊢
  go_loopw [5, 6] (fun l i wr => ∃ r : Nat, r ≤ k ∧ i = .int .i64 r ∧ OwS wr w.heap.size l (cutRows k r t) ∧ Below w.heap.size w wr) (fun _ i _ => k - (intOf i).toNat)
  case atStart => exact ⟨0, Nat.zero_le _, rfl, O1, hb1⟩
  case round =>
    clear O1 hb1
    obtain ⟨r, hr, rfl, hO, hB⟩ := hrel
    have hBs := hB.size
    obtain ⟨ol, cl, rfl⟩ := hO.shapeN (n := r) (cutRows_len _ _ _)
    by_cases hlt : r < k
    · obtain ⟨row, hr1, hl1, hj1⟩ := HT.out.row (show r < n by omega)
      have hvr := hv'.below hB (Nat.le_refl _)
      obtain ⟨bt, ft, rfl, -⟩ := hvr.rows (by have := HT.out.1; omega)
      obtain ⟨o1, c1, cx, rx⟩ := hvr.row hr1
      obtain ⟨b1, f1, rfl, -⟩ := rx.cells (by omega)
      have hcap := rx.len
      have rt := rx.take (k - r) (by omega)
      rw [take_row HT.out hlt hk hr1] at rt
      have HS := Lib.hid (cutRows_snoc k r t)
      have HL := Lib.hid (cutRows_len k r t)
      generalize cutRows k r t = l at hO HS HL
      have i0 : (0 : Int) ≤ (r : Int) := by omega
      have i1 : (r : Int) < (n : Int) := by omega
      have i2 : (r : Int) ≤ (k : Int) - 1 := by omega
      have e1 : IntKind.i64.wrap ((k : Int) - 1 - (r : Int)) = (k : Int) - 1 - (r : Int) := IntWalk.i64_in _ (by omega)
      have e2 : (k : Int) - 1 - (r : Int) + 1 = ((k - r : Nat) : Int) := by omega
      have e3 : IntKind.i64.wrap ((k - r : Nat) : Int) = ((k - r : Nat) : Int) := IntWalk.i64_in _ (by omega)
      have e4 : (((k - r : Nat) : Int)).toNat = k - r := by omega
      have e5 : ((k - r : Nat) : Int) ≤ (c1 : Int) := by omega
      have e6 : (0 : Int) ≤ ((k - r : Nat) : Int) := by omega
      clear hr1 hj1
      have hrk : k - r ≤ 1048576 := by omega
      go_wp2_with (first
        | (go_at_call 69; go_loud (refine (l01Own_c ⟨b1, f1, none⟩ (k - r) c1 (mk (k - r) (atT t r)) _ rt (by rw [mk_len]; exact hrk)).mono ?_; rintro e w3 ⟨vo, rfl, how, hb3⟩; obtain ⟨oa, ca, rfl⟩ := how.shapeN (n := k - r) (mk_len _ _); have hz3 := hb3.size))
        | (at_builtin; obtain ⟨W, hW⟩ : ∃ W : World, W = w3.alloc (.cells #[.slice oa (k - r) ca] 26) := ⟨_, rfl⟩; have hWb : Below wr.heap.size wr W := (by rw [hW]; exact (by (repeat (first | exact bR _ _ | (refine bS ?_ _) | (refine bA ?_ _) | (refine bN ?_ _) | (refine bD ?_) | (refine bT ?_ hb3))))); have hT : OwSR w.heap.size wr.heap.size W (.slice ol r cl) l := hO.toR.stay (fun j _ hj => hWb.block j hj); have hU : OwI W wr.heap.size (.slice oa (k - r) ca) (mk (k - r) (atT t r)) := (by rw [hW]; exact how.alloc _); have hC : W.cell? ⟨w3.heap.size, 0, none⟩ = some (.slice oa (k - r) ca) := (by rw [hW]; simp); have B3 := hB.trans (hWb.mono hBs); have hWs := hWb.size; rw [← hW]; have HW := Lib.hid hW; clear hW; go_loud (refine apT W rfl _ _ rfl w.heap.size wr.heap.size _ _ rfl hT (by omega) hBs _ _ w3.heap.size rfl hC hU (by rw [HL.out]; omega) ?_; intro g2 cap w4 hO4 hgr hb4; clear hgr; have B4 := B3.trans hb4)))
      rw [← HS.out] at hO4
      exact ⟨⟨r + 1, by omega, by go_num, hO4, B4⟩, by simp [intOf]; omega⟩
    · obtain rfl : r = k := by omega
      have i2 : ¬ (r : Int) ≤ (r : Int) - 1 := by omega
      go_wp2
      go_ret
      exact ⟨_, rfl, hO, hB⟩

end Go.Proofs.YtoednonijmkbjaaGreat
