/- Lemmas. -/
import Derived.Test.YteijannfbafdpaaGreatDoorSZM10
import Derived.Test.YteijannfbafdpaaGreatDoorSZG15
import Derived.Test.YteijannfbafdpaaGreatDoorSZM8
import Derived.Test.YteijannfbafdpaaGreatDoorSZG3
import Derived.Test.YteijannfbafdpaaGreatDoorSZM2
import Derived.Test.YteijannfbafdpaaGreatDoorSZG7
import Derived.Test.YteijannfbafdpaaGreatDoorSZG11
import Derived.Test.YteijannfbafdpaaGreatDoorSZM11
import Derived.Test.YteijannfbafdpaaGreatDoorSZHomP
set_option linter.unusedSimpArgs false
set_option linter.unusedVariables false
namespace Go.Proofs.YteijannfbafdpaaGreatDoor
open Go.RowKit

set_option maxHeartbeats 4000000 in
set_option maxRecDepth 100000 in
theorem l03Times_c (m : Int) (n : Nat) (v u : Value) (xss yss : List (List Int)) (w : World) (hv : RdT w v xss) (hu : RdT w u yss) (h1 : 1 ≤ n) (hn : n ≤ 1000) (hm : 2 ≤ m) (hm' : m ≤ 3000000000)
    (hx : PlaT m n xss) (hy : PlaT m n yss) :
    Calls Tryz.prog 70 #[.int .i64 m, v, u] w fun e w' => ∃ v', e = .returned v' ∧ OwS w' w.heap.size v' (timesT m n xss yss) ∧ Below w.heap.size w w' := by
  obtain ⟨o, c, rfl, hmx, -⟩ := id hv
  obtain ⟨o', c', rfl, hmy, -⟩ := id hu
  rw [hx.1] at hmx ⊢
  rw [hy.1] at hmy ⊢
  unfold maxLen at hmx hmy
  have hv' : RdT w (.slice o n c) xss := by rw [hx.1] at hv; exact hv
  have hu' : RdT w (.slice o' n c') yss := by rw [hy.1] at hu; exact hu
  clear hv hu
  have HX := Lib.hid hx
  have HY := Lib.hid hy
  have hxl := hx.1
  have hyl := hy.1
  clear hx hy
  obtain ⟨bx, fx, rfl, -⟩ := hv'.rows (by omega)
  obtain ⟨by', fy, rfl, -⟩ := hu'.rows (by omega)
  clear hxl hyl
  have m0 : (m == 0) = false := by simp; omega
  have m1 : ¬ m = 0 := by omega
  go_enter Tryz.func70, Tryz.ntmps70
  go_wp2_with (go_at_call 44; refine (l03Zero_c ((n : Int) - 1) n _ rfl hn).mono ?_; rintro e w2 ⟨vz, rfl, how, B2⟩; obtain ⟨oz, cz, rfl⟩ := how.shapeN (n := n) (zeroT_len n))
  have how := how.toR
  obtain ⟨hi, hhi⟩ : ∃ hi, w2.heap.size = hi := ⟨_, rfl⟩
  rw [hhi] at how
  obtain ⟨us, how⟩ := how.named
  obtain ⟨g, rfl, hgl, hgl'⟩ := how.row h1
  rw [tmT_0 m n xss yss] at how
  have B2s := B2.size
  go_loopw [9] (fun s wr => ∃ i : Nat, i ≤ n ∧ s = .int .i64 i ∧ OwSU us w.heap.size hi wr (.slice (some ⟨g, 0, none⟩) n cz) (tmT m n xss yss i 0 0 0) ∧ Chg w.heap.size hi w2 wr) (fun i _ => n - (intOf i).toNat)
  case atStart => exact ⟨0, Nat.zero_le _, rfl, how, Chg.refl _ _ _⟩
  case round =>
    obtain ⟨i, hi', rfl, hO, hC⟩ := hrel
    by_cases hlt : i < n
    · obtain ⟨r1, hr1, hl1, hj1⟩ := HX.out.row hlt
      obtain ⟨p1, q1, cx0, rx0⟩ := hv'.row hr1
      rw [hl1] at cx0 rx0
      obtain ⟨b1, f1, rfl, -⟩ := rx0.cells (by omega)
      have i0 : (0 : Int) ≤ (i : Int) := by omega
      have i1 : (i : Int) < (n : Int) := by omega
      have HJ := Lib.hid hj1
      clear hr1 hl1 hj1
      go_wp2_with fail
      go_loopw [10] (fun s wr => ∃ j : Nat, j ≤ n - i ∧ s = .int .i64 j ∧ OwSU us w.heap.size hi wr (.slice (some ⟨g, 0, none⟩) n cz) (tmT m n xss yss i j 0 0) ∧ Chg w.heap.size hi w2 wr) (fun i' _ => n - i - (intOf i').toNat)
      case atStart => exact ⟨0, Nat.zero_le _, rfl, hO, hC⟩
      case round =>
        obtain ⟨j, hj, rfl, hO, hC⟩ := hrel
        have Br := hC.below B2 (by omega) B2s
        by_cases hjl : j < n - i
        · have ex := (rx0.below Br (Nat.le_refl _)).cell0 (HJ.out j hjl)
          have cx := keep_cell Br (Nat.le_refl _) cx0
          obtain ⟨-, -, -, -, hxa, hxb⟩ := HX.out.at (i := i) (j := j) (by omega)
          have j0 : (0 : Int) ≤ (j : Int) := by omega
          have j1 : (j : Int) < ((n - i : Nat) : Int) := by omega
          have j2 : (i : Int) + (j : Int) < (n : Int) := by omega
          cases hx0 : (atT xss i j == 0)
          · go_wp2_with fail
            clear ex cx
            go_loopw [11] (fun s wr => ∃ k : Nat, k ≤ n - i - j ∧ s = .int .i64 k ∧ OwSU us w.heap.size hi wr (.slice (some ⟨g, 0, none⟩) n cz) (tmT m n xss yss i j k 0) ∧ Chg w.heap.size hi w2 wr) (fun i' _ => n - i - j - (intOf i').toNat)
            case atStart => exact ⟨0, Nat.zero_le _, rfl, hO, hC⟩
            case round =>
              obtain ⟨k, hk, rfl, hO, hC⟩ := hrel
              have Br := hC.below B2 (by omega) B2s
              by_cases hkl : k < n - i - j
              · obtain ⟨r2, hr2, hl2, hj2⟩ := HY.out.row (show k < n by omega)
                obtain ⟨p2, q2, cy0, ry0⟩ := hu'.row hr2
                rw [hl2] at cy0 ry0
                obtain ⟨b2, f2, rfl, -⟩ := ry0.cells (by omega)
                have cy := keep_cell Br (Nat.le_refl _) cy0
                have HJ2 := Lib.hid hj2
                clear hr2 hl2 hj2 cy0
                obtain ⟨o3, c3, hu3, cx3, how3, hbl3, -⟩ := hO.at (tmT_row' (show i + k < n by omega))
                rw [tmTr_len] at hu3 cx3 how3 hbl3
                obtain ⟨gr, rfl, hgr1, hgr2⟩ := how3.row (by omega)
                have hgr3 := hbl3 gr rfl
                have HU3 := Lib.hid hu3
                clear how3 hbl3 hu3
                have k0 : (0 : Int) ≤ (k : Int) := by omega
                have k1 : (k : Int) < (n : Int) := by omega
                have k2 : (i : Int) + (j : Int) + (k : Int) < (n : Int) := by omega
                have k3 : (0 : Int) ≤ (i : Int) + (k : Int) := by omega
                have k4 : (i : Int) + (k : Int) < (n : Int) := by omega
                have k5 : ((i : Int) + (k : Int)).toNat = i + k := by omega
                go_wp2_with fail
                have e0 : IntKind.i64.wrap ((i : Int) + (k : Int)) = (i : Int) + (k : Int) := IntWalk.i64_in _ (by omega)
                go_quiet (fail)
                clear cy cx3 e0
                go_wp2_with fail
                go_loopw [14] (fun s wr => ∃ l : Nat, l ≤ n - i - j - k ∧ s = .int .i64 l ∧ OwSU us w.heap.size hi wr (.slice (some ⟨g, 0, none⟩) n cz) (tmT m n xss yss i j k l) ∧ Chg w.heap.size hi w2 wr) (fun i' _ => n - i - j - k - (intOf i').toNat)
                case atStart => exact ⟨0, Nat.zero_le _, rfl, hO, hC.drewN _⟩
                case round =>
                  obtain ⟨l, hl, rfl, hO, hC⟩ := hrel
                  have Br := hC.below B2 (by omega) B2s
                  by_cases hll : l < n - i - j - k
                  · have ey := (ry0.below Br (Nat.le_refl _)).cell0 (HJ2.out l (by omega))
                    have ex := (rx0.below Br (Nat.le_refl _)).cell0 (HJ.out j hjl)
                    have cx := keep_cell Br (Nat.le_refl _) cx0
                    obtain ⟨-, -, -, -, hya, hyb⟩ := HY.out.at (i := k) (j := l) (by omega)
                    obtain ⟨o4, c4, hu4, -, how3, -, hset3⟩ := hO.at (tmT_row' (show i + k < n by omega))
                    rw [tmTr_len] at hu4 how3 hset3
                    obtain ⟨rfl, rfl⟩ : some ⟨gr, 0, none⟩ = o4 ∧ c3 = c4 := by rw [HU3.out] at hu4; simpa using hu4
                    have hc0 := how3.cell (k := j + l) (tmTr_get (show i + k + (j + l) < n by omega))
                    have hf0 := how3.fz (j + l)
                    have hN := Lib.hid how3
                    have hS := Lib.hid hset3
                    clear how3 hset3 hu4
                    have l0 : (0 : Int) ≤ (l : Int) := by omega
                    have l1 : (l : Int) < ((n - k : Nat) : Int) := by omega
                    have l2 : (i : Int) + (j : Int) + (k : Int) + (l : Int) < (n : Int) := by omega
                    have l5 : (0 : Int) ≤ (j : Int) + (l : Int) := by omega
                    have l6 : (j : Int) + (l : Int) < ((n - (i + k) : Nat) : Int) := by omega
                    have l7 : ((j : Int) + (l : Int)).toNat = j + l := by omega
                    obtain ⟨hM0, hM1⟩ := prod_fits hxa hya hxb hyb hm'
                    have hCm := mod_lt' (a := c2P n (atT xss) (atT yss) i j k l (i + k) (j + l)) (show 0 < m by omega)
                    have hMod := mod_lt' (a := c2P n (atT xss) (atT yss) i j k l (i + k) (j + l) % m + atT xss i j * atT yss k l) (show 0 < m by omega)
                    go_wp2_with fail
                    have e0 : IntKind.i64.wrap ((j : Int) + (l : Int)) = (j : Int) + (l : Int) := IntWalk.i64_in _ (by omega)
                    have e3 : IntKind.i64.wrap (atT xss i j * atT yss k l) = atT xss i j * atT yss k l := IntWalk.i64_in _ (by omega)
                    have e1 : IntKind.i64.wrap (c2P n (atT xss) (atT yss) i j k l (i + k) (j + l) % m + atT xss i j * atT yss k l) = c2P n (atT xss) (atT yss) i j k l (i + k) (j + l) % m + atT xss i j * atT yss k l := IntWalk.i64_in _ (by omega)
                    have e2 : (c2P n (atT xss) (atT yss) i j k l (i + k) (j + l) % m + atT xss i j * atT yss k l).tmod m = (c2P n (atT xss) (atT yss) i j k l (i + k) (j + l) % m + atT xss i j * atT yss k l) % m := Int.tmod_eq_emod_of_nonneg (by omega)
                    go_still_tail 26, (by kernel_rfl)
                    change wpList _ _ _ _ _ wr.drew
                    have HE := Lib.hid (show (c2P n (atT xss) (atT yss) i j k l (i + k) (j + l) % m + atT xss i j * atT yss k l) % m = (c2P n (atT xss) (atT yss) i j k l (i + k) (j + l) + atT xss i j * atT yss k l) % m by rw [Int.add_emod, Int.emod_emod_of_dvd _ (Int.dvd_refl m), ← Int.add_emod])
                    have hg0 := gr_put (gr_drewN (World.grownBy.refl wr (some gr)) 1) (j + l) (.int .i64 ((c2P n (atT xss) (atT yss) i j k l (i + k) (j + l) % m + atT xss i j * atT yss k l) % m))
                    have hOn := hS.out _ _ (by rw [List.length_set, tmTr_len]) hg0 ((hN.out.drewN 1).put (j + l) _)
                    have hCn := hC.grown hg0 hgr3.1 hgr3.2.1
                    rw [HE.out, tmT_set (by omega)] at hOn
                    rw [HE.out] at hCn
                    go_wp2
                    exact ⟨⟨l + 1, by omega, by go_num, hOn, hCn⟩, by simp [intOf]; omega⟩
                  · obtain rfl : l = n - i - j - k := by omega
                    rw [tmT_row (by omega)] at hO
                    have l2 : ¬ (i : Int) + (j : Int) + (k : Int) + ((n - i - j - k : Nat) : Int) < (n : Int) := by omega
                    go_wp2
                    exact ⟨⟨k + 1, by omega, by go_num, hO, hC⟩, by simp [intOf]; omega⟩
              · obtain rfl : k = n - i - j := by omega
                rw [tmT_place (.inl (by omega))] at hO
                have k2 : ¬ (i : Int) + (j : Int) + ((n - i - j : Nat) : Int) < (n : Int) := by omega
                go_wp2
                exact ⟨⟨j + 1, by omega, by go_num, hO, hC⟩, by simp [intOf]; omega⟩
          · rw [tmT_place (.inr (by simpa using hx0))] at hO
            go_wp2
            exact ⟨⟨j + 1, by omega, by go_num, hO, hC⟩, by simp [intOf]; omega⟩
        · obtain rfl : j = n - i := by omega
          rw [tmT_line rfl] at hO
          have j2 : ¬ (i : Int) + ((n - i : Nat) : Int) < (n : Int) := by omega
          go_wp2
          exact ⟨⟨i + 1, by omega, by go_num, hO, hC⟩, by simp [intOf]; omega⟩
    · obtain rfl : i = n := by omega
      rw [tmT_all] at hO
      have Br := hC.below B2 (by omega) B2s
      go_wp2
      go_ret
      exact ⟨_, rfl, hO.r.ow, Br⟩

end Go.Proofs.YteijannfbafdpaaGreatDoor
set_option linter.unusedSimpArgs false
set_option linter.unusedVariables false
namespace Go.Proofs.YteijannfbafdpaaGreatDoor
open Go.RowKit

theorem revP_store {m : Int} {n : Nat} {a : List Int} {k : Nat} :
    (revTo m n a (k + 1)).set (k + 2) ((-(at0 (horn m n (revTo m n a (k + 1)) a) (k + 2) * invM m (at0 a 1) % m)) % m) = revTo m n a (k + 1 + 1) := by
  rw [neg_mul_mod]; rfl
theorem rep_set1 {m : Int} {n : Nat} {a : List Int} : (List.replicate n (0 : Int)).set 1 (invM m (at0 a 1)) = revTo m n a (0 + 1) := rfl
theorem revP_end {m : Int} {n : Nat} {a : List Int} {k : Nat} (h : n = k + 2) : revTo m n a (k + 1) = revL m n a := by subst h; rfl

structure Cel1 (w : World) (b f : Nat) (x : Value) : Prop where
  get : w.cell? ⟨b, f, none⟩ = some x
theorem Cel1.below {B : Nat} {w w' : World} {b f : Nat} {x : Value} (h : Cel1 w b f x) (hb : Below B w w') (hB : w.heap.size ≤ B) : Cel1 w' b f x := ⟨keep_cell hb hB h.get⟩

set_option maxHeartbeats 4000000 in
set_option maxRecDepth 100000 in
theorem reverseS_c (m : Int) (v : Value) (xs : List Int) (w : World) (hv : RdI w v xs) (h1 : 2 ≤ xs.length) (hn : xs.length ≤ 1000) (hm : 2 ≤ m) (hm' : m ≤ 3000000000) (hx : ∀ x ∈ xs, 0 ≤ x ∧ x < m) :
    Calls Tryz.prog 61 #[.agg #[.int .i64 m, v]] w fun e w' => SVEnd w w' m (revL m xs.length xs) e := by
  obtain ⟨o, c, rfl, hmx, -⟩ := id hv
  have hml := hmx.1
  unfold maxLen at hmx
  obtain ⟨bx, fx, rfl, hcx⟩ := hv.cells (by omega)
  have cx : w.cell? ⟨bx, fx + 1, none⟩ = some (.int .i64 (at0 xs 1)) := hcx 1 _ (some_at0 (by omega))
  have lx := cell_lt cx
  have hxr := at0_range (by omega) hx 1
  obtain ⟨u, hu⟩ : ∃ u, u = invM m (at0 xs 1) := ⟨_, rfl⟩
  have hur : 0 ≤ u ∧ u < m := by rw [hu]; exact invM_range (by omega) _
  have HU := Lib.hid hu
  clear hcx hu
  go_enter Tryz.func61, Tryz.ntmps61
  go_wp2_with fail
  (obtain ⟨w0, hw0⟩ : ∃ W : World, W = ((w.alloc (.cells #[.int .i64 m, .slice (some ⟨bx, fx, none⟩) xs.length c] 57)).alloc (.cells #[.int .i64 0, .slice none 0 0] 57)) := ⟨_, rfl⟩; have X0 := (RB2.mk1 w  (.int .i64 m) (.slice (some ⟨bx, fx, none⟩) xs.length c) 57).1.below (w' := w0) (by rw [hw0]; (repeat (first | exact bR _ _ | (refine bS ?_ _) | (refine bA ?_ _) | (refine bN ?_ _) | (refine bD ?_)))) (Nat.le_refl _); have R0 := (RB2.mk2 w (.cells #[.int .i64 m, .slice (some ⟨bx, fx, none⟩) xs.length c] 57) (.int .i64 0) (.slice none 0 0) 57).below (w' := w0) (by rw [hw0]; (repeat (first | exact bR _ _ | (refine bS ?_ _) | (refine bA ?_ _) | (refine bN ?_ _) | (refine bD ?_)))) (Nat.le_refl _); have B0 : Below w.heap.size w w0 := (by rw [hw0]; (repeat (first | exact bR _ _ | (refine bS ?_ _) | (refine bA ?_ _) | (refine bN ?_ _) | (refine bD ?_)))); have hv0 := hv.below (w' := w0) (by rw [hw0]; (repeat (first | exact bR _ _ | (refine bS ?_ _) | (refine bA ?_ _) | (refine bN ?_ _) | (refine bD ?_)))) (Nat.le_refl _); rw [← hw0]; clear hw0)
  have hzl : w.heap.size + 1 < w0.heap.size := R0.1.lt
  have cx0 := keep_cell B0 (Nat.le_refl _) cx
  have lx0 := cell_lt cx0
  have cx0c : Cel1 w0 bx (fx + 1) (.int .i64 (at0 xs 1)) := ⟨cx0⟩
  go_cut [3, 4] (fun sb su u => ∃ (wz : World) (b : Nat) (oz : Option Addr) (cz : Nat), wz = u ∧ sb = .pointer (some ⟨b, 0, none⟩) ∧ su = .int .i64 (invM m (at0 xs 1)) ∧ w0.heap.size ≤ b ∧ RB2 u b (.int .i64 m) (.slice oz xs.length cz) ∧ OwI u w0.heap.size (.slice oz xs.length cz) (List.replicate xs.length 0) ∧ (∀ k, (Value.slice oz xs.length cz).ownBlock = some k → k ≠ b) ∧ Below w0.heap.size w0 u)
  case first =>
    have hd0 : Below w0.heap.size w0 w0.drew := (Below.refl _ _).drew
    have hsd0 := hd0.size
    have hlb_X0 := X0.lt
    have i0 : (0 : Int) < (xs.length : Int) := by omega
    have i1 : (1 : Int) < (xs.length : Int) := by omega
    have i2 : 1 < xs.length := by omega
    obtain ⟨q0_X0_0, q0_X0_1⟩ := X0.below (Below.refl w0.heap.size w0) (Nat.le_refl _)
    have q0_cx := (((cx0c).below (Below.refl w0.heap.size w0) (Nat.le_refl _))).get
    have hne0_X0 : w0.heap.size ≠ w.heap.size := by omega
    have hne0_bx_ : w0.heap.size ≠ bx := by omega
    go_region_held3 (fun w' => w'.cell? ⟨w.heap.size, 0, none⟩ = some (.int .i64 m) ∧ w'.cell? ⟨w.heap.size, 1, none⟩ = some (.slice (some ⟨bx, fx, none⟩) xs.length c) ∧ w'.cell? ⟨bx, fx + 1, none⟩ = some (.int .i64 (at0 xs 1))) (go_keep)
      (first
        | (go_at_call 84; refine (degreeS_c m (some ⟨bx, fx, none⟩) xs.length c _ hml).mono ?_; rintro e wd1 ⟨rfl, hbd1⟩; have hd1 : Below w0.heap.size w0 wd1 := (by (repeat (first | exact bR _ _ | (refine bS ?_ _) | (refine bA ?_ _) | (refine bN ?_ _) | (refine bD ?_) | (refine bT ?_ hbd1)))); have hsd1 := hd1.size; have hsz1_ := hbd1.size; (try simp at hsz1_); obtain ⟨q1_X0_0, q1_X0_1⟩ := X0.below hd1 (Nat.le_refl _); have q1_cx := (((cx0c).below hd1 (Nat.le_refl _))).get; have hne1_X0 : wd1.heap.size ≠ w.heap.size := (by omega); have hne1_bx_ : wd1.heap.size ≠ bx := (by omega); (try (have RZ := RZ.below hbd1 (Nat.le_refl _))); (try (have RZ := (show RB2 (w0.alloc (.cells #[.int .i64 0, .slice none 0 0] 57)).drew w0.heap.size (.int .i64 0) (.slice none 0 0) from RB2.mk1 w0 (.int .i64 0) (.slice none 0 0) _).below hbd1 (Nat.le_refl _))); (try (obtain ⟨⟨z1_0, z1_1⟩, zf1⟩ := id RZ)))
        | (go_at_call 80; refine (zero_c m ((xs.length : Int) - 1) xs.length _ (by omega) (by omega)).mono ?_; rintro e wd2 ⟨vz2, rfl, hod2, hbd2⟩; obtain ⟨oz, cz, rfl⟩ := hod2.shapeN (n := xs.length) (by simp); have hd2 : Below w0.heap.size w0 wd2 := (by (repeat (first | exact bR _ _ | (refine bS ?_ _) | (refine bA ?_ _) | (refine bN ?_ _) | (refine bD ?_) | (refine bT ?_ hbd1) | (refine bT ?_ hbd2)))); have hsd2 := hd2.size; have hsz2_ := hbd2.size; (try simp at hsz2_); obtain ⟨q2_X0_0, q2_X0_1⟩ := X0.below hd2 (Nat.le_refl _); have q2_cx := (((cx0c).below hd2 (Nat.le_refl _))).get; have hne2_X0 : wd2.heap.size ≠ w.heap.size := (by omega); have hne2_bx_ : wd2.heap.size ≠ bx := (by omega); (try (have RZ := RZ.below hbd2 (Nat.le_refl _))); (try (have RZ := (show RB2 (wd1.alloc (.cells #[.int .i64 0, .slice none 0 0] 57)) wd1.heap.size (.int .i64 0) (.slice none 0 0) from RB2.mk1 wd1 (.int .i64 0) (.slice none 0 0) _).below hbd2 (Nat.le_refl _))); (try (obtain ⟨⟨z2_0, z2_1⟩, zf2⟩ := id RZ)))
        | (go_at_call 85; refine (inverse_c m (at0 xs 1) _ hm (by omega) (by omega) (by omega)).mono ?_; rintro e w' ⟨rfl, rfl⟩))
    all_goals
      go_wp2_with fail
      go_meet
      have hL := hod2.lt
      refine ⟨_, _, oz, cz, rfl, rfl, rfl, ?_, ?_, ?_, ?_, ?_⟩
      · first | omega | (simp; done) | (simp; omega)
      · first | exact RB2.mk1 _ _ _ _ | exact RB2.put RZ _ _
      · first | exact (hod2.alloc _).mono (by first | (simp; done) | (simp; omega) | omega) | exact ((hod2.low (by first | (simp; done) | (simp; omega) | omega) _).low (by first | (simp; done) | (simp; omega) | omega) _).mono (by first | (simp; done) | (simp; omega) | omega)
      · intro k hk; have hq := hL k hk; first | omega | (simp at hq; omega)
      · (repeat (first | exact bR _ _ | (refine bS ?_ _) | (refine bA ?_ _) | (refine bN ?_ _) | (refine bD ?_) | (refine bT ?_ hbd1) | (refine bT ?_ hbd2)))
  case rest =>
  obtain ⟨w1, bo, oz, cz, rfl, rfl, rfl, hbW, O, how, hneb, hb⟩ := hcut
  obtain ⟨g, rfl, hgl, hgl'⟩ := how.row (by omega)
  have hgb := hneb g rfl
  clear hneb
  rw [← HU.out]
  (have X1 := X0.below hb (Nat.le_refl _); have R1 := R0.below hb (Nat.le_refl _); have hv1 := hv0.below hb (Nat.le_refl _); have B1 := B0.trans (hb.mono B0.size))
  have hc0 := how.cell (k := 1) (rep_get xs.length 1 0 (by omega))
  have hf0 := how.fz 1
  have hOz := how.put 1 u
  rw [HU.out, rep_set1] at hOz
  have Oz := O.grown (gr_put (World.grownBy.refl w1 (some g)) 1 (.int .i64 (invM m (at0 xs 1)))) (by simp; omega)
  have hbz := below_put hb (g := g) (k := 1) (by omega) (.int .i64 (invM m (at0 xs 1)))
  rw [← HU.out] at hOz Oz hbz
  obtain ⟨z0, z1⟩ := id O.1
  have i0 : (0 : Int) < (xs.length : Int) := by omega
  have i1 : (1 : Int) < (xs.length : Int) := by omega
  have i2 : 1 < xs.length := by omega
  have HO := Lib.hid hOz
  have OZ := Lib.hid Oz
  clear how O hOz Oz hb
  go_wp2_with fail
  clear hc0 hf0 z0 z1
  have hOz := HO.out
  have Oz := OZ.out
  clear HO OZ
  generalize w1.setCell ⟨g, 1, none⟩ (.int .i64 u) = w2 at hOz Oz hbz ⊢
  go_loopw [5, 6] (fun i _ wr => ∃ k : Nat, k + 2 ≤ xs.length ∧ i = .int .i64 ((k : Int) + 2) ∧ OwI wr w0.heap.size (.slice (some ⟨g, 0, none⟩) xs.length cz) (revTo m xs.length xs (k + 1)) ∧ RB2 wr bo (.int .i64 m) (.slice (some ⟨g, 0, none⟩) xs.length cz) ∧ Below w0.heap.size w0 wr) (fun i _ _ => xs.length - (intOf i).toNat)
  case atStart => exact ⟨0, by omega, by go_num, hOz, Oz, hbz⟩
  case round =>
    clear hOz Oz hbz X1 R1 hv1 B1
    obtain ⟨k, hk, rfl, hO, OO, hbr⟩ := hrel
    have B0s := B0.size
    have hbrs := hbr.size
    have Br := B0.trans (hbr.mono B0s)
    have Xr := X0.below hbr (Nat.le_refl _)
    have hvr := hv0.below hbr (Nat.le_refl _)
    have Rr := R0.below hbr (Nat.le_refl _)
    have lXr := Xr.lt
    obtain ⟨x0, x1⟩ := id Xr
    go_wp2_with fail
    refine (degreeS_c m _ _ c _ hml).mono ?_
    rintro e w3 ⟨rfl, hb3⟩
    clear x0 x1
    have hb3s := hb3.size
    have X3 := Xr.below hb3 (Nat.le_refl _)
    have hv3 := hvr.below hb3 (Nat.le_refl _)
    have O3 := OO.below hb3 (Nat.le_refl _)
    have R3 := Rr.below hb3 (Nat.le_refl _)
    have hO3 := hO.below hb3
    have hbr3 := hbr.trans (hb3.mono hbrs)
    have B3 := B0.trans (hbr3.mono B0s)
    have B3s := B3.size
    clear hO OO Xr hvr Rr hbr Br hb3 lXr
    by_cases hlt : k + 2 < xs.length
    · have i3 : (0 : Int) ≤ (k : Int) + 2 := by omega
      have i4 : (k : Int) + 2 ≤ (xs.length : Int) - 1 := by omega
      have i5 : (k : Int) + 2 < (xs.length : Int) := by omega
      have i6 : ((k : Int) + 2).toNat = k + 2 := by omega
      have hQl : ((horn m xs.length (revTo m xs.length xs (k + 1)) xs)).length = xs.length := by first | exact timesL_len _ _ _ _ | exact horn_len _ _ _ _
      have hQr : ∀ x ∈ (horn m xs.length (revTo m xs.length xs (k + 1)) xs), 0 ≤ x ∧ x < m := by first | exact timesL_range (by omega) | exact horn_range (by omega)
      have HS : Hid (((revTo m xs.length xs (k + 1))).set (k + 2) ((-(at0 (horn m xs.length (revTo m xs.length xs (k + 1)) xs) (k + 2) * invM m (at0 xs 1) % m)) % m) = _) := Lib.hid (revP_store)
      have HLl := Lib.hid (show ((revTo m xs.length xs (k + 1))).length = xs.length from (revTo_len _ _ _ _))
      have HRl := Lib.hid (show ∀ x ∈ (revTo m xs.length xs (k + 1)), 0 ≤ x ∧ x < m from (revTo_range (by omega) _ _ _))
      obtain ⟨q, hq⟩ : ∃ q, q = (horn m xs.length (revTo m xs.length xs (k + 1)) xs) := ⟨_, rfl⟩
      rw [← hq] at hQl hQr HS
      rw [← HU.out] at HS
      have HQ := Lib.hid hq
      clear hq
      have hqr := at0_range (show 0 < m by omega) hQr (k + 2)
      have O3b := O3.1
      obtain ⟨x0, x1⟩ := id X3
      obtain ⟨z0, z1⟩ := id O3b
      have HQ2 := HQ
      generalize (revTo m xs.length xs (k + 1)) = l at hO3 HS HLl HRl HQ
      go_wp2_with fail
      refine (compose_c m m _ _ xs l _ hv3 hO3.rd (by rw [HLl.out]) (by omega) (by omega) hm (by omega) hx HRl.out).mono ?_
      rintro e w4 ⟨vq, rfl, hoq, hb4⟩
      rw [← HQ.out] at hoq
      clear x0 x1 z0 z1
      obtain ⟨oq, cq, rfl⟩ := hoq.shapeN (n := xs.length) hQl
      obtain ⟨gq, rfl, hgq, hgq'⟩ := hoq.row (by omega)
      have hcq := hoq.cell (k := k + 2) (some_at0 (show k + 2 < q.length by omega))
      have X4 := X3.below hb4 (Nat.le_refl _)
      have O4 := O3.below hb4 (Nat.le_refl _)
      have hO4 := hO3.below hb4
      have hbr4 := hbr3.trans (hb4.mono hbr3.size)
      have hc9 := hO4.cell (k := k + 2) (some_at0 (show k + 2 < l.length by rw [HLl.out]; omega))
      have hf9 := hO4.fz (k + 2)
      have Hn := Lib.hid hO4
      clear hoq hO3 hO4 O3 X3
      obtain ⟨x0, x1⟩ := id X4
      obtain ⟨⟨z0, z1⟩, zf⟩ := id O4
      have hmu := mod_lt' (a := at0 q (k + 2) * u) (show 0 < m by omega)
      have hfd : ∀ w : World, (Instr.field 57 (.agg #[.int .i64 m, .slice (some ⟨gq, 0, none⟩) xs.length cq]) 1).run Tryz.prog w = .ok (.slice (some ⟨gq, 0, none⟩) xs.length cq) w := fun _ => by kernel_rfl
      have hwr : IntKind.i64.wrap (-(at0 q (k + 2) * u % m)) = -(at0 q (k + 2) * u % m) := IntWalk.i64_in _ (by omega)
      go_wp2_with fail
      go_still_tail 13, (by kernel_rfl)
      still_call (stillC (mul_c m (at0 q (k + 2)) u _ (by omega) (by omega) (by omega) (by omega) (by omega) (by omega)))
      repeat still_step
      still_call (stillC (mod_c (-(at0 q (k + 2) * u % m)) m _ (by omega) (by omega) (by omega) (by omega)))
      repeat still_step
      refine wpStill_nil ?_
      change wpList _ _ _ _ _ w4.drew
      have hOn := Hn.out.put (k + 2) ((-(at0 q (k + 2) * u % m)) % m)
      rw [HS.out] at hOn
      have On := O4.grown (gr_put (World.grownBy.refl w4 (some g)) (k + 2) (.int .i64 ((-(at0 q (k + 2) * u % m)) % m))) (by simp; omega)
      have hbn := below_put hbr4 (g := g) (k := k + 2) (by omega) (.int .i64 ((-(at0 q (k + 2) * u % m)) % m))
      go_wp2
      exact ⟨⟨k + 1, by omega, by go_num, hOn, On, hbn.drew⟩, by simp [intOf]; omega⟩
    · have hk' : xs.length = k + 2 := by omega
      rw [revP_end hk'] at hO3
      have i1 : ¬ (k : Int) + 2 ≤ (xs.length : Int) - 1 := by omega
      clear hk'
      obtain ⟨⟨z0, z1⟩, zf⟩ := id O3
      obtain ⟨⟨r0, r1⟩, rf⟩ := id R3
      have lR3 := R3.1.lt
      go_wp2
      refine bodyPost_ret (v := .agg #[.int .i64 m, .slice (some ⟨g, 0, none⟩) xs.length cz]) (by simp [results, Tryz.results61, go_sem, r0, r1]) rfl ⟨_, rfl, ?_, ?_⟩
      · exact ((hO3.low (by first | (simp; done) | (simp; omega) | omega) _).low (by first | (simp; done) | (simp; omega) | omega) _).mono (by first | (simp; done) | (simp; omega) | omega)
      · (repeat (first | exact bR _ _ | (refine bS ?_ _) | (refine bA ?_ _) | (refine bN ?_ _) | (refine bD ?_) | (refine bT ?_ B3)))
end Go.Proofs.YteijannfbafdpaaGreatDoor
set_option linter.unusedSimpArgs false
set_option linter.unusedVariables false
namespace Go.Proofs.YteijannfbafdpaaGreatDoor
open Go.RowKit

set_option maxHeartbeats 1000000 in
set_option maxRecDepth 100000 in
theorem l03Scale_c (m a : Int) (v : Value) (xss : List (List Int)) (w : World) (hv : RdT w v xss) (hm : 2 ≤ m) (hm' : m ≤ 3000000000) (ha : 0 ≤ a) (ha' : a < m) (hn : xss.length ≤ 1000)
    (hx : ∀ i (hi : i < xss.length), xss[i].length = xss.length - i ∧ ∀ x ∈ xss[i], 0 ≤ x ∧ x < m) :
    Calls Tryz.prog 28 #[.int .i64 m, .int .i64 a, v] w fun e w' => ∃ v', e = .returned v' ∧ OwS w' w.heap.size v' (scaT m xss.length a xss) ∧ Below w.heap.size w w' := by
  obtain ⟨o, c, rfl, hmx, -⟩ := id hv
  unfold maxLen at hmx
  have HX := Lib.hid hx
  clear hx
  go_enter Tryz.func28, Tryz.ntmps28
  go_wp2_with fail
  have O1 := OwS.lit0 w
  have B1 : Below w.heap.size w (w.alloc (.cells #[] 34)) := (by (repeat (first | exact bR _ _ | (refine bS ?_ _) | (refine bA ?_ _) | (refine bN ?_ _) | (refine bD ?_))))
  generalize w.alloc (.cells #[] 34) = w1 at O1 B1 ⊢
  go_loopw [7, 8] (fun s i wr => ∃ (k : Nat) (ov : Option Addr) (cv : Nat), k ≤ xss.length ∧ i = .int .i64 k ∧ s = .slice ov k cv ∧ OwS wr w.heap.size (.slice ov k cv) ((List.range k).map (fun i => mk (xss.length - i) ((fun i j => (a * atT xss i j) % m) i))) ∧ Below w.heap.size w wr) (fun _ i _ => xss.length - (intOf i).toNat)
  case atStart => exact ⟨0, _, _, Nat.zero_le _, rfl, rfl, O1, B1⟩
  case round =>
    clear O1 B1
    obtain ⟨k, ov, cv, hk, rfl, rfl, hO, hB⟩ := hrel
    by_cases hlt : k < xss.length
    · have hxl := (HX.out k hlt).1
      have HE := Lib.hid (show scaleL m a xss[k] = mk (xss.length - k) (fun j => (a * atT xss k j) % m) by
        rw [scaleL_mk, hxl]; exact mk_ext fun j _ => by rw [atT_row hlt])
      have hrn : xss[k].length ≤ 1000 := by omega
      have HEl := Lib.hid (scaleL_len m a xss[k])
      clear hxl
      obtain ⟨bx, fx, rfl, -⟩ := hv.rows (by omega)
      obtain ⟨o1, c1, cx0, rx0⟩ := hv.row (show xss[k]? = some xss[k] by simp [hlt])
      have cx := keep_cell hB (Nat.le_refl _) cx0
      have rx := rx0.below hB (Nat.le_refl _)
      have hBs := hB.size
      have HS := Lib.hid (tri_snoc_rows xss.length k (fun i j => (a * atT xss i j) % m))
      have HLn := Lib.hid (show ((List.range k).map (fun i => mk (xss.length - i) ((fun i j => (a * atT xss i j) % m) i))).length = k by simp)
      generalize (List.range k).map (fun i => mk (xss.length - i) ((fun i j => (a * atT xss i j) % m) i)) = l at hO HS HLn
      have i0 : (0 : Int) ≤ (k : Int) := by omega
      have i1 : (k : Int) < (xss.length : Int) := by omega
      go_wp2_with fail
      refine (l02Scale_c m a _ xss[k] _ rx (by omega) hm (by omega) ha ha' (HX.out k hlt).2).mono ?_
      rintro e w2 ⟨va, rfl, how, hb2⟩
      obtain ⟨oa, ca, rfl⟩ := how.shapeN (n := xss[k].length) HEl.out
      have hz2 := hb2.size
      go_wp2_with (at_builtin; obtain ⟨W, hW⟩ : ∃ W : World, W = w2.alloc (.cells #[.slice oa xss[k].length ca] 34) := ⟨_, rfl⟩; have hWs : W.heap.size = w2.heap.size + 1 := (by rw [hW]; simp); have hT : OwSR w.heap.size wr.heap.size W (.slice ov k cv) l := (by rw [hW]; exact hO.toR.stay (fun j _ hj => (Below.heap_alloc _ _ j (by omega)).trans (hb2.block j hj))); have hU : OwI W wr.heap.size (.slice oa xss[k].length ca) (scaleL m a xss[k]) := (by rw [hW]; exact how.alloc _); have hC : W.cell? ⟨w2.heap.size, 0, none⟩ = some (.slice oa xss[k].length ca) := (by rw [hW]; simp); have B3 : Below w.heap.size w W := (by rw [hW]; exact hB.trans ((((Below.refl wr.heap.size wr).trans hb2).alloc hz2 _).mono hBs)); rw [← hW]; have HW := Lib.hid hW; clear hW; go_loud (refine apT W rfl _ _ rfl w.heap.size wr.heap.size (.slice ov k cv) l rfl hT (by omega) hBs _ _ w2.heap.size rfl hC hU (by rw [HLn.out]; omega) ?_; intro g cap w3 hO3 hgr hb3; clear hgr; have B4 := B3.trans hb3))
      rw [HE.out, HLn.out, ← HS.out] at hO3
      exact ⟨⟨k + 1, _, _, by omega, by go_num, by rw [HLn.out], hO3, B4⟩, by simp [intOf]; omega⟩
    · obtain rfl : k = xss.length := by omega
      go_wp2
      go_ret
      exact ⟨_, rfl, hO, hB⟩
end Go.Proofs.YteijannfbafdpaaGreatDoor
/- A series in two variables is a law if sums of the three variables are associative. No program stands here. -/
set_option linter.unusedSimpArgs false
set_option linter.unusedVariables false
namespace Go.Proofs.YteijannfbafdpaaGreatDoor
open Rg

def cst {T : Type} [Rg T] (a : T) : Nat → T := fun i => if i = 0 then a else zz
def mono {T : Type} [Rg T] (p : Nat) : Nat → T := fun i => if i = p then oo else zz
section gen
variable {T : Type} [Rg T]
theorem cst_ml (a b : T) : (ml (cst a) (cst b) : Nat → T) = cst (ml a b) := by
  funext i
  show cv (fun k => if k = 0 then a else zz) (cst b) i = _
  rw [cv_ic]
  unfold cst
  by_cases h : i = 0
  · rw [if_pos h, if_pos h]
  · rw [if_neg h, if_neg h, ml_zz]
theorem cst_pw (a : T) (k : Nat) : (pw (cst a) k : Nat → T) = cst (pw a k) := by
  induction k with
  | zero => rfl
  | succ k ih => show ml (pw (cst a) k) (cst a) = _; rw [ih, cst_ml]; rfl
theorem mono_1 (f : Nat → T) : (ml f (mono 1) : Nat → T) = fun i => if i = 0 then zz else f (i - 1) := by
  funext i
  cases i with
  | zero =>
    show cv f (mono 1) 0 = _
    rw [cv_0]
    show ml (f 0) (if 0 = 1 then oo else zz) = _
    rw [if_neg (by omega), ml_zz, if_pos rfl]
  | succ i =>
    show cv f (mono 1) (i + 1) = _
    rw [cv_last]
    have e : sh (mono 1 : Nat → T) = fun k => if k = 0 then oo else zz := by
      funext k
      show (if k + 1 = 1 then (oo : T) else zz) = _
      by_cases h : k = 0
      · rw [if_pos (by omega), if_pos h]
      · rw [if_neg (by omega), if_neg h]
    rw [e, cv_oo]
    show ad (f i) (ml (f (i + 1)) (if 0 = 1 then oo else zz)) = _
    rw [if_neg (by omega), ml_zz, ad_zz, if_neg (by omega)]; rfl
theorem mono_pw (k : Nat) : (pw (mono 1) k : Nat → T) = mono k := by
  induction k with
  | zero => rfl
  | succ k ih =>
    show ml (pw (mono 1) k) (mono 1) = _
    rw [ih, mono_1]
    funext i
    show (if i = 0 then zz else if i - 1 = k then (oo : T) else zz) = if i = k + 1 then oo else zz
    by_cases h : i = 0
    · rw [if_pos h, if_neg (by omega)]
    · rw [if_neg h]
      by_cases h' : i = k + 1
      · rw [if_pos (by omega), if_pos h']
      · rw [if_neg (by omega), if_neg h']
theorem mono_cst (p : Nat) (b : T) (i : Nat) : (ml (mono p) (cst b) : Nat → T) i = if i = p then b else zz := by
  rw [ml_comm]
  show cv (fun k => if k = 0 then b else zz) (mono p) i = _
  rw [cv_ic]
  show ml b (if i = p then oo else zz) = _
  by_cases h : i = p
  · rw [if_pos h, if_pos h, ml_oo]
  · rw [if_neg h, if_neg h, ml_zz]
theorem lo_cst {m : Int} {k : Nat} {a : T} (h : lo m k a) : lo m k (cst a) := fun i => by
  by_cases hi : i = 0
  · subst hi; exact h
  · show lo m (k - i) (if i = 0 then a else zz)
    rw [if_neg hi]; exact lo_zz _ _
theorem lo_mono (m : Int) : lo m 1 (mono 1 : Nat → T) := fun i => by
  by_cases hi : i = 0
  · subst hi
    show lo m 1 (if 0 = 1 then (oo : T) else zz)
    rw [if_neg (by omega)]; exact lo_zz _ _
  · rw [show 1 - i = 0 by omega]; exact lo_0 _ _
theorem sm_ite' {n k : Nat} (hk : k < n) (f : Nat → T) : sm n (fun i => if k = i then f i else zz) = f k := by
  induction n with
  | zero => omega
  | succ n ih =>
    show ad (sm n _) (if k = n then f n else zz) = f k
    by_cases h : k = n
    · subst h
      rw [if_pos rfl, sm_none (n := k) fun i hi => by rw [if_neg (by omega)], zz_ad]
    · rw [if_neg h, ih (by omega), ad_zz]
end gen

def X3 : Nat → Nat → Nat → Int := mono 1
def Y3 : Nat → Nat → Nat → Int := cst xP
def Z3 : Nat → Nat → Nat → Int := cst yP
theorem T3_at (n : Nat) (c : Nat → Nat → Nat → Int) {i : Nat} (hi : i < n) :
    (sm n (fun p => sm n (fun q => sm n (fun k => ml (ic (c p q k)) (ml (pw X3 p) (ml (pw Y3 q) (pw Z3 k)))))) : Nat → Nat → Nat → Int) i = ev2 n (c i) xP yP := by
  rw [ser_sm]
  have e : ∀ p, (sm n (fun q => sm n (fun k => ml (ic (c p q k)) (ml (pw X3 p) (ml (pw Y3 q) (pw Z3 k))))) : Nat → Nat → Nat → Int) i = if i = p then ev2 n (c p) xP yP else zz := by
    intro p
    rw [ser_sm]
    have e1 : ∀ q, (sm n (fun k => ml (ic (c p q k)) (ml (pw X3 p) (ml (pw Y3 q) (pw Z3 k)))) : Nat → Nat → Nat → Int) i = if i = p then sm n (fun k => ml (ic (c p q k)) (ml (pw xP q) (pw yP k))) else zz := by
      intro q
      rw [ser_sm]
      have e2 : ∀ k, (ml (ic (c p q k)) (ml (pw X3 p) (ml (pw Y3 q) (pw Z3 k))) : Nat → Nat → Nat → Int) i = if i = p then ml (ic (c p q k)) (ml (pw xP q) (pw yP k)) else zz := by
        intro k
        rw [ser_icml]
        unfold X3 Y3 Z3
        rw [mono_pw, cst_pw, cst_pw, cst_ml, mono_cst]
        by_cases h : i = p
        · rw [if_pos h, if_pos h]
        · rw [if_neg h, if_neg h, ml_zz]
      rw [sm_congr fun k _ => e2 k]
      by_cases h : i = p
      · rw [if_pos h]; exact sm_congr fun k _ => by rw [if_pos h]
      · rw [if_neg h]; exact sm_none fun k _ => by rw [if_neg h]
    rw [sm_congr fun q _ => e1 q]
    by_cases h : i = p
    · rw [if_pos h, ev2_sum]; exact sm_congr fun q _ => by rw [if_pos h]
    · rw [if_neg h]; exact sm_none fun q _ => by rw [if_neg h]
  rw [sm_congr fun p _ => e p, sm_ite' hi]
theorem lw_of_ev {m : Int} {n : Nat} (h2 : 2 ≤ n) {F : Nat → Nat → Int} (h0 : F 0 0 = 0) (hu : ∀ i, i < n → F i 0 % m = (if i = 1 then 1 else 0) % m) (hs : ∀ i j, i + j < n → F i j % m = F j i % m)
    (ha : eqv m n (ev2 n F (ev2 n F X3 Y3) Z3) (ev2 n F X3 (ev2 n F Y3 Z3))) : Lw m n F := by
  refine ⟨h2, h0, hu, hs, fun p q k hpq => ?_⟩
  have lX : lo m 1 X3 := lo_mono m
  have lY : lo m 1 Y3 := lo_cst (lo_xP m)
  have lZ : lo m 1 Z3 := lo_cst (lo_yP m)
  have e1 : eqv m n (ev2 n F (ev2 n F X3 Y3) Z3) (sm n (fun i => ml (sm n (fun k => ml (ic (F i k)) (pw Z3 k))) (ev2 n (pw F i) X3 Y3))) :=
    sm_eqv fun i _ => eqv_mll _ (eqv_symm ((hm2 lX lY).pw F i))
  have e2 : eqv m n (ev2 n F X3 (ev2 n F Y3 Z3)) (sm n (fun p => ml (sm n (fun j => ml (ic (F p j)) (ev2 n (pw F j) Y3 Z3))) (pw X3 p))) :=
    sm_eqv fun p _ => eqv_mlr _ (sm_eqv fun j _ => eqv_mll _ (eqv_symm ((hm2 lY lZ).pw F j)))
  rw [three_sum n F (fun i => pw F i)] at e1
  rw [three_sum' n F (fun i => pw F i)] at e2
  have e := eqv_trans (eqv_symm e1) (eqv_trans ha e2)
  have h := eqv_ser e p
  rw [T3_at n (fun p q k => sm n (fun i => F i k * (pw F i : Nat → Nat → Int) p q)) (by omega), T3_at n (fun p q k => sm n (fun j => F p j * (pw F j : Nat → Nat → Int) q k)) (by omega)] at h
  have h' := eqv_trans (eqv_symm (eqv_le (ev2_self _) (show n - p ≤ n by omega))) (eqv_trans h (eqv_le (ev2_self _) (show n - p ≤ n by omega)))
  exact eqv2.1 h' q k (by omega)
end Go.Proofs.YteijannfbafdpaaGreatDoor

/- What a logarithm determines; typical laws are laws. No program stands here. -/
set_option linter.unusedSimpArgs false
set_option linter.unusedVariables false
namespace Go.Proofs.YteijannfbafdpaaGreatDoor
open Rg

def Tf (T : Type) [Rg T] : Prop := ∀ (c : Int) (k : Nat) (x : T), c ≠ 0 → lo 0 k (ml (ic c) x) → lo 0 k x
theorem tf_int : Tf Int := fun c k x hc h => by
  rcases h with h | h
  · exact .inl h
  · have h' : c * x = 0 := Int.zero_dvd.1 h
    rcases Int.mul_eq_zero.1 h' with e | e
    · exact absurd e hc
    · exact .inr (by rw [e]; exact Int.dvd_refl 0)
theorem tf_ser {T : Type} [Rg T] (H : Tf T) : Tf (Nat → T) := fun c k x hc h i => by
  have := h i
  rw [ser_icml] at this
  exact H c (k - i) (x i) hc this
section gen
variable {T : Type} [Rg T] {p : Nat} {l : Nat → Int}
theorem LQ_lateT (hp : 2 ≤ p) (l : Nat → Int) (M : Nat) {F e : T} {n : Nat} (hF : lo 0 1 F) (he : lo 0 (n + 1) e) : eqv 0 (n + 2) (LQ p l (M + 1) (ad F e)) (ad (LQ p l (M + 1) F) (ml (ic (l 0)) e)) := by
  unfold LQ
  rw [sm_first, sm_first]
  have e1 : eqv 0 (n + 2) (sm M (fun k => ml (ic (l (k + 1))) (pw (ad F e) (p ^ (k + 1))))) (sm M (fun k => ml (ic (l (k + 1))) (pw F (p ^ (k + 1))))) := by
    refine sm_eqv fun k _ => eqv_mll _ ?_
    have hq : 2 ≤ p ^ (k + 1) := by
      rw [Nat.pow_succ]
      exact Nat.le_trans (show 2 ≤ 1 * p by omega) (Nat.mul_le_mul_right p (Nat.one_le_pow k p (by omega)))
    obtain ⟨r, hr⟩ : ∃ r, p ^ (k + 1) = r + 2 := ⟨p ^ (k + 1) - 2, by omega⟩
    rw [hr]
    exact pw_late hF he r
  refine eqv_trans (eqv_ad eqv_rfl e1) (eqv_of ?_)
  rw [Nat.pow_zero, pw_1, pw_1, ml_ad]
  ac_rfl
theorem LQ_inj (tf : Tf T) (hp : 2 ≤ p) (h0 : l 0 ≠ 0) {M : Nat} {G H : T} (hG : lo 0 1 G) (hH : lo 0 1 H) {n : Nat} (h : eqv 0 n (LQ p l (M + 1) G) (LQ p l (M + 1) H)) : ∀ k, k ≤ n → eqv 0 k G H
  | 0, _ => lo_0 _ _
  | 1, _ => eqv_trans (eqv_lo hG) (eqv_symm (eqv_lo hH))
  | k + 2, hk => by
    have ih := LQ_inj tf hp h0 hG hH h (k + 1) (by omega)
    have e : G = ad H (ad G (ng H)) := by rw [show ad H (ad G (ng H)) = ad (ad H (ng H)) G by ac_rfl, ad_ng, zz_ad]
    have h1 := LQ_lateT hp l M hH (show lo 0 (k + 1) (ad G (ng H)) from ih)
    rw [← e] at h1
    have h2 := eqv_trans (eqv_symm h1) (eqv_le h hk)
    refine tf (l 0) (k + 2) _ h0 ?_
    have h3 : lo 0 (k + 2) (ad (ad (LQ p l (M + 1) H) (ml (ic (l 0)) (ad G (ng H)))) (ng (LQ p l (M + 1) H))) := h2
    rwa [show ad (ad (LQ p l (M + 1) H) (ml (ic (l 0)) (ad G (ng H)))) (ng (LQ p l (M + 1) H)) = ad (ad (LQ p l (M + 1) H) (ng (LQ p l (M + 1) H))) (ml (ic (l 0)) (ad G (ng H))) by ac_rfl, ad_ng, zz_ad] at h3
end gen
theorem ev2_swap {m : Int} {n : Nat} (F : Nat → Nat → Int) : eqv m n (ev2 n F yP xP) (fun i j => F j i) := by
  refine eqv2.2 fun i j hij => ?_
  rw [ev2_sum]
  have e1 : (sm n (fun a => sm n (fun b => ml (ic (F a b)) (ml (pw yP a) (pw xP b)))) : Nat → Nat → Int) i j = sumN n (fun a => sumN n (fun b => F a b * (if a = j ∧ b = i then 1 else 0))) := by
    rw [sumN_sm, ser_sm, ser_sm]
    refine sm_congr fun a _ => ?_
    rw [sumN_sm, ser_sm, ser_sm]
    refine sm_congr fun b _ => ?_
    rw [icml2]
    congr 1
    rw [ml_comm, show pw xP b = onx (pw xS b) from (onx_pw _ _).symm, show pw yP a = ony (pw xS a) from (ony_pw _ _).symm, onx_ony, pw_xS, pw_xS]
    unfold mon
    by_cases ha : a = j
    · subst ha
      by_cases hb : b = i
      · subst hb; simp
      · rw [if_neg (show ¬ i = b from fun e => hb e.symm), if_neg (show ¬ (a = a ∧ b = i) from fun e => hb e.2), Int.zero_mul]
    · rw [if_neg (show ¬ j = a from fun e => ha e.symm), if_neg (show ¬ (a = j ∧ b = i) from fun e => ha e.1), Int.mul_zero]
  rw [e1, sumN_only (i := j) (by omega) (fun a _ hne => sumN_zero fun b _ => by rw [if_neg (fun e => hne e.1), Int.mul_zero]),
    sumN_only (i := i) (by omega) (fun b _ hne => by rw [if_neg (fun e => hne e.2), Int.mul_zero]), if_pos ⟨rfl, rfl⟩, Int.mul_one]
theorem Lw.congr {m : Int} {n : Nat} {F G : Nat → Nat → Int} (L : Lw m n F) (h0 : G 0 0 = 0) (h : ∀ i j, i + j < n → F i j % m = G i j % m) : Lw m n G := by
  have e := eqv2.2 h
  have h2 := L.two
  have lF : lo m 1 F := lo_of0 L.zer
  have lG : lo m 1 G := lo_of0 h0
  refine ⟨L.two, h0, fun i hi => by rw [← h i 0 (by omega)]; exact L.un i hi, fun i j hij => by rw [← h i j hij, ← h j i (by omega)]; exact L.sy i j hij, fun p q k hpq => ?_⟩
  have e1 : sm n (fun i => F i k * (pw F i : Nat → Nat → Int) p q) % m = sm n (fun i => G i k * (pw G i : Nat → Nat → Int) p q) % m := by
    rw [← sumN_sm, ← sumN_sm]
    refine sumN_mod fun i hi => ?_
    by_cases hik : i + k < n
    · exact emod_congr_mul (h i k hik) (eqv2.1 (pw_eqv e i) p q (by omega))
    · have z1 : (pw F i : Nat → Nat → Int) p q % m = 0 % m := eqv2.1 (eqv_lo (pw_lo lF i)) p q (by omega)
      have z2 : (pw G i : Nat → Nat → Int) p q % m = 0 % m := eqv2.1 (eqv_lo (pw_lo lG i)) p q (by omega)
      rw [emod_congr_mul (rfl : F i k % m = _) z1, emod_congr_mul (rfl : G i k % m = _) z2, Int.mul_zero, Int.mul_zero]
  have e2 : sm n (fun j => F p j * (pw F j : Nat → Nat → Int) q k) % m = sm n (fun j => G p j * (pw G j : Nat → Nat → Int) q k) % m := by
    rw [← sumN_sm, ← sumN_sm]
    refine sumN_mod fun j hj => ?_
    by_cases hjp : p + j < n
    · exact emod_congr_mul (h p j hjp) (eqv2.1 (pw_eqv e j) q k (by omega))
    · have z1 : (pw F j : Nat → Nat → Int) q k % m = 0 % m := eqv2.1 (eqv_lo (pw_lo lF j)) q k (by omega)
      have z2 : (pw G j : Nat → Nat → Int) q k % m = 0 % m := eqv2.1 (eqv_lo (pw_lo lG j)) q k (by omega)
      rw [emod_congr_mul (rfl : F p j % m = _) z1, emod_congr_mul (rfl : G p j % m = _) z2, Int.mul_zero, Int.mul_zero]
  rw [← e1, ← e2]
  exact L.as p q k hpq
end Go.Proofs.YteijannfbafdpaaGreatDoor
