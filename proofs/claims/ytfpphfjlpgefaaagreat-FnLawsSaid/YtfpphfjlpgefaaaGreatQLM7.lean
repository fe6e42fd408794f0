/- Lemmas. -/
import Derived.Test.YtfpphfjlpgefaaaGreatQLG3
import Derived.Test.YtfpphfjlpgefaaaGreatQLG12
import Derived.Test.YtfpphfjlpgefaaaGreatQLM5
import Derived.Test.YtfpphfjlpgefaaaGreatQLG1
import Derived.Test.YtfpphfjlpgefaaaGreatQLM1
import Derived.Test.YtfpphfjlpgefaaaGreatQLG2
import Derived.Test.YtfpphfjlpgefaaaGreatQLM3
set_option maxHeartbeats 4000000
set_option maxRecDepth 100000
/- Inverses modulo a number, by Euclid's algorithm, and common divisors: the program and the reference. -/
set_option linter.unusedSimpArgs false
set_option linter.unusedVariables false
namespace Go.Proofs.YtfpphfjlpgefaaaGreat
open Go.RowKit

theorem l01Mod_c (n m : Int) (w : World) (hm : 0 < m) (hm' : m ≤ 1000000000000000000) (h1 : -9000000000000000000 ≤ n) (h2 : n ≤ 9000000000000000000) :
  Calls Tryz.prog 171 #[.int .i64 m, .int .i64 n] w fun e w' => e = .returned (.int .i64 (n % m)) ∧ w = w' := by
 have h3 : -m < n.tmod m := Int.lt_tmod_of_pos _ hm
 have h4 : n.tmod m < m := Int.tmod_lt_of_pos _ hm
 have HE := Lib.hid (tmod_mod (n := n) (m := m))
 go_enter Tryz.func171, Tryz.ntmps171
 go_wp2
 go_ret
 exact ⟨by rw [← HE.out]; rfl, rfl⟩

theorem l01Inv_c (m a : Int) (w : World) (hm : 2 ≤ m) (hm' : m ≤ 1000000000000) (ha : -9000000000000000000 ≤ a) (ha' : a ≤ 9000000000000000000) :
  Calls Tryz.prog 120 #[.int .i64 m, .int .i64 a] w fun e w' => e = .returned (.int .i64 (invM m a)) ∧ w = w' := by
 have hA := mod_lt' (a := a) (show 0 < m by omega)
 have hst := EuI.start (m := m.toNat) (a := (a % m).toNat) (by omega)
 go_enter Tryz.func120, Tryz.ntmps120
 go_wp2_with (go_at_call 171; refine (l01Mod_c _ _ _ (by omega) (by omega) (by omega) (by omega)).mono ?_; rintro e w' ⟨rfl, rfl⟩)
 go_loop [5, 6, 7, 8] (fun r s x y => ∃ (R S : Nat) (X Y : Int), r = .int .i64 R ∧ s = .int .i64 S ∧ x = .int .i64 X ∧ y = .int .i64 Y ∧ EuI m.toNat R S X Y ∧ Hid (eu R S X Y = eu m.toNat (a % m).toNat 0 1)) (fun r s x y => (intOf s).toNat)
 case atStart => exact ⟨m.toNat, (a % m).toNat, 0, 1, by rw [Int.toNat_of_nonneg (by omega)], by rw [Int.toNat_of_nonneg (by omega)], rfl, rfl, hst, Lib.hid rfl⟩
 case round =>
  obtain ⟨R, S, X, Y, rfl, rfl, rfl, rfl, hE, HE⟩ := hrel
  have hb := hE.bounds
  have hle := hE.le
  have hlt := hE.lt
  by_cases hs : S = 0
  ·subst hs
   have HR := Lib.hid (show X % m = invM m a by unfold invM; rw [← HE.out, eu_0])
   have hX := hE.bx
   go_wp2_with (go_at_call 171; refine (l01Mod_c _ _ _ (by omega) (by omega) (by omega) (by omega)).mono ?_; rintro e w' ⟨rfl, rfl⟩)
   go_ret
   exact ⟨by rw [← HR.out]; rfl, rfl⟩
  ·have hp := hE.prod hs
   have hb2 := (hE.step hs).bounds
   have hx := hE.bx
   have hq0 : (0 : Int) ≤ ((R / S : Nat) : Int) := Int.natCast_nonneg _
   have hqn : R / S ≤ m.toNat := Nat.le_trans (Nat.div_le_self R S) hle
   have hqm : ((R / S : Nat) : Int) ≤ m := by
    generalize R / S = Q at hqn
    omega
   have e1 : (R : Int).tdiv (S : Int) = ((R / S : Nat) : Int) := by rw [Int.tdiv_eq_ediv_of_nonneg (by omega)]; rfl
   have e2 : (R : Int) - ((R / S : Nat) : Int) * (S : Int) = ((R % S : Nat) : Int) := by
    have e := Nat.div_add_mod R S
    have : ((S * (R / S) + R % S : Nat) : Int) = (R : Int) := by rw [e]
    push_cast at this ⊢; grind
   have e3 : ((R / S : Nat) : Int) * (S : Int) ≤ (R : Int) := by
    have : (0 : Int) ≤ ((R % S : Nat) : Int) := by omega
    omega
   have e4 : 0 ≤ ((R / S : Nat) : Int) * (S : Int) := Int.mul_nonneg hq0 (by omega)
   have s0 : ((S : Int) == 0) = false := by simp; omega
   have s1 : ¬ (S : Int) = 0 := by omega
   have s2 : (0 : Int) < (S : Int) := by omega
   have hst2 := hE.step hs
   have HE2 := Lib.hid (show eu S (R % S) Y (X - ((R / S : Nat) : Int) * Y) = eu m.toNat (a % m).toNat 0 1 by rw [← eu_s hs]; exact HE.out)
   have hml := Nat.mod_lt R (show 0 < S by omega)
   clear hs
   generalize ((R / S : Nat) : Int) = q at *
   go_wp2
   exact ⟨⟨S, R % S, Y, X - q * Y, rfl, by rw [← e2]; go_num, rfl, by go_num, hst2, HE2⟩, by simp [intOf]; omega⟩

end Go.Proofs.YtfpphfjlpgefaaaGreat

/- Units: common divisors, and what asks for them. -/
namespace Go.Proofs.YtfpphfjlpgefaaaGreat
open Go.RowKit


theorem rep_set1 {m : Int} {n : Nat} {a : List Int} : (List.replicate n (0 : Int)).set 1 (invM m (at0 a 1)) = revTo m n a (0 + 1) := rfl
theorem invP_end {m : Int} {n : Nat} {a : List Int} {k : Nat} (h : n = k + 1) : invP m n a k = invS m n a := by subst h; exact invP_all
theorem revP_end {m : Int} {n : Nat} {a : List Int} {k : Nat} (h : n = k + 2) : revTo m n a (k + 1) = revL m n a := by subst h; rfl

structure Cel1 (w : World) (b f : Nat) (x : Value) : Prop where
 get : w.cell? ⟨b, f, none⟩ = some x
theorem Cel1.below {B : Nat} {w w' : World} {b f : Nat} {x : Value} (h : Cel1 w b f x) (hb : Below B w w') (hB : w.heap.size ≤ B) : Cel1 w' b f x := ⟨keep_cell hb hB h.get⟩


theorem PlaT.at {m : Int} {n : Nat} {t : List (List Int)} (h : PlaT m n t) {i j : Nat} (hij : i + j < n) : ∃ row, t[i]? = some row ∧ row[j]? = some (atT t i j) ∧ row.length = n - i ∧ 0 ≤ atT t i j ∧ atT t i j < m :=
 pla_at h.1 h.2 hij
theorem PlaT.row {m : Int} {n : Nat} {t : List (List Int)} (h : PlaT m n t) {i : Nat} (hi : i < n) : ∃ row, t[i]? = some row ∧ row.length = n - i ∧ (∀ j, j < n - i → row[j]? = some (atT t i j)) := by
 have hi' : i < t.length := by rw [h.1]; exact hi
 have h1 := h.2 i hi'
 refine ⟨t[i], by simp [hi'], by rw [h1.1, h.1], fun j hj => ?_⟩
 rw [atT_row hi']
 exact some_at0 (by rw [h1.1, h.1]; exact hj)

theorem timesP_c (m m' : Int) (n : Nat) (v u : Value) (xss yss : List (List Int)) (w : World) (hv : RdT w v xss) (hu : RdT w u yss) (h1 : 1 ≤ n) (hn : n ≤ 1000) (hm : 2 ≤ m) (hm' : m ≤ 3000000000)
  (hx : PlaT m n xss) (hy : PlaT m n yss) :
  Calls Tryz.prog 131 #[.agg #[.int .i64 m, v], .agg #[.int .i64 m', u]] w fun e w' => PVEnd w w' m (timesT m n xss yss) e := by
 obtain ⟨o, c, rfl, hmx, -⟩ := id hv
 obtain ⟨o', c', rfl, hmy, -⟩ := id hu
 rw [hx.1] at hmx ⊢
 rw [hy.1] at hmy ⊢
 unfold maxLen at hmx hmy
 have hv' : RdT w (.slice o n c) xss := by rw [hx.1] at hv; exact hv
 have hu' : RdT w (.slice o' n c') yss := by rw [hy.1] at hu; exact hu
 clear hv hu
 have HX := Lib.hid hx
 have HY := Lib.hid hy
 have hxl := hx.1
 have hyl := hy.1
 clear hx hy
 obtain ⟨bx, fx, rfl, -⟩ := hv'.rows (by omega)
 obtain ⟨by', fy, rfl, -⟩ := hu'.rows (by omega)
 clear hxl hyl
 go_enter Tryz.func131, Tryz.ntmps131
 go_wp2_with fail
 (have X0 := ((RB2.mk1 w  (.int .i64 m) (.slice (some ⟨bx, fx, none⟩) n c) 26).1).below (w' := (((w.alloc (.cells #[.int .i64 m, .slice (some ⟨bx, fx, none⟩) n c] 26)).alloc (.cells #[.int .i64 m', .slice (some ⟨by', fy, none⟩) n c'] 26)).alloc (.cells #[.int .i64 0, .slice none 0 0] 26))) bZ (nl _); have Y0 := ((RB2.mk2 w (.cells #[.int .i64 m, .slice (some ⟨bx, fx, none⟩) n c] 26) (.int .i64 m') (.slice (some ⟨by', fy, none⟩) n c') 26).1).below (w' := (((w.alloc (.cells #[.int .i64 m, .slice (some ⟨bx, fx, none⟩) n c] 26)).alloc (.cells #[.int .i64 m', .slice (some ⟨by', fy, none⟩) n c'] 26)).alloc (.cells #[.int .i64 0, .slice none 0 0] 26))) bZ (nl _); have R0 := ((RB2.mk3 w (.cells #[.int .i64 m, .slice (some ⟨bx, fx, none⟩) n c] 26) (.cells #[.int .i64 m', .slice (some ⟨by', fy, none⟩) n c'] 26) (.int .i64 0) (.slice none 0 0) 26)).below (w' := (((w.alloc (.cells #[.int .i64 m, .slice (some ⟨bx, fx, none⟩) n c] 26)).alloc (.cells #[.int .i64 m', .slice (some ⟨by', fy, none⟩) n c'] 26)).alloc (.cells #[.int .i64 0, .slice none 0 0] 26))) bZ (nl _); have B0 : Below w.heap.size w (((w.alloc (.cells #[.int .i64 m, .slice (some ⟨bx, fx, none⟩) n c] 26)).alloc (.cells #[.int .i64 m', .slice (some ⟨by', fy, none⟩) n c'] 26)).alloc (.cells #[.int .i64 0, .slice none 0 0] 26)) := bZ; generalize ((w.alloc (.cells #[.int .i64 m, .slice (some ⟨bx, fx, none⟩) n c] 26)).alloc (.cells #[.int .i64 m', .slice (some ⟨by', fy, none⟩) n c'] 26)).alloc (.cells #[.int .i64 0, .slice none 0 0] 26) = w0 at X0 Y0 R0 B0  ⊢)
 have hzl : w.heap.size + 2 < w0.heap.size := R0.1.lt
 go_cut [5] (fun sb u => ∃ (wz : World) (b : Nat) (oz : Option Addr) (cz : Nat), wz = u ∧ sb = .pointer (some ⟨b, 0, none⟩) ∧ w0.heap.size ≤ b ∧ RB2 u b (.int .i64 m) (.slice oz n cz) ∧ (∃ lo hi, OwSR lo hi u (.slice oz n cz) (zeroT n) ∧ w0.heap.size ≤ lo ∧ (b < lo ∨ hi ≤ b) ∧ hi ≤ u.heap.size) ∧ True ∧ Below w0.heap.size w0 u)
 case first =>
  have hd0 : Below w0.heap.size w0 w0.drew := (Below.refl _ _).drew
  have hsd0 := hd0.size
  have hlb_X0 := X0.lt
  obtain ⟨q0_X0_0, q0_X0_1⟩ := X0.below (Below.refl w0.heap.size w0) (nl _)
  have hne0_X0 : w0.heap.size ≠ w.heap.size := by omega
  go_region_held3 (fun w' => w'.cell? ⟨w.heap.size, 0, none⟩ = some (.int .i64 m) ∧ w'.cell? ⟨w.heap.size, 1, none⟩ = some (.slice (some ⟨bx, fx, none⟩) n c)) (go_keep)
   (first
    | (go_at_call 78; refine (degreeP_c m (some ⟨bx, fx, none⟩) n c _ (by unfold maxLen; omega)).mono ?_; rintro e wd1 ⟨rfl, hbd1⟩; have hd1 : Below w0.heap.size w0 wd1 := (by (repeat (first | exact bR _ _ | (refine bS ?_ _) | (refine bA ?_ _) | (refine bN ?_ _) | (refine bD ?_) | (refine bT ?_ hbd1)))); have hsd1 := hd1.size; have hsz1_ := hbd1.size; (try simp at hsz1_); obtain ⟨q1_X0_0, q1_X0_1⟩ := X0.below hd1 (nl _); have hne1_X0 : wd1.heap.size ≠ w.heap.size := (by omega); (try (have RZ := RZ.below hbd1 (nl _))); (try (have RZ := (show RB2 (w0.alloc (.cells #[.int .i64 0, .slice none 0 0] 26)).drew w0.heap.size (.int .i64 0) (.slice none 0 0) from RB2.mk1 w0 (.int .i64 0) (.slice none 0 0) _).below hbd1 (nl _))); (try (obtain ⟨⟨z1_0, z1_1⟩, zf1⟩ := id RZ)))
    | (go_at_call 148; refine (emptyPlane_c m ((n : Int) - 1) n _ rfl hn).mono ?_; rintro e wd2 ⟨vz2, rfl, hod2, hbd2⟩; obtain ⟨oz, cz, rfl⟩ := hod2.shapeN (n := n) (zeroT_len n); have hd2 : Below w0.heap.size w0 wd2 := (by (repeat (first | exact bR _ _ | (refine bS ?_ _) | (refine bA ?_ _) | (refine bN ?_ _) | (refine bD ?_) | (refine bT ?_ hbd1) | (refine bT ?_ hbd2)))); have hsd2 := hd2.size; have hsz2_ := hbd2.size; (try simp at hsz2_); obtain ⟨q2_X0_0, q2_X0_1⟩ := X0.below hd2 (nl _); have hne2_X0 : wd2.heap.size ≠ w.heap.size := (by omega); (try (have RZ := RZ.below hbd2 (nl _))); (try (have RZ := (show RB2 (wd1.alloc (.cells #[.int .i64 0, .slice none 0 0] 26)) wd1.heap.size (.int .i64 0) (.slice none 0 0) from RB2.mk1 wd1 (.int .i64 0) (.slice none 0 0) _).below hbd2 (nl _))); (try (obtain ⟨⟨z2_0, z2_1⟩, zf2⟩ := id RZ))))
  all_goals
   go_wp2_with fail
   go_meet
   refine ⟨_, _, oz, cz, rfl, rfl, ?_, ?_, ?_, ?_, ?_⟩
   ·first | omega | (simp; done) | (simp; omega)
   ·first | exact RB2.mk1 _ _ _ _ | exact RB2.put RZ _ _
   ·first | exact ⟨_, _, hod2.ra _, (by first | (simp; done) | (simp; omega) | omega), .inr (nl _), (by first | (simp; done) | (simp; omega) | omega)⟩ | exact ⟨_, _, hod2.rp2 (by first | (simp; done) | (simp; omega) | omega) _ _, (by first | (simp; done) | (simp; omega) | omega), .inl (by first | (simp; done) | (simp; omega) | omega), (by first | (simp; done) | (simp; omega) | omega)⟩
   ·trivial
   ·(repeat (first | exact bR _ _ | (refine bS ?_ _) | (refine bA ?_ _) | (refine bN ?_ _) | (refine bD ?_) | (refine bT ?_ hbd1) | (refine bT ?_ hbd2)))
 case rest =>
 obtain ⟨w1, b, oz, cz, rfl, rfl, hbW, O, how, hneb, hb⟩ := hcut
 (have X1 := X0.below hb (nl _); have Y1 := Y0.below hb (nl _); have R1 := R0.below hb (nl _); have B1 := B0.trans (hb.mono B0.size))
 obtain ⟨lo, hi, how, hlo, hbo, hhi⟩ := how
 obtain ⟨us, how⟩ := how.named
 obtain ⟨g, rfl, hgl, hgl'⟩ := how.row h1
 rw [tmT_0 m n xss yss] at how
 obtain ⟨x0, x1⟩ := id X1
 go_wp2_with fail
 refine (degreeP_c m (some ⟨bx, fx, none⟩) n c _ (by unfold maxLen; omega)).mono ?_
 rintro e w2 ⟨rfl, hb2⟩
 (have X2 := X1.below hb2 (nl _); have Y2 := Y1.below hb2 (nl _); have R2 := R1.below hb2 (nl _); have B2 := B1.trans (hb2.mono B1.size))
 have O2 := O.below hb2 (nl _)
 have how2 := how.stay (u' := w2) (fun k _ hk => hb2.block k (by omega))
 clear O how x0 x1 hb2
 have B2s := B2.size
 have hlB : w.heap.size + 2 < lo := by omega
 have m0 : (m == 0) = false := by simp; omega
 have m1 : ¬ m = 0 := by omega
 obtain ⟨x0, x1⟩ := id X2
 go_wp2_with fail
 clear x0 x1
 go_loopw [24] (fun s wr => ∃ i : Nat, i ≤ n ∧ s = .int .i64 i ∧ OwSU us lo hi wr (.slice (some ⟨g, 0, none⟩) n cz) (tmT m n xss yss i 0 0 0) ∧ Chg lo hi w2 wr) (fun i _ => n - (intOf i).toNat)
 case atStart => exact ⟨0, Nat.zero_le _, rfl, how2, Chg.refl _ _ _⟩
 case round =>
  obtain ⟨i, hi', rfl, hO, hC⟩ := hrel
  by_cases hlt : i < n
  ·obtain ⟨r1, hr1, hl1, hj1⟩ := HX.out.row hlt
   obtain ⟨p1, q1, cx0, rx0⟩ := hv'.row hr1
   rw [hl1] at cx0 rx0
   obtain ⟨b1, f1, rfl, -⟩ := rx0.cells (by omega)
   have Br := hC.below B2 (by omega) B2s
   have cx := keep_cell Br (nl _) cx0
   have i0 : (0 : Int) ≤ (i : Int) := by omega
   have i1 : (i : Int) < (n : Int) := by omega
   have HJ := Lib.hid hj1
   clear hr1 hl1 hj1 cx0
   go_wp2_with fail
   clear cx
   go_loopw [31] (fun s wr => ∃ j : Nat, j ≤ n - i ∧ s = .int .i64 j ∧ OwSU us lo hi wr (.slice (some ⟨g, 0, none⟩) n cz) (tmT m n xss yss i j 0 0) ∧ Chg lo hi w2 wr) (fun i' _ => n - i - (intOf i').toNat)
   case atStart => exact ⟨0, Nat.zero_le _, rfl, hO, hC⟩
   case round =>
    obtain ⟨j, hj, rfl, hO, hC⟩ := hrel
    have Br := hC.below B2 (by omega) B2s
    by_cases hjl : j < n - i
    ·have ex := (rx0.below Br (nl _)).cell0 (HJ.out j hjl)
     obtain ⟨-, -, -, -, hxa, hxb⟩ := HX.out.at (i := i) (j := j) (by omega)
     have j0 : (0 : Int) ≤ (j : Int) := by omega
     have j1 : (j : Int) < ((n - i : Nat) : Int) := by omega
     cases hx0 : (atT xss i j == 0)
     ·go_wp2_with fail
      clear ex
      go_loopw [11] (fun s wr => ∃ k : Nat, k ≤ n - i - j ∧ s = .int .i64 k ∧ OwSU us lo hi wr (.slice (some ⟨g, 0, none⟩) n cz) (tmT m n xss yss i j k 0) ∧ Chg lo hi w2 wr) (fun i' _ => n - i - j - (intOf i').toNat)
      case atStart => exact ⟨0, Nat.zero_le _, rfl, hO, hC⟩
      case round =>
       obtain ⟨k, hk, rfl, hO, hC⟩ := hrel
       have Br := hC.below B2 (by omega) B2s
       by_cases hkl : k < n - i - j
       ·obtain ⟨r2, hr2, hl2, hj2⟩ := HY.out.row (show k < n by omega)
        obtain ⟨p2, q2, cy0, ry0⟩ := hu'.row hr2
        rw [hl2] at cy0 ry0
        obtain ⟨-, -, hq2⟩ := ry0.len
        rw [hl2] at hq2
        obtain ⟨b2, f2, rfl, -⟩ := ry0.cells (by omega)
        have cy := keep_cell Br (nl _) cy0
        obtain ⟨y0, y1⟩ := Y2.chg hC (by omega)
        have HJ2 := Lib.hid hj2
        clear hr2 hl2 hj2 cy0
        have k0 : (0 : Int) ≤ (k : Int) := by omega
        have k1 : (k : Int) < (n : Int) := by omega
        have k2 : (i : Int) + (j : Int) + (k : Int) ≤ (n : Int) - 1 := by omega
        have k3 : (0 : Int) ≤ (n : Int) - 1 - (i : Int) - (j : Int) - (k : Int) + 1 := by omega
        have k4 : (n : Int) - 1 - (i : Int) - (j : Int) - (k : Int) + 1 ≤ (q2 : Int) := by omega
        have k5 : ((n : Int) - 1 - (i : Int) - (j : Int) - (k : Int) + 1).toNat = n - i - j - k := by omega
        go_wp2_with fail
        clear cy y0 y1
        go_loopw [62] (fun s wr => ∃ l : Nat, l ≤ n - i - j - k ∧ s = .int .i64 l ∧ OwSU us lo hi wr (.slice (some ⟨g, 0, none⟩) n cz) (tmT m n xss yss i j k l) ∧ Chg lo hi w2 wr) (fun i' _ => n - i - j - k - (intOf i').toNat)
        case atStart => exact ⟨0, Nat.zero_le _, rfl, hO, hC⟩
        case round =>
         obtain ⟨l, hl, rfl, hO, hC⟩ := hrel
         have Br := hC.below B2 (by omega) B2s
         by_cases hll : l < n - i - j - k
         ·have ey := (ry0.below Br (nl _)).cell0 (HJ2.out l (by omega))
          obtain ⟨-, -, -, -, hya, hyb⟩ := HY.out.at (i := k) (j := l) (by omega)
          obtain ⟨o3, c3, hu3, cx3, how3, hbl3, hset3⟩ := hO.at (tmT_row' (show i + k < n by omega))
          rw [tmTr_len] at hu3 cx3 how3 hbl3 hset3
          obtain ⟨gr, rfl, hgr1, hgr2⟩ := how3.row (by omega)
          have hgr3 := hbl3 gr rfl
          have hc0 := how3.cell (k := j + l) (tmTr_get (show i + k + (j + l) < n by omega))
          have hf0 := how3.fz (j + l)
          have hN := Lib.hid how3
          have hS := Lib.hid hset3
          clear how3 hset3 hbl3 hu3
          obtain ⟨x0, x1⟩ := X2.chg hC (by omega)
          obtain ⟨⟨z0, z1⟩, zf⟩ := O2.chg hC hbo
          have l0 : (0 : Int) ≤ (l : Int) := by omega
          have l1 : (l : Int) < ((n - i - j - k : Nat) : Int) := by omega
          have l2 : (0 : Int) ≤ (i : Int) + (k : Int) := by omega
          have l3 : (i : Int) + (k : Int) < (n : Int) := by omega
          have l4 : ((i : Int) + (k : Int)).toNat = i + k := by omega
          have l5 : (0 : Int) ≤ (j : Int) + (l : Int) := by omega
          have l6 : (j : Int) + (l : Int) < ((n - (i + k) : Nat) : Int) := by omega
          have l7 : ((j : Int) + (l : Int)).toNat = j + l := by omega
          have hM := mod_lt' (a := atT xss i j * atT yss k l) (show 0 < m by omega)
          have hCm := mod_lt' (a := c2P n (atT xss) (atT yss) i j k l (i + k) (j + l)) (show 0 < m by omega)
          have hMod := mod_lt' (a := c2P n (atT xss) (atT yss) i j k l (i + k) (j + l) % m + atT xss i j * atT yss k l % m) (show 0 < m by omega)
          go_wp2_with fail
          have e0 : IntKind.i64.wrap ((i : Int) + (k : Int)) = (i : Int) + (k : Int) := IntWalk.i64_in _ (by omega)
          have e3 : IntKind.i64.wrap ((j : Int) + (l : Int)) = (j : Int) + (l : Int) := IntWalk.i64_in _ (by omega)
          have e1 : IntKind.i64.wrap (c2P n (atT xss) (atT yss) i j k l (i + k) (j + l) % m + atT xss i j * atT yss k l % m) = c2P n (atT xss) (atT yss) i j k l (i + k) (j + l) % m + atT xss i j * atT yss k l % m := IntWalk.i64_in _ (by omega)
          have e2 : (c2P n (atT xss) (atT yss) i j k l (i + k) (j + l) % m + atT xss i j * atT yss k l % m).tmod m = (c2P n (atT xss) (atT yss) i j k l (i + k) (j + l) % m + atT xss i j * atT yss k l % m) % m := Int.tmod_eq_emod_of_nonneg (by omega)
          go_still_tail 32, (by kernel_rfl)
          still_call (stillC (mul_c _ _ _ _ (by omega) hm' (by omega) (by omega) (by omega) (by omega)))
          repeat still_step
          refine wpStill_nil ?_
          change wpList _ _ _ _ _ wr.drew
          have hg0 := gr_put (gr_drewN (World.grownBy.refl wr (some gr)) 1) (j + l) (.int .i64 ((c2P n (atT xss) (atT yss) i j k l (i + k) (j + l) % m + atT xss i j * atT yss k l % m) % m))
          have hOn := hS.out _ _ (by rw [List.length_set, tmTr_len]) hg0 ((hN.out.drewN 1).put (j + l) _)
          have hCn := hC.grown hg0 hgr3.1 hgr3.2.1
          rw [← Int.add_emod, tmT_set (by omega)] at hOn
          rw [← Int.add_emod] at hCn
          go_wp2
          exact ⟨⟨l + 1, by omega, by go_num, hOn, hCn⟩, by simp [intOf]; omega⟩
         ·obtain rfl : l = n - i - j - k := by omega
          rw [tmT_row (by omega)] at hO
          go_wp2
          exact ⟨⟨k + 1, by omega, by go_num, hO, hC⟩, by simp [intOf]; omega⟩
       ·obtain rfl : k = n - i - j := by omega
        rw [tmT_place (.inl (by omega))] at hO
        have k2 : ¬ (i : Int) + (j : Int) + ((n - i - j : Nat) : Int) ≤ (n : Int) - 1 := by omega
        go_wp2
        exact ⟨⟨j + 1, by omega, by go_num, hO, hC⟩, by simp [intOf]; omega⟩
     ·rw [tmT_place (.inr (by simpa using hx0))] at hO
      go_wp2
      exact ⟨⟨j + 1, by omega, by go_num, hO, hC⟩, by simp [intOf]; omega⟩
    ·obtain rfl : j = n - i := by omega
     rw [tmT_line rfl] at hO
     go_wp2
     exact ⟨⟨i + 1, by omega, by go_num, hO, hC⟩, by simp [intOf]; omega⟩
  ·obtain rfl : i = n := by omega
   rw [tmT_all] at hO
   obtain ⟨⟨z0, z1⟩, zf⟩ := O2.chg hC hbo
   obtain ⟨⟨r0, r1⟩, rf⟩ := R2.chg hC (.inl hlB)
   have Br := hC.below B2 (by omega) B2s
   go_wp2
   refine bodyPost_ret (v := .agg #[.int .i64 m, .slice (some ⟨g, 0, none⟩) i cz]) (by simp [results, Tryz.results131, go_sem, r0, r1]) rfl ⟨_, rfl, ?_, ?_⟩
   ·exact ((hO.r.ow.low hlB _).low hlB _).mono (by omega)
   ·(repeat (first | exact bR _ _ | (refine bS ?_ _) | (refine bA ?_ _) | (refine bN ?_ _) | (refine bD ?_) | (refine bT ?_ Br)))


def trnTo (n : Nat) (g : Nat → Nat → Int) (i j : Nat) : List (List Int) := tri n (fun a b => if b < i ∨ (b = i ∧ a < j) then g b a else 0)
theorem trnTo_0 (n : Nat) (g : Nat → Nat → Int) : zeroT n = trnTo n g 0 0 := tri_ext fun i j _ => by simp
def trnRow (n : Nat) (g : Nat → Nat → Int) (i j : Nat) : List Int := mk (n - j) (fun b => if b < i then g b j else 0)
theorem trnRow_len (n : Nat) (g : Nat → Nat → Int) (i j : Nat) : (trnRow n g i j).length = n - j := mk_len _ _
theorem trnTo_get {n : Nat} {g : Nat → Nat → Int} {i j : Nat} (h : j < n) : (trnTo n g i j)[j]? = some (trnRow n g i j) := by
 unfold trnTo; rw [tri_get h]; congr 1; exact mk_ext fun b _ => by simp
theorem trnTo_set {n : Nat} {g : Nat → Nat → Int} {i j : Nat} (h : i + j < n) : (trnTo n g i j).set j ((trnRow n g i j).set i (g i j)) = trnTo n g i (j + 1) := by
 have e : trnRow n g i j = mk (n - j) ((fun a b => if b < i ∨ (b = i ∧ a < j) then g b a else 0) j) := mk_ext fun b _ => by simp
 unfold trnTo
 rw [e, tri_set (by omega)]
 refine tri_ext fun a b hab => ?_
 by_cases e1 : a = j ∧ b = i
 ·obtain ⟨rfl, rfl⟩ := e1; simp
 ·rw [if_neg e1]
  by_cases e2 : b < i ∨ (b = i ∧ a < j)
  ·rw [if_pos e2, if_pos (by omega)]
  ·rw [if_neg e2, if_neg (by omega)]
theorem trnTo_row {n : Nat} {g : Nat → Nat → Int} {i : Nat} : trnTo n g i (n - i) = trnTo n g (i + 1) 0 := tri_ext fun a b hab => by
 by_cases e : b < i ∨ (b = i ∧ a < n - i)
 ·rw [if_pos e, if_pos (by omega)]
 ·rw [if_neg e, if_neg (by omega)]
theorem trnTo_all (n : Nat) (g : Nat → Nat → Int) : trnTo n g n 0 = tri n (fun i j => g j i) := tri_ext fun a b hab => by rw [if_pos (by omega)]
theorem turn_all {m : Int} {n : Nat} {t : List (List Int)} (h : PlaT m n t) : trnTo n (atT t) n 0 = turnT m t := by
 rw [trnTo_all]
 unfold turnT
 rw [h.1]
 refine tri_ext fun i j hij => ?_
 obtain ⟨_, _, _, _, h1, h2⟩ := h.at (i := j) (j := i) (by omega)
 exact (Int.emod_eq_of_lt h1 h2).symm

theorem l03Turn_c (m : Int) (n : Nat) (v : Value) (xss : List (List Int)) (w : World) (hv : RdT w v xss) (h1 : 1 ≤ n) (hn : n ≤ 1000) (hx : PlaT m n xss) :
  Calls Tryz.prog 207 #[v] w fun e w' => ∃ v', e = .returned v' ∧ OwS w' w.heap.size v' (turnT m xss) ∧ Below w.heap.size w w' := by
 obtain ⟨o, c, rfl, hmx, -⟩ := id hv
 rw [hx.1] at hmx ⊢
 unfold maxLen at hmx
 have hv' : RdT w (.slice o n c) xss := by rw [hx.1] at hv; exact hv
 clear hv
 have HX := Lib.hid hx
 have hxl := hx.1
 clear hx
 obtain ⟨bx, fx, rfl, -⟩ := hv'.rows (by omega)
 clear hxl
 go_enter Tryz.func207, Tryz.ntmps207
 go_wp2_with (go_at_call 157; refine (l03Zero_c ((n : Int) - 1) n _ rfl hn).mono ?_; rintro e w2 ⟨vz, rfl, how, B2⟩; obtain ⟨oz, cz, rfl⟩ := how.shapeN (n := n) (zeroT_len n))
 have how := how.toR
 obtain ⟨hi, hhi⟩ : ∃ hi, w2.heap.size = hi := ⟨_, rfl⟩
 rw [hhi] at how
 obtain ⟨us, how⟩ := how.named
 obtain ⟨g, rfl, hgl, hgl'⟩ := how.row h1
 rw [trnTo_0 n (atT xss)] at how
 have B2s := B2.size
 go_loopw [4] (fun s wr => ∃ i : Nat, i ≤ n ∧ s = .int .i64 i ∧ OwSU us w.heap.size hi wr (.slice (some ⟨g, 0, none⟩) n cz) (trnTo n (atT xss) i 0) ∧ Chg w.heap.size hi w2 wr) (fun i _ => n - (intOf i).toNat)
 case atStart => exact ⟨0, Nat.zero_le _, rfl, how, Chg.refl _ _ _⟩
 case round =>
  obtain ⟨i, hi', rfl, hO, hC⟩ := hrel
  by_cases hlt : i < n
  ·obtain ⟨r1, hr1, hl1, hj1⟩ := HX.out.row hlt
   obtain ⟨p1, q1, cx0, rx0⟩ := hv'.row hr1
   rw [hl1] at cx0 rx0
   obtain ⟨b1, f1, rfl, -⟩ := rx0.cells (by omega)
   have i0 : (0 : Int) ≤ (i : Int) := by omega
   have i1 : (i : Int) < (n : Int) := by omega
   have HJ := Lib.hid hj1
   clear hr1 hl1 hj1
   go_wp2_with fail
   go_loopw [5] (fun s wr => ∃ j : Nat, j ≤ n - i ∧ s = .int .i64 j ∧ OwSU us w.heap.size hi wr (.slice (some ⟨g, 0, none⟩) n cz) (trnTo n (atT xss) i j) ∧ Chg w.heap.size hi w2 wr) (fun i' _ => n - i - (intOf i').toNat)
   case atStart => exact ⟨0, Nat.zero_le _, rfl, hO, hC⟩
   case round =>
    obtain ⟨j, hj, rfl, hO, hC⟩ := hrel
    have Br := hC.below B2 (by omega) B2s
    have cx := keep_cell Br (nl _) cx0
    by_cases hjl : j < n - i
    ·have ex := (rx0.below Br (nl _)).cell0 (HJ.out j hjl)
     obtain ⟨o2, c2', hu2, cx2, how2, hbl2, hset2⟩ := hO.at (trnTo_get (show j < n by omega))
     rw [trnRow_len] at hu2 cx2 how2 hbl2 hset2
     obtain ⟨gr, rfl, hgr1, hgr2⟩ := how2.row (by omega)
     have hgr3 := hbl2 gr rfl
     have HS2 := Lib.hid hset2
     clear hu2 hbl2 hset2
     have hc0 := how2.cell (k := i) (x := 0) (by unfold trnRow; rw [mk_get (by omega)]; simp)
     have hf0 := how2.fz i
     have Hn := Lib.hid how2
     clear how2
     have j0 : (0 : Int) ≤ (j : Int) := by omega
     have j1 : (j : Int) < ((n - i : Nat) : Int) := by omega
     have j2 : (j : Int) < (n : Int) := by omega
     have j3 : (i : Int) < ((n - j : Nat) : Int) := by omega
     go_wp2_with fail
     have hO3 := HS2.out _ _ (by rw [List.length_set, trnRow_len]) (gr_put (World.grownBy.refl wr (some gr)) i (.int .i64 (atT xss i j))) (Hn.out.put i (atT xss i j))
     rw [trnTo_set (by omega)] at hO3
     have hC3 := hC.grown (grown_put wr gr i (.int .i64 (atT xss i j))) hgr3.1 hgr3.2.1
     exact ⟨⟨j + 1, by omega, by go_num, hO3, hC3⟩, by simp [intOf]; omega⟩
    ·obtain rfl : j = n - i := by omega
     rw [trnTo_row] at hO
     go_wp2
     exact ⟨⟨i + 1, by omega, by go_num, hO, hC⟩, by simp [intOf]; omega⟩
  ·obtain rfl : i = n := by omega
   rw [turn_all HX.out] at hO
   have Br := hC.below B2 (by omega) B2s
   go_wp2
   go_ret
   exact ⟨_, rfl, hO.r.ow, Br⟩


theorem Rds.dwS {lo hi : Nat} {B n b : Nat} {w w' : World} {R : World → Prop} (h : Rds lo hi w R) (hd : DW B n b w w') (hb : b < lo) : Rds lo hi w' R :=
 ⟨Nat.le_trans h.1 hd.size, fun u hu => h.2 u (fun k h1 h2 => (hu k h1 h2).trans (hd.chg.block k (Nat.lt_of_lt_of_le h2 h.1) (.inr (by omega))))⟩
theorem Rds.weak {lo lo' hi : Nat} {w : World} {R : World → Prop} (h : Rds lo hi w R) (hl : lo' ≤ lo) : Rds lo' hi w R := ⟨h.1, fun u hu => h.2 u (fun k h1 h2 => hu k (by omega) h2)⟩
def P1Dr (w w' : World) (e : Ending) : Prop := ∃ m v xss, e = .returned (.agg #[.int .i64 m, v]) ∧ RdT w' v xss ∧ Below w.heap.size w w'

theorem row_of {w : World} {B N : Nat} {v : Value} {xs : List Int} (h : OwI w B v xs) (hl : xs.length = N) (h1 : 1 ≤ N) : ∃ g c, v = .slice (some ⟨g, 0, none⟩) N c := by
 obtain ⟨o, c, rfl⟩ := h.shapeN hl
 obtain ⟨g, rfl, -, -⟩ := h.row h1
 exact ⟨g, c, rfl⟩
theorem own_ne {w : World} {B g n c b : Nat} {xs : List Int} {x : Value} {o : Option Addr} {k cc : Nat} (h : OwI w B (.slice (some ⟨g, 0, none⟩) n c) xs) (hl : 2 ≤ xs.length) (X : Box2 w b x (.slice o k cc)) : g ≠ b := by
 rintro rfl
 have h1 := h.cell (k := 1) (some_at0 (xs := xs) (k := 1) (by omega))
 have h2 := X.2
 rw [h1] at h2
 cases h2

def numbT (m a : Int) (n : Nat) : List (List Int) := tri n (fun i j => if i = 0 ∧ j = 0 then a % m else 0)
theorem numbT_len (m a : Int) (n : Nat) : (numbT m a n).length = n := tri_len _ _
theorem zeroT_get {n i : Nat} (h : i < n) : (zeroT n)[i]? = some (mk (n - i) (fun _ => 0)) := tri_get h
theorem zeroT_set {n : Nat} (h : 0 < n) (m a : Int) : (zeroT n).set 0 ((mk (n - 0) (fun _ => 0)).set 0 (a % m)) = numbT m a n := tri_set (f := fun _ _ => 0) (by omega)

theorem number_c (m a : Int) (o : Option Addr) (n c : Nat) (w : World) (h1 : 1 ≤ n) (hn : n ≤ 1000) (hm : 2 ≤ m) (hm' : m ≤ 1000000000000) (ha : -9000000000000000000 ≤ a) (ha' : a ≤ 9000000000000000000) :
  Calls Tryz.prog 130 #[.agg #[.int .i64 m, .slice o n c], .int .i64 a] w fun e w' => PVEnd w w' m (numbT m a n) e := by
 go_enter Tryz.func130, Tryz.ntmps130
 go_wp2_with fail
 (have X0 := ((RB2.mk1 w  (.int .i64 m) (.slice o n c) 26).1).below (w' := ((w.alloc (.cells #[.int .i64 m, .slice o n c] 26)).alloc (.cells #[.int .i64 0, .slice none 0 0] 26))) bZ (nl _); have R0 := ((RB2.mk2 w (.cells #[.int .i64 m, .slice o n c] 26) (.int .i64 0) (.slice none 0 0) 26)).below (w' := ((w.alloc (.cells #[.int .i64 m, .slice o n c] 26)).alloc (.cells #[.int .i64 0, .slice none 0 0] 26))) bZ (nl _); have B0 : Below w.heap.size w ((w.alloc (.cells #[.int .i64 m, .slice o n c] 26)).alloc (.cells #[.int .i64 0, .slice none 0 0] 26)) := bZ; generalize (w.alloc (.cells #[.int .i64 m, .slice o n c] 26)).alloc (.cells #[.int .i64 0, .slice none 0 0] 26) = w0 at X0 R0 B0  ⊢)
 have hzl : w.heap.size + 1 < w0.heap.size := R0.1.lt
 go_cut [5] (fun sb u => ∃ (wz : World) (b : Nat) (oz : Option Addr) (cz : Nat), wz = u ∧ sb = .pointer (some ⟨b, 0, none⟩) ∧ w0.heap.size ≤ b ∧ RB2 u b (.int .i64 m) (.slice oz n cz) ∧ (∃ lo hi, OwSR lo hi u (.slice oz n cz) (zeroT n) ∧ w0.heap.size ≤ lo ∧ (b < lo ∨ hi ≤ b) ∧ hi ≤ u.heap.size) ∧ True ∧ Below w0.heap.size w0 u)
 case first =>
  have hd0 : Below w0.heap.size w0 w0.drew := (Below.refl _ _).drew
  have hsd0 := hd0.size
  have hlb_X0 := X0.lt
  obtain ⟨q0_X0_0, q0_X0_1⟩ := X0.below (Below.refl w0.heap.size w0) (nl _)
  have hne0_X0 : w0.heap.size ≠ w.heap.size := by omega
  go_region_held3 (fun w' => w'.cell? ⟨w.heap.size, 0, none⟩ = some (.int .i64 m) ∧ w'.cell? ⟨w.heap.size, 1, none⟩ = some (.slice o n c)) (go_keep)
   (first
    | (go_at_call 78; refine (degreeP_c m o n c _ (by unfold maxLen; omega)).mono ?_; rintro e wd1 ⟨rfl, hbd1⟩; have hd1 : Below w0.heap.size w0 wd1 := (by (repeat (first | exact bR _ _ | (refine bS ?_ _) | (refine bA ?_ _) | (refine bN ?_ _) | (refine bD ?_) | (refine bT ?_ hbd1)))); have hsd1 := hd1.size; have hsz1_ := hbd1.size; (try simp at hsz1_); obtain ⟨q1_X0_0, q1_X0_1⟩ := X0.below hd1 (nl _); have hne1_X0 : wd1.heap.size ≠ w.heap.size := (by omega); (try (have RZ := RZ.below hbd1 (nl _))); (try (have RZ := (show RB2 (w0.alloc (.cells #[.int .i64 0, .slice none 0 0] 26)).drew w0.heap.size (.int .i64 0) (.slice none 0 0) from RB2.mk1 w0 (.int .i64 0) (.slice none 0 0) _).below hbd1 (nl _))); (try (obtain ⟨⟨z1_0, z1_1⟩, zf1⟩ := id RZ)))
    | (go_at_call 148; refine (emptyPlane_c m ((n : Int) - 1) n _ rfl hn).mono ?_; rintro e wd2 ⟨vz2, rfl, hod2, hbd2⟩; obtain ⟨oz, cz, rfl⟩ := hod2.shapeN (n := n) (zeroT_len n); have hd2 : Below w0.heap.size w0 wd2 := (by (repeat (first | exact bR _ _ | (refine bS ?_ _) | (refine bA ?_ _) | (refine bN ?_ _) | (refine bD ?_) | (refine bT ?_ hbd1) | (refine bT ?_ hbd2)))); have hsd2 := hd2.size; have hsz2_ := hbd2.size; (try simp at hsz2_); obtain ⟨q2_X0_0, q2_X0_1⟩ := X0.below hd2 (nl _); have hne2_X0 : wd2.heap.size ≠ w.heap.size := (by omega); (try (have RZ := RZ.below hbd2 (nl _))); (try (have RZ := (show RB2 (wd1.alloc (.cells #[.int .i64 0, .slice none 0 0] 26)) wd1.heap.size (.int .i64 0) (.slice none 0 0) from RB2.mk1 wd1 (.int .i64 0) (.slice none 0 0) _).below hbd2 (nl _))); (try (obtain ⟨⟨z2_0, z2_1⟩, zf2⟩ := id RZ))))
  all_goals
   go_wp2_with fail
   go_meet
   refine ⟨_, _, oz, cz, rfl, rfl, ?_, ?_, ?_, ?_, ?_⟩
   ·first | omega | (simp; done) | (simp; omega)
   ·first | exact RB2.mk1 _ _ _ _ | exact RB2.put RZ _ _
   ·first | exact ⟨_, _, hod2.ra _, (by first | (simp; done) | (simp; omega) | omega), .inr (nl _), (by first | (simp; done) | (simp; omega) | omega)⟩ | exact ⟨_, _, hod2.rp2 (by first | (simp; done) | (simp; omega) | omega) _ _, (by first | (simp; done) | (simp; omega) | omega), .inl (by first | (simp; done) | (simp; omega) | omega), (by first | (simp; done) | (simp; omega) | omega)⟩
   ·trivial
   ·(repeat (first | exact bR _ _ | (refine bS ?_ _) | (refine bA ?_ _) | (refine bN ?_ _) | (refine bD ?_) | (refine bT ?_ hbd1) | (refine bT ?_ hbd2)))
 case rest =>
 obtain ⟨w1, b, oz, cz, rfl, rfl, hbW, O, how, hneb, hb⟩ := hcut
 (have X1 := X0.below hb (nl _); have R1 := R0.below hb (nl _); have B1 := B0.trans (hb.mono B0.size))
 obtain ⟨lo, hi, how, hlo, hbo, hhi⟩ := how
 obtain ⟨us, how⟩ := how.named
 obtain ⟨g, rfl, hgl, hgl'⟩ := how.row h1
 obtain ⟨o1, c1, hu1, cx1, how1, hbl1, hset1⟩ := how.at (zeroT_get (show 0 < n by omega))
 rw [mk_len] at cx1 how1 hbl1 hset1 hu1
 obtain ⟨gr, rfl, hgr1, hgr2⟩ := how1.row (by omega)
 have hgr3 := hbl1 gr rfl
 have hc0 := how1.cell (k := 0) (mk_get (show 0 < n - 0 by omega))
 have hf0 := how1.fz 0
 have Hn := Lib.hid how1
 have HS := Lib.hid hset1
 clear how1 hset1 hbl1 hu1
 have B1s := B1.size
 have hlB : w.heap.size + 1 < lo := by omega
 obtain ⟨x0, x1⟩ := id X1
 obtain ⟨⟨z0, z1⟩, zf⟩ := id O
 have i1 : (0 : Int) < ((n - 0 : Nat) : Int) := by omega
 have i2 : (0 : Int) < (n : Int) := by omega
 have i3 : 0 < n := by omega
 go_wp2_with fail
 go_still_tail 9, (by kernel_rfl)
 still_call (stillC (mod_c _ _ _ (by omega) (by omega) (by omega) (by omega)))
 repeat still_step
 refine wpStill_nil ?_
 change wpList _ _ _ _ _ w1.drew
 have hg0 := gr_put (World.grownBy.refl w1 (some gr)) 0 (.int .i64 (a % m))
 have hO := HS.out _ _ (by rw [List.length_set, mk_len]) hg0 (Hn.out.put 0 (a % m))
 rw [zeroT_set h1] at hO
 have hC := (Chg.refl lo hi w1).grown hg0 hgr3.1 hgr3.2.1
 obtain ⟨⟨p0, p1⟩, pf⟩ := O.chg hC hbo
 obtain ⟨⟨r0, r1⟩, rf⟩ := R1.chg hC (.inl hlB)
 have Br := hC.below B1 (by omega) B1s
 clear cx1 x0 x1 z0 z1 zf
 go_wp2
 refine bodyPost_ret (v := .agg #[.int .i64 m, .slice (some ⟨g, 0, none⟩) n cz]) (by simp [results, Tryz.results130, go_sem, r0, r1]) rfl ⟨_, rfl, ?_, ?_⟩
 ·exact ((hO.r.ow.low hlB _).low hlB _).mono (by omega)
 ·(repeat (first | exact bR _ _ | (refine bS ?_ _) | (refine bA ?_ _) | (refine bN ?_ _) | (refine bD ?_) | (refine bT ?_ B1)))

end Go.Proofs.YtfpphfjlpgefaaaGreat
