/- Lemmas. -/
import Derived.Test.YtfpphfjlpgefaaaGreatqM6
import Derived.Test.YtfpphfjlpgefaaaGreatqG6
import Derived.Test.YtfpphfjlpgefaaaGreatqG1
import Derived.Test.YtfpphfjlpgefaaaGreatqSRev
import Derived.Test.YtfpphfjlpgefaaaGreatqM1
import Derived.Test.YtfpphfjlpgefaaaGreatqM5
import Derived.Test.YtfpphfjlpgefaaaGreatqG2
set_option maxHeartbeats 4000000
set_option maxRecDepth 100000
set_option linter.unusedSimpArgs false
set_option linter.unusedVariables false
namespace Go.Proofs.YtfpphfjlpgefaaaGreat
open Go.RowKit

theorem PlaT.at {m : Int} {n : Nat} {t : Tb} (h : PlaT m n t) {i j : Nat} (hij : i + j < n) : ∃ row, t[i]? = some row ∧ row[j]? = some (atT t i j) ∧ row.length = n - i ∧ 0 ≤ atT t i j ∧ atT t i j < m :=
 qFh h.1 h.2 hij
theorem PlaT.row {m : Int} {n : Nat} {t : Tb} (h : PlaT m n t) {i : Nat} (hi : i < n) : ∃ row, t[i]? = some row ∧ row.length = n - i ∧ (∀ j, j < n - i → row[j]? = some (atT t i j)) := by
 have hi' : i < t.length := by rw [h.1]; exact hi
 have h1 := h.2 i hi'
 refine ⟨t[i], by simp [hi'], by rw [h1.1, h.1], fun j hj => ?_⟩
 rw [qDI hi']
 exact qA5 (by rw [h1.1, h.1]; exact hj)

theorem qKn (m m' : Int) (n : Nat) (v u : Value) (xss yss : Tb) (w : World) (hv : RdT w v xss) (hu : RdT w u yss) (h1 : 1 ≤ n) (hn : n ≤ 1000) (hm : 2 ≤ m) (hm' : m ≤ 1000000000000)
  (hx : PlaT m n xss) (hy : PlaT m n yss) :
  Calls Tryz.prog 131 #[.agg #[.int .i64 m, v], .agg #[.int .i64 m', u]] w fun e w' => qC9 w w' m (qAO m n xss yss) e := by
 obtain ⟨o, c, rfl, hmx, -⟩ := id hv
 obtain ⟨o', c', rfl, hmy, -⟩ := id hu
 rw [hx.1] at hmx ⊢
 rw [hy.1] at hmy ⊢
 unfold maxLen at hmx hmy
 have hv' : RdT w (.slice o n c) xss := by rw [hx.1] at hv; exact hv
 have hu' : RdT w (.slice o' n c') yss := by rw [hy.1] at hu; exact hu
 clear hv hu
 have HX := dd hx
 have HY := dd hy
 have hxl := hx.1
 have hyl := hy.1
 clear hx hy
 obtain ⟨bx, fx, rfl, -⟩ := hv'.rows Oo
 obtain ⟨by', fy, rfl, -⟩ := hu'.rows Oo
 clear hxl hyl
 go_enter Tryz.func131, Tryz.ntmps131
 go_wp2_with fail
 (obtain ⟨w0, hw0⟩ : ∃ W : World, W = (((w.alloc (.cells #[.int .i64 m, .slice (some ⟨bx, fx, none⟩) n c] 26)).alloc (.cells #[.int .i64 m', .slice (some ⟨by', fy, none⟩) n c'] 26)).alloc (.cells #[.int .i64 0, .slice none 0 0] 26)) := ⟨_, rfl⟩; have X0 := (RB2.mk1 w  (.int .i64 m) (.slice (some ⟨bx, fx, none⟩) n c) 26).1.below (w' := w0) (bV hw0) (nl _); have Y0 := (RB2.mk2 w (.cells #[.int .i64 m, .slice (some ⟨bx, fx, none⟩) n c] 26) (.int .i64 m') (.slice (some ⟨by', fy, none⟩) n c') 26).1.below (w' := w0) (bV hw0) (nl _); have R0 := (RB2.mk3 w (.cells #[.int .i64 m, .slice (some ⟨bx, fx, none⟩) n c] 26) (.cells #[.int .i64 m', .slice (some ⟨by', fy, none⟩) n c'] 26) (.int .i64 0) (.slice none 0 0) 26).below (w' := w0) (bV hw0) (nl _); have B0 : Below w.heap.size w w0 := (bV hw0); rw [← hw0]; clear hw0)
 have hzl : w.heap.size + 2 < w0.heap.size := R0.1.lt
 go_cut [5] (fun sb u => ∃ (wz : World) (b : Nat) (oz : Option Addr) (cz : Nat), wz = u ∧ sb = .pointer (some ⟨b, 0, none⟩) ∧ w0.heap.size ≤ b ∧ RB2 u b (.int .i64 m) (.slice oz n cz) ∧ (∃ lo hi, OwSR lo hi u (.slice oz n cz) (qAb n) ∧ w0.heap.size ≤ lo ∧ (b < lo ∨ hi ≤ b) ∧ hi ≤ u.heap.size) ∧ True ∧ Below w0.heap.size w0 u)
 case first =>
  have hd0 : Below w0.heap.size w0 w0.drew := (Below.refl _ _).drew; have hsd0 := hd0.size; have hlb_X0 := X0.lt; obtain ⟨q0_X0_0, q0_X0_1⟩ := X0.below (Below.refl w0.heap.size w0) (nl _); have hne0_X0 : w0.heap.size ≠ w.heap.size := Oo
  go_region_held3 (fun w' => w'.cell? ⟨w.heap.size, 0, none⟩ = some (.int .i64 m) ∧ w'.cell? ⟨w.heap.size, 1, none⟩ = some (.slice (some ⟨bx, fx, none⟩) n c)) (go_keep)
   (first
    | (go_at_call 78; refine (qB9 m (some ⟨bx, fx, none⟩) n c _ (by unfold maxLen; omega)).mono ?_; rintro e wd1 ⟨rfl, hbd1⟩; have hd1 : Below w0.heap.size w0 wd1 := (bY1 hbd1); have hsd1 := hd1.size; have hsz1_ := hbd1.size; (try simp at hsz1_); obtain ⟨q1_X0_0, q1_X0_1⟩ := X0.below hd1; have hne1_X0 : wd1.heap.size ≠ w.heap.size := Oo; (try (have RZ := RZ.below hbd1)); (try (have RZ := (show RB2 (w0.alloc (.cells #[.int .i64 0, .slice none 0 0] 26)).drew w0.heap.size (.int .i64 0) (.slice none 0 0) from RB2.mk1 w0 (.int .i64 0) (.slice none 0 0) _).below hbd1)); (try (obtain ⟨⟨z1_0, z1_1⟩, zf1⟩ := id RZ)))
    | (go_at_call 148; refine (qDy m ((n : Int) - 1) n _ rfl hn).mono ?_; rintro e wd2 ⟨vz2, rfl, hod2, hbd2⟩; obtain ⟨oz, cz, rfl⟩ := hod2.shapeN (n := n) (qBm n); have hd2 : Below w0.heap.size w0 wd2 := (bY2 hbd1 hbd2); have hsd2 := hd2.size; have hsz2_ := hbd2.size; (try simp at hsz2_); obtain ⟨q2_X0_0, q2_X0_1⟩ := X0.below hd2; have hne2_X0 : wd2.heap.size ≠ w.heap.size := Oo; (try (have RZ := RZ.below hbd2)); (try (have RZ := (show RB2 (wd1.alloc (.cells #[.int .i64 0, .slice none 0 0] 26)) wd1.heap.size (.int .i64 0) (.slice none 0 0) from RB2.mk1 wd1 (.int .i64 0) (.slice none 0 0) _).below hbd2)); (try (obtain ⟨⟨z2_0, z2_1⟩, zf2⟩ := id RZ))))
  all_goals
   go_wp2_with fail
   go_meet
   refine ⟨_, _, oz, cz, rfl, rfl, ?_, ?_, ?_, ?_, ?_⟩
   ·first | omega | (simp; done) | (simp; omega)
   ·first | exact RB2.mk1 _ _ _ _ | exact RB2.put RZ _ _
   ·first | exact ⟨_, _, hod2.ra _, sz, .inr (nl _), sz⟩ | exact ⟨_, _, hod2.rp2 sz _ _, sz, .inl sz, sz⟩
   ·trivial
   ·(repeat (first | exact bR _ _ | (refine bS ?_ _) | (refine bA ?_ _) | (refine bN ?_ _) | (refine bD ?_) | (refine bT ?_ hbd1) | (refine bT ?_ hbd2)))
 case rest =>
 obtain ⟨w1, b, oz, cz, rfl, rfl, hbW, O, how, hneb, hb⟩ := hcut
 (have X1 := X0.below hb; have Y1 := Y0.below hb; have R1 := R0.below hb; have B1 := B0.trans (hb.mono B0.size))
 obtain ⟨lo, hi, how, hlo, hbo, hhi⟩ := how
 obtain ⟨us, how⟩ := how.named
 obtain ⟨g, rfl, hgl, hgl'⟩ := how.row h1
 rw [tmT_0 m n xss yss] at how
 obtain ⟨x0, x1⟩ := id X1
 go_wp2_with fail
 refine (qB9 m (some ⟨bx, fx, none⟩) n c _ (by unfold maxLen; omega)).mono ?_
 rintro e w2 ⟨rfl, hb2⟩
 (have X2 := X1.below hb2; have Y2 := Y1.below hb2; have R2 := R1.below hb2; have B2 := B1.trans (hb2.mono B1.size))
 have O2 := O.below hb2
 have how2 := how.stay (u' := w2) (fun k _ hk => hb2.block k Oo)
 clear O how x0 x1 hb2
 have B2s := B2.size
 have hlB : w.heap.size + 2 < lo := Oo
 have m0 : (m == 0) = false := by simp; omega
 have m1 : ¬ m = 0 := Oo
 obtain ⟨x0, x1⟩ := id X2
 go_wp2_with fail
 clear x0 x1
 go_loopw [24] (fun s wr => ∃ i : Nat, i ≤ n ∧ s = .int .i64 i ∧ OwSU us lo hi wr (.slice (some ⟨g, 0, none⟩) n cz) (tmT m n xss yss i 0 0 0) ∧ Chg lo hi w2 wr) (fun i _ => n - (intOf i).toNat)
 case atStart => exact ⟨0, Nat.zero_le _, rfl, how2, Chg.refl _ _ _⟩
 case round =>
  obtain ⟨i, hi', rfl, hO, hC⟩ := hrel
  by_cases hlt : i < n
  ·obtain ⟨r1, hr1, hl1, hj1⟩ := HX.out.row hlt; obtain ⟨p1, q1, cx0, rx0⟩ := hv'.row hr1; rw [hl1] at cx0 rx0; obtain ⟨b1, f1, rfl, -⟩ := rx0.cells Oo; have Br := hC.below B2 Oo B2s; have cx := qA0 Br (nl _) cx0; have i0 : (0 : Int) ≤ (i : Int) := Oo; have i1 : (i : Int) < (n : Int) := Oo; have HJ := dd hj1; clear hr1 hl1 hj1 cx0
   go_wp2_with fail
   clear cx
   go_loopw [31] (fun s wr => ∃ j : Nat, j ≤ n - i ∧ s = .int .i64 j ∧ OwSU us lo hi wr (.slice (some ⟨g, 0, none⟩) n cz) (tmT m n xss yss i j 0 0) ∧ Chg lo hi w2 wr) (fun i' _ => n - i - (intOf i').toNat)
   case atStart => exact ⟨0, Nat.zero_le _, rfl, hO, hC⟩
   case round =>
    obtain ⟨j, hj, rfl, hO, hC⟩ := hrel; have Br := hC.below B2 Oo B2s
    by_cases hjl : j < n - i
    ·have ex := (rx0.below Br).cell0 (HJ.out j hjl); obtain ⟨-, -, -, -, hxa, hxb⟩ := HX.out.at (i := i) (j := j) Oo; have j0 : (0 : Int) ≤ (j : Int) := Oo; have j1 : (j : Int) < ((n - i : Nat) : Int) := Oo; cases hx0 : (atT xss i j == 0)
     ·go_wp2_with fail
      clear ex
      go_loopw [11] (fun s wr => ∃ k : Nat, k ≤ n - i - j ∧ s = .int .i64 k ∧ OwSU us lo hi wr (.slice (some ⟨g, 0, none⟩) n cz) (tmT m n xss yss i j k 0) ∧ Chg lo hi w2 wr) (fun i' _ => n - i - j - (intOf i').toNat)
      case atStart => exact ⟨0, Nat.zero_le _, rfl, hO, hC⟩
      case round =>
       obtain ⟨k, hk, rfl, hO, hC⟩ := hrel; have Br := hC.below B2 Oo B2s
       by_cases hkl : k < n - i - j
       ·obtain ⟨r2, hr2, hl2, hj2⟩ := HY.out.row (show k < n by omega); obtain ⟨p2, q2, cy0, ry0⟩ := hu'.row hr2; rw [hl2] at cy0 ry0; obtain ⟨-, -, hq2⟩ := ry0.len; rw [hl2] at hq2; obtain ⟨b2, f2, rfl, -⟩ := ry0.cells Oo; have cy := qA0 Br (nl _) cy0; obtain ⟨y0, y1⟩ := Y2.chg hC Oo; have HJ2 := dd hj2; clear hr2 hl2 hj2 cy0; have k0 : (0 : Int) ≤ (k : Int) := Oo; have k1 : (k : Int) < (n : Int) := Oo; have k2 : (i : Int) + (j : Int) + (k : Int) ≤ (n : Int) - 1 := Oo; have k3 : (0 : Int) ≤ (n : Int) - 1 - (i : Int) - (j : Int) - (k : Int) + 1 := Oo; have k4 : (n : Int) - 1 - (i : Int) - (j : Int) - (k : Int) + 1 ≤ (q2 : Int) := Oo; have k5 : ((n : Int) - 1 - (i : Int) - (j : Int) - (k : Int) + 1).toNat = n - i - j - k := Oo
        go_wp2_with fail
        clear cy y0 y1
        go_loopw [62] (fun s wr => ∃ l : Nat, l ≤ n - i - j - k ∧ s = .int .i64 l ∧ OwSU us lo hi wr (.slice (some ⟨g, 0, none⟩) n cz) (tmT m n xss yss i j k l) ∧ Chg lo hi w2 wr) (fun i' _ => n - i - j - k - (intOf i').toNat)
        case atStart => exact ⟨0, Nat.zero_le _, rfl, hO, hC⟩
        case round =>
         obtain ⟨l, hl, rfl, hO, hC⟩ := hrel; have Br := hC.below B2 Oo B2s
         by_cases hll : l < n - i - j - k
         ·have ey := (ry0.below Br).cell0 (HJ2.out l Oo); obtain ⟨-, -, -, -, hya, hyb⟩ := HY.out.at (i := k) (j := l) Oo; obtain ⟨o3, c3, hu3, cx3, how3, hbl3, hset3⟩ := hO.at (qI_ (show i + k < n by omega)); rw [qFs] at hu3 cx3 how3 hbl3 hset3; obtain ⟨gr, rfl, hgr1, hgr2⟩ := how3.row Oo; have hgr3 := hbl3 gr rfl; have hc0 := how3.cell (k := j + l) (qJT (show i + k + (j + l) < n by omega)); have hf0 := how3.fz (j + l); have hN := dd how3; have hS := dd hset3; clear how3 hset3 hbl3 hu3; obtain ⟨x0, x1⟩ := X2.chg hC Oo; obtain ⟨⟨z0, z1⟩, zf⟩ := O2.chg hC hbo; have l0 : (0 : Int) ≤ (l : Int) := Oo; have l1 : (l : Int) < ((n - i - j - k : Nat) : Int) := Oo; have l2 : (0 : Int) ≤ (i : Int) + (k : Int) := Oo; have l3 : (i : Int) + (k : Int) < (n : Int) := Oo; have l4 : ((i : Int) + (k : Int)).toNat = i + k := Oo; have l5 : (0 : Int) ≤ (j : Int) + (l : Int) := Oo; have l6 : (j : Int) + (l : Int) < ((n - (i + k) : Nat) : Int) := Oo; have l7 : ((j : Int) + (l : Int)).toNat = j + l := Oo; have hM := qA6 (a := atT xss i j * atT yss k l) (show 0 < m by omega); have hCm := qA6 (a := c2P n (atT xss) (atT yss) i j k l (i + k) (j + l)) (show 0 < m by omega); have hMod := qA6 (a := c2P n (atT xss) (atT yss) i j k l (i + k) (j + l) % m + atT xss i j * atT yss k l % m) (show 0 < m by omega)
          go_wp2_with fail
          have e0 : IntKind.i64.wrap ((i : Int) + (k : Int)) = (i : Int) + (k : Int) := IntWalk.i64_in _ Oo; have e3 : IntKind.i64.wrap ((j : Int) + (l : Int)) = (j : Int) + (l : Int) := IntWalk.i64_in _ Oo; have e1 : IntKind.i64.wrap (c2P n (atT xss) (atT yss) i j k l (i + k) (j + l) % m + atT xss i j * atT yss k l % m) = c2P n (atT xss) (atT yss) i j k l (i + k) (j + l) % m + atT xss i j * atT yss k l % m := IntWalk.i64_in _ Oo; have e2 : (c2P n (atT xss) (atT yss) i j k l (i + k) (j + l) % m + atT xss i j * atT yss k l % m).tmod m = (c2P n (atT xss) (atT yss) i j k l (i + k) (j + l) % m + atT xss i j * atT yss k l % m) % m := Int.tmod_eq_emod_of_nonneg Oo; have hd0 : Below wr.heap.size wr wr.drew := (Below.refl _ _).drew; have hsd0 := hd0.size; have f0_a := qA0 hd0 (nl _) x0; have f0_b := qA0 hd0 (nl _) z1; have f0_c := qA0 hd0 (nl _) cx3; have f0_d := qA0 hd0 (nl _) hc0; have f0_e := (hN.out.below hd0).fz (j + l); refine qAv (S := fun w' => w'.cell? ⟨w.heap.size, 0, none⟩ = some (.int .i64 m) ∧ w'.cell? ⟨b, 1, none⟩ = some (.slice (some ⟨g, 0, none⟩) n cz) ∧ w'.cell? ⟨g, i + k, none⟩ = some (.slice (some ⟨gr, 0, none⟩) (n - (i + k)) c3) ∧ w'.cell? ⟨gr, j + l, none⟩ = some (.int .i64 (c2P n (atT xss) (atT yss) i j k l (i + k) (j + l) % m))) [32] kr ?_; refine wKq (by go_keep) fun hHeld => ?_
          refine' tJ 0 hHeld ?_; refine' tJ 1 hHeld ?_; refine' tJ 2 hHeld ?_; refine' tJ 3 hHeld ?_; refine' tJ 4 hHeld ?_; refine' tJ 5 hHeld ?_; refine' tJ 6 hHeld ?_; refine' tJ 7 hHeld ?_; refine' tJ 8 hHeld ?_; refine' tJ 9 hHeld ?_; refine' tJ 10 hHeld ?_; refine' tJ 11 hHeld ?_; refine' tJ 12 hHeld ?_; refine' tJ 13 hHeld ?_; refine' tJ 14 hHeld ?_; refine' tJ 15 hHeld ?_; refine' tJ 16 hHeld ?_; refine' tJ 17 hHeld ?_; refine' tJ 18 hHeld ?_; refine' tJ 19 hHeld ?_; refine' tJ 20 hHeld ?_; refine' tJ 21 hHeld ?_; refine' tJ 22 hHeld ?_; refine' tJ 23 hHeld ?_; refine' tJ 24 hHeld ?_; refine' tJ 25 hHeld ?_; refine' tJ 28 hHeld ?_; refine' tJ 29 hHeld ?_; refine qA1 (i := 26) rfl kr (fun K hK => ?_); go_simp
          go_at_call 145
          refine (qGv m (atT xss i j) (atT yss k l) _ Oo Oo hxa hya hxb hyb).mono ?_; rintro e wd1 ⟨rfl, hbd1⟩; have hd1 : Below wr.heap.size wr wd1 := (bY1 hbd1); have hsd1 := hd1.size; have hsz1_ := hbd1.size
          (try simp at hsz1_)
          have f1_a := qA0 hd1 (nl _) x0; have f1_b := qA0 hd1 (nl _) z1; have f1_c := qA0 hd1 (nl _) cx3; have f1_d := qA0 hd1 (nl _) hc0; have f1_e := (hN.out.below hd1).fz (j + l)
          go_wp2_with fail
          clear hHeld; refine oKq hK (by go_keep) fun hHeld => ?_
          clear hK K
          try simp only [Act.put, sL]
          refine' tJ 27 hHeld ?_; refine' tJ 30 hHeld ?_; refine qA1 (i := 31) rfl kr (fun K hK => ?_); go_simp
          (try go_wp2_with fail)
          refine hK.out _ _ (fun _ => hHeld) ?_; clear hK K
          try simp only [Act.put, sL]
          refine qA1 (i := 32) rfl kr (fun K hK => ?_); go_simp
          (try go_wp2_with fail)
          refine hK.out _ _ (nD ·) ?_; clear hK K
          try simp only [Act.put, sL]
          refine qAT kr ?_ _
          go_wp2_with fail
          have hg0 := qAw (qIK (World.grownBy.refl wr (some gr)) hd1) (j + l) (.int .i64 ((c2P n (atT xss) (atT yss) i j k l (i + k) (j + l) % m + atT xss i j * atT yss k l % m) % m)); have hOn := hS.out _ _ (by rw [List.length_set, qFs]) hg0 ((hN.out.below hd1).put (j + l) _); have hCn := hC.grown hg0 hgr3.1 hgr3.2.1; rw [← Int.add_emod, qIl Oo] at hOn; rw [← Int.add_emod] at hCn; exact ⟨⟨l + 1, Oo, by go_num, hOn, hCn⟩, by simp [intOf]; omega⟩
         ·obtain rfl : l = n - i - j - k := Oo; rw [qKP Oo] at hO; go_wp2; exact ⟨⟨k + 1, Oo, by go_num, hO, hC⟩, by simp [intOf]; omega⟩
       ·obtain rfl : k = n - i - j := Oo; rw [qGc (.inl Oo)] at hO; have k2 : ¬ (i : Int) + (j : Int) + ((n - i - j : Nat) : Int) ≤ (n : Int) - 1 := Oo; go_wp2; exact ⟨⟨j + 1, Oo, by go_num, hO, hC⟩, by simp [intOf]; omega⟩
     ·rw [qGc (.inr (by simpa using hx0))] at hO; go_wp2; exact ⟨⟨j + 1, Oo, by go_num, hO, hC⟩, by simp [intOf]; omega⟩
    ·obtain rfl : j = n - i := Oo; rw [qKs rfl] at hO; go_wp2; exact ⟨⟨i + 1, Oo, by go_num, hO, hC⟩, by simp [intOf]; omega⟩
  ·obtain rfl : i = n := Oo; rw [qIu] at hO; obtain ⟨⟨z0, z1⟩, zf⟩ := O2.chg hC hbo; obtain ⟨⟨r0, r1⟩, rf⟩ := R2.chg hC (.inl hlB); have Br := hC.below B2 Oo B2s; go_wp2; refine bodyPost_ret (v := .agg #[.int .i64 m, .slice (some ⟨g, 0, none⟩) i cz]) (by simp [results, Tryz.results131, go_sem, r0, r1]) rfl ⟨_, rfl, ?_, ?_⟩
   ·exact ((hO.r.ow.low hlB _).low hlB _).mono Oo
   ·(repeat (first | exact bR _ _ | (refine bS ?_ _) | (refine bA ?_ _) | (refine bN ?_ _) | (refine bD ?_) | (refine bT ?_ Br)))


def qCs (n : Nat) (g : Nat → Nat → Int) (i j : Nat) : Tb := tri n (fun a b => if b < i ∨ (b = i ∧ a < j) then g b a else 0)
theorem qOg (n : Nat) (g : Nat → Nat → Int) : qAb n = qCs n g 0 0 := qAE fun i j _ => by simp
def qFl (n : Nat) (g : Nat → Nat → Int) (i j : Nat) : Li := mk (n - j) (fun b => if b < i then g b j else 0)
theorem qLD (n : Nat) (g : Nat → Nat → Int) (i j : Nat) : (qFl n g i j).length = n - j := qA8 _ _
theorem qOt {n : Nat} {g : Nat → Nat → Int} {i j : Nat} (h : j < n) : (qCs n g i j)[j]? = some (qFl n g i j) := by
 unfold qCs; rw [qAp h]; congr 1; exact qAh fun b _ => by simp
theorem qMf {n : Nat} {g : Nat → Nat → Int} {i j : Nat} (h : i + j < n) : (qCs n g i j).set j ((qFl n g i j).set i (g i j)) = qCs n g i (j + 1) := by
 have e : qFl n g i j = mk (n - j) ((fun a b => if b < i ∨ (b = i ∧ a < j) then g b a else 0) j) := qAh fun b _ => by simp
 unfold qCs
 rw [e, qBp Oo]
 refine qAE fun a b hab => ?_
 by_cases e1 : a = j ∧ b = i
 ·obtain ⟨rfl, rfl⟩ := e1; simp
 ·rw [if_neg e1]
  by_cases e2 : b < i ∨ (b = i ∧ a < j)
  ·rw [if_pos e2, if_pos Oo]
  ·rw [if_neg e2, if_neg Oo]
theorem qQj {n : Nat} {g : Nat → Nat → Int} {i : Nat} : qCs n g i (n - i) = qCs n g (i + 1) 0 := qAE fun a b hab => by
 by_cases e : b < i ∨ (b = i ∧ a < n - i)
 ·rw [if_pos e, if_pos Oo]
 ·rw [if_neg e, if_neg Oo]
theorem qQp (n : Nat) (g : Nat → Nat → Int) : qCs n g n 0 = tri n (fun i j => g j i) := qAE fun a b hab => by rw [if_pos Oo]
theorem qOU {m : Int} {n : Nat} {t : Tb} (h : PlaT m n t) : qCs n (atT t) n 0 = qFV m t := by
 rw [qQp]
 unfold qFV
 rw [h.1]
 refine qAE fun i j hij => ?_
 obtain ⟨_, _, _, _, h1, h2⟩ := h.at (i := j) (j := i) Oo
 exact (Int.emod_eq_of_lt h1 h2).symm

theorem qQB (m : Int) (n : Nat) (v : Value) (xss : Tb) (w : World) (hv : RdT w v xss) (h1 : 1 ≤ n) (hn : n ≤ 1000) (hx : PlaT m n xss) :
  Calls Tryz.prog 207 #[v] w fun e w' => ∃ v', e = .returned v' ∧ OwS w' w.heap.size v' (qFV m xss) ∧ Below w.heap.size w w' := by
 obtain ⟨o, c, rfl, hmx, -⟩ := id hv
 rw [hx.1] at hmx ⊢
 unfold maxLen at hmx
 have hv' : RdT w (.slice o n c) xss := by rw [hx.1] at hv; exact hv
 clear hv
 have HX := dd hx
 have hxl := hx.1
 clear hx
 obtain ⟨bx, fx, rfl, -⟩ := hv'.rows Oo
 clear hxl
 go_enter Tryz.func207, Tryz.ntmps207
 go_wp2_with (go_at_call 157; refine (qCL ((n : Int) - 1) n _ rfl hn).mono ?_; rintro e w2 ⟨vz, rfl, how, B2⟩; obtain ⟨oz, cz, rfl⟩ := how.shapeN (n := n) (qBm n))
 have how := how.toR
 obtain ⟨hi, hhi⟩ : ∃ hi, w2.heap.size = hi := ⟨_, rfl⟩
 rw [hhi] at how
 obtain ⟨us, how⟩ := how.named
 obtain ⟨g, rfl, hgl, hgl'⟩ := how.row h1
 rw [qOg n (atT xss)] at how
 have B2s := B2.size
 go_loopw [4] (fun s wr => ∃ i : Nat, i ≤ n ∧ s = .int .i64 i ∧ OwSU us w.heap.size hi wr (.slice (some ⟨g, 0, none⟩) n cz) (qCs n (atT xss) i 0) ∧ Chg w.heap.size hi w2 wr) (fun i _ => n - (intOf i).toNat)
 case atStart => exact ⟨0, Nat.zero_le _, rfl, how, Chg.refl _ _ _⟩
 case round =>
  obtain ⟨i, hi', rfl, hO, hC⟩ := hrel
  by_cases hlt : i < n
  ·obtain ⟨r1, hr1, hl1, hj1⟩ := HX.out.row hlt; obtain ⟨p1, q1, cx0, rx0⟩ := hv'.row hr1; rw [hl1] at cx0 rx0; obtain ⟨b1, f1, rfl, -⟩ := rx0.cells Oo; have i0 : (0 : Int) ≤ (i : Int) := Oo; have i1 : (i : Int) < (n : Int) := Oo; have HJ := dd hj1; clear hr1 hl1 hj1
   go_wp2_with fail
   go_loopw [5] (fun s wr => ∃ j : Nat, j ≤ n - i ∧ s = .int .i64 j ∧ OwSU us w.heap.size hi wr (.slice (some ⟨g, 0, none⟩) n cz) (qCs n (atT xss) i j) ∧ Chg w.heap.size hi w2 wr) (fun i' _ => n - i - (intOf i').toNat)
   case atStart => exact ⟨0, Nat.zero_le _, rfl, hO, hC⟩
   case round =>
    obtain ⟨j, hj, rfl, hO, hC⟩ := hrel; have Br := hC.below B2 Oo B2s; have cx := qA0 Br (nl _) cx0
    by_cases hjl : j < n - i
    ·have ex := (rx0.below Br).cell0 (HJ.out j hjl); obtain ⟨o2, c2', hu2, cx2, how2, hbl2, hset2⟩ := hO.at (qOt (show j < n by omega)); rw [qLD] at hu2 cx2 how2 hbl2 hset2; obtain ⟨gr, rfl, hgr1, hgr2⟩ := how2.row Oo; have hgr3 := hbl2 gr rfl; have HS2 := dd hset2; clear hu2 hbl2 hset2; have hc0 := how2.cell (k := i) (x := 0) (by unfold qFl; rw [qAy Oo]; simp); have hf0 := how2.fz i; have Hn := dd how2; clear how2; have j0 : (0 : Int) ≤ (j : Int) := Oo; have j1 : (j : Int) < ((n - i : Nat) : Int) := Oo; have j2 : (j : Int) < (n : Int) := Oo; have j3 : (i : Int) < ((n - j : Nat) : Int) := Oo
     go_wp2_with fail
     have hO3 := HS2.out _ _ (by rw [List.length_set, qLD]) (qAw (World.grownBy.refl wr (some gr)) i (.int .i64 (atT xss i j))) (Hn.out.put i (atT xss i j)); rw [qMf Oo] at hO3; have hC3 := hC.grown (qBx wr gr i (.int .i64 (atT xss i j))) hgr3.1 hgr3.2.1; exact ⟨⟨j + 1, Oo, by go_num, hO3, hC3⟩, by simp [intOf]; omega⟩
    ·obtain rfl : j = n - i := Oo; rw [qQj] at hO; go_wp2; exact ⟨⟨i + 1, Oo, by go_num, hO, hC⟩, by simp [intOf]; omega⟩
  ·obtain rfl : i = n := Oo; rw [qOU HX.out] at hO; have Br := hC.below B2 Oo B2s; go_wp2; go_ret; exact ⟨_, rfl, hO.r.ow, Br⟩


theorem Rds.dwS {lo hi : Nat} {B n b : Nat} {w w' : World} {R : World → Prop} (h : Rds lo hi w R) (hd : DW B n b w w') (hb : b < lo) : Rds lo hi w' R :=
 ⟨Nat.le_trans h.1 hd.size, fun u hu => h.2 u (fun k h1 h2 => (hu k h1 h2).trans (hd.chg.block k (Nat.lt_of_lt_of_le h2 h.1) (.inr Oo)))⟩
theorem Rds.weak {lo lo' hi : Nat} {w : World} {R : World → Prop} (h : Rds lo hi w R) (hl : lo' ≤ lo) : Rds lo' hi w R := ⟨h.1, fun u hu => h.2 u (fun k h1 h2 => hu k Oo h2)⟩
end Go.Proofs.YtfpphfjlpgefaaaGreat
