/- Lemmas. -/
import Derived.Test.YtfpphfjlpgefaaaGreatqM3
import Derived.Test.YtfpphfjlpgefaaaGreatqM13
import Derived.Test.YtfpphfjlpgefaaaGreatqG2
import Derived.Test.YtfpphfjlpgefaaaGreatqSerC
import Derived.Test.YtfpphfjlpgefaaaGreatqM6
import Derived.Test.YtfpphfjlpgefaaaGreatqG1
set_option maxHeartbeats 4000000
set_option maxRecDepth 100000
set_option linter.unusedSimpArgs false
set_option linter.unusedVariables false
namespace Go.Proofs.YtfpphfjlpgefaaaGreat
open Go.RowKit

def PEnd3 (w w' : World) (m : Int) (xs : Tb) (c : Int) (e : Ending) : Prop :=
 ∃ v', e = .returned (.tuple #[.agg #[.int .i64 m, v'], .int .i64 c]) ∧ OwS w' w.heap.size v' xs ∧ Below w.heap.size w w' ∧ qBu xs ≤ 1048576
theorem qEe {P : Program} {f : FuncId} {args : Array Value} {w : World} {m : Int} {xs : Tb} {c : Int} (h : Calls P f args w fun e w' => qE4 w w' ⟨m, xs, c⟩ e) : Calls P f args w fun e w' => PEnd3 w w' m xs c e := h
theorem qPK (v u : Value) (xss : Tb) (w : World) (hv : RdT w v xss) (hu : RdT w u xss) :
  Calls Tryz.prog 59 #[v, u] w fun e w' => e = .returned (.bool true) ∧ ∃ n, w' = w.drewN n := by
 obtain ⟨o, c, rfl, hm, -⟩ := id hv
 obtain ⟨o', c', rfl, hm', -⟩ := id hu
 unfold maxLen at hm hm'
 have hne : (((xss.length:Nat):Int) != ((xss.length:Nat):Int)) = false := by simp
 go_enter Tryz.func59, Tryz.ntmps59
 go_wp2
 go_loopw [5] (fun i wr => ∃ k : Nat, k ≤ xss.length ∧ i = .int .i64 k ∧ ∃ n, wr = w.drewN n) (fun i _ => xss.length - (intOf i).toNat)
 case atStart => exact ⟨0, Nat.zero_le _, rfl, 0, rfl⟩
 case round =>
  obtain ⟨k, hk, rfl, n, rfl⟩ := hrel
  by_cases hlt : k < xss.length
  ·obtain ⟨b, off, rfl, -⟩ := hv.rows Oo; obtain ⟨b', off', rfl, -⟩ := hu.rows Oo; obtain ⟨o1, c1, hx, hr⟩ := hv.row (show xss[k]? = some xss[k] by simp [hlt]); obtain ⟨o2, c2, hy, hs⟩ := hu.row (show xss[k]? = some xss[k] by simp [hlt]); go_wp2
   go_quiet ((go_at_call 9; (first | exact qDM (by rw [qEd]) (qEo _ _ xss[k] xss[k] _ hr hs) | exact qDJ (by rw [qEd]) (qEo _ _ xss[k] xss[k] _ hr hs) | exact qDN (by rw [qEd]) (qEo _ _ xss[k] xss[k] _ hr hs) | exact qDL (by rw [qEd]) (qEo _ _ xss[k] xss[k] _ hr hs))))
   go_wp2; exact ⟨⟨k + 1, Oo, by go_num, _, rfl⟩, by simp [intOf]; omega⟩
  ·go_wp2; go_ret; exact ⟨rfl, n, rfl⟩

theorem qGG (m : Int) (v u : Value) (xs : Tb) (w : World) (hv : RdT w v xs) (hu : RdT w u xs) :
  Calls Tryz.prog 25 #[.agg #[.int .i64 m, v], .agg #[.int .i64 m, u]] w fun e w' => e = .returned (.bool true) ∧ Below w.heap.size w w' := by
 go_enter Tryz.func25, Tryz.ntmps25
 go_wp2_with fail
 have hb : Below w.heap.size w ((w.alloc (.cells #[.int .i64 m, v] 26)).alloc (.cells #[.int .i64 m, u] 26)) := bZ
 refine (qPK _ _ xs _ (hv.below hb) (hu.below hb)).mono ?_
 rintro e w1 ⟨rfl, d, rfl⟩
 go_wp2
 go_ret
 exact ⟨rfl, below_drewN hb d⟩


def qCd (m a : Int) (n : Nat) : Tb := tri n (fun i j => if i = 0 ∧ j = 0 then a % m else 0)
theorem qFS (m a : Int) (n : Nat) : (qCd m a n).length = n := qA9 _ _
theorem qON {m : Int} (hm : 0 < m) (a : Int) (n : Nat) : PlaT m n (qCd m a n) := qB2 fun i j _ => by
 split
 ·exact qA6 hm
 ·omega
theorem qJO (m : Int) (n : Nat) : qCd m 0 n = qAb n := qAE fun i j _ => by split <;> simp
theorem qJN {n i : Nat} (h : i < n) : (qAb n)[i]? = some (mk (n - i) (fun _ => 0)) := qAp h
theorem qMs {n : Nat} (h : 0 < n) (m a : Int) : (qAb n).set 0 ((mk (n - 0) (fun _ => 0)).set 0 (a % m)) = qCd m a n := qBp (f := fun _ _ => 0) Oo

theorem qGx (m a : Int) (o : Option Addr) (n c : Nat) (w : World) (h1 : 1 ≤ n) (hn : n ≤ 1000) (hm : 2 ≤ m) (hm' : m ≤ 1000000000000) (ha : -9000000000000000000 ≤ a) (ha' : a ≤ 9000000000000000000) :
  Calls Tryz.prog 130 #[.agg #[.int .i64 m, .slice o n c], .int .i64 a] w fun e w' => qC9 w w' m (qCd m a n) e := by
 go_enter Tryz.func130, Tryz.ntmps130
 go_wp2_with fail
 (obtain ⟨w0, hw0⟩ : ∃ W : World, W = ((w.alloc (.cells #[.int .i64 m, .slice o n c] 26)).alloc (.cells #[.int .i64 0, .slice none 0 0] 26)) := ⟨_, rfl⟩; have X0 := (RB2.mk1 w  (.int .i64 m) (.slice o n c) 26).1.below (w' := w0) (bV hw0) (nl _); have R0 := (RB2.mk2 w (.cells #[.int .i64 m, .slice o n c] 26) (.int .i64 0) (.slice none 0 0) 26).below (w' := w0) (bV hw0) (nl _); have B0 : Below w.heap.size w w0 := (bV hw0); rw [← hw0]; clear hw0)
 have hzl : w.heap.size + 1 < w0.heap.size := R0.1.lt
 go_cut [5] (fun sb u => ∃ (wz : World) (b : Nat) (oz : Option Addr) (cz : Nat), wz = u ∧ sb = .pointer (some ⟨b, 0, none⟩) ∧ w0.heap.size ≤ b ∧ RB2 u b (.int .i64 m) (.slice oz n cz) ∧ (∃ lo hi, OwSR lo hi u (.slice oz n cz) (qAb n) ∧ w0.heap.size ≤ lo ∧ (b < lo ∨ hi ≤ b) ∧ hi ≤ u.heap.size) ∧ True ∧ Below w0.heap.size w0 u)
 case first =>
  have hd0 : Below w0.heap.size w0 w0.drew := (Below.refl _ _).drew; have hsd0 := hd0.size; have hlb_X0 := X0.lt; obtain ⟨q0_X0_0, q0_X0_1⟩ := X0.below (Below.refl w0.heap.size w0) (nl _); have hne0_X0 : w0.heap.size ≠ w.heap.size := Oo
  go_region_held3 (fun w' => w'.cell? ⟨w.heap.size, 0, none⟩ = some (.int .i64 m) ∧ w'.cell? ⟨w.heap.size, 1, none⟩ = some (.slice o n c)) (go_keep)
   (first
    | (go_at_call 78; refine (qB9 m o n c _ (by unfold maxLen; omega)).mono ?_; rintro e wd1 ⟨rfl, hbd1⟩; have hd1 : Below w0.heap.size w0 wd1 := (bY1 hbd1); have hsd1 := hd1.size; have hsz1_ := hbd1.size; (try simp at hsz1_); obtain ⟨q1_X0_0, q1_X0_1⟩ := X0.below hd1; have hne1_X0 : wd1.heap.size ≠ w.heap.size := Oo; (try (have RZ := RZ.below hbd1)); (try (have RZ := (show RB2 (w0.alloc (.cells #[.int .i64 0, .slice none 0 0] 26)).drew w0.heap.size (.int .i64 0) (.slice none 0 0) from RB2.mk1 w0 (.int .i64 0) (.slice none 0 0) _).below hbd1)); (try (obtain ⟨⟨z1_0, z1_1⟩, zf1⟩ := id RZ)))
    | (go_at_call 148; refine (qDy m ((n : Int) - 1) n _ rfl hn).mono ?_; rintro e wd2 ⟨vz2, rfl, hod2, hbd2⟩; obtain ⟨oz, cz, rfl⟩ := hod2.shapeN (n := n) (qBm n); have hd2 : Below w0.heap.size w0 wd2 := (bY2 hbd1 hbd2); have hsd2 := hd2.size; have hsz2_ := hbd2.size; (try simp at hsz2_); obtain ⟨q2_X0_0, q2_X0_1⟩ := X0.below hd2; have hne2_X0 : wd2.heap.size ≠ w.heap.size := Oo; (try (have RZ := RZ.below hbd2)); (try (have RZ := (show RB2 (wd1.alloc (.cells #[.int .i64 0, .slice none 0 0] 26)) wd1.heap.size (.int .i64 0) (.slice none 0 0) from RB2.mk1 wd1 (.int .i64 0) (.slice none 0 0) _).below hbd2)); (try (obtain ⟨⟨z2_0, z2_1⟩, zf2⟩ := id RZ))))
  all_goals
   go_wp2_with fail
   go_meet
   refine ⟨_, _, oz, cz, rfl, rfl, ?_, ?_, ?_, ?_, ?_⟩
   ·first | omega | (simp; done) | (simp; omega)
   ·first | exact RB2.mk1 _ _ _ _ | exact RB2.put RZ _ _
   ·first | exact ⟨_, _, hod2.ra _, sz, .inr (nl _), sz⟩ | exact ⟨_, _, hod2.rp2 sz _ _, sz, .inl sz, sz⟩
   ·trivial
   ·(repeat (first | exact bR _ _ | (refine bS ?_ _) | (refine bA ?_ _) | (refine bN ?_ _) | (refine bD ?_) | (refine bT ?_ hbd1) | (refine bT ?_ hbd2)))
 case rest =>
 obtain ⟨w1, b, oz, cz, rfl, rfl, hbW, O, how, hneb, hb⟩ := hcut
 (have X1 := X0.below hb; have R1 := R0.below hb; have B1 := B0.trans (hb.mono B0.size))
 obtain ⟨lo, hi, how, hlo, hbo, hhi⟩ := how
 obtain ⟨us, how⟩ := how.named
 obtain ⟨g, rfl, hgl, hgl'⟩ := how.row h1
 obtain ⟨o1, c1, hu1, cx1, how1, hbl1, hset1⟩ := how.at (qJN (show 0 < n by omega))
 rw [qA8] at cx1 how1 hbl1 hset1 hu1
 obtain ⟨gr, rfl, hgr1, hgr2⟩ := how1.row Oo
 have hgr3 := hbl1 gr rfl
 have hc0 := how1.cell (k := 0) (qAy (show 0 < n - 0 by omega))
 have hf0 := how1.fz 0
 have Hn := dd how1
 have HS := dd hset1
 clear how1 hset1 hbl1 hu1
 have B1s := B1.size
 have hlB : w.heap.size + 1 < lo := Oo
 obtain ⟨x0, x1⟩ := id X1
 obtain ⟨⟨z0, z1⟩, zf⟩ := id O
 have i1 : (0 : Int) < ((n - 0 : Nat) : Int) := Oo
 have i2 : (0 : Int) < (n : Int) := Oo
 have i3 : 0 < n := Oo
 go_wp2_with fail
 go_still_tail 9, kr
 still_call (qFe (qBl _ _ _ Oo Oo Oo Oo))
 repeat still_step
 refine wpStill_nil ?_
 change wpList _ _ _ _ _ w1.drew
 have hg0 := qAw (World.grownBy.refl w1 (some gr)) 0 (.int .i64 (a % m))
 have hO := HS.out _ _ (by rw [List.length_set, qA8]) hg0 (Hn.out.put 0 (a % m))
 rw [qMs h1] at hO
 have hC := (Chg.refl lo hi w1).grown hg0 hgr3.1 hgr3.2.1
 obtain ⟨⟨p0, p1⟩, pf⟩ := O.chg hC hbo
 obtain ⟨⟨r0, r1⟩, rf⟩ := R1.chg hC (.inl hlB)
 have Br := hC.below B1 Oo B1s
 clear cx1 x0 x1 z0 z1 zf
 go_wp2
 refine bodyPost_ret (v := .agg #[.int .i64 m, .slice (some ⟨g, 0, none⟩) n cz]) (by simp [results, Tryz.results130, go_sem, r0, r1]) rfl ⟨_, rfl, ?_, ?_⟩
 ·exact ((hO.r.ow.low hlB _).low hlB _).mono Oo
 ·(repeat (first | exact bR _ _ | (refine bS ?_ _) | (refine bA ?_ _) | (refine bN ?_ _) | (refine bD ?_) | (refine bT ?_ B1)))


theorem qDX (m : Int) (n : Nat) (v u : Value) (xss yss : Tb) (w : World) (hv : RdT w v xss) (hu : RdT w u yss) (h1 : 1 ≤ n) (hn : n ≤ 1000) (hm : 2 ≤ m) (hm' : m ≤ 3000000000)
  (hx : PlaT m n xss) (hy : PlaT m n yss) :
  Calls Tryz.prog 158 #[.int .i64 m, v, u] w fun e w' => ∃ v', e = .returned v' ∧ OwS w' w.heap.size v' (qAO m n xss yss) ∧ Below w.heap.size w w' := by
 obtain ⟨o, c, rfl, hmx, -⟩ := id hv
 obtain ⟨o', c', rfl, hmy, -⟩ := id hu
 rw [hx.1] at hmx ⊢
 rw [hy.1] at hmy ⊢
 unfold maxLen at hmx hmy
 have hv' : RdT w (.slice o n c) xss := by rw [hx.1] at hv; exact hv
 have hu' : RdT w (.slice o' n c') yss := by rw [hy.1] at hu; exact hu
 clear hv hu
 have HX := dd hx
 have HY := dd hy
 have hxl := hx.1
 have hyl := hy.1
 clear hx hy
 obtain ⟨bx, fx, rfl, -⟩ := hv'.rows Oo
 obtain ⟨by', fy, rfl, -⟩ := hu'.rows Oo
 clear hxl hyl
 have m0 : (m == 0) = false := by simp; omega
 have m1 : ¬ m = 0 := Oo
 go_enter Tryz.func158, Tryz.ntmps158
 go_wp2_with (go_at_call 157; refine (qCL ((n : Int) - 1) n _ rfl hn).mono ?_; rintro e w2 ⟨vz, rfl, how, B2⟩; obtain ⟨oz, cz, rfl⟩ := how.shapeN (n := n) (qBm n))
 have how := how.toR
 obtain ⟨hi, hhi⟩ : ∃ hi, w2.heap.size = hi := ⟨_, rfl⟩
 rw [hhi] at how
 obtain ⟨us, how⟩ := how.named
 obtain ⟨g, rfl, hgl, hgl'⟩ := how.row h1
 rw [tmT_0 m n xss yss] at how
 have B2s := B2.size
 go_loopw [9] (fun s wr => ∃ i : Nat, i ≤ n ∧ s = .int .i64 i ∧ OwSU us w.heap.size hi wr (.slice (some ⟨g, 0, none⟩) n cz) (tmT m n xss yss i 0 0 0) ∧ Chg w.heap.size hi w2 wr) (fun i _ => n - (intOf i).toNat)
 case atStart => exact ⟨0, Nat.zero_le _, rfl, how, Chg.refl _ _ _⟩
 case round =>
  obtain ⟨i, hi', rfl, hO, hC⟩ := hrel
  by_cases hlt : i < n
  ·obtain ⟨r1, hr1, hl1, hj1⟩ := HX.out.row hlt; obtain ⟨p1, q1, cx0, rx0⟩ := hv'.row hr1; rw [hl1] at cx0 rx0; obtain ⟨b1, f1, rfl, -⟩ := rx0.cells Oo; have i0 : (0 : Int) ≤ (i : Int) := Oo; have i1 : (i : Int) < (n : Int) := Oo; have HJ := dd hj1; clear hr1 hl1 hj1
   go_wp2_with fail
   go_loopw [10] (fun s wr => ∃ j : Nat, j ≤ n - i ∧ s = .int .i64 j ∧ OwSU us w.heap.size hi wr (.slice (some ⟨g, 0, none⟩) n cz) (tmT m n xss yss i j 0 0) ∧ Chg w.heap.size hi w2 wr) (fun i' _ => n - i - (intOf i').toNat)
   case atStart => exact ⟨0, Nat.zero_le _, rfl, hO, hC⟩
   case round =>
    obtain ⟨j, hj, rfl, hO, hC⟩ := hrel; have Br := hC.below B2 Oo B2s
    by_cases hjl : j < n - i
    ·have ex := (rx0.below Br).cell0 (HJ.out j hjl); have cx := qA0 Br (nl _) cx0; obtain ⟨-, -, -, -, hxa, hxb⟩ := HX.out.at (i := i) (j := j) Oo; have j0 : (0 : Int) ≤ (j : Int) := Oo; have j1 : (j : Int) < ((n - i : Nat) : Int) := Oo; have j2 : (i : Int) + (j : Int) < (n : Int) := Oo; cases hx0 : (atT xss i j == 0)
     ·go_wp2_with fail
      clear ex cx
      go_loopw [11] (fun s wr => ∃ k : Nat, k ≤ n - i - j ∧ s = .int .i64 k ∧ OwSU us w.heap.size hi wr (.slice (some ⟨g, 0, none⟩) n cz) (tmT m n xss yss i j k 0) ∧ Chg w.heap.size hi w2 wr) (fun i' _ => n - i - j - (intOf i').toNat)
      case atStart => exact ⟨0, Nat.zero_le _, rfl, hO, hC⟩
      case round =>
       obtain ⟨k, hk, rfl, hO, hC⟩ := hrel; have Br := hC.below B2 Oo B2s
       by_cases hkl : k < n - i - j
       ·obtain ⟨r2, hr2, hl2, hj2⟩ := HY.out.row (show k < n by omega); obtain ⟨p2, q2, cy0, ry0⟩ := hu'.row hr2; rw [hl2] at cy0 ry0; obtain ⟨b2, f2, rfl, -⟩ := ry0.cells Oo; have cy := qA0 Br (nl _) cy0; have HJ2 := dd hj2; clear hr2 hl2 hj2 cy0; obtain ⟨o3, c3, hu3, cx3, how3, hbl3, -⟩ := hO.at (qI_ (show i + k < n by omega)); rw [qFs] at hu3 cx3 how3 hbl3; obtain ⟨gr, rfl, hgr1, hgr2⟩ := how3.row Oo; have hgr3 := hbl3 gr rfl; have HU3 := dd hu3; clear how3 hbl3 hu3; have k0 : (0 : Int) ≤ (k : Int) := Oo; have k1 : (k : Int) < (n : Int) := Oo; have k2 : (i : Int) + (j : Int) + (k : Int) < (n : Int) := Oo; have k3 : (0 : Int) ≤ (i : Int) + (k : Int) := Oo; have k4 : (i : Int) + (k : Int) < (n : Int) := Oo; have k5 : ((i : Int) + (k : Int)).toNat = i + k := Oo
        go_wp2_with fail
        have e0 : IntKind.i64.wrap ((i : Int) + (k : Int)) = (i : Int) + (k : Int) := IntWalk.i64_in _ Oo
        go_quiet (fail)
        clear cy cx3 e0
        go_wp2_with fail
        go_loopw [14] (fun s wr => ∃ l : Nat, l ≤ n - i - j - k ∧ s = .int .i64 l ∧ OwSU us w.heap.size hi wr (.slice (some ⟨g, 0, none⟩) n cz) (tmT m n xss yss i j k l) ∧ Chg w.heap.size hi w2 wr) (fun i' _ => n - i - j - k - (intOf i').toNat)
        case atStart => exact ⟨0, Nat.zero_le _, rfl, hO, hC.drewN _⟩
        case round =>
         obtain ⟨l, hl, rfl, hO, hC⟩ := hrel; have Br := hC.below B2 Oo B2s
         by_cases hll : l < n - i - j - k
         ·have ey := (ry0.below Br).cell0 (HJ2.out l Oo); have ex := (rx0.below Br).cell0 (HJ.out j hjl); have cx := qA0 Br (nl _) cx0; obtain ⟨-, -, -, -, hya, hyb⟩ := HY.out.at (i := k) (j := l) Oo; obtain ⟨o4, c4, hu4, -, how3, -, hset3⟩ := hO.at (qI_ (show i + k < n by omega)); rw [qFs] at hu4 how3 hset3; obtain ⟨rfl, rfl⟩ : some ⟨gr, 0, none⟩ = o4 ∧ c3 = c4 := by rw [HU3.out] at hu4; simpa using hu4
          have hc0 := how3.cell (k := j + l) (qJT (show i + k + (j + l) < n by omega)); have hf0 := how3.fz (j + l); have hN := dd how3; have hS := dd hset3; clear how3 hset3 hu4; have l0 : (0 : Int) ≤ (l : Int) := Oo; have l1 : (l : Int) < ((n - k : Nat) : Int) := Oo; have l2 : (i : Int) + (j : Int) + (k : Int) + (l : Int) < (n : Int) := Oo; have l5 : (0 : Int) ≤ (j : Int) + (l : Int) := Oo; have l6 : (j : Int) + (l : Int) < ((n - (i + k) : Nat) : Int) := Oo; have l7 : ((j : Int) + (l : Int)).toNat = j + l := Oo; obtain ⟨hM0, hM1⟩ := qCY hxa hya hxb hyb hm'; have hCm := qA6 (a := c2P n (atT xss) (atT yss) i j k l (i + k) (j + l)) (show 0 < m by omega); have hMod := qA6 (a := c2P n (atT xss) (atT yss) i j k l (i + k) (j + l) % m + atT xss i j * atT yss k l) (show 0 < m by omega)
          go_wp2_with fail
          have e0 : IntKind.i64.wrap ((j : Int) + (l : Int)) = (j : Int) + (l : Int) := IntWalk.i64_in _ Oo; have e3 : IntKind.i64.wrap (atT xss i j * atT yss k l) = atT xss i j * atT yss k l := IntWalk.i64_in _ Oo; have e1 : IntKind.i64.wrap (c2P n (atT xss) (atT yss) i j k l (i + k) (j + l) % m + atT xss i j * atT yss k l) = c2P n (atT xss) (atT yss) i j k l (i + k) (j + l) % m + atT xss i j * atT yss k l := IntWalk.i64_in _ Oo; have e2 : (c2P n (atT xss) (atT yss) i j k l (i + k) (j + l) % m + atT xss i j * atT yss k l).tmod m = (c2P n (atT xss) (atT yss) i j k l (i + k) (j + l) % m + atT xss i j * atT yss k l) % m := Int.tmod_eq_emod_of_nonneg Oo
          go_still_tail 26, kr
          change wpList _ _ _ _ _ wr.drew
          have HE := dd (show (c2P n (atT xss) (atT yss) i j k l (i + k) (j + l) % m + atT xss i j * atT yss k l) % m = (c2P n (atT xss) (atT yss) i j k l (i + k) (j + l) + atT xss i j * atT yss k l) % m by rw [Int.add_emod, Int.emod_emod_of_dvd _ (Int.dvd_refl m), ← Int.add_emod]); have hg0 := qAw (qE0 (World.grownBy.refl wr (some gr)) 1) (j + l) (.int .i64 ((c2P n (atT xss) (atT yss) i j k l (i + k) (j + l) % m + atT xss i j * atT yss k l) % m)); have hOn := hS.out _ _ (by rw [List.length_set, qFs]) hg0 ((hN.out.drewN 1).put (j + l) _); have hCn := hC.grown hg0 hgr3.1 hgr3.2.1; rw [HE.out, qIl Oo] at hOn; rw [HE.out] at hCn; go_wp2; exact ⟨⟨l + 1, Oo, by go_num, hOn, hCn⟩, by simp [intOf]; omega⟩
         ·obtain rfl : l = n - i - j - k := Oo; rw [qKP Oo] at hO; have l2 : ¬ (i : Int) + (j : Int) + (k : Int) + ((n - i - j - k : Nat) : Int) < (n : Int) := Oo; go_wp2; exact ⟨⟨k + 1, Oo, by go_num, hO, hC⟩, by simp [intOf]; omega⟩
       ·obtain rfl : k = n - i - j := Oo; rw [qGc (.inl Oo)] at hO; have k2 : ¬ (i : Int) + (j : Int) + ((n - i - j : Nat) : Int) < (n : Int) := Oo; go_wp2; exact ⟨⟨j + 1, Oo, by go_num, hO, hC⟩, by simp [intOf]; omega⟩
     ·rw [qGc (.inr (by simpa using hx0))] at hO; go_wp2; exact ⟨⟨j + 1, Oo, by go_num, hO, hC⟩, by simp [intOf]; omega⟩
    ·obtain rfl : j = n - i := Oo; rw [qKs rfl] at hO; have j2 : ¬ (i : Int) + ((n - i : Nat) : Int) < (n : Int) := Oo; go_wp2; exact ⟨⟨i + 1, Oo, by go_num, hO, hC⟩, by simp [intOf]; omega⟩
  ·obtain rfl : i = n := Oo; rw [qIu] at hO; have Br := hC.below B2 Oo B2s; go_wp2; go_ret; exact ⟨_, rfl, hO.r.ow, Br⟩


def RdM (w : World) (v : Value) (l : List (Int × Li)) : Prop :=
 ∃ o c, v = .slice o l.length c ∧ (l.length ≤ maxLen ∧ l.length ≤ c ∧ (o = none → c = 0)) ∧
   (∀ (k : Nat) (p : Int × Li), l[k]? = some p → ∃ b off u, o = some ⟨b, off, none⟩ ∧ w.cell? ⟨b, off + k * 2, none⟩ = some (.int .i64 p.1) ∧ w.cell? ⟨b, off + k * 2 + 1, none⟩ = some u ∧ RdI w u p.2)
theorem RdM.below {B : Nat} {w w' : World} {v : Value} {l : List (Int × Li)} (h : RdM w v l) (hb : Below B w w') (hB : w.heap.size ≤ B := by exact Nat.le_refl _) : RdM w' v l := by
 obtain ⟨o, c, rfl, hm, hc⟩ := h
 refine ⟨o, c, rfl, hm, fun k row hx => ?_⟩
 obtain ⟨b, off, u, ho, h0, h1, hr⟩ := hc k row hx
 exact ⟨b, off, u, ho, qA0 hb hB h0, qA0 hb hB h1, hr.below hb hB⟩
theorem RdM.len {w : World} {o : Option Addr} {n c : Nat} {l : List (Int × Li)} (h : RdM w (.slice o n c) l) : n = l.length ∧ l.length ≤ maxLen ∧ l.length ≤ c := by
 obtain ⟨o', c', heq, hm, hc⟩ := h
 obtain ⟨rfl, rfl, rfl⟩ : o = o' ∧ n = l.length ∧ c = c' := by simpa using heq
 exact ⟨rfl, hm.1, hm.2.1⟩
theorem RdM.base {w : World} {o : Option Addr} {n c : Nat} {l : List (Int × Li)} (h : RdM w (.slice o n c) l) (hx : 1 ≤ l.length) : ∃ b off, o = some ⟨b, off, none⟩ := by
 obtain ⟨o', c', heq, hm, hc⟩ := h
 obtain ⟨rfl, rfl, rfl⟩ : o = o' ∧ n = l.length ∧ c = c' := by simpa using heq
 obtain ⟨b, off, u, ho, -⟩ := hc 0 l[0] (by simp)
 exact ⟨b, off, ho⟩
theorem RdM.at {w : World} {b off n c : Nat} {l : List (Int × Li)} (h : RdM w (.slice (some ⟨b, off, none⟩) n c) l) {k : Nat} (hk : k < l.length) :
  ∃ o c, w.cell? ⟨b, off + k * 2, none⟩ = some (.int .i64 l[k].1) ∧ w.cell? ⟨b, off + k * 2 + 1, none⟩ = some (.slice o l[k].2.length c) ∧ RdI w (.slice o l[k].2.length c) l[k].2 := by
 obtain ⟨o', c', heq, hm, hc⟩ := h
 obtain ⟨rfl, -, -⟩ : some ⟨b, off, none⟩ = o' ∧ n = l.length ∧ c = c' := by simpa using heq
 obtain ⟨b', off', u, ho, h0, h1, h2⟩ := hc k l[k] (by simp [hk])
 obtain ⟨rfl, rfl⟩ : b = b' ∧ off = off' := by simpa using ho
 obtain ⟨o, c, he, -, -⟩ := id h2
 rw [he] at h1 h2
 exact ⟨o, c, h0, h1, h2⟩
theorem RdM.lit1 (w : World) (m : Int) (u : Value) (xs : Li) (hu : RdI w u xs) : RdM (w.alloc (.cells #[.int .i64 m, u] 34)) (.slice (some ⟨w.heap.size, 0, none⟩) 1 1) [(m, xs)] := by
 have hb : Below w.heap.size w (w.alloc (.cells #[.int .i64 m, u] 34)) := (Below.refl _ _).alloc (nl _) _
 refine ⟨_, _, rfl, ⟨by simp [maxLen], by simp, fun h => by cases h⟩, fun k p hk => ?_⟩
 have : k = 0 := by have := (List.getElem?_eq_some_iff.1 hk).1; simp at this; omega
 subst this
 simp at hk
 subst hk
 exact ⟨_, 0, u, rfl, by simp, by simp, hu.below hb⟩
def qBz (m : Int) (n : Nat) (p : Int × Li) : Bool := (m == p.1) && ((n : Int) == (p.2.length : Int))
def qCa (m : Int) (xss : Tb) (l : List (Int × Li)) : Int :=
 if qAg m xss then (if l.all (fun p => qB_ p.1 p.2) then (if l.all (qBz m xss.length) then 0 else 2) else 1) else 1

theorem qCt (m n : Int) (v u : Value) (xs : Tb) (ys : Li) (w : World) (hv : RdT w v xs) (hu : RdI w u ys) :
  Calls Tryz.prog 63 #[.agg #[.int .i64 m, v], .agg #[.int .i64 n, u]] w fun e w' => e = .returned (.bool (qBz m xs.length (n, ys))) ∧ Below w.heap.size w w' := by
 obtain ⟨o, c, rfl, hm, -⟩ := id hv
 obtain ⟨o', c', rfl, hm', -⟩ := id hu
 have hl1 := hm.1
 have hl2 := hm'.1
 unfold maxLen at hm hm'
 have e2 : ((xs.length : Int) - 1 == (ys.length : Int) - 1) = ((xs.length : Int) == (ys.length : Int)) := by
  rw [Bool.eq_iff_iff]; simp only [beq_iff_eq]; omega
 cases h1 : (m == n)
 ·go_enter Tryz.func63, Tryz.ntmps63
  go_wp2_with fail
  (obtain ⟨w0, hw0⟩ : ∃ W : World, W = ((w.alloc (.cells #[.int .i64 m, .slice o xs.length c] 26)).alloc (.cells #[.int .i64 n, .slice o' ys.length c'] 34)) := ⟨_, rfl⟩; have X0 := (RB2.mk1 w  (.int .i64 m) (.slice o xs.length c) 26).1.below (w' := w0) (bV hw0) (nl _); have Y0 := (RB2.mk2 w (.cells #[.int .i64 m, .slice o xs.length c] 26) (.int .i64 n) (.slice o' ys.length c') 34).1.below (w' := w0) (bV hw0) (nl _); have B0 : Below w.heap.size w w0 := (bV hw0); have hv0 := hv.below (w' := w0) (bV hw0) (nl _); have hu0 := hu.below (w' := w0) (bV hw0) (nl _); rw [← hw0]; clear hw0)
  obtain ⟨x0, x1⟩ := id X0; obtain ⟨y0, y1⟩ := id Y0
  go_quiet (fail)
  go_wp2; go_ret; exact ⟨by simp only [qBz, h1]; rfl, below_drewN B0 _⟩
 ·have E1 := dd e2; clear e2
  go_enter Tryz.func63, Tryz.ntmps63
  go_wp2_with fail
  (obtain ⟨w0, hw0⟩ : ∃ W : World, W = ((w.alloc (.cells #[.int .i64 m, .slice o xs.length c] 26)).alloc (.cells #[.int .i64 n, .slice o' ys.length c'] 34)) := ⟨_, rfl⟩; have X0 := (RB2.mk1 w  (.int .i64 m) (.slice o xs.length c) 26).1.below (w' := w0) (bV hw0) (nl _); have Y0 := (RB2.mk2 w (.cells #[.int .i64 m, .slice o xs.length c] 26) (.int .i64 n) (.slice o' ys.length c') 34).1.below (w' := w0) (bV hw0) (nl _); have B0 : Below w.heap.size w w0 := (bV hw0); have hv0 := hv.below (w' := w0) (bV hw0) (nl _); have hu0 := hu.below (w' := w0) (bV hw0) (nl _); rw [← hw0]; clear hw0)
  obtain ⟨x0, x1⟩ := id X0; obtain ⟨y0, y1⟩ := id Y0; have hX := X0; have hY := Y0
  go_region_held3 (fun w' => w'.cell? ⟨w.heap.size, 0, none⟩ = some (.int .i64 m) ∧ w'.cell? ⟨w.heap.size, 1, none⟩ = some (.slice o xs.length c) ∧ w'.cell? ⟨w.heap.size + 1, 0, none⟩ = some (.int .i64 n) ∧ w'.cell? ⟨w.heap.size + 1, 1, none⟩ = some (.slice o' ys.length c')) (go_keep)
   (first
    | (go_at_call 78; refine (qB9 m o xs.length c _ hl1).mono ?_; rintro e w1 ⟨rfl, hb1⟩; have hX1 := (by first | exact (show Box2 w0.drew _ _ _ from hX).below hb1 | exact hX2.below hb1); have hY1 := (by first | exact (show Box2 w0.drew _ _ _ from hY).below hb1 | exact hY2.below hb1); obtain ⟨a1, a2⟩ := id hX1; obtain ⟨b1, b2⟩ := id hY1)
    | (go_at_call 128; refine (qCb n o' ys.length c' _ hl2).mono ?_; rintro e w2 ⟨rfl, hb2⟩; have hX2 := (by first | exact (show Box2 w0.drew _ _ _ from hX).below hb2 | exact hX1.below hb2); have hY2 := (by first | exact (show Box2 w0.drew _ _ _ from hY).below hb2 | exact hY1.below hb2); obtain ⟨a3, a4⟩ := id hX2; obtain ⟨b3, b4⟩ := id hY2))
  have s0 := B0.size; have s1 := hb1.size; have s2 := hb2.size; simp at s1; go_wp2; go_ret; exact ⟨by rw [E1.out]; simp only [qBz, h1]; rfl, (bY3 hb2 hb1 B0)⟩


theorem qNu {m : Int} (hm : 0 < m) {n : Nat} {t : Tb} (ht : PlaT m n t) (c : Int) :
  tri n (fun i j => (atT t i j + atT (qCd m c n) i j) % m) = qDl m c n t := qAE fun i j h => by
 unfold qCd
 rw [qAi h]
 by_cases e : i = 0 ∧ j = 0
 ·rw [if_pos e, if_pos e]; obtain ⟨rfl, rfl⟩ := e; rw [Int.add_emod, Int.emod_emod_of_dvd _ (Int.dvd_refl m), ← Int.add_emod]
 ·rw [if_neg e, if_neg e, Int.add_zero]; obtain ⟨-, -, -, -, h1, h2⟩ := ht.at h; exact Int.emod_eq_of_lt h1 h2
theorem qQA {m : Int} {n : Nat} {t : Tb} (hn : 0 < n) (ht : PlaT m n t) (c : Int) {row : Li} (hr : t[0]? = some row) : t.set 0 (row.set 0 ((atT t 0 0 + c) % m)) = qDl m c n t := by
 have e : t = tri n (atT t) := qEm ht.1 (fun i hi => by rw [(ht.2 i hi).1, ht.1])
 have e2 : row = mk (n - 0) (atT t 0) := by
  rw [e, qAp hn] at hr; exact (Option.some.inj hr).symm
 have key : (tri n (atT t)).set 0 ((mk (n - 0) (atT t 0)).set 0 ((atT t 0 0 + c) % m)) = qDl m c n t := by
  rw [qBp (f := atT t) Oo]; rfl
 rw [← e] at key
 rw [e2]
 exact key

theorem qFK (m : Int) (n : Nat) (v u : Value) (xs : Li) (yss : Tb) (w : World) (hv : RdI w v xs) (hu : RdT w u yss) (h1 : 1 ≤ n) (hn : n ≤ 1000) (hm : 2 ≤ m) (hm' : m ≤ 3000000000)
  (hxl : xs.length ≤ 1048576) (hx : ∀ x ∈ xs, 0 ≤ x ∧ x < m) (hy : PlaT m n yss) :
  Calls Tryz.prog 83 #[.int .i64 m, v, u] w fun e w' => ∃ v', e = .returned v' ∧ OwS w' w.heap.size v' (qAK m n yss xs) ∧ Below w.heap.size w w' := by
 obtain ⟨o, c, rfl, hmx, -⟩ := id hv
 obtain ⟨o', c', rfl, hmy, -⟩ := id hu
 have HY := dd hy
 have hu' : RdT w (.slice o' n c') yss := by rw [hy.1] at hu; exact hu
 rw [hy.1] at hmy ⊢
 unfold maxLen at hmx hmy
 clear hu hy
 have m0 : (m == 0) = false := by simp; omega
 have m1 : ¬ m = 0 := Oo
 go_enter Tryz.func83, Tryz.ntmps83
 go_wp2_with (go_at_call 157; refine (qCL ((n : Int) - 1) n _ rfl hn).mono ?_; rintro e w2 ⟨vz, rfl, how, B2⟩; obtain ⟨oz, cz, rfl⟩ := how.shapeN (n := n) (qBm n))
 go_loopw [7, 8, 9] (fun s i _ wr => ∃ (j : Nat) (ov : Option Addr) (cv : Nat), j ≤ xs.length ∧ i = .int .i64 ((j : Int) - 1) ∧ s = .slice ov n cv ∧ OwS wr w.heap.size (.slice ov n cv) (qAK m n yss (xs.drop j)) ∧ Below w.heap.size w wr) (fun _ i _ _ => ((intOf i) + 1).toNat)
 case atStart => exact ⟨xs.length, oz, cz, Nat.le_refl _, rfl, rfl, by rw [List.drop_length]; exact how, B2⟩
 case round =>
  obtain ⟨j, ov, cv, hj, rfl, rfl, hO, hB⟩ := hrel; have hBs := hB.size
  by_cases hlt : 0 < j
  ·obtain ⟨k, rfl⟩ : ∃ k, j = k + 1 := ⟨j - 1, Oo⟩; have ek : (((k + 1 : Nat) : Int)) - 1 = (k : Int) := Oo; rw [ek]; clear ek; have HS := dd (qIY (m := m) (n := n) (t := yss) (qA5 (show k < xs.length by omega))); have HO := dd (qAF (m := m) (show 0 < m by omega) n yss (xs.drop (k + 1))); generalize qAK m n yss (xs.drop (k + 1)) = l at hO HS HO; have hkx := qAG Oo hx k; obtain ⟨bx, fx, rfl, -⟩ := hv.cells Oo; have i0 : (0 : Int) ≤ (k : Int) := Oo; have i1 : (k : Int) < (xs.length : Int) := Oo; have i2 : (0 : Int) < (n : Int) := Oo; have i3 : 0 < n := Oo; have HT := dd (qAU (m := m) (show 0 < m by omega) n l yss); have HTl := dd (qEM m n l yss); generalize hTT : qAO m n l yss = T at HS HT HTl; have hTT2 := dd hTT; clear hTT
   go_wp2_with (go_at_call 158; refine (qDX m n _ _ l yss wr hO.rd (hu'.below hB) h1 hn hm hm' HO.out HY.out).mono ?_; rw [hTT2.out]; rintro e w3 ⟨v3, rfl, how3, hb3⟩; obtain ⟨o3, c3, rfl⟩ := how3.shapeN (n := n) HTl.out; obtain ⟨us, how3⟩ := how3.toR.named; obtain ⟨g, rfl, hgl, hgl'⟩ := how3.row Oo; obtain ⟨r0, hr0, hrl, hrj⟩ := HT.out.row i3; obtain ⟨o4, c4, hu4, cx4, how4, hbl4, hset4⟩ := how3.at hr0; rw [hrl] at hu4 cx4 how4 hbl4 hset4; have HR0 := dd hr0; have HRJ := dd hrj; have HRL := dd hrl; clear hr0 hrj hrl; obtain ⟨gr, rfl, hgr1, hgr2⟩ := how4.row Oo)
   have HX0 := hbl4 gr rfl; have hc0 := how4.cell (k := 0) (HRJ.out 0 Oo); have hf0 := how4.fz 0; obtain ⟨-, -, -, -, ht0, ht1⟩ := HT.out.at (i := 0) (j := 0) Oo; have B3 := hB.trans (hb3.mono hBs); have cx := (hv.below B3).cell0 (qA5 (show k < xs.length by omega)); have i4 : (0 : Int) < ((n - 0 : Nat) : Int) := Oo; have hMod := qA6 (a := atT T 0 0 + at0 xs k) (show 0 < m by omega); have hN := dd how4; have hS4 := dd hset4; clear how4 hset4 hu4
   go_wp2_with fail
   have e1 : IntKind.i64.wrap (atT T 0 0 + at0 xs k) = atT T 0 0 + at0 xs k := IntWalk.i64_in _ Oo; have e2 : (atT T 0 0 + at0 xs k).tmod m = (atT T 0 0 + at0 xs k) % m := Int.tmod_eq_emod_of_nonneg Oo
   go_still_tail 12, kr
   change wpList _ _ _ _ _ w3.drew
   have hg0 := qAw (World.grownBy.refl w3 (some gr)) 0 (.int .i64 ((atT T 0 0 + at0 xs k) % m)); have hOn := hS4.out _ _ (by rw [List.length_set, HRL.out]) hg0 (hN.out.put 0 ((atT T 0 0 + at0 xs k) % m)); rw [qQA i3 HT.out _ HR0.out, ← HS.out] at hOn; have Bn := qAL B3 (g := gr) (k := 0) Oo (.int .i64 ((atT T 0 0 + at0 xs k) % m)); go_wp2; exact ⟨⟨k, _, _, Oo, by go_num, rfl, hOn.r.ow.mono hBs, Bn.drew⟩, by simp [intOf]⟩
  ·obtain rfl : j = 0 := Oo; rw [List.drop_zero] at hO; go_wp2; go_ret; exact ⟨_, rfl, hO, hB⟩

end Go.Proofs.YtfpphfjlpgefaaaGreat
