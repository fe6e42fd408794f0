/- Lemmas. -/
import Derived.Test.YtfpphfjlpgefaaaGreatQLM7
import Derived.Test.YtfpphfjlpgefaaaGreatQLM5
import Derived.Test.YtfpphfjlpgefaaaGreatQLG2
import Derived.Test.YtfpphfjlpgefaaaGreatQLG1
set_option maxHeartbeats 4000000
set_option maxRecDepth 100000
set_option linter.unusedSimpArgs false
set_option linter.unusedVariables false
namespace Go.Proofs.YtfpphfjlpgefaaaGreat
open Go.RowKit

theorem l03Times_c (m : Int) (n : Nat) (v u : Value) (xss yss : List (List Int)) (w : World) (hv : RdT w v xss) (hu : RdT w u yss) (h1 : 1 ≤ n) (hn : n ≤ 1000) (hm : 2 ≤ m) (hm' : m ≤ 3000000000)
  (hx : PlaT m n xss) (hy : PlaT m n yss) :
  Calls Tryz.prog 158 #[.int .i64 m, v, u] w fun e w' => ∃ v', e = .returned v' ∧ OwS w' w.heap.size v' (timesT m n xss yss) ∧ Below w.heap.size w w' := by
 obtain ⟨o, c, rfl, hmx, -⟩ := id hv
 obtain ⟨o', c', rfl, hmy, -⟩ := id hu
 rw [hx.1] at hmx ⊢
 rw [hy.1] at hmy ⊢
 unfold maxLen at hmx hmy
 have hv' : RdT w (.slice o n c) xss := by rw [hx.1] at hv; exact hv
 have hu' : RdT w (.slice o' n c') yss := by rw [hy.1] at hu; exact hu
 clear hv hu
 have HX := Lib.hid hx
 have HY := Lib.hid hy
 have hxl := hx.1
 have hyl := hy.1
 clear hx hy
 obtain ⟨bx, fx, rfl, -⟩ := hv'.rows (by omega)
 obtain ⟨by', fy, rfl, -⟩ := hu'.rows (by omega)
 clear hxl hyl
 have m0 : (m == 0) = false := by simp; omega
 have m1 : ¬ m = 0 := by omega
 go_enter Tryz.func158, Tryz.ntmps158
 go_wp2_with (go_at_call 157; refine (l03Zero_c ((n : Int) - 1) n _ rfl hn).mono ?_; rintro e w2 ⟨vz, rfl, how, B2⟩; obtain ⟨oz, cz, rfl⟩ := how.shapeN (n := n) (zeroT_len n))
 have how := how.toR
 obtain ⟨hi, hhi⟩ : ∃ hi, w2.heap.size = hi := ⟨_, rfl⟩
 rw [hhi] at how
 obtain ⟨us, how⟩ := how.named
 obtain ⟨g, rfl, hgl, hgl'⟩ := how.row h1
 rw [tmT_0 m n xss yss] at how
 have B2s := B2.size
 go_loopw [9] (fun s wr => ∃ i : Nat, i ≤ n ∧ s = .int .i64 i ∧ OwSU us w.heap.size hi wr (.slice (some ⟨g, 0, none⟩) n cz) (tmT m n xss yss i 0 0 0) ∧ Chg w.heap.size hi w2 wr) (fun i _ => n - (intOf i).toNat)
 case atStart => exact ⟨0, Nat.zero_le _, rfl, how, Chg.refl _ _ _⟩
 case round =>
  obtain ⟨i, hi', rfl, hO, hC⟩ := hrel
  by_cases hlt : i < n
  ·obtain ⟨r1, hr1, hl1, hj1⟩ := HX.out.row hlt
   obtain ⟨p1, q1, cx0, rx0⟩ := hv'.row hr1
   rw [hl1] at cx0 rx0
   obtain ⟨b1, f1, rfl, -⟩ := rx0.cells (by omega)
   have i0 : (0 : Int) ≤ (i : Int) := by omega
   have i1 : (i : Int) < (n : Int) := by omega
   have HJ := Lib.hid hj1
   clear hr1 hl1 hj1
   go_wp2_with fail
   go_loopw [10] (fun s wr => ∃ j : Nat, j ≤ n - i ∧ s = .int .i64 j ∧ OwSU us w.heap.size hi wr (.slice (some ⟨g, 0, none⟩) n cz) (tmT m n xss yss i j 0 0) ∧ Chg w.heap.size hi w2 wr) (fun i' _ => n - i - (intOf i').toNat)
   case atStart => exact ⟨0, Nat.zero_le _, rfl, hO, hC⟩
   case round =>
    obtain ⟨j, hj, rfl, hO, hC⟩ := hrel
    have Br := hC.below B2 (by omega) B2s
    by_cases hjl : j < n - i
    ·have ex := (rx0.below Br (nl _)).cell0 (HJ.out j hjl)
     have cx := keep_cell Br (nl _) cx0
     obtain ⟨-, -, -, -, hxa, hxb⟩ := HX.out.at (i := i) (j := j) (by omega)
     have j0 : (0 : Int) ≤ (j : Int) := by omega
     have j1 : (j : Int) < ((n - i : Nat) : Int) := by omega
     have j2 : (i : Int) + (j : Int) < (n : Int) := by omega
     cases hx0 : (atT xss i j == 0)
     ·go_wp2_with fail
      clear ex cx
      go_loopw [11] (fun s wr => ∃ k : Nat, k ≤ n - i - j ∧ s = .int .i64 k ∧ OwSU us w.heap.size hi wr (.slice (some ⟨g, 0, none⟩) n cz) (tmT m n xss yss i j k 0) ∧ Chg w.heap.size hi w2 wr) (fun i' _ => n - i - j - (intOf i').toNat)
      case atStart => exact ⟨0, Nat.zero_le _, rfl, hO, hC⟩
      case round =>
       obtain ⟨k, hk, rfl, hO, hC⟩ := hrel
       have Br := hC.below B2 (by omega) B2s
       by_cases hkl : k < n - i - j
       ·obtain ⟨r2, hr2, hl2, hj2⟩ := HY.out.row (show k < n by omega)
        obtain ⟨p2, q2, cy0, ry0⟩ := hu'.row hr2
        rw [hl2] at cy0 ry0
        obtain ⟨b2, f2, rfl, -⟩ := ry0.cells (by omega)
        have cy := keep_cell Br (nl _) cy0
        have HJ2 := Lib.hid hj2
        clear hr2 hl2 hj2 cy0
        obtain ⟨o3, c3, hu3, cx3, how3, hbl3, -⟩ := hO.at (tmT_row' (show i + k < n by omega))
        rw [tmTr_len] at hu3 cx3 how3 hbl3
        obtain ⟨gr, rfl, hgr1, hgr2⟩ := how3.row (by omega)
        have hgr3 := hbl3 gr rfl
        have HU3 := Lib.hid hu3
        clear how3 hbl3 hu3
        have k0 : (0 : Int) ≤ (k : Int) := by omega
        have k1 : (k : Int) < (n : Int) := by omega
        have k2 : (i : Int) + (j : Int) + (k : Int) < (n : Int) := by omega
        have k3 : (0 : Int) ≤ (i : Int) + (k : Int) := by omega
        have k4 : (i : Int) + (k : Int) < (n : Int) := by omega
        have k5 : ((i : Int) + (k : Int)).toNat = i + k := by omega
        go_wp2_with fail
        have e0 : IntKind.i64.wrap ((i : Int) + (k : Int)) = (i : Int) + (k : Int) := IntWalk.i64_in _ (by omega)
        go_quiet (fail)
        clear cy cx3 e0
        go_wp2_with fail
        go_loopw [14] (fun s wr => ∃ l : Nat, l ≤ n - i - j - k ∧ s = .int .i64 l ∧ OwSU us w.heap.size hi wr (.slice (some ⟨g, 0, none⟩) n cz) (tmT m n xss yss i j k l) ∧ Chg w.heap.size hi w2 wr) (fun i' _ => n - i - j - k - (intOf i').toNat)
        case atStart => exact ⟨0, Nat.zero_le _, rfl, hO, hC.drewN _⟩
        case round =>
         obtain ⟨l, hl, rfl, hO, hC⟩ := hrel
         have Br := hC.below B2 (by omega) B2s
         by_cases hll : l < n - i - j - k
         ·have ey := (ry0.below Br (nl _)).cell0 (HJ2.out l (by omega))
          have ex := (rx0.below Br (nl _)).cell0 (HJ.out j hjl)
          have cx := keep_cell Br (nl _) cx0
          obtain ⟨-, -, -, -, hya, hyb⟩ := HY.out.at (i := k) (j := l) (by omega)
          obtain ⟨o4, c4, hu4, -, how3, -, hset3⟩ := hO.at (tmT_row' (show i + k < n by omega))
          rw [tmTr_len] at hu4 how3 hset3
          obtain ⟨rfl, rfl⟩ : some ⟨gr, 0, none⟩ = o4 ∧ c3 = c4 := by rw [HU3.out] at hu4; simpa using hu4
          have hc0 := how3.cell (k := j + l) (tmTr_get (show i + k + (j + l) < n by omega))
          have hf0 := how3.fz (j + l)
          have hN := Lib.hid how3
          have hS := Lib.hid hset3
          clear how3 hset3 hu4
          have l0 : (0 : Int) ≤ (l : Int) := by omega
          have l1 : (l : Int) < ((n - k : Nat) : Int) := by omega
          have l2 : (i : Int) + (j : Int) + (k : Int) + (l : Int) < (n : Int) := by omega
          have l5 : (0 : Int) ≤ (j : Int) + (l : Int) := by omega
          have l6 : (j : Int) + (l : Int) < ((n - (i + k) : Nat) : Int) := by omega
          have l7 : ((j : Int) + (l : Int)).toNat = j + l := by omega
          obtain ⟨hM0, hM1⟩ := prod_fits hxa hya hxb hyb hm'
          have hCm := mod_lt' (a := c2P n (atT xss) (atT yss) i j k l (i + k) (j + l)) (show 0 < m by omega)
          have hMod := mod_lt' (a := c2P n (atT xss) (atT yss) i j k l (i + k) (j + l) % m + atT xss i j * atT yss k l) (show 0 < m by omega)
          go_wp2_with fail
          have e0 : IntKind.i64.wrap ((j : Int) + (l : Int)) = (j : Int) + (l : Int) := IntWalk.i64_in _ (by omega)
          have e3 : IntKind.i64.wrap (atT xss i j * atT yss k l) = atT xss i j * atT yss k l := IntWalk.i64_in _ (by omega)
          have e1 : IntKind.i64.wrap (c2P n (atT xss) (atT yss) i j k l (i + k) (j + l) % m + atT xss i j * atT yss k l) = c2P n (atT xss) (atT yss) i j k l (i + k) (j + l) % m + atT xss i j * atT yss k l := IntWalk.i64_in _ (by omega)
          have e2 : (c2P n (atT xss) (atT yss) i j k l (i + k) (j + l) % m + atT xss i j * atT yss k l).tmod m = (c2P n (atT xss) (atT yss) i j k l (i + k) (j + l) % m + atT xss i j * atT yss k l) % m := Int.tmod_eq_emod_of_nonneg (by omega)
          go_still_tail 26, (by kernel_rfl)
          change wpList _ _ _ _ _ wr.drew
          have HE := Lib.hid (show (c2P n (atT xss) (atT yss) i j k l (i + k) (j + l) % m + atT xss i j * atT yss k l) % m = (c2P n (atT xss) (atT yss) i j k l (i + k) (j + l) + atT xss i j * atT yss k l) % m by rw [Int.add_emod, Int.emod_emod_of_dvd _ (Int.dvd_refl m), ← Int.add_emod])
          have hg0 := gr_put (gr_drewN (World.grownBy.refl wr (some gr)) 1) (j + l) (.int .i64 ((c2P n (atT xss) (atT yss) i j k l (i + k) (j + l) % m + atT xss i j * atT yss k l) % m))
          have hOn := hS.out _ _ (by rw [List.length_set, tmTr_len]) hg0 ((hN.out.drewN 1).put (j + l) _)
          have hCn := hC.grown hg0 hgr3.1 hgr3.2.1
          rw [HE.out, tmT_set (by omega)] at hOn
          rw [HE.out] at hCn
          go_wp2
          exact ⟨⟨l + 1, by omega, by go_num, hOn, hCn⟩, by simp [intOf]; omega⟩
         ·obtain rfl : l = n - i - j - k := by omega
          rw [tmT_row (by omega)] at hO
          have l2 : ¬ (i : Int) + (j : Int) + (k : Int) + ((n - i - j - k : Nat) : Int) < (n : Int) := by omega
          go_wp2
          exact ⟨⟨k + 1, by omega, by go_num, hO, hC⟩, by simp [intOf]; omega⟩
       ·obtain rfl : k = n - i - j := by omega
        rw [tmT_place (.inl (by omega))] at hO
        have k2 : ¬ (i : Int) + (j : Int) + ((n - i - j : Nat) : Int) < (n : Int) := by omega
        go_wp2
        exact ⟨⟨j + 1, by omega, by go_num, hO, hC⟩, by simp [intOf]; omega⟩
     ·rw [tmT_place (.inr (by simpa using hx0))] at hO
      go_wp2
      exact ⟨⟨j + 1, by omega, by go_num, hO, hC⟩, by simp [intOf]; omega⟩
    ·obtain rfl : j = n - i := by omega
     rw [tmT_line rfl] at hO
     have j2 : ¬ (i : Int) + ((n - i : Nat) : Int) < (n : Int) := by omega
     go_wp2
     exact ⟨⟨i + 1, by omega, by go_num, hO, hC⟩, by simp [intOf]; omega⟩
  ·obtain rfl : i = n := by omega
   rw [tmT_all] at hO
   have Br := hC.below B2 (by omega) B2s
   go_wp2
   go_ret
   exact ⟨_, rfl, hO.r.ow, Br⟩


def RdM (w : World) (v : Value) (l : List (Int × List Int)) : Prop :=
 ∃ o c, v = .slice o l.length c ∧ (l.length ≤ maxLen ∧ l.length ≤ c ∧ (o = none → c = 0)) ∧
   (∀ (k : Nat) (p : Int × List Int), l[k]? = some p → ∃ b off u, o = some ⟨b, off, none⟩ ∧ w.cell? ⟨b, off + k * 2, none⟩ = some (.int .i64 p.1) ∧ w.cell? ⟨b, off + k * 2 + 1, none⟩ = some u ∧ RdI w u p.2)
theorem RdM.below {B : Nat} {w w' : World} {v : Value} {l : List (Int × List Int)} (h : RdM w v l) (hb : Below B w w') (hB : w.heap.size ≤ B) : RdM w' v l := by
 obtain ⟨o, c, rfl, hm, hc⟩ := h
 refine ⟨o, c, rfl, hm, fun k row hx => ?_⟩
 obtain ⟨b, off, u, ho, h0, h1, hr⟩ := hc k row hx
 exact ⟨b, off, u, ho, keep_cell hb hB h0, keep_cell hb hB h1, hr.below hb hB⟩
theorem RdM.len {w : World} {o : Option Addr} {n c : Nat} {l : List (Int × List Int)} (h : RdM w (.slice o n c) l) : n = l.length ∧ l.length ≤ maxLen ∧ l.length ≤ c := by
 obtain ⟨o', c', heq, hm, hc⟩ := h
 obtain ⟨rfl, rfl, rfl⟩ : o = o' ∧ n = l.length ∧ c = c' := by simpa using heq
 exact ⟨rfl, hm.1, hm.2.1⟩
theorem RdM.base {w : World} {o : Option Addr} {n c : Nat} {l : List (Int × List Int)} (h : RdM w (.slice o n c) l) (hx : 1 ≤ l.length) : ∃ b off, o = some ⟨b, off, none⟩ := by
 obtain ⟨o', c', heq, hm, hc⟩ := h
 obtain ⟨rfl, rfl, rfl⟩ : o = o' ∧ n = l.length ∧ c = c' := by simpa using heq
 obtain ⟨b, off, u, ho, -⟩ := hc 0 l[0] (by simp)
 exact ⟨b, off, ho⟩
theorem RdM.at {w : World} {b off n c : Nat} {l : List (Int × List Int)} (h : RdM w (.slice (some ⟨b, off, none⟩) n c) l) {k : Nat} (hk : k < l.length) :
  ∃ o c, w.cell? ⟨b, off + k * 2, none⟩ = some (.int .i64 l[k].1) ∧ w.cell? ⟨b, off + k * 2 + 1, none⟩ = some (.slice o l[k].2.length c) ∧ RdI w (.slice o l[k].2.length c) l[k].2 := by
 obtain ⟨o', c', heq, hm, hc⟩ := h
 obtain ⟨rfl, -, -⟩ : some ⟨b, off, none⟩ = o' ∧ n = l.length ∧ c = c' := by simpa using heq
 obtain ⟨b', off', u, ho, h0, h1, h2⟩ := hc k l[k] (by simp [hk])
 obtain ⟨rfl, rfl⟩ : b = b' ∧ off = off' := by simpa using ho
 obtain ⟨o, c, he, -, -⟩ := id h2
 rw [he] at h1 h2
 exact ⟨o, c, h0, h1, h2⟩
theorem RdM.lit1 (w : World) (m : Int) (u : Value) (xs : List Int) (hu : RdI w u xs) : RdM (w.alloc (.cells #[.int .i64 m, u] 34)) (.slice (some ⟨w.heap.size, 0, none⟩) 1 1) [(m, xs)] := by
 have hb : Below w.heap.size w (w.alloc (.cells #[.int .i64 m, u] 34)) := (Below.refl _ _).alloc (nl _) _
 refine ⟨_, _, rfl, ⟨by simp [maxLen], by simp, fun h => by cases h⟩, fun k p hk => ?_⟩
 have : k = 0 := by have := (List.getElem?_eq_some_iff.1 hk).1; simp at this; omega
 subst this
 simp at hk
 subst hk
 exact ⟨_, 0, u, rfl, by simp, by simp, hu.below hb (nl _)⟩
theorem RdM.lit2 (w : World) (m m' : Int) (u u' : Value) (xs ys : List Int) (hu : RdI w u xs) (hu' : RdI w u' ys) : RdM (w.alloc (.cells #[.int .i64 m, u, .int .i64 m', u'] 34)) (.slice (some ⟨w.heap.size, 0, none⟩) 2 2) [(m, xs), (m', ys)] := by
 have hb : Below w.heap.size w (w.alloc (.cells #[.int .i64 m, u, .int .i64 m', u'] 34)) := (Below.refl _ _).alloc (nl _) _
 refine ⟨_, _, rfl, ⟨by simp [maxLen], by simp, fun h => by cases h⟩, fun k p hk => ?_⟩
 have : k = 0 ∨ k = 1 := by have := (List.getElem?_eq_some_iff.1 hk).1; simp at this; omega
 rcases this with rfl | rfl
 ·simp at hk
  subst hk
  exact ⟨_, 0, u, rfl, by simp, by simp, hu.below hb (nl _)⟩
 ·simp at hk
  subst hk
  exact ⟨_, 0, u', rfl, by simp, by simp, hu'.below hb (nl _)⟩

def fitB (m : Int) (n : Nat) (p : Int × List Int) : Bool := (m == p.1) && ((n : Int) == (p.2.length : Int))
theorem fits_c (m n : Int) (v u : Value) (xs : List (List Int)) (ys : List Int) (w : World) (hv : RdT w v xs) (hu : RdI w u ys) :
  Calls Tryz.prog 63 #[.agg #[.int .i64 m, v], .agg #[.int .i64 n, u]] w fun e w' => e = .returned (.bool (fitB m xs.length (n, ys))) ∧ Below w.heap.size w w' := by
 obtain ⟨o, c, rfl, hm, -⟩ := id hv
 obtain ⟨o', c', rfl, hm', -⟩ := id hu
 have hl1 := hm.1
 have hl2 := hm'.1
 unfold maxLen at hm hm'
 have e2 : ((xs.length : Int) - 1 == (ys.length : Int) - 1) = ((xs.length : Int) == (ys.length : Int)) := by
  rw [Bool.eq_iff_iff]; simp only [beq_iff_eq]; omega
 cases h1 : (m == n)
 ·go_enter Tryz.func63, Tryz.ntmps63
  go_wp2_with fail
  (have X0 := ((RB2.mk1 w  (.int .i64 m) (.slice o xs.length c) 26).1).below (w' := ((w.alloc (.cells #[.int .i64 m, .slice o xs.length c] 26)).alloc (.cells #[.int .i64 n, .slice o' ys.length c'] 34))) bZ (nl _); have Y0 := ((RB2.mk2 w (.cells #[.int .i64 m, .slice o xs.length c] 26) (.int .i64 n) (.slice o' ys.length c') 34).1).below (w' := ((w.alloc (.cells #[.int .i64 m, .slice o xs.length c] 26)).alloc (.cells #[.int .i64 n, .slice o' ys.length c'] 34))) bZ (nl _); have B0 : Below w.heap.size w ((w.alloc (.cells #[.int .i64 m, .slice o xs.length c] 26)).alloc (.cells #[.int .i64 n, .slice o' ys.length c'] 34)) := bZ; have hv0 := hv.below (w' := ((w.alloc (.cells #[.int .i64 m, .slice o xs.length c] 26)).alloc (.cells #[.int .i64 n, .slice o' ys.length c'] 34))) bZ (nl _); have hu0 := hu.below (w' := ((w.alloc (.cells #[.int .i64 m, .slice o xs.length c] 26)).alloc (.cells #[.int .i64 n, .slice o' ys.length c'] 34))) bZ (nl _); generalize (w.alloc (.cells #[.int .i64 m, .slice o xs.length c] 26)).alloc (.cells #[.int .i64 n, .slice o' ys.length c'] 34) = w0 at X0 Y0 B0 hv0 hu0 ⊢)
  obtain ⟨x0, x1⟩ := id X0
  obtain ⟨y0, y1⟩ := id Y0
  go_quiet (fail)
  go_wp2
  go_ret
  exact ⟨by simp only [fitB, h1]; rfl, below_drewN B0 _⟩
 ·have E1 := Lib.hid e2
  clear e2
  go_enter Tryz.func63, Tryz.ntmps63
  go_wp2_with fail
  (have X0 := ((RB2.mk1 w  (.int .i64 m) (.slice o xs.length c) 26).1).below (w' := ((w.alloc (.cells #[.int .i64 m, .slice o xs.length c] 26)).alloc (.cells #[.int .i64 n, .slice o' ys.length c'] 34))) bZ (nl _); have Y0 := ((RB2.mk2 w (.cells #[.int .i64 m, .slice o xs.length c] 26) (.int .i64 n) (.slice o' ys.length c') 34).1).below (w' := ((w.alloc (.cells #[.int .i64 m, .slice o xs.length c] 26)).alloc (.cells #[.int .i64 n, .slice o' ys.length c'] 34))) bZ (nl _); have B0 : Below w.heap.size w ((w.alloc (.cells #[.int .i64 m, .slice o xs.length c] 26)).alloc (.cells #[.int .i64 n, .slice o' ys.length c'] 34)) := bZ; have hv0 := hv.below (w' := ((w.alloc (.cells #[.int .i64 m, .slice o xs.length c] 26)).alloc (.cells #[.int .i64 n, .slice o' ys.length c'] 34))) bZ (nl _); have hu0 := hu.below (w' := ((w.alloc (.cells #[.int .i64 m, .slice o xs.length c] 26)).alloc (.cells #[.int .i64 n, .slice o' ys.length c'] 34))) bZ (nl _); generalize (w.alloc (.cells #[.int .i64 m, .slice o xs.length c] 26)).alloc (.cells #[.int .i64 n, .slice o' ys.length c'] 34) = w0 at X0 Y0 B0 hv0 hu0 ⊢)
  obtain ⟨x0, x1⟩ := id X0
  obtain ⟨y0, y1⟩ := id Y0
  have hX := X0
  have hY := Y0
  go_region_held3 (fun w' => w'.cell? ⟨w.heap.size, 0, none⟩ = some (.int .i64 m) ∧ w'.cell? ⟨w.heap.size, 1, none⟩ = some (.slice o xs.length c) ∧ w'.cell? ⟨w.heap.size + 1, 0, none⟩ = some (.int .i64 n) ∧ w'.cell? ⟨w.heap.size + 1, 1, none⟩ = some (.slice o' ys.length c')) (go_keep)
   (first
    | (go_at_call 78; refine (degreeP_c m o xs.length c _ hl1).mono ?_; rintro e w1 ⟨rfl, hb1⟩; have hX1 := (by first | exact (show Box2 w0.drew _ _ _ from hX).below hb1 (nl _) | exact hX2.below hb1 (nl _)); have hY1 := (by first | exact (show Box2 w0.drew _ _ _ from hY).below hb1 (nl _) | exact hY2.below hb1 (nl _)); obtain ⟨a1, a2⟩ := id hX1; obtain ⟨b1, b2⟩ := id hY1)
    | (go_at_call 128; refine (degreeS_c n o' ys.length c' _ hl2).mono ?_; rintro e w2 ⟨rfl, hb2⟩; have hX2 := (by first | exact (show Box2 w0.drew _ _ _ from hX).below hb2 (nl _) | exact hX1.below hb2 (nl _)); have hY2 := (by first | exact (show Box2 w0.drew _ _ _ from hY).below hb2 (nl _) | exact hY1.below hb2 (nl _)); obtain ⟨a3, a4⟩ := id hX2; obtain ⟨b3, b4⟩ := id hY2))
  have s0 := B0.size
  have s1 := hb1.size
  have s2 := hb2.size
  simp at s1
  go_wp2
  go_ret
  exact ⟨by rw [E1.out]; simp only [fitB, h1]; rfl, (by (repeat (first | exact bR _ _ | (refine bS ?_ _) | (refine bA ?_ _) | (refine bN ?_ _) | (refine bD ?_) | (refine bT ?_ hb2) | (refine bT ?_ hb1) | (refine bT ?_ B0))))⟩


theorem addcT_set {m : Int} {n : Nat} {t : List (List Int)} (hn : 0 < n) (ht : PlaT m n t) (c : Int) {row : List Int} (hr : t[0]? = some row) : t.set 0 (row.set 0 ((atT t 0 0 + c) % m)) = addcT m c n t := by
 have e : t = tri n (atT t) := tri_eq ht.1 (fun i hi => by rw [(ht.2 i hi).1, ht.1])
 have e2 : row = mk (n - 0) (atT t 0) := by
  rw [e, tri_get hn] at hr
  exact (Option.some.inj hr).symm
 have key : (tri n (atT t)).set 0 ((mk (n - 0) (atT t 0)).set 0 ((atT t 0 0 + c) % m)) = addcT m c n t := by
  rw [tri_set (f := atT t) (by omega)]; rfl
 rw [← e] at key
 rw [e2]
 exact key

theorem l03After_c (m : Int) (n : Nat) (v u : Value) (xs : List Int) (yss : List (List Int)) (w : World) (hv : RdI w v xs) (hu : RdT w u yss) (h1 : 1 ≤ n) (hn : n ≤ 1000) (hm : 2 ≤ m) (hm' : m ≤ 3000000000)
  (hxl : xs.length ≤ 1048576) (hx : ∀ x ∈ xs, 0 ≤ x ∧ x < m) (hy : PlaT m n yss) :
  Calls Tryz.prog 83 #[.int .i64 m, v, u] w fun e w' => ∃ v', e = .returned v' ∧ OwS w' w.heap.size v' (hornT m n yss xs) ∧ Below w.heap.size w w' := by
 obtain ⟨o, c, rfl, hmx, -⟩ := id hv
 obtain ⟨o', c', rfl, hmy, -⟩ := id hu
 have HY := Lib.hid hy
 have hu' : RdT w (.slice o' n c') yss := by rw [hy.1] at hu; exact hu
 rw [hy.1] at hmy ⊢
 unfold maxLen at hmx hmy
 clear hu hy
 have m0 : (m == 0) = false := by simp; omega
 have m1 : ¬ m = 0 := by omega
 go_enter Tryz.func83, Tryz.ntmps83
 go_wp2_with (go_at_call 157; refine (l03Zero_c ((n : Int) - 1) n _ rfl hn).mono ?_; rintro e w2 ⟨vz, rfl, how, B2⟩; obtain ⟨oz, cz, rfl⟩ := how.shapeN (n := n) (zeroT_len n))
 go_loopw [7, 8, 9] (fun s i _ wr => ∃ (j : Nat) (ov : Option Addr) (cv : Nat), j ≤ xs.length ∧ i = .int .i64 ((j : Int) - 1) ∧ s = .slice ov n cv ∧ OwS wr w.heap.size (.slice ov n cv) (hornT m n yss (xs.drop j)) ∧ Below w.heap.size w wr) (fun _ i _ _ => ((intOf i) + 1).toNat)
 case atStart => exact ⟨xs.length, oz, cz, Nat.le_refl _, rfl, rfl, by rw [List.drop_length]; exact how, B2⟩
 case round =>
  obtain ⟨j, ov, cv, hj, rfl, rfl, hO, hB⟩ := hrel
  have hBs := hB.size
  by_cases hlt : 0 < j
  ·obtain ⟨k, rfl⟩ : ∃ k, j = k + 1 := ⟨j - 1, by omega⟩
   have ek : (((k + 1 : Nat) : Int)) - 1 = (k : Int) := by omega
   rw [ek]
   clear ek
   have HS := Lib.hid (hornT_drop (m := m) (n := n) (t := yss) (some_at0 (show k < xs.length by omega)))
   have HO := Lib.hid (hornT_ok (m := m) (show 0 < m by omega) n yss (xs.drop (k + 1)))
   generalize hornT m n yss (xs.drop (k + 1)) = l at hO HS HO
   have hkx := at0_range (by omega) hx k
   obtain ⟨bx, fx, rfl, -⟩ := hv.cells (by omega)
   have i0 : (0 : Int) ≤ (k : Int) := by omega
   have i1 : (k : Int) < (xs.length : Int) := by omega
   have i2 : (0 : Int) < (n : Int) := by omega
   have i3 : 0 < n := by omega
   have HT := Lib.hid (timesT_ok (m := m) (show 0 < m by omega) n l yss)
   have HTl := Lib.hid (timesT_len m n l yss)
   generalize hTT : timesT m n l yss = T at HS HT HTl
   have hTT2 := Lib.hid hTT
   clear hTT
   go_wp2_with (go_at_call 158; refine (l03Times_c m n _ _ l yss wr hO.rd (hu'.below hB (nl _)) h1 hn hm hm' HO.out HY.out).mono ?_; rw [hTT2.out]; rintro e w3 ⟨v3, rfl, how3, hb3⟩; obtain ⟨o3, c3, rfl⟩ := how3.shapeN (n := n) HTl.out; obtain ⟨us, how3⟩ := how3.toR.named; obtain ⟨g, rfl, hgl, hgl'⟩ := how3.row (by omega); obtain ⟨r0, hr0, hrl, hrj⟩ := HT.out.row i3; obtain ⟨o4, c4, hu4, cx4, how4, hbl4, hset4⟩ := how3.at hr0; rw [hrl] at hu4 cx4 how4 hbl4 hset4; have HR0 := Lib.hid hr0; have HRJ := Lib.hid hrj; have HRL := Lib.hid hrl; clear hr0 hrj hrl; obtain ⟨gr, rfl, hgr1, hgr2⟩ := how4.row (by omega))
   have HX0 := hbl4 gr rfl
   have hc0 := how4.cell (k := 0) (HRJ.out 0 (by omega))
   have hf0 := how4.fz 0
   obtain ⟨-, -, -, -, ht0, ht1⟩ := HT.out.at (i := 0) (j := 0) (by omega)
   have B3 := hB.trans (hb3.mono hBs)
   have cx := (hv.below B3 (nl _)).cell0 (some_at0 (show k < xs.length by omega))
   have i4 : (0 : Int) < ((n - 0 : Nat) : Int) := by omega
   have hMod := mod_lt' (a := atT T 0 0 + at0 xs k) (show 0 < m by omega)
   have hN := Lib.hid how4
   have hS4 := Lib.hid hset4
   clear how4 hset4 hu4
   go_wp2_with fail
   have e1 : IntKind.i64.wrap (atT T 0 0 + at0 xs k) = atT T 0 0 + at0 xs k := IntWalk.i64_in _ (by omega)
   have e2 : (atT T 0 0 + at0 xs k).tmod m = (atT T 0 0 + at0 xs k) % m := Int.tmod_eq_emod_of_nonneg (by omega)
   go_still_tail 12, (by kernel_rfl)
   change wpList _ _ _ _ _ w3.drew
   have hg0 := gr_put (World.grownBy.refl w3 (some gr)) 0 (.int .i64 ((atT T 0 0 + at0 xs k) % m))
   have hOn := hS4.out _ _ (by rw [List.length_set, HRL.out]) hg0 (hN.out.put 0 ((atT T 0 0 + at0 xs k) % m))
   rw [addcT_set i3 HT.out _ HR0.out, ← HS.out] at hOn
   have Bn := below_put B3 (g := gr) (k := 0) (by omega) (.int .i64 ((atT T 0 0 + at0 xs k) % m))
   go_wp2
   exact ⟨⟨k, _, _, by omega, by go_num, rfl, hOn.r.ow.mono hBs, Bn.drew⟩, by simp [intOf]⟩
  ·obtain rfl : j = 0 := by omega
   rw [List.drop_zero] at hO
   go_wp2
   go_ret
   exact ⟨_, rfl, hO, hB⟩

end Go.Proofs.YtfpphfjlpgefaaaGreat
