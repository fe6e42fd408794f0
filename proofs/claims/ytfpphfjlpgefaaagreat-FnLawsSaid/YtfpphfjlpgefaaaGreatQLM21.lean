/- Lemmas. -/
import Derived.Test.YtfpphfjlpgefaaaGreatQLM19
import Derived.Test.YtfpphfjlpgefaaaGreatQLM12
import Derived.Test.YtfpphfjlpgefaaaGreatQLM7
import Derived.Test.YtfpphfjlpgefaaaGreatQLG3
import Derived.Test.YtfpphfjlpgefaaaGreatQLG1
import Derived.Test.YtfpphfjlpgefaaaGreatQLM5
import Derived.Test.YtfpphfjlpgefaaaGreatQLM8
import Derived.Test.YtfpphfjlpgefaaaGreatQLPut
import Derived.Test.YtfpphfjlpgefaaaGreatQLM18
import Derived.Test.YtfpphfjlpgefaaaGreatQLWeiJ
set_option maxHeartbeats 4000000
set_option maxRecDepth 100000
set_option linter.unusedSimpArgs false
set_option linter.unusedVariables false
namespace Go.Proofs.YtfpphfjlpgefaaaGreat
open Go.RowKit

theorem revL_range {m : Int} (hm : 0 < m) (n : Nat) (a : List Int) : ∀ x ∈ revL m n a, 0 ≤ x ∧ x < m := revTo_range hm n a _

def Rdo (lo hi : Nat) (w : World) (R : World → Prop) : Prop := ∀ x : World, (∀ k, k < w.heap.size → (k < lo ∨ hi ≤ k) → x.heap[k]? = w.heap[k]?) → R x
theorem Rdo.now {lo hi : Nat} {w : World} {R : World → Prop} (h : Rdo lo hi w R) : R w := h w (fun _ _ _ => rfl)
theorem Rdo.chg {lo hi : Nat} {w w' : World} {R : World → Prop} (h : Rdo lo hi w R) (hc : Chg lo hi w w') : Rdo lo hi w' R :=
 fun x hx => h x (fun k hk hd => (hx k (Nat.lt_of_lt_of_le hk hc.size) hd).trans (hc.block k hk hd))
theorem Rdo.below {lo hi : Nat} {w w' : World} {R : World → Prop} (h : Rdo lo hi w R) (hb : Below w.heap.size w w') : Rdo lo hi w' R := h.chg (Chg.of_below hb)
theorem Rds.chg {lo hi a b : Nat} {w w' : World} {R : World → Prop} (h : Rds a b w R) (hc : Chg lo hi w w') (hd : b ≤ lo ∨ hi ≤ a) : Rds a b w' R :=
 ⟨Nat.le_trans h.1 hc.size, fun u hu => h.2 u (fun k h1 h2 => (hu k h1 h2).trans (hc.block k (Nat.lt_of_lt_of_le h2 h.1) (by omega)))⟩

def LsAt (lo hi : Nat) (w : World) (b f : Nat) (m : Int) (n l : Nat) (L : Nat → List Int) : Prop :=
 ∀ k, k < n → ∃ o c, Rds lo hi w (fun x => (x.cell? ⟨b, f + k * 2, none⟩ = some (.int .i64 m) ∧ x.cell? ⟨b, f + k * 2 + 1, none⟩ = some (.slice o l c)) ∧ RdI x (.slice o l c) (L k))
theorem LsAt.below {lo hi : Nat} {w w' : World} {b f : Nat} {m : Int} {n l : Nat} {L : Nat → List Int} (h : LsAt lo hi w b f m n l L) (hb : Below w.heap.size w w') : LsAt lo hi w' b f m n l L :=
 fun k hk => by obtain ⟨o, c, h1⟩ := h k hk; exact ⟨o, c, h1.below hb⟩
theorem LsAt.put {lo hi : Nat} {w : World} {b f : Nat} {m : Int} {n l : Nat} {L : Nat → List Int} (h : LsAt lo hi w b f m n l L) {g : Nat} (hb : g < lo ∨ hi ≤ g) (j : Nat) (u : Value) : LsAt lo hi (w.setCell ⟨g, j, none⟩ u) b f m n l L :=
 fun k hk => by obtain ⟨o, c, h1⟩ := h k hk; exact ⟨o, c, h1.put hb j u⟩
theorem LsAt.chg {lo hi a z : Nat} {w w' : World} {b f : Nat} {m : Int} {n l : Nat} {L : Nat → List Int} (h : LsAt lo hi w b f m n l L) (hc : Chg a z w w') (hd : hi ≤ a ∨ z ≤ lo) : LsAt lo hi w' b f m n l L :=
 fun k hk => by obtain ⟨o, c, h1⟩ := h k hk; exact ⟨o, c, h1.chg hc hd⟩

theorem l03Both_c (m : Int) (n : Nat) (v u u' : Value) (t : List (List Int)) (xs ys : List Int) (w : World) (hv : RdT w v t) (hu : RdI w u xs) (hu' : RdI w u' ys) (hlx : xs.length = n) (hly : ys.length = n) (h1 : 1 ≤ n) (hn : n ≤ 1000) (hm : 2 ≤ m) (hm' : m ≤ 10000)
  (ht : PlaT m n t) (hx : ∀ x ∈ xs, 0 ≤ x ∧ x < m) (hy : ∀ x ∈ ys, 0 ≤ x ∧ x < m) (hx0 : at0 xs 0 = 0) (hy0 : at0 ys 0 = 0) :
  Calls Tryz.prog 202 #[.int .i64 m, v, u, u'] w fun e w' => ∃ v', e = .returned v' ∧ OwS w' w.heap.size v' (botL m n t xs ys) ∧ Below w.heap.size w w' := by
 subst hlx
 obtain ⟨o, c, rfl, hmt, -⟩ := id hv
 have hv' : RdT w (.slice o xs.length c) t := by rw [ht.1] at hv; exact hv
 rw [ht.1] at hmt ⊢
 have HLY := Lib.hid hly
 have HT := Lib.hid ht
 have HX0 := Lib.hid hx0
 have HY0 := Lib.hid hy0
 clear hly ht hv hx0 hy0
 unfold maxLen at hmt
 obtain ⟨bt, ft, rfl, -⟩ := hv'.rows (by have := HT.out.1; omega)
 have m0 : (m == 0) = false := by simp; omega
 have m1 : ¬ m = 0 := by omega
 go_enter Tryz.func202, Tryz.ntmps202
 go_wp2_with fail
 go_at_call 94
 refine (l03Powers_c m xs.length u xs _ hu rfl h1 hn hm (by omega) hx).mono ?_
 rintro e w1 ⟨vp, rfl, hop, hb1⟩
 obtain ⟨op, cp, rfl⟩ := hop.shapeN (n := xs.length) (powsL_len _ _ _ _)
 have hP1 := hop.rd
 clear hop
 go_wp2_with fail
 go_at_call 94
 refine (l03Powers_c m xs.length u' ys _ (hu'.below hb1 (nl _)) HLY.out h1 hn hm (by omega) hy).mono ?_
 rintro e w2 ⟨vq, rfl, hoq, hb2⟩
 obtain ⟨oq, cq, rfl⟩ := hoq.shapeN (n := xs.length) (powsL_len _ _ _ _)
 have hQ2 := hoq.rd
 have hP2 := hP1.below hb2 (nl _)
 clear hoq hP1
 obtain ⟨bp, fp, rfl, -⟩ := hP2.rows (by rw [powsL_len]; omega)
 obtain ⟨bq, fq, rfl, -⟩ := hQ2.rows (by rw [powsL_len]; omega)
 have B2 := hb1.trans (hb2.mono hb1.size)
 clear hb1 hb2
 go_wp2_with fail
 go_at_call 157
 refine (l03Zero_c ((xs.length : Int) - 1) xs.length _ rfl hn).mono ?_
 rintro e w3 ⟨vz, rfl, how, hb3⟩
 obtain ⟨oz, cz, rfl⟩ := how.shapeN (n := xs.length) (zeroT_len xs.length)
 have how := how.toR
 obtain ⟨lo, hlo⟩ : ∃ lo, w2.heap.size = lo := ⟨_, rfl⟩
 obtain ⟨hi, hhi⟩ : ∃ hi, w3.heap.size = hi := ⟨_, rfl⟩
 rw [hlo, hhi] at how
 obtain ⟨us, how⟩ := how.named
 obtain ⟨g, rfl, hgl, hgl'⟩ := how.row h1
 rw [botTo_0 m xs.length (atT t) (powL m xs.length xs) (powL m xs.length ys)] at how
 have B2s := B2.size
 have b3s := hb3.size
 go_wp2_with fail
 go_loopw [13] (fun s wr => ∃ i : Nat, i ≤ xs.length ∧ s = .int .i64 i ∧ OwSU us lo hi wr (.slice (some ⟨g, 0, none⟩) xs.length cz) (botTo m xs.length (atT t) (powL m xs.length xs) (powL m xs.length ys) i 0) ∧ Chg lo hi w3 wr) (fun i _ => xs.length - (intOf i).toNat)
 case atStart => exact ⟨0, Nat.zero_le _, rfl, how, Chg.refl _ _ _⟩
 case round =>
  obtain ⟨i, hi', rfl, hO, hC⟩ := hrel
  by_cases hlt : i < xs.length
  ·have i0 : (0 : Int) ≤ (i : Int) := by omega
   have i1 : (i : Int) < (xs.length : Int) := by omega
   go_wp2_with fail
   go_loopw [14] (fun s wr => ∃ j : Nat, j ≤ xs.length - i ∧ s = .int .i64 j ∧ OwSU us lo hi wr (.slice (some ⟨g, 0, none⟩) xs.length cz) (botTo m xs.length (atT t) (powL m xs.length xs) (powL m xs.length ys) i j) ∧ Chg lo hi w3 wr) (fun i' _ => xs.length - i - (intOf i').toNat)
   case atStart => exact ⟨0, Nat.zero_le _, rfl, hO, hC⟩
   case round =>
    clear hO hC
    obtain ⟨j, hj, rfl, hO, hC⟩ := hrel
    by_cases hjl : j < xs.length - i
    ·obtain ⟨r1, hr1, hl1, hj1⟩ := HT.out.row hlt
     obtain ⟨p1, q1, cx0, rx0⟩ := hv'.row hr1
     rw [hl1] at cx0 rx0
     obtain ⟨b1, f1, rfl, -⟩ := rx0.cells (by omega)
     have ex0 := rx0.cell0 (hj1 j hjl)
     obtain ⟨o3, c3, y0, rp⟩ := hP2.row (powsL_get (show i < xs.length by omega))
     obtain ⟨o4, c4, z0, rq⟩ := hQ2.row (powsL_get (show j < xs.length by omega))
     rw [powL_len] at y0 rp z0 rq
     obtain ⟨b3, f3, rfl, -⟩ := rp.cells (by rw [powL_len]; omega)
     obtain ⟨b4, f4, rfl, -⟩ := rq.cells (by rw [powL_len]; omega)
     clear hr1 hl1 hj1
     obtain ⟨-, -, -, -, hxa, hxb⟩ := HT.out.at (i := i) (j := j) (by omega)
     have j0 : (0 : Int) ≤ (j : Int) := by omega
     have j1 : (j : Int) < ((xs.length - i : Nat) : Int) := by omega
     have j2 : (i : Int) + (j : Int) < (xs.length : Int) := by omega
     have j3 : (j : Int) < (xs.length : Int) := by omega
     rw [bpT_0] at hO
     go_wp2_with fail
     go_loopw [15] (fun s wr => ∃ k : Nat, i ≤ k ∧ k ≤ xs.length ∧ s = .int .i64 k ∧ OwSU us lo hi wr (.slice (some ⟨g, 0, none⟩) xs.length cz) (bpT m xs.length (atT t) (powL m xs.length xs) (powL m xs.length ys) i j k j) ∧ Chg lo hi w3 wr) (fun i' _ => xs.length - (intOf i').toNat)
     case atStart => exact ⟨i, Nat.le_refl _, by omega, rfl, hO, hC⟩
     case round =>
      clear hO hC
      obtain ⟨k, hik, hk, rfl, hO, hC⟩ := hrel
      have Br2 := hC.below hb3 (by omega) b3s
      have Br := B2.trans (Br2.mono B2s)
      by_cases hkl : k < xs.length
      ·have cx := keep_cell Br (nl _) cx0
       have ex := keep_cell Br (nl _) ex0
       have k0 : (0 : Int) ≤ (k : Int) := by omega
       have k1 : (k : Int) < (xs.length : Int) := by omega
       cases hx0 : (atT t i j != 0)
       ·rw [bpT_skip (by simpa using hx0)] at hO
        go_wp2
        exact ⟨⟨j + 1, by omega, by go_num, hO, hC⟩, by simp [intOf]; omega⟩
       ·obtain ⟨o5, c5, hu5, cx5, how5, hbl5, -⟩ := hO.at (bpT_row hkl)
        rw [bpR_len] at hu5 cx5 how5 hbl5
        obtain ⟨gr, rfl, hgr1, hgr2⟩ : ∃ gr, o5 = some ⟨gr, 0, none⟩ ∧ lo ≤ gr ∧ gr < wr.heap.size := how5.row (by omega)
        have hgr3 := hbl5 gr rfl
        have HU5 := Lib.hid hu5
        clear how5 hbl5 hu5
        go_wp2_with fail
        clear cx ex cx5
        go_loopw [17] (fun s wr => ∃ l : Nat, j ≤ l ∧ (l ≤ xs.length - k ∨ l = j) ∧ s = .int .i64 l ∧ OwSU us lo hi wr (.slice (some ⟨g, 0, none⟩) xs.length cz) (bpT m xs.length (atT t) (powL m xs.length xs) (powL m xs.length ys) i j k l) ∧ Chg lo hi w3 wr) (fun i' _ => xs.length - k - (intOf i').toNat)
        case atStart => exact ⟨j, Nat.le_refl _, .inr rfl, rfl, hO, hC⟩
        case round =>
         clear hO hC Br2 Br
         obtain ⟨l, hjl', hl, rfl, hO, hC⟩ := hrel
         have Br2 := hC.below hb3 (by omega) b3s
         have Br := B2.trans (Br2.mono B2s)
         by_cases hll : l < xs.length - k
         ·have cx := keep_cell Br (nl _) cx0
          have ex := keep_cell Br (nl _) ex0
          have cp := keep_cell Br2 (nl _) y0
          have cq := keep_cell Br2 (nl _) z0
          have ep := (rp.below Br2 (nl _)).cell0 (some_at0 (show k < (powL m xs.length xs i).length by rw [powL_len]; omega))
          have eq := (rq.below Br2 (nl _)).cell0 (some_at0 (show l < (powL m xs.length ys j).length by rw [powL_len]; omega))
          obtain ⟨hpa, hpb⟩ := at0_range (m := m) (by omega) (powL_range (m := m) (n := xs.length) (a := xs) (k := i) (by omega)) k
          obtain ⟨hqa, hqb⟩ := at0_range (m := m) (by omega) (powL_range (m := m) (n := xs.length) (a := ys) (k := j) (by omega)) l
          obtain ⟨o6, c6, hu6, -, how6, -, hset6⟩ := hO.at (bpT_row hkl)
          rw [bpR_len] at hu6 how6 hset6
          obtain ⟨rfl, rfl⟩ : some ⟨gr, 0, none⟩ = o6 ∧ c5 = c6 := by rw [HU5.out] at hu6; simpa using hu6
          have hc0 := how6.cell (k := l) (bpR_get (by omega))
          have hf0 := how6.fz l
          have hN := Lib.hid how6
          have hS := Lib.hid hset6
          have hSt := Lib.hid (bpT_set (m := m) (n := xs.length) (t := atT t) (P := powL m xs.length xs) (Q := powL m xs.length ys) hik hjl' (show k + l < xs.length by omega))
          clear how6 hset6 hu6
          have l0 : (0 : Int) ≤ (l : Int) := by omega
          have l1 : (l : Int) < ((xs.length - k : Nat) : Int) := by omega
          have l2 : (k : Int) + (l : Int) < (xs.length : Int) := by omega
          have l3 : (l : Int) < (xs.length : Int) := by omega
          generalize hP' : at0 (powL m xs.length xs i) k = pk at ep hpa hpb hSt
          generalize hQ' : at0 (powL m xs.length ys j) l = ql at eq hqa hqb hSt
          generalize hA' : botS xs.length (atT t) (powL m xs.length xs) (powL m xs.length ys) i j k l = sa at hc0 hSt
          obtain ⟨hM0, hM1⟩ := prod_fits hxa hpa hxb hpb (show m ≤ 3000000000 by omega)
          have hMm := mod_lt' (a := atT t i j * pk) (show 0 < m by omega)
          obtain ⟨hN0, hN1⟩ := prod_fits hMm.1 hqa hMm.2 hqb (show m ≤ 3000000000 by omega)
          have hCm := mod_lt' (a := sa) (show 0 < m by omega)
          clear hP' hQ' hA'
          go_wp2_with fail
          have e3 : IntKind.i64.wrap (atT t i j * pk) = atT t i j * pk := IntWalk.i64_in _ (by omega)
          have e4 : (atT t i j * pk).tmod m = atT t i j * pk % m := Int.tmod_eq_emod_of_nonneg (by omega)
          have e5 : IntKind.i64.wrap (atT t i j * pk % m * ql) = atT t i j * pk % m * ql := IntWalk.i64_in _ (by omega)
          have e1 : IntKind.i64.wrap (sa % m + atT t i j * pk % m * ql) = sa % m + atT t i j * pk % m * ql := IntWalk.i64_in _ (by omega)
          have e2 : (sa % m + atT t i j * pk % m * ql).tmod m = (sa % m + atT t i j * pk % m * ql) % m := Int.tmod_eq_emod_of_nonneg (by omega)
          go_still_tail 35, (by kernel_rfl)
          change wpList _ _ _ _ _ wr.drew
          have HE := Lib.hid (show (sa % m + atT t i j * pk % m * ql) % m = (sa + atT t i j * pk % m * ql) % m from emod_congr_add (emod_idem _ _) rfl)
          have hg0 := gr_put (gr_drewN (World.grownBy.refl wr (some gr)) 1) l (.int .i64 ((sa % m + atT t i j * pk % m * ql) % m))
          have hOn := hS.out _ _ (by rw [List.length_set, bpR_len]) hg0 ((hN.out.drewN 1).put l _)
          have hCn := hC.grown hg0 hgr3.1 hgr3.2.1
          rw [hSt.out, HE.out] at hOn
          rw [HE.out] at hCn
          go_wp2
          exact ⟨⟨l + 1, by omega, by omega, by go_num, hOn, hCn⟩, by simp [intOf]; omega⟩
         ·rw [bpT_line (by omega)] at hO
          have l2 : ¬ (k : Int) + (l : Int) < (xs.length : Int) := by omega
          go_wp2
          exact ⟨⟨k + 1, by omega, by omega, by go_num, hO, hC⟩, by simp [intOf]; omega⟩
      ·obtain rfl : k = xs.length := by omega
       rw [bpT_all (powL_low HX0.out i) (powL_low HY0.out j)] at hO
       go_wp2
       exact ⟨⟨j + 1, by omega, by go_num, hO, hC⟩, by simp [intOf]; omega⟩
    ·obtain rfl : j = xs.length - i := by omega
     rw [botTo_row rfl] at hO
     have j2 : ¬ (i : Int) + ((xs.length - i : Nat) : Int) < (xs.length : Int) := by omega
     go_wp2
     exact ⟨⟨i + 1, by omega, by go_num, hO, hC⟩, by simp [intOf]; omega⟩
  ·obtain rfl : i = xs.length := by omega
   have Br2 := hC.below hb3 (by omega) b3s
   have Br := B2.trans (Br2.mono B2s)
   go_wp2
   go_ret
   exact ⟨_, rfl, hO.r.ow.mono (by omega), Br⟩


theorem botM_len (m : Int) (n : Nat) (t : List (List Int)) (a b : List Int) : (botL m n t a b).length = n := tri_len _ _
theorem botM_ok {m : Int} (hm : 0 < m) (n : Nat) (t : List (List Int)) (a b : List Int) : PlaT m n (botL m n t a b) := botTo_ok hm _ _ _ _ _ _
def cooT (m : Int) (n : Nat) (t : List (List Int)) (a : List Int) : List (List Int) := hornT m n (botL m n t (revL m n a) (revL m n a)) a
theorem cooT_len (m : Int) (n : Nat) (t : List (List Int)) (a : List Int) : (cooT m n t a).length = n := hornT_len _ _ _ _
theorem l03Both2_c (m : Int) (n : Nat) (v u : Value) (t : List (List Int)) (xs : List Int) (w : World) (hv : RdT w v t) (hu : RdI w u xs) (hlx : xs.length = n) (h1 : 1 ≤ n) (hn : n ≤ 1000) (hm : 2 ≤ m) (hm' : m ≤ 10000)
  (ht : PlaT m n t) (hx : ∀ x ∈ xs, 0 ≤ x ∧ x < m) (hx0 : at0 xs 0 = 0) :
  Calls Tryz.prog 179 #[.int .i64 m, v, u] w fun e w' => ∃ v', e = .returned v' ∧ OwS w' w.heap.size v' (botL m n t xs xs) ∧ Below w.heap.size w w' := by
 have HX := Lib.hid hx0
 clear hx0
 go_enter Tryz.func179, Tryz.ntmps179
 go_wp2_with fail
 refine (l03Both_c m n _ _ _ t xs xs _ hv hu hu hlx hlx h1 hn hm hm' ht hx hx HX.out HX.out).mono ?_
 rintro e w1 ⟨v', rfl, how, hb⟩
 go_wp2
 go_ret
 exact ⟨_, rfl, how, hb⟩

theorem l06Conjugate_c (m : Int) (n : Nat) (v u : Value) (t : List (List Int)) (xs : List Int) (w : World) (hv : RdT w v t) (hu : RdI w u xs) (hl : xs.length = n) (h1 : 2 ≤ n) (hn : n ≤ 1000) (hm : 2 ≤ m) (hm' : m ≤ 10000) (ht : PlaT m n t) (hx : ∀ x ∈ xs, 0 ≤ x ∧ x < m) :
  Calls Tryz.prog 122 #[.int .i64 m, v, u] w fun e w' => ∃ v', e = .returned v' ∧ OwS w' w.heap.size v' (cooT m n t xs) ∧ Below w.heap.size w w' := by
 subst hl
 obtain ⟨o', c', rfl, hmx, -⟩ := id hu
 unfold maxLen at hmx
 have HRl := Lib.hid (revL_len m xs.length xs)
 have HRr := Lib.hid (revL_range (m := m) (show 0 < m by omega) xs.length xs)
 have HR0 := Lib.hid (show at0 (revL m xs.length xs) 0 = 0 from revTo_0 _ _ _ _)
 have HBo := Lib.hid (botM_ok (m := m) (show 0 < m by omega) xs.length t (revL m xs.length xs) (revL m xs.length xs))
 go_enter Tryz.func122, Tryz.ntmps122
 go_wp2_with fail
 refine (l02Reverse_c m ((xs.length : Int) - 1) xs.length _ xs _ (by omega) hu rfl (by omega) (by omega) (by omega) (by omega) hx).mono ?_
 rintro e w1 ⟨vr, rfl, hor, B1⟩
 obtain ⟨or, cr, rfl⟩ := hor.shapeN (n := xs.length) HRl.out
 go_wp2_with fail
 refine (l03Both2_c m xs.length _ _ t (revL m xs.length xs) _ (hv.below B1 (nl _)) hor.rd HRl.out (by omega) (by omega) hm hm' ht HRr.out HR0.out).mono ?_
 rintro e w2 ⟨vt, rfl, hot, hb2⟩
 obtain ⟨ot, ct, rfl⟩ := hot.shapeN (n := xs.length) (botM_len _ _ _ _ _)
 have B2 := B1.trans (hb2.mono B1.size)
 go_wp2_with fail
 refine (l03After_c m xs.length _ _ xs _ _ (hu.below B2 (nl _)) hot.rd (by omega) (by omega) (by omega) (by omega) (by omega) hx HBo.out).mono ?_
 rintro e w3 ⟨vl, rfl, hol, hb3⟩
 have hBs := B2.size
 have B3 := B2.trans (hb3.mono hBs)
 go_wp2
 go_ret
 exact ⟨_, rfl, hol.mono hBs, B3⟩


def TDr (m : Int) (N : Nat) (w w' : World) (B n b : Nat) (e : Ending) : Prop := ∃ v t, e = .returned v ∧ OwS w' w.heap.size v t ∧ PlaT m N t ∧ DW B n b w w'
theorem l08Any_d (B n b : Nat) (m : Int) (D : Nat) (w : World) (hs : Src w B n b) (hm : 2 ≤ m) (hm' : m ≤ 10000) (hD : 1 ≤ D) (hD' : D ≤ 100) :
  Calls Tryz.prog 161 #[.pointer (some ⟨b, 0, none⟩), .int .i64 m, .int .i64 D] w fun e w' => TDr m (D + 1) w w' B n b e := by
 go_enter Tryz.func161, Tryz.ntmps161
 go_wp2_with fail
 refine (next_d B n b 6 w hs).mono ?_
 rintro e w1 ⟨r, rfl, r0, r1, r2, hd1, hz1⟩
 have r1 := r1 (by omega)
 clear r2 hz1
 by_cases c0 : r = 0
 ·subst c0
  go_wp2_with fail
  refine (l08Multiplicative_e m D 0 w1 hD hD' hm (by omega) (by omega)).mono ?_
  rintro e w2 ⟨v, t, rfl, ho, hp, hb⟩
  go_wp2
  go_ret
  exact ⟨_, t, rfl, ho.mono hd1.size, hp, hd1.below hb⟩
 by_cases c1 : r = 1
 ·subst c1
  go_wp2_with fail
  refine (next_d B n b m w1 hd1.src).mono ?_
  rintro e w2 ⟨x, rfl, x0, x1, x2, hd2, hz2⟩
  have x1 := x1 (by omega)
  have hd2 := hd1.trans hd2
  go_wp2_with fail
  refine (l08Multiplicative_e m D x w2 hD hD' hm x0 x1).mono ?_
  rintro e w3 ⟨v, t, rfl, ho, hp, hb⟩
  go_wp2
  go_ret
  exact ⟨_, t, rfl, ho.mono hd2.size, hp, hd2.below hb⟩
 by_cases c2 : r = 2
 ·subst c2
  go_wp2_with fail
  refine (next_d B n b m w1 hd1.src).mono ?_
  rintro e w2 ⟨x, rfl, x0, x1, x2, hd2, hz2⟩
  have x1 := x1 (by omega)
  have hd2 := hd1.trans hd2
  go_wp2_with fail
  refine (l08Multiplicative_e m D x w2 hD hD' hm x0 x1).mono ?_
  rintro e w3 ⟨v, t, rfl, ho, hp, hb⟩
  go_wp2
  go_ret
  exact ⟨_, t, rfl, ho.mono hd2.size, hp, hd2.below hb⟩
 by_cases c3 : r = 3
 ·subst c3
  go_wp2_with fail
  refine (next_d B n b m w1 hd1.src).mono ?_
  rintro e w2 ⟨x, rfl, x0, x1, x2, hd2, hz2⟩
  have x1 := x1 (by omega)
  have hd2 := hd1.trans hd2
  go_wp2_with fail
  refine (l08Tangent_e m D x w2 hD hD' hm hm' x0 x1).mono ?_
  rintro e w3 ⟨v, t, rfl, ho, hp, hb⟩
  go_wp2
  go_ret
  exact ⟨_, t, rfl, ho.mono hd2.size, hp, hd2.below hb⟩
 by_cases c5 : r = 4 ∧ m % 2 = 1
 ·obtain ⟨rfl, hodd⟩ := c5
  have hod2 : (m % 2 == 1) = true := by simpa using hodd
  have ew : IntKind.i64.wrap (1 : Int) = 1 := IntWalk.i64_in _ (by omega)
  go_wp2_with fail
  refine (next_d B n b m w1 hd1.src).mono ?_
  rintro e w2 ⟨x, rfl, x0, x1, x2, hd2, hz2⟩
  have x1 := x1 (by omega)
  have hd2 := hd1.trans hd2
  go_wp2_with fail
  refine (next_d B n b m w2 hd2.src).mono ?_
  rintro e w3 ⟨y, rfl, y0, y1, y2, hd3, hz3⟩
  have y1 := y1 (by omega)
  have hd3 := hd2.trans hd3
  go_wp2_with fail
  refine (l08Euler_e m D x y w3 hD hD' hm hm' x0 x1 y0 y1).mono ?_
  rintro e w4 ⟨v, t, rfl, ho, hp, hb⟩
  go_wp2
  go_ret
  exact ⟨_, t, rfl, ho.mono hd3.size, hp, hd3.below hb⟩
 have c0' : (r == 0) = false := by simpa using c0
 have c1' : (r == 1) = false := by simpa using c1
 have c2' : (r == 2) = false := by simpa using c2
 have c3' : (r == 3) = false := by simpa using c3
 by_cases c4 : r = 4
 ·have hodd : ¬ m % 2 = 1 := fun h => c5 ⟨c4, h⟩
  have hod2 : (m % 2 == 1) = false := by simpa using hodd
  subst c4
  clear c5
  go_wp2_with fail
  refine (l08DrawList_d B n b m w1 hd1.src hm).mono ?_
  rintro e w2 ⟨v2, xs, rfl, hO2, hl2, hx2, hd2⟩
  have HX := Lib.hid hx2
  obtain ⟨o2, cc2, rfl⟩ := hO2.shapeN (n := 5) hl2
  have HL := Lib.hid hl2
  clear hl2 hx2
  have hd2 := hd1.trans hd2
  go_wp2_with fail
  refine (l08Weierstrass_c m D (D + 1) _ xs w2 (by omega) hO2.rd HL.out (by omega) (by omega) hm hm' HX.out).mono ?_
  rintro e w3 ⟨v, rfl, ho, hb⟩
  go_wp2
  go_ret
  exact ⟨_, _, rfl, ho.mono hd2.size, hornT_ok (by omega) _ _ _, hd2.below hb⟩
 ·have c4' : (r == 4) = false := by simpa using c4
  clear c5
  go_wp2_with fail
  refine (l08DrawList_d B n b m w1 hd1.src hm).mono ?_
  rintro e w2 ⟨v2, xs, rfl, hO2, hl2, hx2, hd2⟩
  have HX := Lib.hid hx2
  obtain ⟨o2, cc2, rfl⟩ := hO2.shapeN (n := 5) hl2
  have HL := Lib.hid hl2
  clear hl2 hx2
  have hd2 := hd1.trans hd2
  go_wp2_with fail
  refine (l08Weierstrass_c m D (D + 1) _ xs w2 (by omega) hO2.rd HL.out (by omega) (by omega) hm hm' HX.out).mono ?_
  rintro e w3 ⟨v, rfl, ho, hb⟩
  go_wp2
  go_ret
  exact ⟨_, _, rfl, ho.mono hd2.size, hornT_ok (by omega) _ _ _, hd2.below hb⟩

def LwD (m : Int) (N : Nat) (w w' : World) (B n b : Nat) (e : Ending) : Prop := ∃ v t, e = .returned (.agg #[.int .i64 m, v]) ∧ OwS w' w.heap.size v t ∧ PlaT m N t ∧ DW B n b w w'
theorem l04With_d (B n b : Nat) (m : Int) (D : Nat) (w : World) (hs : Src w B n b) (hm : 2 ≤ m) (hm' : m ≤ 10000) (hD : 1 ≤ D) (hD' : D ≤ 100) :
  Calls Tryz.prog 104 #[.pointer (some ⟨b, 0, none⟩), .int .i64 m, .int .i64 D] w fun e w' => LwD m (D + 1) w w' B n b e := by
 have hlt := hs.lt
 go_enter Tryz.func104, Tryz.ntmps104
 go_wp2_with fail
 have hR0 := RB2.mk1 w (.int .i64 0) (.slice none 0 0) 26
 have hd0 : DW B n b w (w.alloc (.cells #[.int .i64 0, .slice none 0 0] 26)) := (DW.refl hs).alloc _
 have hz0 := hd0.size
 generalize w.alloc (.cells #[.int .i64 0, .slice none 0 0] 26) = w0 at hR0 hd0 hz0 ⊢
 have hw0 := hR0.1.lt
 refine (l08Any_d B n b m D w0 hd0.src hm hm' hD hD').mono ?_
 rintro e w1 ⟨v, t, rfl, hO1, hp, hd1⟩
 obtain ⟨o, c, rfl⟩ := hO1.shapeN (n := D + 1) hp.1
 have HP := Lib.hid hp
 have hR1 := hR0.dw hd1 hlt
 have hd1 := hd0.trans hd1
 clear hp hd0 hR0
 go_wp2_with fail
 refine (next_d B n b 3 w1 hd1.src).mono ?_
 rintro e w2 ⟨x, rfl, x0, x1, x2, hdx, hz2⟩
 have hR2 := hR1.dw hdx hlt
 have hO2 := hO1.dw hdx (by omega)
 have hd2 := hd1.trans hdx
 clear hz2 x1 x2 hR1 hO1 hd1 hdx
 by_cases hx : 0 < x
 ·go_wp2_with fail
  refine (l04DrawCurve_d B n b m D w2 hd2.src hm hD hD').mono ?_
  rintro e w3 ⟨vc, xs, rfl, hC, hl, hxr, hdc⟩
  obtain ⟨oc, cc, rfl⟩ := hC.shapeN (n := D + 1) hl
  have HL := Lib.hid hl
  have HX := Lib.hid hxr
  have hR3 := hR2.dw hdc hlt
  have hO3 := hO2.dw hdc (by omega)
  have hd3 := hd2.trans hdc
  clear hl hxr hR2 hO2 hd2 hdc
  go_wp2_with fail
  refine (l06Conjugate_c m (D + 1) _ _ t xs w3 hO3.rd hC.rd HL.out (by omega) (by omega) hm hm' HP.out HX.out).mono ?_
  rintro e w4 ⟨v4, rfl, ho4, hb4⟩
  obtain ⟨o4, c4, rfl⟩ := ho4.shapeN (n := D + 1) (cooT_len _ _ _ _)
  have hR4 := hR3.below hb4 (nl _)
  have hd4 := hd3.below hb4
  have hz3 := hd3.size
  go_wp2_with fail
  refine (l03Make_c m _ (D + 1) _ w4).mono ?_
  rintro e w7 ⟨rfl, hb7⟩
  have hR7 := hR4.below hb7 (nl _)
  have hO7 := ho4.below hb7
  have hd7 := hd4.below hb7
  have hw3 : w.heap.size < w3.heap.size := hR3.1.lt
  obtain ⟨⟨r0, r1⟩, rf⟩ := id hR7
  go_wp2_with fail
  refine bodyPost_ret (v := .agg #[.int .i64 m, .slice o4 (D + 1) c4]) (by simp [results, Tryz.results104, go_sem, r0, r1]) rfl ⟨_, _, rfl, ?_, (show PlaT m (D + 1) (cooT m (D + 1) t xs) from hornT_ok (by omega) _ _ _), ?_⟩
  ·exact ((hO7.low (by omega) _).low (by omega) _).mono (by omega)
  ·exact (hd7.put (nl _) _ _).put (nl _) _ _
 ·go_wp2_with fail
  refine (l03Make_c m _ (D + 1) _ w2).mono ?_
  rintro e w7 ⟨rfl, hb7⟩
  have hR7 := hR2.below hb7 (nl _)
  have hO7 := hO2.below hb7
  have hd7 := hd2.below hb7
  obtain ⟨⟨r0, r1⟩, rf⟩ := id hR7
  go_wp2_with fail
  refine bodyPost_ret (v := .agg #[.int .i64 m, .slice o (D + 1) c]) (by simp [results, Tryz.results104, go_sem, r0, r1]) rfl ⟨_, _, rfl, ?_, HP.out, ?_⟩
  ·exact ((hO7.low (by omega) _).low (by omega) _).mono (by omega)
  ·exact (hd7.put (nl _) _ _).put (nl _) _ _
theorem lwith_i (B n b : Nat) (m d : Int) (D : Nat) (w : World) (hs : Src w B n b) (hm : 2 ≤ m) (hm' : m ≤ 10000) (hD : 1 ≤ D) (hD' : D ≤ 100) (hd : d = D) :
  Calls Tryz.prog 104 #[.pointer (some ⟨b, 0, none⟩), .int .i64 m, .int .i64 d] w fun e w' => LwD m (D + 1) w w' B n b e := by subst hd; exact l04With_d B n b m D w hs hm hm' hD hD'

theorem l04Draw_d (B n b : Nat) (w : World) (hs : Src w B n b) :
  Calls Tryz.prog 73 #[.pointer (some ⟨b, 0, none⟩)] w fun e w' => ∃ m N, (2 ≤ m ∧ m ≤ 10000) ∧ (2 ≤ N ∧ N ≤ 11) ∧ LwD m N w w' B n b e := by
 have hlt := hs.lt
 go_enter Tryz.func73, Tryz.ntmps73
 go_wp2_with fail
 have hR0 := RB2.mk1 w (.int .i64 0) (.slice none 0 0) 26
 have hd0 : DW B n b w (w.alloc (.cells #[.int .i64 0, .slice none 0 0] 26)) := (DW.refl hs).alloc _
 have hz0 := hd0.size
 generalize w.alloc (.cells #[.int .i64 0, .slice none 0 0] 26) = w0 at hR0 hd0 hz0 ⊢
 refine (l04DrawModulus_d B n b w0 hd0.src).mono ?_
 rintro e w1 ⟨m, rfl, hm, hd1⟩
 have hR1 := hR0.dw hd1 hlt
 have hd1 := hd0.trans hd1
 go_wp2_with fail
 refine (next_d B n b _ w1 hd1.src).mono ?_
 rintro e w2 ⟨x, rfl, x0, x1, x2, hd2, hz2⟩
 have x1 := x1 (by omega)
 have hR2 := hR1.dw hd2 hlt
 have hd2 := hd1.trans hd2
 clear hz2 x2
 go_wp2_with fail
 refine (pick_d B n b _ _ [1, 2, 3, 4, 6, 9, x] _ w2 hd2.src rfl rfl rfl (by simp) (by simp)).mono ?_
 rintro e w5 ⟨t, rfl, ht, hd5, hz5⟩
 have ht : 0 ≤ t ∧ t ≤ 9 := by simp at ht; omega
 obtain ⟨t0, t9⟩ := ht
 have hR5 := hR2.dw hd5 hlt
 have hd5 := hd2.trans hd5
 clear hz5
 go_wp2_with fail
 refine (lwith_i B n b m (1 + t) (1 + t).toNat w5 hd5.src hm.1 hm.2 (by omega) (by omega) (by omega)).mono ?_
 rintro e w6 ⟨v, xss, rfl, hO6, hp6, hd6⟩
 obtain ⟨o, c, rfl⟩ := hO6.shape
 have hR6 := hR5.dw hd6 hlt
 have hz6 := hd5.size
 have hd6 := hd5.trans hd6
 have HP := Lib.hid hp6
 clear hp6
 have hlw := hR0.1.lt
 have hz15 : w.heap.size < w5.heap.size := hR5.1.lt
 obtain ⟨⟨r0, r1⟩, rf⟩ := id hR6
 go_wp2_with fail
 refine bodyPost_ret (v := .agg #[.int .i64 m, .slice o xss.length c]) (by simp [results, Tryz.results73, go_sem, r0, r1]) rfl ⟨m, (1 + t).toNat + 1, hm, ⟨by omega, by omega⟩, _, xss, rfl, ?_, HP.out, ?_⟩
 ·exact ((hO6.low (by omega) _).low (by omega) _).mono (by omega)
 ·exact (hd6.put (nl _) _ _).put (nl _) _ _
end Go.Proofs.YtfpphfjlpgefaaaGreat
