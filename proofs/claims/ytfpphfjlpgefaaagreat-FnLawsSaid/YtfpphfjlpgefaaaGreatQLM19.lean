/- Lemmas. -/
import Derived.Test.YtfpphfjlpgefaaaGreatQLM18
import Derived.Test.YtfpphfjlpgefaaaGreatQLM8
import Derived.Test.YtfpphfjlpgefaaaGreatQLG3
import Derived.Test.YtfpphfjlpgefaaaGreatQLM12
import Derived.Test.YtfpphfjlpgefaaaGreatQLM7
import Derived.Test.YtfpphfjlpgefaaaGreatQLM5
import Derived.Test.YtfpphfjlpgefaaaGreatQLG13
import Derived.Test.YtfpphfjlpgefaaaGreatQLG12
import Derived.Test.YtfpphfjlpgefaaaGreatQLG1
import Derived.Test.YtfpphfjlpgefaaaGreatQLG2
set_option maxHeartbeats 4000000
set_option maxRecDepth 100000
set_option linter.unusedSimpArgs false
set_option linter.unusedVariables false
namespace Go.Proofs.YtfpphfjlpgefaaaGreat
open Go.RowKit

theorem TabP.rds {m : Int} {N lo hi : Nat} {w : World} {v : Value} (h : TabP m N lo hi w v) : ∃ t, RdT w v t ∧ PlaT m N t := by
 obtain ⟨t, h1, h2⟩ := h; exact ⟨t, h1.ow.rd, h2⟩
def RowF (m : Int) (n lo hi : Nat) (w : World) (v : Value) : Prop := ∃ xs : List Int, Rds lo hi w (fun x => RdI x v xs) ∧ xs.length = n ∧ ∀ x ∈ xs, 0 ≤ x ∧ x < m
theorem RowP.fix {m : Int} {n lo : Nat} {w : World} {v : Value} (h : RowP m n lo w v) (hl : lo ≤ w.heap.size) : RowF m n lo w.heap.size w v := by
 obtain ⟨xs, h1, h2⟩ := h; exact ⟨xs, h1.rds hl, h2⟩
theorem RowF.at {m : Int} {n lo hi b off k c : Nat} {w : World} (h : RowF m n lo hi w (.slice (some ⟨b, off, none⟩) k c)) {j : Nat} (hj : j < n) : ∃ x, w.cell? ⟨b, off + j, none⟩ = some (.int .i64 x) ∧ 0 ≤ x ∧ x < m := by
 obtain ⟨xs, h1, h2, h3⟩ := h
 have hr := h1.now
 have hj' : j < xs.length := by omega
 obtain ⟨b', off', he, hc⟩ := hr.cells (by omega)
 obtain ⟨rfl, rfl⟩ : b = b' ∧ off = off' := by simpa using he
 exact ⟨xs[j], hc j _ (by simp [hj']), h3 _ (List.getElem_mem _)⟩
theorem RowF.below {m : Int} {n lo hi : Nat} {w w' : World} {v : Value} (h : RowF m n lo hi w v) (hb : Below w.heap.size w w') : RowF m n lo hi w' v := by
 obtain ⟨xs, h1, h2⟩ := h; exact ⟨xs, h1.below hb, h2⟩
theorem RowF.put {m : Int} {n lo hi : Nat} {w : World} {v : Value} (h : RowF m n lo hi w v) {b : Nat} (hb : hi ≤ b) (k : Nat) (x : Value) : RowF m n lo hi (w.setCell ⟨b, k, none⟩ x) v := by
 obtain ⟨xs, h1, h2⟩ := h; exact ⟨xs, h1.put (.inr hb) k x, h2⟩
theorem TabP.put {m : Int} {N lo hi : Nat} {w : World} {v : Value} (h : TabP m N lo hi w v) {b : Nat} (hb : b < lo ∨ hi ≤ b) (k : Nat) (x : Value) : TabP m N lo hi (w.setCell ⟨b, k, none⟩ x) v :=
 h.stay (fun j h1 h2 => heap_setCell_other w ⟨b, k, none⟩ j x (fun e => by simp at e; omega))

theorem l08Euler_e (m : Int) (D : Nat) (a e0' : Int) (w : World) (hD : 1 ≤ D) (hD' : D ≤ 100) (hm : 2 ≤ m) (hm' : m ≤ 10000) (ha0 : 0 ≤ a) (ha1 : a < m) (he0 : 0 ≤ e0') (he1 : e0' < m) :
  Calls Tryz.prog 197 #[.int .i64 m, .int .i64 D, .int .i64 a, .int .i64 e0'] w fun e w' => TEnd m (D + 1) w w' e := by
 have m0 : (m == 0) = false := by simp; omega
 have m1 : ¬ m = 0 := by omega
 have h1m := one_tmod hm
 go_enter Tryz.func197, Tryz.ntmps197
 go_wp2_with fail
 refine (l08Root_e m D a e0' _ hD hD' hm hm' ha0 ha1 he0 he1).mono ?_
 rintro e w1 ⟨vr, rfl, hR, hb1⟩
 have hR1 := hR.fix hb1.size
 obtain ⟨gr, cr, rfl, hr0, hr1⟩ := hR.rows (by omega)
 clear hR
 go_wp2_with fail
 refine (l03Zero_c _ (D + 1) _ (by omega) (by omega)).mono ?_
 rintro e w2 ⟨vt, rfl, hO2, hb2⟩
 have hT2 : TabP m (D + 1) w1.heap.size w2.heap.size w2 vt := ⟨_, hO2.toR, zeroT_ok (by omega) _⟩
 obtain ⟨gt, ct, rfl, ht0, ht1⟩ := hT2.rows (by omega)
 have hR2 := hR1.below hb2
 have B2 := hb1.trans (hb2.mono hb1.size)
 clear hO2 hR1
 go_wp2_with fail
 refine (l03Zero_c _ (D + 1) _ (by omega) (by omega)).mono ?_
 rintro e w3 ⟨vf, rfl, hO3, hb3⟩
 have hF3 : TabP m (D + 1) w2.heap.size w3.heap.size w3 vf := ⟨_, hO3.toR, zeroT_ok (by omega) _⟩
 obtain ⟨gf, cf, rfl, hf0, hf1⟩ := hF3.rows (by omega)
 have hR3 := hR2.below hb3
 have hT3 : TabP m (D + 1) w1.heap.size w2.heap.size w3 (.slice (some ⟨gt, 0, none⟩) (D + 1) ct) := hT2.stay (fun k _ h2 => hb3.block k h2)
 have z1 := hb1.size
 have z2 := hb2.size
 have z3 := hb3.size
 have B3 := B2.trans (hb3.mono B2.size)
 clear hO3 hR2 hT2 B2 hb1 hb2 hb3
 generalize hW1 : w1.heap.size = s1 at hR3 hT3 z1 z2 hr1 ht0
 generalize hW2 : w2.heap.size = s2 at hT3 hF3 z2 z3 hf0 ht1
 generalize hW3 : w3.heap.size = s3 at hF3 z3 hf1
 clear hW1 hW2
 go_wp2_with fail
 go_loopw [12] (fun i wr => ∃ (k : Nat), k ≤ D ∧ i = .int .i64 k ∧ RowF m (D + 1) w.heap.size s1 wr (.slice (some ⟨gr, 0, none⟩) (D + 1) cr) ∧ TabP m (D + 1) s1 s2 wr (.slice (some ⟨gt, 0, none⟩) (D + 1) ct) ∧ TabP m (D + 1) s2 s3 wr (.slice (some ⟨gf, 0, none⟩) (D + 1) cf) ∧ Below w.heap.size w wr) (fun i _ => D - (intOf i).toNat)
 case atStart => exact ⟨0, by omega, rfl, hR3, hT3, hF3, B3⟩
 case round =>
  clear hR3 hT3 hF3 B3
  obtain ⟨k, hk, rfl, hR, hT, hF, hB⟩ := hrel
  by_cases hlt : k < D
  ·obtain ⟨q, c1, q0, q1⟩ := hR.at (j := k) (by omega)
   rw [Nat.zero_add] at c1
   obtain ⟨r1, cr1, y1, l1, l1', n1, a1, b1, f1, -, t1⟩ := hT.at (i := 1) (j := k) D (by omega) (by omega)
   have hT1 := t1 q q0 q1
   have hR1 := hR.put (b := r1) (by omega) k (.int .i64 q)
   have hF1 := hF.put (b := r1) (.inl (by omega)) k (.int .i64 q)
   have B1 := below_put hB (show w.heap.size ≤ r1 by omega) (.int .i64 q) (k := k)
   have i0 : (k : Int) < (D : Int) := by omega
   have i1 : (1 : Int) < ((D + 1 : Nat) : Int) := by omega
   have i1' : (1 : Int) < (D : Int) + 1 := by omega
   have i2 : (k : Int) < ((D + 1 : Nat) : Int) := by omega
   have i2' : (k : Int) < (D : Int) + 1 := by omega
   have i6 : (0 : Int) ≤ (k : Int) := by omega
   clear hT t1 hR hF
   go_wp2_with fail
   go_still_tail 9, (by kernel_rfl)
   change wpList _ _ _ _ _ wr.drew
   go_wp2
   exact ⟨⟨k + 1, by omega, by go_num, hR1, hT1, hF1, Below.drew B1⟩, by simp [intOf]; omega⟩
  ·have i0 : ¬ (k : Int) < (D : Int) := by omega
   go_wp2_with fail
   go_loopw [13] (fun i wr => ∃ (k : Nat), k ≤ D ∧ i = .int .i64 k ∧ RowF m (D + 1) w.heap.size s1 wr (.slice (some ⟨gr, 0, none⟩) (D + 1) cr) ∧ TabP m (D + 1) s1 s2 wr (.slice (some ⟨gt, 0, none⟩) (D + 1) ct) ∧ TabP m (D + 1) s2 s3 wr (.slice (some ⟨gf, 0, none⟩) (D + 1) cf) ∧ Below w.heap.size w wr) (fun i _ => D - (intOf i).toNat)
   case atStart => exact ⟨0, by omega, rfl, hR, hT, hF, hB⟩
   case round =>
    clear hR hT hF hB i0 hk hlt
    obtain ⟨k, hk, rfl, hR, hT, hF, hB⟩ := hrel
    by_cases hlt : k < D
    ·obtain ⟨q, c1, q0, q1⟩ := hR.at (j := k) (by omega)
     rw [Nat.zero_add] at c1
     obtain ⟨r1, cr1, y1, l1, l1', n1, a1, b1, f1, ⟨y10, y11⟩, t1⟩ := hT.at (i := k) (j := 1) (D + 1 - k) (by omega) (by omega)
     obtain ⟨z, hz⟩ : ∃ z, (y1 + q).tmod m = z := ⟨_, rfl⟩
     have hz2 := tmod_in hm (show 0 ≤ y1 + q by omega)
     rw [hz] at hz2
     have e3 : IntKind.i64.wrap (y1 + q) = y1 + q := IntWalk.i64_in _ (by omega)
     have e5 : IntKind.i64.wrap z = z := IntWalk.i64_in _ (by omega)
     have hT1 := t1 z hz2.1 hz2.2
     have hR1 := hR.put (b := r1) (by omega) 1 (.int .i64 z)
     have hF1 := hF.put (b := r1) (.inl (by omega)) 1 (.int .i64 z)
     have B1 := below_put hB (show w.heap.size ≤ r1 by omega) (.int .i64 z) (k := 1)
     have i0 : (k : Int) < (D : Int) := by omega
     have i1 : (1 : Int) < ((D + 1 - k : Nat) : Int) := by omega
     have i2 : (k : Int) < ((D + 1 : Nat) : Int) := by omega
     have i2' : (k : Int) < (D : Int) + 1 := by omega
     have i6 : (0 : Int) ≤ (k : Int) := by omega
     clear hT t1 hR hF
     go_wp2_with fail
     go_still_tail 12, (by kernel_rfl)
     change wpList _ _ _ _ _ wr.drew
     go_wp2
     exact ⟨⟨k + 1, by omega, by go_num, hR1, hT1, hF1, Below.drew B1⟩, by simp [intOf]; omega⟩
    ·have i0 : ¬ (k : Int) < (D : Int) := by omega
     go_wp2_with fail
     go_loopw [15, 16] (fun p i wr => ∃ (k : Nat) (x : Int), 4 * k ≤ D + 4 ∧ i = .int .i64 k ∧ p = .int .i64 x ∧ (0 ≤ x ∧ x < m) ∧ TabP m (D + 1) s1 s2 wr (.slice (some ⟨gt, 0, none⟩) (D + 1) ct) ∧ TabP m (D + 1) s2 s3 wr (.slice (some ⟨gf, 0, none⟩) (D + 1) cf) ∧ Below w.heap.size w wr) (fun _ i _ => D + 5 - 4 * (intOf i).toNat)
     case atStart => exact ⟨0, 1, by omega, rfl, rfl, by omega, hT, hF, hB⟩
     case round =>
      clear hR hT hF hB i0 hk hlt
      obtain ⟨k, x, hk, rfl, rfl, ⟨x0, x1⟩, hT, hF, hB⟩ := hrel
      have e0 : IntKind.i64.wrap (4 * (k : Int)) = 4 * (k : Int) := IntWalk.i64_in _ (by omega)
      by_cases hlt : 4 * k ≤ D
      ·obtain ⟨r1, cr1, y1, l1, l1', n1, a1, b1, f1, -, t1⟩ := hF.at (i := 2 * k) (j := 2 * k) (D + 1 - 2 * k) (by omega) (by omega)
       have hF1 := t1 x x0 x1
       have hT1 := hT.put (b := r1) (.inr (by omega)) (2 * k) (.int .i64 x)
       have B1 := below_put hB (show w.heap.size ≤ r1 by omega) (.int .i64 x) (k := 2 * k)
       have i0 : 4 * (k : Int) ≤ (D : Int) := by omega
       have i1 : 2 * (k : Int) < ((D + 1 : Nat) : Int) := by omega
       have i1' : 2 * (k : Int) < (D : Int) + 1 := by omega
       have i2 : 2 * (k : Int) < ((D + 1 - 2 * k : Nat) : Int) := by omega
       have i5 : (0 : Int) ≤ 2 * (k : Int) := by omega
       have i7 : (2 * (k : Int)).toNat = 2 * k := by omega
       have e1 : IntKind.i64.wrap (2 * (k : Int)) = 2 * (k : Int) := IntWalk.i64_in _ (by omega)
       have hp0 : 0 ≤ x * e0' := Int.mul_nonneg x0 he0
       have hp1 : x * e0' ≤ 10000 * 10000 := Int.mul_le_mul (by omega) (by omega) (by omega) (by omega)
       have e4 : IntKind.i64.wrap (x * e0') = x * e0' := IntWalk.i64_in _ (by omega)
       obtain ⟨q, hq⟩ : ∃ q, (x * e0').tmod m = q := ⟨_, rfl⟩
       have hq2 := tmod_in hm hp0
       rw [hq] at hq2
       have e5 : IntKind.i64.wrap q = q := IntWalk.i64_in _ (by omega)
       clear hT t1 hF hp0 hp1
       go_wp2
       exact ⟨⟨k + 1, q, by omega, by go_num, rfl, hq2, hT1, hF1, B1⟩, by simp [intOf]; omega⟩
      ·have i0 : ¬ 4 * (k : Int) ≤ (D : Int) := by omega
       obtain ⟨t, rt, pt⟩ := hT.rds
       obtain ⟨f, rf, pf⟩ := hF.rds
       go_wp2_with fail
       refine (l03Times_c m (D + 1) _ _ t f _ rt rf (by omega) (by omega) hm (by omega) pt pf).mono ?_
       rintro e w9 ⟨v9, rfl, ho9, hb9⟩
       go_wp2
       go_ret
       exact ⟨_, _, rfl, ho9.mono hB.size, timesT_ok (by omega) _ _ _, hB.trans (hb9.mono hB.size)⟩

theorem RdI.cellz {w : World} {b f n c : Nat} {xs : List Int} {x : Int} (h : RdI w (.slice (some ⟨b, f, none⟩) n c) xs) (hx : xs[0]? = some x) : w.cell? ⟨b, f, none⟩ = some (.int .i64 x) := by
 have := h.cell0 hx
 rwa [Nat.add_zero] at this
def LisN (m : Int) (n : Nat) (xs : List Int) : Prop := xs.length = n ∧ ∀ x ∈ xs, 0 ≤ x ∧ x < m
theorem LisN.add {m : Int} {n : Nat} (hm : 0 < m) (a b : List Int) : LisN m n (addL m n a b) := ⟨addL_len _ _ _ _, addL_range hm⟩
theorem LisN.var {m : Int} (hm : 2 ≤ m) (n : Nat) : LisN m n (varL n) := ⟨varL_len _, varL_range hm _⟩

theorem PlaT.sub {m : Int} (hm : 0 < m) (n : Nat) (a b : List (List Int)) : PlaT m n (subT m n a b) := tri_ok fun _ _ _ => mod_lt' hm
theorem PlaT.sca {m : Int} (hm : 0 < m) (n : Nat) (c : Int) (a : List (List Int)) : PlaT m n (scaT m n c a) := tri_ok fun _ _ _ => mod_lt' hm
theorem PlaT.one {m : Int} (hm : 0 < m) (n : Nat) : PlaT m n (oneT m n) := tri_ok fun _ _ _ => mod_lt' hm
theorem PlaT.geo {m : Int} (hm : 0 < m) (n : Nat) (r : List (List Int)) (j : Nat) : PlaT m n (geoT m n r j) := by
 cases j with
 | zero => exact PlaT.one hm n
 | succ j => exact addT_ok hm n _ _
theorem PlaT.inv {m : Int} (hm : 0 < m) (n : Nat) (f : List (List Int)) : PlaT m n (invT m n f) := PlaT.geo hm n _ _
theorem PlaT.xT {m : Int} (hm : 2 ≤ m) (n : Nat) : PlaT m n (xT n) := tri_ok fun i j _ => by split <;> omega
theorem PlaT.yT {m : Int} (hm : 2 ≤ m) (n : Nat) : PlaT m n (yT n) := tri_ok fun i j _ => by split <;> omega
theorem PlaT.lin {m : Int} (hm : 0 < m) (n : Nat) (W : List Int) : PlaT m n (linT m n W) := tri_ok fun _ _ _ => mod_lt' hm
theorem PlaT.cln {m : Int} (hm : 0 < m) (n : Nat) (W : List Int) : PlaT m n (clnT m n W) := tri_ok fun _ _ _ => mod_lt' hm

theorem l03Scale_c (m a : Int) (v : Value) (xss : List (List Int)) (w : World) (hv : RdT w v xss) (hm : 2 ≤ m) (hm' : m ≤ 3000000000) (ha : 0 ≤ a) (ha' : a < m) (hn : xss.length ≤ 1000)
  (hx : ∀ i (hi : i < xss.length), xss[i].length = xss.length - i ∧ ∀ x ∈ xss[i], 0 ≤ x ∧ x < m) :
  Calls Tryz.prog 175 #[.int .i64 m, .int .i64 a, v] w fun e w' => ∃ v', e = .returned v' ∧ OwS w' w.heap.size v' (scaT m xss.length a xss) ∧ Below w.heap.size w w' := by
 obtain ⟨o, c, rfl, hmx, -⟩ := id hv
 unfold maxLen at hmx
 have HX := Lib.hid hx
 clear hx
 go_enter Tryz.func175, Tryz.ntmps175
 go_wp2_with fail
 have O1 := OwS.lit0 w
 have B1 : Below w.heap.size w (w.alloc (.cells #[] 28)) := bZ
 generalize w.alloc (.cells #[] 28) = w1 at O1 B1 ⊢
 go_loopw [7, 8] (fun s i wr => ∃ (k : Nat) (ov : Option Addr) (cv : Nat), k ≤ xss.length ∧ i = .int .i64 k ∧ s = .slice ov k cv ∧ OwS wr w.heap.size (.slice ov k cv) ((List.range k).map (fun i => mk (xss.length - i) ((fun i j => (a * atT xss i j) % m) i))) ∧ Below w.heap.size w wr) (fun _ i _ => xss.length - (intOf i).toNat)
 case atStart => exact ⟨0, _, _, Nat.zero_le _, rfl, rfl, O1, B1⟩
 case round =>
  clear O1 B1
  obtain ⟨k, ov, cv, hk, rfl, rfl, hO, hB⟩ := hrel
  by_cases hlt : k < xss.length
  ·have hxl := (HX.out k hlt).1
   have HE := Lib.hid (show scaleL m a xss[k] = mk (xss.length - k) (fun j => (a * atT xss k j) % m) by
    rw [scaleL_mk, hxl]; exact mk_ext fun j _ => by rw [atT_row hlt])
   have hrn : xss[k].length ≤ 1000 := by omega
   have HEl := Lib.hid (scaleL_len m a xss[k])
   clear hxl
   obtain ⟨bx, fx, rfl, -⟩ := hv.rows (by omega)
   obtain ⟨o1, c1, cx0, rx0⟩ := hv.row (show xss[k]? = some xss[k] by simp [hlt])
   have cx := keep_cell hB (nl _) cx0
   have rx := rx0.below hB (nl _)
   have hBs := hB.size
   have HS := Lib.hid (tri_snoc_rows xss.length k (fun i j => (a * atT xss i j) % m))
   have HLn := Lib.hid (show ((List.range k).map (fun i => mk (xss.length - i) ((fun i j => (a * atT xss i j) % m) i))).length = k by simp)
   generalize (List.range k).map (fun i => mk (xss.length - i) ((fun i j => (a * atT xss i j) % m) i)) = l at hO HS HLn
   have i0 : (0 : Int) ≤ (k : Int) := by omega
   have i1 : (k : Int) < (xss.length : Int) := by omega
   go_wp2_with fail
   refine (l02Scale_c m a _ xss[k] _ rx (by omega) hm (by omega) ha ha' (HX.out k hlt).2).mono ?_
   rintro e w2 ⟨va, rfl, how, hb2⟩
   obtain ⟨oa, ca, rfl⟩ := how.shapeN (n := xss[k].length) HEl.out
   have hz2 := hb2.size
   go_wp2_with (at_builtin; obtain ⟨W, hW⟩ : ∃ W : World, W = w2.alloc (.cells #[.slice oa xss[k].length ca] 28) := ⟨_, rfl⟩; have hWs : W.heap.size = w2.heap.size + 1 := (by rw [hW]; simp); have hT : OwSR w.heap.size wr.heap.size W (.slice ov k cv) l := (by rw [hW]; exact hO.toR.stay (fun j _ hj => (Below.heap_alloc _ _ j (by omega)).trans (hb2.block j hj))); have hU : OwI W wr.heap.size (.slice oa xss[k].length ca) (scaleL m a xss[k]) := (by rw [hW]; exact how.alloc _); have hC : W.cell? ⟨w2.heap.size, 0, none⟩ = some (.slice oa xss[k].length ca) := (by rw [hW]; simp); have B3 : Below w.heap.size w W := (by rw [hW]; exact hB.trans ((((Below.refl wr.heap.size wr).trans hb2).alloc hz2 _).mono hBs)); rw [← hW]; have HW := Lib.hid hW; clear hW; go_loud (refine apT W rfl _ _ rfl w.heap.size wr.heap.size (.slice ov k cv) l rfl hT (by omega) hBs _ _ w2.heap.size rfl hC hU (by rw [HLn.out]; omega) ?_; intro g cap w3 hO3 hgr hb3; clear hgr; have B4 := B3.trans hb3))
   rw [HE.out, HLn.out, ← HS.out] at hO3
   exact ⟨⟨k + 1, _, _, by omega, by go_num, by rw [HLn.out], hO3, B4⟩, by simp [intOf]; omega⟩
  ·obtain rfl : k = xss.length := by omega
   go_wp2
   go_ret
   exact ⟨_, rfl, hO, hB⟩

theorem l08Series_c (m d : Int) (N : Nat) (v : Value) (ls : List Int) (w : World) (hd : d + 1 = (N : Int)) (hv : RdI w v ls) (hl : ls.length = 5) (h3 : 3 ≤ N) (hN : N ≤ 1000) (hm : 2 ≤ m) (hm' : m ≤ 10000) (hx : ∀ x ∈ ls, 0 ≤ x ∧ x < m) :
  Calls Tryz.prog 206 #[.int .i64 m, .int .i64 d, v] w fun e w' => ∃ v', e = .returned v' ∧ OwI w' w.heap.size v' (weiR m N (at0 ls) (N - 3)) ∧ Below w.heap.size w w' := by
 obtain ⟨o, c, rfl, hmx, -⟩ := id hv
 obtain ⟨bl, fl, rfl, -⟩ := hv.cells (by omega)
 have r0 := at0_range (show 0 < m by omega) hx 0
 have r1 := at0_range (show 0 < m by omega) hx 1
 have r2 := at0_range (show 0 < m by omega) hx 2
 have r3 := at0_range (show 0 < m by omega) hx 3
 have r4 := at0_range (show 0 < m by omega) hx 4
 have HL := Lib.hid hl
 rw [hl] at hv ⊢
 have hd1 : 0 ≤ d := by omega
 have hd2 : d ≤ 1000 := by omega
 have m0 : (m == 0) = false := by simp; omega
 have m1 : ¬ m = 0 := by omega
 clear hl hmx
 go_enter Tryz.func206, Tryz.ntmps206
 have i0 : (0 : Int) < (N : Int) := by omega
 have ew : IntKind.i64.wrap (d + 1) = d + 1 := IntWalk.i64_in _ (by omega)
 go_wp2_with (at_make; go_loud (refine mkI _ rfl _ _ rfl _ _ _ N rfl rfl (by omega) (by omega) ?_; intro w1 hO1 hb1 hz1; clear hz1))
 go_loopw [8] (fun i wr => ∃ (k : Nat), k + 3 ≤ N ∧ i = .int .i64 ((k : Int) + 3) ∧ OwI wr w.heap.size (.slice (some ⟨w.heap.size, 0, none⟩) N N) (weiR m N (at0 ls) k) ∧ Below w.heap.size w wr) (fun i _ => (d + 1 - intOf i).toNat)
 case atStart => exact ⟨0, by omega, by go_num, hO1, hb1⟩
 case round =>
  clear hO1 hb1
  obtain ⟨k, hk, rfl, hO, hB⟩ := hrel
  have HR := Lib.hid (weiR_range (m := m) (show 0 < m by omega) N (at0 ls) k)
  have HWl := Lib.hid (weiR_len m N (at0 ls) k)
  by_cases hlt : k + 3 < N
  ·have j1 : (k : Int) + 3 ≤ d := by omega
   have HS := Lib.hid (show weiR m N (at0 ls) (k + 1) = (weiR m N (at0 ls) k).set (k + 3) (weiV m (at0 ls) (weiR m N (at0 ls) k) k) from rfl)
   generalize weiR m N (at0 ls) k = W at hO HR HWl HS
   have hBs := hB.size
   go_wp2_with fail
   refine (l02Times_c m ((k : Int) + 3) (k + 4) _ _ W W wr (by omega) hO.rd hO.rd (by omega) (by omega) (by omega) (by omega) HR.out HR.out).mono ?_
   rintro e w2 ⟨v2, rfl, hO2, hb2⟩
   obtain ⟨g2, c2, rfl⟩ : ∃ g c, v2 = .slice (some ⟨g, 0, none⟩) (k + 4) c := by
    obtain ⟨o', c', rfl⟩ := hO2.shapeN (n := k + 4) (timesL_len _ _ _ _)
    obtain ⟨g', rfl, -, -⟩ := hO2.row (by omega)
    exact ⟨g', c', rfl⟩
   have HQ := Lib.hid (timesL_range (m := m) (show 0 < m by omega) (n := k + 4) (a := W) (b := W))
   have HQl := Lib.hid (timesL_len m (k + 4) W W)
   have hO' := hO.below hb2
   have hB2 := hB.trans (hb2.mono hBs)
   go_wp2_with fail
   refine (l02Times_c m ((k : Int) + 3) (k + 4) _ _ (timesL m (k + 4) W W) W w2 (by omega) hO2.rd hO'.rd (by omega) (by omega) (by omega) (by omega) HQ.out HR.out).mono ?_
   rintro e w3 ⟨v3, rfl, hO3, hb3⟩
   obtain ⟨g3, c3, rfl⟩ : ∃ g c, v3 = .slice (some ⟨g, 0, none⟩) (k + 4) c := by
    obtain ⟨o', c', rfl⟩ := hO3.shapeN (n := k + 4) (timesL_len _ _ _ _)
    obtain ⟨g', rfl, -, -⟩ := hO3.row (by omega)
    exact ⟨g', c', rfl⟩
   have HC := Lib.hid (timesL_range (m := m) (show 0 < m by omega) (n := k + 4) (a := timesL m (k + 4) W W) (b := W))
   have HCl := Lib.hid (timesL_len m (k + 4) (timesL m (k + 4) W W) W)
   have hO4 := hO'.below hb3
   have hQ4 := hO2.below hb3
   have hB3 := hB2.trans (hb3.mono hB2.size)
   have HV := Lib.hid (show weiV m (at0 ls) W k = (at0 ls 0 * at0 W (k + 2) + at0 ls 1 * at0 W (k + 1) + at0 ls 2 * at0 (timesL m (k + 4) W W) (k + 3) + at0 ls 3 * at0 (timesL m (k + 4) W W) (k + 2) + at0 ls 4 * at0 (timesL m (k + 4) (timesL m (k + 4) W W) W) (k + 3) + (if k = 0 then 1 else 0)) % m from rfl)
   rw [HV.out] at HS
   generalize timesL m (k + 4) (timesL m (k + 4) W W) W = C at hO3 HC HCl HS
   generalize timesL m (k + 4) W W = Q at hQ4 HQ HQl HS
   clear hO hO' hO2 hB hB2 hb2 hb3 HV
   have s1 := at0_range (show 0 < m by omega) HR.out (k + 2)
   have s2 := at0_range (show 0 < m by omega) HR.out (k + 1)
   have s3 := at0_range (show 0 < m by omega) HQ.out (k + 3)
   have s4 := at0_range (show 0 < m by omega) HQ.out (k + 2)
   have s5 := at0_range (show 0 < m by omega) HC.out (k + 3)
   have hvr := hv.below hB3 (nl _)
   have a0 := hvr.cell0 (some_at0 (xs := ls) (k := 0) (by have := HL.out; omega))
   have a1 := hvr.cell0 (some_at0 (xs := ls) (k := 1) (by have := HL.out; omega))
   have a2 := hvr.cell0 (some_at0 (xs := ls) (k := 2) (by have := HL.out; omega))
   have a3 := hvr.cell0 (some_at0 (xs := ls) (k := 3) (by have := HL.out; omega))
   have a4 := hvr.cell0 (some_at0 (xs := ls) (k := 4) (by have := HL.out; omega))
   have b1 := hO4.cell (k := k + 2) (some_at0 (by have := HWl.out; omega))
   have b2 := hO4.cell (k := k + 1) (some_at0 (by have := HWl.out; omega))
   have b3 := hQ4.cell (k := k + 3) (some_at0 (by have := HQl.out; omega))
   have b4 := hQ4.cell (k := k + 2) (some_at0 (by have := HQl.out; omega))
   have b5 := hO3.cell (k := k + 3) (some_at0 (by have := HCl.out; omega))
   generalize at0 ls 0 = l0 at a0 r0 HS
   generalize at0 ls 1 = l1 at a1 r1 HS
   generalize at0 ls 2 = l2 at a2 r2 HS
   generalize at0 ls 3 = l3 at a3 r3 HS
   generalize at0 ls 4 = l4 at a4 r4 HS
   generalize at0 W (k + 2) = x1 at b1 s1 HS
   generalize at0 W (k + 1) = x2 at b2 s2 HS
   generalize at0 Q (k + 3) = x3 at b3 s3 HS
   generalize at0 Q (k + 2) = x4 at b4 s4 HS
   generalize at0 C (k + 3) = x5 at b5 s5 HS
   rw [Nat.add_zero] at a0
   have P1 := Int.mul_nonneg r0.1 s1.1
   have P2 := Int.mul_nonneg r1.1 s2.1
   have P3 := Int.mul_nonneg r2.1 s3.1
   have P4 := Int.mul_nonneg r3.1 s4.1
   have P5 := Int.mul_nonneg r4.1 s5.1
   have U1 : l0 * x1 ≤ 10000 * 10000 := Int.mul_le_mul (by omega) (by omega) s1.1 (by omega)
   have U2 : l1 * x2 ≤ 10000 * 10000 := Int.mul_le_mul (by omega) (by omega) s2.1 (by omega)
   have U3 : l2 * x3 ≤ 10000 * 10000 := Int.mul_le_mul (by omega) (by omega) s3.1 (by omega)
   have U4 : l3 * x4 ≤ 10000 * 10000 := Int.mul_le_mul (by omega) (by omega) s4.1 (by omega)
   have U5 : l4 * x5 ≤ 10000 * 10000 := Int.mul_le_mul (by omega) (by omega) s5.1 (by omega)
   have e1 : IntKind.i64.wrap (l0 * x1) = l0 * x1 := IntWalk.i64_in _ (by omega)
   have e2 : IntKind.i64.wrap (l1 * x2) = l1 * x2 := IntWalk.i64_in _ (by omega)
   have e3 : IntKind.i64.wrap (l2 * x3) = l2 * x3 := IntWalk.i64_in _ (by omega)
   have e4 : IntKind.i64.wrap (l3 * x4) = l3 * x4 := IntWalk.i64_in _ (by omega)
   have e5 : IntKind.i64.wrap (l4 * x5) = l4 * x5 := IntWalk.i64_in _ (by omega)
   have q2 : IntKind.i64.wrap (l0 * x1 + l1 * x2) = l0 * x1 + l1 * x2 := IntWalk.i64_in _ (by omega)
   have q3 : IntKind.i64.wrap (l0 * x1 + l1 * x2 + l2 * x3) = l0 * x1 + l1 * x2 + l2 * x3 := IntWalk.i64_in _ (by omega)
   have q4 : IntKind.i64.wrap (l0 * x1 + l1 * x2 + l2 * x3 + l3 * x4) = l0 * x1 + l1 * x2 + l2 * x3 + l3 * x4 := IntWalk.i64_in _ (by omega)
   have q5 : IntKind.i64.wrap (l0 * x1 + l1 * x2 + l2 * x3 + l3 * x4 + l4 * x5) = l0 * x1 + l1 * x2 + l2 * x3 + l3 * x4 + l4 * x5 := IntWalk.i64_in _ (by omega)
   have q6 : IntKind.i64.wrap (l0 * x1 + l1 * x2 + l2 * x3 + l3 * x4 + l4 * x5 + 1) = l0 * x1 + l1 * x2 + l2 * x3 + l3 * x4 + l4 * x5 + 1 := IntWalk.i64_in _ (by omega)
   have f1 : IntKind.i64.wrap ((k : Int) + 3 - 1) = (k : Int) + 2 := by rw [IntWalk.i64_in _ (by omega)]; omega
   have f2 : IntKind.i64.wrap ((k : Int) + 3 - 2) = (k : Int) + 1 := by rw [IntWalk.i64_in _ (by omega)]; omega
   have g1 : ((k : Int) + 2).toNat = k + 2 := by omega
   have g2' : ((k : Int) + 1).toNat = k + 1 := by omega
   have g3' : ((k : Int) + 3).toNat = k + 3 := by omega
   have z1 : (0 : Int) ≤ (k : Int) + 2 := by omega
   have z2 : (0 : Int) ≤ (k : Int) + 1 := by omega
   have z3 : (0 : Int) ≤ (k : Int) + 3 := by omega
   have y1 : (k : Int) + 2 < (N : Int) := by omega
   have y2 : (k : Int) + 1 < (N : Int) := by omega
   have y3 : (k : Int) + 3 < (N : Int) := by omega
   have y4 : (k : Int) + 3 < ((k + 4 : Nat) : Int) := by omega
   have y5 : (k : Int) + 2 < ((k + 4 : Nat) : Int) := by omega
   have t1 : (l0 * x1 + l1 * x2 + l2 * x3 + l3 * x4 + l4 * x5).tmod m = (l0 * x1 + l1 * x2 + l2 * x3 + l3 * x4 + l4 * x5) % m := Int.tmod_eq_emod_of_nonneg (by omega)
   have t2 : (l0 * x1 + l1 * x2 + l2 * x3 + l3 * x4 + l4 * x5 + 1).tmod m = (l0 * x1 + l1 * x2 + l2 * x3 + l3 * x4 + l4 * x5 + 1) % m := Int.tmod_eq_emod_of_nonneg (by omega)
   go_wp2_with fail
   go_quiet (fail)
   obtain ⟨w4, hw4⟩ : ∃ u : World, u = w3.drewN nq := ⟨_, rfl⟩
   have hO5 : OwI w4 w.heap.size (.slice (some ⟨w.heap.size, 0, none⟩) N N) W := by rw [hw4]; exact hO4.drewN nq
   have hB5 : Below w.heap.size w w4 := by rw [hw4]; exact below_drewN hB3 nq
   rw [← hw4]
   have hc5 := hO5.cell (k := k + 3) (some_at0 (by have := HWl.out; omega))
   have hf5 := hO5.fz (k + 3)
   clear hw4 a0 a1 a2 a3 a4 b1 b2 b3 b4 b5
   by_cases hk0 : k = 0
   ·have c1 : ((k : Int) + 3 == 3) = true := by simp; omega
    have HS := Lib.hid (show weiR m N (at0 ls) (k + 1) = W.set (k + 3) ((l0 * x1 + l1 * x2 + l2 * x3 + l3 * x4 + l4 * x5 + 1) % m) by rw [HS.out, if_pos hk0])
    clear hk0
    go_wp2_with fail
    have hO6 := hO5.put (k + 3) ((l0 * x1 + l1 * x2 + l2 * x3 + l3 * x4 + l4 * x5 + 1) % m)
    rw [← HS.out] at hO6
    exact ⟨⟨k + 1, by omega, by go_num, hO6, below_put hB5 (nl _) _⟩, by simp [intOf]; omega⟩
   ·have c1 : ((k : Int) + 3 == 3) = false := by simp; omega
    have HS := Lib.hid (show weiR m N (at0 ls) (k + 1) = W.set (k + 3) ((l0 * x1 + l1 * x2 + l2 * x3 + l3 * x4 + l4 * x5) % m) by rw [HS.out, if_neg hk0, Int.add_zero])
    clear hk0
    go_wp2_with fail
    have hO6 := hO5.put (k + 3) ((l0 * x1 + l1 * x2 + l2 * x3 + l3 * x4 + l4 * x5) % m)
    rw [← HS.out] at hO6
    exact ⟨⟨k + 1, by omega, by go_num, hO6, below_put hB5 (nl _) _⟩, by simp [intOf]; omega⟩
  ·have hkN : k = N - 3 := by omega
   have j1 : ¬ (k : Int) + 3 ≤ d := by omega
   have HE := Lib.hid (show weiR m N (at0 ls) k = weiR m N (at0 ls) (N - 3) by rw [hkN])
   rw [HE.out] at hO
   clear hkN
   go_wp2
   go_ret
   exact ⟨_, rfl, hO, hB⟩

def axF (xs : List Int) (k : Int) (i p q : Nat) : Int := if k = 0 then (if q = 0 ∧ p < i then at0 xs p else 0) else (if p = 0 ∧ q < i then at0 xs q else 0)
def axTo (n : Nat) (xs : List Int) (k : Int) (i : Nat) : List (List Int) := tri n (axF xs k i)
theorem axTo_0 (n : Nat) (xs : List Int) (k : Int) : zeroT n = axTo n xs k 0 := tri_ext fun i j _ => by
 unfold axF; split <;> rw [if_neg (by omega)]
theorem axTo_n {n : Nat} {xs : List Int} {k : Int} : axTo n xs k n = axT n xs k := tri_ext fun i j h => by
 unfold axF
 by_cases hk : k = 0
 ·rw [if_pos hk, if_pos hk]
  by_cases hj : j = 0
  ·rw [if_pos hj, if_pos ⟨hj, by omega⟩]
  ·rw [if_neg hj, if_neg (by omega)]
 ·rw [if_neg hk, if_neg hk]
  by_cases hi : i = 0
  ·rw [if_pos hi, if_pos ⟨hi, by omega⟩]
  ·rw [if_neg hi, if_neg (by omega)]
theorem axTo_row {n : Nat} {xs : List Int} {k : Int} {i p : Nat} (h : p < n) : (axTo n xs k i)[p]? = some (mk (n - p) (axF xs k i p)) := tri_get h
theorem axTo_set0 {n : Nat} {xs : List Int} {i : Nat} (h : i < n) : (axTo n xs 0 i).set i ((mk (n - i) (axF xs 0 i i)).set 0 (at0 xs i)) = axTo n xs 0 (i + 1) := by
 unfold axTo
 rw [tri_set (by omega)]
 refine tri_ext fun a b _ => ?_
 unfold axF
 rw [if_pos rfl, if_pos rfl]
 by_cases hab : a = i ∧ b = 0
 ·rw [if_pos hab, if_pos (by omega), hab.1]
 ·rw [if_neg hab]
  by_cases h2 : b = 0 ∧ a < i
  ·rw [if_pos h2, if_pos (by omega)]
  ·rw [if_neg h2, if_neg (by omega)]

def lnTo (n : Nat) (W : List Int) (k i : Nat) : List (List Int) := tri n (fun a b => if a + b + 1 < k ∨ (a + b + 1 = k ∧ a < i) then at0 W (a + b + 1) else 0)
def lnRow (n : Nat) (W : List Int) (k i j : Nat) : List Int := mk (n - j) (fun b => if j + b + 1 < k ∨ (j + b + 1 = k ∧ j < i) then at0 W (j + b + 1) else 0)
theorem lnTo_0 (n : Nat) (W : List Int) : zeroT n = lnTo n W 1 0 := tri_ext fun i j _ => by rw [if_neg (by omega)]
theorem lnTo_get {n : Nat} {W : List Int} {k i j : Nat} (h : j < n) : (lnTo n W k i)[j]? = some (lnRow n W k i j) := tri_get h
theorem lnRow_len (n : Nat) (W : List Int) (k i j : Nat) : (lnRow n W k i j).length = n - j := mk_len _ _
theorem lnTo_set {n : Nat} {W : List Int} {k i : Nat} (h1 : 1 ≤ k) (hi : i < k) (hk : k ≤ n) : (lnTo n W k i).set i ((lnRow n W k i i).set (k - 1 - i) (at0 W k)) = lnTo n W k (i + 1) := by
 unfold lnTo lnRow
 rw [tri_set (f := fun a b => if a + b + 1 < k ∨ (a + b + 1 = k ∧ a < i) then at0 W (a + b + 1) else 0) (by omega)]
 refine tri_ext fun a b _ => ?_
 by_cases h : a = i ∧ b = k - 1 - i
 ·rw [if_pos h, if_pos (by omega), show a + b + 1 = k by omega]
 ·rw [if_neg h]
  by_cases h2 : a + b + 1 < k ∨ (a + b + 1 = k ∧ a < i)
  ·rw [if_pos h2, if_pos (by omega)]
  ·rw [if_neg h2, if_neg (by omega)]
theorem lnTo_row (n : Nat) (W : List Int) (k : Nat) : lnTo n W k k = lnTo n W (k + 1) 0 := tri_ext fun a b _ => by
 by_cases h : a + b + 1 < k ∨ (a + b + 1 = k ∧ a < k)
 ·rw [if_pos h, if_pos (by omega)]
 ·rw [if_neg h, if_neg (by omega)]
theorem lnTo_all {m : Int} (hm : 0 < m) {n : Nat} {W : List Int} (hW : ∀ x ∈ W, 0 ≤ x ∧ x < m) : lnTo n W (n + 1) 0 = linT m n W := tri_ext fun a b h => by
 have := at0_range hm hW (a + b + 1)
 rw [if_pos (by omega), Int.emod_eq_of_lt this.1 this.2]
theorem xT_set (n : Nat) (h : 2 ≤ n) : (zeroT n).set 1 ((mk (n - 1) (fun _ => 0)).set 0 1) = xT n := by
 unfold zeroT
 rw [tri_set (f := fun _ _ => 0) (by omega)]
 rfl
theorem turn_x {m : Int} (hm : 2 ≤ m) (n : Nat) : turnT m (xT n) = yT n := by
 unfold turnT
 rw [show (xT n).length = n from tri_len _ _]
 refine tri_ext fun i j h => ?_
 unfold xT
 rw [atT_tri (by omega)]
 by_cases hh : j = 1 ∧ i = 0
 ·rw [if_pos hh, if_pos ⟨hh.2, hh.1⟩, Int.emod_eq_of_lt (by omega) (by omega)]
 ·rw [if_neg hh, if_neg (fun e => hh ⟨e.2, e.1⟩), Int.zero_emod]
theorem axT_take {m : Int} (hm : 0 < m) {n : Nat} {W : List Int} (hW : ∀ x ∈ W, 0 ≤ x ∧ x < m) : axT n W 0 = clnT m n (W.take n) := tri_ext fun i j hij => by
 have := at0_range hm hW i
 have e : at0 (W.take n) i = at0 W i := by unfold at0 List.getD; rw [List.getElem?_take, if_pos (by omega)]
 rw [if_pos rfl, e]
 by_cases hj : j = 0
 ·rw [if_pos hj, Int.emod_eq_of_lt this.1 this.2]
 ·rw [if_neg hj, Int.zero_emod]
theorem invS_rng {m : Int} {n : Nat} (hm : 0 < m) (hn : 1 ≤ n) (a : List Int) : ∀ x ∈ invS m n a, 0 ≤ x ∧ x < m := by
 have := invP_range hm n a (n - 1)
 rwa [invP_end (by omega)] at this
theorem sgn_step {m : Int} {k : Nat} : mk (k + 1) (fun k => if k % 2 = 0 then 1 else m - 1) = mk k (fun k => if k % 2 = 0 then 1 else m - 1) ++ [if k % 2 = 0 then 1 else m - 1] := mk_snoc _ _

theorem l03Add_n (m : Int) (n : Nat) (v u : Value) (xs ys : List (List Int)) (w : World) (hv : RdT w v xs) (hu : RdT w u ys) (hn : n ≤ 1000) (hm : 2 ≤ m) (hm' : m ≤ 10000) (hx : PlaT m n xs) (hy : PlaT m n ys) :
  Calls Tryz.prog 174 #[.int .i64 m, v, u] w fun e w' => ∃ v', e = .returned v' ∧ OwS w' w.heap.size v' (addT m n xs ys) ∧ Below w.heap.size w w' := by
 have hl := hx.1
 subst hl
 exact l03Add_c m v u xs ys w hv hu hm (by omega) hn hy.1 hx.2 hy.2
theorem l03Scale_n (m a : Int) (n : Nat) (v : Value) (xs : List (List Int)) (w : World) (hv : RdT w v xs) (hn : n ≤ 1000) (hm : 2 ≤ m) (hm' : m ≤ 10000) (ha : 0 ≤ a) (ha' : a < m) (hx : PlaT m n xs) :
  Calls Tryz.prog 175 #[.int .i64 m, .int .i64 a, v] w fun e w' => ∃ v', e = .returned v' ∧ OwS w' w.heap.size v' (scaT m n a xs) ∧ Below w.heap.size w w' := by
 have hl := hx.1
 subst hl
 exact l03Scale_c m a v xs w hv hm (by omega) ha ha' hn hx.2

theorem OwSR.bel2 {lo hi : Nat} {w u : World} {v : Value} {xss : List (List Int)} (h : OwSR lo hi w v xss) (hb : Below hi w u) : OwSR lo hi u v xss :=
 h.stay (fun k _ hk => hb.block k hk)
def LiveE (b : Nat) (R : World → Prop) (u : World) : Prop := ∀ u' : World, (∀ k, k < u.heap.size → k ≠ b → u'.heap[k]? = u.heap[k]?) → R u'
theorem OwSR.live {lo hi b : Nat} {u : World} {v : Value} {t : List (List Int)} (h : OwSR lo hi u v t) (hb : b < lo ∨ hi ≤ b) (hs : hi ≤ u.heap.size) : LiveE b (fun w => RdT w v t) u :=
 fun u' hk => (h.stay (fun k h1 h2 => hk k (by omega) (by omega))).rd
theorem LiveE.grown {b : Nat} {R : World → Prop} {u u' : World} (h : LiveE b R u) (hg : u.grownBy u' (some b)) : R u' := h u' (fun k hk hne => hg.block k hk (fun e => hne (by cases e; rfl)))
def Bel (w w' : World) : Prop := Below w.heap.size w w'
theorem Bel.refl (w : World) : Bel w w := Below.refl _ _
theorem Bel.alloc {w w' : World} (h : Bel w w') (o : Obj) : Bel w (w'.alloc o) := Below.alloc h h.size o
def FlB (N : Nat) (u : World) (b : Nat) : Prop := RB2 u b (.int .i64 0) (.slice none 0 0) ∧ N ≤ b
theorem FlB.below {N B : Nat} {u u' : World} {b : Nat} (h : FlB N u b) (hb : Below B u u') (hB : u.heap.size ≤ B) : FlB N u' b := ⟨h.1.below hb hB, h.2⟩
theorem FlB.lt {N : Nat} {u : World} {b : Nat} (h : FlB N u b) : b < u.heap.size := h.1.1.lt
end Go.Proofs.YtfpphfjlpgefaaaGreat
