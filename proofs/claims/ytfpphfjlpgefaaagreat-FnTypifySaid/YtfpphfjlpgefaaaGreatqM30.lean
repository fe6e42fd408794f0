/- Lemmas. -/
import Derived.Test.YtfpphfjlpgefaaaGreatqM24
import Derived.Test.YtfpphfjlpgefaaaGreatqM29
import Derived.Test.YtfpphfjlpgefaaaGreatqG18
import Derived.Test.YtfpphfjlpgefaaaGreatqG17
import Derived.Test.YtfpphfjlpgefaaaGreatqG2
import Derived.Test.YtfpphfjlpgefaaaGreatqG3
import Derived.Test.YtfpphfjlpgefaaaGreatqG1
set_option maxHeartbeats 2000000
set_option maxRecDepth 100000
set_option linter.unusedSimpArgs false
set_option linter.unusedVariables false
namespace Go.Proofs.YtfpphfjlpgefaaaGreat
open Go.RowKit
section
open Rg

theorem qHL {p : Nat} {v v' : Nat → Int} : ∀ k, (∀ i, i < k → v i = v' i) → num p v k = num p v' k := by
 intro k
 induction k using Nat.strongRecOn with
 | _ k ih =>
   intro h; cases k with
   | zero => rfl
   | succ k =>
     rw [qDw, qDw]; refine qC8 fun i hi => ?_
     rw [ih i Oo (fun j hj => h j Oo), h (k - i) Oo]
theorem tyl_0 (p M : Nat) (v : Nat → Int) : tyl p M v 0 = (p : Int) ^ M := by
 unfold tyl; rw [qCu, Int.mul_one, Nat.sub_zero]
theorem qJ5 {p M : Nat} (hp : P4 p) (v : Nat → Int) : tyl p M v 0 ≠ 0 := by
 have := hp.pos
 rw [tyl_0]; exact Int.pow_ne_zero Oo
def qBV (p n : Nat) (v : Nat → Int) : Nat → Nat → Int := tyF p (qA4 p n) (tyl p (qA4 p n) v) (n - 1)
theorem qIp {p n : Nat} (hp : P4 p) (hn : n ≤ 10) : n < p ^ (qA4 p n + 1) := by
 have k := (qBq hp hn (Nat.le_refl (qA4 p n))).2.2.1
 exact Nat.lt_of_not_le fun h => Nat.lt_irrefl _ (k.1 h)
theorem qIi {p n : Nat} (hp : P4 p) (n1 : 1 ≤ n) (hn : n ≤ 10) (v : Nat → Int) :
  eqv 0 (n + 1) (LQ p (tyl p (qA4 p n) v) (qA4 p n + 1) (qBV p n v)) (ad (LQ p (tyl p (qA4 p n) v) (qA4 p n + 1) xP) (LQ p (tyl p (qA4 p n) v) (qA4 p n + 1) yP)) := by
 obtain ⟨F, hF, h0, h⟩ := ty_ex (qGA hp hn) v (n := n + 1) Oo (qIp hp hn)
 rw [show n + 1 - 2 = n - 1 by omega] at hF
 rw [hF] at h
 exact h
theorem qEK (p n : Nat) (v : Nat → Int) : qBV p n v 0 0 = 0 := qEk _ _ _ _
theorem qH6 {p n : Nat} (hp : P4 p) (n1 : 1 ≤ n) (hn : n ≤ 10) (v : Nat → Int) (m : Int) : Lw m (n + 1) (qBV p n v) := by
 refine Lw.of0 (lw_log (p := p) (M := qA4 p n) hp.pos.1 (qJ5 hp v) Oo (qEK p n v) (fun i => ?_) (qIi hp n1 hn v)) m
 have := qGs (p := p) (by have := hp.pos; omega) (qA4 p n) (tyl p (qA4 p n) v) (n - 1) i
 unfold qBV
 rw [this, qD_]
 by_cases h : i = 1
 ·rw [if_pos ⟨h, rfl⟩, if_pos h]
 ·rw [if_neg (fun e => h e.1), if_neg h]
theorem LQ_3 {p M n : Nat} (hp : P4 p) (hM : M ≤ 3) (hn : n ≤ p ^ (M + 1)) (v : Nat → Int) {X : Nat → Nat → Int} (hX : lo 0 1 X) :
  eqv 0 n (LQ p (tyl p 3 v) (3 + 1) X) (ml (ic ((p : Int) ^ (3 - M))) (LQ p (tyl p M v) (M + 1) X)) := by
 have hp2 := hp.pos
 unfold LQ
 rw [show 3 + 1 = (M + 1) + (3 - M) by omega, qG0, qCk]
 refine qA2 (qAM (y' := zz) (qAm (g := fun k => ml (ic ((p : Int) ^ (3 - M))) (ml (ic (tyl p M v k)) (pw X (p ^ k)))) fun k hk => qAf ?_) (qAo (qCD fun i hi => ?_))) (qAf (ad_zz _))
 ·rw [← ml_assoc, ← ic_ml]
  congr 2
  unfold tyl; rw [← Int.mul_assoc, ← Int.pow_add, show 3 - M + (M - k) = 3 - k by omega]
 ·refine qBC _ (lo_le (qAu hX _) (Nat.le_trans hn (Nat.pow_le_pow_right Oo Oo)))
theorem qEb {p n : Nat} (hp : P4 p) (hn : n ≤ 10) : qA4 p n ≤ 3 := (qGA hp hn).2.1
theorem qG2 {p n : Nat} (hp : P4 p) (n1 : 1 ≤ n) (hn : n ≤ 10) (v : Nat → Int) :
  eqv 0 (n + 1) (LQ p (tyl p 3 v) (3 + 1) (qBV p n v)) (ad (LQ p (tyl p 3 v) (3 + 1) xP) (LQ p (tyl p 3 v) (3 + 1) yP)) := by
 have hM := qEb hp hn
 have hk := qIp hp hn
 have e1 := LQ_3 hp hM (show n + 1 ≤ _ from hk) v (qDB (qEK p n v))
 have e2 := LQ_3 hp hM (show n + 1 ≤ _ from hk) v (qCP 0)
 have e3 := LQ_3 hp hM (show n + 1 ≤ _ from hk) v (qCW 0)
 refine qA2 e1 (qA2 (qBh _ (qIi hp n1 hn v)) ?_)
 rw [ml_ad]
 exact qAQ (qAM e2 e3)
theorem qHG {p r n : Nat} (hp : P4 p) {v v' : Nat → Int} (hv : ∀ i, i < r → v i = v' i) (hn : n ≤ p ^ (r + 1)) {X : Nat → Nat → Int} (hX : lo 0 1 X) :
  eqv 0 n (LQ p (tyl p 3 v) (3 + 1) X) (LQ p (tyl p 3 v') (3 + 1) X) := by
 have hp2 := hp.pos
 refine qAm fun k hk => ?_
 by_cases h : k ≤ r
 ·refine qAf ?_; unfold tyl; rw [qHL k (fun i hi => hv i Oo)]
 ·have hl : lo 0 n (pw X (p ^ k)) := lo_le (qAu hX _) (Nat.le_trans hn (Nat.pow_le_pow_right Oo Oo)); exact qA2 (qAo (qBC _ hl)) (qAQ (qAo (qBC _ hl)))
theorem qDh {p n n' r k : Nat} (hp : P4 p) (n1 : 1 ≤ n) (hn : n ≤ 10) (n1' : 1 ≤ n') (hn' : n' ≤ 10) {v v' : Nat → Int} (hv : ∀ i, i < r → v i = v' i) (h1 : k ≤ n + 1) (h2 : k ≤ n' + 1) (h3 : k ≤ p ^ (r + 1)) :
  ∀ i j, i + j < k → qBV p n v i j = qBV p n' v' i j := by
 have a := qBe (qG2 hp n1 hn v) h1
 have b := qBe (qG2 hp n1' hn' v') h2
 have l1 := qDB (m := 0) (qEK p n v)
 have l2 := qDB (m := 0) (qEK p n' v')
 have c := qA2 (qHG hp hv h3 l2) (qA2 b (qAQ (qAM (qHG hp hv h3 (qCP 0)) (qHG hp hv h3 (qCW 0)))))
 have d := qGi (qEO (qEO qII)) hp.pos.1 (qJ5 hp v) l1 l2 (qA2 a (qAQ c)) k (nl _)
 intro i j hij
 have := qAJ.1 d i j hij
 rwa [Int.emod_zero, Int.emod_zero] at this

theorem qKD {n : Nat} (h2 : 2 ≤ n) (hn : n ≤ 10) {m x y : Int} (h : ∀ i, i < n + 1 → x * laz n i % m = y * laz n i % m) : x % m = y % m := by
 have d : ∀ i, i < n + 1 → m ∣ laz n i * (x - y) := fun i hi => by
  have := qFi (h i hi)
  rwa [← Int.sub_mul, Int.mul_comm] at this
 refine qKu ?_
 obtain rfl | rfl | rfl | rfl | rfl | rfl | rfl | rfl | rfl : n = 2 ∨ n = 3 ∨ n = 4 ∨ n = 5 ∨ n = 6 ∨ n = 7 ∨ n = 8 ∨ n = 9 ∨ n = 10 := Oo
 ·have h1 : m ∣ 1 * (x - y) := d 1 Oo
  rwa [Int.one_mul] at h1
 ·have h1 : m ∣ 1 * (x - y) := d 1 Oo
  rwa [Int.one_mul] at h1
 ·have h1 : m ∣ 2 * (x - y) := d 1 Oo; have h2 : m ∣ 3 * (x - y) := d 2 Oo; have h := Int.dvd_sub h2 h1
  rwa [show 3 * (x - y) - 2 * (x - y) = x - y by omega] at h
 ·have h1 : m ∣ 1 * (x - y) := d 1 Oo
  rwa [Int.one_mul] at h1
 ·have h1 : m ∣ 6 * (x - y) := d 1 Oo; have h2 : m ∣ 15 * (x - y) := d 2 Oo; have h3 : m ∣ 20 * (x - y) := d 3 Oo; have h := Int.dvd_sub (Int.dvd_add h1 h2) h3
  rwa [show 6 * (x - y) + 15 * (x - y) - 20 * (x - y) = x - y by omega] at h
 ·have h1 : m ∣ 1 * (x - y) := d 1 Oo
  rwa [Int.one_mul] at h1
 ·have h1 : m ∣ 4 * (x - y) := d 1 Oo; have h3 : m ∣ 28 * (x - y) := d 3 Oo; have h4 : m ∣ 35 * (x - y) := d 4 Oo; have h := dv2 2 h1 (dv2 (-1) h4 h3)
  rwa [show 2 * (4 * (x - y)) + ((-1) * (35 * (x - y)) + 28 * (x - y)) = x - y by omega] at h
 ·have h1 : m ∣ 3 * (x - y) := d 1 Oo; have h3 : m ∣ 28 * (x - y) := d 3 Oo; have h := dv2 (-9) h1 h3
  rwa [show (-9) * (3 * (x - y)) + 28 * (x - y) = x - y by omega] at h
 ·have h1 : m ∣ 10 * (x - y) := d 1 Oo; have h2 : m ∣ 45 * (x - y) := d 2 Oo; have h5 : m ∣ 252 * (x - y) := d 5 Oo; have h := dv2 101 h2 (dv2 (-404) h1 (dv2 (-2) h5 (Int.dvd_zero m)))
  rwa [show 101 * (45 * (x - y)) + ((-404) * (10 * (x - y)) + ((-2) * (252 * (x - y)) + 0)) = x - y by omega] at h
end
section

theorem qG6 : ∀ n k, 0 ≤ bin n k ∧ bin n k ≤ 2 ^ n
 | 0, 0 => ⟨by decide, by decide⟩
 | 0, k + 1 => ⟨by show (0 : Int) ≤ 0; omega, by show (0 : Int) ≤ 1; omega⟩
 | n + 1, 0 => ⟨by show (0 : Int) ≤ 1; omega, by
   have h := (qG6 n 0)
   show (1 : Int) ≤ _
   rw [Int.pow_succ]; rw [qEF] at h; omega⟩
 | n + 1, k + 1 => by
   have h := qG6 n k; have h' := qG6 n (k + 1)
   show 0 ≤ bin n k + bin n (k + 1) ∧ bin n k + bin n (k + 1) ≤ _
   rw [Int.pow_succ]; omega
theorem qDP {n : Nat} (hn : n ≤ 10) (k : Nat) : 0 ≤ bin n k ∧ bin n k ≤ 1024 := by
 have h := qG6 n k
 have : (2 : Int) ^ n ≤ 2 ^ 10 := by
  have := Nat.pow_le_pow_right (n := 2) Oo hn
  exact_mod_cast this
 exact ⟨h.1, Int.le_trans h.2 this⟩

theorem qKE (n k : Nat) (w : World) (hk : k ≤ n) (hn : n ≤ 10) :
  Calls Tryz.prog 166 #[.int .i64 n, .int .i64 k] w fun e w' => e = .returned (.int .i64 (bin n k)) ∧ Below w.heap.size w w' := by
 have g0 : ¬ (n : Int) < (k : Int) := Oo
 have g1 : ¬ (k : Int) < 0 := Oo
 go_enter Tryz.func166, Tryz.ntmps166
 go_wp2_with fail
 have O1 := OwI.lit w [1] (by decide)
 have B1 : Below w.heap.size w (w.alloc (.cells #[.int .i64 1] 2)) := bZ
 simp at O1
 generalize w.alloc (.cells #[.int .i64 1] 2) = w1 at O1 B1 ⊢
 go_loopw [5, 13] (fun row i wr => ∃ q : Nat, q ≤ n ∧ i = .int .i64 q ∧ RdI wr row (mk (q + 1) (bin q)) ∧ Below w.heap.size w wr) (fun _ i _ => n - (intOf i).toNat)
 case atStart => exact ⟨0, Nat.zero_le _, rfl, O1.rd, B1⟩
 case round =>
  clear O1 B1; obtain ⟨q, hq, rfl, hR, hB⟩ := hrel; obtain ⟨wo, rfl⟩ : ∃ wo : World, wo = wr := ⟨_, rfl⟩; have hl : (mk (q + 1) (bin q)).length = q + 1 := qA8 _ _; obtain ⟨o, c, rfl, hmx, -⟩ := id hR; unfold maxLen at hmx; rw [hl] at hR hmx ⊢; obtain ⟨bx, fx, rfl, -⟩ := hR.cells (by rw [hl]; omega); have hBs := hB.size
  by_cases hlt : q < n
  ·have i0 : (q : Int) < (n : Int) := Oo; have O2 := OwI.lit wo [1] (by decide); have B2 : Below wo.heap.size wo (wo.alloc (.cells #[.int .i64 1] 2)) := bZ; simp at O2; rw [show [(1 : Int)] = mk 1 (bin (q + 1)) from rfl] at O2
   go_wp2_with fail
   generalize wo.alloc (.cells #[.int .i64 1] 2) = w2 at O2 B2 ⊢
   go_loopw [6, 7] (fun s i wi => ∃ j : Nat, j ≤ q ∧ i = .int .i64 ((j : Int) + 1) ∧ OwI wi wo.heap.size s (mk (j + 1) (bin (q + 1))) ∧ Below wo.heap.size wo wi) (fun _ i _ => q + 1 - (intOf i).toNat)
   case atStart => exact ⟨0, Nat.zero_le _, rfl, O2, B2⟩
   case round =>
    clear O2 B2; obtain ⟨j, hj, rfl, hO, hBi⟩ := hrel; obtain ⟨ov, cv, rfl⟩ := hO.shapeN (n := j + 1) (qA8 _ _)
    by_cases hjl : j < q
    ·have cx := (hR.below hBi).cell0 (qAy (f := bin q) (show j < q + 1 by omega)); have cy := (hR.below hBi).cell0 (qAy (f := bin q) (show j + 1 < q + 1 by omega)); have r1 := qDP (show q ≤ 10 by omega) j; have r2 := qDP (show q ≤ 10 by omega) (j + 1); have i1 : (0 : Int) ≤ (j : Int) + 1 := Oo; have i2 : (j : Int) + 1 < (q : Int) + 1 := Oo; have i2' : (j : Int) < (q : Int) := Oo; have i3 : (0 : Int) ≤ (j : Int) := Oo; have i4 : (j : Int) < (q : Int) + 1 := Oo; have i7 : ((j : Int) + 1).toNat = j + 1 := Oo; have e0 : IntKind.i64.wrap ((j : Int) + 1 - 1) = (j : Int) := by rw [IntWalk.i64_in _ Oo]; omega
     have e0' : IntKind.i64.wrap (j : Int) = (j : Int) := IntWalk.i64_in _ Oo; have e1 : IntKind.i64.wrap (bin q j + bin q (j + 1)) = bin q j + bin q (j + 1) := IntWalk.i64_in _ Oo; have HS := dd (show mk (j + 1 + 1) (bin (q + 1)) = mk (j + 1) (bin (q + 1)) ++ [bin q j + bin q (j + 1)] by rw [qCN]; rfl); have hBis := hBi.size
     go_wp2_with fail
     go_region_held3 (fun w' => w'.cell? ⟨bx, fx + j, none⟩ = some (.int .i64 (bin q j)) ∧ w'.cell? ⟨bx, fx + (j + 1), none⟩ = some (.int .i64 (bin q (j + 1)))) (go_keep)
      ((refine stI wr rfl _ _ rfl wo.heap.size (.slice ov (j + 1) cv) _ rfl hO _ rfl (by rw [qA8]; omega) Oo ?_; intro v' w4 hO3 hb3; have cx2 := (hR.below (hBi.trans hb3) (nl _)).cell0 (qAy (f := bin q) (show j < q + 1 by omega)); have cy2 := (hR.below (hBi.trans hb3) (nl _)).cell0 (qAy (f := bin q) (show j + 1 < q + 1 by omega))))
     rw [← HS.out] at hO3; go_wp2; exact ⟨⟨j + 1, Oo, by go_num, hO3, hBi.trans hb3⟩, by simp [intOf]; omega⟩
    ·obtain rfl : j = q := Oo; have i3 : ¬ ((j : Int) + 1 < (j : Int) + 1) := Oo; have HS := dd (show mk (j + 1 + 1) (bin (j + 1)) = mk (j + 1) (bin (j + 1)) ++ [1] by rw [qCN, qF8]); have hBis := hBi.size
     go_wp2_with (at_builtin; refine apI wr rfl _ _ rfl wo.heap.size (.slice ov (j + 1) cv) _ rfl hO _ rfl (by rw [qA8]; omega) Oo ?_; intro v' w4 hO3 hgr hb3 hlt3; clear hgr)
     rw [← HS.out] at hO3; exact ⟨⟨j + 1, Oo, by go_num, hO3.rd, hB.trans ((hBi.trans hb3).mono hBs)⟩, by simp [intOf]; omega⟩
  ·obtain rfl : q = n := Oo; have cx := hR.cell0 (qAy (f := bin q) (show k < q + 1 by omega)); have i1 : (k : Int) < (q : Int) + 1 := Oo; go_wp2; go_ret; exact ⟨rfl, hB⟩
theorem qIz (n k : Nat) (w : World) (hk : k ≤ n) (hn : n ≤ 10) :
  Calls Tryz.prog 177 #[.int .i64 n, .int .i64 k] w fun e w' => e = .returned (.int .i64 (bin n k)) ∧ Below w.heap.size w w' := by
 have g0 : ¬ (n : Int) < (k : Int) := Oo
 have g1 : ¬ (k : Int) < 0 := Oo
 go_enter Tryz.func177, Tryz.ntmps177
 go_wp2_with fail
 have O1 := OwI.lit w [1] (by decide)
 have B1 : Below w.heap.size w (w.alloc (.cells #[.int .i64 1] 2)) := bZ
 simp at O1
 generalize w.alloc (.cells #[.int .i64 1] 2) = w1 at O1 B1 ⊢
 go_loopw [5, 6] (fun row i wr => ∃ q : Nat, q ≤ n ∧ i = .int .i64 q ∧ RdI wr row (mk (q + 1) (bin q)) ∧ Below w.heap.size w wr) (fun _ i _ => n - (intOf i).toNat)
 case atStart => exact ⟨0, Nat.zero_le _, rfl, O1.rd, B1⟩
 case round =>
  clear O1 B1; obtain ⟨q, hq, rfl, hR, hB⟩ := hrel; obtain ⟨wo, rfl⟩ : ∃ wo : World, wo = wr := ⟨_, rfl⟩; have hl : (mk (q + 1) (bin q)).length = q + 1 := qA8 _ _; obtain ⟨o, c, rfl, hmx, -⟩ := id hR; unfold maxLen at hmx; rw [hl] at hR hmx ⊢; obtain ⟨bx, fx, rfl, -⟩ := hR.cells (by rw [hl]; omega); have hBs := hB.size
  by_cases hlt : q < n
  ·have i0 : (q : Int) < (n : Int) := Oo; have O2 := OwI.lit wo [1] (by decide); have B2 : Below wo.heap.size wo (wo.alloc (.cells #[.int .i64 1] 2)) := bZ; simp at O2; rw [show [(1 : Int)] = mk 1 (bin (q + 1)) from rfl] at O2
   go_wp2_with fail
   generalize wo.alloc (.cells #[.int .i64 1] 2) = w2 at O2 B2 ⊢
   go_loopw [7, 8] (fun s i wi => ∃ j : Nat, j ≤ q ∧ i = .int .i64 ((j : Int) + 1) ∧ OwI wi wo.heap.size s (mk (j + 1) (bin (q + 1))) ∧ Below wo.heap.size wo wi) (fun _ i _ => q + 1 - (intOf i).toNat)
   case atStart => exact ⟨0, Nat.zero_le _, rfl, O2, B2⟩
   case round =>
    clear O2 B2; obtain ⟨j, hj, rfl, hO, hBi⟩ := hrel; obtain ⟨ov, cv, rfl⟩ := hO.shapeN (n := j + 1) (qA8 _ _)
    by_cases hjl : j < q
    ·have cx := (hR.below hBi).cell0 (qAy (f := bin q) (show j < q + 1 by omega)); have cy := (hR.below hBi).cell0 (qAy (f := bin q) (show j + 1 < q + 1 by omega)); have r1 := qDP (show q ≤ 10 by omega) j; have r2 := qDP (show q ≤ 10 by omega) (j + 1); have i1 : (0 : Int) ≤ (j : Int) + 1 := Oo; have i2 : (j : Int) + 1 < (q : Int) + 1 := Oo; have i2' : (j : Int) < (q : Int) := Oo; have i3 : (0 : Int) ≤ (j : Int) := Oo; have i4 : (j : Int) < (q : Int) + 1 := Oo; have i7 : ((j : Int) + 1).toNat = j + 1 := Oo; have e0 : IntKind.i64.wrap ((j : Int) + 1 - 1) = (j : Int) := by rw [IntWalk.i64_in _ Oo]; omega
     have e0' : IntKind.i64.wrap (j : Int) = (j : Int) := IntWalk.i64_in _ Oo; have e1 : IntKind.i64.wrap (bin q j + bin q (j + 1)) = bin q j + bin q (j + 1) := IntWalk.i64_in _ Oo; have HS := dd (show mk (j + 1 + 1) (bin (q + 1)) = mk (j + 1) (bin (q + 1)) ++ [bin q j + bin q (j + 1)] by rw [qCN]; rfl); have hBis := hBi.size
     go_wp2_with fail
     go_region_held3 (fun w' => w'.cell? ⟨bx, fx + j, none⟩ = some (.int .i64 (bin q j)) ∧ w'.cell? ⟨bx, fx + (j + 1), none⟩ = some (.int .i64 (bin q (j + 1)))) (go_keep)
      ((refine stI wr rfl _ _ rfl wo.heap.size (.slice ov (j + 1) cv) _ rfl hO _ rfl (by rw [qA8]; omega) Oo ?_; intro v' w4 hO3 hb3; have cx2 := (hR.below (hBi.trans hb3) (nl _)).cell0 (qAy (f := bin q) (show j < q + 1 by omega)); have cy2 := (hR.below (hBi.trans hb3) (nl _)).cell0 (qAy (f := bin q) (show j + 1 < q + 1 by omega))))
     rw [← HS.out] at hO3; go_wp2; exact ⟨⟨j + 1, Oo, by go_num, hO3, hBi.trans hb3⟩, by simp [intOf]; omega⟩
    ·obtain rfl : j = q := Oo; have i3 : ¬ ((j : Int) + 1 < (j : Int) + 1) := Oo; have HS := dd (show mk (j + 1 + 1) (bin (j + 1)) = mk (j + 1) (bin (j + 1)) ++ [1] by rw [qCN, qF8]); have hBis := hBi.size
     go_wp2_with (at_builtin; refine apI wr rfl _ _ rfl wo.heap.size (.slice ov (j + 1) cv) _ rfl hO _ rfl (by rw [qA8]; omega) Oo ?_; intro v' w4 hO3 hgr hb3 hlt3; clear hgr)
     rw [← HS.out] at hO3; exact ⟨⟨j + 1, Oo, by go_num, hO3.rd, hB.trans ((hBi.trans hb3).mono hBs)⟩, by simp [intOf]; omega⟩
  ·obtain rfl : q = n := Oo; have cx := hR.cell0 (qAy (f := bin q) (show k < q + 1 by omega)); have i1 : (k : Int) < (q : Int) + 1 := Oo; go_wp2; go_ret; exact ⟨rfl, hB⟩
end
section

def qC4 (n : Nat) : Nat → Int
 | 0 => 0
 | k + 1 => ((Nat.gcd (qC4 n k).toNat (bin n (k + 1)).toNat : Nat) : Int)
theorem qLf : ∀ n, n ≤ 10 → ∀ k, k ≤ 10 → 0 ≤ qC4 n k ∧ qC4 n k ≤ 1024 := by
 intro n hn k hk
 have h : ∀ n : Fin 11, ∀ k : Fin 11, 0 ≤ qC4 n.1 k.1 ∧ qC4 n.1 k.1 ≤ 1024 := by decide
 exact h ⟨n, Oo⟩ ⟨k, Oo⟩
theorem qJG : ∀ n, n ≤ 10 → qC4 n (n - 1) = lam n := by
 intro n hn
 have h : ∀ n : Fin 11, qC4 n.1 (n.1 - 1) = lam n.1 := by decide
 exact h ⟨n, Oo⟩
theorem qF2 : ∀ n, 2 ≤ n → n ≤ 10 → 1 ≤ lam n ∧ lam n ≤ 7 := by
 intro n h2 hn
 have h : ∀ n : Fin 11, 2 ≤ n.1 → 1 ≤ lam n.1 ∧ lam n.1 ≤ 7 := by decide
 exact h ⟨n, Oo⟩ h2

theorem qOZ (a b : Int) (n k : Nat) (w : World) (ha : a = n) (hb : b = k) (hk : k ≤ n) (hn : n ≤ 10) :
  Calls Tryz.prog 166 #[.int .i64 a, .int .i64 b] w fun e w' => e = .returned (.int .i64 (bin n k)) ∧ Below w.heap.size w w' := by
 subst ha hb
 exact qKE n k w hk hn
theorem qNQ (a b : Int) (n k : Nat) (w : World) (ha : a = n) (hb : b = k) (hk : k ≤ n) (hn : n ≤ 10) :
  Calls Tryz.prog 177 #[.int .i64 a, .int .i64 b] w fun e w' => e = .returned (.int .i64 (bin n k)) ∧ Below w.heap.size w w' := by
 subst ha hb
 exact qIz n k w hk hn

theorem qKr (n : Nat) (w : World) (h2 : 2 ≤ n) (hn : n ≤ 10) :
  Calls Tryz.prog 112 #[.int .i64 n] w fun e w' => e = .returned (.int .i64 (lam n)) ∧ Below w.heap.size w w' := by
 go_enter Tryz.func112, Tryz.ntmps112
 go_wp2_with fail
 go_loopw [3, 4] (fun d i wr => ∃ q : Nat, q ≤ n - 1 ∧ i = .int .i64 ((q : Int) + 1) ∧ d = .int .i64 (qC4 n q) ∧ Below w.heap.size w wr) (fun _ i _ => n - (intOf i).toNat)
 case atStart => exact ⟨0, Nat.zero_le _, rfl, rfl, Below.refl _ _⟩
 case round =>
  obtain ⟨q, hq, rfl, rfl, hB⟩ := hrel; have hBs := hB.size
  by_cases hlt : q < n - 1
  ·have i1 : (q : Int) + 1 < (n : Int) := Oo; have r1 := qLf n hn q Oo; have r2 := qDP hn (q + 1); have HL := dd (show ((Nat.gcd (qC4 n q).toNat (bin n (q + 1)).toNat : Nat) : Int) = qC4 n (q + 1) from rfl)
   go_wp2_with fail
   refine (qOZ (n : Int) ((q : Int) + 1) n (q + 1) _ rfl Oo Oo hn).mono ?_; rintro e w2 ⟨rfl, hb2⟩
   go_wp2_with fail
   refine (gcd_c (qC4 n q) (bin n (q + 1)) _ Oo Oo Oo Oo).mono ?_; rintro e w3 ⟨rfl, dg, rfl⟩; rw [HL.out]; go_wp2; exact ⟨⟨q + 1, Oo, by go_num, rfl, (bY2 hb2 hB)⟩, by simp [intOf]; omega⟩
  ·obtain rfl : q = n - 1 := Oo; have i1 : ¬ ((n - 1 : Nat) : Int) + 1 < (n : Int) := Oo; rw [qJG n hn]; go_wp2; go_ret; exact ⟨rfl, hB⟩
theorem qJK (n : Nat) (w : World) (h2 : 2 ≤ n) (hn : n ≤ 10) :
  Calls Tryz.prog 121 #[.int .i64 n] w fun e w' => e = .returned (.int .i64 (lam n)) ∧ Below w.heap.size w w' := by
 go_enter Tryz.func121, Tryz.ntmps121
 go_wp2_with fail
 go_loopw [3, 4] (fun d i wr => ∃ q : Nat, q ≤ n - 1 ∧ i = .int .i64 ((q : Int) + 1) ∧ d = .int .i64 (qC4 n q) ∧ Below w.heap.size w wr) (fun _ i _ => n - (intOf i).toNat)
 case atStart => exact ⟨0, Nat.zero_le _, rfl, rfl, Below.refl _ _⟩
 case round =>
  obtain ⟨q, hq, rfl, rfl, hB⟩ := hrel; have hBs := hB.size
  by_cases hlt : q < n - 1
  ·have i1 : (q : Int) + 1 < (n : Int) := Oo; have r1 := qLf n hn q Oo; have r2 := qDP hn (q + 1); have HL := dd (show ((Nat.gcd (qC4 n q).toNat (bin n (q + 1)).toNat : Nat) : Int) = qC4 n (q + 1) from rfl)
   go_wp2_with fail
   refine (qNQ (n : Int) ((q : Int) + 1) n (q + 1) _ rfl Oo Oo hn).mono ?_; rintro e w2 ⟨rfl, hb2⟩
   go_wp2_with fail
   refine (qQN (qC4 n q) (bin n (q + 1)) _ Oo Oo Oo Oo).mono ?_; rintro e w3 ⟨rfl, rfl⟩; rw [HL.out]; go_wp2; exact ⟨⟨q + 1, Oo, by go_num, rfl, (bY2 hb2 hB)⟩, by simp [intOf]; omega⟩
  ·obtain rfl : q = n - 1 := Oo; have i1 : ¬ ((n - 1 : Nat) : Int) + 1 < (n : Int) := Oo; rw [qJG n hn]; go_wp2; go_ret; exact ⟨rfl, hB⟩
theorem qI6 {n i : Nat} (h2 : 2 ≤ n) (hn : n ≤ 10) (h1 : 1 ≤ i) (hi : i < n) : (bin n i).tdiv (lam n) = laz n i := by
 unfold laz
 rw [if_pos ⟨h1, hi⟩, Int.tdiv_eq_ediv_of_nonneg (qDP hn i).1]
def qF0 (n k : Nat) : Li := mk (n + 1) (fun i => if i < k then laz n i else 0)
theorem lazL_1 (n : Nat) : qF0 n 1 = List.replicate (n + 1) 0 := by
 rw [qDD]
 refine qAh fun i _ => ?_
 by_cases h : i < 1
 ·rw [if_pos h, show i = 0 by omega]; rfl
 ·rw [if_neg h]
theorem qMG {n k : Nat} (hk : k < n) : (qF0 n k).set k (laz n k) = qF0 n (k + 1) := by
 unfold qF0
 rw [qDu]
 refine qAh fun i _ => ?_
 by_cases h : i = k
 ·subst h; rw [if_pos rfl, if_pos Oo]
 ·rw [if_neg h]
  by_cases h' : i < k
  ·rw [if_pos h', if_pos Oo]
  ·rw [if_neg h', if_neg Oo]
theorem qJR {n i : Nat} (h : n ≤ i) : laz n i = 0 := by unfold laz; rw [if_neg Oo]
theorem lazL_n (n : Nat) : qF0 n n = mk (n + 1) (laz n) := qAh fun i hi => by
 by_cases h : i < n
 ·rw [if_pos h]
 ·rw [if_neg h, qJR Oo]

theorem qPN (n : Nat) (w : World) (h2 : 2 ≤ n) (hn : n ≤ 10) :
  Calls Tryz.prog 163 #[.int .i64 n] w fun e w' => ∃ v', e = .returned v' ∧ OwI w' w.heap.size v' (mk (n + 1) (laz n)) ∧ Below w.heap.size w w' := by
 go_enter Tryz.func163, Tryz.ntmps163
 go_wp2_with fail
 refine (qKr n w h2 hn).mono ?_
 rintro e w1 ⟨rfl, hb1⟩
 have e0 : IntKind.i64.wrap ((n : Int) + 1) = ((n + 1 : Nat) : Int) := by rw [IntWalk.i64_in _ Oo]; omega
 have hb1s := hb1.size
 go_wp2_with (at_make; go_loud (refine mkI _ rfl _ _ rfl _ _ _ (n + 1) rfl rfl rfl Oo ?_; intro w2 hown hb hs1))
 rw [← lazL_1] at hown
 obtain ⟨g, hg⟩ : ∃ g, g = w1.heap.size := ⟨_, rfl⟩
 rw [← hg] at hown hb hs1 hb1s ⊢
 have HG := dd hg
 have hcm : n + 1 ≤ maxLen := by unfold maxLen; omega
 obtain ⟨la1, la2⟩ := qF2 n h2 hn
 obtain ⟨L, hL⟩ : ∃ L, L = lam n := ⟨_, rfl⟩
 rw [← hL] at la1 la2 ⊢
 have HL := dd hL
 clear hL hg
 have l1 : ¬ L = 0 := Oo
 have l2 : (L == 0) = false := by simp; omega
 have B2 : Below w.heap.size w w2 := hb1.trans (hb.mono hb1s)
 clear hb1 hb
 go_loopw [5] (fun i wr => ∃ k : Nat, 1 ≤ k ∧ k ≤ n ∧ i = .int .i64 k ∧ OwI wr g (.slice (some ⟨g, 0, none⟩) (n + 1) (n + 1)) (qF0 n k) ∧ Below w.heap.size w wr) (fun i _ => n - (intOf i).toNat)
 case atStart => exact ⟨1, Nat.le_refl _, Oo, rfl, hown, B2⟩
 case round =>
  obtain ⟨k, hk1, hk, rfl, hO, hB⟩ := hrel; have hBs := hB.size
  by_cases hlt : k < n
  ·have i1 : (k : Int) < (n : Int) := Oo; have i2 : (0 : Int) ≤ (k : Int) := Oo; have i3 : (k : Int) < (n : Int) + 1 := Oo; have i4 : (k : Int) < ((n + 1 : Nat) : Int) := Oo; have r2 := qDP hn k; have hq := qI6 h2 hn hk1 hlt; rw [← HL.out] at hq; have HQ := dd hq; clear hq; have hc0 := hO.cell (k := k) (qAy (f := fun i => if i < k then laz n i else 0) (show k < n + 1 by omega)); have hf0 := hO.fz k; have q1 : (bin n k).tdiv L = laz n k := HQ.out; have q2 := qI6 h2 hn hk1 hlt
   have q0 : 0 ≤ (bin n k).tdiv L ∧ (bin n k).tdiv L ≤ 1024 := by
    rw [Int.tdiv_eq_ediv_of_nonneg r2.1]; exact ⟨Int.ediv_nonneg r2.1 Oo, Int.le_trans (Int.ediv_le_self _ r2.1) r2.2⟩
   have e3 : IntKind.i64.wrap ((bin n k).tdiv L) = (bin n k).tdiv L := IntWalk.i64_in _ Oo
   go_wp2_with fail
   refine (qKE n k _ Oo hn).mono ?_; rintro e w4 ⟨rfl, hb4⟩; have hO4 := hO.below hb4; have hc1 := hO4.cell (k := k) (qAy (f := fun i => if i < k then laz n i else 0) (show k < n + 1 by omega)); have hf1 := hO4.fz k; clear hc0 hf0; have hHO := dd hO4; clear hO hO4; go_wp2; have hO5 := hHO.out.put k (laz n k); rw [qMG hlt] at hO5; exact ⟨⟨k + 1, Oo, Oo, by go_num, hO5, qAL (hB.trans (hb4.mono hBs)) (g := g) (k := k) Oo (.int .i64 (laz n k))⟩, by simp [intOf]; omega⟩
  ·obtain rfl : k = n := Oo; rw [lazL_n] at hO; have i1 : ¬ (k : Int) < (k : Int) := Oo; go_wp2; go_ret; exact ⟨_, rfl, hO.mono (by have := HG.out; omega), hB⟩
end
section

def qAl (m : Int) (c d : Nat → Int) (x : Int) : Nat → Bool
 | 0 => true
 | k + 1 => qAl m c d x k && (d k % m == x * (c k % m) % m)
def qAR (m : Int) (c d : Nat → Int) (n : Nat) : Nat → Int
 | 0 => -1
 | k + 1 => if 0 ≤ qAR m c d n k then qAR m c d n k else if qAl m c d k n = true then (k : Int) else -1
theorem qGW {m : Int} {c d : Nat → Int} {n k : Nat} (h : 0 ≤ qAR m c d n k) : ∀ j, qAR m c d n (k + j) = qAR m c d n k
 | 0 => rfl
 | j + 1 => by
   show (if 0 ≤ qAR m c d n (k + j) then qAR m c d n (k + j) else _) = _
   rw [qGW h j, if_pos h]
theorem qK5 {m : Int} {c d : Nat → Int} {n k : Nat} (h : qAR m c d n k = -1) (hf : qAl m c d k n = true) : qAR m c d n (k + 1) = k := by
 show (if 0 ≤ qAR m c d n k then _ else if qAl m c d k n = true then (k : Int) else -1) = k
 rw [h, if_neg Oo, if_pos hf]
theorem qGg {m : Int} {c d : Nat → Int} {n k : Nat} (h : qAR m c d n k = -1) (hf : qAl m c d k n = false) : qAR m c d n (k + 1) = -1 := by
 show (if 0 ≤ qAR m c d n k then _ else if qAl m c d k n = true then (k : Int) else -1) = -1
 rw [h, if_neg Oo, if_neg (by rw [hf]; simp)]
theorem qHg {m : Int} {c d : Nat → Int} {n k M : Nat} (h : qAR m c d n k = -1) (hf : qAl m c d k n = true) (hk : k < M) : qAR m c d n M = k := by
 have h1 := qK5 h hf
 have h2 := qGW (m := m) (c := c) (d := d) (n := n) (k := k + 1) (by rw [h1]; omega) (M - (k + 1))
 rw [show k + 1 + (M - (k + 1)) = M by omega, h1] at h2
 exact h2
theorem qEL (m : Int) (c d : Nat → Int) (n : Nat) : ∀ K, qAR m c d n K = -1 ∨ (∃ k : Nat, k < K ∧ qAR m c d n K = k ∧ qAl m c d k n = true)
 | 0 => .inl rfl
 | K + 1 => by
   rcases qEL m c d n K with h | ⟨k, hk, h, hf⟩
   ·cases hf : qAl m c d K n
    ·exact .inl (qGg h hf)
    ·exact .inr ⟨K, Oo, qK5 h hf, hf⟩
   ·exact .inr ⟨k, Oo, by have := qGW (m := m) (c := c) (d := d) (n := n) (k := K) (by rw [h]; omega) 1; rw [this, h], hf⟩
theorem qLl {m : Int} {c d : Nat → Int} {x : Int} {k : Nat} (h : qAl m c d x k = false) : ∀ j, qAl m c d x (k + j) = false
 | 0 => h
 | j + 1 => by show (qAl m c d x (k + j) && _) = false; rw [qLl h j]; rfl
def qBZ (m : Int) (c d : Nat → Int) (n : Nat) : Int := if 0 ≤ qAR m c d n m.toNat then qAR m c d n m.toNat else 0
theorem facP_t {m : Int} {c d : Nat → Int} {n k : Nat} (h : qAR m c d n k = -1) (hf : qAl m c d k n = true) (hk : k < m.toNat) : qBZ m c d n = k := by
 unfold qBZ; rw [qHg h hf hk, if_pos Oo]
theorem facP_f {m : Int} {c d : Nat → Int} {n : Nat} (h : qAR m c d n m.toNat = -1) : qBZ m c d n = 0 := by
 unfold qBZ; rw [h, if_neg Oo]
theorem qHe {n : Nat} (h2 : 2 ≤ n) (hn : n ≤ 10) (i : Nat) : 0 ≤ laz n i ∧ laz n i ≤ 1024 := by
 unfold laz
 by_cases h : 1 ≤ i ∧ i < n
 ·rw [if_pos h]; have r := qDP hn i; have l := qF2 n h2 hn; exact ⟨Int.ediv_nonneg r.1 Oo, Int.le_trans (Int.ediv_le_self _ r.1) r.2⟩
 ·rw [if_neg h]; omega

theorem qKZ (m : Int) (n : Nat) (v : Value) (ds : Li) (w : World) (hv : RdI w v ds) (hl : ds.length = n + 1) (h2 : 2 ≤ n) (hn : n ≤ 10) (hm : 2 ≤ m) (hm' : m ≤ 10000) (hd : ∀ x ∈ ds, 0 ≤ x ∧ x < m) :
  Calls Tryz.prog 107 #[.int .i64 m, v] w fun e w' => e = .returned (.int .i64 (qBZ m (laz n) (at0 ds) (n + 1))) ∧ Below w.heap.size w w' := by
 obtain ⟨M, rfl⟩ : ∃ M : Nat, m = M := ⟨m.toNat, Oo⟩
 obtain ⟨o, cv, rfl, hmx, -⟩ := id hv
 have HL := dd hl
 rw [hl] at hmx ⊢
 have hv' : RdI w (.slice o (n + 1) cv) ds := by rw [hl] at hv; exact hv
 obtain ⟨bv, fv, rfl, -⟩ := hv'.cells Oo
 clear hv hl
 have HDr := dd hd
 clear hd
 go_enter Tryz.func107, Tryz.ntmps107
 go_wp2_with fail
 refine (qPN n w h2 hn).mono ?_
 rintro e w1 ⟨vc, rfl, hO, hb1⟩
 obtain ⟨oc, cc, rfl⟩ := hO.shapeN (n := n + 1) (qA8 _ _)
 obtain ⟨gc, rfl, -, -⟩ := hO.row Oo
 have hC := hO.rd
 have hV := hv'.below hb1
 clear hv' hO
 go_wp2_with fail
 go_loopw [15] (fun i wr => ∃ (k : Nat) (d : Nat), k ≤ M ∧ i = .int .i64 k ∧ wr = w1.drewN d ∧ Hid (qAR M (laz n) (at0 ds) (n + 1) k = -1)) (fun i _ => M - (intOf i).toNat)
 case atStart => exact ⟨0, 0, Nat.zero_le _, rfl, rfl, dd rfl⟩
 case round =>
  obtain ⟨k, dr, hk, rfl, rfl, HK⟩ := hrel
  by_cases hlt : k < M
  ·have i0 : (k : Int) < (M : Int) := Oo
   go_wp2_with fail
   go_loopw [7, 20] (fun f i wr => ∃ (q : Nat) (d : Nat), q ≤ n + 1 ∧ i = .int .i64 q ∧ f = .bool (qAl M (laz n) (at0 ds) k q) ∧ wr = w1.drewN d) (fun _ i _ => n + 1 - (intOf i).toNat)
   case atStart => exact ⟨0, dr, Nat.zero_le _, rfl, rfl, rfl⟩
   case round =>
    obtain ⟨q, dq, hq, rfl, rfl, rfl⟩ := hrel
    by_cases hql : q < n + 1
    ·have i1 : (q : Int) < (n : Int) + 1 := Oo; have i2 : (0 : Int) ≤ (q : Int) := Oo; have i3 : (q : Int) < ((n + 1 : Nat) : Int) := Oo; have hb : Below w1.heap.size w1 (w1.drewN dq) := bZ; have cV := hV.cell0 (qA5 (show q < ds.length by have := HL.out; omega)); have cC := hC.cell0 (qAy (f := laz n) hql); rw [Nat.zero_add] at cC; have rd := qAG Oo HDr.out q; have rl := qHe h2 hn q; have rm := qA6 (a := laz n q) (show 0 < (M : Int) by omega); have m0 : ((M : Int) == 0) = false := by simp; omega
     have m1 : ¬ (M : Int) = 0 := Oo; have hp : 0 ≤ (k : Int) * (laz n q % (M : Int)) ∧ (k : Int) * (laz n q % (M : Int)) ≤ 10000 * 10000 := ⟨Int.mul_nonneg Oo rm.1, Int.mul_le_mul Oo Oo rm.1 Oo⟩; have e1 : (laz n q).tmod (M : Int) = laz n q % (M : Int) := Int.tmod_eq_emod_of_nonneg rl.1; have e2 : IntKind.i64.wrap ((k : Int) * (laz n q % (M : Int))) = (k : Int) * (laz n q % (M : Int)) := IntWalk.i64_in _ Oo; have HF : Hid (qAl M (laz n) (at0 ds) k (q + 1) = (qAl M (laz n) (at0 ds) k q && (at0 ds q % (M : Int) == (k : Int) * (laz n q % (M : Int)) % (M : Int)))) := dd rfl; generalize at0 ds q = x at cV rd HF; generalize laz n q = y at cC rl rm hp e1 e2 HF; generalize hY : y % (M : Int) = Y at rm hp e1 e2 HF; generalize hZ : (k : Int) * Y = Z at hp e2 HF; have HZ := dd hZ; clear hZ hY; cases hB : qAl M (laz n) (at0 ds) k q
     ·rw [hB] at HF
      go_wp2_with fail
      go_quiet (fail)
      go_wp2; exact ⟨⟨q + 1, _, Oo, by go_num, by rw [HF.out]; rfl, (by first | rfl | (simp [World.drewN_drewN]; done))⟩, by simp [intOf]; omega⟩
     ·rw [hB] at HF; have hZ := HZ.out
      go_wp2_with fail
      go_quiet (first | (go_at_call_of 126 (Value.int .i64 x); (first | exact qDM (rfl) (qBl x M _ Oo Oo Oo Oo) | exact qDJ (rfl) (qBl x M _ Oo Oo Oo Oo) | exact qDN (rfl) (qBl x M _ Oo Oo Oo Oo) | exact qDL (rfl) (qBl x M _ Oo Oo Oo Oo))) | (go_at_call_of 126 (Value.int .i64 Z); (first | exact qDM (rfl) (qBl Z M _ Oo Oo Oo Oo) | exact qDJ (rfl) (qBl Z M _ Oo Oo Oo Oo) | exact qDN (rfl) (qBl Z M _ Oo Oo Oo Oo) | exact qDL (rfl) (qBl Z M _ Oo Oo Oo Oo))))
      go_wp2; exact ⟨⟨q + 1, _, Oo, by go_num, by rw [HF.out]; rfl, (by first | rfl | (simp [World.drewN_drewN]; done))⟩, by simp [intOf]; omega⟩
    ·obtain rfl : q = n + 1 := Oo; have i1 : ¬ ((n + 1 : Nat) : Int) < (n : Int) + 1 := Oo; cases hB : qAl M (laz n) (at0 ds) k (n + 1)
     ·have HB := dd (qGg HK.out hB); go_wp2; exact ⟨⟨k + 1, _, Oo, by go_num, rfl, HB⟩, by simp [intOf]; omega⟩
     ·have HB := dd (facP_t HK.out hB (by simp; omega)); go_wp2; go_ret; exact ⟨by rw [HB.out]; rfl, (bY1 hb1)⟩
  ·obtain rfl : k = M := Oo; have HB := dd (facP_f (m := (k : Int)) (c := laz n) (d := at0 ds) (n := n + 1) (by simpa using HK.out)); have i1 : ¬ (k : Int) < (k : Int) := Oo; go_wp2; go_ret; exact ⟨by rw [HB.out]; rfl, (bY1 hb1)⟩
end
section

theorem qLG {m : Int} {c d : Nat → Int} {x : Int} : ∀ {k : Nat}, (∀ i, i < k → d i % m = x * (c i % m) % m) → qAl m c d x k = true
 | 0, _ => rfl
 | k + 1, h => by
   show (qAl m c d x k && (d k % m == x * (c k % m) % m)) = true
   rw [qLG fun i hi => h i Oo, h k Oo]; simp
theorem qHH {m : Int} {c d : Nat → Int} {x : Int} : ∀ {k : Nat}, qAl m c d x k = true → ∀ i, i < k → d i % m = x * (c i % m) % m
 | 0, _, i, hi => Oo
 | k + 1, h, i, hi => by
   have h' : (qAl m c d x k && (d k % m == x * (c k % m) % m)) = true := h; rw [Bool.and_eq_true, beq_iff_eq] at h'
   by_cases e : i = k
   ·subst e; exact h'.2
   ·exact qHH h'.1 i Oo
theorem qK0 {m : Int} {c d d' : Nat → Int} {x : Int} : ∀ {k : Nat}, (∀ i, i < k → d i = d' i) → qAl m c d x k = qAl m c d' x k
 | 0, _ => rfl
 | k + 1, h => by
   show (qAl m c d x k && (d k % m == _)) = (qAl m c d' x k && (d' k % m == _))
   rw [qK0 fun i hi => h i Oo, h k Oo]
theorem qG_ {m : Int} {c d d' : Nat → Int} {n : Nat} (h : ∀ i, i < n → d i = d' i) : ∀ K, qAR m c d n K = qAR m c d' n K
 | 0 => rfl
 | K + 1 => by
   show (if 0 ≤ qAR m c d n K then qAR m c d n K else if qAl m c d K n = true then (K : Int) else -1) = (if 0 ≤ qAR m c d' n K then qAR m c d' n K else if qAl m c d' K n = true then (K : Int) else -1)
   rw [qG_ h K, qK0 h]
theorem qJy {m : Int} {c d d' : Nat → Int} {n : Nat} (h : ∀ i, i < n → d i = d' i) : qBZ m c d n = qBZ m c d' n := by
 unfold qBZ; rw [qG_ h]
theorem qQ0 {m : Int} {c d : Nat → Int} {n k K : Nat} (hk : k < K) (hf : qAl m c d k n = true) : 0 ≤ qAR m c d n K := by
 by_cases h : 0 ≤ qAR m c d n k
 ·have := qGW h (K - k); rw [show k + (K - k) = K by omega] at this; omega
 ·have h1 : qAR m c d n k = -1 := by
   rcases qEL m c d n k with e | ⟨j, _, e, _⟩
   ·exact e
   ·omega
  have := qHg h1 hf hk; omega
theorem qJh {m : Int} {c d : Nat → Int} {n : Nat} (h : 0 ≤ qAR m c d n m.toNat) : qBZ m c d n = qAR m c d n m.toNat := by
 unfold qBZ; rw [if_pos h]
theorem fac_ex {m : Int} (hm : 2 ≤ m) {c d : Nat → Int} {n : Nat} {x : Int} (h : ∀ i, i < n → d i % m = x * c i % m) : 0 ≤ qAR m c d n m.toNat := by
 have hx := qA6 (a := x) (show 0 < m by omega)
 obtain ⟨X, hX⟩ : ∃ X : Nat, x % m = X := ⟨(x % m).toNat, Oo⟩
 refine qQ0 (k := X) Oo (qLG fun i hi => ?_)
 rw [h i hi, ← hX]
 exact qAd (qAW _ _).symm (qAW _ _).symm
theorem qNj {t s : Tb} {d : Nat} (h : qB8 t s d = true) {i : Nat} (hi : i ≤ d) : atT t i (d - i) = atT s i (d - i) := by
 unfold qB8 at h
 have := List.all_eq_true.1 h i (List.mem_range.2 Oo)
 simpa using this
theorem qPZ {t s : Tb} {n d : Nat} (h : d < agrK t s n) : qB8 t s d = true := by
 have hn := qJe t s n
 have key : ∀ e, e ≤ d → qB8 t s e = true := by
  intro e
  induction e using Nat.strongRecOn with
  | _ e ih =>
    intro he; cases hx : qB8 t s e
    ·have := qHK (show e < n by omega) (fun d' hd => ih d' hd Oo) hx; omega
    ·rfl
 exact key d (nl _)
theorem qJC {m : Int} (hm : 2 ≤ m) {t s : Tb} {n : Nat} (h2 : 2 ≤ n) (hn : n ≤ 10) (LF : Lw m (n + 1) (atT t)) (LG : Lw m (n + 1) (atT s)) (he : ∀ i j, i + j < n → atT t i j % m = atT s i j % m) :
  0 ≤ qAR m (laz n) (fun i => (atT s i (n - i) - atT t i (n - i)) % m) (n + 1) m.toNat := by
 obtain ⟨x, hx⟩ := qN7 h2 hn LF LG he
 exact fac_ex hm (x := x) fun i hi => by
  show (atT s i (n - i) - atT t i (n - i)) % m % m = _
  rw [qAW]; exact hx i Oo
theorem qLF {m : Int} {t s : Tb} {n k : Nat} (h : k ≤ agrK t s n) : ∀ i j, i + j < k → atT t i j % m = atT s i j % m := by
 intro i j hij
 have := qNj (qPZ (n := n) (show i + j < agrK t s n by omega)) (show i ≤ i + j by omega)
 rw [show i + j - i = j by omega] at this
 rw [this]
end
end Go.Proofs.YtfpphfjlpgefaaaGreat
