/- Lemmas. -/
import Derived.Test.YtoednonijmkbjaaGreatLM17
import Derived.Test.YtoednonijmkbjaaGreatLM20
import Derived.Test.YtoednonijmkbjaaGreatLG18
import Derived.Test.YtoednonijmkbjaaGreatLM7
import Derived.Test.YtoednonijmkbjaaGreatLG2
import Derived.Test.YtoednonijmkbjaaGreatLG3
import Derived.Test.YtoednonijmkbjaaGreatLG1
set_option linter.unusedSimpArgs false
set_option linter.unusedVariables false
namespace Go.Proofs.YtoednonijmkbjaaGreat
open Go.RowKit
open Rg

theorem num_congr {p : Nat} {v v' : Nat → Int} : ∀ k, (∀ i, i < k → v i = v' i) → num p v k = num p v' k := by
  intro k
  induction k using Nat.strongRecOn with
  | _ k ih =>
    intro h
    cases k with
    | zero => rfl
    | succ k =>
      rw [num_succ, num_succ]
      refine sumN_congr fun i hi => ?_
      rw [ih i (by omega) (fun j hj => h j (by omega)), h (k - i) (by omega)]
theorem tyl_0 (p M : Nat) (v : Nat → Int) : tyl p M v 0 = (p : Int) ^ M := by
  unfold tyl; rw [num_0, Int.mul_one, Nat.sub_zero]
theorem tyl_ne {p M : Nat} (hp : P4 p) (v : Nat → Int) : tyl p M v 0 ≠ 0 := by
  have := hp.pos
  rw [tyl_0]; exact Int.pow_ne_zero (by omega)
def tyLaw (p n : Nat) (v : Nat → Int) : Nat → Nat → Int := tyF p (mostOf p n) (tyl p (mostOf p n) v) (n - 1)
theorem most_lt {p n : Nat} (hp : P4 p) (hn : n ≤ 10) : n < p ^ (mostOf p n + 1) := by
  have k := (most_key hp hn (Nat.le_refl (mostOf p n))).2.2.1
  exact Nat.lt_of_not_le fun h => Nat.lt_irrefl _ (k.1 h)
theorem tyLaw_log {p n : Nat} (hp : P4 p) (n1 : 1 ≤ n) (hn : n ≤ 10) (v : Nat → Int) :
    eqv 0 (n + 1) (LQ p (tyl p (mostOf p n) v) (mostOf p n + 1) (tyLaw p n v)) (ad (LQ p (tyl p (mostOf p n) v) (mostOf p n + 1) xP) (LQ p (tyl p (mostOf p n) v) (mostOf p n + 1) yP)) := by
  obtain ⟨F, hF, h0, h⟩ := ty_ex (most_ok hp hn) v (n := n + 1) (by omega) (most_lt hp hn)
  rw [show n + 1 - 2 = n - 1 by omega] at hF
  rw [hF] at h
  exact h
theorem tyLaw_0 (p n : Nat) (v : Nat → Int) : tyLaw p n v 0 0 = 0 := tyF_0 _ _ _ _
theorem tyLaw_lw {p n : Nat} (hp : P4 p) (n1 : 1 ≤ n) (hn : n ≤ 10) (v : Nat → Int) (m : Int) : Lw m (n + 1) (tyLaw p n v) := by
  refine Lw.of0 (lw_log (p := p) (M := mostOf p n) hp.pos.1 (tyl_ne hp v) (by omega) (tyLaw_0 p n v) (fun i => ?_) (tyLaw_log hp n1 hn v)) m
  have := tyF_col (p := p) (by have := hp.pos; omega) (mostOf p n) (tyl p (mostOf p n) v) (n - 1) i
  unfold tyLaw
  rw [this, xP_at]
  by_cases h : i = 1
  · rw [if_pos ⟨h, rfl⟩, if_pos h]
  · rw [if_neg (fun e => h e.1), if_neg h]
theorem LQ_3 {p M n : Nat} (hp : P4 p) (hM : M ≤ 3) (hn : n ≤ p ^ (M + 1)) (v : Nat → Int) {X : Nat → Nat → Int} (hX : lo 0 1 X) :
    eqv 0 n (LQ p (tyl p 3 v) (3 + 1) X) (ml (ic ((p : Int) ^ (3 - M))) (LQ p (tyl p M v) (M + 1) X)) := by
  have hp2 := hp.pos
  unfold LQ
  rw [show 3 + 1 = (M + 1) + (3 - M) by omega, sm_split, sm_ml]
  refine eqv_trans (eqv_ad (y' := zz) (sm_eqv (g := fun k => ml (ic ((p : Int) ^ (3 - M))) (ml (ic (tyl p M v k)) (pw X (p ^ k)))) fun k hk => eqv_of ?_) (eqv_lo (sm_lo fun i hi => ?_))) (eqv_of (ad_zz _))
  · rw [← ml_assoc, ← ic_ml]
    congr 2
    unfold tyl
    rw [← Int.mul_assoc, ← Int.pow_add, show 3 - M + (M - k) = 3 - k by omega]
  · refine lo_mul _ (lo_le (pw_lo hX _) (Nat.le_trans hn (Nat.pow_le_pow_right (by omega) (by omega))))
theorem most_3 {p n : Nat} (hp : P4 p) (hn : n ≤ 10) : mostOf p n ≤ 3 := (most_ok hp hn).2.1
theorem tyLaw_log3 {p n : Nat} (hp : P4 p) (n1 : 1 ≤ n) (hn : n ≤ 10) (v : Nat → Int) :
    eqv 0 (n + 1) (LQ p (tyl p 3 v) (3 + 1) (tyLaw p n v)) (ad (LQ p (tyl p 3 v) (3 + 1) xP) (LQ p (tyl p 3 v) (3 + 1) yP)) := by
  have hM := most_3 hp hn
  have hk := most_lt hp hn
  have e1 := LQ_3 hp hM (show n + 1 ≤ _ from hk) v (lo_of0 (tyLaw_0 p n v))
  have e2 := LQ_3 hp hM (show n + 1 ≤ _ from hk) v (lo_xP 0)
  have e3 := LQ_3 hp hM (show n + 1 ≤ _ from hk) v (lo_yP 0)
  refine eqv_trans e1 (eqv_trans (eqv_mll _ (tyLaw_log hp n1 hn v)) ?_)
  rw [ml_ad]
  exact eqv_symm (eqv_ad e2 e3)
theorem LQ_par {p r n : Nat} (hp : P4 p) {v v' : Nat → Int} (hv : ∀ i, i < r → v i = v' i) (hn : n ≤ p ^ (r + 1)) {X : Nat → Nat → Int} (hX : lo 0 1 X) :
    eqv 0 n (LQ p (tyl p 3 v) (3 + 1) X) (LQ p (tyl p 3 v') (3 + 1) X) := by
  have hp2 := hp.pos
  refine sm_eqv fun k hk => ?_
  by_cases h : k ≤ r
  · refine eqv_of ?_
    unfold tyl
    rw [num_congr k (fun i hi => hv i (by omega))]
  · have hl : lo 0 n (pw X (p ^ k)) := lo_le (pw_lo hX _) (Nat.le_trans hn (Nat.pow_le_pow_right (by omega) (by omega)))
    exact eqv_trans (eqv_lo (lo_mul _ hl)) (eqv_symm (eqv_lo (lo_mul _ hl)))
theorem tyLaw_agree {p n n' r k : Nat} (hp : P4 p) (n1 : 1 ≤ n) (hn : n ≤ 10) (n1' : 1 ≤ n') (hn' : n' ≤ 10) {v v' : Nat → Int} (hv : ∀ i, i < r → v i = v' i) (h1 : k ≤ n + 1) (h2 : k ≤ n' + 1) (h3 : k ≤ p ^ (r + 1)) :
    ∀ i j, i + j < k → tyLaw p n v i j = tyLaw p n' v' i j := by
  have a := eqv_le (tyLaw_log3 hp n1 hn v) h1
  have b := eqv_le (tyLaw_log3 hp n1' hn' v') h2
  have l1 := lo_of0 (m := 0) (tyLaw_0 p n v)
  have l2 := lo_of0 (m := 0) (tyLaw_0 p n' v')
  have c := eqv_trans (LQ_par hp hv h3 l2) (eqv_trans b (eqv_symm (eqv_ad (LQ_par hp hv h3 (lo_xP 0)) (LQ_par hp hv h3 (lo_yP 0)))))
  have d := LQ_inj (tf_ser (tf_ser tf_int)) hp.pos.1 (tyl_ne hp v) l1 l2 (eqv_trans a (eqv_symm c)) k (Nat.le_refl _)
  intro i j hij
  have := eqv2.1 d i j hij
  rwa [Int.emod_zero, Int.emod_zero] at this

end Go.Proofs.YtoednonijmkbjaaGreat
/- Binomial numbers and their divisors: both sides. -/
set_option linter.unusedSimpArgs false
set_option linter.unusedVariables false
namespace Go.Proofs.YtoednonijmkbjaaGreat
open Go.RowKit

theorem bin_range : ∀ n k, 0 ≤ bin n k ∧ bin n k ≤ 2 ^ n
  | 0, 0 => ⟨by decide, by decide⟩
  | 0, k + 1 => ⟨by show (0 : Int) ≤ 0; omega, by show (0 : Int) ≤ 1; omega⟩
  | n + 1, 0 => ⟨by show (0 : Int) ≤ 1; omega, by
    have h := (bin_range n 0)
    show (1 : Int) ≤ _
    rw [Int.pow_succ]
    rw [bin_0] at h
    omega⟩
  | n + 1, k + 1 => by
    have h := bin_range n k
    have h' := bin_range n (k + 1)
    show 0 ≤ bin n k + bin n (k + 1) ∧ bin n k + bin n (k + 1) ≤ _
    rw [Int.pow_succ]
    omega
theorem bin_r10 {n : Nat} (hn : n ≤ 10) (k : Nat) : 0 ≤ bin n k ∧ bin n k ≤ 1024 := by
  have h := bin_range n k
  have : (2 : Int) ^ n ≤ 2 ^ 10 := by
    have := Nat.pow_le_pow_right (n := 2) (by omega) hn
    exact_mod_cast this
  exact ⟨h.1, Int.le_trans h.2 this⟩

set_option maxHeartbeats 1000000 in
set_option maxRecDepth 100000 in
theorem binomial_c (n k : Nat) (w : World) (hk : k ≤ n) (hn : n ≤ 10) :
    Calls Tryz.prog 104 #[.int .i64 n, .int .i64 k] w fun e w' => e = .returned (.int .i64 (bin n k)) ∧ Below w.heap.size w w' := by
  have g0 : ¬ (n : Int) < (k : Int) := by omega
  have g1 : ¬ (k : Int) < 0 := by omega
  go_enter Tryz.func104, Tryz.ntmps104
  go_wp2_with fail
  have O1 := OwI.lit w [1] (by decide)
  have B1 : Below w.heap.size w (w.alloc (.cells #[.int .i64 1] 2)) := (by (repeat (first | exact bR _ _ | (refine bS ?_ _) | (refine bA ?_ _) | (refine bN ?_ _) | (refine bD ?_))))
  simp at O1
  generalize w.alloc (.cells #[.int .i64 1] 2) = w1 at O1 B1 ⊢
  go_loopw [5, 13] (fun row i wr => ∃ q : Nat, q ≤ n ∧ i = .int .i64 q ∧ RdI wr row (mk (q + 1) (bin q)) ∧ Below w.heap.size w wr) (fun _ i _ => n - (intOf i).toNat)
  case atStart => exact ⟨0, Nat.zero_le _, rfl, O1.rd, B1⟩
  case round =>
    clear O1 B1
    obtain ⟨q, hq, rfl, hR, hB⟩ := hrel
    obtain ⟨wo, rfl⟩ : ∃ wo : World, wo = wr := ⟨_, rfl⟩
    have hl : (mk (q + 1) (bin q)).length = q + 1 := mk_len _ _
    obtain ⟨o, c, rfl, hmx, -⟩ := id hR
    unfold maxLen at hmx
    rw [hl] at hR hmx ⊢
    obtain ⟨bx, fx, rfl, -⟩ := hR.cells (by rw [hl]; omega)
    have hBs := hB.size
    by_cases hlt : q < n
    · have i0 : (q : Int) < (n : Int) := by omega
      have O2 := OwI.lit wo [1] (by decide)
      have B2 : Below wo.heap.size wo (wo.alloc (.cells #[.int .i64 1] 2)) := (by (repeat (first | exact bR _ _ | (refine bS ?_ _) | (refine bA ?_ _) | (refine bN ?_ _) | (refine bD ?_))))
      simp at O2
      rw [show [(1 : Int)] = mk 1 (bin (q + 1)) from rfl] at O2
      go_wp2_with fail
      generalize wo.alloc (.cells #[.int .i64 1] 2) = w2 at O2 B2 ⊢
      go_loopw [6, 7] (fun s i wi => ∃ j : Nat, j ≤ q ∧ i = .int .i64 ((j : Int) + 1) ∧ OwI wi wo.heap.size s (mk (j + 1) (bin (q + 1))) ∧ Below wo.heap.size wo wi) (fun _ i _ => q + 1 - (intOf i).toNat)
      case atStart => exact ⟨0, Nat.zero_le _, rfl, O2, B2⟩
      case round =>
        clear O2 B2
        obtain ⟨j, hj, rfl, hO, hBi⟩ := hrel
        obtain ⟨ov, cv, rfl⟩ := hO.shapeN (n := j + 1) (mk_len _ _)
        by_cases hjl : j < q
        · have cx := (hR.below hBi (Nat.le_refl _)).cell0 (mk_get (f := bin q) (show j < q + 1 by omega))
          have cy := (hR.below hBi (Nat.le_refl _)).cell0 (mk_get (f := bin q) (show j + 1 < q + 1 by omega))
          have r1 := bin_r10 (show q ≤ 10 by omega) j
          have r2 := bin_r10 (show q ≤ 10 by omega) (j + 1)
          have i1 : (0 : Int) ≤ (j : Int) + 1 := by omega
          have i2 : (j : Int) + 1 < (q : Int) + 1 := by omega
          have i2' : (j : Int) < (q : Int) := by omega
          have i3 : (0 : Int) ≤ (j : Int) := by omega
          have i4 : (j : Int) < (q : Int) + 1 := by omega
          have i7 : ((j : Int) + 1).toNat = j + 1 := by omega
          have e0 : IntKind.i64.wrap ((j : Int) + 1 - 1) = (j : Int) := by rw [IntWalk.i64_in _ (by omega)]; omega
          have e0' : IntKind.i64.wrap (j : Int) = (j : Int) := IntWalk.i64_in _ (by omega)
          have e1 : IntKind.i64.wrap (bin q j + bin q (j + 1)) = bin q j + bin q (j + 1) := IntWalk.i64_in _ (by omega)
          have HS := Lib.hid (show mk (j + 1 + 1) (bin (q + 1)) = mk (j + 1) (bin (q + 1)) ++ [bin q j + bin q (j + 1)] by rw [mk_snoc]; rfl)
          have hBis := hBi.size
          go_wp2_with fail
          go_region_held3 (fun w' => w'.cell? ⟨bx, fx + j, none⟩ = some (.int .i64 (bin q j)) ∧ w'.cell? ⟨bx, fx + (j + 1), none⟩ = some (.int .i64 (bin q (j + 1)))) (go_keep)
            ((refine stI wr rfl _ _ rfl wo.heap.size (.slice ov (j + 1) cv) _ rfl hO _ rfl (by rw [mk_len]; omega) (by omega) ?_; intro v' w4 hO3 hb3; have cx2 := (hR.below (hBi.trans hb3) (Nat.le_refl _)).cell0 (mk_get (f := bin q) (show j < q + 1 by omega)); have cy2 := (hR.below (hBi.trans hb3) (Nat.le_refl _)).cell0 (mk_get (f := bin q) (show j + 1 < q + 1 by omega))))
          rw [← HS.out] at hO3
          go_wp2
          exact ⟨⟨j + 1, by omega, by go_num, hO3, hBi.trans hb3⟩, by simp [intOf]; omega⟩
        · obtain rfl : j = q := by omega
          have i3 : ¬ ((j : Int) + 1 < (j : Int) + 1) := by omega
          have HS := Lib.hid (show mk (j + 1 + 1) (bin (j + 1)) = mk (j + 1) (bin (j + 1)) ++ [1] by rw [mk_snoc, bin_self])
          have hBis := hBi.size
          go_wp2_with (at_builtin; refine apI wr rfl _ _ rfl wo.heap.size (.slice ov (j + 1) cv) _ rfl hO _ rfl (by rw [mk_len]; omega) (by omega) ?_; intro v' w4 hO3 hgr hb3 hlt3; clear hgr)
          rw [← HS.out] at hO3
          exact ⟨⟨j + 1, by omega, by go_num, hO3.rd, hB.trans ((hBi.trans hb3).mono hBs)⟩, by simp [intOf]; omega⟩
    · obtain rfl : q = n := by omega
      have cx := hR.cell0 (mk_get (f := bin q) (show k < q + 1 by omega))
      have i1 : (k : Int) < (q : Int) + 1 := by omega
      go_wp2
      go_ret
      exact ⟨rfl, hB⟩
set_option maxHeartbeats 1000000 in
set_option maxRecDepth 100000 in
theorem l01Binomial_c (n k : Nat) (w : World) (hk : k ≤ n) (hn : n ≤ 10) :
    Calls Tryz.prog 87 #[.int .i64 n, .int .i64 k] w fun e w' => e = .returned (.int .i64 (bin n k)) ∧ Below w.heap.size w w' := by
  have g0 : ¬ (n : Int) < (k : Int) := by omega
  have g1 : ¬ (k : Int) < 0 := by omega
  go_enter Tryz.func87, Tryz.ntmps87
  go_wp2_with fail
  have O1 := OwI.lit w [1] (by decide)
  have B1 : Below w.heap.size w (w.alloc (.cells #[.int .i64 1] 2)) := (by (repeat (first | exact bR _ _ | (refine bS ?_ _) | (refine bA ?_ _) | (refine bN ?_ _) | (refine bD ?_))))
  simp at O1
  generalize w.alloc (.cells #[.int .i64 1] 2) = w1 at O1 B1 ⊢
  go_loopw [5, 6] (fun row i wr => ∃ q : Nat, q ≤ n ∧ i = .int .i64 q ∧ RdI wr row (mk (q + 1) (bin q)) ∧ Below w.heap.size w wr) (fun _ i _ => n - (intOf i).toNat)
  case atStart => exact ⟨0, Nat.zero_le _, rfl, O1.rd, B1⟩
  case round =>
    clear O1 B1
    obtain ⟨q, hq, rfl, hR, hB⟩ := hrel
    obtain ⟨wo, rfl⟩ : ∃ wo : World, wo = wr := ⟨_, rfl⟩
    have hl : (mk (q + 1) (bin q)).length = q + 1 := mk_len _ _
    obtain ⟨o, c, rfl, hmx, -⟩ := id hR
    unfold maxLen at hmx
    rw [hl] at hR hmx ⊢
    obtain ⟨bx, fx, rfl, -⟩ := hR.cells (by rw [hl]; omega)
    have hBs := hB.size
    by_cases hlt : q < n
    · have i0 : (q : Int) < (n : Int) := by omega
      have O2 := OwI.lit wo [1] (by decide)
      have B2 : Below wo.heap.size wo (wo.alloc (.cells #[.int .i64 1] 2)) := (by (repeat (first | exact bR _ _ | (refine bS ?_ _) | (refine bA ?_ _) | (refine bN ?_ _) | (refine bD ?_))))
      simp at O2
      rw [show [(1 : Int)] = mk 1 (bin (q + 1)) from rfl] at O2
      go_wp2_with fail
      generalize wo.alloc (.cells #[.int .i64 1] 2) = w2 at O2 B2 ⊢
      go_loopw [7, 8] (fun s i wi => ∃ j : Nat, j ≤ q ∧ i = .int .i64 ((j : Int) + 1) ∧ OwI wi wo.heap.size s (mk (j + 1) (bin (q + 1))) ∧ Below wo.heap.size wo wi) (fun _ i _ => q + 1 - (intOf i).toNat)
      case atStart => exact ⟨0, Nat.zero_le _, rfl, O2, B2⟩
      case round =>
        clear O2 B2
        obtain ⟨j, hj, rfl, hO, hBi⟩ := hrel
        obtain ⟨ov, cv, rfl⟩ := hO.shapeN (n := j + 1) (mk_len _ _)
        by_cases hjl : j < q
        · have cx := (hR.below hBi (Nat.le_refl _)).cell0 (mk_get (f := bin q) (show j < q + 1 by omega))
          have cy := (hR.below hBi (Nat.le_refl _)).cell0 (mk_get (f := bin q) (show j + 1 < q + 1 by omega))
          have r1 := bin_r10 (show q ≤ 10 by omega) j
          have r2 := bin_r10 (show q ≤ 10 by omega) (j + 1)
          have i1 : (0 : Int) ≤ (j : Int) + 1 := by omega
          have i2 : (j : Int) + 1 < (q : Int) + 1 := by omega
          have i2' : (j : Int) < (q : Int) := by omega
          have i3 : (0 : Int) ≤ (j : Int) := by omega
          have i4 : (j : Int) < (q : Int) + 1 := by omega
          have i7 : ((j : Int) + 1).toNat = j + 1 := by omega
          have e0 : IntKind.i64.wrap ((j : Int) + 1 - 1) = (j : Int) := by rw [IntWalk.i64_in _ (by omega)]; omega
          have e0' : IntKind.i64.wrap (j : Int) = (j : Int) := IntWalk.i64_in _ (by omega)
          have e1 : IntKind.i64.wrap (bin q j + bin q (j + 1)) = bin q j + bin q (j + 1) := IntWalk.i64_in _ (by omega)
          have HS := Lib.hid (show mk (j + 1 + 1) (bin (q + 1)) = mk (j + 1) (bin (q + 1)) ++ [bin q j + bin q (j + 1)] by rw [mk_snoc]; rfl)
          have hBis := hBi.size
          go_wp2_with fail
          go_region_held3 (fun w' => w'.cell? ⟨bx, fx + j, none⟩ = some (.int .i64 (bin q j)) ∧ w'.cell? ⟨bx, fx + (j + 1), none⟩ = some (.int .i64 (bin q (j + 1)))) (go_keep)
            ((refine stI wr rfl _ _ rfl wo.heap.size (.slice ov (j + 1) cv) _ rfl hO _ rfl (by rw [mk_len]; omega) (by omega) ?_; intro v' w4 hO3 hb3; have cx2 := (hR.below (hBi.trans hb3) (Nat.le_refl _)).cell0 (mk_get (f := bin q) (show j < q + 1 by omega)); have cy2 := (hR.below (hBi.trans hb3) (Nat.le_refl _)).cell0 (mk_get (f := bin q) (show j + 1 < q + 1 by omega))))
          rw [← HS.out] at hO3
          go_wp2
          exact ⟨⟨j + 1, by omega, by go_num, hO3, hBi.trans hb3⟩, by simp [intOf]; omega⟩
        · obtain rfl : j = q := by omega
          have i3 : ¬ ((j : Int) + 1 < (j : Int) + 1) := by omega
          have HS := Lib.hid (show mk (j + 1 + 1) (bin (j + 1)) = mk (j + 1) (bin (j + 1)) ++ [1] by rw [mk_snoc, bin_self])
          have hBis := hBi.size
          go_wp2_with (at_builtin; refine apI wr rfl _ _ rfl wo.heap.size (.slice ov (j + 1) cv) _ rfl hO _ rfl (by rw [mk_len]; omega) (by omega) ?_; intro v' w4 hO3 hgr hb3 hlt3; clear hgr)
          rw [← HS.out] at hO3
          exact ⟨⟨j + 1, by omega, by go_num, hO3.rd, hB.trans ((hBi.trans hb3).mono hBs)⟩, by simp [intOf]; omega⟩
    · obtain rfl : q = n := by omega
      have cx := hR.cell0 (mk_get (f := bin q) (show k < q + 1 by omega))
      have i1 : (k : Int) < (q : Int) + 1 := by omega
      go_wp2
      go_ret
      exact ⟨rfl, hB⟩
end Go.Proofs.YtoednonijmkbjaaGreat

/- The divisor of the inner binomial numbers, and Lazard's cocycle as a list. -/
set_option linter.unusedSimpArgs false
set_option linter.unusedVariables false
namespace Go.Proofs.YtoednonijmkbjaaGreat
open Go.RowKit

def lamTo (n : Nat) : Nat → Int
  | 0 => 0
  | k + 1 => ((Nat.gcd (lamTo n k).toNat (bin n (k + 1)).toNat : Nat) : Int)
theorem lamTo_range : ∀ n, n ≤ 10 → ∀ k, k ≤ 10 → 0 ≤ lamTo n k ∧ lamTo n k ≤ 1024 := by
  intro n hn k hk
  have h : ∀ n : Fin 11, ∀ k : Fin 11, 0 ≤ lamTo n.1 k.1 ∧ lamTo n.1 k.1 ≤ 1024 := by decide
  exact h ⟨n, by omega⟩ ⟨k, by omega⟩
theorem lamTo_lam : ∀ n, n ≤ 10 → lamTo n (n - 1) = lam n := by
  intro n hn
  have h : ∀ n : Fin 11, lamTo n.1 (n.1 - 1) = lam n.1 := by decide
  exact h ⟨n, by omega⟩
theorem lam_range : ∀ n, 2 ≤ n → n ≤ 10 → 1 ≤ lam n ∧ lam n ≤ 7 := by
  intro n h2 hn
  have h : ∀ n : Fin 11, 2 ≤ n.1 → 1 ≤ lam n.1 ∧ lam n.1 ≤ 7 := by decide
  exact h ⟨n, by omega⟩ h2

theorem binomial_i (a b : Int) (n k : Nat) (w : World) (ha : a = n) (hb : b = k) (hk : k ≤ n) (hn : n ≤ 10) :
    Calls Tryz.prog 104 #[.int .i64 a, .int .i64 b] w fun e w' => e = .returned (.int .i64 (bin n k)) ∧ Below w.heap.size w w' := by
  subst ha hb
  exact binomial_c n k w hk hn
theorem l01Binomial_i (a b : Int) (n k : Nat) (w : World) (ha : a = n) (hb : b = k) (hk : k ≤ n) (hn : n ≤ 10) :
    Calls Tryz.prog 87 #[.int .i64 a, .int .i64 b] w fun e w' => e = .returned (.int .i64 (bin n k)) ∧ Below w.heap.size w w' := by
  subst ha hb
  exact l01Binomial_c n k w hk hn

set_option maxHeartbeats 1000000 in
set_option maxRecDepth 100000 in
theorem binomialDivisor_c (n : Nat) (w : World) (h2 : 2 ≤ n) (hn : n ≤ 10) :
    Calls Tryz.prog 62 #[.int .i64 n] w fun e w' => e = .returned (.int .i64 (lam n)) ∧ Below w.heap.size w w' := by
  go_enter Tryz.func62, Tryz.ntmps62
  go_wp2_with fail
  go_loopw [3, 4] (fun d i wr => ∃ q : Nat, q ≤ n - 1 ∧ i = .int .i64 ((q : Int) + 1) ∧ d = .int .i64 (lamTo n q) ∧ Below w.heap.size w wr) (fun _ i _ => n - (intOf i).toNat)
  case atStart => exact ⟨0, Nat.zero_le _, rfl, rfl, Below.refl _ _⟩
  case round =>
    obtain ⟨q, hq, rfl, rfl, hB⟩ := hrel
    have hBs := hB.size
    by_cases hlt : q < n - 1
    · have i1 : (q : Int) + 1 < (n : Int) := by omega
      have r1 := lamTo_range n hn q (by omega)
      have r2 := bin_r10 hn (q + 1)
      have HL := Lib.hid (show ((Nat.gcd (lamTo n q).toNat (bin n (q + 1)).toNat : Nat) : Int) = lamTo n (q + 1) from rfl)
      go_wp2_with fail
      refine (binomial_i (n : Int) ((q : Int) + 1) n (q + 1) _ rfl (by omega) (by omega) hn).mono ?_
      rintro e w2 ⟨rfl, hb2⟩
      go_wp2_with fail
      refine (gcd_c (lamTo n q) (bin n (q + 1)) _ (by omega) (by omega) (by omega) (by omega)).mono ?_
      rintro e w3 ⟨rfl, dg, rfl⟩
      rw [HL.out]
      go_wp2
      exact ⟨⟨q + 1, by omega, by go_num, rfl, (by (repeat (first | exact bR _ _ | (refine bS ?_ _) | (refine bA ?_ _) | (refine bN ?_ _) | (refine bD ?_) | (refine bT ?_ hb2) | (refine bT ?_ hB))))⟩, by simp [intOf]; omega⟩
    · obtain rfl : q = n - 1 := by omega
      have i1 : ¬ ((n - 1 : Nat) : Int) + 1 < (n : Int) := by omega
      rw [lamTo_lam n hn]
      go_wp2
      go_ret
      exact ⟨rfl, hB⟩
set_option maxHeartbeats 1000000 in
set_option maxRecDepth 100000 in
theorem l01Lazard_c (n : Nat) (w : World) (h2 : 2 ≤ n) (hn : n ≤ 10) :
    Calls Tryz.prog 49 #[.int .i64 n] w fun e w' => e = .returned (.int .i64 (lam n)) ∧ Below w.heap.size w w' := by
  go_enter Tryz.func49, Tryz.ntmps49
  go_wp2_with fail
  go_loopw [3, 4] (fun d i wr => ∃ q : Nat, q ≤ n - 1 ∧ i = .int .i64 ((q : Int) + 1) ∧ d = .int .i64 (lamTo n q) ∧ Below w.heap.size w wr) (fun _ i _ => n - (intOf i).toNat)
  case atStart => exact ⟨0, Nat.zero_le _, rfl, rfl, Below.refl _ _⟩
  case round =>
    obtain ⟨q, hq, rfl, rfl, hB⟩ := hrel
    have hBs := hB.size
    by_cases hlt : q < n - 1
    · have i1 : (q : Int) + 1 < (n : Int) := by omega
      have r1 := lamTo_range n hn q (by omega)
      have r2 := bin_r10 hn (q + 1)
      have HL := Lib.hid (show ((Nat.gcd (lamTo n q).toNat (bin n (q + 1)).toNat : Nat) : Int) = lamTo n (q + 1) from rfl)
      go_wp2_with fail
      refine (l01Binomial_i (n : Int) ((q : Int) + 1) n (q + 1) _ rfl (by omega) (by omega) hn).mono ?_
      rintro e w2 ⟨rfl, hb2⟩
      go_wp2_with fail
      refine (l01Gcd_c (lamTo n q) (bin n (q + 1)) _ (by omega) (by omega) (by omega) (by omega)).mono ?_
      rintro e w3 ⟨rfl, rfl⟩
      rw [HL.out]
      go_wp2
      exact ⟨⟨q + 1, by omega, by go_num, rfl, (by (repeat (first | exact bR _ _ | (refine bS ?_ _) | (refine bA ?_ _) | (refine bN ?_ _) | (refine bD ?_) | (refine bT ?_ hb2) | (refine bT ?_ hB))))⟩, by simp [intOf]; omega⟩
    · obtain rfl : q = n - 1 := by omega
      have i1 : ¬ ((n - 1 : Nat) : Int) + 1 < (n : Int) := by omega
      rw [lamTo_lam n hn]
      go_wp2
      go_ret
      exact ⟨rfl, hB⟩
theorem laz_quo {n i : Nat} (h2 : 2 ≤ n) (hn : n ≤ 10) (h1 : 1 ≤ i) (hi : i < n) : (bin n i).tdiv (lam n) = laz n i := by
  unfold laz
  rw [if_pos ⟨h1, hi⟩, Int.tdiv_eq_ediv_of_nonneg (bin_r10 hn i).1]
def lazL (n k : Nat) : List Int := mk (n + 1) (fun i => if i < k then laz n i else 0)
theorem lazL_1 (n : Nat) : lazL n 1 = List.replicate (n + 1) 0 := by
  rw [mk_zero]
  refine mk_ext fun i _ => ?_
  by_cases h : i < 1
  · rw [if_pos h, show i = 0 by omega]; rfl
  · rw [if_neg h]
theorem lazL_set {n k : Nat} (hk : k < n) : (lazL n k).set k (laz n k) = lazL n (k + 1) := by
  unfold lazL
  rw [mk_set]
  refine mk_ext fun i _ => ?_
  by_cases h : i = k
  · subst h; rw [if_pos rfl, if_pos (by omega)]
  · rw [if_neg h]
    by_cases h' : i < k
    · rw [if_pos h', if_pos (by omega)]
    · rw [if_neg h', if_neg (by omega)]
theorem laz_out {n i : Nat} (h : n ≤ i) : laz n i = 0 := by unfold laz; rw [if_neg (by omega)]
theorem lazL_n (n : Nat) : lazL n n = mk (n + 1) (laz n) := mk_ext fun i hi => by
  by_cases h : i < n
  · rw [if_pos h]
  · rw [if_neg h, laz_out (by omega)]

set_option maxHeartbeats 1000000 in
set_option maxRecDepth 100000 in
theorem lazard_c (n : Nat) (w : World) (h2 : 2 ≤ n) (hn : n ≤ 10) :
    Calls Tryz.prog 101 #[.int .i64 n] w fun e w' => ∃ v', e = .returned v' ∧ OwI w' w.heap.size v' (mk (n + 1) (laz n)) ∧ Below w.heap.size w w' := by
  go_enter Tryz.func101, Tryz.ntmps101
  go_wp2_with fail
  refine (binomialDivisor_c n w h2 hn).mono ?_
  rintro e w1 ⟨rfl, hb1⟩
  have e0 : IntKind.i64.wrap ((n : Int) + 1) = ((n + 1 : Nat) : Int) := by rw [IntWalk.i64_in _ (by omega)]; omega
  have hb1s := hb1.size
  go_wp2_with (at_make; go_loud (refine mkI _ rfl _ _ rfl _ _ _ (n + 1) rfl rfl rfl (by omega) ?_; intro w2 hown hb hs1))
  rw [← lazL_1] at hown
  obtain ⟨g, hg⟩ : ∃ g, g = w1.heap.size := ⟨_, rfl⟩
  rw [← hg] at hown hb hs1 hb1s ⊢
  have HG := Lib.hid hg
  have hcm : n + 1 ≤ maxLen := by unfold maxLen; omega
  obtain ⟨la1, la2⟩ := lam_range n h2 hn
  obtain ⟨L, hL⟩ : ∃ L, L = lam n := ⟨_, rfl⟩
  rw [← hL] at la1 la2 ⊢
  have HL := Lib.hid hL
  clear hL hg
  have l1 : ¬ L = 0 := by omega
  have l2 : (L == 0) = false := by simp; omega
  have B2 : Below w.heap.size w w2 := hb1.trans (hb.mono hb1s)
  clear hb1 hb
  go_loopw [5] (fun i wr => ∃ k : Nat, 1 ≤ k ∧ k ≤ n ∧ i = .int .i64 k ∧ OwI wr g (.slice (some ⟨g, 0, none⟩) (n + 1) (n + 1)) (lazL n k) ∧ Below w.heap.size w wr) (fun i _ => n - (intOf i).toNat)
  case atStart => exact ⟨1, Nat.le_refl _, by omega, rfl, hown, B2⟩
  case round =>
    obtain ⟨k, hk1, hk, rfl, hO, hB⟩ := hrel
    have hBs := hB.size
    by_cases hlt : k < n
    · have i1 : (k : Int) < (n : Int) := by omega
      have i2 : (0 : Int) ≤ (k : Int) := by omega
      have i3 : (k : Int) < (n : Int) + 1 := by omega
      have i4 : (k : Int) < ((n + 1 : Nat) : Int) := by omega
      have r2 := bin_r10 hn k
      have hq := laz_quo h2 hn hk1 hlt
      rw [← HL.out] at hq
      have HQ := Lib.hid hq
      clear hq
      have hc0 := hO.cell (k := k) (mk_get (f := fun i => if i < k then laz n i else 0) (show k < n + 1 by omega))
      have hf0 := hO.fz k
      have q1 : (bin n k).tdiv L = laz n k := HQ.out
      have q2 := laz_quo h2 hn hk1 hlt
      have q0 : 0 ≤ (bin n k).tdiv L ∧ (bin n k).tdiv L ≤ 1024 := by
        rw [Int.tdiv_eq_ediv_of_nonneg r2.1]
        exact ⟨Int.ediv_nonneg r2.1 (by omega), Int.le_trans (Int.ediv_le_self _ r2.1) r2.2⟩
      have e3 : IntKind.i64.wrap ((bin n k).tdiv L) = (bin n k).tdiv L := IntWalk.i64_in _ (by omega)
      go_wp2_with fail
      refine (binomial_c n k _ (by omega) hn).mono ?_
      rintro e w4 ⟨rfl, hb4⟩
      have hO4 := hO.below hb4
      have hc1 := hO4.cell (k := k) (mk_get (f := fun i => if i < k then laz n i else 0) (show k < n + 1 by omega))
      have hf1 := hO4.fz k
      clear hc0 hf0
      have hHO := Lib.hid hO4
      clear hO hO4
      go_wp2
      have hO5 := hHO.out.put k (laz n k)
      rw [lazL_set hlt] at hO5
      exact ⟨⟨k + 1, by omega, by omega, by go_num, hO5, below_put (hB.trans (hb4.mono hBs)) (g := g) (k := k) (by omega) (.int .i64 (laz n k))⟩, by simp [intOf]; omega⟩
    · obtain rfl : k = n := by omega
      rw [lazL_n] at hO
      have i1 : ¬ (k : Int) < (k : Int) := by omega
      go_wp2
      go_ret
      exact ⟨_, rfl, hO.mono (by have := HG.out; omega), hB⟩
end Go.Proofs.YtoednonijmkbjaaGreat

/- The factor of a cocycle: the program's search. -/
set_option linter.unusedSimpArgs false
set_option linter.unusedVariables false
namespace Go.Proofs.YtoednonijmkbjaaGreat
open Go.RowKit

def fitTo (m : Int) (c d : Nat → Int) (x : Int) : Nat → Bool
  | 0 => true
  | k + 1 => fitTo m c d x k && (d k % m == x * (c k % m) % m)
def facTo (m : Int) (c d : Nat → Int) (n : Nat) : Nat → Int
  | 0 => -1
  | k + 1 => if 0 ≤ facTo m c d n k then facTo m c d n k else if fitTo m c d k n = true then (k : Int) else -1
theorem facTo_keep {m : Int} {c d : Nat → Int} {n k : Nat} (h : 0 ≤ facTo m c d n k) : ∀ j, facTo m c d n (k + j) = facTo m c d n k
  | 0 => rfl
  | j + 1 => by
    show (if 0 ≤ facTo m c d n (k + j) then facTo m c d n (k + j) else _) = _
    rw [facTo_keep h j, if_pos h]
theorem facTo_t {m : Int} {c d : Nat → Int} {n k : Nat} (h : facTo m c d n k = -1) (hf : fitTo m c d k n = true) : facTo m c d n (k + 1) = k := by
  show (if 0 ≤ facTo m c d n k then _ else if fitTo m c d k n = true then (k : Int) else -1) = k
  rw [h, if_neg (by omega), if_pos hf]
theorem facTo_f {m : Int} {c d : Nat → Int} {n k : Nat} (h : facTo m c d n k = -1) (hf : fitTo m c d k n = false) : facTo m c d n (k + 1) = -1 := by
  show (if 0 ≤ facTo m c d n k then _ else if fitTo m c d k n = true then (k : Int) else -1) = -1
  rw [h, if_neg (by omega), if_neg (by rw [hf]; simp)]
theorem facTo_end {m : Int} {c d : Nat → Int} {n k M : Nat} (h : facTo m c d n k = -1) (hf : fitTo m c d k n = true) (hk : k < M) : facTo m c d n M = k := by
  have h1 := facTo_t h hf
  have h2 := facTo_keep (m := m) (c := c) (d := d) (n := n) (k := k + 1) (by rw [h1]; omega) (M - (k + 1))
  rw [show k + 1 + (M - (k + 1)) = M by omega, h1] at h2
  exact h2
theorem facTo_cases (m : Int) (c d : Nat → Int) (n : Nat) : ∀ K, facTo m c d n K = -1 ∨ (∃ k : Nat, k < K ∧ facTo m c d n K = k ∧ fitTo m c d k n = true)
  | 0 => .inl rfl
  | K + 1 => by
    rcases facTo_cases m c d n K with h | ⟨k, hk, h, hf⟩
    · cases hf : fitTo m c d K n
      · exact .inl (facTo_f h hf)
      · exact .inr ⟨K, by omega, facTo_t h hf, hf⟩
    · exact .inr ⟨k, by omega, by have := facTo_keep (m := m) (c := c) (d := d) (n := n) (k := K) (by rw [h]; omega) 1; rw [this, h], hf⟩
theorem fitTo_f {m : Int} {c d : Nat → Int} {x : Int} {k : Nat} (h : fitTo m c d x k = false) : ∀ j, fitTo m c d x (k + j) = false
  | 0 => h
  | j + 1 => by show (fitTo m c d x (k + j) && _) = false; rw [fitTo_f h j]; rfl
def facP (m : Int) (c d : Nat → Int) (n : Nat) : Int := if 0 ≤ facTo m c d n m.toNat then facTo m c d n m.toNat else 0
theorem facP_t {m : Int} {c d : Nat → Int} {n k : Nat} (h : facTo m c d n k = -1) (hf : fitTo m c d k n = true) (hk : k < m.toNat) : facP m c d n = k := by
  unfold facP; rw [facTo_end h hf hk, if_pos (by omega)]
theorem facP_f {m : Int} {c d : Nat → Int} {n : Nat} (h : facTo m c d n m.toNat = -1) : facP m c d n = 0 := by
  unfold facP; rw [h, if_neg (by omega)]
theorem laz_range {n : Nat} (h2 : 2 ≤ n) (hn : n ≤ 10) (i : Nat) : 0 ≤ laz n i ∧ laz n i ≤ 1024 := by
  unfold laz
  by_cases h : 1 ≤ i ∧ i < n
  · rw [if_pos h]
    have r := bin_r10 hn i
    have l := lam_range n h2 hn
    exact ⟨Int.ediv_nonneg r.1 (by omega), Int.le_trans (Int.ediv_le_self _ r.1) r.2⟩
  · rw [if_neg h]; omega

set_option maxHeartbeats 2000000 in
set_option maxRecDepth 100000 in
theorem factorOf_c (m : Int) (n : Nat) (v : Value) (ds : List Int) (w : World) (hv : RdI w v ds) (hl : ds.length = n + 1) (h2 : 2 ≤ n) (hn : n ≤ 10) (hm : 2 ≤ m) (hm' : m ≤ 10000) (hd : ∀ x ∈ ds, 0 ≤ x ∧ x < m) :
    Calls Tryz.prog 57 #[.int .i64 m, v] w fun e w' => e = .returned (.int .i64 (facP m (laz n) (at0 ds) (n + 1))) ∧ Below w.heap.size w w' := by
  obtain ⟨M, rfl⟩ : ∃ M : Nat, m = M := ⟨m.toNat, by omega⟩
  obtain ⟨o, cv, rfl, hmx, -⟩ := id hv
  have HL := Lib.hid hl
  rw [hl] at hmx ⊢
  have hv' : RdI w (.slice o (n + 1) cv) ds := by rw [hl] at hv; exact hv
  obtain ⟨bv, fv, rfl, -⟩ := hv'.cells (by omega)
  clear hv hl
  have HDr := Lib.hid hd
  clear hd
  go_enter Tryz.func57, Tryz.ntmps57
  go_wp2_with fail
  refine (lazard_c n w h2 hn).mono ?_
  rintro e w1 ⟨vc, rfl, hO, hb1⟩
  obtain ⟨oc, cc, rfl⟩ := hO.shapeN (n := n + 1) (mk_len _ _)
  obtain ⟨gc, rfl, -, -⟩ := hO.row (by omega)
  have hC := hO.rd
  have hV := hv'.below hb1 (Nat.le_refl _)
  clear hv' hO
  go_wp2_with fail
  go_loopw [15] (fun i wr => ∃ (k : Nat) (d : Nat), k ≤ M ∧ i = .int .i64 k ∧ wr = w1.drewN d ∧ Hid (facTo M (laz n) (at0 ds) (n + 1) k = -1)) (fun i _ => M - (intOf i).toNat)
  case atStart => exact ⟨0, 0, Nat.zero_le _, rfl, rfl, Lib.hid rfl⟩
  case round =>
    obtain ⟨k, dr, hk, rfl, rfl, HK⟩ := hrel
    by_cases hlt : k < M
    · have i0 : (k : Int) < (M : Int) := by omega
      go_wp2_with fail
      go_loopw [7, 20] (fun f i wr => ∃ (q : Nat) (d : Nat), q ≤ n + 1 ∧ i = .int .i64 q ∧ f = .bool (fitTo M (laz n) (at0 ds) k q) ∧ wr = w1.drewN d) (fun _ i _ => n + 1 - (intOf i).toNat)
      case atStart => exact ⟨0, dr, Nat.zero_le _, rfl, rfl, rfl⟩
      case round =>
        obtain ⟨q, dq, hq, rfl, rfl, rfl⟩ := hrel
        by_cases hql : q < n + 1
        · have i1 : (q : Int) < (n : Int) + 1 := by omega
          have i2 : (0 : Int) ≤ (q : Int) := by omega
          have i3 : (q : Int) < ((n + 1 : Nat) : Int) := by omega
          have hb : Below w1.heap.size w1 (w1.drewN dq) := (by (repeat (first | exact bR _ _ | (refine bS ?_ _) | (refine bA ?_ _) | (refine bN ?_ _) | (refine bD ?_))))
          have cV := hV.cell0 (some_at0 (show q < ds.length by have := HL.out; omega))
          have cC := hC.cell0 (mk_get (f := laz n) hql)
          rw [Nat.zero_add] at cC
          have rd := at0_range (by omega) HDr.out q
          have rl := laz_range h2 hn q
          have rm := mod_lt' (a := laz n q) (show 0 < (M : Int) by omega)
          have m0 : ((M : Int) == 0) = false := by simp; omega
          have m1 : ¬ (M : Int) = 0 := by omega
          have hp : 0 ≤ (k : Int) * (laz n q % (M : Int)) ∧ (k : Int) * (laz n q % (M : Int)) ≤ 10000 * 10000 := ⟨Int.mul_nonneg (by omega) rm.1, Int.mul_le_mul (by omega) (by omega) rm.1 (by omega)⟩
          have e1 : (laz n q).tmod (M : Int) = laz n q % (M : Int) := Int.tmod_eq_emod_of_nonneg rl.1
          have e2 : IntKind.i64.wrap ((k : Int) * (laz n q % (M : Int))) = (k : Int) * (laz n q % (M : Int)) := IntWalk.i64_in _ (by omega)
          have HF : Hid (fitTo M (laz n) (at0 ds) k (q + 1) = (fitTo M (laz n) (at0 ds) k q && (at0 ds q % (M : Int) == (k : Int) * (laz n q % (M : Int)) % (M : Int)))) := Lib.hid rfl
          generalize at0 ds q = x at cV rd HF
          generalize laz n q = y at cC rl rm hp e1 e2 HF
          generalize hY : y % (M : Int) = Y at rm hp e1 e2 HF
          generalize hZ : (k : Int) * Y = Z at hp e2 HF
          have HZ := Lib.hid hZ
          clear hZ hY
          cases hB : fitTo M (laz n) (at0 ds) k q
          · rw [hB] at HF
            go_wp2_with fail
            go_quiet (fail)
            go_wp2
            exact ⟨⟨q + 1, _, by omega, by go_num, by rw [HF.out]; rfl, (by first | rfl | (simp [World.drewN_drewN]; done))⟩, by simp [intOf]; omega⟩
          · rw [hB] at HF
            have hZ := HZ.out
            go_wp2_with fail
            go_quiet (first | (go_at_call_of 75 (Value.int .i64 x); (first | exact quietA (rfl) (mod_c x M _ (by omega) (by omega) (by omega) (by omega)) | exact quietB (rfl) (mod_c x M _ (by omega) (by omega) (by omega) (by omega)) | exact quietC (rfl) (mod_c x M _ (by omega) (by omega) (by omega) (by omega)) | exact quietD (rfl) (mod_c x M _ (by omega) (by omega) (by omega) (by omega)))) | (go_at_call_of 75 (Value.int .i64 Z); (first | exact quietA (rfl) (mod_c Z M _ (by omega) (by omega) (by omega) (by omega)) | exact quietB (rfl) (mod_c Z M _ (by omega) (by omega) (by omega) (by omega)) | exact quietC (rfl) (mod_c Z M _ (by omega) (by omega) (by omega) (by omega)) | exact quietD (rfl) (mod_c Z M _ (by omega) (by omega) (by omega) (by omega)))))
            go_wp2
            exact ⟨⟨q + 1, _, by omega, by go_num, by rw [HF.out]; rfl, (by first | rfl | (simp [World.drewN_drewN]; done))⟩, by simp [intOf]; omega⟩
        · obtain rfl : q = n + 1 := by omega
          have i1 : ¬ ((n + 1 : Nat) : Int) < (n : Int) + 1 := by omega
          cases hB : fitTo M (laz n) (at0 ds) k (n + 1)
          · have HB := Lib.hid (facTo_f HK.out hB)
            go_wp2
            exact ⟨⟨k + 1, _, by omega, by go_num, rfl, HB⟩, by simp [intOf]; omega⟩
          · have HB := Lib.hid (facP_t HK.out hB (by simp; omega))
            go_wp2
            go_ret
            exact ⟨by rw [HB.out]; rfl, (by (repeat (first | exact bR _ _ | (refine bS ?_ _) | (refine bA ?_ _) | (refine bN ?_ _) | (refine bD ?_) | (refine bT ?_ hb1))))⟩
    · obtain rfl : k = M := by omega
      have HB := Lib.hid (facP_f (m := (k : Int)) (c := laz n) (d := at0 ds) (n := n + 1) (by simpa using HK.out))
      have i1 : ¬ (k : Int) < (k : Int) := by omega
      go_wp2
      go_ret
      exact ⟨by rw [HB.out]; rfl, (by (repeat (first | exact bR _ _ | (refine bS ?_ _) | (refine bA ?_ _) | (refine bN ?_ _) | (refine bD ?_) | (refine bT ?_ hb1))))⟩
end Go.Proofs.YtoednonijmkbjaaGreat
set_option linter.unusedSimpArgs false
set_option linter.unusedVariables false
namespace Go.Proofs.YtoednonijmkbjaaGreat
open Go.RowKit

theorem fitTo_of {m : Int} {c d : Nat → Int} {x : Int} : ∀ {k : Nat}, (∀ i, i < k → d i % m = x * (c i % m) % m) → fitTo m c d x k = true
  | 0, _ => rfl
  | k + 1, h => by
    show (fitTo m c d x k && (d k % m == x * (c k % m) % m)) = true
    rw [fitTo_of fun i hi => h i (by omega), h k (by omega)]
    simp
theorem fitTo_t {m : Int} {c d : Nat → Int} {x : Int} : ∀ {k : Nat}, fitTo m c d x k = true → ∀ i, i < k → d i % m = x * (c i % m) % m
  | 0, _, i, hi => by omega
  | k + 1, h, i, hi => by
    have h' : (fitTo m c d x k && (d k % m == x * (c k % m) % m)) = true := h
    rw [Bool.and_eq_true, beq_iff_eq] at h'
    by_cases e : i = k
    · subst e; exact h'.2
    · exact fitTo_t h'.1 i (by omega)
theorem fitTo_congr {m : Int} {c d d' : Nat → Int} {x : Int} : ∀ {k : Nat}, (∀ i, i < k → d i = d' i) → fitTo m c d x k = fitTo m c d' x k
  | 0, _ => rfl
  | k + 1, h => by
    show (fitTo m c d x k && (d k % m == _)) = (fitTo m c d' x k && (d' k % m == _))
    rw [fitTo_congr fun i hi => h i (by omega), h k (by omega)]
theorem facTo_congr {m : Int} {c d d' : Nat → Int} {n : Nat} (h : ∀ i, i < n → d i = d' i) : ∀ K, facTo m c d n K = facTo m c d' n K
  | 0 => rfl
  | K + 1 => by
    show (if 0 ≤ facTo m c d n K then facTo m c d n K else if fitTo m c d K n = true then (K : Int) else -1) = (if 0 ≤ facTo m c d' n K then facTo m c d' n K else if fitTo m c d' K n = true then (K : Int) else -1)
    rw [facTo_congr h K, fitTo_congr h]
theorem facP_congr {m : Int} {c d d' : Nat → Int} {n : Nat} (h : ∀ i, i < n → d i = d' i) : facP m c d n = facP m c d' n := by
  unfold facP; rw [facTo_congr h]
theorem facTo_pos {m : Int} {c d : Nat → Int} {n k K : Nat} (hk : k < K) (hf : fitTo m c d k n = true) : 0 ≤ facTo m c d n K := by
  by_cases h : 0 ≤ facTo m c d n k
  · have := facTo_keep h (K - k)
    rw [show k + (K - k) = K by omega] at this
    omega
  · have h1 : facTo m c d n k = -1 := by
      rcases facTo_cases m c d n k with e | ⟨j, _, e, _⟩
      · exact e
      · omega
    have := facTo_end h1 hf hk
    omega
theorem facP_eq {m : Int} {c d : Nat → Int} {n : Nat} (h : 0 ≤ facTo m c d n m.toNat) : facP m c d n = facTo m c d n m.toNat := by
  unfold facP; rw [if_pos h]
theorem fac_ex {m : Int} (hm : 2 ≤ m) {c d : Nat → Int} {n : Nat} {x : Int} (h : ∀ i, i < n → d i % m = x * c i % m) : 0 ≤ facTo m c d n m.toNat := by
  have hx := mod_lt' (a := x) (show 0 < m by omega)
  obtain ⟨X, hX⟩ : ∃ X : Nat, x % m = X := ⟨(x % m).toNat, by omega⟩
  refine facTo_pos (k := X) (by omega) (fitTo_of fun i hi => ?_)
  rw [h i hi, ← hX]
  exact emod_congr_mul (mod_self_mod _ _).symm (mod_self_mod _ _).symm
theorem agrA_at {t s : List (List Int)} {d : Nat} (h : agrA t s d = true) {i : Nat} (hi : i ≤ d) : atT t i (d - i) = atT s i (d - i) := by
  unfold agrA at h
  have := List.all_eq_true.1 h i (List.mem_range.2 (by omega))
  simpa using this
theorem agrK_below {t s : List (List Int)} {n d : Nat} (h : d < agrK t s n) : agrA t s d = true := by
  have hn := agrK_le t s n
  have key : ∀ e, e ≤ d → agrA t s e = true := by
    intro e
    induction e using Nat.strongRecOn with
    | _ e ih =>
      intro he
      cases hx : agrA t s e
      · have := agrK_at (show e < n by omega) (fun d' hd => ih d' hd (by omega)) hx
        omega
      · rfl
  exact key d (Nat.le_refl _)
theorem gap_ex {m : Int} (hm : 2 ≤ m) {t s : List (List Int)} {n : Nat} (h2 : 2 ≤ n) (hn : n ≤ 10) (LF : Lw m (n + 1) (atT t)) (LG : Lw m (n + 1) (atT s)) (he : ∀ i j, i + j < n → atT t i j % m = atT s i j % m) :
    0 ≤ facTo m (laz n) (fun i => (atT s i (n - i) - atT t i (n - i)) % m) (n + 1) m.toNat := by
  obtain ⟨x, hx⟩ := laws_ex h2 hn LF LG he
  exact fac_ex hm (x := x) fun i hi => by
    show (atT s i (n - i) - atT t i (n - i)) % m % m = _
    rw [mod_self_mod]
    exact hx i (by omega)
theorem agrK_eqv {m : Int} {t s : List (List Int)} {n k : Nat} (h : k ≤ agrK t s n) : ∀ i j, i + j < k → atT t i j % m = atT s i j % m := by
  intro i j hij
  have := agrA_at (agrK_below (n := n) (show i + j < agrK t s n by omega)) (show i ≤ i + j by omega)
  rw [show i + j - i = j by omega] at this
  rw [this]
end Go.Proofs.YtoednonijmkbjaaGreat
/- Typical laws: both functions answer alike. -/
set_option linter.unusedSimpArgs false
set_option linter.unusedVariables false
namespace Go.Proofs.YtoednonijmkbjaaGreat
open Go.RowKit

def typT2 (p : Nat) (m : Int) (n : Nat) (ls : List Int) : List (List Int) := tri (n + 1) (fun i j => tyF p (mostOf p n) (tyl p (mostOf p n) (at0 (ls ++ List.replicate (3 - ls.length) (0 : Int)))) (n - 1) i j % m)
end Go.Proofs.YtoednonijmkbjaaGreat

/- Typical laws: both functions answer alike, the good end. -/
set_option linter.unusedSimpArgs false
set_option linter.unusedVariables false
namespace Go.Proofs.YtoednonijmkbjaaGreat
open Go.RowKit

end Go.Proofs.YtoednonijmkbjaaGreat
