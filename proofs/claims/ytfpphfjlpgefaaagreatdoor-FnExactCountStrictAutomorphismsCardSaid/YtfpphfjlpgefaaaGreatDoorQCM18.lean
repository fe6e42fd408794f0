/- Lemmas. -/
import Derived.Test.YtfpphfjlpgefaaaGreatDoorQCM16
import Derived.Test.YtfpphfjlpgefaaaGreatDoorQCG2
import Derived.Test.YtfpphfjlpgefaaaGreatDoorQCM12
import Derived.Test.YtfpphfjlpgefaaaGreatDoorQCG5
import Derived.Test.YtfpphfjlpgefaaaGreatDoorQCM13
import Derived.Test.YtfpphfjlpgefaaaGreatDoorQCM6
import Derived.Test.YtfpphfjlpgefaaaGreatDoorQCHomP
import Derived.Test.YtfpphfjlpgefaaaGreatDoorQCM9
import Derived.Test.YtfpphfjlpgefaaaGreatDoorQCG3
set_option linter.unusedSimpArgs false
set_option linter.unusedVariables false
namespace Go.Proofs.YtfpphfjlpgefaaaGreatDoor
open Go.RowKit

structure BR where
  val : Bool
  code : Int
end Go.Proofs.YtfpphfjlpgefaaaGreatDoor
set_option linter.unusedSimpArgs false
set_option linter.unusedVariables false
namespace Go.Proofs.YtfpphfjlpgefaaaGreatDoor
open Go.RowKit

def homB (m : Int) (n : Nat) (t s : List (List Int)) (xs : List Int) : Bool := eqTB (hornT m n t xs) (botL m n s xs xs)
set_option maxHeartbeats 2000000 in
set_option maxRecDepth 100000 in
theorem l06Fits_c (m : Int) (n : Nat) (v u u' : Value) (t s : List (List Int)) (xs : List Int) (w : World) (hv : RdT w v t) (hu : RdT w u s) (hu' : RdI w u' xs) (hl : xs.length = n) (h1 : 1 ≤ n) (hn : n ≤ 1000) (hm : 2 ≤ m) (hm' : m ≤ 10000) (ht : PlaT m n t) (hs : PlaT m n s)
    (hx : ∀ x ∈ xs, 0 ≤ x ∧ x < m) (hx0 : at0 xs 0 = 0) :
    Calls Tryz.prog 14 #[.int .i64 m, v, u, u'] w fun e w' => e = .returned (.bool (homB m n t s xs)) ∧ Below w.heap.size w w' := by
  have H0 := Lib.hid hx0
  clear hx0
  go_enter Tryz.func14, Tryz.ntmps14
  go_wp2_with fail
  refine (l03After_c m n _ _ xs t _ hu' hv (by omega) (by omega) (by omega) (by omega) (by omega) hx ht).mono ?_
  rintro e w1 ⟨vl, rfl, hol, B1⟩
  obtain ⟨ol, cl, rfl⟩ := hol.shapeN (n := n) (hornT_len _ _ _ _)
  go_wp2_with fail
  refine (l03Both2_c m n _ _ s xs _ (hu.below B1 (Nat.le_refl _)) (hu'.below B1 (Nat.le_refl _)) hl (by omega) (by omega) hm hm' hs hx H0.out).mono ?_
  rintro e w2 ⟨vb, rfl, hob, hb2⟩
  obtain ⟨ob, cb, rfl⟩ := hob.shapeN (n := n) (botM_len _ _ _ _ _)
  have B2 := B1.trans (hb2.mono B1.size)
  go_wp2_with fail
  refine (l01Same2_c _ _ (hornT m n t xs) (botL m n s xs xs) _ (hol.rd.below hb2 (Nat.le_refl _)) hob.rd).mono ?_
  rintro e w3 ⟨rfl, d, rfl⟩
  go_wp2
  go_ret
  exact ⟨rfl, (by (repeat (first | exact bR _ _ | (refine bS ?_ _) | (refine bA ?_ _) | (refine bN ?_ _) | (refine bD ?_) | (refine bT ?_ B2))))⟩

end Go.Proofs.YtfpphfjlpgefaaaGreatDoor
set_option linter.unusedSimpArgs false
set_option linter.unusedVariables false
namespace Go.Proofs.YtfpphfjlpgefaaaGreatDoor
open Go.RowKit

structure TR where
  xss : List (List Int)
  code : Int
theorem homB_iff {m : Int} {n : Nat} {t s : List (List Int)} {xs : List Int} : homB m n t s xs = true ↔ homT m n t s xs := by simp [homB, eqTB, homT]
theorem law_00 {m : Int} {t : List (List Int)} (h : lawB m t = true) : atT t 0 0 = 0 := by
  have := (fauL_nil (lawB_t h).2).1 0 (by have := (pla_n (lawB_t h).1).1; omega)
  rw [this]; rfl
end Go.Proofs.YtfpphfjlpgefaaaGreatDoor
set_option linter.unusedSimpArgs false
set_option linter.unusedVariables false
namespace Go.Proofs.YtfpphfjlpgefaaaGreatDoor
open Go.RowKit
open Rg

theorem onx_xS : onx xS = xP := rfl
theorem ony_xS : ony xS = yP := rfl

theorem coo_hom {m : Int} {N : Nat} {t : List (List Int)} {xs : List Int} (hm : 2 ≤ m) (hN : 2 ≤ N) (ht : PlaT m N t) (ht0 : atT t 0 0 = 0) (hl : xs.length = N) (h0 : at0 xs 0 = 0) (h1 : at0 xs 1 = 1) :
    cooT m N t xs = t ↔ homT m N t t xs := by
  have C := coo_cnj hm hN ht hl h0 h1
  have g0 : at0 (revL m N xs) 0 = 0 := revTo_0 m N xs _
  have P := (show PlaT m N (cooT m N t xs) from hornT_ok (by omega) _ _ _)
  rw [homT_iff (by omega) ht ht h0 hl ht0]
  have lgx : lo m 1 (onx (at0 (revL m N xs))) := lo_onx g0
  have lgy : lo m 1 (ony (at0 (revL m N xs))) := lo_ony g0
  have lfx : lo m 1 (onx (at0 xs)) := lo_onx h0
  have lfy : lo m 1 (ony (at0 xs)) := lo_ony h0
  have ok := C.ok
  have fg := C.fg
  have gf := C.gf
  have lf := C.lf
  have lg := C.lg
  generalize at0 (revL m N xs) = g at ok fg gf lg lgx lgy
  generalize at0 xs = f at ok fg gf lf lfx lfy ⊢
  have efx : eqv m N (ev1 N f (onx g)) xP := by rw [← onx_xS]; exact eqv_trans (eqv_symm (hm_ev1 (hm_onx m N) f g)) ((hm_onx m N).eqv (Nat.le_refl _) fg)
  have efy : eqv m N (ev1 N f (ony g)) yP := by rw [← ony_xS]; exact eqv_trans (eqv_symm (hm_ev1 (hm_ony m N) f g)) ((hm_ony m N).eqv (Nat.le_refl _) fg)
  have egx : eqv m N (ev1 N g (onx f)) xP := by rw [← onx_xS]; exact eqv_trans (eqv_symm (hm_ev1 (hm_onx m N) g f)) ((hm_onx m N).eqv (Nat.le_refl _) gf)
  have egy : eqv m N (ev1 N g (ony f)) yP := by rw [← ony_xS]; exact eqv_trans (eqv_symm (hm_ev1 (hm_ony m N) g f)) ((hm_ony m N).eqv (Nat.le_refl _) gf)
  constructor
  · intro h
    rw [h] at ok
    have H : Hm m N (fun X => ev2 N X (onx f) (ony f)) := hm2 lfx lfy
    have a1 := H.eqv (Nat.le_refl _) ok
    have a2 := hm_ev1 H f (ev2 N (atT t) (onx g) (ony g))
    have a3 := hm_ev2 H (atT t) (onx g) (ony g)
    rw [ev2_onx (by omega), ev2_ony (by omega)] at a3
    have a4 := ev2_eqv (F := atT t) (lo_ev1 (n := N) lg (by omega) lfx) (lo_ev1 (n := N) lg (by omega) lfy) (Nat.le_refl _) (fun _ _ _ => rfl) egx egy
    have a5 := eqv_trans a3 (eqv_trans a4 (ev2_self (atT t)))
    exact eqv_symm (eqv_trans a1 (eqv_trans a2 (ev1_a f a5)))
  · intro h
    have H : Hm m N (fun X => ev2 N X (onx g) (ony g)) := hm2 lgx lgy
    have a1 := H.eqv (Nat.le_refl _) h
    have a2 := hm_ev1 H f (atT t)
    have a3 := hm_ev2 H (atT t) (onx f) (ony f)
    rw [ev2_onx (by omega), ev2_ony (by omega)] at a3
    have a4 := ev2_eqv (F := atT t) (lo_ev1 (n := N) lf (by omega) lgx) (lo_ev1 (n := N) lf (by omega) lgy) (Nat.le_refl _) (fun _ _ _ => rfl) efx efy
    have a5 := eqv_trans a3 (eqv_trans a4 (ev2_self (atT t)))
    exact tab_eq P ht (eqv_trans ok (eqv_trans (eqv_symm a2) (eqv_trans a1 a5)))

def digs (m : Nat) : Nat → Nat → List Int
  | 0, _ => []
  | k + 1, n => digs m k (n / m) ++ [((n % m : Nat) : Int)]
theorem digs_len (m : Nat) : ∀ k n, (digs m k n).length = k
  | 0, _ => rfl
  | k + 1, n => by rw [digs, List.length_append, digs_len m k]; rfl
theorem digs_range {m : Nat} (hm : 0 < m) : ∀ k n, ∀ x ∈ digs m k n, 0 ≤ x ∧ x < (m : Int)
  | 0, _, x, h => by simp [digs] at h
  | k + 1, n, x, h => by
    rw [digs, List.mem_append] at h
    rcases h with h | h
    · exact digs_range hm k _ x h
    · simp at h
      have := Nat.mod_lt n hm
      omega
theorem digs_top {m : Nat} (hm : 0 < m) {i : Nat} (hi : i < m) : ∀ (k r : Nat), r < m ^ k → digs m (k + 1) (i * m ^ k + r) = (i : Int) :: digs m k r
  | 0, r, hr => by
    have : r = 0 := by simpa using hr
    subst this
    simp only [digs, Nat.pow_zero, Nat.mul_one, Nat.add_zero, List.nil_append]
    rw [Nat.mod_eq_of_lt hi]
  | k + 1, r, hr => by
    have e1 : (i * m ^ (k + 1) + r) / m = i * m ^ k + r / m := by
      rw [Nat.pow_succ, ← Nat.mul_assoc, Nat.mul_comm _ m, Nat.mul_add_div hm]
    have e2 : (i * m ^ (k + 1) + r) % m = r % m := by
      rw [Nat.pow_succ, ← Nat.mul_assoc, Nat.mul_comm _ m, Nat.mul_add_mod]
    have h3 : r / m < m ^ k := (Nat.div_lt_iff_lt_mul hm).2 (by rw [← Nat.pow_succ]; exact hr)
    rw [show digs m (k + 1 + 1) (i * m ^ (k + 1) + r) = digs m (k + 1) ((i * m ^ (k + 1) + r) / m) ++ [(((i * m ^ (k + 1) + r) % m : Nat) : Int)] from rfl, e1, e2, digs_top hm hi k (r / m) h3]
    rfl
theorem range_mul (a b : Nat) : List.range (a * b) = (List.range a).flatMap (fun x => (List.range b).map (fun r => x * b + r)) := by
  induction a with
  | zero => simp
  | succ a ih => rw [List.range_succ, List.flatMap_append, ← ih, Nat.succ_mul, List.range_add]; simp
theorem allC_digs {m : Nat} (hm : 0 < m) : ∀ (k : Nat) (pre : List Int), allC m k pre = (List.range (m ^ k)).map (fun n => pre ++ digs m k n)
  | 0, pre => by simp [allC, digs]
  | k + 1, pre => by
    rw [Nat.pow_succ, Nat.mul_comm, range_mul, List.map_flatMap]
    unfold allC
    have : ∀ x ∈ List.range m, allC m k (pre ++ [(x : Int)]) = ((List.range (m ^ k)).map (fun r => x * m ^ k + r)).map (fun n => pre ++ digs m (k + 1) n) := by
      intro x hx
      rw [allC_digs hm k, List.map_map]
      refine List.map_congr_left fun r hr => ?_
      show _ = pre ++ digs m (k + 1) (x * m ^ k + r)
      rw [digs_top hm (List.mem_range.1 hx) k r (List.mem_range.1 hr)]
      simp
    rw [List.flatMap_def, List.flatMap_def, List.map_congr_left this]
theorem allC_strict {m k : Nat} {xs : List Int} (h : xs ∈ allC m k [0, 1]) : at0 xs 0 = 0 ∧ at0 xs 1 = 1 := by
  obtain ⟨h1, h2, -⟩ := allC_mem h
  simp at h1 h2
  have e0 : at0 (xs.take 2) 0 = at0 xs 0 := at0_take (by omega)
  have e1 : at0 (xs.take 2) 1 = at0 xs 1 := at0_take (by omega)
  rw [h2] at e0 e1
  exact ⟨e0.symm, e1.symm⟩
def autN (m : Int) (n : Nat) (t : List (List Int)) (k : Nat) : Nat := ((List.range k).filter (fun j => homB m n t t ([0, 1] ++ digs m.toNat (n - 2) j))).length
theorem autN_s (m : Int) (n : Nat) (t : List (List Int)) (k : Nat) : autN m n t (k + 1) = autN m n t k + (if homB m n t t ([0, 1] ++ digs m.toNat (n - 2) k) then 1 else 0) := by
  unfold autN
  rw [List.range_succ, List.filter_append, List.length_append]
  congr 1
  cases h : homB m n t t ([0, 1] ++ digs m.toNat (n - 2) k)
  · rw [List.filter_cons_of_neg (by rw [h]; exact Bool.false_ne_true)]; rfl
  · rw [List.filter_cons_of_pos (a := k) (p := fun j => homB m n t t ([0, 1] ++ digs m.toNat (n - 2) j)) h]; rfl
theorem autN_all {m : Int} (hm : 2 ≤ m) (n : Nat) (t : List (List Int)) : ((allC m.toNat (n - 2) [0, 1]).filter (homB m n t t)).length = autN m n t (m.toNat ^ (n - 2)) := by
  rw [allC_digs (by omega), List.filter_map, List.length_map]; rfl
theorem autN_le (m : Int) (n : Nat) (t : List (List Int)) (k : Nat) : autN m n t k ≤ k := by
  unfold autN
  exact Nat.le_trans (List.length_filter_le _ _) (by simp)
theorem hom_two {m : Int} {n : Nat} {t : List (List Int)} {xs : List Int} (hm : 2 ≤ m) (h2 : 2 ≤ n) (ht : PlaT m n t) (ht0 : atT t 0 0 = 0) (hx : xs ∈ allC m.toNat (n - 2) [0, 1]) : homB m n t t xs = decide (cooT m n t xs = t) := by
  have hl := (allC_mem hx).1
  simp at hl
  obtain ⟨h0, h1⟩ := allC_strict hx
  rw [Bool.eq_iff_iff, decide_eq_true_iff, homB_iff, coo_hom hm h2 ht ht0 (by omega) h0 h1]
def l11R (m : Int) (t : List (List Int)) : Int := if lawB m t then (if t.length = 2 then 5 else if 300 < m ^ (t.length - 2) then 3 else 0) else 1
def autR (m : Int) (t : List (List Int)) : IR := if l11R m t = 0 then ⟨autN m t.length t (m.toNat ^ (t.length - 2)), 0⟩ else ⟨0, l11R m t⟩
end Go.Proofs.YtfpphfjlpgefaaaGreatDoor
set_option linter.unusedSimpArgs false
set_option linter.unusedVariables false
namespace Go.Proofs.YtfpphfjlpgefaaaGreatDoor
open Go.RowKit

def cntAt (m most : Int) : Nat → Int → Int
  | 0, a => a
  | k + 1, a => if most / m < a then most + 1 else cntAt m most k (a * m)
theorem cnt_large {m most : Int} (hm : 1 ≤ m) : ∀ (k : Nat) (a : Int), 0 ≤ a → a ≤ most → (decide (most < cntAt m most k a)) = (match k with | 0 => false | _ => decide (most < a * m ^ k))
  | 0, a, h0, h1 => decide_eq_false (show ¬ most < a by omega)
  | k + 1, a, h0, h1 => by
    have hq : most / m < a ↔ most < a * m := Int.ediv_lt_iff_lt_mul (by omega)
    have hp : (1 : Int) ≤ m ^ k := pow_pos' hm k
    unfold cntAt
    by_cases h : most / m < a
    · rw [if_pos h]
      have h2 := hq.1 h
      have h3 : a * m ≤ a * m ^ (k + 1) := by
        rw [Int.pow_succ, Int.mul_comm (m ^ k), ← Int.mul_assoc]
        have := Int.mul_le_mul_of_nonneg_left hp (show 0 ≤ a * m by omega)
        rwa [Int.mul_one] at this
      simp; omega
    · rw [if_neg h]
      have h2 : a * m ≤ most := by
        have := mt hq.2 h; omega
      have h4 : 0 ≤ a * m := Int.mul_nonneg h0 (by omega)
      rw [cnt_large hm k (a * m) h4 h2]
      have e : a * m * m ^ k = a * m ^ (k + 1) := by rw [Int.pow_succ, Int.mul_comm (m ^ k), ← Int.mul_assoc]
      cases k with
      | zero =>
        have e1 : a * m ^ (0 + 1) = a * m := by rw [Int.pow_succ, Int.pow_zero, Int.one_mul]
        simp only [e1]
        simp; omega
      | succ k => simp only [e]
set_option maxHeartbeats 400000 in
set_option maxRecDepth 100000 in
theorem countAtMost_c (m d most : Int) (k : Nat) (w : World) (hd : d = (k : Int)) (hk : k ≤ 1000) (hm : 2 ≤ m) (hm' : m ≤ 10000) (h0 : 1 ≤ most) (h1 : most ≤ 1000000000000000000) :
    Calls Tryz.prog 45 #[.int .i64 m, .int .i64 d, .int .i64 most] w fun e w' => e = .returned (.int .i64 (cntAt m most k 1)) ∧ w = w' := by
  subst hd
  have m0 : (m == 0) = false := by simp; omega
  have m1 : ¬ m = 0 := by omega
  have hq0 : most.tdiv m = most / m := Int.tdiv_eq_ediv_of_nonneg (by omega)
  have hq1 : 0 ≤ most / m := Int.ediv_nonneg (by omega) (by omega)
  have hq2 : most / m ≤ most := Int.ediv_le_self _ (by omega)
  have hq3 := IntWalk.i64_in (most / m) (by omega)
  have hq4 : IntKind.i64.wrap (most + 1) = most + 1 := IntWalk.i64_in _ (by omega)
  go_enter Tryz.func45, Tryz.ntmps45
  go_wp2
  go_loop [7, 9] (fun a i => ∃ (j : Nat) (x : Int), j ≤ k ∧ i = .int .i64 j ∧ a = .int .i64 x ∧ 0 ≤ x ∧ x ≤ most ∧ cntAt m most (k - j) x = cntAt m most k 1) (fun _ i => k - (intOf i).toNat)
  case atStart => exact ⟨0, 1, Nat.zero_le _, rfl, rfl, by omega, by omega, rfl⟩
  case round =>
    obtain ⟨j, x, hj, rfl, rfl, hx0, hx1, hR⟩ := hrel
    by_cases hlt : j < k
    · have i0 : (j : Int) < (k : Int) := by omega
      rw [show k - j = (k - (j + 1)) + 1 by omega] at hR
      have hq : most / m < x ↔ most < x * m := Int.ediv_lt_iff_lt_mul (by omega)
      by_cases hl : most / m < x
      · have HR := Lib.hid (show cntAt m most k 1 = most + 1 by rw [← hR]; unfold cntAt; rw [if_pos hl])
        clear hR
        go_wp2
        go_ret
        exact ⟨by rw [HR.out]; rfl, rfl⟩
      · have hxm : x * m ≤ most := by have := mt hq.2 hl; omega
        have hxm0 : 0 ≤ x * m := Int.mul_nonneg hx0 (by omega)
        have HR := Lib.hid (show cntAt m most (k - (j + 1)) (x * m) = cntAt m most k 1 by rw [← hR]; conv => rhs; unfold cntAt; rw [if_neg hl])
        have e1 : IntKind.i64.wrap (x * m) = x * m := IntWalk.i64_in _ (by omega)
        clear hR
        go_wp2
        exact ⟨⟨j + 1, x * m, by omega, by go_num, rfl, hxm0, hxm, HR.out⟩, by simp [intOf]; omega⟩
    · obtain rfl : j = k := by omega
      have HR := Lib.hid (show cntAt m most j 1 = x by rw [← hR, Nat.sub_self]; rfl)
      clear hR
      go_wp2
      go_ret
      exact ⟨by rw [HR.out]; rfl, rfl⟩

end Go.Proofs.YtfpphfjlpgefaaaGreatDoor
