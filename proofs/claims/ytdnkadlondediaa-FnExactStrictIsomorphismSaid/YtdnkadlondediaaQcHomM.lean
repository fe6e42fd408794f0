/- Lemmas of HomM. -/
import Derived.Test.YtdnkadlondediaaQcHomL
set_option linter.unusedSimpArgs false
set_option linter.unusedVariables false
namespace Go.Proofs.Ytdnkadlondediaa
open Go.RowKit

def cntAt (m most : Int) : Nat → Int → Int
  | 0, a => a
  | k + 1, a => if most / m < a then most + 1 else cntAt m most k (a * m)
theorem cnt_large {m most : Int} (hm : 1 ≤ m) : ∀ (k : Nat) (a : Int), 0 ≤ a → a ≤ most → (decide (most < cntAt m most k a)) = (match k with | 0 => false | _ => decide (most < a * m ^ k))
  | 0, a, h0, h1 => decide_eq_false (show ¬ most < a by omega)
  | k + 1, a, h0, h1 => by
    have hq : most / m < a ↔ most < a * m := Int.ediv_lt_iff_lt_mul (by omega)
    have hp : (1 : Int) ≤ m ^ k := pow_pos' hm k
    unfold cntAt
    by_cases h : most / m < a
    · rw [if_pos h]
      have h2 := hq.1 h
      have h3 : a * m ≤ a * m ^ (k + 1) := by
        rw [Int.pow_succ, Int.mul_comm (m ^ k), ← Int.mul_assoc]
        have := Int.mul_le_mul_of_nonneg_left hp (show 0 ≤ a * m by omega)
        rwa [Int.mul_one] at this
      simp; omega
    · rw [if_neg h]
      have h2 : a * m ≤ most := by
        have := mt hq.2 h; omega
      have h4 : 0 ≤ a * m := Int.mul_nonneg h0 (by omega)
      rw [cnt_large hm k (a * m) h4 h2]
      have e : a * m * m ^ k = a * m ^ (k + 1) := by rw [Int.pow_succ, Int.mul_comm (m ^ k), ← Int.mul_assoc]
      cases k with
      | zero =>
        have e1 : a * m ^ (0 + 1) = a * m := by rw [Int.pow_succ, Int.pow_zero, Int.one_mul]
        simp only [e1]
        simp; omega
      | succ k => simp only [e]
theorem large_pow {m : Int} (hm : 1 ≤ m) : ∀ (k : Nat) (a : Int), 0 ≤ a → a ≤ 20000 → largeB m k a = (match k with | 0 => false | _ => decide (20000 < a * m ^ k))
  | 0, a, h0, h1 => rfl
  | k + 1, a, h0, h1 => by
    have hp : (1 : Int) ≤ m ^ k := pow_pos' hm k
    have e : a * m * m ^ k = a * m ^ (k + 1) := by rw [Int.pow_succ, Int.mul_comm (m ^ k), ← Int.mul_assoc]
    unfold largeB
    by_cases h : 20000 < a * m
    · rw [if_pos h]
      have h3 : a * m ≤ a * m ^ (k + 1) := by
        rw [← e]
        have := Int.mul_le_mul_of_nonneg_left hp (show 0 ≤ a * m by omega)
        rwa [Int.mul_one] at this
      simp; omega
    · rw [if_neg h]
      have h4 : 0 ≤ a * m := Int.mul_nonneg h0 (by omega)
      rw [large_pow hm k (a * m) h4 (by omega)]
      cases k with
      | zero =>
        have e1 : a * m ^ (0 + 1) = a * m := by rw [Int.pow_succ, Int.pow_zero, Int.one_mul]
        simp only [e1]
        simp; omega
      | succ k => simp only [e]
theorem cnt_is_large {m : Int} (hm : 1 ≤ m) (k : Nat) : decide (20000 < cntAt m 20000 k 1) = largeB m k 1 := by
  rw [cnt_large hm k 1 (by omega) (by omega), large_pow hm k 1 (by omega) (by omega)]

set_option maxHeartbeats 400000 in
set_option maxRecDepth 100000 in
theorem countAtMost_c (m d most : Int) (k : Nat) (w : World) (hd : d = (k : Int)) (hk : k ≤ 1000) (hm : 2 ≤ m) (hm' : m ≤ 10000) (h0 : 1 ≤ most) (h1 : most ≤ 1000000000000000000) :
    Calls Try.prog 155 #[.int .i64 m, .int .i64 d, .int .i64 most] w fun e w' => e = .returned (.int .i64 (cntAt m most k 1)) ∧ w = w' := by
  subst hd
  have m0 : (m == 0) = false := by simp; omega
  have m1 : ¬ m = 0 := by omega
  have hq0 : most.tdiv m = most / m := Int.tdiv_eq_ediv_of_nonneg (by omega)
  have hq1 : 0 ≤ most / m := Int.ediv_nonneg (by omega) (by omega)
  have hq2 : most / m ≤ most := Int.ediv_le_self _ (by omega)
  have hq3 := IntWalk.i64_in (most / m) (by omega)
  have hq4 : IntKind.i64.wrap (most + 1) = most + 1 := IntWalk.i64_in _ (by omega)
  go_enter Try.func155, Try.ntmps155
  go_wp2
  go_loop [7, 9] (fun a i => ∃ (j : Nat) (x : Int), j ≤ k ∧ i = .int .i64 j ∧ a = .int .i64 x ∧ 0 ≤ x ∧ x ≤ most ∧ cntAt m most (k - j) x = cntAt m most k 1) (fun _ i => k - (intOf i).toNat)
  case atStart => exact ⟨0, 1, Nat.zero_le _, rfl, rfl, by omega, by omega, rfl⟩
  case round =>
    obtain ⟨j, x, hj, rfl, rfl, hx0, hx1, hR⟩ := hrel
    by_cases hlt : j < k
    · have i0 : (j : Int) < (k : Int) := by omega
      rw [show k - j = (k - (j + 1)) + 1 by omega] at hR
      have hq : most / m < x ↔ most < x * m := Int.ediv_lt_iff_lt_mul (by omega)
      by_cases hl : most / m < x
      · have HR := Lib.hid (show cntAt m most k 1 = most + 1 by rw [← hR]; unfold cntAt; rw [if_pos hl])
        clear hR
        go_wp2
        go_ret
        exact ⟨by rw [HR.out]; rfl, rfl⟩
      · have hxm : x * m ≤ most := by have := mt hq.2 hl; omega
        have hxm0 : 0 ≤ x * m := Int.mul_nonneg hx0 (by omega)
        have HR := Lib.hid (show cntAt m most (k - (j + 1)) (x * m) = cntAt m most k 1 by rw [← hR]; conv => rhs; unfold cntAt; rw [if_neg hl])
        have e1 : IntKind.i64.wrap (x * m) = x * m := IntWalk.i64_in _ (by omega)
        clear hR
        go_wp2
        exact ⟨⟨j + 1, x * m, by omega, by go_num, rfl, hxm0, hxm, HR.out⟩, by simp [intOf]; omega⟩
    · obtain rfl : j = k := by omega
      have HR := Lib.hid (show cntAt m most j 1 = x by rw [← hR, Nat.sub_self]; rfl)
      clear hR
      go_wp2
      go_ret
      exact ⟨by rw [HR.out]; rfl, rfl⟩

def schC (m : Int) (t : List (List Int)) (m1 : Int) (s : List (List Int)) (k : Nat) : Int := if twoL m t m1 s = 0 then (if largeB m k 1 then 3 else 0) else twoL m t m1 s
set_option maxHeartbeats 400000 in
set_option maxRecDepth 100000 in
theorem searchable_c (m : Int) (v : Value) (t : List (List Int)) (m1 : Int) (u : Value) (s : List (List Int)) (d : Int) (k : Nat) (w : World) (hv : RdT w v t) (hu : RdT w u s) (hd : twoL m t m1 s = 0 → d = (k : Int) ∧ k ≤ 1000) :
    Calls Try.prog 101 #[.agg #[.int .i64 m, v], .agg #[.int .i64 m1, u], .int .i64 d] w fun e w' => e = .returned (.int .i64 (schC m t m1 s k)) ∧ Below w.heap.size w w' := by
  obtain ⟨o, c, rfl, -, -⟩ := id hv
  obtain ⟨o1, c1, rfl, -, -⟩ := id hu
  have HR := Lib.hid (show schC m t m1 s k = if twoL m t m1 s = 0 then (if largeB m k 1 then 3 else 0) else twoL m t m1 s from rfl)
  by_cases hc : twoL m t m1 s = 0
  · obtain ⟨a1, a2, e1, l1⟩ := twoL_0 hc
    obtain ⟨rfl, hk⟩ := hd hc
    have hm := pla_m (lawB_t a1).1
    have HC := Lib.hid hc
    have HL := Lib.hid (cnt_is_large (m := m) (by omega) k)
    have hcc : ((0 : Int) != 0) = false := by simp
    rw [if_pos hc] at HR
    clear hc a1 a2 e1 l1
    go_enter Try.func101, Try.ntmps101
    go_wp2_with fail
    (have X0 := ((RB2.mk1 w  (.int .i64 m) (.slice o t.length c) 32).1).below (w' := ((w.alloc (.cells #[.int .i64 m, .slice o t.length c] 32)).alloc (.cells #[.int .i64 m1, .slice o1 s.length c1] 32))) (by (repeat (first | exact Below.refl _ _ | (refine Below.setCell ?_ (by first | (simp; done) | (simp; omega) | omega) _) | (refine Below.alloc ?_ (by first | (simp; done) | (simp; omega) | omega) _) | (refine below_drewN ?_ _) | (refine Below.drew ?_)))) (Nat.le_refl _); have Y0 := ((RB2.mk2 w (.cells #[.int .i64 m, .slice o t.length c] 32) (.int .i64 m1) (.slice o1 s.length c1) 32).1).below (w' := ((w.alloc (.cells #[.int .i64 m, .slice o t.length c] 32)).alloc (.cells #[.int .i64 m1, .slice o1 s.length c1] 32))) (by (repeat (first | exact Below.refl _ _ | (refine Below.setCell ?_ (by first | (simp; done) | (simp; omega) | omega) _) | (refine Below.alloc ?_ (by first | (simp; done) | (simp; omega) | omega) _) | (refine below_drewN ?_ _) | (refine Below.drew ?_)))) (Nat.le_refl _); have B0 : Below w.heap.size w ((w.alloc (.cells #[.int .i64 m, .slice o t.length c] 32)).alloc (.cells #[.int .i64 m1, .slice o1 s.length c1] 32)) := (by (repeat (first | exact Below.refl _ _ | (refine Below.setCell ?_ (by first | (simp; done) | (simp; omega) | omega) _) | (refine Below.alloc ?_ (by first | (simp; done) | (simp; omega) | omega) _) | (refine below_drewN ?_ _) | (refine Below.drew ?_)))); have hv0 := hv.below (w' := ((w.alloc (.cells #[.int .i64 m, .slice o t.length c] 32)).alloc (.cells #[.int .i64 m1, .slice o1 s.length c1] 32))) (by (repeat (first | exact Below.refl _ _ | (refine Below.setCell ?_ (by first | (simp; done) | (simp; omega) | omega) _) | (refine Below.alloc ?_ (by first | (simp; done) | (simp; omega) | omega) _) | (refine below_drewN ?_ _) | (refine Below.drew ?_)))) (Nat.le_refl _); have hu0 := hu.below (w' := ((w.alloc (.cells #[.int .i64 m, .slice o t.length c] 32)).alloc (.cells #[.int .i64 m1, .slice o1 s.length c1] 32))) (by (repeat (first | exact Below.refl _ _ | (refine Below.setCell ?_ (by first | (simp; done) | (simp; omega) | omega) _) | (refine Below.alloc ?_ (by first | (simp; done) | (simp; omega) | omega) _) | (refine below_drewN ?_ _) | (refine Below.drew ?_)))) (Nat.le_refl _); generalize (w.alloc (.cells #[.int .i64 m, .slice o t.length c] 32)).alloc (.cells #[.int .i64 m1, .slice o1 s.length c1] 32) = w0 at X0 Y0 B0 hv0 hu0 ⊢)
    (obtain ⟨gqX0, gqX1⟩ := id X0; obtain ⟨gqY0, gqY1⟩ := id Y0; go_wp2_with fail; refine (bothLaws_c m m1 _ _ t s _ hv0 hu0).mono ?_; rw [HC.out]; rintro e w1 ⟨rfl, hb⟩; (have X1 := X0.below hb (Nat.le_refl _); have Y1 := Y0.below hb (Nat.le_refl _); have B1 := B0.trans (hb.mono B0.size)); clear gqX0 gqX1 gqY0 gqY1; clear hb)
    obtain ⟨x0, x1⟩ := id X1
    cases hlb : largeB m k 1
    · rw [hlb] at HR HL
      have hq : ¬ 20000 < cntAt m 20000 k 1 := by simpa using HL.out
      go_wp2_with (go_at_call 155; refine (countAtMost_c m _ 20000 k _ rfl hk (by omega) (by omega) (by omega) (by omega)).mono ?_; rintro e w' ⟨rfl, rfl⟩)
      go_ret
      exact ⟨by rw [HR.out]; rfl, B1⟩
    · rw [hlb] at HR HL
      have hq : 20000 < cntAt m 20000 k 1 := by simpa using HL.out
      go_wp2_with (go_at_call 155; refine (countAtMost_c m _ 20000 k _ rfl hk (by omega) (by omega) (by omega) (by omega)).mono ?_; rintro e w' ⟨rfl, rfl⟩)
      go_ret
      exact ⟨by rw [HR.out]; rfl, B1⟩
  · rw [if_neg hc] at HR
    obtain ⟨cc, hcc0⟩ : ∃ cc, twoL m t m1 s = cc := ⟨_, rfl⟩
    rw [hcc0] at hc HR
    have HC := Lib.hid hcc0
    clear hcc0
    have hcc : (cc != 0) = true := by simpa using hc
    clear hc
    go_enter Try.func101, Try.ntmps101
    go_wp2_with fail
    (have X0 := ((RB2.mk1 w  (.int .i64 m) (.slice o t.length c) 32).1).below (w' := ((w.alloc (.cells #[.int .i64 m, .slice o t.length c] 32)).alloc (.cells #[.int .i64 m1, .slice o1 s.length c1] 32))) (by (repeat (first | exact Below.refl _ _ | (refine Below.setCell ?_ (by first | (simp; done) | (simp; omega) | omega) _) | (refine Below.alloc ?_ (by first | (simp; done) | (simp; omega) | omega) _) | (refine below_drewN ?_ _) | (refine Below.drew ?_)))) (Nat.le_refl _); have Y0 := ((RB2.mk2 w (.cells #[.int .i64 m, .slice o t.length c] 32) (.int .i64 m1) (.slice o1 s.length c1) 32).1).below (w' := ((w.alloc (.cells #[.int .i64 m, .slice o t.length c] 32)).alloc (.cells #[.int .i64 m1, .slice o1 s.length c1] 32))) (by (repeat (first | exact Below.refl _ _ | (refine Below.setCell ?_ (by first | (simp; done) | (simp; omega) | omega) _) | (refine Below.alloc ?_ (by first | (simp; done) | (simp; omega) | omega) _) | (refine below_drewN ?_ _) | (refine Below.drew ?_)))) (Nat.le_refl _); have B0 : Below w.heap.size w ((w.alloc (.cells #[.int .i64 m, .slice o t.length c] 32)).alloc (.cells #[.int .i64 m1, .slice o1 s.length c1] 32)) := (by (repeat (first | exact Below.refl _ _ | (refine Below.setCell ?_ (by first | (simp; done) | (simp; omega) | omega) _) | (refine Below.alloc ?_ (by first | (simp; done) | (simp; omega) | omega) _) | (refine below_drewN ?_ _) | (refine Below.drew ?_)))); have hv0 := hv.below (w' := ((w.alloc (.cells #[.int .i64 m, .slice o t.length c] 32)).alloc (.cells #[.int .i64 m1, .slice o1 s.length c1] 32))) (by (repeat (first | exact Below.refl _ _ | (refine Below.setCell ?_ (by first | (simp; done) | (simp; omega) | omega) _) | (refine Below.alloc ?_ (by first | (simp; done) | (simp; omega) | omega) _) | (refine below_drewN ?_ _) | (refine Below.drew ?_)))) (Nat.le_refl _); have hu0 := hu.below (w' := ((w.alloc (.cells #[.int .i64 m, .slice o t.length c] 32)).alloc (.cells #[.int .i64 m1, .slice o1 s.length c1] 32))) (by (repeat (first | exact Below.refl _ _ | (refine Below.setCell ?_ (by first | (simp; done) | (simp; omega) | omega) _) | (refine Below.alloc ?_ (by first | (simp; done) | (simp; omega) | omega) _) | (refine below_drewN ?_ _) | (refine Below.drew ?_)))) (Nat.le_refl _); generalize (w.alloc (.cells #[.int .i64 m, .slice o t.length c] 32)).alloc (.cells #[.int .i64 m1, .slice o1 s.length c1] 32) = w0 at X0 Y0 B0 hv0 hu0 ⊢)
    (obtain ⟨gqX0, gqX1⟩ := id X0; obtain ⟨gqY0, gqY1⟩ := id Y0; go_wp2_with fail; refine (bothLaws_c m m1 _ _ t s _ hv0 hu0).mono ?_; rw [HC.out]; rintro e w1 ⟨rfl, hb⟩; (have X1 := X0.below hb (Nat.le_refl _); have Y1 := Y0.below hb (Nat.le_refl _); have B1 := B0.trans (hb.mono B0.size)); clear gqX0 gqX1 gqY0 gqY1; clear hb)
    go_wp2
    go_ret
    exact ⟨by rw [HR.out]; rfl, B1⟩

end Go.Proofs.Ytdnkadlondediaa
