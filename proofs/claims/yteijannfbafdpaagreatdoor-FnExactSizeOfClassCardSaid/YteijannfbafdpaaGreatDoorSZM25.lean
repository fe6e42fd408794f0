/- Lemmas. -/
import Derived.Test.YteijannfbafdpaaGreatDoorSZM20
import Derived.Test.YteijannfbafdpaaGreatDoorSZG5
import Derived.Test.YteijannfbafdpaaGreatDoorSZM24
import Derived.Test.YteijannfbafdpaaGreatDoorSZM18
import Derived.Test.YteijannfbafdpaaGreatDoorSZM11
set_option linter.unusedSimpArgs false
set_option linter.unusedVariables false
namespace Go.Proofs.YteijannfbafdpaaGreatDoor
open Go.RowKit

def cntAt (m most : Int) : Nat → Int → Int
  | 0, a => a
  | k + 1, a => if most / m < a then most + 1 else cntAt m most k (a * m)
theorem cnt_large {m most : Int} (hm : 1 ≤ m) : ∀ (k : Nat) (a : Int), 0 ≤ a → a ≤ most → (decide (most < cntAt m most k a)) = (match k with | 0 => false | _ => decide (most < a * m ^ k))
  | 0, a, h0, h1 => decide_eq_false (show ¬ most < a by omega)
  | k + 1, a, h0, h1 => by
    have hq : most / m < a ↔ most < a * m := Int.ediv_lt_iff_lt_mul (by omega)
    have hp : (1 : Int) ≤ m ^ k := pow_pos' hm k
    unfold cntAt
    by_cases h : most / m < a
    · rw [if_pos h]
      have h2 := hq.1 h
      have h3 : a * m ≤ a * m ^ (k + 1) := by
        rw [Int.pow_succ, Int.mul_comm (m ^ k), ← Int.mul_assoc]
        have := Int.mul_le_mul_of_nonneg_left hp (show 0 ≤ a * m by omega)
        rwa [Int.mul_one] at this
      simp; omega
    · rw [if_neg h]
      have h2 : a * m ≤ most := by
        have := mt hq.2 h; omega
      have h4 : 0 ≤ a * m := Int.mul_nonneg h0 (by omega)
      rw [cnt_large hm k (a * m) h4 h2]
      have e : a * m * m ^ k = a * m ^ (k + 1) := by rw [Int.pow_succ, Int.mul_comm (m ^ k), ← Int.mul_assoc]
      cases k with
      | zero =>
        have e1 : a * m ^ (0 + 1) = a * m := by rw [Int.pow_succ, Int.pow_zero, Int.one_mul]
        simp only [e1]
        simp; omega
      | succ k => simp only [e]
set_option maxHeartbeats 400000 in
set_option maxRecDepth 100000 in
theorem countAtMost_c (m d most : Int) (k : Nat) (w : World) (hd : d = (k : Int)) (hk : k ≤ 1000) (hm : 2 ≤ m) (hm' : m ≤ 10000) (h0 : 1 ≤ most) (h1 : most ≤ 1000000000000000000) :
    Calls Tryz.prog 57 #[.int .i64 m, .int .i64 d, .int .i64 most] w fun e w' => e = .returned (.int .i64 (cntAt m most k 1)) ∧ w = w' := by
  subst hd
  have m0 : (m == 0) = false := by simp; omega
  have m1 : ¬ m = 0 := by omega
  have hq0 : most.tdiv m = most / m := Int.tdiv_eq_ediv_of_nonneg (by omega)
  have hq1 : 0 ≤ most / m := Int.ediv_nonneg (by omega) (by omega)
  have hq2 : most / m ≤ most := Int.ediv_le_self _ (by omega)
  have hq3 := IntWalk.i64_in (most / m) (by omega)
  have hq4 : IntKind.i64.wrap (most + 1) = most + 1 := IntWalk.i64_in _ (by omega)
  go_enter Tryz.func57, Tryz.ntmps57
  go_wp2
  go_loop [7, 9] (fun a i => ∃ (j : Nat) (x : Int), j ≤ k ∧ i = .int .i64 j ∧ a = .int .i64 x ∧ 0 ≤ x ∧ x ≤ most ∧ cntAt m most (k - j) x = cntAt m most k 1) (fun _ i => k - (intOf i).toNat)
  case atStart => exact ⟨0, 1, Nat.zero_le _, rfl, rfl, by omega, by omega, rfl⟩
  case round =>
    obtain ⟨j, x, hj, rfl, rfl, hx0, hx1, hR⟩ := hrel
    by_cases hlt : j < k
    · have i0 : (j : Int) < (k : Int) := by omega
      rw [show k - j = (k - (j + 1)) + 1 by omega] at hR
      have hq : most / m < x ↔ most < x * m := Int.ediv_lt_iff_lt_mul (by omega)
      by_cases hl : most / m < x
      · have HR := Lib.hid (show cntAt m most k 1 = most + 1 by rw [← hR]; unfold cntAt; rw [if_pos hl])
        clear hR
        go_wp2
        go_ret
        exact ⟨by rw [HR.out]; rfl, rfl⟩
      · have hxm : x * m ≤ most := by have := mt hq.2 hl; omega
        have hxm0 : 0 ≤ x * m := Int.mul_nonneg hx0 (by omega)
        have HR := Lib.hid (show cntAt m most (k - (j + 1)) (x * m) = cntAt m most k 1 by rw [← hR]; conv => rhs; unfold cntAt; rw [if_neg hl])
        have e1 : IntKind.i64.wrap (x * m) = x * m := IntWalk.i64_in _ (by omega)
        clear hR
        go_wp2
        exact ⟨⟨j + 1, x * m, by omega, by go_num, rfl, hxm0, hxm, HR.out⟩, by simp [intOf]; omega⟩
    · obtain rfl : j = k := by omega
      have HR := Lib.hid (show cntAt m most j 1 = x by rw [← hR, Nat.sub_self]; rfl)
      clear hR
      go_wp2
      go_ret
      exact ⟨by rw [HR.out]; rfl, rfl⟩

end Go.Proofs.YteijannfbafdpaaGreatDoor
set_option linter.unusedSimpArgs false
set_option linter.unusedVariables false
namespace Go.Proofs.YteijannfbafdpaaGreatDoor
open Go.RowKit

set_option maxHeartbeats 400000 in
theorem l03DegA_c (m : Int) (o : Option Addr) (n c : Nat) (w : World) (hn : n ≤ maxLen) :
    Calls Tryz.prog 11 #[.agg #[.int .i64 m, .slice o n c]] w fun e w' => e = .returned (.int .i64 ((n : Int) - 1)) ∧ Below w.heap.size w w' := by
  unfold maxLen at hn
  go_enter Tryz.func11, Tryz.ntmps11
  go_wp2
  go_ret
  exact ⟨rfl, (by (repeat (first | exact bR _ _ | (refine bS ?_ _) | (refine bA ?_ _) | (refine bN ?_ _) | (refine bD ?_))))⟩

def cl11 (m : Int) : Nat → Int → Int
  | 0, a => a
  | k + 1, a => if 300 < a * m then 301 else cl11 m k (a * m)
theorem cl11_ok {m : Int} (hm : 1 ≤ m) : ∀ (k : Nat) (a : Int), 0 ≤ a → a ≤ 300 → cl11 m k a = if 300 < a * m ^ k then 301 else a * m ^ k
  | 0, a, h0, h1 => by
    rw [show a * m ^ 0 = a by rw [Int.pow_zero, Int.mul_one], if_neg (by omega)]; rfl
  | k + 1, a, h0, h1 => by
    have hp : (1 : Int) ≤ m ^ k := pow_pos' hm k
    have e : a * m * m ^ k = a * m ^ (k + 1) := by rw [Int.pow_succ, Int.mul_comm (m ^ k), ← Int.mul_assoc]
    have h4 : 0 ≤ a * m := Int.mul_nonneg h0 (by omega)
    unfold cl11
    by_cases h : 300 < a * m
    · rw [if_pos h]
      have h3 : a * m ≤ a * m ^ (k + 1) := by
        rw [← e]
        have := Int.mul_le_mul_of_nonneg_left hp h4
        rwa [Int.mul_one] at this
      rw [if_pos (by omega)]
    · rw [if_neg h, cl11_ok hm k (a * m) h4 (by omega), e]
theorem cl11_1 {m : Int} (hm : 1 ≤ m) (k : Nat) : cl11 m k 1 = if 300 < m ^ k then 301 else m ^ k := by
  rw [cl11_ok hm k 1 (by omega) (by omega), Int.one_mul]

set_option maxHeartbeats 400000 in
set_option maxRecDepth 100000 in
theorem l11Count_c (m d : Int) (k : Nat) (w : World) (hd : d = (k : Int) + 1) (hk : k ≤ 1000) (hm : 1 ≤ m) (hm' : m ≤ 10000) :
    Calls Tryz.prog 12 #[.int .i64 m, .int .i64 d] w fun e w' => e = .returned (.int .i64 (cl11 m k 1)) ∧ w = w' := by
  subst hd
  go_enter Tryz.func12, Tryz.ntmps12
  go_wp2
  go_loop [5, 6] (fun a i => ∃ (j : Nat) (x : Int), j ≤ k ∧ i = .int .i64 ((j : Int) + 1) ∧ a = .int .i64 x ∧ 0 ≤ x ∧ x ≤ 300 ∧ cl11 m (k - j) x = cl11 m k 1) (fun _ i => k + 1 - (intOf i).toNat)
  case atStart => exact ⟨0, 1, Nat.zero_le _, rfl, rfl, by omega, by omega, rfl⟩
  case round =>
    obtain ⟨j, x, hj, rfl, rfl, hx0, hx1, hR⟩ := hrel
    have hxm0 : 0 ≤ x * m := Int.mul_nonneg hx0 (by omega)
    have hxm1 : x * m ≤ 300 * 10000 := Int.mul_le_mul hx1 hm' (by omega) (by omega)
    have e1 : IntKind.i64.wrap (x * m) = x * m := IntWalk.i64_in _ (by omega)
    by_cases hlt : j < k
    · have i0 : (j : Int) + 1 < (k : Int) + 1 := by omega
      rw [show k - j = (k - (j + 1)) + 1 by omega] at hR
      by_cases hl : 300 < x * m
      · have HR := Lib.hid (show cl11 m k 1 = 301 by rw [← hR]; unfold cl11; rw [if_pos hl])
        clear hR
        go_wp2
        go_ret
        exact ⟨by rw [HR.out]; rfl, rfl⟩
      · have HR := Lib.hid (show cl11 m (k - (j + 1)) (x * m) = cl11 m k 1 by rw [← hR]; conv => rhs; unfold cl11; rw [if_neg hl])
        clear hR
        go_wp2
        exact ⟨⟨j + 1, x * m, by omega, by go_num, rfl, hxm0, by omega, HR.out⟩, by simp [intOf]; omega⟩
    · obtain rfl : j = k := by omega
      have HR := Lib.hid (show cl11 m j 1 = x by rw [← hR, Nat.sub_self]; rfl)
      have i0 : ¬ (j : Int) + 1 < (j : Int) + 1 := by omega
      clear hR
      go_wp2
      go_ret
      exact ⟨by rw [HR.out]; rfl, rfl⟩

set_option maxHeartbeats 400000 in
set_option maxRecDepth 100000 in
theorem l11Law_c (m : Int) (v : Value) (t : List (List Int)) (w : World) (hv : RdT w v t) :
    Calls Tryz.prog 10 #[.agg #[.int .i64 m, v]] w fun e w' => e = .returned (.int .i64 (l11R m t)) ∧ Below w.heap.size w w' := by
  obtain ⟨o, c, rfl, hmt, -⟩ := id hv
  have hml := hmt.1
  clear hmt
  cases hl : lawB m t
  · have HR := Lib.hid (show l11R m t = 1 by unfold l11R; rw [hl]; rfl)
    go_enter Tryz.func10, Tryz.ntmps10
    go_wp2_with fail
    (obtain ⟨w0, hw0⟩ : ∃ W : World, W = (w.alloc (.cells #[.int .i64 m, .slice o t.length c] 28)) := ⟨_, rfl⟩; have X0 := (RB2.mk1 w  (.int .i64 m) (.slice o t.length c) 28).1.below (w' := w0) (by rw [hw0]; (repeat (first | exact bR _ _ | (refine bS ?_ _) | (refine bA ?_ _) | (refine bN ?_ _) | (refine bD ?_)))) (Nat.le_refl _); have B0 : Below w.heap.size w w0 := (by rw [hw0]; (repeat (first | exact bR _ _ | (refine bS ?_ _) | (refine bA ?_ _) | (refine bN ?_ _) | (refine bD ?_)))); have hv0 := hv.below (w' := w0) (by rw [hw0]; (repeat (first | exact bR _ _ | (refine bS ?_ _) | (refine bA ?_ _) | (refine bN ?_ _) | (refine bD ?_)))) (Nat.le_refl _); rw [← hw0]; clear hw0)
    (obtain ⟨gqX0, gqX1⟩ := id X0; go_wp2_with fail; refine (l04Is_c m _ t _ hv0).mono ?_; rw [hl]; rintro e w1 ⟨rfl, hb⟩; (have X1 := X0.below hb (Nat.le_refl _); have B1 := B0.trans (hb.mono B0.size)); clear gqX0 gqX1; clear hb)
    go_wp2
    go_ret
    exact ⟨by rw [HR.out]; rfl, B1⟩
  · have hp := (lawB_t hl).1
    have hm := pla_m hp
    have hn := pla_n hp
    by_cases h2 : t.length = 2
    · have HR := Lib.hid (show l11R m t = 5 by unfold l11R; rw [hl, if_pos rfl, if_pos h2])
      have hq : ((t.length : Int) == 2) = true := by simp; omega
      clear h2
      go_enter Tryz.func10, Tryz.ntmps10
      go_wp2_with fail
      (obtain ⟨w0, hw0⟩ : ∃ W : World, W = (w.alloc (.cells #[.int .i64 m, .slice o t.length c] 28)) := ⟨_, rfl⟩; have X0 := (RB2.mk1 w  (.int .i64 m) (.slice o t.length c) 28).1.below (w' := w0) (by rw [hw0]; (repeat (first | exact bR _ _ | (refine bS ?_ _) | (refine bA ?_ _) | (refine bN ?_ _) | (refine bD ?_)))) (Nat.le_refl _); have B0 : Below w.heap.size w w0 := (by rw [hw0]; (repeat (first | exact bR _ _ | (refine bS ?_ _) | (refine bA ?_ _) | (refine bN ?_ _) | (refine bD ?_)))); have hv0 := hv.below (w' := w0) (by rw [hw0]; (repeat (first | exact bR _ _ | (refine bS ?_ _) | (refine bA ?_ _) | (refine bN ?_ _) | (refine bD ?_)))) (Nat.le_refl _); rw [← hw0]; clear hw0)
      (obtain ⟨gqX0, gqX1⟩ := id X0; go_wp2_with fail; refine (l04Is_c m _ t _ hv0).mono ?_; rw [hl]; rintro e w1 ⟨rfl, hb⟩; (have X1 := X0.below hb (Nat.le_refl _); have B1 := B0.trans (hb.mono B0.size)); clear gqX0 gqX1; clear hb)
      obtain ⟨x0, x1⟩ := id X1
      go_wp2
      go_ret
      exact ⟨by rw [HR.out]; rfl, B1⟩
    · have hq : ((t.length : Int) == 2) = false := by simp; omega
      have HR := Lib.hid (show l11R m t = if 300 < m ^ (t.length - 2) then 3 else 0 by unfold l11R; rw [hl, if_pos rfl, if_neg h2])
      have HC := Lib.hid (cl11_1 (m := m) (by omega) (t.length - 2))
      clear h2
      by_cases h3 : 300 < m ^ (t.length - 2)
      · rw [if_pos h3] at HR HC
        clear h3
        go_enter Tryz.func10, Tryz.ntmps10
        go_wp2_with fail
        (obtain ⟨w0, hw0⟩ : ∃ W : World, W = (w.alloc (.cells #[.int .i64 m, .slice o t.length c] 28)) := ⟨_, rfl⟩; have X0 := (RB2.mk1 w  (.int .i64 m) (.slice o t.length c) 28).1.below (w' := w0) (by rw [hw0]; (repeat (first | exact bR _ _ | (refine bS ?_ _) | (refine bA ?_ _) | (refine bN ?_ _) | (refine bD ?_)))) (Nat.le_refl _); have B0 : Below w.heap.size w w0 := (by rw [hw0]; (repeat (first | exact bR _ _ | (refine bS ?_ _) | (refine bA ?_ _) | (refine bN ?_ _) | (refine bD ?_)))); have hv0 := hv.below (w' := w0) (by rw [hw0]; (repeat (first | exact bR _ _ | (refine bS ?_ _) | (refine bA ?_ _) | (refine bN ?_ _) | (refine bD ?_)))) (Nat.le_refl _); rw [← hw0]; clear hw0)
        (obtain ⟨gqX0, gqX1⟩ := id X0; go_wp2_with fail; refine (l04Is_c m _ t _ hv0).mono ?_; rw [hl]; rintro e w1 ⟨rfl, hb⟩; (have X1 := X0.below hb (Nat.le_refl _); have B1 := B0.trans (hb.mono B0.size)); clear gqX0 gqX1; clear hb)
        obtain ⟨x0, x1⟩ := id X1
        have hX := X1
        go_wp2_with fail
        have hd0 : Below w1.heap.size w1 w1.drew := (Below.refl _ _).drew
        have hsd0 := hd0.size
        obtain ⟨f0_a, f0_b⟩ := ((hX).below (Below.refl w1.heap.size w1) (Nat.le_refl _))
        refine wp_region_K (S := fun w' => w'.cell? ⟨w.heap.size, 0, none⟩ = some (.int .i64 m) ∧ w'.cell? ⟨w.heap.size, 1, none⟩ = some (.slice o t.length c)) [] (by kernel_rfl) ?_
        have hHeld : (fun w' : World => w'.cell? ⟨w.heap.size, 0, none⟩ = some (.int .i64 m) ∧ w'.cell? ⟨w.heap.size, 1, none⟩ = some (.slice o t.length c)) w1.drew := by go_keep
        refine' wpAnyK_takeL (i := 0) (v := _) rfl (by kernel_rfl) (by kernel_rfl) (by kernel_rfl) (by kernel_rfl) (fun _ _ _ h => h) (Or.inl ⟨by rfl, ?yT1⟩) hHeld ?rT1
        case yT1 => (intro w' hSw; (try dsimp only at hSw); go_simp; try with_reducible rfl)
        try simp only [List.getElem_toArray, List.getElem_cons_zero, List.getElem_cons_succ, Act.put, List.setIfInBounds_toArray, List.set_cons_zero, List.set_cons_succ]
        refine' wpAnyK_takeL (i := 1) (v := _) rfl (by kernel_rfl) (by kernel_rfl) (by kernel_rfl) (by kernel_rfl) (fun _ _ _ h => h) (Or.inl ⟨by rfl, ?yT2⟩) hHeld ?rT2
        case yT2 => (intro w' hSw; (try dsimp only at hSw); go_simp; try with_reducible rfl)
        try simp only [List.getElem_toArray, List.getElem_cons_zero, List.getElem_cons_succ, Act.put, List.setIfInBounds_toArray, List.set_cons_zero, List.set_cons_succ]
        refine' wpAnyK_takeL (i := 2) (v := _) rfl (by kernel_rfl) (by kernel_rfl) (by kernel_rfl) (by kernel_rfl) (fun _ _ _ h => h) (Or.inl ⟨by rfl, ?yT3⟩) hHeld ?rT3
        case yT3 => (intro w' hSw; (try dsimp only at hSw); go_simp; try with_reducible rfl)
        try simp only [List.getElem_toArray, List.getElem_cons_zero, List.getElem_cons_succ, Act.put, List.setIfInBounds_toArray, List.set_cons_zero, List.set_cons_succ]
        refine wpAnyK_oneL (i := 3) rfl (by kernel_rfl) (fun K hK => ?_)
        go_simp
        go_at_call 11
        refine (l03DegA_c m o t.length c _ hml).mono ?_
        rintro e wd1 ⟨rfl, hbd1⟩
        have hd1 : Below w1.heap.size w1 wd1 := (by (repeat (first | exact bR _ _ | (refine bS ?_ _) | (refine bA ?_ _) | (refine bN ?_ _) | (refine bD ?_) | (refine bT ?_ hbd1))))
        have hsd1 := hd1.size
        have hsz1_ := hbd1.size
        (try simp at hsz1_)
        obtain ⟨f1_a, f1_b⟩ := ((hX).below hd1 (Nat.le_refl _))
        go_wp2_with fail
        clear hHeld
        have hHeld : (fun w' : World => w'.cell? ⟨w.heap.size, 0, none⟩ = some (.int .i64 m) ∧ w'.cell? ⟨w.heap.size, 1, none⟩ = some (.slice o t.length c)) wd1 := by go_keep
        refine hK.out _ _ (fun _ => hHeld) ?_
        clear hK K
        try simp only [List.getElem_toArray, List.getElem_cons_zero, List.getElem_cons_succ, Act.put, List.setIfInBounds_toArray, List.set_cons_zero, List.set_cons_succ]
        refine wpAnyK_oneL (i := 4) rfl (by kernel_rfl) (fun K hK => ?_)
        go_simp
        go_at_call 12
        refine (l11Count_c m _ (t.length - 2) _ (by omega) (by omega) (by omega) (by omega)).mono ?_
        rintro e w' ⟨rfl, rfl⟩
        rw [HC.out]
        go_wp2_with fail
        refine hK.out _ _ (fun _ => hHeld) ?_
        clear hK K
        try simp only [List.getElem_toArray, List.getElem_cons_zero, List.getElem_cons_succ, Act.put, List.setIfInBounds_toArray, List.set_cons_zero, List.set_cons_succ]
        refine' wpAnyK_takeL (i := 5) (v := _) rfl (by kernel_rfl) (by kernel_rfl) (by kernel_rfl) (by kernel_rfl) (fun _ _ _ h => h) (Or.inl ⟨by rfl, ?yT4⟩) hHeld ?rT4
        case yT4 => (intro w' hSw; (try dsimp only at hSw); go_simp; try with_reducible rfl)
        try simp only [List.getElem_toArray, List.getElem_cons_zero, List.getElem_cons_succ, Act.put, List.setIfInBounds_toArray, List.set_cons_zero, List.set_cons_succ]
        refine wpAnyK_oneL (i := 6) rfl (by kernel_rfl) (fun K hK => ?_)
        go_simp
        (try go_wp2_with fail)
        refine hK.out _ _ (fun _ => hHeld) ?_
        clear hK K
        try simp only [List.getElem_toArray, List.getElem_cons_zero, List.getElem_cons_succ, Act.put, List.setIfInBounds_toArray, List.set_cons_zero, List.set_cons_succ]
        refine wpAnyK_done (by kernel_rfl) ?_ _
        go_wp2
        go_ret
        exact ⟨by rw [HR.out]; rfl, B1.trans (hd1.mono B1.size)⟩
      · rw [if_neg h3] at HR HC
        go_enter Tryz.func10, Tryz.ntmps10
        go_wp2_with fail
        (obtain ⟨w0, hw0⟩ : ∃ W : World, W = (w.alloc (.cells #[.int .i64 m, .slice o t.length c] 28)) := ⟨_, rfl⟩; have X0 := (RB2.mk1 w  (.int .i64 m) (.slice o t.length c) 28).1.below (w' := w0) (by rw [hw0]; (repeat (first | exact bR _ _ | (refine bS ?_ _) | (refine bA ?_ _) | (refine bN ?_ _) | (refine bD ?_)))) (Nat.le_refl _); have B0 : Below w.heap.size w w0 := (by rw [hw0]; (repeat (first | exact bR _ _ | (refine bS ?_ _) | (refine bA ?_ _) | (refine bN ?_ _) | (refine bD ?_)))); have hv0 := hv.below (w' := w0) (by rw [hw0]; (repeat (first | exact bR _ _ | (refine bS ?_ _) | (refine bA ?_ _) | (refine bN ?_ _) | (refine bD ?_)))) (Nat.le_refl _); rw [← hw0]; clear hw0)
        (obtain ⟨gqX0, gqX1⟩ := id X0; go_wp2_with fail; refine (l04Is_c m _ t _ hv0).mono ?_; rw [hl]; rintro e w1 ⟨rfl, hb⟩; (have X1 := X0.below hb (Nat.le_refl _); have B1 := B0.trans (hb.mono B0.size)); clear gqX0 gqX1; clear hb)
        obtain ⟨x0, x1⟩ := id X1
        have hX := X1
        go_wp2_with fail
        have hd0 : Below w1.heap.size w1 w1.drew := (Below.refl _ _).drew
        have hsd0 := hd0.size
        obtain ⟨f0_a, f0_b⟩ := ((hX).below (Below.refl w1.heap.size w1) (Nat.le_refl _))
        refine wp_region_K (S := fun w' => w'.cell? ⟨w.heap.size, 0, none⟩ = some (.int .i64 m) ∧ w'.cell? ⟨w.heap.size, 1, none⟩ = some (.slice o t.length c)) [] (by kernel_rfl) ?_
        have hHeld : (fun w' : World => w'.cell? ⟨w.heap.size, 0, none⟩ = some (.int .i64 m) ∧ w'.cell? ⟨w.heap.size, 1, none⟩ = some (.slice o t.length c)) w1.drew := by go_keep
        refine' wpAnyK_takeL (i := 0) (v := _) rfl (by kernel_rfl) (by kernel_rfl) (by kernel_rfl) (by kernel_rfl) (fun _ _ _ h => h) (Or.inl ⟨by rfl, ?yT5⟩) hHeld ?rT5
        case yT5 => (intro w' hSw; (try dsimp only at hSw); go_simp; try with_reducible rfl)
        try simp only [List.getElem_toArray, List.getElem_cons_zero, List.getElem_cons_succ, Act.put, List.setIfInBounds_toArray, List.set_cons_zero, List.set_cons_succ]
        refine' wpAnyK_takeL (i := 1) (v := _) rfl (by kernel_rfl) (by kernel_rfl) (by kernel_rfl) (by kernel_rfl) (fun _ _ _ h => h) (Or.inl ⟨by rfl, ?yT6⟩) hHeld ?rT6
        case yT6 => (intro w' hSw; (try dsimp only at hSw); go_simp; try with_reducible rfl)
        try simp only [List.getElem_toArray, List.getElem_cons_zero, List.getElem_cons_succ, Act.put, List.setIfInBounds_toArray, List.set_cons_zero, List.set_cons_succ]
        refine' wpAnyK_takeL (i := 2) (v := _) rfl (by kernel_rfl) (by kernel_rfl) (by kernel_rfl) (by kernel_rfl) (fun _ _ _ h => h) (Or.inl ⟨by rfl, ?yT7⟩) hHeld ?rT7
        case yT7 => (intro w' hSw; (try dsimp only at hSw); go_simp; try with_reducible rfl)
        try simp only [List.getElem_toArray, List.getElem_cons_zero, List.getElem_cons_succ, Act.put, List.setIfInBounds_toArray, List.set_cons_zero, List.set_cons_succ]
        refine wpAnyK_oneL (i := 3) rfl (by kernel_rfl) (fun K hK => ?_)
        go_simp
        go_at_call 11
        refine (l03DegA_c m o t.length c _ hml).mono ?_
        rintro e wd1 ⟨rfl, hbd1⟩
        have hd1 : Below w1.heap.size w1 wd1 := (by (repeat (first | exact bR _ _ | (refine bS ?_ _) | (refine bA ?_ _) | (refine bN ?_ _) | (refine bD ?_) | (refine bT ?_ hbd1))))
        have hsd1 := hd1.size
        have hsz1_ := hbd1.size
        (try simp at hsz1_)
        obtain ⟨f1_a, f1_b⟩ := ((hX).below hd1 (Nat.le_refl _))
        go_wp2_with fail
        clear hHeld
        have hHeld : (fun w' : World => w'.cell? ⟨w.heap.size, 0, none⟩ = some (.int .i64 m) ∧ w'.cell? ⟨w.heap.size, 1, none⟩ = some (.slice o t.length c)) wd1 := by go_keep
        refine hK.out _ _ (fun _ => hHeld) ?_
        clear hK K
        try simp only [List.getElem_toArray, List.getElem_cons_zero, List.getElem_cons_succ, Act.put, List.setIfInBounds_toArray, List.set_cons_zero, List.set_cons_succ]
        refine wpAnyK_oneL (i := 4) rfl (by kernel_rfl) (fun K hK => ?_)
        go_simp
        go_at_call 12
        refine (l11Count_c m _ (t.length - 2) _ (by omega) (by omega) (by omega) (by omega)).mono ?_
        rintro e w' ⟨rfl, rfl⟩
        rw [HC.out]
        go_wp2_with fail
        refine hK.out _ _ (fun _ => hHeld) ?_
        clear hK K
        try simp only [List.getElem_toArray, List.getElem_cons_zero, List.getElem_cons_succ, Act.put, List.setIfInBounds_toArray, List.set_cons_zero, List.set_cons_succ]
        refine' wpAnyK_takeL (i := 5) (v := _) rfl (by kernel_rfl) (by kernel_rfl) (by kernel_rfl) (by kernel_rfl) (fun _ _ _ h => h) (Or.inl ⟨by rfl, ?yT8⟩) hHeld ?rT8
        case yT8 => (intro w' hSw; (try dsimp only at hSw); go_simp; try with_reducible rfl)
        try simp only [List.getElem_toArray, List.getElem_cons_zero, List.getElem_cons_succ, Act.put, List.setIfInBounds_toArray, List.set_cons_zero, List.set_cons_succ]
        refine wpAnyK_oneL (i := 6) rfl (by kernel_rfl) (fun K hK => ?_)
        go_simp
        (try go_wp2_with fail)
        refine hK.out _ _ (fun _ => hHeld) ?_
        clear hK K
        try simp only [List.getElem_toArray, List.getElem_cons_zero, List.getElem_cons_succ, Act.put, List.setIfInBounds_toArray, List.set_cons_zero, List.set_cons_succ]
        refine wpAnyK_done (by kernel_rfl) ?_ _
        go_wp2
        go_ret
        exact ⟨by rw [HR.out]; rfl, B1.trans (hd1.mono B1.size)⟩

theorem set_rep {r : Nat} {tl : List Int} {x : Int} : (List.replicate (r + 1) (0 : Int) ++ tl).set r x = List.replicate r 0 ++ x :: tl := by
  rw [List.replicate_succ', List.append_assoc, List.set_append_right _ _ (by simp)]
  simp

set_option maxHeartbeats 400000 in
set_option maxRecDepth 100000 in
theorem l11List_c (m d : Int) (k j : Nat) (w : World) (hd : d = (k : Int) + 1) (hk : k ≤ 1000) (hm : 2 ≤ m) (hm' : m ≤ 10000) (hj : j ≤ 1000000) :
    Calls Tryz.prog 22 #[.int .i64 m, .int .i64 d, .int .i64 (j : Int)] w fun e w' => ∃ v', e = .returned v' ∧ OwI w' w.heap.size v' (digs m.toNat k j) ∧ Below w.heap.size w w' := by
  subst hd
  have m0 : (m == 0) = false := by simp; omega
  have m1 : ¬ m = 0 := by omega
  have hmn : ((m.toNat : Nat) : Int) = m := by omega
  have e0 : IntKind.i64.wrap ((k : Int) + 1 - 1) = (k : Int) := by rw [IntWalk.i64_in _ (by omega)]; omega
  have e1 : IntKind.i64.wrap ((k : Int) + 1 - 2) = (k : Int) - 1 := by rw [IntWalk.i64_in _ (by omega)]; omega
  go_enter Tryz.func22, Tryz.ntmps22
  go_wp2_with (at_make; refine mkI _ rfl _ _ rfl _ _ _ k rfl rfl (by omega) (by omega) ?_; intro w1 hown hb hs1)
  have hz : w.heap.size < w1.heap.size := by omega
  go_loopw [2, 8] (fun nn i wr => ∃ (r N : Nat) (tl : List Int), r ≤ k ∧ i = .int .i64 ((r : Int) - 1) ∧ nn = .int .i64 (N : Int) ∧ N ≤ 1000000 ∧ Hid (digs m.toNat k j = digs m.toNat r N ++ tl) ∧ OwI wr w.heap.size (.slice (some ⟨w.heap.size, 0, none⟩) k k) (List.replicate r 0 ++ tl) ∧ Below w.heap.size w wr) (fun _ i _ => ((intOf i) + 1).toNat)
  case atStart => exact ⟨k, j, [], Nat.le_refl _, rfl, rfl, hj, Lib.hid (by simp), by simpa using hown, hb⟩
  case round =>
    obtain ⟨r, N, tl, hr, rfl, rfl, hN, HD, hO, hB⟩ := hrel
    by_cases h0 : r = 0
    · subst h0
      have i0 : ¬ (0 : Int) ≤ ((0 : Nat) : Int) - 1 := by omega
      have hD := HD.out
      have hO2 : OwI wr w.heap.size (.slice (some ⟨w.heap.size, 0, none⟩) k k) (digs m.toNat k j) := by rw [hD]; simpa [digs] using hO
      clear hD hO
      go_wp2
      go_ret
      exact ⟨_, rfl, hO2, hB⟩
    · obtain ⟨q, rfl⟩ : ∃ q, r = q + 1 := ⟨r - 1, by omega⟩
      obtain ⟨P, hPd⟩ : ∃ P, N % m.toNat = P := ⟨_, rfl⟩
      obtain ⟨D, hDd⟩ : ∃ D, N / m.toNat = D := ⟨_, rfl⟩
      have hq1 : (N : Int).tmod m = (P : Int) := by
        rw [Int.tmod_eq_emod_of_nonneg (by omega), ← hmn, ← hPd]; simp
      have hq2 : (N : Int).tdiv m = (D : Int) := by
        rw [Int.tdiv_eq_ediv_of_nonneg (by omega), ← hmn, ← hDd]; simp
      have hq3 : D ≤ N := by rw [← hDd]; exact Nat.div_le_self _ _
      have hq5 : P ≤ N := by rw [← hPd]; exact Nat.mod_le _ _
      have hq4 : IntKind.i64.wrap (D : Int) = (D : Int) := IntWalk.i64_in _ (by omega)
      have hq6 : IntKind.i64.wrap (P : Int) = (P : Int) := IntWalk.i64_in _ (by omega)
      have i0 : (0 : Int) ≤ ((q + 1 : Nat) : Int) - 1 := by omega
      have i1 : ((q + 1 : Nat) : Int) - 1 < (k : Int) := by omega
      have i2 : (((q + 1 : Nat) : Int) - 1).toNat = q := by omega
      have hc := hO.cell (k := q) (x := 0) (by rw [List.getElem?_append_left (by simp)]; simp)
      have hf := hO.fz q
      have hP := hO.put q (P : Int)
      rw [set_rep] at hP
      have HD2 := Lib.hid (show digs m.toNat k j = digs m.toNat q D ++ (P : Int) :: tl by rw [HD.out, digs, hPd, hDd]; simp)
      clear HD hO hPd hDd
      go_wp2
      exact ⟨⟨q, D, _, by omega, by go_num, rfl, by omega, HD2, hP, below_put hB (Nat.le_refl _) _⟩, by simp [intOf]⟩

end Go.Proofs.YteijannfbafdpaaGreatDoor
set_option linter.unusedSimpArgs false
set_option linter.unusedVariables false
namespace Go.Proofs.YteijannfbafdpaaGreatDoor
open Go.RowKit

theorem sum_mrk (K : Nat) (f : Nat → Nat) (n : Nat) : ∀ k, 0 ≤ sumN k (at0 (mrk K f n)) ∧ sumN k (at0 (mrk K f n)) ≤ (k : Int)
  | 0 => ⟨Int.le_refl _, Int.le_refl _⟩
  | k + 1 => by
    have ih := sum_mrk K f n k
    have h := mrk_range K f n k
    show 0 ≤ sumN k _ + at0 (mrk K f n) k ∧ sumN k _ + at0 (mrk K f n) k ≤ ((k + 1 : Nat) : Int)
    omega

set_option maxHeartbeats 4000000 in
set_option maxRecDepth 100000 in
theorem l11Mark_c (m d : Int) (n K g cz B : Nat) (vA vt : Value) (A : List (List (List Int))) (t : List (List Int)) (w : World) (hd : d = ((n - 2 : Nat) : Int) + 1) (h2 : 3 ≤ n) (hn : n ≤ 11) (hm : 2 ≤ m) (hm' : m ≤ 10000) (hK : Hid (cl11 m (n - 2) 1 = (K : Int))) (hK3 : K ≤ 300) (hAl : A.length = K)
    (hA : Rdf 0 [g] w (fun x => RdLT x vA A)) (ht : Rdf 0 [g] w (fun x => RdT x vt t)) (hP : PlaT m n t) (hO : OwI w B (.slice (some ⟨g, 0, none⟩) K cz) (mrk K (fun j => fnd A (conT m n t j)) 0)) :
    Calls Tryz.prog 13 #[.int .i64 m, .int .i64 d, vA, vt, .int .i64 1, .int .i64 1, .slice (some ⟨g, 0, none⟩) K cz] w fun e w' => e = .returned (.tuple #[]) ∧ OwI w' B (.slice (some ⟨g, 0, none⟩) K cz) (mrk K (fun j => fnd A (conT m n t j)) K) ∧ w.grownBy w' (some g) := by
  have HP := Lib.hid hP
  have HAl := Lib.hid hAl
  have hAl2 : A.length ≤ 300 := by omega
  have HD := Lib.hid hd
  clear hAl hP hd
  go_enter Tryz.func13, Tryz.ntmps13
  go_wp2_with fail
  go_loopw [14] (fun i wr => ∃ k : Nat, k ≤ K ∧ i = .int .i64 k ∧ OwI wr B (.slice (some ⟨g, 0, none⟩) K cz) (mrk K (fun j => fnd A (conT m n t j)) k) ∧ w.grownBy wr (some g)) (fun i _ => K - (intOf i).toNat)
  case atStart => exact ⟨0, Nat.zero_le _, rfl, hO, World.grownBy.refl _ _⟩
  case round =>
    clear hO
    obtain ⟨k, hk, rfl, hO, hg⟩ := hrel
    have hgs := hg.size
    have hgl := hO.lt g rfl
    have hA2 := hA.grown (S' := [g]) hg (by intro b hb; cases hb; exact .inl (by simp)) (fun s hs => .inl hs)
    have ht2 := ht.grown (S' := [g]) hg (by intro b hb; cases hb; exact .inl (by simp)) (fun s hs => .inl hs)
    go_wp2_with fail
    refine (l11Count_c m d (n - 2) _ HD.out (by omega) (by omega) (by omega)).mono ?_
    rw [hK.out]
    rintro e w' ⟨rfl, rfl⟩
    by_cases hlt : k < K
    · have i0 : (k : Int) < (K : Int) := by omega
      have hz := OwI.lit wr [0, 1] (by decide)
      have hzb : Below wr.heap.size wr (wr.alloc (.cells #[.int .i64 0, .int .i64 1] 2)) := (by (repeat (first | exact bR _ _ | (refine bS ?_ _) | (refine bA ?_ _) | (refine bN ?_ _) | (refine bD ?_))))
      have hzs := hzb.size
      go_wp2_with fail
      refine (l11List_c m d (n - 2) k _ HD.out (by omega) (by omega) (by omega) (by omega)).mono ?_
      rintro e w4 ⟨v4, rfl, ho4, hb4⟩
      obtain ⟨o4, c4, rfl⟩ := ho4.shapeN (n := n - 2) (digs_len _ _ _)
      obtain ⟨g4, rfl, hg4, hg4'⟩ := ho4.row (by omega)
      have hz4 := hz.below hb4
      have hb4s := hb4.size
      have Br4 : Below wr.heap.size wr w4 := hzb.trans (hb4.mono hzs)
      have Br4s := Br4.size
      have HRow := Lib.hid (show (([0, 1] : List Int) ++ digs m.toNat (n - 2) k).length = n by rw [List.length_append, digs_len]; simp; omega)
      have HRng := Lib.hid (show ∀ x ∈ ([0, 1] : List Int) ++ digs m.toNat (n - 2) k, 0 ≤ x ∧ x < m from fun x hx => by
        rw [List.mem_append] at hx
        rcases hx with hx | hx
        · simp at hx; omega
        · have := digs_range (m := m.toNat) (by omega) _ _ x hx; omega)
      have HCon := Lib.hid (show conT m n t k = cooT m n t (([0, 1] : List Int) ++ digs m.toNat (n - 2) k) from rfl)
      go_wp2_with (at_builtin; go_loud (refine apR w4 rfl _ _ rfl wr.heap.size (.slice (some ⟨wr.heap.size, 0, none⟩) 2 2) [0, 1] rfl hz4 ⟨g4, 0, none⟩ (n - 2) c4 (digs m.toNat (n - 2) k) rfl ho4.rd (by rw [digs_len]; simp; omega) (by omega) ?_; intro o5 c5 w5 hO5 hgr hb5; rw [HRow.out] at hO5 ⊢; have Br5 := Br4.trans hb5))
      generalize ([0, 1] : List Int) ++ digs m.toNat (n - 2) k = by1 at hO5 HRow HRng HCon
      have Br5s := Br5.size
      refine (l06Conjugate_c m n _ _ t by1 _ (ht2.below Br5).now hO5.rd HRow.out (by omega) (by omega) hm hm' HP.out HRng.out).mono ?_
      rintro e w6 ⟨v6, rfl, ho6, hb6⟩
      have Br6 := Br5.trans (hb6.mono Br5s)
      have Br6s := Br6.size
      go_wp2_with fail
      refine (l11Find_c _ _ A (cooT m n t by1) _ (hA2.below Br6).now ho6.rd (by omega)).mono ?_
      rintro e w7 ⟨rfl, d7, rfl⟩
      have Br7 : Below wr.heap.size wr (w6.drewN d7) := (by (repeat (first | exact bR _ _ | (refine bS ?_ _) | (refine bA ?_ _) | (refine bN ?_ _) | (refine bD ?_) | (refine bT ?_ Br6))))
      have hO7 := hO.below Br7
      have hq0 : fnd A (cooT m n t by1) < K := by rw [← HAl.out]; exact fnd_lt (by rw [HAl.out]; omega)
      have HSe := Lib.hid (show (mrk K (fun j => fnd A (conT m n t j)) k).set (fnd A (cooT m n t by1)) 1 = mrk K (fun j => fnd A (conT m n t j)) (k + 1) by rw [← HCon.out]; exact mrk_set K (fun j => fnd A (conT m n t j)) k)
      have HMl := Lib.hid (mrk_len K (fun j => fnd A (conT m n t j)) k)
      generalize mrk K (fun j => fnd A (conT m n t j)) k = M at hO hO7 HSe HMl
      generalize fnd A (cooT m n t by1) = q at hq0 HSe
      have i1 : (q : Int) < (K : Int) := by omega
      have hc7 := hO7.cell (k := q) (some_at0 (by rw [HMl.out]; exact hq0))
      have hf7 := hO7.fz q
      have hP7 := hO7.put q 1
      rw [HSe.out] at hP7
      have hg7 := gr_put (hg.trans (gr_of_below Br7)) q (.int .i64 1)
      go_wp2
      exact ⟨⟨k + 1, by omega, by go_num, hP7, hg7⟩, by simp [intOf]; omega⟩
    · obtain rfl : k = K := by omega
      have i0 : ¬ (k : Int) < (k : Int) := by omega
      go_wp2
      exact bodyPost_end (v := .tuple #[]) (by simp [results, Tryz.results13, go_sem]) rfl ⟨rfl, hO, hg⟩
end Go.Proofs.YteijannfbafdpaaGreatDoor
