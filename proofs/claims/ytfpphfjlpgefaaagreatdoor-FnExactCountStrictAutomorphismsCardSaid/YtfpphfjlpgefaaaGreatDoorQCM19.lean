/- Lemmas. -/
import Derived.Test.YtfpphfjlpgefaaaGreatDoorQCM18
import Derived.Test.YtfpphfjlpgefaaaGreatDoorQCG5
import Derived.Shelf.Strings.Builder1
import Derived.Shelf.Strings.Builder2
import Derived.Shelf.Strings.OnBuilder
import Derived.Shelf.Strings.Builder2Cap
import Derived.Shelf.Strconv.Itoa0
import Derived.Shelf.Strconv.Itoa1
import Derived.Shelf.LaysM
import Derived.Shelf.Strconv.Itoa2
import Derived.Shelf.Strconv.Itoa3
import Derived.Shelf.Strconv.Itoa4
import Derived.Shelf.Bits.Mul64
import Derived.Test.YtfpphfjlpgefaaaGreatDoorQCG2
set_option linter.unusedSimpArgs false
set_option linter.unusedVariables false
namespace Go.Proofs.YtfpphfjlpgefaaaGreatDoor
open Go.RowKit

set_option maxHeartbeats 400000 in
theorem l03DegA_c (m : Int) (o : Option Addr) (n c : Nat) (w : World) (hn : n ≤ maxLen) :
    Calls Tryz.prog 11 #[.agg #[.int .i64 m, .slice o n c]] w fun e w' => e = .returned (.int .i64 ((n : Int) - 1)) ∧ Below w.heap.size w w' := by
  unfold maxLen at hn
  go_enter Tryz.func11, Tryz.ntmps11
  go_wp2
  go_ret
  exact ⟨rfl, (by (repeat (first | exact bR _ _ | (refine bS ?_ _) | (refine bA ?_ _) | (refine bN ?_ _) | (refine bD ?_))))⟩

def cl11 (m : Int) : Nat → Int → Int
  | 0, a => a
  | k + 1, a => if 300 < a * m then 301 else cl11 m k (a * m)
theorem cl11_ok {m : Int} (hm : 1 ≤ m) : ∀ (k : Nat) (a : Int), 0 ≤ a → a ≤ 300 → cl11 m k a = if 300 < a * m ^ k then 301 else a * m ^ k
  | 0, a, h0, h1 => by
    rw [show a * m ^ 0 = a by rw [Int.pow_zero, Int.mul_one], if_neg (by omega)]; rfl
  | k + 1, a, h0, h1 => by
    have hp : (1 : Int) ≤ m ^ k := pow_pos' hm k
    have e : a * m * m ^ k = a * m ^ (k + 1) := by rw [Int.pow_succ, Int.mul_comm (m ^ k), ← Int.mul_assoc]
    have h4 : 0 ≤ a * m := Int.mul_nonneg h0 (by omega)
    unfold cl11
    by_cases h : 300 < a * m
    · rw [if_pos h]
      have h3 : a * m ≤ a * m ^ (k + 1) := by
        rw [← e]
        have := Int.mul_le_mul_of_nonneg_left hp h4
        rwa [Int.mul_one] at this
      rw [if_pos (by omega)]
    · rw [if_neg h, cl11_ok hm k (a * m) h4 (by omega), e]
theorem cl11_1 {m : Int} (hm : 1 ≤ m) (k : Nat) : cl11 m k 1 = if 300 < m ^ k then 301 else m ^ k := by
  rw [cl11_ok hm k 1 (by omega) (by omega), Int.one_mul]

set_option maxHeartbeats 400000 in
set_option maxRecDepth 100000 in
theorem l11Count_c (m d : Int) (k : Nat) (w : World) (hd : d = (k : Int) + 1) (hk : k ≤ 1000) (hm : 1 ≤ m) (hm' : m ≤ 10000) :
    Calls Tryz.prog 12 #[.int .i64 m, .int .i64 d] w fun e w' => e = .returned (.int .i64 (cl11 m k 1)) ∧ w = w' := by
  subst hd
  go_enter Tryz.func12, Tryz.ntmps12
  go_wp2
  go_loop [5, 6] (fun a i => ∃ (j : Nat) (x : Int), j ≤ k ∧ i = .int .i64 ((j : Int) + 1) ∧ a = .int .i64 x ∧ 0 ≤ x ∧ x ≤ 300 ∧ cl11 m (k - j) x = cl11 m k 1) (fun _ i => k + 1 - (intOf i).toNat)
  case atStart => exact ⟨0, 1, Nat.zero_le _, rfl, rfl, by omega, by omega, rfl⟩
  case round =>
    obtain ⟨j, x, hj, rfl, rfl, hx0, hx1, hR⟩ := hrel
    have hxm0 : 0 ≤ x * m := Int.mul_nonneg hx0 (by omega)
    have hxm1 : x * m ≤ 300 * 10000 := Int.mul_le_mul hx1 hm' (by omega) (by omega)
    have e1 : IntKind.i64.wrap (x * m) = x * m := IntWalk.i64_in _ (by omega)
    by_cases hlt : j < k
    · have i0 : (j : Int) + 1 < (k : Int) + 1 := by omega
      rw [show k - j = (k - (j + 1)) + 1 by omega] at hR
      by_cases hl : 300 < x * m
      · have HR := Lib.hid (show cl11 m k 1 = 301 by rw [← hR]; unfold cl11; rw [if_pos hl])
        clear hR
        go_wp2
        go_ret
        exact ⟨by rw [HR.out]; rfl, rfl⟩
      · have HR := Lib.hid (show cl11 m (k - (j + 1)) (x * m) = cl11 m k 1 by rw [← hR]; conv => rhs; unfold cl11; rw [if_neg hl])
        clear hR
        go_wp2
        exact ⟨⟨j + 1, x * m, by omega, by go_num, rfl, hxm0, by omega, HR.out⟩, by simp [intOf]; omega⟩
    · obtain rfl : j = k := by omega
      have HR := Lib.hid (show cl11 m j 1 = x by rw [← hR, Nat.sub_self]; rfl)
      have i0 : ¬ (j : Int) + 1 < (j : Int) + 1 := by omega
      clear hR
      go_wp2
      go_ret
      exact ⟨by rw [HR.out]; rfl, rfl⟩

set_option maxHeartbeats 400000 in
set_option maxRecDepth 100000 in
theorem l11Law_c (m : Int) (v : Value) (t : List (List Int)) (w : World) (hv : RdT w v t) :
    Calls Tryz.prog 10 #[.agg #[.int .i64 m, v]] w fun e w' => e = .returned (.int .i64 (l11R m t)) ∧ Below w.heap.size w w' := by
  obtain ⟨o, c, rfl, hmt, -⟩ := id hv
  have hml := hmt.1
  clear hmt
  cases hl : lawB m t
  · have HR := Lib.hid (show l11R m t = 1 by unfold l11R; rw [hl]; rfl)
    go_enter Tryz.func10, Tryz.ntmps10
    go_wp2_with fail
    (have X0 := ((RB2.mk1 w  (.int .i64 m) (.slice o t.length c) 28).1).below (w' := (w.alloc (.cells #[.int .i64 m, .slice o t.length c] 28))) (by (repeat (first | exact bR _ _ | (refine bS ?_ _) | (refine bA ?_ _) | (refine bN ?_ _) | (refine bD ?_)))) (Nat.le_refl _); have B0 : Below w.heap.size w (w.alloc (.cells #[.int .i64 m, .slice o t.length c] 28)) := (by (repeat (first | exact bR _ _ | (refine bS ?_ _) | (refine bA ?_ _) | (refine bN ?_ _) | (refine bD ?_)))); have hv0 := hv.below (w' := (w.alloc (.cells #[.int .i64 m, .slice o t.length c] 28))) (by (repeat (first | exact bR _ _ | (refine bS ?_ _) | (refine bA ?_ _) | (refine bN ?_ _) | (refine bD ?_)))) (Nat.le_refl _); generalize w.alloc (.cells #[.int .i64 m, .slice o t.length c] 28) = w0 at X0 B0 hv0 ⊢)
    (obtain ⟨gqX0, gqX1⟩ := id X0; go_wp2_with fail; refine (l04Is_c m _ t _ hv0).mono ?_; rw [hl]; rintro e w1 ⟨rfl, hb⟩; (have X1 := X0.below hb (Nat.le_refl _); have B1 := B0.trans (hb.mono B0.size)); clear gqX0 gqX1; clear hb)
    go_wp2
    go_ret
    exact ⟨by rw [HR.out]; rfl, B1⟩
  · have hp := (lawB_t hl).1
    have hm := pla_m hp
    have hn := pla_n hp
    by_cases h2 : t.length = 2
    · have HR := Lib.hid (show l11R m t = 5 by unfold l11R; rw [hl, if_pos rfl, if_pos h2])
      have hq : ((t.length : Int) == 2) = true := by simp; omega
      clear h2
      go_enter Tryz.func10, Tryz.ntmps10
      go_wp2_with fail
      (have X0 := ((RB2.mk1 w  (.int .i64 m) (.slice o t.length c) 28).1).below (w' := (w.alloc (.cells #[.int .i64 m, .slice o t.length c] 28))) (by (repeat (first | exact bR _ _ | (refine bS ?_ _) | (refine bA ?_ _) | (refine bN ?_ _) | (refine bD ?_)))) (Nat.le_refl _); have B0 : Below w.heap.size w (w.alloc (.cells #[.int .i64 m, .slice o t.length c] 28)) := (by (repeat (first | exact bR _ _ | (refine bS ?_ _) | (refine bA ?_ _) | (refine bN ?_ _) | (refine bD ?_)))); have hv0 := hv.below (w' := (w.alloc (.cells #[.int .i64 m, .slice o t.length c] 28))) (by (repeat (first | exact bR _ _ | (refine bS ?_ _) | (refine bA ?_ _) | (refine bN ?_ _) | (refine bD ?_)))) (Nat.le_refl _); generalize w.alloc (.cells #[.int .i64 m, .slice o t.length c] 28) = w0 at X0 B0 hv0 ⊢)
      (obtain ⟨gqX0, gqX1⟩ := id X0; go_wp2_with fail; refine (l04Is_c m _ t _ hv0).mono ?_; rw [hl]; rintro e w1 ⟨rfl, hb⟩; (have X1 := X0.below hb (Nat.le_refl _); have B1 := B0.trans (hb.mono B0.size)); clear gqX0 gqX1; clear hb)
      obtain ⟨x0, x1⟩ := id X1
      go_wp2
      go_ret
      exact ⟨by rw [HR.out]; rfl, B1⟩
    · have hq : ((t.length : Int) == 2) = false := by simp; omega
      have HR := Lib.hid (show l11R m t = if 300 < m ^ (t.length - 2) then 3 else 0 by unfold l11R; rw [hl, if_pos rfl, if_neg h2])
      have HC := Lib.hid (cl11_1 (m := m) (by omega) (t.length - 2))
      clear h2
      by_cases h3 : 300 < m ^ (t.length - 2)
      · rw [if_pos h3] at HR HC
        clear h3
        go_enter Tryz.func10, Tryz.ntmps10
        go_wp2_with fail
        (have X0 := ((RB2.mk1 w  (.int .i64 m) (.slice o t.length c) 28).1).below (w' := (w.alloc (.cells #[.int .i64 m, .slice o t.length c] 28))) (by (repeat (first | exact bR _ _ | (refine bS ?_ _) | (refine bA ?_ _) | (refine bN ?_ _) | (refine bD ?_)))) (Nat.le_refl _); have B0 : Below w.heap.size w (w.alloc (.cells #[.int .i64 m, .slice o t.length c] 28)) := (by (repeat (first | exact bR _ _ | (refine bS ?_ _) | (refine bA ?_ _) | (refine bN ?_ _) | (refine bD ?_)))); have hv0 := hv.below (w' := (w.alloc (.cells #[.int .i64 m, .slice o t.length c] 28))) (by (repeat (first | exact bR _ _ | (refine bS ?_ _) | (refine bA ?_ _) | (refine bN ?_ _) | (refine bD ?_)))) (Nat.le_refl _); generalize w.alloc (.cells #[.int .i64 m, .slice o t.length c] 28) = w0 at X0 B0 hv0 ⊢)
        (obtain ⟨gqX0, gqX1⟩ := id X0; go_wp2_with fail; refine (l04Is_c m _ t _ hv0).mono ?_; rw [hl]; rintro e w1 ⟨rfl, hb⟩; (have X1 := X0.below hb (Nat.le_refl _); have B1 := B0.trans (hb.mono B0.size)); clear gqX0 gqX1; clear hb)
        obtain ⟨x0, x1⟩ := id X1
        have hX := X1
        go_wp2_with fail
        have hd0 : Below w1.heap.size w1 w1.drew := (Below.refl _ _).drew
        have hsd0 := hd0.size
        obtain ⟨f0_a, f0_b⟩ := ((hX).below (Below.refl w1.heap.size w1) (Nat.le_refl _))
        refine wp_region_K (S := fun w' => w'.cell? ⟨w.heap.size, 0, none⟩ = some (.int .i64 m) ∧ w'.cell? ⟨w.heap.size, 1, none⟩ = some (.slice o t.length c)) [] (by kernel_rfl) ?_
        have hHeld : (fun w' : World => w'.cell? ⟨w.heap.size, 0, none⟩ = some (.int .i64 m) ∧ w'.cell? ⟨w.heap.size, 1, none⟩ = some (.slice o t.length c)) w1.drew := by go_keep
        refine' wpAnyK_takeL (i := 0) (v := _) rfl (by kernel_rfl) (by kernel_rfl) (by kernel_rfl) (by kernel_rfl) (fun _ _ _ h => h) (Or.inl ⟨by rfl, ?yT1⟩) hHeld ?rT1
        case yT1 => (intro w' hSw; (try dsimp only at hSw); go_simp; try with_reducible rfl)
        try simp only [List.getElem_toArray, List.getElem_cons_zero, List.getElem_cons_succ, Act.put, List.setIfInBounds_toArray, List.set_cons_zero, List.set_cons_succ]
        refine' wpAnyK_takeL (i := 1) (v := _) rfl (by kernel_rfl) (by kernel_rfl) (by kernel_rfl) (by kernel_rfl) (fun _ _ _ h => h) (Or.inl ⟨by rfl, ?yT2⟩) hHeld ?rT2
        case yT2 => (intro w' hSw; (try dsimp only at hSw); go_simp; try with_reducible rfl)
        try simp only [List.getElem_toArray, List.getElem_cons_zero, List.getElem_cons_succ, Act.put, List.setIfInBounds_toArray, List.set_cons_zero, List.set_cons_succ]
        refine' wpAnyK_takeL (i := 2) (v := _) rfl (by kernel_rfl) (by kernel_rfl) (by kernel_rfl) (by kernel_rfl) (fun _ _ _ h => h) (Or.inl ⟨by rfl, ?yT3⟩) hHeld ?rT3
        case yT3 => (intro w' hSw; (try dsimp only at hSw); go_simp; try with_reducible rfl)
        try simp only [List.getElem_toArray, List.getElem_cons_zero, List.getElem_cons_succ, Act.put, List.setIfInBounds_toArray, List.set_cons_zero, List.set_cons_succ]
        refine wpAnyK_oneL (i := 3) rfl (by kernel_rfl) (fun K hK => ?_)
        go_simp
        go_at_call 11
        refine (l03DegA_c m o t.length c _ hml).mono ?_
        rintro e wd1 ⟨rfl, hbd1⟩
        have hd1 : Below w1.heap.size w1 wd1 := (by (repeat (first | exact bR _ _ | (refine bS ?_ _) | (refine bA ?_ _) | (refine bN ?_ _) | (refine bD ?_) | (refine bT ?_ hbd1))))
        have hsd1 := hd1.size
        have hsz1_ := hbd1.size
        (try simp at hsz1_)
        obtain ⟨f1_a, f1_b⟩ := ((hX).below hd1 (Nat.le_refl _))
        go_wp2_with fail
        clear hHeld
        have hHeld : (fun w' : World => w'.cell? ⟨w.heap.size, 0, none⟩ = some (.int .i64 m) ∧ w'.cell? ⟨w.heap.size, 1, none⟩ = some (.slice o t.length c)) wd1 := by go_keep
        refine hK.out _ _ (fun _ => hHeld) ?_
        clear hK K
        try simp only [List.getElem_toArray, List.getElem_cons_zero, List.getElem_cons_succ, Act.put, List.setIfInBounds_toArray, List.set_cons_zero, List.set_cons_succ]
        refine wpAnyK_oneL (i := 4) rfl (by kernel_rfl) (fun K hK => ?_)
        go_simp
        go_at_call 12
        refine (l11Count_c m _ (t.length - 2) _ (by omega) (by omega) (by omega) (by omega)).mono ?_
        rintro e w' ⟨rfl, rfl⟩
        rw [HC.out]
        go_wp2_with fail
        refine hK.out _ _ (fun _ => hHeld) ?_
        clear hK K
        try simp only [List.getElem_toArray, List.getElem_cons_zero, List.getElem_cons_succ, Act.put, List.setIfInBounds_toArray, List.set_cons_zero, List.set_cons_succ]
        refine' wpAnyK_takeL (i := 5) (v := _) rfl (by kernel_rfl) (by kernel_rfl) (by kernel_rfl) (by kernel_rfl) (fun _ _ _ h => h) (Or.inl ⟨by rfl, ?yT4⟩) hHeld ?rT4
        case yT4 => (intro w' hSw; (try dsimp only at hSw); go_simp; try with_reducible rfl)
        try simp only [List.getElem_toArray, List.getElem_cons_zero, List.getElem_cons_succ, Act.put, List.setIfInBounds_toArray, List.set_cons_zero, List.set_cons_succ]
        refine wpAnyK_oneL (i := 6) rfl (by kernel_rfl) (fun K hK => ?_)
        go_simp
        (try go_wp2_with fail)
        refine hK.out _ _ (fun _ => hHeld) ?_
        clear hK K
        try simp only [List.getElem_toArray, List.getElem_cons_zero, List.getElem_cons_succ, Act.put, List.setIfInBounds_toArray, List.set_cons_zero, List.set_cons_succ]
        refine wpAnyK_done (by kernel_rfl) ?_ _
        go_wp2
        go_ret
        exact ⟨by rw [HR.out]; rfl, B1.trans (hd1.mono B1.size)⟩
      · rw [if_neg h3] at HR HC
        go_enter Tryz.func10, Tryz.ntmps10
        go_wp2_with fail
        (have X0 := ((RB2.mk1 w  (.int .i64 m) (.slice o t.length c) 28).1).below (w' := (w.alloc (.cells #[.int .i64 m, .slice o t.length c] 28))) (by (repeat (first | exact bR _ _ | (refine bS ?_ _) | (refine bA ?_ _) | (refine bN ?_ _) | (refine bD ?_)))) (Nat.le_refl _); have B0 : Below w.heap.size w (w.alloc (.cells #[.int .i64 m, .slice o t.length c] 28)) := (by (repeat (first | exact bR _ _ | (refine bS ?_ _) | (refine bA ?_ _) | (refine bN ?_ _) | (refine bD ?_)))); have hv0 := hv.below (w' := (w.alloc (.cells #[.int .i64 m, .slice o t.length c] 28))) (by (repeat (first | exact bR _ _ | (refine bS ?_ _) | (refine bA ?_ _) | (refine bN ?_ _) | (refine bD ?_)))) (Nat.le_refl _); generalize w.alloc (.cells #[.int .i64 m, .slice o t.length c] 28) = w0 at X0 B0 hv0 ⊢)
        (obtain ⟨gqX0, gqX1⟩ := id X0; go_wp2_with fail; refine (l04Is_c m _ t _ hv0).mono ?_; rw [hl]; rintro e w1 ⟨rfl, hb⟩; (have X1 := X0.below hb (Nat.le_refl _); have B1 := B0.trans (hb.mono B0.size)); clear gqX0 gqX1; clear hb)
        obtain ⟨x0, x1⟩ := id X1
        have hX := X1
        go_wp2_with fail
        have hd0 : Below w1.heap.size w1 w1.drew := (Below.refl _ _).drew
        have hsd0 := hd0.size
        obtain ⟨f0_a, f0_b⟩ := ((hX).below (Below.refl w1.heap.size w1) (Nat.le_refl _))
        refine wp_region_K (S := fun w' => w'.cell? ⟨w.heap.size, 0, none⟩ = some (.int .i64 m) ∧ w'.cell? ⟨w.heap.size, 1, none⟩ = some (.slice o t.length c)) [] (by kernel_rfl) ?_
        have hHeld : (fun w' : World => w'.cell? ⟨w.heap.size, 0, none⟩ = some (.int .i64 m) ∧ w'.cell? ⟨w.heap.size, 1, none⟩ = some (.slice o t.length c)) w1.drew := by go_keep
        refine' wpAnyK_takeL (i := 0) (v := _) rfl (by kernel_rfl) (by kernel_rfl) (by kernel_rfl) (by kernel_rfl) (fun _ _ _ h => h) (Or.inl ⟨by rfl, ?yT5⟩) hHeld ?rT5
        case yT5 => (intro w' hSw; (try dsimp only at hSw); go_simp; try with_reducible rfl)
        try simp only [List.getElem_toArray, List.getElem_cons_zero, List.getElem_cons_succ, Act.put, List.setIfInBounds_toArray, List.set_cons_zero, List.set_cons_succ]
        refine' wpAnyK_takeL (i := 1) (v := _) rfl (by kernel_rfl) (by kernel_rfl) (by kernel_rfl) (by kernel_rfl) (fun _ _ _ h => h) (Or.inl ⟨by rfl, ?yT6⟩) hHeld ?rT6
        case yT6 => (intro w' hSw; (try dsimp only at hSw); go_simp; try with_reducible rfl)
        try simp only [List.getElem_toArray, List.getElem_cons_zero, List.getElem_cons_succ, Act.put, List.setIfInBounds_toArray, List.set_cons_zero, List.set_cons_succ]
        refine' wpAnyK_takeL (i := 2) (v := _) rfl (by kernel_rfl) (by kernel_rfl) (by kernel_rfl) (by kernel_rfl) (fun _ _ _ h => h) (Or.inl ⟨by rfl, ?yT7⟩) hHeld ?rT7
        case yT7 => (intro w' hSw; (try dsimp only at hSw); go_simp; try with_reducible rfl)
        try simp only [List.getElem_toArray, List.getElem_cons_zero, List.getElem_cons_succ, Act.put, List.setIfInBounds_toArray, List.set_cons_zero, List.set_cons_succ]
        refine wpAnyK_oneL (i := 3) rfl (by kernel_rfl) (fun K hK => ?_)
        go_simp
        go_at_call 11
        refine (l03DegA_c m o t.length c _ hml).mono ?_
        rintro e wd1 ⟨rfl, hbd1⟩
        have hd1 : Below w1.heap.size w1 wd1 := (by (repeat (first | exact bR _ _ | (refine bS ?_ _) | (refine bA ?_ _) | (refine bN ?_ _) | (refine bD ?_) | (refine bT ?_ hbd1))))
        have hsd1 := hd1.size
        have hsz1_ := hbd1.size
        (try simp at hsz1_)
        obtain ⟨f1_a, f1_b⟩ := ((hX).below hd1 (Nat.le_refl _))
        go_wp2_with fail
        clear hHeld
        have hHeld : (fun w' : World => w'.cell? ⟨w.heap.size, 0, none⟩ = some (.int .i64 m) ∧ w'.cell? ⟨w.heap.size, 1, none⟩ = some (.slice o t.length c)) wd1 := by go_keep
        refine hK.out _ _ (fun _ => hHeld) ?_
        clear hK K
        try simp only [List.getElem_toArray, List.getElem_cons_zero, List.getElem_cons_succ, Act.put, List.setIfInBounds_toArray, List.set_cons_zero, List.set_cons_succ]
        refine wpAnyK_oneL (i := 4) rfl (by kernel_rfl) (fun K hK => ?_)
        go_simp
        go_at_call 12
        refine (l11Count_c m _ (t.length - 2) _ (by omega) (by omega) (by omega) (by omega)).mono ?_
        rintro e w' ⟨rfl, rfl⟩
        rw [HC.out]
        go_wp2_with fail
        refine hK.out _ _ (fun _ => hHeld) ?_
        clear hK K
        try simp only [List.getElem_toArray, List.getElem_cons_zero, List.getElem_cons_succ, Act.put, List.setIfInBounds_toArray, List.set_cons_zero, List.set_cons_succ]
        refine' wpAnyK_takeL (i := 5) (v := _) rfl (by kernel_rfl) (by kernel_rfl) (by kernel_rfl) (by kernel_rfl) (fun _ _ _ h => h) (Or.inl ⟨by rfl, ?yT8⟩) hHeld ?rT8
        case yT8 => (intro w' hSw; (try dsimp only at hSw); go_simp; try with_reducible rfl)
        try simp only [List.getElem_toArray, List.getElem_cons_zero, List.getElem_cons_succ, Act.put, List.setIfInBounds_toArray, List.set_cons_zero, List.set_cons_succ]
        refine wpAnyK_oneL (i := 6) rfl (by kernel_rfl) (fun K hK => ?_)
        go_simp
        (try go_wp2_with fail)
        refine hK.out _ _ (fun _ => hHeld) ?_
        clear hK K
        try simp only [List.getElem_toArray, List.getElem_cons_zero, List.getElem_cons_succ, Act.put, List.setIfInBounds_toArray, List.set_cons_zero, List.set_cons_succ]
        refine wpAnyK_done (by kernel_rfl) ?_ _
        go_wp2
        go_ret
        exact ⟨by rw [HR.out]; rfl, B1.trans (hd1.mono B1.size)⟩

theorem set_rep {r : Nat} {tl : List Int} {x : Int} : (List.replicate (r + 1) (0 : Int) ++ tl).set r x = List.replicate r 0 ++ x :: tl := by
  rw [List.replicate_succ', List.append_assoc, List.set_append_right _ _ (by simp)]
  simp

set_option maxHeartbeats 400000 in
set_option maxRecDepth 100000 in
theorem l11List_c (m d : Int) (k j : Nat) (w : World) (hd : d = (k : Int) + 1) (hk : k ≤ 1000) (hm : 2 ≤ m) (hm' : m ≤ 10000) (hj : j ≤ 1000000) :
    Calls Tryz.prog 13 #[.int .i64 m, .int .i64 d, .int .i64 (j : Int)] w fun e w' => ∃ v', e = .returned v' ∧ OwI w' w.heap.size v' (digs m.toNat k j) ∧ Below w.heap.size w w' := by
  subst hd
  have m0 : (m == 0) = false := by simp; omega
  have m1 : ¬ m = 0 := by omega
  have hmn : ((m.toNat : Nat) : Int) = m := by omega
  have e0 : IntKind.i64.wrap ((k : Int) + 1 - 1) = (k : Int) := by rw [IntWalk.i64_in _ (by omega)]; omega
  have e1 : IntKind.i64.wrap ((k : Int) + 1 - 2) = (k : Int) - 1 := by rw [IntWalk.i64_in _ (by omega)]; omega
  go_enter Tryz.func13, Tryz.ntmps13
  go_wp2_with (at_make; refine mkI _ rfl _ _ rfl _ _ _ k rfl rfl (by omega) (by omega) ?_; intro w1 hown hb hs1)
  have hz : w.heap.size < w1.heap.size := by omega
  go_loopw [2, 8] (fun nn i wr => ∃ (r N : Nat) (tl : List Int), r ≤ k ∧ i = .int .i64 ((r : Int) - 1) ∧ nn = .int .i64 (N : Int) ∧ N ≤ 1000000 ∧ Hid (digs m.toNat k j = digs m.toNat r N ++ tl) ∧ OwI wr w.heap.size (.slice (some ⟨w.heap.size, 0, none⟩) k k) (List.replicate r 0 ++ tl) ∧ Below w.heap.size w wr) (fun _ i _ => ((intOf i) + 1).toNat)
  case atStart => exact ⟨k, j, [], Nat.le_refl _, rfl, rfl, hj, Lib.hid (by simp), by simpa using hown, hb⟩
  case round =>
    obtain ⟨r, N, tl, hr, rfl, rfl, hN, HD, hO, hB⟩ := hrel
    by_cases h0 : r = 0
    · subst h0
      have i0 : ¬ (0 : Int) ≤ ((0 : Nat) : Int) - 1 := by omega
      have hD := HD.out
      have hO2 : OwI wr w.heap.size (.slice (some ⟨w.heap.size, 0, none⟩) k k) (digs m.toNat k j) := by rw [hD]; simpa [digs] using hO
      clear hD hO
      go_wp2
      go_ret
      exact ⟨_, rfl, hO2, hB⟩
    · obtain ⟨q, rfl⟩ : ∃ q, r = q + 1 := ⟨r - 1, by omega⟩
      obtain ⟨P, hPd⟩ : ∃ P, N % m.toNat = P := ⟨_, rfl⟩
      obtain ⟨D, hDd⟩ : ∃ D, N / m.toNat = D := ⟨_, rfl⟩
      have hq1 : (N : Int).tmod m = (P : Int) := by
        rw [Int.tmod_eq_emod_of_nonneg (by omega), ← hmn, ← hPd]; simp
      have hq2 : (N : Int).tdiv m = (D : Int) := by
        rw [Int.tdiv_eq_ediv_of_nonneg (by omega), ← hmn, ← hDd]; simp
      have hq3 : D ≤ N := by rw [← hDd]; exact Nat.div_le_self _ _
      have hq5 : P ≤ N := by rw [← hPd]; exact Nat.mod_le _ _
      have hq4 : IntKind.i64.wrap (D : Int) = (D : Int) := IntWalk.i64_in _ (by omega)
      have hq6 : IntKind.i64.wrap (P : Int) = (P : Int) := IntWalk.i64_in _ (by omega)
      have i0 : (0 : Int) ≤ ((q + 1 : Nat) : Int) - 1 := by omega
      have i1 : ((q + 1 : Nat) : Int) - 1 < (k : Int) := by omega
      have i2 : (((q + 1 : Nat) : Int) - 1).toNat = q := by omega
      have hc := hO.cell (k := q) (x := 0) (by rw [List.getElem?_append_left (by simp)]; simp)
      have hf := hO.fz q
      have hP := hO.put q (P : Int)
      rw [set_rep] at hP
      have HD2 := Lib.hid (show digs m.toNat k j = digs m.toNat q D ++ (P : Int) :: tl by rw [HD.out, digs, hPd, hDd]; simp)
      clear HD hO hPd hDd
      go_wp2
      exact ⟨⟨q, D, _, by omega, by go_num, rfl, by omega, HD2, hP, below_put hB (Nat.le_refl _) _⟩, by simp [intOf]⟩

set_option maxHeartbeats 1000000 in
set_option maxRecDepth 100000 in
theorem sCountStrictAutomorphisms_c (m : Int) (v : Value) (t : List (List Int)) (w : World) (hv : RdT w v t) :
    Calls Tryz.prog 5 #[.agg #[.int .i64 m, v]] w fun e w' => IEnd w w' (autR m t) e := by
  obtain ⟨o, c, rfl, hmt, -⟩ := id hv
  have hml := hmt.1
  clear hmt
  by_cases hc : l11R m t = 0
  · have hlaw : lawB m t = true := by
      cases h : lawB m t
      · unfold l11R at hc; rw [h] at hc; simp at hc
      · rfl
    have hp := (lawB_t hlaw).1
    have hm := pla_m hp
    have hn := pla_n hp
    have hn2 : ¬ t.length = 2 := fun h => by unfold l11R at hc; rw [hlaw, if_pos rfl, if_pos h] at hc; simp at hc
    have hle : ¬ 300 < m ^ (t.length - 2) := fun h => by unfold l11R at hc; rw [hlaw, if_pos rfl, if_neg hn2, if_pos h] at hc; simp at hc
    have HR := Lib.hid (show autR m t = ⟨autN m t.length t (m.toNat ^ (t.length - 2)), 0⟩ by unfold autR; rw [if_pos hc])
    have HC := Lib.hid (show cl11 m (t.length - 2) 1 = ((m.toNat ^ (t.length - 2) : Nat) : Int) by
      rw [cl11_1 (by omega), if_neg hle]
      have hmn : ((m.toNat : Nat) : Int) = m := by omega
      rw [Int.natCast_pow, hmn])
    have hK300 : m.toNat ^ (t.length - 2) ≤ 300 := by
      have hmn : ((m.toNat : Nat) : Int) = m := by omega
      have : ((m.toNat ^ (t.length - 2) : Nat) : Int) = m ^ (t.length - 2) := by rw [Int.natCast_pow, hmn]
      omega
    have ht : PlaT m t.length t := ⟨rfl, pla_row hp⟩
    have HT := Lib.hid ht
    have HL := Lib.hid hc
    have hcc : ((0 : Int) != 0) = false := by simp
    have h300 := hK300
    generalize hKK : m.toNat ^ (t.length - 2) = K at HR HC hK300 h300
    clear hc hle ht hKK h300
    go_enter Tryz.func5, Tryz.ntmps5
    go_wp2_with fail
    (have X0 := ((RB2.mk1 w  (.int .i64 m) (.slice o t.length c) 28).1).below (w' := (w.alloc (.cells #[.int .i64 m, .slice o t.length c] 28))) (by (repeat (first | exact bR _ _ | (refine bS ?_ _) | (refine bA ?_ _) | (refine bN ?_ _) | (refine bD ?_)))) (Nat.le_refl _); have B0 : Below w.heap.size w (w.alloc (.cells #[.int .i64 m, .slice o t.length c] 28)) := (by (repeat (first | exact bR _ _ | (refine bS ?_ _) | (refine bA ?_ _) | (refine bN ?_ _) | (refine bD ?_)))); have hv0 := hv.below (w' := (w.alloc (.cells #[.int .i64 m, .slice o t.length c] 28))) (by (repeat (first | exact bR _ _ | (refine bS ?_ _) | (refine bA ?_ _) | (refine bN ?_ _) | (refine bD ?_)))) (Nat.le_refl _); generalize w.alloc (.cells #[.int .i64 m, .slice o t.length c] 28) = w0 at X0 B0 hv0 ⊢)
    (obtain ⟨gqX0, gqX1⟩ := id X0; go_wp2_with fail; refine (l11Law_c m _ t _ hv0).mono ?_; rw [HL.out]; rintro e w1 ⟨rfl, hb⟩; (have X1 := X0.below hb (Nat.le_refl _); have hv1 := hv0.below hb (Nat.le_refl _); have B1 := B0.trans (hb.mono B0.size)); clear gqX0 gqX1; clear hb)
    obtain ⟨x0, x1⟩ := id X1
    go_wp2_with fail
    refine (l03DegA_c m o t.length c _ hml).mono ?_
    rintro e w2 ⟨rfl, hb⟩
    (have X2 := X1.below hb (Nat.le_refl _); have hv2 := hv1.below hb (Nat.le_refl _); have B2 := B1.trans (hb.mono B1.size))
    have B2s := B2.size
    clear x0 x1
    go_wp2_with fail
    go_loopw [6, 7] (fun a i wr => ∃ k : Nat, k ≤ K ∧ i = .int .i64 k ∧ a = .int .i64 (autN m t.length t k : Int) ∧ Below w2.heap.size w2 wr) (fun _ i _ => K - (intOf i).toNat)
    case atStart => exact ⟨0, Nat.zero_le _, rfl, rfl, Below.refl _ _⟩
    case round =>
      obtain ⟨k, hk, rfl, rfl, hB⟩ := hrel
      have hBs := hB.size
      have Xr := X2.below hB (Nat.le_refl _)
      obtain ⟨x0, x1⟩ := id Xr
      have hvr := hv2.below hB (Nat.le_refl _)
      go_wp2_with fail
      refine (l11Count_c m _ (t.length - 2) _ (by omega) (by omega) (by omega) (by omega)).mono ?_
      rw [HC.out]
      rintro e w' ⟨rfl, rfl⟩
      by_cases hlt : k < K
      · have i0 : (k : Int) < (K : Int) := by omega
        have hlX := Xr.lt
        have hneX : w.heap.size ≠ wr.heap.size := by omega
        have hz := OwI.lit wr [0, 1] (by decide)
        have hzb : Below wr.heap.size wr (wr.alloc (.cells #[.int .i64 0, .int .i64 1] 2)) := (by (repeat (first | exact bR _ _ | (refine bS ?_ _) | (refine bA ?_ _) | (refine bN ?_ _) | (refine bD ?_))))
        have Xz := Xr.below hzb (Nat.le_refl _)
        have hvz := hvr.below hzb (Nat.le_refl _)
        have B3 := B2.trans ((hB.trans (hzb.mono hBs)).mono B2s)
        go_wp2_with fail
        refine (l11List_c m _ (t.length - 2) k _ (by omega) (by omega) (by omega) (by omega) (by omega)).mono ?_
        rintro e w4 ⟨v4, rfl, ho4, hb4⟩
        obtain ⟨o4, c4, rfl⟩ := ho4.shapeN (n := t.length - 2) (digs_len _ _ _)
        obtain ⟨g4, rfl, hg4, hg4'⟩ := ho4.row (by omega)
        have hz4 := hz.below hb4
        have hb4s := hb4.size
        have Br4 : Below wr.heap.size wr w4 := hzb.trans (hb4.mono (by have := hzb.size; omega))
        have Br4s := Br4.size
        have HRow := Lib.hid (show (([0, 1] : List Int) ++ digs m.toNat (t.length - 2) k).length = t.length by rw [List.length_append, digs_len]; simp; omega)
        have HRng := Lib.hid (show ∀ x ∈ ([0, 1] : List Int) ++ digs m.toNat (t.length - 2) k, 0 ≤ x ∧ x < m from fun x hx => by
          rw [List.mem_append] at hx
          rcases hx with hx | hx
          · simp at hx; omega
          · have := digs_range (m := m.toNat) (by omega) _ _ x hx; omega)
        have HAt := Lib.hid (show at0 (([0, 1] : List Int) ++ digs m.toNat (t.length - 2) k) 0 = 0 from rfl)
        have HS := Lib.hid (autN_s m t.length t k)
        go_wp2_with (at_builtin; go_loud (refine apR w4 rfl _ _ rfl wr.heap.size (.slice (some ⟨wr.heap.size, 0, none⟩) 2 2) [0, 1] rfl hz4 ⟨g4, 0, none⟩ (t.length - 2) c4 (digs m.toNat (t.length - 2) k) rfl ho4.rd (by rw [digs_len]; simp; omega) (by omega) ?_; intro o5 c5 w5 hO5 hgr hb5; rw [HRow.out] at hO5 ⊢; have Br5 := Br4.trans hb5; obtain ⟨y0, y1⟩ := Xr.below Br5 (Nat.le_refl _)))
        generalize ([0, 1] : List Int) ++ digs m.toNat (t.length - 2) k = by1 at hO5 HRow HRng HAt HS
        have hv5 := hvr.below Br5 (Nat.le_refl _)
        refine (l06Fits_c m t.length _ _ _ t t by1 _ hv5 hv5 hO5.rd HRow.out (by omega) (by omega) (by omega) (by omega) HT.out HT.out HRng.out HAt.out).mono ?_
        cases hh : homB m t.length t t by1
        all_goals
          rw [hh] at HS
          rintro e w6 ⟨rfl, hb6⟩
          have Bw6 : Below w2.heap.size w2 w6 := hB.trans ((Br5.trans (hb6.mono Br5.size)).mono hBs)
          have hcnt := autN_le m t.length t k
          go_wp2
          exact ⟨⟨k + 1, by omega, by go_num, by rw [HS.out]; simp, Bw6⟩, by simp [intOf]; omega⟩
      · obtain rfl : k = K := by omega
        have i0 : ¬ (k : Int) < (k : Int) := by omega
        go_wp2
        go_ret2
        exact ⟨by rw [HR.out]; rfl, B2.trans (hB.mono B2s)⟩
  · have hR2 : autR m t = ⟨0, l11R m t⟩ := by unfold autR; rw [if_neg hc]
    rw [hR2]
    clear hR2
    obtain ⟨cc, hcc0⟩ : ∃ cc, l11R m t = cc := ⟨_, rfl⟩
    rw [hcc0] at hc ⊢
    have HL := Lib.hid hcc0
    clear hcc0
    have hcc : (cc != 0) = true := by simpa using hc
    clear hc
    go_enter Tryz.func5, Tryz.ntmps5
    go_wp2_with fail
    (have X0 := ((RB2.mk1 w  (.int .i64 m) (.slice o t.length c) 28).1).below (w' := (w.alloc (.cells #[.int .i64 m, .slice o t.length c] 28))) (by (repeat (first | exact bR _ _ | (refine bS ?_ _) | (refine bA ?_ _) | (refine bN ?_ _) | (refine bD ?_)))) (Nat.le_refl _); have B0 : Below w.heap.size w (w.alloc (.cells #[.int .i64 m, .slice o t.length c] 28)) := (by (repeat (first | exact bR _ _ | (refine bS ?_ _) | (refine bA ?_ _) | (refine bN ?_ _) | (refine bD ?_)))); have hv0 := hv.below (w' := (w.alloc (.cells #[.int .i64 m, .slice o t.length c] 28))) (by (repeat (first | exact bR _ _ | (refine bS ?_ _) | (refine bA ?_ _) | (refine bN ?_ _) | (refine bD ?_)))) (Nat.le_refl _); generalize w.alloc (.cells #[.int .i64 m, .slice o t.length c] 28) = w0 at X0 B0 hv0 ⊢)
    (obtain ⟨gqX0, gqX1⟩ := id X0; go_wp2_with fail; refine (l11Law_c m _ t _ hv0).mono ?_; rw [HL.out]; rintro e w1 ⟨rfl, hb⟩; (have X1 := X0.below hb (Nat.le_refl _); have B1 := B0.trans (hb.mono B0.size)); clear gqX0 gqX1; clear hb)
    go_wp2
    go_ret2
    exact ⟨rfl, B1⟩
end Go.Proofs.YtfpphfjlpgefaaaGreatDoor
set_option linter.unusedSimpArgs false
set_option linter.unusedVariables false
namespace Go.Proofs.YtfpphfjlpgefaaaGreatDoor
open Go.RowKit
open Go.Shelf
def sh_lays156_ren : Go.Shelf.Ren := ⟨fun | 156 => 48 | 165 => 63 | 166 => 64 | 169 => 65 | 240 => 86 | 241 => 87 | 276 => 101 | 277 => 102 | n => n, fun | 31 => 64 | 9 => 9 | 3 => 3 | 4 => 4 | 0 => 0 | 20 => 20 | 72 => 85 | 76 => 89 | 70 => 82 | 37 => 83 | 75 => 88 | 127 => 102 | 164 => 117 | 5 => 5 | 80 => 91 | n => n, fun | n => n⟩
theorem sh_lays156 : Go.Proofs.Lays.n156 Tryz.prog sh_lays156_ren := {
  mixed := by kernel_rfl
  f156 := Tryz.func48.trans (congrArg some (by kernel_rfl))
  f165 := Tryz.func63.trans (congrArg some (by kernel_rfl))
  f166 := Tryz.func64.trans (congrArg some (by kernel_rfl))
  f169 := Tryz.func65.trans (congrArg some (by kernel_rfl))
  f240 := Tryz.func86.trans (congrArg some (by kernel_rfl))
  f241 := Tryz.func87.trans (congrArg some (by kernel_rfl))
  f276 := Tryz.func101.trans (congrArg some (by kernel_rfl))
  f277 := Tryz.func102.trans (congrArg some (by kernel_rfl))
  t0 := Tryz.underlying0
  a0 := Tryz.isAgg0
  z0 := Tryz.sizeOf0
  v0 := Tryz.zeroValue0
  t3 := Tryz.underlying3
  a3 := Tryz.isAgg3
  z3 := Tryz.sizeOf3
  v3 := Tryz.zeroValue3
  t4 := Tryz.underlying4
  a4 := Tryz.isAgg4
  z4 := Tryz.sizeOf4
  v4 := Tryz.zeroValue4
  t9 := Tryz.underlying9
  a9 := Tryz.isAgg9
  z9 := Tryz.sizeOf9
  v9 := Tryz.zeroValue9
  t20 := Tryz.underlying20
  a20 := Tryz.isAgg20
  z20 := Tryz.sizeOf20
  v20 := Tryz.zeroValue20
  t31 := Tryz.underlying64
  a31 := Tryz.isAgg64
  z31 := Tryz.sizeOf64
  v31 := Tryz.zeroValue64
  t37 := Tryz.underlying83
  a37 := Tryz.isAgg83
  z37 := Tryz.sizeOf83
  v37 := Tryz.zeroValue83
  t70 := Tryz.underlying82
  a70 := Tryz.isAgg82
  z70 := Tryz.sizeOf82
  v70 := Tryz.zeroValue82
  t72 := Tryz.underlying85
  a72 := Tryz.isAgg85
  z72 := Tryz.sizeOf85
  v72 := Tryz.zeroValue85
  t75 := Tryz.underlying88
  a75 := Tryz.isAgg88
  z75 := Tryz.sizeOf88
  v75 := Tryz.zeroValue88
  t76 := Tryz.underlying89
  a76 := Tryz.isAgg89
  z76 := Tryz.sizeOf89
  v76 := Tryz.zeroValue89
  t127 := Tryz.underlying102
  a127 := Tryz.isAgg102
  z127 := Tryz.sizeOf102
  v127 := Tryz.zeroValue102
  t164 := Tryz.underlying117
  a164 := Tryz.isAgg117
  z164 := Tryz.sizeOf117
  v164 := Tryz.zeroValue117 }
theorem sh_Builder_Extra_156 : Builder.Extra Tryz.prog sh_lays156_ren := {
  sizeBuilder := by kernel_rfl
  liesBuilder := by kernel_rfl
  t5 := Tryz.underlying5
  a5 := Tryz.isAgg5
  z5 := Tryz.sizeOf5
  v5 := Tryz.zeroValue5
  infoByte := by kernel_rfl
  cellsByte := by kernel_rfl
  sizeByte := by kernel_rfl
  neB5 := by decide }
open Go.RowKit in
open Go.RowKit in
theorem sh_strings_Join (bk o c : Nat) (xs : List ByteArray) (sep : ByteArray) (w : World) (hcells : ∀ (j : Nat) x, xs[j]? = some x → w.cell? ⟨bk, o + j, none⟩ = some (.string x)) (hbk : bk < w.heap.size) (hN : xs.length ≤ 140737488355328) (hcap : xs.length ≤ c) (hlen : (Lib.join (xs.map (·.data.toList)) sep.data.toList).length ≤ 140737488355328) :
    Calls Tryz.prog 48 #[.slice (some ⟨bk, o, none⟩) xs.length c, .string sep] w fun e w' => e = .returned (.string ⟨(Lib.join (xs.map (·.data.toList)) sep.data.toList).toArray⟩) ∧ Below w.heap.size w w' := Any.strings_Join sh_lays156 sh_Builder_Extra_156 bk o c xs sep w hcells hbk hN hcap hlen
def sh_laysM173_ren : Go.Shelf.Ren := ⟨fun | 173 => 62 | 246 => 85 | 283 => 97 | 284 => 98 | 285 => 99 | 286 => 100 | 129 => 105 | 317 => 104 | 318 => 106 | 319 => 107 | 320 => 108 | 337 => 109 | 338 => 110 | n => n, fun | 2 => 2 | 3 => 3 | 9 => 9 | 4 => 4 | 171 => 112 | 0 => 0 | 53 => 103 | 37 => 83 | 5 => 5 | 173 => 115 | 212 => 123 | 51 => 124 | 20 => 20 | 213 => 125 | 46 => 120 | 232 => 129 | 233 => 130 | n => n, fun | 17 => 2 | 18 => 4 | 19 => 5 | n => n⟩
theorem sh_laysM173 : Go.Proofs.LaysM.n173 Tryz.prog sh_laysM173_ren := {
  mixed := by kernel_rfl
  f129 := Tryz.func105.trans (congrArg some (by kernel_rfl))
  f173 := Tryz.func62.trans (congrArg some (by kernel_rfl))
  f246 := Tryz.func85.trans (congrArg some (by kernel_rfl))
  f283 := Tryz.func97.trans (congrArg some (by kernel_rfl))
  f284 := Tryz.func98.trans (congrArg some (by kernel_rfl))
  f285 := Tryz.func99.trans (congrArg some (by kernel_rfl))
  f286 := Tryz.func100.trans (congrArg some (by kernel_rfl))
  f317 := Tryz.func104.trans (congrArg some (by kernel_rfl))
  f318 := Tryz.func106.trans (congrArg some (by kernel_rfl))
  f319 := Tryz.func107.trans (congrArg some (by kernel_rfl))
  f320 := Tryz.func108.trans (congrArg some (by kernel_rfl))
  f337 := Tryz.func109.trans (congrArg some (by kernel_rfl))
  f338 := Tryz.func110.trans (congrArg some (by kernel_rfl))
  t0 := Tryz.underlying0
  a0 := Tryz.isAgg0
  z0 := Tryz.sizeOf0
  v0 := Tryz.zeroValue0
  t2 := Tryz.underlying2
  a2 := Tryz.isAgg2
  z2 := Tryz.sizeOf2
  v2 := Tryz.zeroValue2
  t3 := Tryz.underlying3
  a3 := Tryz.isAgg3
  z3 := Tryz.sizeOf3
  v3 := Tryz.zeroValue3
  t4 := Tryz.underlying4
  a4 := Tryz.isAgg4
  z4 := Tryz.sizeOf4
  v4 := Tryz.zeroValue4
  t5 := Tryz.underlying5
  a5 := Tryz.isAgg5
  z5 := Tryz.sizeOf5
  v5 := Tryz.zeroValue5
  t9 := Tryz.underlying9
  a9 := Tryz.isAgg9
  z9 := Tryz.sizeOf9
  v9 := Tryz.zeroValue9
  t20 := Tryz.underlying20
  a20 := Tryz.isAgg20
  z20 := Tryz.sizeOf20
  v20 := Tryz.zeroValue20
  t37 := Tryz.underlying83
  a37 := Tryz.isAgg83
  z37 := Tryz.sizeOf83
  v37 := Tryz.zeroValue83
  t46 := Tryz.underlying120
  a46 := Tryz.isAgg120
  z46 := Tryz.sizeOf120
  v46 := Tryz.zeroValue120
  t51 := Tryz.underlying124
  a51 := Tryz.isAgg124
  z51 := Tryz.sizeOf124
  v51 := Tryz.zeroValue124
  t53 := Tryz.underlying103
  a53 := Tryz.isAgg103
  z53 := Tryz.sizeOf103
  v53 := Tryz.zeroValue103
  t171 := Tryz.underlying112
  a171 := Tryz.isAgg112
  z171 := Tryz.sizeOf112
  v171 := Tryz.zeroValue112
  t173 := Tryz.underlying115
  a173 := Tryz.isAgg115
  z173 := Tryz.sizeOf115
  v173 := Tryz.zeroValue115
  t212 := Tryz.underlying123
  a212 := Tryz.isAgg123
  z212 := Tryz.sizeOf123
  v212 := Tryz.zeroValue123
  t213 := Tryz.underlying125
  a213 := Tryz.isAgg125
  z213 := Tryz.sizeOf125
  t232 := Tryz.underlying129
  a232 := Tryz.isAgg129
  z232 := Tryz.sizeOf129
  v232 := Tryz.zeroValue129
  t233 := Tryz.underlying130
  a233 := Tryz.isAgg130
  z233 := Tryz.sizeOf130
  v233 := Tryz.zeroValue130
  g17 := by kernel_rfl
  g18 := by kernel_rfl
  g19 := by kernel_rfl
  i0 := by kernel_rfl
  i2 := by kernel_rfl
  i3 := by kernel_rfl
  i4 := by kernel_rfl
  i5 := by kernel_rfl
  i9 := by kernel_rfl
  i20 := by kernel_rfl
  i37 := by kernel_rfl
  i46 := by kernel_rfl
  i51 := by kernel_rfl
  i53 := by kernel_rfl
  i171 := by kernel_rfl
  i173 := by kernel_rfl
  i212 := by kernel_rfl
  i232 := by kernel_rfl
  i233 := by kernel_rfl
  m17 := by kernel_rfl
  m18 := by kernel_rfl
  m19 := by kernel_rfl }
open Go.RowKit Go.Sort Go.Lib in
theorem sh_strconv_FormatInt_10 (n : Int) (h0 : -9223372036854775808 ≤ n) (h1 : n ≤ 9223372036854775807) (w : World) (htab : Lib.TabIs Tryz.prog w "internal/strconv.uint64pow10" .u64 Lib.pow10Tab) :
    Calls Tryz.prog 62 #[.int .i64 n, .int .i64 10] w fun e w' => e = .returned (.string ⟨(Lib.itoa n).toArray⟩) ∧ ∃ k os, w' = grow (w.drewN k) os := Any.strconv_FormatInt_10 sh_laysM173 n h0 h1 w htab
end Go.Proofs.YtfpphfjlpgefaaaGreatDoor
