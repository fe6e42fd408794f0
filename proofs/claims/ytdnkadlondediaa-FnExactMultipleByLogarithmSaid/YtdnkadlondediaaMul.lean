/- Multiples of a law by its logarithm: the functions that are called. -/
import Derived.Test.YtdnkadlondediaaDif
import Derived.Test.YtdnkadlondediaaG3
import Derived.Test.YtdnkadlondediaaSerQ
set_option linter.unusedSimpArgs false
set_option linter.unusedVariables false
namespace Go.Proofs.Ytdnkadlondediaa
open Go.RowKit

def mulLL (m : Int) (t : List (List Int)) (k : Int) : List Int := horn m t.length (scaleL m k (logL m t)) (revL m t.length (logL m t))
theorem mulLL_len (m : Int) (t : List (List Int)) (k : Int) : (mulLL m t k).length = t.length := horn_len _ _ _ _
def mulLR (m : Int) (t : List (List Int)) (k : Int) : SR :=
  if lawB m t then (if inB k (-1000000) 1000000 then (if unitsB m (t.length - 1) then ⟨m, mulLL m t k, 0⟩ else SR.bad 5) else SR.bad 2) else SR.bad 1
theorem reverseS_d (m : Int) (n : Nat) (v : Value) (xs : List Int) (w : World) (hl : xs.length = n) (hv : RdI w v xs) (h1 : 2 ≤ n) (hn : n ≤ 1000) (hm : 2 ≤ m) (hm' : m ≤ 10000) (hx : ∀ x ∈ xs, 0 ≤ x ∧ x < m) :
    Calls Try.prog 73 #[.agg #[.int .i64 m, v]] w fun e w' => SVEnd w w' m (revL m n xs) e := by
  subst hl; exact reverseS_c m v xs w hv h1 hn hm hm' hx

set_option maxHeartbeats 400000 in
theorem isMultiple_c (k : Int) (w : World) : Calls Try.prog 69 #[.int .i64 k] w fun e w' => e = .returned (.bool (inB k (-1000000) 1000000)) ∧ w = w' := by
  go_enter Try.func69, Try.ntmps69
  go_wp2_with (go_at_call 128; refine (in_c _ _ _ _).mono ?_; rintro e w' ⟨rfl, rfl⟩)
  go_ret
  exact ⟨rfl, rfl⟩

set_option maxHeartbeats 4000000 in
set_option maxRecDepth 100000 in
theorem MultipleByLogarithm_c (m : Int) (v : Value) (t : List (List Int)) (k : Int) (w : World) (hv : RdT w v t) :
    Calls Try.prog 21 #[.agg #[.int .i64 m, v], .int .i64 k] w fun e w' => SEnd w w' (mulLR m t k) e := by
  obtain ⟨o, c, rfl, hmt, -⟩ := id hv
  have hml := hmt.1
  unfold maxLen at hmt
  cases h1 : lawB m t
  · have hR : mulLR m t k = SR.bad 1 := by simp [mulLR, h1]
    rw [hR]
    go_enter Try.func21, Try.ntmps21
    go_wp2_with fail
    (have X0 := ((RB2.mk1 w  (.int .i64 m) (.slice o t.length c) 32).1).below (w' := ((w.alloc (.cells #[.int .i64 m, .slice o t.length c] 32)).alloc (.cells #[.int .i64 0, .slice none 0 0] 34))) (by (repeat (first | exact Below.refl _ _ | (refine Below.setCell ?_ (by first | (simp; done) | (simp; omega) | omega) _) | (refine Below.alloc ?_ (by first | (simp; done) | (simp; omega) | omega) _) | (refine below_drewN ?_ _) | (refine Below.drew ?_)))) (Nat.le_refl _); have R0 := ((RB2.mk2 w (.cells #[.int .i64 m, .slice o t.length c] 32) (.int .i64 0) (.slice none 0 0) 34)).below (w' := ((w.alloc (.cells #[.int .i64 m, .slice o t.length c] 32)).alloc (.cells #[.int .i64 0, .slice none 0 0] 34))) (by (repeat (first | exact Below.refl _ _ | (refine Below.setCell ?_ (by first | (simp; done) | (simp; omega) | omega) _) | (refine Below.alloc ?_ (by first | (simp; done) | (simp; omega) | omega) _) | (refine below_drewN ?_ _) | (refine Below.drew ?_)))) (Nat.le_refl _); have B0 : Below w.heap.size w ((w.alloc (.cells #[.int .i64 m, .slice o t.length c] 32)).alloc (.cells #[.int .i64 0, .slice none 0 0] 34)) := (by (repeat (first | exact Below.refl _ _ | (refine Below.setCell ?_ (by first | (simp; done) | (simp; omega) | omega) _) | (refine Below.alloc ?_ (by first | (simp; done) | (simp; omega) | omega) _) | (refine below_drewN ?_ _) | (refine Below.drew ?_)))); have hv0 := hv.below (w' := ((w.alloc (.cells #[.int .i64 m, .slice o t.length c] 32)).alloc (.cells #[.int .i64 0, .slice none 0 0] 34))) (by (repeat (first | exact Below.refl _ _ | (refine Below.setCell ?_ (by first | (simp; done) | (simp; omega) | omega) _) | (refine Below.alloc ?_ (by first | (simp; done) | (simp; omega) | omega) _) | (refine below_drewN ?_ _) | (refine Below.drew ?_)))) (Nat.le_refl _); generalize (w.alloc (.cells #[.int .i64 m, .slice o t.length c] 32)).alloc (.cells #[.int .i64 0, .slice none 0 0] 34) = w0 at X0 R0 B0 hv0 ⊢)
    (obtain ⟨gqX0, gqX1⟩ := id X0; go_wp2_with fail; refine (IsLaw_c m _ t _ hv0).mono ?_; rw [h1]; rintro e w1 ⟨rfl, hb⟩; (have X1 := X0.below hb (Nat.le_refl _); have R1 := R0.below hb (Nat.le_refl _); have B1 := B0.trans (hb.mono B0.size)); clear gqX0 gqX1; clear hb)
    (obtain ⟨⟨r0, r1⟩, rf⟩ := id R1; go_wp2; exact bodyPost_ret (v := .tuple #[.agg #[.int .i64 0, .slice none 0 0], .int .i64 1]) (by simp [results, Try.results21, go_sem, r0, r1]) rfl ⟨_, rfl, OwI.nil _ _, (by (repeat (first | exact Below.refl _ _ | (refine Below.setCell ?_ (by first | (simp; done) | (simp; omega) | omega) _) | (refine Below.alloc ?_ (by first | (simp; done) | (simp; omega) | omega) _) | (refine below_drewN ?_ _) | (refine Below.drew ?_) | (refine Below.trans ?_ (Below.mono B1 (by first | (simp; done) | (simp; omega) | omega)))))), by simp [SR.bad]⟩)
  · have hp := (lawB_t h1).1
    have hm := pla_m hp
    have hn := pla_n hp
    have h10 : atT t 1 0 = 1 := fauL_due (lawB_t h1).2 1 (by omega)
    have HT := Lib.hid (show PlaT m t.length t from ⟨rfl, pla_row hp⟩)
    have H10 := Lib.hid h10
    clear hp h10
    cases h2 : inB k (-1000000) 1000000
    · have hR : mulLR m t k = SR.bad 2 := by simp [mulLR, h1, h2]
      rw [hR]
      go_enter Try.func21, Try.ntmps21
      go_wp2_with fail
      (have X0 := ((RB2.mk1 w  (.int .i64 m) (.slice o t.length c) 32).1).below (w' := ((w.alloc (.cells #[.int .i64 m, .slice o t.length c] 32)).alloc (.cells #[.int .i64 0, .slice none 0 0] 34))) (by (repeat (first | exact Below.refl _ _ | (refine Below.setCell ?_ (by first | (simp; done) | (simp; omega) | omega) _) | (refine Below.alloc ?_ (by first | (simp; done) | (simp; omega) | omega) _) | (refine below_drewN ?_ _) | (refine Below.drew ?_)))) (Nat.le_refl _); have R0 := ((RB2.mk2 w (.cells #[.int .i64 m, .slice o t.length c] 32) (.int .i64 0) (.slice none 0 0) 34)).below (w' := ((w.alloc (.cells #[.int .i64 m, .slice o t.length c] 32)).alloc (.cells #[.int .i64 0, .slice none 0 0] 34))) (by (repeat (first | exact Below.refl _ _ | (refine Below.setCell ?_ (by first | (simp; done) | (simp; omega) | omega) _) | (refine Below.alloc ?_ (by first | (simp; done) | (simp; omega) | omega) _) | (refine below_drewN ?_ _) | (refine Below.drew ?_)))) (Nat.le_refl _); have B0 : Below w.heap.size w ((w.alloc (.cells #[.int .i64 m, .slice o t.length c] 32)).alloc (.cells #[.int .i64 0, .slice none 0 0] 34)) := (by (repeat (first | exact Below.refl _ _ | (refine Below.setCell ?_ (by first | (simp; done) | (simp; omega) | omega) _) | (refine Below.alloc ?_ (by first | (simp; done) | (simp; omega) | omega) _) | (refine below_drewN ?_ _) | (refine Below.drew ?_)))); have hv0 := hv.below (w' := ((w.alloc (.cells #[.int .i64 m, .slice o t.length c] 32)).alloc (.cells #[.int .i64 0, .slice none 0 0] 34))) (by (repeat (first | exact Below.refl _ _ | (refine Below.setCell ?_ (by first | (simp; done) | (simp; omega) | omega) _) | (refine Below.alloc ?_ (by first | (simp; done) | (simp; omega) | omega) _) | (refine below_drewN ?_ _) | (refine Below.drew ?_)))) (Nat.le_refl _); generalize (w.alloc (.cells #[.int .i64 m, .slice o t.length c] 32)).alloc (.cells #[.int .i64 0, .slice none 0 0] 34) = w0 at X0 R0 B0 hv0 ⊢)
      (obtain ⟨gqX0, gqX1⟩ := id X0; go_wp2_with fail; refine (IsLaw_c m _ t _ hv0).mono ?_; rw [h1]; rintro e w1 ⟨rfl, hb⟩; (have X1 := X0.below hb (Nat.le_refl _); have R1 := R0.below hb (Nat.le_refl _); have B1 := B0.trans (hb.mono B0.size)); clear gqX0 gqX1; clear hb)
      go_wp2_with fail
      refine (isMultiple_c k _).mono ?_
      rw [h2]
      rintro e w2 ⟨rfl, rfl⟩
      (obtain ⟨⟨r0, r1⟩, rf⟩ := id R1; go_wp2; exact bodyPost_ret (v := .tuple #[.agg #[.int .i64 0, .slice none 0 0], .int .i64 2]) (by simp [results, Try.results21, go_sem, r0, r1]) rfl ⟨_, rfl, OwI.nil _ _, (by (repeat (first | exact Below.refl _ _ | (refine Below.setCell ?_ (by first | (simp; done) | (simp; omega) | omega) _) | (refine Below.alloc ?_ (by first | (simp; done) | (simp; omega) | omega) _) | (refine below_drewN ?_ _) | (refine Below.drew ?_) | (refine Below.trans ?_ (Below.mono B1 (by first | (simp; done) | (simp; omega) | omega)))))), by simp [SR.bad]⟩)
    · have hk := inB_t h2
      cases h3 : unitsB m (t.length - 1)
      · have hR : mulLR m t k = SR.bad 5 := by simp [mulLR, h1, h2, h3]
        rw [hR]
        go_enter Try.func21, Try.ntmps21
        go_wp2_with fail
        (have X0 := ((RB2.mk1 w  (.int .i64 m) (.slice o t.length c) 32).1).below (w' := ((w.alloc (.cells #[.int .i64 m, .slice o t.length c] 32)).alloc (.cells #[.int .i64 0, .slice none 0 0] 34))) (by (repeat (first | exact Below.refl _ _ | (refine Below.setCell ?_ (by first | (simp; done) | (simp; omega) | omega) _) | (refine Below.alloc ?_ (by first | (simp; done) | (simp; omega) | omega) _) | (refine below_drewN ?_ _) | (refine Below.drew ?_)))) (Nat.le_refl _); have R0 := ((RB2.mk2 w (.cells #[.int .i64 m, .slice o t.length c] 32) (.int .i64 0) (.slice none 0 0) 34)).below (w' := ((w.alloc (.cells #[.int .i64 m, .slice o t.length c] 32)).alloc (.cells #[.int .i64 0, .slice none 0 0] 34))) (by (repeat (first | exact Below.refl _ _ | (refine Below.setCell ?_ (by first | (simp; done) | (simp; omega) | omega) _) | (refine Below.alloc ?_ (by first | (simp; done) | (simp; omega) | omega) _) | (refine below_drewN ?_ _) | (refine Below.drew ?_)))) (Nat.le_refl _); have B0 : Below w.heap.size w ((w.alloc (.cells #[.int .i64 m, .slice o t.length c] 32)).alloc (.cells #[.int .i64 0, .slice none 0 0] 34)) := (by (repeat (first | exact Below.refl _ _ | (refine Below.setCell ?_ (by first | (simp; done) | (simp; omega) | omega) _) | (refine Below.alloc ?_ (by first | (simp; done) | (simp; omega) | omega) _) | (refine below_drewN ?_ _) | (refine Below.drew ?_)))); have hv0 := hv.below (w' := ((w.alloc (.cells #[.int .i64 m, .slice o t.length c] 32)).alloc (.cells #[.int .i64 0, .slice none 0 0] 34))) (by (repeat (first | exact Below.refl _ _ | (refine Below.setCell ?_ (by first | (simp; done) | (simp; omega) | omega) _) | (refine Below.alloc ?_ (by first | (simp; done) | (simp; omega) | omega) _) | (refine below_drewN ?_ _) | (refine Below.drew ?_)))) (Nat.le_refl _); generalize (w.alloc (.cells #[.int .i64 m, .slice o t.length c] 32)).alloc (.cells #[.int .i64 0, .slice none 0 0] 34) = w0 at X0 R0 B0 hv0 ⊢)
        (obtain ⟨gqX0, gqX1⟩ := id X0; go_wp2_with fail; refine (IsLaw_c m _ t _ hv0).mono ?_; rw [h1]; rintro e w1 ⟨rfl, hb⟩; (have X1 := X0.below hb (Nat.le_refl _); have R1 := R0.below hb (Nat.le_refl _); have hv1 := hv0.below hb (Nat.le_refl _); have B1 := B0.trans (hb.mono B0.size)); clear gqX0 gqX1; clear hb)
        go_wp2_with fail
        refine (isMultiple_c k _).mono ?_
        rw [h2]
        rintro e w2 ⟨rfl, rfl⟩
        have B1s := B1.size
        go_wp2_with fail
        have hd0 : Below w1.heap.size w1 w1.drew := (Below.refl _ _).drew
        have hsd0 := hd0.size
        obtain ⟨f0_a, f0_b⟩ := ((X1).below (Below.refl w1.heap.size w1) (Nat.le_refl _))
        refine wp_region_K (S := fun w' => w'.cell? ⟨w.heap.size, 0, none⟩ = some (.int .i64 m) ∧ w'.cell? ⟨w.heap.size, 1, none⟩ = some (.slice o t.length c)) [] (by kernel_rfl) ?_
        have hHeld : (fun w' : World => w'.cell? ⟨w.heap.size, 0, none⟩ = some (.int .i64 m) ∧ w'.cell? ⟨w.heap.size, 1, none⟩ = some (.slice o t.length c)) w1.drew := by go_keep
        refine' wpAnyK_takeL (i := 0) (v := _) rfl (by kernel_rfl) (by kernel_rfl) (by kernel_rfl) (by kernel_rfl) (fun _ _ _ h => h) (Or.inl ⟨by rfl, ?yT1⟩) hHeld ?rT1
        case yT1 => (intro w' hSw; (try dsimp only at hSw); go_simp; try with_reducible rfl)
        try simp only [List.getElem_toArray, List.getElem_cons_zero, List.getElem_cons_succ, Act.put, List.setIfInBounds_toArray, List.set_cons_zero, List.set_cons_succ]
        refine' wpAnyK_takeL (i := 1) (v := _) rfl (by kernel_rfl) (by kernel_rfl) (by kernel_rfl) (by kernel_rfl) (fun _ _ _ h => h) (Or.inl ⟨by rfl, ?yT2⟩) hHeld ?rT2
        case yT2 => (intro w' hSw; (try dsimp only at hSw); go_simp; try with_reducible rfl)
        try simp only [List.getElem_toArray, List.getElem_cons_zero, List.getElem_cons_succ, Act.put, List.setIfInBounds_toArray, List.set_cons_zero, List.set_cons_succ]
        refine' wpAnyK_takeL (i := 2) (v := _) rfl (by kernel_rfl) (by kernel_rfl) (by kernel_rfl) (by kernel_rfl) (fun _ _ _ h => h) (Or.inl ⟨by rfl, ?yT3⟩) hHeld ?rT3
        case yT3 => (intro w' hSw; (try dsimp only at hSw); go_simp; try with_reducible rfl)
        try simp only [List.getElem_toArray, List.getElem_cons_zero, List.getElem_cons_succ, Act.put, List.setIfInBounds_toArray, List.set_cons_zero, List.set_cons_succ]
        refine wpAnyK_oneL (i := 3) rfl (by kernel_rfl) (fun K hK => ?_)
        go_simp
        go_at_call 71
        refine (degreeP_c m o t.length c _ hml).mono ?_
        rintro e wd1 ⟨rfl, hbd1⟩
        have hd1 : Below w1.heap.size w1 wd1 := (by (repeat (first | exact Below.refl _ _ | (refine Below.setCell ?_ (by first | (simp; done) | (simp; omega) | omega) _) | (refine Below.alloc ?_ (by first | (simp; done) | (simp; omega) | omega) _) | (refine below_drewN ?_ _) | (refine Below.drew ?_) | (refine Below.trans ?_ (Below.mono hbd1 (by first | (simp; done) | (simp; omega) | omega))))))
        have hsd1 := hd1.size
        obtain ⟨f1_a, f1_b⟩ := ((X1).below hd1 (Nat.le_refl _))
        go_wp2_with fail
        clear hHeld
        have hHeld : (fun w' : World => w'.cell? ⟨w.heap.size, 0, none⟩ = some (.int .i64 m) ∧ w'.cell? ⟨w.heap.size, 1, none⟩ = some (.slice o t.length c)) wd1 := by go_keep
        refine hK.out _ _ (fun _ => hHeld) ?_
        clear hK K
        try simp only [List.getElem_toArray, List.getElem_cons_zero, List.getElem_cons_succ, Act.put, List.setIfInBounds_toArray, List.set_cons_zero, List.set_cons_succ]
        refine wpAnyK_oneL (i := 4) rfl (by kernel_rfl) (fun K hK => ?_)
        go_simp
        go_at_call 70
        refine (areUnits_d m ((t.length : Int) - 1) (t.length - 1) _ (by omega) (by omega) (by omega) (by omega)).mono ?_
        rintro e wd2 ⟨he, hbe⟩
        rw [h3] at he; subst he; have hbd2 : Below wd1.heap.size wd1 wd2 := (by obtain ⟨q, rfl⟩ := hbe; exact below_drewN (Below.refl _ _) _); clear hbe
        have hd2 : Below w1.heap.size w1 wd2 := (by (repeat (first | exact Below.refl _ _ | (refine Below.setCell ?_ (by first | (simp; done) | (simp; omega) | omega) _) | (refine Below.alloc ?_ (by first | (simp; done) | (simp; omega) | omega) _) | (refine below_drewN ?_ _) | (refine Below.drew ?_) | (refine Below.trans ?_ (Below.mono hbd1 (by first | (simp; done) | (simp; omega) | omega))) | (refine Below.trans ?_ (Below.mono hbd2 (by first | (simp; done) | (simp; omega) | omega))))))
        have hsd2 := hd2.size
        obtain ⟨f2_a, f2_b⟩ := ((X1).below hd2 (Nat.le_refl _))
        go_wp2_with fail
        clear hHeld
        have hHeld : (fun w' : World => w'.cell? ⟨w.heap.size, 0, none⟩ = some (.int .i64 m) ∧ w'.cell? ⟨w.heap.size, 1, none⟩ = some (.slice o t.length c)) wd2 := by go_keep
        refine hK.out _ _ (fun _ => hHeld) ?_
        clear hK K
        try simp only [List.getElem_toArray, List.getElem_cons_zero, List.getElem_cons_succ, Act.put, List.setIfInBounds_toArray, List.set_cons_zero, List.set_cons_succ]
        refine wpAnyK_oneL (i := 5) rfl (by kernel_rfl) (fun K hK => ?_)
        go_simp
        (try go_wp2_with fail)
        refine hK.out _ _ (fun _ => hHeld) ?_
        clear hK K
        try simp only [List.getElem_toArray, List.getElem_cons_zero, List.getElem_cons_succ, Act.put, List.setIfInBounds_toArray, List.set_cons_zero, List.set_cons_succ]
        refine wpAnyK_oneL (i := 6) rfl (by kernel_rfl) (fun K hK => ?_)
        go_simp
        (try go_wp2_with fail)
        refine hK.out _ _ (fun _ => hHeld) ?_
        clear hK K
        try simp only [List.getElem_toArray, List.getElem_cons_zero, List.getElem_cons_succ, Act.put, List.setIfInBounds_toArray, List.set_cons_zero, List.set_cons_succ]
        refine wpAnyK_done (by kernel_rfl) ?_ _
        have X3 := X1.below hd2 (Nat.le_refl _)
        have R3 := R1.below hd2 (Nat.le_refl _)
        have B3 := B1.trans (hd2.mono B1s)
        (obtain ⟨⟨r0, r1⟩, rf⟩ := id R3; go_wp2; exact bodyPost_ret (v := .tuple #[.agg #[.int .i64 0, .slice none 0 0], .int .i64 5]) (by simp [results, Try.results21, go_sem, r0, r1]) rfl ⟨_, rfl, OwI.nil _ _, (by (repeat (first | exact Below.refl _ _ | (refine Below.setCell ?_ (by first | (simp; done) | (simp; omega) | omega) _) | (refine Below.alloc ?_ (by first | (simp; done) | (simp; omega) | omega) _) | (refine below_drewN ?_ _) | (refine Below.drew ?_) | (refine Below.trans ?_ (Below.mono B3 (by first | (simp; done) | (simp; omega) | omega)))))), by simp [SR.bad]⟩)
      · have hR : mulLR m t k = ⟨m, mulLL m t k, 0⟩ := by simp [mulLR, h1, h2, h3]
        rw [hR]
        have HLL := Lib.hid (logL_len (m := m) (show 2 ≤ t.length by omega))
        have HLR := Lib.hid (logL_range (m := m) (show 0 < m by omega) t)
        have HRl := Lib.hid (revL_len m t.length (logL m t))
        have HRr := Lib.hid (revTo_range (m := m) (show 0 < m by omega) t.length (logL m t) (t.length - 1))
        have HSl := Lib.hid (show (scaleL m k (logL m t)).length = t.length by rw [scaleL_len, HLL.out])
        have HSr := Lib.hid (scaleL_range (m := m) (c := k) (a := logL m t) (show 0 < m by omega))
        have HML := Lib.hid (show horn m t.length (scaleL m k (logL m t)) (revL m t.length (logL m t)) = mulLL m t k from rfl)
        have hlen : (mulLL m t k).length ≤ 1048576 := by rw [mulLL_len]; omega
        clear hR
        go_enter Try.func21, Try.ntmps21
        go_wp2_with fail
        (have X0 := ((RB2.mk1 w  (.int .i64 m) (.slice o t.length c) 32).1).below (w' := ((w.alloc (.cells #[.int .i64 m, .slice o t.length c] 32)).alloc (.cells #[.int .i64 0, .slice none 0 0] 34))) (by (repeat (first | exact Below.refl _ _ | (refine Below.setCell ?_ (by first | (simp; done) | (simp; omega) | omega) _) | (refine Below.alloc ?_ (by first | (simp; done) | (simp; omega) | omega) _) | (refine below_drewN ?_ _) | (refine Below.drew ?_)))) (Nat.le_refl _); have R0 := ((RB2.mk2 w (.cells #[.int .i64 m, .slice o t.length c] 32) (.int .i64 0) (.slice none 0 0) 34)).below (w' := ((w.alloc (.cells #[.int .i64 m, .slice o t.length c] 32)).alloc (.cells #[.int .i64 0, .slice none 0 0] 34))) (by (repeat (first | exact Below.refl _ _ | (refine Below.setCell ?_ (by first | (simp; done) | (simp; omega) | omega) _) | (refine Below.alloc ?_ (by first | (simp; done) | (simp; omega) | omega) _) | (refine below_drewN ?_ _) | (refine Below.drew ?_)))) (Nat.le_refl _); have B0 : Below w.heap.size w ((w.alloc (.cells #[.int .i64 m, .slice o t.length c] 32)).alloc (.cells #[.int .i64 0, .slice none 0 0] 34)) := (by (repeat (first | exact Below.refl _ _ | (refine Below.setCell ?_ (by first | (simp; done) | (simp; omega) | omega) _) | (refine Below.alloc ?_ (by first | (simp; done) | (simp; omega) | omega) _) | (refine below_drewN ?_ _) | (refine Below.drew ?_)))); have hv0 := hv.below (w' := ((w.alloc (.cells #[.int .i64 m, .slice o t.length c] 32)).alloc (.cells #[.int .i64 0, .slice none 0 0] 34))) (by (repeat (first | exact Below.refl _ _ | (refine Below.setCell ?_ (by first | (simp; done) | (simp; omega) | omega) _) | (refine Below.alloc ?_ (by first | (simp; done) | (simp; omega) | omega) _) | (refine below_drewN ?_ _) | (refine Below.drew ?_)))) (Nat.le_refl _); generalize (w.alloc (.cells #[.int .i64 m, .slice o t.length c] 32)).alloc (.cells #[.int .i64 0, .slice none 0 0] 34) = w0 at X0 R0 B0 hv0 ⊢)
        (obtain ⟨gqX0, gqX1⟩ := id X0; go_wp2_with fail; refine (IsLaw_c m _ t _ hv0).mono ?_; rw [h1]; rintro e w1 ⟨rfl, hb⟩; (have X1 := X0.below hb (Nat.le_refl _); have R1 := R0.below hb (Nat.le_refl _); have hv1 := hv0.below hb (Nat.le_refl _); have B1 := B0.trans (hb.mono B0.size)); clear gqX0 gqX1; clear hb)
        go_wp2_with fail
        refine (isMultiple_c k _).mono ?_
        rw [h2]
        rintro e w2 ⟨rfl, rfl⟩
        have B1s := B1.size
        go_wp2_with fail
        have hd0 : Below w1.heap.size w1 w1.drew := (Below.refl _ _).drew
        have hsd0 := hd0.size
        obtain ⟨f0_a, f0_b⟩ := ((X1).below (Below.refl w1.heap.size w1) (Nat.le_refl _))
        refine wp_region_K (S := fun w' => w'.cell? ⟨w.heap.size, 0, none⟩ = some (.int .i64 m) ∧ w'.cell? ⟨w.heap.size, 1, none⟩ = some (.slice o t.length c)) [] (by kernel_rfl) ?_
        have hHeld : (fun w' : World => w'.cell? ⟨w.heap.size, 0, none⟩ = some (.int .i64 m) ∧ w'.cell? ⟨w.heap.size, 1, none⟩ = some (.slice o t.length c)) w1.drew := by go_keep
        refine' wpAnyK_takeL (i := 0) (v := _) rfl (by kernel_rfl) (by kernel_rfl) (by kernel_rfl) (by kernel_rfl) (fun _ _ _ h => h) (Or.inl ⟨by rfl, ?yT4⟩) hHeld ?rT4
        case yT4 => (intro w' hSw; (try dsimp only at hSw); go_simp; try with_reducible rfl)
        try simp only [List.getElem_toArray, List.getElem_cons_zero, List.getElem_cons_succ, Act.put, List.setIfInBounds_toArray, List.set_cons_zero, List.set_cons_succ]
        refine' wpAnyK_takeL (i := 1) (v := _) rfl (by kernel_rfl) (by kernel_rfl) (by kernel_rfl) (by kernel_rfl) (fun _ _ _ h => h) (Or.inl ⟨by rfl, ?yT5⟩) hHeld ?rT5
        case yT5 => (intro w' hSw; (try dsimp only at hSw); go_simp; try with_reducible rfl)
        try simp only [List.getElem_toArray, List.getElem_cons_zero, List.getElem_cons_succ, Act.put, List.setIfInBounds_toArray, List.set_cons_zero, List.set_cons_succ]
        refine' wpAnyK_takeL (i := 2) (v := _) rfl (by kernel_rfl) (by kernel_rfl) (by kernel_rfl) (by kernel_rfl) (fun _ _ _ h => h) (Or.inl ⟨by rfl, ?yT6⟩) hHeld ?rT6
        case yT6 => (intro w' hSw; (try dsimp only at hSw); go_simp; try with_reducible rfl)
        try simp only [List.getElem_toArray, List.getElem_cons_zero, List.getElem_cons_succ, Act.put, List.setIfInBounds_toArray, List.set_cons_zero, List.set_cons_succ]
        refine wpAnyK_oneL (i := 3) rfl (by kernel_rfl) (fun K hK => ?_)
        go_simp
        go_at_call 71
        refine (degreeP_c m o t.length c _ hml).mono ?_
        rintro e wd1 ⟨rfl, hbd1⟩
        have hd1 : Below w1.heap.size w1 wd1 := (by (repeat (first | exact Below.refl _ _ | (refine Below.setCell ?_ (by first | (simp; done) | (simp; omega) | omega) _) | (refine Below.alloc ?_ (by first | (simp; done) | (simp; omega) | omega) _) | (refine below_drewN ?_ _) | (refine Below.drew ?_) | (refine Below.trans ?_ (Below.mono hbd1 (by first | (simp; done) | (simp; omega) | omega))))))
        have hsd1 := hd1.size
        obtain ⟨f1_a, f1_b⟩ := ((X1).below hd1 (Nat.le_refl _))
        go_wp2_with fail
        clear hHeld
        have hHeld : (fun w' : World => w'.cell? ⟨w.heap.size, 0, none⟩ = some (.int .i64 m) ∧ w'.cell? ⟨w.heap.size, 1, none⟩ = some (.slice o t.length c)) wd1 := by go_keep
        refine hK.out _ _ (fun _ => hHeld) ?_
        clear hK K
        try simp only [List.getElem_toArray, List.getElem_cons_zero, List.getElem_cons_succ, Act.put, List.setIfInBounds_toArray, List.set_cons_zero, List.set_cons_succ]
        refine wpAnyK_oneL (i := 4) rfl (by kernel_rfl) (fun K hK => ?_)
        go_simp
        go_at_call 70
        refine (areUnits_d m ((t.length : Int) - 1) (t.length - 1) _ (by omega) (by omega) (by omega) (by omega)).mono ?_
        rintro e wd2 ⟨he, hbe⟩
        rw [h3] at he; subst he; have hbd2 : Below wd1.heap.size wd1 wd2 := (by obtain ⟨q, rfl⟩ := hbe; exact below_drewN (Below.refl _ _) _); clear hbe
        have hd2 : Below w1.heap.size w1 wd2 := (by (repeat (first | exact Below.refl _ _ | (refine Below.setCell ?_ (by first | (simp; done) | (simp; omega) | omega) _) | (refine Below.alloc ?_ (by first | (simp; done) | (simp; omega) | omega) _) | (refine below_drewN ?_ _) | (refine Below.drew ?_) | (refine Below.trans ?_ (Below.mono hbd1 (by first | (simp; done) | (simp; omega) | omega))) | (refine Below.trans ?_ (Below.mono hbd2 (by first | (simp; done) | (simp; omega) | omega))))))
        have hsd2 := hd2.size
        obtain ⟨f2_a, f2_b⟩ := ((X1).below hd2 (Nat.le_refl _))
        go_wp2_with fail
        clear hHeld
        have hHeld : (fun w' : World => w'.cell? ⟨w.heap.size, 0, none⟩ = some (.int .i64 m) ∧ w'.cell? ⟨w.heap.size, 1, none⟩ = some (.slice o t.length c)) wd2 := by go_keep
        refine hK.out _ _ (fun _ => hHeld) ?_
        clear hK K
        try simp only [List.getElem_toArray, List.getElem_cons_zero, List.getElem_cons_succ, Act.put, List.setIfInBounds_toArray, List.set_cons_zero, List.set_cons_succ]
        refine wpAnyK_oneL (i := 5) rfl (by kernel_rfl) (fun K hK => ?_)
        go_simp
        (try go_wp2_with fail)
        refine hK.out _ _ (fun _ => hHeld) ?_
        clear hK K
        try simp only [List.getElem_toArray, List.getElem_cons_zero, List.getElem_cons_succ, Act.put, List.setIfInBounds_toArray, List.set_cons_zero, List.set_cons_succ]
        refine wpAnyK_oneL (i := 6) rfl (by kernel_rfl) (fun K hK => ?_)
        go_simp
        (try go_wp2_with fail)
        refine hK.out _ _ (fun _ => hHeld) ?_
        clear hK K
        try simp only [List.getElem_toArray, List.getElem_cons_zero, List.getElem_cons_succ, Act.put, List.setIfInBounds_toArray, List.set_cons_zero, List.set_cons_succ]
        refine wpAnyK_done (by kernel_rfl) ?_ _
        have X3 := X1.below hd2 (Nat.le_refl _)
        have R3 := R1.below hd2 (Nat.le_refl _)
        have B3 := B1.trans (hd2.mono B1s)
        have hv3 := hv1.below hd2 (Nat.le_refl _)
        rename World => w3
        have R3l := R3.1.lt
        obtain ⟨x0, x1⟩ := id X3
        go_wp2_with fail
        refine (logarithm_c m t.length _ t _ hv3 (by omega) (by omega) (by omega) (by omega) HT.out H10.out).mono ?_
        rintro e w4 ⟨vl, rfl, hol, hb⟩
        clear x0 x1
        obtain ⟨ol, cl, rfl⟩ := hol.shapeN (n := t.length) HLL.out
        (have R4 := R3.below hb (Nat.le_refl _); have B4 := B3.trans (hb.mono B3.size))
        have hb4 := hb.size
        have lR := R4.1.lt
        have B3s := B3.size
        go_wp2_with fail
        (have hb : Below w4.heap.size w4 (w4.alloc (.cells #[.int .i64 m, .slice ol t.length cl] 34)) := (by (repeat (first | exact Below.refl _ _ | (refine Below.setCell ?_ (by first | (simp; done) | (simp; omega) | omega) _) | (refine Below.alloc ?_ (by first | (simp; done) | (simp; omega) | omega) _) | (refine below_drewN ?_ _) | (refine Below.drew ?_)))); have R5 := R4.below hb (Nat.le_refl _); have hol := hol.alloc (.cells #[.int .i64 m, .slice ol t.length cl] 34); have B5 := B4.trans (hb.mono B4.size); have O := RB2.mk1 w4 (.int .i64 m) (.slice ol t.length cl) 34; have hl_w5 := hb.size; clear hb; generalize w4.alloc (.cells #[.int .i64 m, .slice ol t.length cl] 34) = w5 at O B5 hl_w5 R5 hol ⊢)
        have hol2 := hol.rd
        have hd0 : Below w5.heap.size w5 w5.drew := (Below.refl _ _).drew
        have hsd0 := hd0.size
        have hrl := R5.1.lt
        have hneR_O1 : w.heap.size + 1 ≠ w4.heap.size := by omega
        obtain ⟨⟨q0_R_0, q0_R_1⟩, qf0_R⟩ := R5.below (Below.refl w5.heap.size w5) (Nat.le_refl _)
        obtain ⟨q0_O1_0, q0_O1_1⟩ := O.1.below (Below.refl w5.heap.size w5) (Nat.le_refl _)
        go_region_held3 (fun w' => w'.cell? ⟨w4.heap.size, 0, none⟩ = some (.int .i64 m) ∧ w'.cell? ⟨w4.heap.size, 1, none⟩ = some (.slice ol t.length cl)) (go_keep)
          (first
            | (go_at_call 73; refine (reverseS_d m t.length _ (logL m t) _ HLL.out ((hol2).below (by (repeat (first | exact Below.refl _ _ | (refine Below.setCell ?_ (by first | (simp; done) | (simp; omega) | omega) _) | (refine Below.alloc ?_ (by first | (simp; done) | (simp; omega) | omega) _) | (refine below_drewN ?_ _) | (refine Below.drew ?_)))) (Nat.le_refl _)) (by omega) (by omega) (by omega) (by omega) HLR.out).mono ?_; rintro e wd1 ⟨vr, rfl, hod1, hbd1⟩; obtain ⟨or, cr, rfl⟩ := hod1.shapeN (n := t.length) HRl.out; have hd1 : Below w5.heap.size w5 wd1 := (by (repeat (first | exact Below.refl _ _ | (refine Below.setCell ?_ (by first | (simp; done) | (simp; omega) | omega) _) | (refine Below.alloc ?_ (by first | (simp; done) | (simp; omega) | omega) _) | (refine below_drewN ?_ _) | (refine Below.drew ?_) | (refine Below.trans ?_ (Below.mono hbd1 (by first | (simp; done) | (simp; omega) | omega)))))); have hsd1 := hd1.size; have hsz1_ := hbd1.size; (try simp at hsz1_); obtain ⟨⟨q1_R_0, q1_R_1⟩, qf1_R⟩ := R5.below hd1 (Nat.le_refl _); obtain ⟨q1_O1_0, q1_O1_1⟩ := O.1.below hd1 (Nat.le_refl _))
            | (go_at_call 75; refine (scaled_c m k _ (logL m t) _ ((hol2).below (by (repeat (first | exact Below.refl _ _ | (refine Below.setCell ?_ (by first | (simp; done) | (simp; omega) | omega) _) | (refine Below.alloc ?_ (by first | (simp; done) | (simp; omega) | omega) _) | (refine below_drewN ?_ _) | (refine Below.drew ?_) | (refine Below.trans ?_ (Below.mono hbd1 (by first | (simp; done) | (simp; omega) | omega)))))) (Nat.le_refl _)) (by rw [HLL.out]; omega) (by rw [HLL.out]; omega) (by omega) (by omega) HLR.out (by omega) (by omega)).mono ?_; rintro e wd2 ⟨vs, rfl, hod2, hbd2⟩; obtain ⟨os, cs, rfl⟩ := hod2.shapeN (n := t.length) HSl.out; have hd2 : Below w5.heap.size w5 wd2 := (by (repeat (first | exact Below.refl _ _ | (refine Below.setCell ?_ (by first | (simp; done) | (simp; omega) | omega) _) | (refine Below.alloc ?_ (by first | (simp; done) | (simp; omega) | omega) _) | (refine below_drewN ?_ _) | (refine Below.drew ?_) | (refine Below.trans ?_ (Below.mono hbd1 (by first | (simp; done) | (simp; omega) | omega))) | (refine Below.trans ?_ (Below.mono hbd2 (by first | (simp; done) | (simp; omega) | omega)))))); have hsd2 := hd2.size; have hsz2_ := hbd2.size; (try simp at hsz2_); obtain ⟨⟨q2_R_0, q2_R_1⟩, qf2_R⟩ := R5.below hd2 (Nat.le_refl _); obtain ⟨q2_O1_0, q2_O1_1⟩ := O.1.below hd2 (Nat.le_refl _))
            | (go_at_call 74; refine (compose_c m m _ _ (revL m t.length (logL m t)) (scaleL m k (logL m t)) _ ((hod1.below (by (repeat (first | exact Below.refl _ _ | (refine Below.setCell ?_ (by first | (simp; done) | (simp; omega) | omega) _) | (refine Below.alloc ?_ (by first | (simp; done) | (simp; omega) | omega) _) | (refine below_drewN ?_ _) | (refine Below.drew ?_) | (refine Below.trans ?_ (Below.mono hbd2 (by first | (simp; done) | (simp; omega) | omega)))))))).rd ((hod2.below (by (repeat (first | exact Below.refl _ _ | (refine Below.setCell ?_ (by first | (simp; done) | (simp; omega) | omega) _) | (refine Below.alloc ?_ (by first | (simp; done) | (simp; omega) | omega) _) | (refine below_drewN ?_ _) | (refine Below.drew ?_)))))).rd (by rw [HSl.out, HRl.out]) (by rw [HRl.out]; omega) (by rw [HRl.out]; omega) (by omega) (by omega) HRr.out HSr.out).mono ?_; rintro e wd3 ⟨vk, rfl, hod3, hbd3⟩; rw [HRl.out, HML.out] at hod3; obtain ⟨ok, ck, rfl⟩ := hod3.shapeN (n := t.length) (mulLL_len _ _ _); have hd3 : Below w5.heap.size w5 wd3 := (by (repeat (first | exact Below.refl _ _ | (refine Below.setCell ?_ (by first | (simp; done) | (simp; omega) | omega) _) | (refine Below.alloc ?_ (by first | (simp; done) | (simp; omega) | omega) _) | (refine below_drewN ?_ _) | (refine Below.drew ?_) | (refine Below.trans ?_ (Below.mono hbd1 (by first | (simp; done) | (simp; omega) | omega))) | (refine Below.trans ?_ (Below.mono hbd2 (by first | (simp; done) | (simp; omega) | omega))) | (refine Below.trans ?_ (Below.mono hbd3 (by first | (simp; done) | (simp; omega) | omega)))))); have hsd3 := hd3.size; have hsz3_ := hbd3.size; (try simp at hsz3_); obtain ⟨⟨q3_R_0, q3_R_1⟩, qf3_R⟩ := R5.below hd3 (Nat.le_refl _); obtain ⟨q3_O1_0, q3_O1_1⟩ := O.1.below hd3 (Nat.le_refl _)))
        go_wp2
        refine bodyPost_ret (v := .tuple #[.agg #[.int .i64 m, .slice ok t.length ck], .int .i64 0]) (by simp [results, Try.results21, go_sem, q3_R_0, q3_R_1]) rfl ⟨_, rfl, ?_, ?_, hlen⟩
        · have hbsz := B5.size
          exact ((hod3.low (by first | (simp; done) | (simp; omega) | omega) _).low (by first | (simp; done) | (simp; omega) | omega) _).mono (by first | (simp; done) | (simp; omega) | omega)
        · have hbsz := B5.size
          (repeat (first | exact Below.refl _ _ | (refine Below.setCell ?_ (by first | (simp; done) | (simp; omega) | omega) _) | (refine Below.alloc ?_ (by first | (simp; done) | (simp; omega) | omega) _) | (refine below_drewN ?_ _) | (refine Below.drew ?_) | (refine Below.trans ?_ (Below.mono hbd1 (by first | (simp; done) | (simp; omega) | omega))) | (refine Below.trans ?_ (Below.mono hbd2 (by first | (simp; done) | (simp; omega) | omega))) | (refine Below.trans ?_ (Below.mono hbd3 (by first | (simp; done) | (simp; omega) | omega))) | (refine Below.trans ?_ (Below.mono B5 (by first | (simp; done) | (simp; omega) | omega)))))

set_option maxHeartbeats 4000000 in
set_option maxRecDepth 100000 in
theorem sMultipleByLogarithm_c (m : Int) (v : Value) (t : List (List Int)) (k : Int) (w : World) (hv : RdT w v t) :
    Calls Try.prog 20 #[.agg #[.int .i64 m, v], .int .i64 k] w fun e w' => SEnd w w' (mulLR m t k) e := by
  obtain ⟨o, c, rfl, hmt, -⟩ := id hv
  have hml := hmt.1
  unfold maxLen at hmt
  cases h1 : lawB m t
  · have hR : mulLR m t k = SR.bad 1 := by simp [mulLR, h1]
    rw [hR]
    go_enter Try.func20, Try.ntmps20
    go_wp2_with fail
    (have X0 := ((RB2.mk1 w  (.int .i64 m) (.slice o t.length c) 32).1).below (w' := ((w.alloc (.cells #[.int .i64 m, .slice o t.length c] 32)).alloc (.cells #[.int .i64 0, .slice none 0 0] 34))) (by (repeat (first | exact Below.refl _ _ | (refine Below.setCell ?_ (by first | (simp; done) | (simp; omega) | omega) _) | (refine Below.alloc ?_ (by first | (simp; done) | (simp; omega) | omega) _) | (refine below_drewN ?_ _) | (refine Below.drew ?_)))) (Nat.le_refl _); have R0 := ((RB2.mk2 w (.cells #[.int .i64 m, .slice o t.length c] 32) (.int .i64 0) (.slice none 0 0) 34)).below (w' := ((w.alloc (.cells #[.int .i64 m, .slice o t.length c] 32)).alloc (.cells #[.int .i64 0, .slice none 0 0] 34))) (by (repeat (first | exact Below.refl _ _ | (refine Below.setCell ?_ (by first | (simp; done) | (simp; omega) | omega) _) | (refine Below.alloc ?_ (by first | (simp; done) | (simp; omega) | omega) _) | (refine below_drewN ?_ _) | (refine Below.drew ?_)))) (Nat.le_refl _); have B0 : Below w.heap.size w ((w.alloc (.cells #[.int .i64 m, .slice o t.length c] 32)).alloc (.cells #[.int .i64 0, .slice none 0 0] 34)) := (by (repeat (first | exact Below.refl _ _ | (refine Below.setCell ?_ (by first | (simp; done) | (simp; omega) | omega) _) | (refine Below.alloc ?_ (by first | (simp; done) | (simp; omega) | omega) _) | (refine below_drewN ?_ _) | (refine Below.drew ?_)))); have hv0 := hv.below (w' := ((w.alloc (.cells #[.int .i64 m, .slice o t.length c] 32)).alloc (.cells #[.int .i64 0, .slice none 0 0] 34))) (by (repeat (first | exact Below.refl _ _ | (refine Below.setCell ?_ (by first | (simp; done) | (simp; omega) | omega) _) | (refine Below.alloc ?_ (by first | (simp; done) | (simp; omega) | omega) _) | (refine below_drewN ?_ _) | (refine Below.drew ?_)))) (Nat.le_refl _); generalize (w.alloc (.cells #[.int .i64 m, .slice o t.length c] 32)).alloc (.cells #[.int .i64 0, .slice none 0 0] 34) = w0 at X0 R0 B0 hv0 ⊢)
    (obtain ⟨gqX0, gqX1⟩ := id X0; go_wp2_with fail; refine (l04Is_c m _ t _ hv0).mono ?_; rw [h1]; rintro e w1 ⟨rfl, hb⟩; (have X1 := X0.below hb (Nat.le_refl _); have R1 := R0.below hb (Nat.le_refl _); have B1 := B0.trans (hb.mono B0.size)); clear gqX0 gqX1; clear hb)
    (obtain ⟨⟨r0, r1⟩, rf⟩ := id R1; go_wp2; exact bodyPost_ret (v := .tuple #[.agg #[.int .i64 0, .slice none 0 0], .int .i64 1]) (by simp [results, Try.results20, go_sem, r0, r1]) rfl ⟨_, rfl, OwI.nil _ _, (by (repeat (first | exact Below.refl _ _ | (refine Below.setCell ?_ (by first | (simp; done) | (simp; omega) | omega) _) | (refine Below.alloc ?_ (by first | (simp; done) | (simp; omega) | omega) _) | (refine below_drewN ?_ _) | (refine Below.drew ?_) | (refine Below.trans ?_ (Below.mono B1 (by first | (simp; done) | (simp; omega) | omega)))))), by simp [SR.bad]⟩)
  · have hp := (lawB_t h1).1
    have hm := pla_m hp
    have hn := pla_n hp
    have h10 : atT t 1 0 = 1 := fauL_due (lawB_t h1).2 1 (by omega)
    have HT := Lib.hid (show PlaT m t.length t from ⟨rfl, pla_row hp⟩)
    have H10 := Lib.hid h10
    clear hp h10
    cases h2 : inB k (-1000000) 1000000
    · have hR : mulLR m t k = SR.bad 2 := by simp [mulLR, h1, h2]
      rw [hR]
      go_enter Try.func20, Try.ntmps20
      go_wp2_with fail
      (have X0 := ((RB2.mk1 w  (.int .i64 m) (.slice o t.length c) 32).1).below (w' := ((w.alloc (.cells #[.int .i64 m, .slice o t.length c] 32)).alloc (.cells #[.int .i64 0, .slice none 0 0] 34))) (by (repeat (first | exact Below.refl _ _ | (refine Below.setCell ?_ (by first | (simp; done) | (simp; omega) | omega) _) | (refine Below.alloc ?_ (by first | (simp; done) | (simp; omega) | omega) _) | (refine below_drewN ?_ _) | (refine Below.drew ?_)))) (Nat.le_refl _); have R0 := ((RB2.mk2 w (.cells #[.int .i64 m, .slice o t.length c] 32) (.int .i64 0) (.slice none 0 0) 34)).below (w' := ((w.alloc (.cells #[.int .i64 m, .slice o t.length c] 32)).alloc (.cells #[.int .i64 0, .slice none 0 0] 34))) (by (repeat (first | exact Below.refl _ _ | (refine Below.setCell ?_ (by first | (simp; done) | (simp; omega) | omega) _) | (refine Below.alloc ?_ (by first | (simp; done) | (simp; omega) | omega) _) | (refine below_drewN ?_ _) | (refine Below.drew ?_)))) (Nat.le_refl _); have B0 : Below w.heap.size w ((w.alloc (.cells #[.int .i64 m, .slice o t.length c] 32)).alloc (.cells #[.int .i64 0, .slice none 0 0] 34)) := (by (repeat (first | exact Below.refl _ _ | (refine Below.setCell ?_ (by first | (simp; done) | (simp; omega) | omega) _) | (refine Below.alloc ?_ (by first | (simp; done) | (simp; omega) | omega) _) | (refine below_drewN ?_ _) | (refine Below.drew ?_)))); have hv0 := hv.below (w' := ((w.alloc (.cells #[.int .i64 m, .slice o t.length c] 32)).alloc (.cells #[.int .i64 0, .slice none 0 0] 34))) (by (repeat (first | exact Below.refl _ _ | (refine Below.setCell ?_ (by first | (simp; done) | (simp; omega) | omega) _) | (refine Below.alloc ?_ (by first | (simp; done) | (simp; omega) | omega) _) | (refine below_drewN ?_ _) | (refine Below.drew ?_)))) (Nat.le_refl _); generalize (w.alloc (.cells #[.int .i64 m, .slice o t.length c] 32)).alloc (.cells #[.int .i64 0, .slice none 0 0] 34) = w0 at X0 R0 B0 hv0 ⊢)
      (obtain ⟨gqX0, gqX1⟩ := id X0; go_wp2_with fail; refine (l04Is_c m _ t _ hv0).mono ?_; rw [h1]; rintro e w1 ⟨rfl, hb⟩; (have X1 := X0.below hb (Nat.le_refl _); have R1 := R0.below hb (Nat.le_refl _); have B1 := B0.trans (hb.mono B0.size)); clear gqX0 gqX1; clear hb)
      go_wp2_with fail
      refine (l01In_c k (-1000000) 1000000 _).mono ?_
      rw [h2]
      rintro e w2 ⟨rfl, rfl⟩
      (obtain ⟨⟨r0, r1⟩, rf⟩ := id R1; go_wp2; exact bodyPost_ret (v := .tuple #[.agg #[.int .i64 0, .slice none 0 0], .int .i64 2]) (by simp [results, Try.results20, go_sem, r0, r1]) rfl ⟨_, rfl, OwI.nil _ _, (by (repeat (first | exact Below.refl _ _ | (refine Below.setCell ?_ (by first | (simp; done) | (simp; omega) | omega) _) | (refine Below.alloc ?_ (by first | (simp; done) | (simp; omega) | omega) _) | (refine below_drewN ?_ _) | (refine Below.drew ?_) | (refine Below.trans ?_ (Below.mono B1 (by first | (simp; done) | (simp; omega) | omega)))))), by simp [SR.bad]⟩)
    · have hk := inB_t h2
      cases h3 : unitsB m (t.length - 1)
      · have hR : mulLR m t k = SR.bad 5 := by simp [mulLR, h1, h2, h3]
        rw [hR]
        go_enter Try.func20, Try.ntmps20
        go_wp2_with fail
        (have X0 := ((RB2.mk1 w  (.int .i64 m) (.slice o t.length c) 32).1).below (w' := ((w.alloc (.cells #[.int .i64 m, .slice o t.length c] 32)).alloc (.cells #[.int .i64 0, .slice none 0 0] 34))) (by (repeat (first | exact Below.refl _ _ | (refine Below.setCell ?_ (by first | (simp; done) | (simp; omega) | omega) _) | (refine Below.alloc ?_ (by first | (simp; done) | (simp; omega) | omega) _) | (refine below_drewN ?_ _) | (refine Below.drew ?_)))) (Nat.le_refl _); have R0 := ((RB2.mk2 w (.cells #[.int .i64 m, .slice o t.length c] 32) (.int .i64 0) (.slice none 0 0) 34)).below (w' := ((w.alloc (.cells #[.int .i64 m, .slice o t.length c] 32)).alloc (.cells #[.int .i64 0, .slice none 0 0] 34))) (by (repeat (first | exact Below.refl _ _ | (refine Below.setCell ?_ (by first | (simp; done) | (simp; omega) | omega) _) | (refine Below.alloc ?_ (by first | (simp; done) | (simp; omega) | omega) _) | (refine below_drewN ?_ _) | (refine Below.drew ?_)))) (Nat.le_refl _); have B0 : Below w.heap.size w ((w.alloc (.cells #[.int .i64 m, .slice o t.length c] 32)).alloc (.cells #[.int .i64 0, .slice none 0 0] 34)) := (by (repeat (first | exact Below.refl _ _ | (refine Below.setCell ?_ (by first | (simp; done) | (simp; omega) | omega) _) | (refine Below.alloc ?_ (by first | (simp; done) | (simp; omega) | omega) _) | (refine below_drewN ?_ _) | (refine Below.drew ?_)))); have hv0 := hv.below (w' := ((w.alloc (.cells #[.int .i64 m, .slice o t.length c] 32)).alloc (.cells #[.int .i64 0, .slice none 0 0] 34))) (by (repeat (first | exact Below.refl _ _ | (refine Below.setCell ?_ (by first | (simp; done) | (simp; omega) | omega) _) | (refine Below.alloc ?_ (by first | (simp; done) | (simp; omega) | omega) _) | (refine below_drewN ?_ _) | (refine Below.drew ?_)))) (Nat.le_refl _); generalize (w.alloc (.cells #[.int .i64 m, .slice o t.length c] 32)).alloc (.cells #[.int .i64 0, .slice none 0 0] 34) = w0 at X0 R0 B0 hv0 ⊢)
        (obtain ⟨gqX0, gqX1⟩ := id X0; go_wp2_with fail; refine (l04Is_c m _ t _ hv0).mono ?_; rw [h1]; rintro e w1 ⟨rfl, hb⟩; (have X1 := X0.below hb (Nat.le_refl _); have R1 := R0.below hb (Nat.le_refl _); have hv1 := hv0.below hb (Nat.le_refl _); have B1 := B0.trans (hb.mono B0.size)); clear gqX0 gqX1; clear hb)
        go_wp2_with fail
        refine (l01In_c k (-1000000) 1000000 _).mono ?_
        rw [h2]
        rintro e w2 ⟨rfl, rfl⟩
        have B1s := B1.size
        obtain ⟨x0, x1⟩ := id X1
        go_wp2_with fail
        refine (l02Integers_d m ((t.length : Int) - 1) (t.length - 1) _ (by omega) (by omega) (by omega) (by omega)).mono ?_
        rw [h3]
        rintro e w3 ⟨rfl, rfl⟩
        clear x0 x1
        have X3 := X1
        have R3 := R1
        have B3 := B1
        obtain ⟨x0, x1⟩ := id X3
        (obtain ⟨⟨r0, r1⟩, rf⟩ := id R3; go_wp2; exact bodyPost_ret (v := .tuple #[.agg #[.int .i64 0, .slice none 0 0], .int .i64 5]) (by simp [results, Try.results20, go_sem, r0, r1]) rfl ⟨_, rfl, OwI.nil _ _, (by (repeat (first | exact Below.refl _ _ | (refine Below.setCell ?_ (by first | (simp; done) | (simp; omega) | omega) _) | (refine Below.alloc ?_ (by first | (simp; done) | (simp; omega) | omega) _) | (refine below_drewN ?_ _) | (refine Below.drew ?_) | (refine Below.trans ?_ (Below.mono B3 (by first | (simp; done) | (simp; omega) | omega)))))), by simp [SR.bad]⟩)
      · have hR : mulLR m t k = ⟨m, mulLL m t k, 0⟩ := by simp [mulLR, h1, h2, h3]
        rw [hR]
        have HLL := Lib.hid (logL_len (m := m) (show 2 ≤ t.length by omega))
        have HLR := Lib.hid (logL_range (m := m) (show 0 < m by omega) t)
        have HRl := Lib.hid (revL_len m t.length (logL m t))
        have HRr := Lib.hid (revTo_range (m := m) (show 0 < m by omega) t.length (logL m t) (t.length - 1))
        have HSl := Lib.hid (show (scaleL m k (logL m t)).length = t.length by rw [scaleL_len, HLL.out])
        have HSr := Lib.hid (scaleL_range (m := m) (c := k) (a := logL m t) (show 0 < m by omega))
        have HML := Lib.hid (show horn m t.length (scaleL m k (logL m t)) (revL m t.length (logL m t)) = mulLL m t k from rfl)
        have hlen : (mulLL m t k).length ≤ 1048576 := by rw [mulLL_len]; omega
        clear hR
        go_enter Try.func20, Try.ntmps20
        go_wp2_with fail
        (have X0 := ((RB2.mk1 w  (.int .i64 m) (.slice o t.length c) 32).1).below (w' := ((w.alloc (.cells #[.int .i64 m, .slice o t.length c] 32)).alloc (.cells #[.int .i64 0, .slice none 0 0] 34))) (by (repeat (first | exact Below.refl _ _ | (refine Below.setCell ?_ (by first | (simp; done) | (simp; omega) | omega) _) | (refine Below.alloc ?_ (by first | (simp; done) | (simp; omega) | omega) _) | (refine below_drewN ?_ _) | (refine Below.drew ?_)))) (Nat.le_refl _); have R0 := ((RB2.mk2 w (.cells #[.int .i64 m, .slice o t.length c] 32) (.int .i64 0) (.slice none 0 0) 34)).below (w' := ((w.alloc (.cells #[.int .i64 m, .slice o t.length c] 32)).alloc (.cells #[.int .i64 0, .slice none 0 0] 34))) (by (repeat (first | exact Below.refl _ _ | (refine Below.setCell ?_ (by first | (simp; done) | (simp; omega) | omega) _) | (refine Below.alloc ?_ (by first | (simp; done) | (simp; omega) | omega) _) | (refine below_drewN ?_ _) | (refine Below.drew ?_)))) (Nat.le_refl _); have B0 : Below w.heap.size w ((w.alloc (.cells #[.int .i64 m, .slice o t.length c] 32)).alloc (.cells #[.int .i64 0, .slice none 0 0] 34)) := (by (repeat (first | exact Below.refl _ _ | (refine Below.setCell ?_ (by first | (simp; done) | (simp; omega) | omega) _) | (refine Below.alloc ?_ (by first | (simp; done) | (simp; omega) | omega) _) | (refine below_drewN ?_ _) | (refine Below.drew ?_)))); have hv0 := hv.below (w' := ((w.alloc (.cells #[.int .i64 m, .slice o t.length c] 32)).alloc (.cells #[.int .i64 0, .slice none 0 0] 34))) (by (repeat (first | exact Below.refl _ _ | (refine Below.setCell ?_ (by first | (simp; done) | (simp; omega) | omega) _) | (refine Below.alloc ?_ (by first | (simp; done) | (simp; omega) | omega) _) | (refine below_drewN ?_ _) | (refine Below.drew ?_)))) (Nat.le_refl _); generalize (w.alloc (.cells #[.int .i64 m, .slice o t.length c] 32)).alloc (.cells #[.int .i64 0, .slice none 0 0] 34) = w0 at X0 R0 B0 hv0 ⊢)
        (obtain ⟨gqX0, gqX1⟩ := id X0; go_wp2_with fail; refine (l04Is_c m _ t _ hv0).mono ?_; rw [h1]; rintro e w1 ⟨rfl, hb⟩; (have X1 := X0.below hb (Nat.le_refl _); have R1 := R0.below hb (Nat.le_refl _); have hv1 := hv0.below hb (Nat.le_refl _); have B1 := B0.trans (hb.mono B0.size)); clear gqX0 gqX1; clear hb)
        go_wp2_with fail
        refine (l01In_c k (-1000000) 1000000 _).mono ?_
        rw [h2]
        rintro e w2 ⟨rfl, rfl⟩
        have B1s := B1.size
        obtain ⟨x0, x1⟩ := id X1
        go_wp2_with fail
        refine (l02Integers_d m ((t.length : Int) - 1) (t.length - 1) _ (by omega) (by omega) (by omega) (by omega)).mono ?_
        rw [h3]
        rintro e w3 ⟨rfl, rfl⟩
        clear x0 x1
        have X3 := X1
        have R3 := R1
        have B3 := B1
        have hv3 := hv1
        rename World => w3
        have R3l := R3.1.lt
        have B3s := B3.size
        have e00 : IntKind.i64.wrap (t.length : Int) = (t.length : Int) := IntWalk.i64_in _ (by omega)
        have e01 : IntKind.i64.wrap ((t.length : Int) - 1) = (t.length : Int) - 1 := IntWalk.i64_in _ (by omega)
        go_wp2_with fail
        have hd0 : Below w3.heap.size w3 w3.drew := (Below.refl _ _).drew
        have hsd0 := hd0.size
        obtain ⟨f0_a, f0_b⟩ := ((X3).below (Below.refl w3.heap.size w3) (Nat.le_refl _))
        refine wp_region_K (S := fun w' => w'.cell? ⟨w.heap.size, 0, none⟩ = some (.int .i64 m) ∧ w'.cell? ⟨w.heap.size, 1, none⟩ = some (.slice o t.length c)) [] (by kernel_rfl) ?_
        have hHeld : (fun w' : World => w'.cell? ⟨w.heap.size, 0, none⟩ = some (.int .i64 m) ∧ w'.cell? ⟨w.heap.size, 1, none⟩ = some (.slice o t.length c)) w3.drew := by go_keep
        refine' wpAnyK_takeL (i := 0) (v := _) rfl (by kernel_rfl) (by kernel_rfl) (by kernel_rfl) (by kernel_rfl) (fun _ _ _ h => h) (Or.inl ⟨by rfl, ?yT7⟩) hHeld ?rT7
        case yT7 => (intro w' hSw; (try dsimp only at hSw); go_simp; try with_reducible rfl)
        try simp only [List.getElem_toArray, List.getElem_cons_zero, List.getElem_cons_succ, Act.put, List.setIfInBounds_toArray, List.set_cons_zero, List.set_cons_succ]
        refine' wpAnyK_takeL (i := 2) (v := _) rfl (by kernel_rfl) (by kernel_rfl) (by kernel_rfl) (by kernel_rfl) (fun _ _ _ h => h) (Or.inl ⟨by rfl, ?yT8⟩) hHeld ?rT8
        case yT8 => (intro w' hSw; (try dsimp only at hSw); go_simp; try with_reducible rfl)
        try simp only [List.getElem_toArray, List.getElem_cons_zero, List.getElem_cons_succ, Act.put, List.setIfInBounds_toArray, List.set_cons_zero, List.set_cons_succ]
        refine' wpAnyK_takeL (i := 3) (v := _) rfl (by kernel_rfl) (by kernel_rfl) (by kernel_rfl) (by kernel_rfl) (fun _ _ _ h => h) (Or.inl ⟨by rfl, ?yT9⟩) hHeld ?rT9
        case yT9 => (intro w' hSw; (try dsimp only at hSw); go_simp; try with_reducible rfl)
        try simp only [List.getElem_toArray, List.getElem_cons_zero, List.getElem_cons_succ, Act.put, List.setIfInBounds_toArray, List.set_cons_zero, List.set_cons_succ]
        refine' wpAnyK_takeL (i := 4) (v := _) rfl (by kernel_rfl) (by kernel_rfl) (by kernel_rfl) (by kernel_rfl) (fun _ _ _ h => h) (Or.inl ⟨by rfl, ?yT10⟩) hHeld ?rT10
        case yT10 => (intro w' hSw; (try dsimp only at hSw); go_simp; try with_reducible rfl)
        try simp only [List.getElem_toArray, List.getElem_cons_zero, List.getElem_cons_succ, Act.put, List.setIfInBounds_toArray, List.set_cons_zero, List.set_cons_succ]
        refine' wpAnyK_takeL (i := 5) (v := _) rfl (by kernel_rfl) (by kernel_rfl) (by kernel_rfl) (by kernel_rfl) (fun _ _ _ h => h) (Or.inl ⟨by rfl, ?yT11⟩) hHeld ?rT11
        case yT11 => (intro w' hSw; (try dsimp only at hSw); go_simp; try with_reducible rfl)
        try simp only [List.getElem_toArray, List.getElem_cons_zero, List.getElem_cons_succ, Act.put, List.setIfInBounds_toArray, List.set_cons_zero, List.set_cons_succ]
        refine wpAnyK_oneL (i := 1) rfl (by kernel_rfl) (fun K hK => ?_)
        go_simp
        go_at_call 63
        refine (l05Logarithm_c m t.length _ t _ ((hv3).below (by (repeat (first | exact Below.refl _ _ | (refine Below.setCell ?_ (by first | (simp; done) | (simp; omega) | omega) _) | (refine Below.alloc ?_ (by first | (simp; done) | (simp; omega) | omega) _) | (refine below_drewN ?_ _) | (refine Below.drew ?_)))) (Nat.le_refl _)) (by omega) (by omega) (by omega) (by omega) HT.out).mono ?_
        rintro e wd1 ⟨vl, rfl, hod1, hbd1⟩
        obtain ⟨ol, cl, rfl⟩ := hod1.shapeN (n := t.length) HLL.out
        have hd1 : Below w3.heap.size w3 wd1 := (by (repeat (first | exact Below.refl _ _ | (refine Below.setCell ?_ (by first | (simp; done) | (simp; omega) | omega) _) | (refine Below.alloc ?_ (by first | (simp; done) | (simp; omega) | omega) _) | (refine below_drewN ?_ _) | (refine Below.drew ?_) | (refine Below.trans ?_ (Below.mono hbd1 (by first | (simp; done) | (simp; omega) | omega))))))
        have hsd1 := hd1.size
        obtain ⟨f1_a, f1_b⟩ := ((X3).below hd1 (Nat.le_refl _))
        go_wp2_with fail
        clear hHeld
        have hHeld : (fun w' : World => w'.cell? ⟨w.heap.size, 0, none⟩ = some (.int .i64 m) ∧ w'.cell? ⟨w.heap.size, 1, none⟩ = some (.slice o t.length c)) wd1 := by go_keep
        refine hK.out _ _ (fun _ => hHeld) ?_
        clear hK K
        try simp only [List.getElem_toArray, List.getElem_cons_zero, List.getElem_cons_succ, Act.put, List.setIfInBounds_toArray, List.set_cons_zero, List.set_cons_succ]
        refine wpAnyK_oneL (i := 6) rfl (by kernel_rfl) (fun K hK => ?_)
        go_simp
        (try go_wp2_with fail)
        refine hK.out _ _ (fun _ => hHeld) ?_
        clear hK K
        try simp only [List.getElem_toArray, List.getElem_cons_zero, List.getElem_cons_succ, Act.put, List.setIfInBounds_toArray, List.set_cons_zero, List.set_cons_succ]
        refine wpAnyK_oneL (i := 7) rfl (by kernel_rfl) (fun K hK => ?_)
        go_simp
        (try go_wp2_with fail)
        refine hK.out _ _ (fun _ => hHeld) ?_
        clear hK K
        try simp only [List.getElem_toArray, List.getElem_cons_zero, List.getElem_cons_succ, Act.put, List.setIfInBounds_toArray, List.set_cons_zero, List.set_cons_succ]
        refine wpAnyK_done (by kernel_rfl) ?_ _
        rename World => w4
        have X4 := X3.below hd1 (Nat.le_refl _)
        have R4 := R3.below hd1 (Nat.le_refl _)
        have B4 := B3.trans (hd1.mono B3s)
        have B4s := B4.size
        have hol := hod1.rd
        have m0 : (m == 0) = false := by simp; omega
        have m1 : ¬ m = 0 := by omega
        have t3 : -m < k.tmod m := Int.lt_tmod_of_pos _ (by omega)
        have t4 : k.tmod m < m := Int.tmod_lt_of_pos _ (by omega)
        have e2 : IntKind.i64.wrap (k.tmod m + m) = k.tmod m + m := IntWalk.i64_in _ (by omega)
        have e3 : (k.tmod m + m).tmod m = k % m := by rw [Int.tmod_eq_emod_of_nonneg (by omega)]; exact tmod_mod
        have hkm := mod_lt' (a := k) (show 0 < m by omega)
        have HSM := Lib.hid (scaleL_mod m k (logL m t))
        go_wp2_with fail
        have hd0 : Below w4.heap.size w4 w4.drew := (Below.refl _ _).drew
        have hsd0 := hd0.size
        obtain ⟨f0_a, f0_b⟩ := ((X4).below (Below.refl w4.heap.size w4) (Nat.le_refl _))
        refine wp_region_K (S := fun w' => w'.cell? ⟨w.heap.size, 0, none⟩ = some (.int .i64 m) ∧ w'.cell? ⟨w.heap.size, 1, none⟩ = some (.slice o t.length c)) [] (by kernel_rfl) ?_
        have hHeld : (fun w' : World => w'.cell? ⟨w.heap.size, 0, none⟩ = some (.int .i64 m) ∧ w'.cell? ⟨w.heap.size, 1, none⟩ = some (.slice o t.length c)) w4.drew := by go_keep
        refine' wpAnyK_takeL (i := 0) (v := _) rfl (by kernel_rfl) (by kernel_rfl) (by kernel_rfl) (by kernel_rfl) (fun _ _ _ h => h) (Or.inl ⟨by rfl, ?yT12⟩) hHeld ?rT12
        case yT12 => (intro w' hSw; (try dsimp only at hSw); go_simp; try with_reducible rfl)
        try simp only [List.getElem_toArray, List.getElem_cons_zero, List.getElem_cons_succ, Act.put, List.setIfInBounds_toArray, List.set_cons_zero, List.set_cons_succ]
        refine' wpAnyK_takeL (i := 1) (v := _) rfl (by kernel_rfl) (by kernel_rfl) (by kernel_rfl) (by kernel_rfl) (fun _ _ _ h => h) (Or.inl ⟨by rfl, ?yT13⟩) hHeld ?rT13
        case yT13 => (intro w' hSw; (try dsimp only at hSw); go_simp; try with_reducible rfl)
        try simp only [List.getElem_toArray, List.getElem_cons_zero, List.getElem_cons_succ, Act.put, List.setIfInBounds_toArray, List.set_cons_zero, List.set_cons_succ]
        refine' wpAnyK_takeL (i := 2) (v := _) rfl (by kernel_rfl) (by kernel_rfl) (by kernel_rfl) (by kernel_rfl) (fun _ _ _ h => h) (Or.inl ⟨by rfl, ?yT14⟩) hHeld ?rT14
        case yT14 => (intro w' hSw; (try dsimp only at hSw); go_simp; try with_reducible rfl)
        try simp only [List.getElem_toArray, List.getElem_cons_zero, List.getElem_cons_succ, Act.put, List.setIfInBounds_toArray, List.set_cons_zero, List.set_cons_succ]
        refine' wpAnyK_takeL (i := 3) (v := _) rfl (by kernel_rfl) (by kernel_rfl) (by kernel_rfl) (by kernel_rfl) (fun _ _ _ h => h) (Or.inl ⟨by rfl, ?yT15⟩) hHeld ?rT15
        case yT15 => (intro w' hSw; (try dsimp only at hSw); go_simp; try with_reducible rfl)
        try simp only [List.getElem_toArray, List.getElem_cons_zero, List.getElem_cons_succ, Act.put, List.setIfInBounds_toArray, List.set_cons_zero, List.set_cons_succ]
        refine' wpAnyK_takeL (i := 4) (v := _) rfl (by kernel_rfl) (by kernel_rfl) (by kernel_rfl) (by kernel_rfl) (fun _ _ _ h => h) (Or.inl ⟨by rfl, ?yT16⟩) hHeld ?rT16
        case yT16 => (intro w' hSw; (try dsimp only at hSw); go_simp; try with_reducible rfl)
        try simp only [List.getElem_toArray, List.getElem_cons_zero, List.getElem_cons_succ, Act.put, List.setIfInBounds_toArray, List.set_cons_zero, List.set_cons_succ]
        refine' wpAnyK_takeL (i := 5) (v := _) rfl (by kernel_rfl) (by kernel_rfl) (by kernel_rfl) (by kernel_rfl) (fun _ _ _ h => h) (Or.inl ⟨by rfl, ?yT17⟩) hHeld ?rT17
        case yT17 => (intro w' hSw; (try dsimp only at hSw); go_simp; try with_reducible rfl)
        try simp only [List.getElem_toArray, List.getElem_cons_zero, List.getElem_cons_succ, Act.put, List.setIfInBounds_toArray, List.set_cons_zero, List.set_cons_succ]
        refine' wpAnyK_takeL (i := 6) (v := _) rfl (by kernel_rfl) (by kernel_rfl) (by kernel_rfl) (by kernel_rfl) (fun _ _ _ h => h) (Or.inl ⟨by rfl, ?yT18⟩) hHeld ?rT18
        case yT18 => (intro w' hSw; (try dsimp only at hSw); go_simp; try with_reducible rfl)
        try simp only [List.getElem_toArray, List.getElem_cons_zero, List.getElem_cons_succ, Act.put, List.setIfInBounds_toArray, List.set_cons_zero, List.set_cons_succ]
        refine' wpAnyK_takeL (i := 7) (v := _) rfl (by kernel_rfl) (by kernel_rfl) (by kernel_rfl) (by kernel_rfl) (fun _ _ _ h => h) (Or.inl ⟨by rfl, ?yT19⟩) hHeld ?rT19
        case yT19 => (intro w' hSw; (try dsimp only at hSw); go_simp; try with_reducible rfl)
        try simp only [List.getElem_toArray, List.getElem_cons_zero, List.getElem_cons_succ, Act.put, List.setIfInBounds_toArray, List.set_cons_zero, List.set_cons_succ]
        refine' wpAnyK_takeL (i := 8) (v := _) rfl (by kernel_rfl) (by kernel_rfl) (by kernel_rfl) (by kernel_rfl) (fun _ _ _ h => h) (Or.inl ⟨by rfl, ?yT20⟩) hHeld ?rT20
        case yT20 => (intro w' hSw; (try dsimp only at hSw); go_simp; try with_reducible rfl)
        try simp only [List.getElem_toArray, List.getElem_cons_zero, List.getElem_cons_succ, Act.put, List.setIfInBounds_toArray, List.set_cons_zero, List.set_cons_succ]
        refine' wpAnyK_takeL (i := 9) (v := _) rfl (by kernel_rfl) (by kernel_rfl) (by kernel_rfl) (by kernel_rfl) (fun _ _ _ h => h) (Or.inl ⟨by rfl, ?yT21⟩) hHeld ?rT21
        case yT21 => (intro w' hSw; (try dsimp only at hSw); go_simp; try with_reducible rfl)
        try simp only [List.getElem_toArray, List.getElem_cons_zero, List.getElem_cons_succ, Act.put, List.setIfInBounds_toArray, List.set_cons_zero, List.set_cons_succ]
        refine' wpAnyK_takeL (i := 10) (v := _) rfl (by kernel_rfl) (by kernel_rfl) (by kernel_rfl) (by kernel_rfl) (fun _ _ _ h => h) (Or.inl ⟨by rfl, ?yT22⟩) hHeld ?rT22
        case yT22 => (intro w' hSw; (try dsimp only at hSw); go_simp; try with_reducible rfl)
        try simp only [List.getElem_toArray, List.getElem_cons_zero, List.getElem_cons_succ, Act.put, List.setIfInBounds_toArray, List.set_cons_zero, List.set_cons_succ]
        refine' wpAnyK_takeL (i := 11) (v := _) rfl (by kernel_rfl) (by kernel_rfl) (by kernel_rfl) (by kernel_rfl) (fun _ _ _ h => h) (Or.inl ⟨by rfl, ?yT23⟩) hHeld ?rT23
        case yT23 => (intro w' hSw; (try dsimp only at hSw); go_simp; try with_reducible rfl)
        try simp only [List.getElem_toArray, List.getElem_cons_zero, List.getElem_cons_succ, Act.put, List.setIfInBounds_toArray, List.set_cons_zero, List.set_cons_succ]
        refine' wpAnyK_takeL (i := 12) (v := _) rfl (by kernel_rfl) (by kernel_rfl) (by kernel_rfl) (by kernel_rfl) (fun _ _ _ h => h) (Or.inl ⟨by rfl, ?yT24⟩) hHeld ?rT24
        case yT24 => (intro w' hSw; (try dsimp only at hSw); go_simp; try with_reducible rfl)
        try simp only [List.getElem_toArray, List.getElem_cons_zero, List.getElem_cons_succ, Act.put, List.setIfInBounds_toArray, List.set_cons_zero, List.set_cons_succ]
        refine wpAnyK_oneL (i := 13) rfl (by kernel_rfl) (fun K hK => ?_)
        go_simp
        go_at_call 64
        refine (l02Scale_c m (k % m) _ (logL m t) _ ((hol).below (by (repeat (first | exact Below.refl _ _ | (refine Below.setCell ?_ (by first | (simp; done) | (simp; omega) | omega) _) | (refine Below.alloc ?_ (by first | (simp; done) | (simp; omega) | omega) _) | (refine below_drewN ?_ _) | (refine Below.drew ?_)))) (Nat.le_refl _)) (by rw [HLL.out]; omega) (by omega) (by omega) hkm.1 hkm.2 HLR.out).mono ?_
        rintro e wd1 ⟨vs, rfl, hod1, hbd1⟩
        rw [HSM.out] at hod1; obtain ⟨os, cs, rfl⟩ := hod1.shapeN (n := t.length) HSl.out
        have hd1 : Below w4.heap.size w4 wd1 := (by (repeat (first | exact Below.refl _ _ | (refine Below.setCell ?_ (by first | (simp; done) | (simp; omega) | omega) _) | (refine Below.alloc ?_ (by first | (simp; done) | (simp; omega) | omega) _) | (refine below_drewN ?_ _) | (refine Below.drew ?_) | (refine Below.trans ?_ (Below.mono hbd1 (by first | (simp; done) | (simp; omega) | omega))))))
        have hsd1 := hd1.size
        obtain ⟨f1_a, f1_b⟩ := ((X4).below hd1 (Nat.le_refl _))
        go_wp2_with fail
        clear hHeld
        have hHeld : (fun w' : World => w'.cell? ⟨w.heap.size, 0, none⟩ = some (.int .i64 m) ∧ w'.cell? ⟨w.heap.size, 1, none⟩ = some (.slice o t.length c)) wd1 := by go_keep
        refine hK.out _ _ (fun _ => hHeld) ?_
        clear hK K
        try simp only [List.getElem_toArray, List.getElem_cons_zero, List.getElem_cons_succ, Act.put, List.setIfInBounds_toArray, List.set_cons_zero, List.set_cons_succ]
        refine wpAnyK_oneL (i := 14) rfl (by kernel_rfl) (fun K hK => ?_)
        go_simp
        (try go_wp2_with fail)
        refine hK.out _ _ (fun _ => hHeld) ?_
        clear hK K
        try simp only [List.getElem_toArray, List.getElem_cons_zero, List.getElem_cons_succ, Act.put, List.setIfInBounds_toArray, List.set_cons_zero, List.set_cons_succ]
        refine wpAnyK_done (by kernel_rfl) ?_ _
        rename World => w5
        have X5 := X4.below hd1 (Nat.le_refl _)
        have R5 := R4.below hd1 (Nat.le_refl _)
        have B5 := B4.trans (hd1.mono B4s)
        have hol5 := hol.below hd1 (Nat.le_refl _)
        have hos5 := hod1.rd
        go_wp2_with fail
        have hd0 : Below w5.heap.size w5 w5.drew := (Below.refl _ _).drew
        have hsd0 := hd0.size
        have hrl := R5.1.lt
        have hneR_X5 : w.heap.size + 1 ≠ w.heap.size := by omega
        obtain ⟨⟨q0_R_0, q0_R_1⟩, qf0_R⟩ := R5.below (Below.refl w5.heap.size w5) (Nat.le_refl _)
        obtain ⟨q0_X5_0, q0_X5_1⟩ := X5.below (Below.refl w5.heap.size w5) (Nat.le_refl _)
        go_region_held3 (fun w' => w'.cell? ⟨w.heap.size, 0, none⟩ = some (.int .i64 m) ∧ w'.cell? ⟨w.heap.size, 1, none⟩ = some (.slice o t.length c)) (go_keep)
          (first
            | (go_at_call 67; refine (l02Reverse_c m ((t.length : Int) - 1) t.length _ (logL m t) _ (by omega) ((hol5).below (by (repeat (first | exact Below.refl _ _ | (refine Below.setCell ?_ (by first | (simp; done) | (simp; omega) | omega) _) | (refine Below.alloc ?_ (by first | (simp; done) | (simp; omega) | omega) _) | (refine below_drewN ?_ _) | (refine Below.drew ?_)))) (Nat.le_refl _)) HLL.out (by omega) (by omega) (by omega) (by omega) HLR.out).mono ?_; rintro e wd1 ⟨vr, rfl, hod1, hbd1⟩; obtain ⟨or, cr, rfl⟩ := hod1.shapeN (n := t.length) HRl.out; have hd1 : Below w5.heap.size w5 wd1 := (by (repeat (first | exact Below.refl _ _ | (refine Below.setCell ?_ (by first | (simp; done) | (simp; omega) | omega) _) | (refine Below.alloc ?_ (by first | (simp; done) | (simp; omega) | omega) _) | (refine below_drewN ?_ _) | (refine Below.drew ?_) | (refine Below.trans ?_ (Below.mono hbd1 (by first | (simp; done) | (simp; omega) | omega)))))); have hsd1 := hd1.size; have hsz1_ := hbd1.size; (try simp at hsz1_); obtain ⟨⟨q1_R_0, q1_R_1⟩, qf1_R⟩ := R5.below hd1 (Nat.le_refl _); obtain ⟨q1_X5_0, q1_X5_1⟩ := X5.below hd1 (Nat.le_refl _))
            | (go_at_call 66; refine (l02Compose_c m _ t.length _ _ (revL m t.length (logL m t)) (scaleL m k (logL m t)) _ rfl ((hod1.below (by (repeat (first | exact Below.refl _ _ | (refine Below.setCell ?_ (by first | (simp; done) | (simp; omega) | omega) _) | (refine Below.alloc ?_ (by first | (simp; done) | (simp; omega) | omega) _) | (refine below_drewN ?_ _) | (refine Below.drew ?_)))))).rd ((hos5).below (by (repeat (first | exact Below.refl _ _ | (refine Below.setCell ?_ (by first | (simp; done) | (simp; omega) | omega) _) | (refine Below.alloc ?_ (by first | (simp; done) | (simp; omega) | omega) _) | (refine below_drewN ?_ _) | (refine Below.drew ?_) | (refine Below.trans ?_ (Below.mono hbd1 (by first | (simp; done) | (simp; omega) | omega)))))) (Nat.le_refl _)) (by omega) (by rw [HRl.out]; omega) (by omega) (by omega) (by omega) HRr.out HSr.out).mono ?_; rintro e wd2 ⟨vk, rfl, hod2, hbd2⟩; rw [List.take_of_length_le (by rw [HRl.out]; omega), HML.out] at hod2; obtain ⟨ok, ck, rfl⟩ := hod2.shapeN (n := t.length) (mulLL_len _ _ _); have hd2 : Below w5.heap.size w5 wd2 := (by (repeat (first | exact Below.refl _ _ | (refine Below.setCell ?_ (by first | (simp; done) | (simp; omega) | omega) _) | (refine Below.alloc ?_ (by first | (simp; done) | (simp; omega) | omega) _) | (refine below_drewN ?_ _) | (refine Below.drew ?_) | (refine Below.trans ?_ (Below.mono hbd1 (by first | (simp; done) | (simp; omega) | omega))) | (refine Below.trans ?_ (Below.mono hbd2 (by first | (simp; done) | (simp; omega) | omega)))))); have hsd2 := hd2.size; have hsz2_ := hbd2.size; (try simp at hsz2_); obtain ⟨⟨q2_R_0, q2_R_1⟩, qf2_R⟩ := R5.below hd2 (Nat.le_refl _); obtain ⟨q2_X5_0, q2_X5_1⟩ := X5.below hd2 (Nat.le_refl _))
            | (go_at_call 65; refine (l02Make_c m _ _ _ _).mono ?_; rintro e wd3 ⟨rfl, hbd3⟩; have hd3 : Below w5.heap.size w5 wd3 := (by (repeat (first | exact Below.refl _ _ | (refine Below.setCell ?_ (by first | (simp; done) | (simp; omega) | omega) _) | (refine Below.alloc ?_ (by first | (simp; done) | (simp; omega) | omega) _) | (refine below_drewN ?_ _) | (refine Below.drew ?_) | (refine Below.trans ?_ (Below.mono hbd1 (by first | (simp; done) | (simp; omega) | omega))) | (refine Below.trans ?_ (Below.mono hbd2 (by first | (simp; done) | (simp; omega) | omega))) | (refine Below.trans ?_ (Below.mono hbd3 (by first | (simp; done) | (simp; omega) | omega)))))); have hsd3 := hd3.size; have hsz3_ := hbd3.size; (try simp at hsz3_); obtain ⟨⟨q3_R_0, q3_R_1⟩, qf3_R⟩ := R5.below hd3 (Nat.le_refl _); obtain ⟨q3_X5_0, q3_X5_1⟩ := X5.below hd3 (Nat.le_refl _)))
        go_wp2
        refine bodyPost_ret (v := .tuple #[.agg #[.int .i64 m, .slice ok t.length ck], .int .i64 0]) (by simp [results, Try.results20, go_sem, q3_R_0, q3_R_1]) rfl ⟨_, rfl, ?_, ?_, hlen⟩
        · have hbsz := B5.size
          exact (((hod2.below (by (repeat (first | exact Below.refl _ _ | (refine Below.setCell ?_ (by first | (simp; done) | (simp; omega) | omega) _) | (refine Below.alloc ?_ (by first | (simp; done) | (simp; omega) | omega) _) | (refine below_drewN ?_ _) | (refine Below.drew ?_) | (refine Below.trans ?_ (Below.mono hbd3 (by first | (simp; done) | (simp; omega) | omega))))))).low (by first | (simp; done) | (simp; omega) | omega) _).low (by first | (simp; done) | (simp; omega) | omega) _).mono (by first | (simp; done) | (simp; omega) | omega)
        · have hbsz := B5.size
          (repeat (first | exact Below.refl _ _ | (refine Below.setCell ?_ (by first | (simp; done) | (simp; omega) | omega) _) | (refine Below.alloc ?_ (by first | (simp; done) | (simp; omega) | omega) _) | (refine below_drewN ?_ _) | (refine Below.drew ?_) | (refine Below.trans ?_ (Below.mono hbd1 (by first | (simp; done) | (simp; omega) | omega))) | (refine Below.trans ?_ (Below.mono hbd2 (by first | (simp; done) | (simp; omega) | omega))) | (refine Below.trans ?_ (Below.mono hbd3 (by first | (simp; done) | (simp; omega) | omega))) | (refine Below.trans ?_ (Below.mono B5 (by first | (simp; done) | (simp; omega) | omega)))))

end Go.Proofs.Ytdnkadlondediaa
