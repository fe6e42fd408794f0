/- Lemmas of Hom. -/
import Derived.Test.YtdnkadlondediaaQcCoo
import Derived.Test.YtdnkadlondediaaQcG5
set_option linter.unusedSimpArgs false
set_option linter.unusedVariables false
namespace Go.Proofs.Ytdnkadlondediaa
open Go.RowKit

def homB (m : Int) (n : Nat) (t s : List (List Int)) (xs : List Int) : Bool := eqTB (hornT m n t xs) (botL m n s xs xs)
set_option maxHeartbeats 2000000 in
set_option maxRecDepth 100000 in
theorem isHomomorphism_c (m : Int) (n : Nat) (v u u' : Value) (t s : List (List Int)) (xs : List Int) (b : Bool) (w : World) (hv : RdT w v t) (hu : RdT w u s) (hu' : RdI w u' xs) (hl : xs.length = n) (h1 : 2 ≤ n) (hn : n ≤ 1000) (hm : 2 ≤ m) (hm' : m ≤ 10000) (ht : PlaT m n t) (hs : PlaT m n s)
    (hx : ∀ x ∈ xs, 0 ≤ x ∧ x < m) (hb : homB m n t s xs = b) :
    Calls Try.prog 83 #[.agg #[.int .i64 m, v], .agg #[.int .i64 m, u], .agg #[.int .i64 m, u']] w fun e w' => e = .returned (.bool b) ∧ Below w.heap.size w w' := by
  subst hl
  obtain ⟨o, c, rfl, -, -⟩ := id hv
  obtain ⟨o1, c1, rfl, -, -⟩ := id hu
  obtain ⟨o2, c2, rfl, -, -⟩ := id hu'
  have hv2 : RdT w (.slice o xs.length c) t := by rw [ht.1] at hv; exact hv
  have hu2 : RdT w (.slice o1 xs.length c1) s := by rw [hs.1] at hu; exact hu
  rw [ht.1, hs.1]
  have HT := Lib.hid ht
  have HS := Lib.hid hs
  have HTh := Lib.hid (hornT_len m xs.length t xs)
  have HBl := Lib.hid (botM_len m xs.length s xs xs)
  have HE := Lib.hid (show eqPB m (hornT m xs.length t xs) m (botL m xs.length s xs xs) = b by simp [eqPB, ← hb, homB])
  clear ht hs hv hu hb
  go_enter Try.func83, Try.ntmps83
  go_wp2_with fail
  (have X0 := ((RB2.mk1 w  (.int .i64 m) (.slice o xs.length c) 32).1).below (w' := (((w.alloc (.cells #[.int .i64 m, .slice o xs.length c] 32)).alloc (.cells #[.int .i64 m, .slice o1 xs.length c1] 32)).alloc (.cells #[.int .i64 m, .slice o2 xs.length c2] 34))) (by (repeat (first | exact Below.refl _ _ | (refine Below.setCell ?_ (by first | (simp; done) | (simp; omega) | omega) _) | (refine Below.alloc ?_ (by first | (simp; done) | (simp; omega) | omega) _) | (refine below_drewN ?_ _) | (refine Below.drew ?_)))) (Nat.le_refl _); have Y0 := ((RB2.mk2 w (.cells #[.int .i64 m, .slice o xs.length c] 32) (.int .i64 m) (.slice o1 xs.length c1) 32).1).below (w' := (((w.alloc (.cells #[.int .i64 m, .slice o xs.length c] 32)).alloc (.cells #[.int .i64 m, .slice o1 xs.length c1] 32)).alloc (.cells #[.int .i64 m, .slice o2 xs.length c2] 34))) (by (repeat (first | exact Below.refl _ _ | (refine Below.setCell ?_ (by first | (simp; done) | (simp; omega) | omega) _) | (refine Below.alloc ?_ (by first | (simp; done) | (simp; omega) | omega) _) | (refine below_drewN ?_ _) | (refine Below.drew ?_)))) (Nat.le_refl _); have Z0 := ((RB2.mk3 w (.cells #[.int .i64 m, .slice o xs.length c] 32) (.cells #[.int .i64 m, .slice o1 xs.length c1] 32) (.int .i64 m) (.slice o2 xs.length c2) 34).1).below (w' := (((w.alloc (.cells #[.int .i64 m, .slice o xs.length c] 32)).alloc (.cells #[.int .i64 m, .slice o1 xs.length c1] 32)).alloc (.cells #[.int .i64 m, .slice o2 xs.length c2] 34))) (by (repeat (first | exact Below.refl _ _ | (refine Below.setCell ?_ (by first | (simp; done) | (simp; omega) | omega) _) | (refine Below.alloc ?_ (by first | (simp; done) | (simp; omega) | omega) _) | (refine below_drewN ?_ _) | (refine Below.drew ?_)))) (Nat.le_refl _); have B0 : Below w.heap.size w (((w.alloc (.cells #[.int .i64 m, .slice o xs.length c] 32)).alloc (.cells #[.int .i64 m, .slice o1 xs.length c1] 32)).alloc (.cells #[.int .i64 m, .slice o2 xs.length c2] 34)) := (by (repeat (first | exact Below.refl _ _ | (refine Below.setCell ?_ (by first | (simp; done) | (simp; omega) | omega) _) | (refine Below.alloc ?_ (by first | (simp; done) | (simp; omega) | omega) _) | (refine below_drewN ?_ _) | (refine Below.drew ?_)))); have hv20 := hv2.below (w' := (((w.alloc (.cells #[.int .i64 m, .slice o xs.length c] 32)).alloc (.cells #[.int .i64 m, .slice o1 xs.length c1] 32)).alloc (.cells #[.int .i64 m, .slice o2 xs.length c2] 34))) (by (repeat (first | exact Below.refl _ _ | (refine Below.setCell ?_ (by first | (simp; done) | (simp; omega) | omega) _) | (refine Below.alloc ?_ (by first | (simp; done) | (simp; omega) | omega) _) | (refine below_drewN ?_ _) | (refine Below.drew ?_)))) (Nat.le_refl _); have hu20 := hu2.below (w' := (((w.alloc (.cells #[.int .i64 m, .slice o xs.length c] 32)).alloc (.cells #[.int .i64 m, .slice o1 xs.length c1] 32)).alloc (.cells #[.int .i64 m, .slice o2 xs.length c2] 34))) (by (repeat (first | exact Below.refl _ _ | (refine Below.setCell ?_ (by first | (simp; done) | (simp; omega) | omega) _) | (refine Below.alloc ?_ (by first | (simp; done) | (simp; omega) | omega) _) | (refine below_drewN ?_ _) | (refine Below.drew ?_)))) (Nat.le_refl _); have hu'0 := hu'.below (w' := (((w.alloc (.cells #[.int .i64 m, .slice o xs.length c] 32)).alloc (.cells #[.int .i64 m, .slice o1 xs.length c1] 32)).alloc (.cells #[.int .i64 m, .slice o2 xs.length c2] 34))) (by (repeat (first | exact Below.refl _ _ | (refine Below.setCell ?_ (by first | (simp; done) | (simp; omega) | omega) _) | (refine Below.alloc ?_ (by first | (simp; done) | (simp; omega) | omega) _) | (refine below_drewN ?_ _) | (refine Below.drew ?_)))) (Nat.le_refl _); generalize ((w.alloc (.cells #[.int .i64 m, .slice o xs.length c] 32)).alloc (.cells #[.int .i64 m, .slice o1 xs.length c1] 32)).alloc (.cells #[.int .i64 m, .slice o2 xs.length c2] 34) = w0 at X0 Y0 Z0 B0 hv20 hu20 hu'0 ⊢)
  have hne2 : ¬ (w.heap.size + 2 = w.heap.size) := by omega
  have B0s := B0.size
  go_wp2_with fail
  have hd0 : Below w0.heap.size w0 w0.drew := (Below.refl _ _).drew
  have hsd0 := hd0.size
  obtain ⟨f0_a, f0_b⟩ := ((X0).below (Below.refl w0.heap.size w0) (Nat.le_refl _))
  obtain ⟨f0_c, f0_d⟩ := ((Y0).below (Below.refl w0.heap.size w0) (Nat.le_refl _))
  obtain ⟨f0_e, f0_f⟩ := ((Z0).below (Below.refl w0.heap.size w0) (Nat.le_refl _))
  refine wp_region_K (S := fun w' => w'.cell? ⟨w.heap.size, 0, none⟩ = some (.int .i64 m) ∧ w'.cell? ⟨w.heap.size, 1, none⟩ = some (.slice o xs.length c) ∧ w'.cell? ⟨w.heap.size + 1, 0, none⟩ = some (.int .i64 m) ∧ w'.cell? ⟨w.heap.size + 1, 1, none⟩ = some (.slice o1 xs.length c1) ∧ w'.cell? ⟨w.heap.size + 2, 0, none⟩ = some (.int .i64 m) ∧ w'.cell? ⟨w.heap.size + 2, 1, none⟩ = some (.slice o2 xs.length c2)) [] (by kernel_rfl) ?_
  have hHeld : (fun w' : World => w'.cell? ⟨w.heap.size, 0, none⟩ = some (.int .i64 m) ∧ w'.cell? ⟨w.heap.size, 1, none⟩ = some (.slice o xs.length c) ∧ w'.cell? ⟨w.heap.size + 1, 0, none⟩ = some (.int .i64 m) ∧ w'.cell? ⟨w.heap.size + 1, 1, none⟩ = some (.slice o1 xs.length c1) ∧ w'.cell? ⟨w.heap.size + 2, 0, none⟩ = some (.int .i64 m) ∧ w'.cell? ⟨w.heap.size + 2, 1, none⟩ = some (.slice o2 xs.length c2)) w0.drew := by go_keep
  refine' wpAnyK_takeL (i := 0) (v := _) rfl (by kernel_rfl) (by kernel_rfl) (by kernel_rfl) (by kernel_rfl) (fun _ _ _ h => h) (Or.inl ⟨by rfl, ?yT1⟩) hHeld ?rT1
  case yT1 => (intro w' hSw; (try dsimp only at hSw); go_simp; try with_reducible rfl)
  try simp only [List.getElem_toArray, List.getElem_cons_zero, List.getElem_cons_succ, Act.put, List.setIfInBounds_toArray, List.set_cons_zero, List.set_cons_succ]
  refine' wpAnyK_takeL (i := 1) (v := _) rfl (by kernel_rfl) (by kernel_rfl) (by kernel_rfl) (by kernel_rfl) (fun _ _ _ h => h) (Or.inl ⟨by rfl, ?yT2⟩) hHeld ?rT2
  case yT2 => (intro w' hSw; (try dsimp only at hSw); go_simp; try with_reducible rfl)
  try simp only [List.getElem_toArray, List.getElem_cons_zero, List.getElem_cons_succ, Act.put, List.setIfInBounds_toArray, List.set_cons_zero, List.set_cons_succ]
  refine' wpAnyK_takeL (i := 3) (v := _) rfl (by kernel_rfl) (by kernel_rfl) (by kernel_rfl) (by kernel_rfl) (fun _ _ _ h => h) (Or.inl ⟨by rfl, ?yT3⟩) hHeld ?rT3
  case yT3 => (intro w' hSw; (try dsimp only at hSw); go_simp; try with_reducible rfl)
  try simp only [List.getElem_toArray, List.getElem_cons_zero, List.getElem_cons_succ, Act.put, List.setIfInBounds_toArray, List.set_cons_zero, List.set_cons_succ]
  refine' wpAnyK_takeL (i := 4) (v := _) rfl (by kernel_rfl) (by kernel_rfl) (by kernel_rfl) (by kernel_rfl) (fun _ _ _ h => h) (Or.inl ⟨by rfl, ?yT4⟩) hHeld ?rT4
  case yT4 => (intro w' hSw; (try dsimp only at hSw); go_simp; try with_reducible rfl)
  try simp only [List.getElem_toArray, List.getElem_cons_zero, List.getElem_cons_succ, Act.put, List.setIfInBounds_toArray, List.set_cons_zero, List.set_cons_succ]
  refine' wpAnyK_takeL (i := 5) (v := _) rfl (by kernel_rfl) (by kernel_rfl) (by kernel_rfl) (by kernel_rfl) (fun _ _ _ h => h) (Or.inl ⟨by rfl, ?yT5⟩) hHeld ?rT5
  case yT5 => (intro w' hSw; (try dsimp only at hSw); go_simp; try with_reducible rfl)
  try simp only [List.getElem_toArray, List.getElem_cons_zero, List.getElem_cons_succ, Act.put, List.setIfInBounds_toArray, List.set_cons_zero, List.set_cons_succ]
  refine wpAnyK_oneL (i := 2) rfl (by kernel_rfl) (fun K hK => ?_)
  go_simp
  go_at_call 55
  refine (ofS_c m m xs.length _ _ xs t _ ((hu'0).below (by (repeat (first | exact Below.refl _ _ | (refine Below.setCell ?_ (by first | (simp; done) | (simp; omega) | omega) _) | (refine Below.alloc ?_ (by first | (simp; done) | (simp; omega) | omega) _) | (refine below_drewN ?_ _) | (refine Below.drew ?_)))) (Nat.le_refl _)) ((hv20).below (by (repeat (first | exact Below.refl _ _ | (refine Below.setCell ?_ (by first | (simp; done) | (simp; omega) | omega) _) | (refine Below.alloc ?_ (by first | (simp; done) | (simp; omega) | omega) _) | (refine below_drewN ?_ _) | (refine Below.drew ?_)))) (Nat.le_refl _)) (by omega) (by omega) (by omega) (by omega) hm (by omega) hx HT.out).mono ?_
  rintro e wd1 ⟨vl, rfl, hod1, hbd1⟩
  obtain ⟨ol, cl, rfl⟩ := hod1.shapeN (n := xs.length) HTh.out
  have hd1 : Below w0.heap.size w0 wd1 := (by (repeat (first | exact Below.refl _ _ | (refine Below.setCell ?_ (by first | (simp; done) | (simp; omega) | omega) _) | (refine Below.alloc ?_ (by first | (simp; done) | (simp; omega) | omega) _) | (refine below_drewN ?_ _) | (refine Below.drew ?_) | (refine Below.trans ?_ (Below.mono hbd1 (by first | (simp; done) | (simp; omega) | omega))))))
  have hsd1 := hd1.size
  have hsz1_ := hbd1.size
  (try simp at hsz1_)
  obtain ⟨f1_a, f1_b⟩ := ((X0).below hd1 (Nat.le_refl _))
  obtain ⟨f1_c, f1_d⟩ := ((Y0).below hd1 (Nat.le_refl _))
  obtain ⟨f1_e, f1_f⟩ := ((Z0).below hd1 (Nat.le_refl _))
  go_wp2_with fail
  clear hHeld
  have hHeld : (fun w' : World => w'.cell? ⟨w.heap.size, 0, none⟩ = some (.int .i64 m) ∧ w'.cell? ⟨w.heap.size, 1, none⟩ = some (.slice o xs.length c) ∧ w'.cell? ⟨w.heap.size + 1, 0, none⟩ = some (.int .i64 m) ∧ w'.cell? ⟨w.heap.size + 1, 1, none⟩ = some (.slice o1 xs.length c1) ∧ w'.cell? ⟨w.heap.size + 2, 0, none⟩ = some (.int .i64 m) ∧ w'.cell? ⟨w.heap.size + 2, 1, none⟩ = some (.slice o2 xs.length c2)) wd1 := by go_keep
  refine hK.out _ _ (fun _ => hHeld) ?_
  clear hK K
  try simp only [List.getElem_toArray, List.getElem_cons_zero, List.getElem_cons_succ, Act.put, List.setIfInBounds_toArray, List.set_cons_zero, List.set_cons_succ]
  refine wpAnyK_oneL (i := 6) rfl (by kernel_rfl) (fun K hK => ?_)
  go_simp
  go_at_call 144
  refine (bothP_c m xs.length _ _ _ s xs xs _ ((hu20).below (by (repeat (first | exact Below.refl _ _ | (refine Below.setCell ?_ (by first | (simp; done) | (simp; omega) | omega) _) | (refine Below.alloc ?_ (by first | (simp; done) | (simp; omega) | omega) _) | (refine below_drewN ?_ _) | (refine Below.drew ?_) | (refine Below.trans ?_ (Below.mono hbd1 (by first | (simp; done) | (simp; omega) | omega)))))) (Nat.le_refl _)) ((hu'0).below (by (repeat (first | exact Below.refl _ _ | (refine Below.setCell ?_ (by first | (simp; done) | (simp; omega) | omega) _) | (refine Below.alloc ?_ (by first | (simp; done) | (simp; omega) | omega) _) | (refine below_drewN ?_ _) | (refine Below.drew ?_) | (refine Below.trans ?_ (Below.mono hbd1 (by first | (simp; done) | (simp; omega) | omega)))))) (Nat.le_refl _)) ((hu'0).below (by (repeat (first | exact Below.refl _ _ | (refine Below.setCell ?_ (by first | (simp; done) | (simp; omega) | omega) _) | (refine Below.alloc ?_ (by first | (simp; done) | (simp; omega) | omega) _) | (refine below_drewN ?_ _) | (refine Below.drew ?_) | (refine Below.trans ?_ (Below.mono hbd1 (by first | (simp; done) | (simp; omega) | omega)))))) (Nat.le_refl _)) rfl rfl (by omega) (by omega) hm hm' HS.out hx hx).mono ?_
  rintro e wd2 ⟨vb, rfl, hod2, hbd2⟩
  obtain ⟨ob, cb, rfl⟩ := hod2.shapeN (n := xs.length) HBl.out
  have hd2 : Below w0.heap.size w0 wd2 := (by (repeat (first | exact Below.refl _ _ | (refine Below.setCell ?_ (by first | (simp; done) | (simp; omega) | omega) _) | (refine Below.alloc ?_ (by first | (simp; done) | (simp; omega) | omega) _) | (refine below_drewN ?_ _) | (refine Below.drew ?_) | (refine Below.trans ?_ (Below.mono hbd1 (by first | (simp; done) | (simp; omega) | omega))) | (refine Below.trans ?_ (Below.mono hbd2 (by first | (simp; done) | (simp; omega) | omega))))))
  have hsd2 := hd2.size
  have hsz2_ := hbd2.size
  (try simp at hsz2_)
  obtain ⟨f2_a, f2_b⟩ := ((X0).below hd2 (Nat.le_refl _))
  obtain ⟨f2_c, f2_d⟩ := ((Y0).below hd2 (Nat.le_refl _))
  obtain ⟨f2_e, f2_f⟩ := ((Z0).below hd2 (Nat.le_refl _))
  go_wp2_with fail
  clear hHeld
  have hHeld : (fun w' : World => w'.cell? ⟨w.heap.size, 0, none⟩ = some (.int .i64 m) ∧ w'.cell? ⟨w.heap.size, 1, none⟩ = some (.slice o xs.length c) ∧ w'.cell? ⟨w.heap.size + 1, 0, none⟩ = some (.int .i64 m) ∧ w'.cell? ⟨w.heap.size + 1, 1, none⟩ = some (.slice o1 xs.length c1) ∧ w'.cell? ⟨w.heap.size + 2, 0, none⟩ = some (.int .i64 m) ∧ w'.cell? ⟨w.heap.size + 2, 1, none⟩ = some (.slice o2 xs.length c2)) wd2 := by go_keep
  refine hK.out _ _ (fun _ => hHeld) ?_
  clear hK K
  try simp only [List.getElem_toArray, List.getElem_cons_zero, List.getElem_cons_succ, Act.put, List.setIfInBounds_toArray, List.set_cons_zero, List.set_cons_succ]
  refine wpAnyK_oneL (i := 7) rfl (by kernel_rfl) (fun K hK => ?_)
  go_simp
  go_at_call 56
  refine (sameP_c m m _ _ (hornT m xs.length t xs) (botL m xs.length s xs xs) _ ((hod1.below (by (repeat (first | exact Below.refl _ _ | (refine Below.setCell ?_ (by first | (simp; done) | (simp; omega) | omega) _) | (refine Below.alloc ?_ (by first | (simp; done) | (simp; omega) | omega) _) | (refine below_drewN ?_ _) | (refine Below.drew ?_) | (refine Below.trans ?_ (Below.mono hbd2 (by first | (simp; done) | (simp; omega) | omega)))))))).rd ((hod2.below (by (repeat (first | exact Below.refl _ _ | (refine Below.setCell ?_ (by first | (simp; done) | (simp; omega) | omega) _) | (refine Below.alloc ?_ (by first | (simp; done) | (simp; omega) | omega) _) | (refine below_drewN ?_ _) | (refine Below.drew ?_)))))).rd).mono ?_
  rintro e wd3 ⟨hq, hbd3⟩
  rw [HE.out] at hq; subst hq
  have hd3 : Below w0.heap.size w0 wd3 := (by (repeat (first | exact Below.refl _ _ | (refine Below.setCell ?_ (by first | (simp; done) | (simp; omega) | omega) _) | (refine Below.alloc ?_ (by first | (simp; done) | (simp; omega) | omega) _) | (refine below_drewN ?_ _) | (refine Below.drew ?_) | (refine Below.trans ?_ (Below.mono hbd1 (by first | (simp; done) | (simp; omega) | omega))) | (refine Below.trans ?_ (Below.mono hbd2 (by first | (simp; done) | (simp; omega) | omega))) | (refine Below.trans ?_ (Below.mono hbd3 (by first | (simp; done) | (simp; omega) | omega))))))
  have hsd3 := hd3.size
  have hsz3_ := hbd3.size
  (try simp at hsz3_)
  obtain ⟨f3_a, f3_b⟩ := ((X0).below hd3 (Nat.le_refl _))
  obtain ⟨f3_c, f3_d⟩ := ((Y0).below hd3 (Nat.le_refl _))
  obtain ⟨f3_e, f3_f⟩ := ((Z0).below hd3 (Nat.le_refl _))
  go_wp2_with fail
  clear hHeld
  have hHeld : (fun w' : World => w'.cell? ⟨w.heap.size, 0, none⟩ = some (.int .i64 m) ∧ w'.cell? ⟨w.heap.size, 1, none⟩ = some (.slice o xs.length c) ∧ w'.cell? ⟨w.heap.size + 1, 0, none⟩ = some (.int .i64 m) ∧ w'.cell? ⟨w.heap.size + 1, 1, none⟩ = some (.slice o1 xs.length c1) ∧ w'.cell? ⟨w.heap.size + 2, 0, none⟩ = some (.int .i64 m) ∧ w'.cell? ⟨w.heap.size + 2, 1, none⟩ = some (.slice o2 xs.length c2)) wd3 := by go_keep
  refine hK.out _ _ (fun _ => hHeld) ?_
  clear hK K
  try simp only [List.getElem_toArray, List.getElem_cons_zero, List.getElem_cons_succ, Act.put, List.setIfInBounds_toArray, List.set_cons_zero, List.set_cons_succ]
  refine wpAnyK_oneL (i := 8) rfl (by kernel_rfl) (fun K hK => ?_)
  go_simp
  (try go_wp2_with fail)
  refine hK.out _ _ (fun _ => hHeld) ?_
  clear hK K
  try simp only [List.getElem_toArray, List.getElem_cons_zero, List.getElem_cons_succ, Act.put, List.setIfInBounds_toArray, List.set_cons_zero, List.set_cons_succ]
  refine wpAnyK_done (by kernel_rfl) ?_ _
  go_wp2_with fail
  have B1 := B0.trans (hd3.mono B0s)
  go_wp2
  go_ret
  exact ⟨rfl, B1⟩

set_option maxHeartbeats 2000000 in
set_option maxRecDepth 100000 in
theorem l06Fits_c (m : Int) (n : Nat) (v u u' : Value) (t s : List (List Int)) (xs : List Int) (w : World) (hv : RdT w v t) (hu : RdT w u s) (hu' : RdI w u' xs) (hl : xs.length = n) (h1 : 1 ≤ n) (hn : n ≤ 1000) (hm : 2 ≤ m) (hm' : m ≤ 10000) (ht : PlaT m n t) (hs : PlaT m n s)
    (hx : ∀ x ∈ xs, 0 ≤ x ∧ x < m) (hx0 : at0 xs 0 = 0) :
    Calls Try.prog 79 #[.int .i64 m, v, u, u'] w fun e w' => e = .returned (.bool (homB m n t s xs)) ∧ Below w.heap.size w w' := by
  have H0 := Lib.hid hx0
  clear hx0
  go_enter Try.func79, Try.ntmps79
  go_wp2_with fail
  refine (l03After_c m n _ _ xs t _ hu' hv (by omega) (by omega) (by omega) (by omega) (by omega) hx ht).mono ?_
  rintro e w1 ⟨vl, rfl, hol, B1⟩
  obtain ⟨ol, cl, rfl⟩ := hol.shapeN (n := n) (hornT_len _ _ _ _)
  go_wp2_with fail
  refine (l03Both2_c m n _ _ s xs _ (hu.below B1 (Nat.le_refl _)) (hu'.below B1 (Nat.le_refl _)) hl (by omega) (by omega) hm hm' hs hx H0.out).mono ?_
  rintro e w2 ⟨vb, rfl, hob, hb2⟩
  obtain ⟨ob, cb, rfl⟩ := hob.shapeN (n := n) (botM_len _ _ _ _ _)
  have B2 := B1.trans (hb2.mono B1.size)
  go_wp2_with fail
  refine (l01Same2_c _ _ (hornT m n t xs) (botL m n s xs xs) _ (hol.rd.below hb2 (Nat.le_refl _)) hob.rd).mono ?_
  rintro e w3 ⟨rfl, d, rfl⟩
  go_wp2
  go_ret
  exact ⟨rfl, (by (repeat (first | exact Below.refl _ _ | (refine Below.setCell ?_ (by first | (simp; done) | (simp; omega) | omega) _) | (refine Below.alloc ?_ (by first | (simp; done) | (simp; omega) | omega) _) | (refine below_drewN ?_ _) | (refine Below.drew ?_) | (refine Below.trans ?_ (Below.mono B2 (by first | (simp; done) | (simp; omega) | omega))))))⟩

end Go.Proofs.Ytdnkadlondediaa
