/- Lemmas of Opp. -/
import Derived.Test.YtdnkadlondediaaQbInvL
import Derived.Test.YtdnkadlondediaaQbSerQ
set_option linter.unusedSimpArgs false
set_option linter.unusedVariables false
namespace Go.Proofs.Ytdnkadlondediaa
open Go.RowKit

set_option maxHeartbeats 2000000 in
set_option maxRecDepth 100000 in
theorem opposite_c (m m' : Int) (n : Nat) (v u : Value) (t : List (List Int)) (xs : List Int) (w : World) (hv : RdT w v t) (hu : RdI w u xs) (hl : xs.length = n) (h1 : 2 ≤ n) (hn : n ≤ 1000) (hm : 2 ≤ m) (hm' : m ≤ 10000) (ht : PlaT m n t) (hx : ∀ x ∈ xs, 0 ≤ x ∧ x < m) :
    Calls Try.prog 99 #[.agg #[.int .i64 m, v], .agg #[.int .i64 m', u]] w fun e w' => SVEnd w w' m (horn m n xs (invL m n t)) e := by
  subst hl
  obtain ⟨o, c, rfl, -, -⟩ := id hv
  obtain ⟨o', c', rfl, -, -⟩ := id hu
  have hv' : RdT w (.slice o xs.length c) t := by rw [ht.1] at hv; exact hv
  rw [ht.1]
  have HT := Lib.hid ht
  have hIl := invL_len m xs.length t
  have hIr : ∀ x ∈ invL m xs.length t, 0 ≤ x ∧ x < m := invTo_range (m := m) (show 0 < m by omega) xs.length t (xs.length - 1)
  generalize hil : invL m xs.length t = il at hIl hIr ⊢
  have HIL := Lib.hid hil
  have HIl := Lib.hid hIl
  have HIr := Lib.hid hIr
  clear ht hv hil hIl hIr
  go_enter Try.func99, Try.ntmps99
  go_wp2_with fail
  (have X0 := ((RB2.mk1 w  (.int .i64 m) (.slice o xs.length c) 32).1).below (w' := (((w.alloc (.cells #[.int .i64 m, .slice o xs.length c] 32)).alloc (.cells #[.int .i64 m', .slice o' xs.length c'] 34)).alloc (.cells #[.int .i64 0, .slice none 0 0] 34))) (by (repeat (first | exact Below.refl _ _ | (refine Below.setCell ?_ (by first | (simp; done) | (simp; omega) | omega) _) | (refine Below.alloc ?_ (by first | (simp; done) | (simp; omega) | omega) _) | (refine below_drewN ?_ _) | (refine Below.drew ?_)))) (Nat.le_refl _); have Y0 := ((RB2.mk2 w (.cells #[.int .i64 m, .slice o xs.length c] 32) (.int .i64 m') (.slice o' xs.length c') 34).1).below (w' := (((w.alloc (.cells #[.int .i64 m, .slice o xs.length c] 32)).alloc (.cells #[.int .i64 m', .slice o' xs.length c'] 34)).alloc (.cells #[.int .i64 0, .slice none 0 0] 34))) (by (repeat (first | exact Below.refl _ _ | (refine Below.setCell ?_ (by first | (simp; done) | (simp; omega) | omega) _) | (refine Below.alloc ?_ (by first | (simp; done) | (simp; omega) | omega) _) | (refine below_drewN ?_ _) | (refine Below.drew ?_)))) (Nat.le_refl _); have R0 := ((RB2.mk3 w (.cells #[.int .i64 m, .slice o xs.length c] 32) (.cells #[.int .i64 m', .slice o' xs.length c'] 34) (.int .i64 0) (.slice none 0 0) 34)).below (w' := (((w.alloc (.cells #[.int .i64 m, .slice o xs.length c] 32)).alloc (.cells #[.int .i64 m', .slice o' xs.length c'] 34)).alloc (.cells #[.int .i64 0, .slice none 0 0] 34))) (by (repeat (first | exact Below.refl _ _ | (refine Below.setCell ?_ (by first | (simp; done) | (simp; omega) | omega) _) | (refine Below.alloc ?_ (by first | (simp; done) | (simp; omega) | omega) _) | (refine below_drewN ?_ _) | (refine Below.drew ?_)))) (Nat.le_refl _); have B0 : Below w.heap.size w (((w.alloc (.cells #[.int .i64 m, .slice o xs.length c] 32)).alloc (.cells #[.int .i64 m', .slice o' xs.length c'] 34)).alloc (.cells #[.int .i64 0, .slice none 0 0] 34)) := (by (repeat (first | exact Below.refl _ _ | (refine Below.setCell ?_ (by first | (simp; done) | (simp; omega) | omega) _) | (refine Below.alloc ?_ (by first | (simp; done) | (simp; omega) | omega) _) | (refine below_drewN ?_ _) | (refine Below.drew ?_)))); have hv'0 := hv'.below (w' := (((w.alloc (.cells #[.int .i64 m, .slice o xs.length c] 32)).alloc (.cells #[.int .i64 m', .slice o' xs.length c'] 34)).alloc (.cells #[.int .i64 0, .slice none 0 0] 34))) (by (repeat (first | exact Below.refl _ _ | (refine Below.setCell ?_ (by first | (simp; done) | (simp; omega) | omega) _) | (refine Below.alloc ?_ (by first | (simp; done) | (simp; omega) | omega) _) | (refine below_drewN ?_ _) | (refine Below.drew ?_)))) (Nat.le_refl _); have hu0 := hu.below (w' := (((w.alloc (.cells #[.int .i64 m, .slice o xs.length c] 32)).alloc (.cells #[.int .i64 m', .slice o' xs.length c'] 34)).alloc (.cells #[.int .i64 0, .slice none 0 0] 34))) (by (repeat (first | exact Below.refl _ _ | (refine Below.setCell ?_ (by first | (simp; done) | (simp; omega) | omega) _) | (refine Below.alloc ?_ (by first | (simp; done) | (simp; omega) | omega) _) | (refine below_drewN ?_ _) | (refine Below.drew ?_)))) (Nat.le_refl _); generalize ((w.alloc (.cells #[.int .i64 m, .slice o xs.length c] 32)).alloc (.cells #[.int .i64 m', .slice o' xs.length c'] 34)).alloc (.cells #[.int .i64 0, .slice none 0 0] 34) = w0 at X0 Y0 R0 B0 hv'0 hu0 ⊢)
  have hd0 : Below w0.heap.size w0 w0.drew := (Below.refl _ _).drew
  have hsd0 := hd0.size
  have hrl := R0.1.lt
  have hneR_X0 : w.heap.size + 2 ≠ w.heap.size := by omega
  have hneR_Y0 : w.heap.size + 2 ≠ w.heap.size + 1 := by omega
  obtain ⟨⟨q0_R_0, q0_R_1⟩, qf0_R⟩ := R0.below (Below.refl w0.heap.size w0) (Nat.le_refl _)
  obtain ⟨q0_X0_0, q0_X0_1⟩ := X0.below (Below.refl w0.heap.size w0) (Nat.le_refl _)
  obtain ⟨q0_Y0_0, q0_Y0_1⟩ := Y0.below (Below.refl w0.heap.size w0) (Nat.le_refl _)
  go_region_held3 (fun w' => w'.cell? ⟨w.heap.size, 0, none⟩ = some (.int .i64 m) ∧ w'.cell? ⟨w.heap.size, 1, none⟩ = some (.slice o xs.length c) ∧ w'.cell? ⟨w.heap.size + 1, 0, none⟩ = some (.int .i64 m') ∧ w'.cell? ⟨w.heap.size + 1, 1, none⟩ = some (.slice o' xs.length c')) (go_keep)
    (first
      | (go_at_call 150; refine (inverseP_c m xs.length _ t _ ((hv'0).below (by (repeat (first | exact Below.refl _ _ | (refine Below.setCell ?_ (by first | (simp; done) | (simp; omega) | omega) _) | (refine Below.alloc ?_ (by first | (simp; done) | (simp; omega) | omega) _) | (refine below_drewN ?_ _) | (refine Below.drew ?_)))) (Nat.le_refl _)) h1 hn hm hm' HT.out).mono ?_; rintro e wd1 ⟨vi, rfl, hod1, hbd1⟩; rw [HIL.out] at hod1; obtain ⟨oi, ci, rfl⟩ := hod1.shapeN (n := xs.length) HIl.out; have hd1 : Below w0.heap.size w0 wd1 := (by (repeat (first | exact Below.refl _ _ | (refine Below.setCell ?_ (by first | (simp; done) | (simp; omega) | omega) _) | (refine Below.alloc ?_ (by first | (simp; done) | (simp; omega) | omega) _) | (refine below_drewN ?_ _) | (refine Below.drew ?_) | (refine Below.trans ?_ (Below.mono hbd1 (by first | (simp; done) | (simp; omega) | omega)))))); have hsd1 := hd1.size; have hsz1_ := hbd1.size; (try simp at hsz1_); obtain ⟨⟨q1_R_0, q1_R_1⟩, qf1_R⟩ := R0.below hd1 (Nat.le_refl _); obtain ⟨q1_X0_0, q1_X0_1⟩ := X0.below hd1 (Nat.le_refl _); obtain ⟨q1_Y0_0, q1_Y0_1⟩ := Y0.below hd1 (Nat.le_refl _))
      | (go_at_call 74; refine (compose_c m m' _ _ il xs _ (((hod1.below (by (repeat (first | exact Below.refl _ _ | (refine Below.setCell ?_ (by first | (simp; done) | (simp; omega) | omega) _) | (refine Below.alloc ?_ (by first | (simp; done) | (simp; omega) | omega) _) | (refine below_drewN ?_ _) | (refine Below.drew ?_)))))).rd) ((hu0).below (by (repeat (first | exact Below.refl _ _ | (refine Below.setCell ?_ (by first | (simp; done) | (simp; omega) | omega) _) | (refine Below.alloc ?_ (by first | (simp; done) | (simp; omega) | omega) _) | (refine below_drewN ?_ _) | (refine Below.drew ?_) | (refine Below.trans ?_ (Below.mono hbd1 (by first | (simp; done) | (simp; omega) | omega)))))) (Nat.le_refl _)) (by rw [HIl.out]) (by rw [HIl.out]; omega) (by rw [HIl.out]; omega) hm hm' HIr.out hx).mono ?_; rintro e wd2 ⟨vk, rfl, hod2, hbd2⟩; rw [HIl.out] at hod2; obtain ⟨ok, ck, rfl⟩ := hod2.shapeN (n := xs.length) (horn_len _ _ _ _); have hd2 : Below w0.heap.size w0 wd2 := (by (repeat (first | exact Below.refl _ _ | (refine Below.setCell ?_ (by first | (simp; done) | (simp; omega) | omega) _) | (refine Below.alloc ?_ (by first | (simp; done) | (simp; omega) | omega) _) | (refine below_drewN ?_ _) | (refine Below.drew ?_) | (refine Below.trans ?_ (Below.mono hbd1 (by first | (simp; done) | (simp; omega) | omega))) | (refine Below.trans ?_ (Below.mono hbd2 (by first | (simp; done) | (simp; omega) | omega)))))); have hsd2 := hd2.size; have hsz2_ := hbd2.size; (try simp at hsz2_); obtain ⟨⟨q2_R_0, q2_R_1⟩, qf2_R⟩ := R0.below hd2 (Nat.le_refl _); obtain ⟨q2_X0_0, q2_X0_1⟩ := X0.below hd2 (Nat.le_refl _); obtain ⟨q2_Y0_0, q2_Y0_1⟩ := Y0.below hd2 (Nat.le_refl _)))
  go_wp2
  refine bodyPost_ret (v := .agg #[.int .i64 m, .slice ok xs.length ck]) (by simp [results, Try.results99, go_sem, q2_R_0, q2_R_1]) rfl ⟨_, rfl, ?_, ?_⟩
  · have hbsz := B0.size
    exact ((hod2.low (by first | (simp; done) | (simp; omega) | omega) _).low (by first | (simp; done) | (simp; omega) | omega) _).mono (by first | (simp; done) | (simp; omega) | omega)
  · have hbsz := B0.size
    (repeat (first | exact Below.refl _ _ | (refine Below.setCell ?_ (by first | (simp; done) | (simp; omega) | omega) _) | (refine Below.alloc ?_ (by first | (simp; done) | (simp; omega) | omega) _) | (refine below_drewN ?_ _) | (refine Below.drew ?_) | (refine Below.trans ?_ (Below.mono hbd1 (by first | (simp; done) | (simp; omega) | omega))) | (refine Below.trans ?_ (Below.mono hbd2 (by first | (simp; done) | (simp; omega) | omega))) | (refine Below.trans ?_ (Below.mono B0 (by first | (simp; done) | (simp; omega) | omega)))))

end Go.Proofs.Ytdnkadlondediaa
