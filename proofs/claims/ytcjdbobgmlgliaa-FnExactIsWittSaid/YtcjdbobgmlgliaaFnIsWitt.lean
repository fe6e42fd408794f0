/- The law on IsWitt: the walk. -/
import Derived.Test.YtcjdbobgmlgliaaWittA
import Derived.Deep.RegionHeld3
set_option linter.unusedSimpArgs false
set_option linter.unusedVariables false
namespace Go.Proofs.Ytcjdbobgmlgliaa
open Go.RowKit

set_option maxHeartbeats 1000000 in
theorem FnExactIsWitt_c (p m : Int) (v : Value) (xs : List Int) (w : World) (hv : RdI w v xs) :
    Calls Try.prog 4 #[.agg #[.int .i64 p, .int .i64 m, v]] w fun e w' => e = .returned (.bool true) ∧ Below w.heap.size w w' := by
  obtain ⟨o, c, rfl, hm, -⟩ := id hv
  have hv0 := hv.below (w' := w.alloc (.cells #[.int .i64 p, .int .i64 m, .slice o xs.length c] 30)) ((by (repeat (first | exact Below.refl _ _ | (refine Below.setCell ?_ (by first | (simp; done) | (simp; omega) | omega) _) | (refine Below.alloc ?_ (by first | (simp; done) | (simp; omega) | omega) _) | (refine below_drewN ?_ _) | (refine Below.drew ?_))))) (Nat.le_refl _)
  have hB0 : Below w.heap.size w (w.alloc (.cells #[.int .i64 p, .int .i64 m, .slice o xs.length c] 30)) := (by (repeat (first | exact Below.refl _ _ | (refine Below.setCell ?_ (by first | (simp; done) | (simp; omega) | omega) _) | (refine Below.alloc ?_ (by first | (simp; done) | (simp; omega) | omega) _) | (refine below_drewN ?_ _) | (refine Below.drew ?_))))
  have X0 := Box3.mk' w (.int .i64 p) (.int .i64 m) (.slice o xs.length c) 30
  go_enter Try.func4, Try.ntmps4
  go_wp2_with fail
  refine (szWitt_c _ _ _ _ _ _ _ hm (by omega) (by omega)).mono ?_
  generalize w.alloc (.cells #[.int .i64 p, .int .i64 m, .slice o xs.length c] 30) = W0 at hv0 hB0 X0 ⊢
  rintro e w1 ⟨rfl, hb⟩
  have X1 := X0.below hb (Nat.le_refl _)
  have hv1 := hv0.below hb (Nat.le_refl _)
  have hB1 := hB0.trans (hb.mono hB0.size)
  obtain ⟨p0, p1, p2⟩ := id X1
  by_cases hsz : szV xs.length 1048576 < 0
  · go_wp2
    go_ret
    exact ⟨rfl, hB1⟩
  · have hn : xs.length ≤ 1048576 := by unfold szV at hsz; split at hsz <;> omega
    go_wp2_with fail
    refine (toWitt_c _ _ _ xs _ hv1 hn).mono ?_
    rintro e w2 ⟨v2, rfl, ho2, hb⟩
    have X2 := X1.below hb (Nat.le_refl _)
    have hv2 := hv1.below hb (Nat.le_refl _)
    have hB2 := hB1.trans (hb.mono hB1.size)
    clear p0 p1 p2
    go_wp2_with fail
    refine (sIsWitt_c _ _ _ xs _ ho2.rd).mono ?_
    rintro e w3 ⟨rfl, hb⟩
    have X3 := X2.below hb (Nat.le_refl _)
    have hv3 := hv2.below hb (Nat.le_refl _)
    have hB3 := hB2.trans (hb.mono hB2.size)
    obtain ⟨p0, p1, p2⟩ := id X3
    go_wp2_with fail
    refine (toWitt_c _ _ _ xs _ hv3 hn).mono ?_
    rintro e w4 ⟨v4, rfl, ho4, hb⟩
    obtain ⟨o4, c4, rfl⟩ := ho4.shape
    have X4 := X3.below hb (Nat.le_refl _)
    have hv4 := hv3.below hb (Nat.le_refl _)
    have hB4 := hB3.trans (hb.mono hB3.size)
    clear p0 p1 p2
    go_wp2_with fail
    have Y5 := Box3.mk' w4 (.int .i64 p) (.int .i64 m) (.slice o4 xs.length c4) 24
    have hb : Below w4.heap.size w4 (w4.alloc (.cells #[.int .i64 p, .int .i64 m, .slice o4 xs.length c4] 24)) := (by (repeat (first | exact Below.refl _ _ | (refine Below.setCell ?_ (by first | (simp; done) | (simp; omega) | omega) _) | (refine Below.alloc ?_ (by first | (simp; done) | (simp; omega) | omega) _) | (refine below_drewN ?_ _) | (refine Below.drew ?_))))
    have X5 := X4.below hb (Nat.le_refl _)
    have hv5 := hv4.below hb (Nat.le_refl _)
    have ho5 := ho4.below hb
    have hB5 := hB4.trans (hb.mono hB4.size)
    clear hb
    refine (IsWitt_c _ _ _ xs _ ho5.rd).mono ?_
    generalize w4.alloc (.cells #[.int .i64 p, .int .i64 m, .slice o4 xs.length c4] 24) = w5 at Y5 X5 hv5 ho5 hB5 ⊢
    rintro e w6 ⟨rfl, hb⟩
    have X6 := X5.below hb (Nat.le_refl _)
    have Y6 := Y5.below hb (Nat.le_refl _)
    have hv6 := hv5.below hb (Nat.le_refl _)
    have ho6 := ho5.below hb
    have hB6 := hB5.trans (hb.mono hB5.size)
    have hq : (wittB p m xs != wittB p m xs) = false := by simp
    go_wp2_with fail
    clear hq
    have hb : Below w6.heap.size w6 w6.drew := (Below.refl _ _).drew
    have X6d := X6.below hb (Nat.le_refl _)
    have Y6d := Y6.below hb (Nat.le_refl _)
    have hv6d := hv6.below hb (Nat.le_refl _)
    have ho6d := ho6.below hb
    have hB6d := hB6.trans (hb.mono hB6.size)
    clear hb
    obtain ⟨p0, p1, p2⟩ := id X6d
    obtain ⟨q0, q1, q2⟩ := id Y6d
    go_region_held3 (fun w' => w'.cell? ⟨w.heap.size, 0, none⟩ = some (.int .i64 p) ∧ w'.cell? ⟨w.heap.size, 1, none⟩ = some (.int .i64 m) ∧ w'.cell? ⟨w.heap.size, 2, none⟩ = some (.slice o xs.length c) ∧ w'.cell? ⟨w4.heap.size, 0, none⟩ = some (.int .i64 p) ∧ w'.cell? ⟨w4.heap.size, 1, none⟩ = some (.int .i64 m) ∧ w'.cell? ⟨w4.heap.size, 2, none⟩ = some (.slice o4 xs.length c4)) (go_keep)
      (first
        | (go_at_call 22; refine (toWitt_c p m _ xs _ hv6d hn).mono ?_; rintro e w7 ⟨v7, rfl, ho7, hb⟩; have X7 := X6d.below hb (Nat.le_refl _); have Y7 := Y6d.below hb (Nat.le_refl _); have ho67 := ho6d.below hb; obtain ⟨p0, p1, p2⟩ := id X7; obtain ⟨q0, q1, q2⟩ := id Y7; have hB7 := hB6d.trans (hb.mono hB6d.size))
        | (go_at_call 17; refine (eqWitt_c p m p m _ _ xs xs _ ho67.rd ho7.rd).mono ?_; rw [eqWB_self]; rintro e w8 ⟨rfl, hb8⟩; have hB8 := hB7.trans (hb8.mono hB7.size); obtain ⟨p0, p1, p2⟩ := X7.below hb8 (Nat.le_refl _); obtain ⟨q0, q1, q2⟩ := Y7.below hb8 (Nat.le_refl _)))
    go_wp2
    go_ret
    exact ⟨rfl, hB8⟩
end Go.Proofs.Ytcjdbobgmlgliaa
