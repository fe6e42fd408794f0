/- Lemmas of SerL. -/
import Derived.Test.YtcjinlfgeljmkaaWSSerK
import Derived.Test.YtcjinlfgeljmkaaWSSerI
set_option linter.unusedSimpArgs false
set_option linter.unusedVariables false
namespace Go.Proofs.Ytcjinlfgeljmkaa
open Go.RowKit

def pwSR (m : Int) (xs : List Int) (k : Int) : SR := if serB m xs then (if inB k 0 1000 then ⟨m, pwL m xs.length k.toNat (oneL xs.length) xs, 0⟩ else SR.bad 2) else SR.bad 1
theorem pwL_len (m : Int) (n K : Nat) : ∀ (O A : List Int), O.length = n → (pwL m n K O A).length = n := by
  induction K using Nat.strongRecOn with
  | _ K ih =>
    intro O A hO
    by_cases h : K = 0
    · subst h; rw [pwL_0]; exact hO
    · rw [pwL_s m n (by omega)]
      refine ih (K / 2) (by omega) _ _ ?_
      split
      · exact timesL_len _ _ _ _
      · exact hO

set_option maxHeartbeats 1000000 in
set_option maxRecDepth 100000 in
theorem PowerOfSeries_c (m k : Int) (v : Value) (xs : List Int) (w : World) (hv : RdI w v xs) :
    Calls Try.prog 23 #[.agg #[.int .i64 m, v], .int .i64 k] w fun e w' => SEnd w w' (pwSR m xs k) e := by
  obtain ⟨o, c, rfl, hmx, -⟩ := id hv
  clear hmx
  cases h1 : serB m xs
  · have hR : pwSR m xs k = SR.bad 1 := by simp [pwSR, h1]
    rw [hR]
    clear hR
    go_enter Try.func23, Try.ntmps23
    go_wp2_with fail
    (have X0 := ((RB2.mk1 w  (.int .i64 m) (.slice o xs.length c) 26).1).below (w' := ((w.alloc (.cells #[.int .i64 m, .slice o xs.length c] 26)).alloc (.cells #[.int .i64 0, .slice none 0 0] 26))) (by (repeat (first | exact Below.refl _ _ | (refine Below.setCell ?_ (by first | (simp; done) | (simp; omega) | omega) _) | (refine Below.alloc ?_ (by first | (simp; done) | (simp; omega) | omega) _) | (refine below_drewN ?_ _) | (refine Below.drew ?_)))) (Nat.le_refl _); have R0 := ((RB2.mk2 w (.cells #[.int .i64 m, .slice o xs.length c] 26) (.int .i64 0) (.slice none 0 0) 26)).below (w' := ((w.alloc (.cells #[.int .i64 m, .slice o xs.length c] 26)).alloc (.cells #[.int .i64 0, .slice none 0 0] 26))) (by (repeat (first | exact Below.refl _ _ | (refine Below.setCell ?_ (by first | (simp; done) | (simp; omega) | omega) _) | (refine Below.alloc ?_ (by first | (simp; done) | (simp; omega) | omega) _) | (refine below_drewN ?_ _) | (refine Below.drew ?_)))) (Nat.le_refl _); have B0 : Below w.heap.size w ((w.alloc (.cells #[.int .i64 m, .slice o xs.length c] 26)).alloc (.cells #[.int .i64 0, .slice none 0 0] 26)) := (by (repeat (first | exact Below.refl _ _ | (refine Below.setCell ?_ (by first | (simp; done) | (simp; omega) | omega) _) | (refine Below.alloc ?_ (by first | (simp; done) | (simp; omega) | omega) _) | (refine below_drewN ?_ _) | (refine Below.drew ?_)))); have hv0 := hv.below (w' := ((w.alloc (.cells #[.int .i64 m, .slice o xs.length c] 26)).alloc (.cells #[.int .i64 0, .slice none 0 0] 26))) (by (repeat (first | exact Below.refl _ _ | (refine Below.setCell ?_ (by first | (simp; done) | (simp; omega) | omega) _) | (refine Below.alloc ?_ (by first | (simp; done) | (simp; omega) | omega) _) | (refine below_drewN ?_ _) | (refine Below.drew ?_)))) (Nat.le_refl _); generalize (w.alloc (.cells #[.int .i64 m, .slice o xs.length c] 26)).alloc (.cells #[.int .i64 0, .slice none 0 0] 26) = w0 at X0 R0 B0 hv0 ⊢)
    (obtain ⟨gqX0, gqX1⟩ := id X0; go_wp2_with fail; refine (IsSeries_c m _ xs _ hv0).mono ?_; rw [h1]; rintro e w1 ⟨rfl, hb⟩; (have X1 := X0.below hb (Nat.le_refl _); have R1 := R0.below hb (Nat.le_refl _); have hv1 := hv0.below hb (Nat.le_refl _); have B1 := B0.trans (hb.mono B0.size)); clear gqX0 gqX1; clear hb)
    (obtain ⟨⟨r0, r1⟩, rf⟩ := id R1; go_wp2; exact bodyPost_ret (v := .tuple #[.agg #[.int .i64 0, .slice none 0 0], .int .i64 1]) (by simp [results, Try.results23, go_sem, r0, r1]) rfl ⟨_, rfl, OwI.nil _ _, (by (repeat (first | exact Below.refl _ _ | (refine Below.setCell ?_ (by first | (simp; done) | (simp; omega) | omega) _) | (refine Below.alloc ?_ (by first | (simp; done) | (simp; omega) | omega) _) | (refine below_drewN ?_ _) | (refine Below.drew ?_) | (refine Below.trans ?_ (Below.mono B1 (by first | (simp; done) | (simp; omega) | omega)))))), by simp [SR.bad]⟩)
  · have hn := ser_n h1
    have hm := ser_m h1
    have hx := ser_x h1
    cases h2 : inB k 0 1000
    · have hR : pwSR m xs k = SR.bad 2 := by simp [pwSR, h1, h2]
      rw [hR]
      clear hR
      go_enter Try.func23, Try.ntmps23
      go_wp2_with fail
      (have X0 := ((RB2.mk1 w  (.int .i64 m) (.slice o xs.length c) 26).1).below (w' := ((w.alloc (.cells #[.int .i64 m, .slice o xs.length c] 26)).alloc (.cells #[.int .i64 0, .slice none 0 0] 26))) (by (repeat (first | exact Below.refl _ _ | (refine Below.setCell ?_ (by first | (simp; done) | (simp; omega) | omega) _) | (refine Below.alloc ?_ (by first | (simp; done) | (simp; omega) | omega) _) | (refine below_drewN ?_ _) | (refine Below.drew ?_)))) (Nat.le_refl _); have R0 := ((RB2.mk2 w (.cells #[.int .i64 m, .slice o xs.length c] 26) (.int .i64 0) (.slice none 0 0) 26)).below (w' := ((w.alloc (.cells #[.int .i64 m, .slice o xs.length c] 26)).alloc (.cells #[.int .i64 0, .slice none 0 0] 26))) (by (repeat (first | exact Below.refl _ _ | (refine Below.setCell ?_ (by first | (simp; done) | (simp; omega) | omega) _) | (refine Below.alloc ?_ (by first | (simp; done) | (simp; omega) | omega) _) | (refine below_drewN ?_ _) | (refine Below.drew ?_)))) (Nat.le_refl _); have B0 : Below w.heap.size w ((w.alloc (.cells #[.int .i64 m, .slice o xs.length c] 26)).alloc (.cells #[.int .i64 0, .slice none 0 0] 26)) := (by (repeat (first | exact Below.refl _ _ | (refine Below.setCell ?_ (by first | (simp; done) | (simp; omega) | omega) _) | (refine Below.alloc ?_ (by first | (simp; done) | (simp; omega) | omega) _) | (refine below_drewN ?_ _) | (refine Below.drew ?_)))); have hv0 := hv.below (w' := ((w.alloc (.cells #[.int .i64 m, .slice o xs.length c] 26)).alloc (.cells #[.int .i64 0, .slice none 0 0] 26))) (by (repeat (first | exact Below.refl _ _ | (refine Below.setCell ?_ (by first | (simp; done) | (simp; omega) | omega) _) | (refine Below.alloc ?_ (by first | (simp; done) | (simp; omega) | omega) _) | (refine below_drewN ?_ _) | (refine Below.drew ?_)))) (Nat.le_refl _); generalize (w.alloc (.cells #[.int .i64 m, .slice o xs.length c] 26)).alloc (.cells #[.int .i64 0, .slice none 0 0] 26) = w0 at X0 R0 B0 hv0 ⊢)
      (obtain ⟨gqX0, gqX1⟩ := id X0; go_wp2_with fail; refine (IsSeries_c m _ xs _ hv0).mono ?_; rw [h1]; rintro e w1 ⟨rfl, hb⟩; (have X1 := X0.below hb (Nat.le_refl _); have R1 := R0.below hb (Nat.le_refl _); have hv1 := hv0.below hb (Nat.le_refl _); have B1 := B0.trans (hb.mono B0.size)); clear gqX0 gqX1; clear hb)
      go_wp2_with fail
      refine (in_c k 0 1000 _).mono ?_
      rw [h2]
      rintro e w' ⟨rfl, rfl⟩
      (obtain ⟨⟨r0, r1⟩, rf⟩ := id R1; go_wp2; exact bodyPost_ret (v := .tuple #[.agg #[.int .i64 0, .slice none 0 0], .int .i64 2]) (by simp [results, Try.results23, go_sem, r0, r1]) rfl ⟨_, rfl, OwI.nil _ _, (by (repeat (first | exact Below.refl _ _ | (refine Below.setCell ?_ (by first | (simp; done) | (simp; omega) | omega) _) | (refine Below.alloc ?_ (by first | (simp; done) | (simp; omega) | omega) _) | (refine below_drewN ?_ _) | (refine Below.drew ?_) | (refine Below.trans ?_ (Below.mono B1 (by first | (simp; done) | (simp; omega) | omega)))))), by simp [SR.bad]⟩)
    · have hk := inB_t h2
      obtain ⟨K, rfl⟩ : ∃ K : Nat, k = K := ⟨k.toNat, by omega⟩
      have hR : pwSR m xs K = ⟨m, pwL m xs.length K (oneL xs.length) xs, 0⟩ := by simp [pwSR, h1, h2]
      rw [hR]
      clear hR
      have hlen : (pwL m xs.length K (oneL xs.length) xs).length ≤ 1048576 := by rw [pwL_len _ _ _ _ _ (oneL_len _)]; omega
      go_enter Try.func23, Try.ntmps23
      go_wp2_with fail
      (have X0 := ((RB2.mk1 w  (.int .i64 m) (.slice o xs.length c) 26).1).below (w' := ((w.alloc (.cells #[.int .i64 m, .slice o xs.length c] 26)).alloc (.cells #[.int .i64 0, .slice none 0 0] 26))) (by (repeat (first | exact Below.refl _ _ | (refine Below.setCell ?_ (by first | (simp; done) | (simp; omega) | omega) _) | (refine Below.alloc ?_ (by first | (simp; done) | (simp; omega) | omega) _) | (refine below_drewN ?_ _) | (refine Below.drew ?_)))) (Nat.le_refl _); have R0 := ((RB2.mk2 w (.cells #[.int .i64 m, .slice o xs.length c] 26) (.int .i64 0) (.slice none 0 0) 26)).below (w' := ((w.alloc (.cells #[.int .i64 m, .slice o xs.length c] 26)).alloc (.cells #[.int .i64 0, .slice none 0 0] 26))) (by (repeat (first | exact Below.refl _ _ | (refine Below.setCell ?_ (by first | (simp; done) | (simp; omega) | omega) _) | (refine Below.alloc ?_ (by first | (simp; done) | (simp; omega) | omega) _) | (refine below_drewN ?_ _) | (refine Below.drew ?_)))) (Nat.le_refl _); have B0 : Below w.heap.size w ((w.alloc (.cells #[.int .i64 m, .slice o xs.length c] 26)).alloc (.cells #[.int .i64 0, .slice none 0 0] 26)) := (by (repeat (first | exact Below.refl _ _ | (refine Below.setCell ?_ (by first | (simp; done) | (simp; omega) | omega) _) | (refine Below.alloc ?_ (by first | (simp; done) | (simp; omega) | omega) _) | (refine below_drewN ?_ _) | (refine Below.drew ?_)))); have hv0 := hv.below (w' := ((w.alloc (.cells #[.int .i64 m, .slice o xs.length c] 26)).alloc (.cells #[.int .i64 0, .slice none 0 0] 26))) (by (repeat (first | exact Below.refl _ _ | (refine Below.setCell ?_ (by first | (simp; done) | (simp; omega) | omega) _) | (refine Below.alloc ?_ (by first | (simp; done) | (simp; omega) | omega) _) | (refine below_drewN ?_ _) | (refine Below.drew ?_)))) (Nat.le_refl _); generalize (w.alloc (.cells #[.int .i64 m, .slice o xs.length c] 26)).alloc (.cells #[.int .i64 0, .slice none 0 0] 26) = w0 at X0 R0 B0 hv0 ⊢)
      (obtain ⟨gqX0, gqX1⟩ := id X0; go_wp2_with fail; refine (IsSeries_c m _ xs _ hv0).mono ?_; rw [h1]; rintro e w1 ⟨rfl, hb⟩; (have X1 := X0.below hb (Nat.le_refl _); have R1 := R0.below hb (Nat.le_refl _); have hv1 := hv0.below hb (Nat.le_refl _); have B1 := B0.trans (hb.mono B0.size)); clear gqX0 gqX1; clear hb)
      go_wp2_with fail
      refine (in_c K 0 1000 _).mono ?_
      rw [h2]
      rintro e w' ⟨rfl, rfl⟩
      (obtain ⟨gqX0, gqX1⟩ := id X1; go_wp2_with fail; refine (powerS_c m K _ xs _ hv1 (by omega) (by omega) (by omega) (by omega) (by omega) hx).mono ?_; rintro e w2 ⟨vR, rfl, how, hb⟩; obtain ⟨oV, cV, rfl⟩ := how.shapeN (n := xs.length) (pwL_len _ _ _ _ _ (oneL_len _)); have hz := R1.1.lt; have hB := B1.size; (have R2 := R1.below hb (Nat.le_refl _); have B2 := B1.trans (hb.mono B1.size)); obtain ⟨⟨r0, r1⟩, rf⟩ := id R2; go_wp2; exact bodyPost_ret (v := .tuple #[.agg #[.int .i64 m, .slice oV xs.length cV], .int .i64 0]) (by simp [results, Try.results23, go_sem, r0, r1]) rfl ⟨_, rfl, ((how.low hz _).low hz _).mono hB, (by (repeat (first | exact Below.refl _ _ | (refine Below.setCell ?_ (by first | (simp; done) | (simp; omega) | omega) _) | (refine Below.alloc ?_ (by first | (simp; done) | (simp; omega) | omega) _) | (refine below_drewN ?_ _) | (refine Below.drew ?_) | (refine Below.trans ?_ (Below.mono B2 (by first | (simp; done) | (simp; omega) | omega)))))), hlen⟩)

set_option maxHeartbeats 1000000 in
set_option maxRecDepth 100000 in
theorem sPowerOfSeries_c (m k : Int) (v : Value) (xs : List Int) (w : World) (hv : RdI w v xs) :
    Calls Try.prog 40 #[.agg #[.int .i64 m, v], .int .i64 k] w fun e w' => SEnd w w' (pwSR m xs k) e := by
  obtain ⟨o, c, rfl, hmx, -⟩ := id hv
  have hml := hmx.1
  clear hmx
  cases h1 : serB m xs
  · have hR : pwSR m xs k = SR.bad 1 := by simp [pwSR, h1]
    rw [hR]
    clear hR
    go_enter Try.func40, Try.ntmps40
    go_wp2_with fail
    (have X0 := ((RB2.mk1 w  (.int .i64 m) (.slice o xs.length c) 26).1).below (w' := ((w.alloc (.cells #[.int .i64 m, .slice o xs.length c] 26)).alloc (.cells #[.int .i64 0, .slice none 0 0] 26))) (by (repeat (first | exact Below.refl _ _ | (refine Below.setCell ?_ (by first | (simp; done) | (simp; omega) | omega) _) | (refine Below.alloc ?_ (by first | (simp; done) | (simp; omega) | omega) _) | (refine below_drewN ?_ _) | (refine Below.drew ?_)))) (Nat.le_refl _); have R0 := ((RB2.mk2 w (.cells #[.int .i64 m, .slice o xs.length c] 26) (.int .i64 0) (.slice none 0 0) 26)).below (w' := ((w.alloc (.cells #[.int .i64 m, .slice o xs.length c] 26)).alloc (.cells #[.int .i64 0, .slice none 0 0] 26))) (by (repeat (first | exact Below.refl _ _ | (refine Below.setCell ?_ (by first | (simp; done) | (simp; omega) | omega) _) | (refine Below.alloc ?_ (by first | (simp; done) | (simp; omega) | omega) _) | (refine below_drewN ?_ _) | (refine Below.drew ?_)))) (Nat.le_refl _); have B0 : Below w.heap.size w ((w.alloc (.cells #[.int .i64 m, .slice o xs.length c] 26)).alloc (.cells #[.int .i64 0, .slice none 0 0] 26)) := (by (repeat (first | exact Below.refl _ _ | (refine Below.setCell ?_ (by first | (simp; done) | (simp; omega) | omega) _) | (refine Below.alloc ?_ (by first | (simp; done) | (simp; omega) | omega) _) | (refine below_drewN ?_ _) | (refine Below.drew ?_)))); have hv0 := hv.below (w' := ((w.alloc (.cells #[.int .i64 m, .slice o xs.length c] 26)).alloc (.cells #[.int .i64 0, .slice none 0 0] 26))) (by (repeat (first | exact Below.refl _ _ | (refine Below.setCell ?_ (by first | (simp; done) | (simp; omega) | omega) _) | (refine Below.alloc ?_ (by first | (simp; done) | (simp; omega) | omega) _) | (refine below_drewN ?_ _) | (refine Below.drew ?_)))) (Nat.le_refl _); generalize (w.alloc (.cells #[.int .i64 m, .slice o xs.length c] 26)).alloc (.cells #[.int .i64 0, .slice none 0 0] 26) = w0 at X0 R0 B0 hv0 ⊢)
    (obtain ⟨gqX0, gqX1⟩ := id X0; go_wp2_with fail; refine (l02Is_c m _ xs _ hv0).mono ?_; rw [h1]; rintro e w1 ⟨rfl, hb⟩; (have X1 := X0.below hb (Nat.le_refl _); have R1 := R0.below hb (Nat.le_refl _); have hv1 := hv0.below hb (Nat.le_refl _); have B1 := B0.trans (hb.mono B0.size)); clear gqX0 gqX1; clear hb)
    (obtain ⟨⟨r0, r1⟩, rf⟩ := id R1; go_wp2; exact bodyPost_ret (v := .tuple #[.agg #[.int .i64 0, .slice none 0 0], .int .i64 1]) (by simp [results, Try.results40, go_sem, r0, r1]) rfl ⟨_, rfl, OwI.nil _ _, (by (repeat (first | exact Below.refl _ _ | (refine Below.setCell ?_ (by first | (simp; done) | (simp; omega) | omega) _) | (refine Below.alloc ?_ (by first | (simp; done) | (simp; omega) | omega) _) | (refine below_drewN ?_ _) | (refine Below.drew ?_) | (refine Below.trans ?_ (Below.mono B1 (by first | (simp; done) | (simp; omega) | omega)))))), by simp [SR.bad]⟩)
  · have hn := ser_n h1
    have hm := ser_m h1
    have hx := ser_x h1
    cases h2 : inB k 0 1000
    · have hR : pwSR m xs k = SR.bad 2 := by simp [pwSR, h1, h2]
      rw [hR]
      clear hR
      go_enter Try.func40, Try.ntmps40
      go_wp2_with fail
      (have X0 := ((RB2.mk1 w  (.int .i64 m) (.slice o xs.length c) 26).1).below (w' := ((w.alloc (.cells #[.int .i64 m, .slice o xs.length c] 26)).alloc (.cells #[.int .i64 0, .slice none 0 0] 26))) (by (repeat (first | exact Below.refl _ _ | (refine Below.setCell ?_ (by first | (simp; done) | (simp; omega) | omega) _) | (refine Below.alloc ?_ (by first | (simp; done) | (simp; omega) | omega) _) | (refine below_drewN ?_ _) | (refine Below.drew ?_)))) (Nat.le_refl _); have R0 := ((RB2.mk2 w (.cells #[.int .i64 m, .slice o xs.length c] 26) (.int .i64 0) (.slice none 0 0) 26)).below (w' := ((w.alloc (.cells #[.int .i64 m, .slice o xs.length c] 26)).alloc (.cells #[.int .i64 0, .slice none 0 0] 26))) (by (repeat (first | exact Below.refl _ _ | (refine Below.setCell ?_ (by first | (simp; done) | (simp; omega) | omega) _) | (refine Below.alloc ?_ (by first | (simp; done) | (simp; omega) | omega) _) | (refine below_drewN ?_ _) | (refine Below.drew ?_)))) (Nat.le_refl _); have B0 : Below w.heap.size w ((w.alloc (.cells #[.int .i64 m, .slice o xs.length c] 26)).alloc (.cells #[.int .i64 0, .slice none 0 0] 26)) := (by (repeat (first | exact Below.refl _ _ | (refine Below.setCell ?_ (by first | (simp; done) | (simp; omega) | omega) _) | (refine Below.alloc ?_ (by first | (simp; done) | (simp; omega) | omega) _) | (refine below_drewN ?_ _) | (refine Below.drew ?_)))); have hv0 := hv.below (w' := ((w.alloc (.cells #[.int .i64 m, .slice o xs.length c] 26)).alloc (.cells #[.int .i64 0, .slice none 0 0] 26))) (by (repeat (first | exact Below.refl _ _ | (refine Below.setCell ?_ (by first | (simp; done) | (simp; omega) | omega) _) | (refine Below.alloc ?_ (by first | (simp; done) | (simp; omega) | omega) _) | (refine below_drewN ?_ _) | (refine Below.drew ?_)))) (Nat.le_refl _); generalize (w.alloc (.cells #[.int .i64 m, .slice o xs.length c] 26)).alloc (.cells #[.int .i64 0, .slice none 0 0] 26) = w0 at X0 R0 B0 hv0 ⊢)
      (obtain ⟨gqX0, gqX1⟩ := id X0; go_wp2_with fail; refine (l02Is_c m _ xs _ hv0).mono ?_; rw [h1]; rintro e w1 ⟨rfl, hb⟩; (have X1 := X0.below hb (Nat.le_refl _); have R1 := R0.below hb (Nat.le_refl _); have hv1 := hv0.below hb (Nat.le_refl _); have B1 := B0.trans (hb.mono B0.size)); clear gqX0 gqX1; clear hb)
      go_wp2_with fail
      refine (l01In_c k 0 1000 _).mono ?_
      rw [h2]
      rintro e w' ⟨rfl, rfl⟩
      (obtain ⟨⟨r0, r1⟩, rf⟩ := id R1; go_wp2; exact bodyPost_ret (v := .tuple #[.agg #[.int .i64 0, .slice none 0 0], .int .i64 2]) (by simp [results, Try.results40, go_sem, r0, r1]) rfl ⟨_, rfl, OwI.nil _ _, (by (repeat (first | exact Below.refl _ _ | (refine Below.setCell ?_ (by first | (simp; done) | (simp; omega) | omega) _) | (refine Below.alloc ?_ (by first | (simp; done) | (simp; omega) | omega) _) | (refine below_drewN ?_ _) | (refine Below.drew ?_) | (refine Below.trans ?_ (Below.mono B1 (by first | (simp; done) | (simp; omega) | omega)))))), by simp [SR.bad]⟩)
    · have hk := inB_t h2
      obtain ⟨K, rfl⟩ : ∃ K : Nat, k = K := ⟨k.toNat, by omega⟩
      have hR : pwSR m xs K = ⟨m, pwL m xs.length K (oneL xs.length) xs, 0⟩ := by simp [pwSR, h1, h2]
      rw [hR]
      clear hR
      have hlen : (pwL m xs.length K (oneL xs.length) xs).length ≤ 1048576 := by rw [pwL_len _ _ _ _ _ (oneL_len _)]; omega
      go_enter Try.func40, Try.ntmps40
      go_wp2_with fail
      (have X0 := ((RB2.mk1 w  (.int .i64 m) (.slice o xs.length c) 26).1).below (w' := ((w.alloc (.cells #[.int .i64 m, .slice o xs.length c] 26)).alloc (.cells #[.int .i64 0, .slice none 0 0] 26))) (by (repeat (first | exact Below.refl _ _ | (refine Below.setCell ?_ (by first | (simp; done) | (simp; omega) | omega) _) | (refine Below.alloc ?_ (by first | (simp; done) | (simp; omega) | omega) _) | (refine below_drewN ?_ _) | (refine Below.drew ?_)))) (Nat.le_refl _); have R0 := ((RB2.mk2 w (.cells #[.int .i64 m, .slice o xs.length c] 26) (.int .i64 0) (.slice none 0 0) 26)).below (w' := ((w.alloc (.cells #[.int .i64 m, .slice o xs.length c] 26)).alloc (.cells #[.int .i64 0, .slice none 0 0] 26))) (by (repeat (first | exact Below.refl _ _ | (refine Below.setCell ?_ (by first | (simp; done) | (simp; omega) | omega) _) | (refine Below.alloc ?_ (by first | (simp; done) | (simp; omega) | omega) _) | (refine below_drewN ?_ _) | (refine Below.drew ?_)))) (Nat.le_refl _); have B0 : Below w.heap.size w ((w.alloc (.cells #[.int .i64 m, .slice o xs.length c] 26)).alloc (.cells #[.int .i64 0, .slice none 0 0] 26)) := (by (repeat (first | exact Below.refl _ _ | (refine Below.setCell ?_ (by first | (simp; done) | (simp; omega) | omega) _) | (refine Below.alloc ?_ (by first | (simp; done) | (simp; omega) | omega) _) | (refine below_drewN ?_ _) | (refine Below.drew ?_)))); have hv0 := hv.below (w' := ((w.alloc (.cells #[.int .i64 m, .slice o xs.length c] 26)).alloc (.cells #[.int .i64 0, .slice none 0 0] 26))) (by (repeat (first | exact Below.refl _ _ | (refine Below.setCell ?_ (by first | (simp; done) | (simp; omega) | omega) _) | (refine Below.alloc ?_ (by first | (simp; done) | (simp; omega) | omega) _) | (refine below_drewN ?_ _) | (refine Below.drew ?_)))) (Nat.le_refl _); generalize (w.alloc (.cells #[.int .i64 m, .slice o xs.length c] 26)).alloc (.cells #[.int .i64 0, .slice none 0 0] 26) = w0 at X0 R0 B0 hv0 ⊢)
      (obtain ⟨gqX0, gqX1⟩ := id X0; go_wp2_with fail; refine (l02Is_c m _ xs _ hv0).mono ?_; rw [h1]; rintro e w1 ⟨rfl, hb⟩; (have X1 := X0.below hb (Nat.le_refl _); have R1 := R0.below hb (Nat.le_refl _); have hv1 := hv0.below hb (Nat.le_refl _); have B1 := B0.trans (hb.mono B0.size)); clear gqX0 gqX1; clear hb)
      go_wp2_with fail
      refine (l01In_c K 0 1000 _).mono ?_
      rw [h2]
      rintro e w' ⟨rfl, rfl⟩
      obtain ⟨k0, k1⟩ := id X1
      go_wp2_with fail
      clear k0 k1
      have hd0 : Below w1.heap.size w1 w1.drew := (Below.refl _ _).drew
      have hsd0 := hd0.size
      have hrl := R1.1.lt
      have hneR_X1 : w.heap.size + 1 ≠ w.heap.size := by omega
      obtain ⟨⟨q0_R_0, q0_R_1⟩, qf0_R⟩ := R1.below (Below.refl w1.heap.size w1) (Nat.le_refl _)
      obtain ⟨q0_X1_0, q0_X1_1⟩ := X1.below (Below.refl w1.heap.size w1) (Nat.le_refl _)
      go_region_held3 (fun w' => w'.cell? ⟨w.heap.size, 0, none⟩ = some (.int .i64 m) ∧ w'.cell? ⟨w.heap.size, 1, none⟩ = some (.slice o xs.length c)) (go_keep)
        (first
          | (go_at_call 103; refine (l02Degree_c m _ xs.length c _ hml).mono ?_; rintro e wd1 ⟨rfl, hbd1⟩; have hd1 : Below w1.heap.size w1 wd1 := (by (repeat (first | exact Below.refl _ _ | (refine Below.setCell ?_ (by first | (simp; done) | (simp; omega) | omega) _) | (refine Below.alloc ?_ (by first | (simp; done) | (simp; omega) | omega) _) | (refine below_drewN ?_ _) | (refine Below.drew ?_) | (refine Below.trans ?_ (Below.mono hbd1 (by first | (simp; done) | (simp; omega) | omega)))))); have hsd1 := hd1.size; have hsz1_ := hbd1.size; (try simp at hsz1_); obtain ⟨⟨q1_R_0, q1_R_1⟩, qf1_R⟩ := R1.below hd1 (Nat.le_refl _); obtain ⟨q1_X1_0, q1_X1_1⟩ := X1.below hd1 (Nat.le_refl _))
          | (go_at_call 142; refine (l02Power_c m _ xs.length K _ xs _ (by omega) ((hv1).below (by (repeat (first | exact Below.refl _ _ | (refine Below.setCell ?_ (by first | (simp; done) | (simp; omega) | omega) _) | (refine Below.alloc ?_ (by first | (simp; done) | (simp; omega) | omega) _) | (refine below_drewN ?_ _) | (refine Below.drew ?_) | (refine Below.trans ?_ (Below.mono hbd1 (by first | (simp; done) | (simp; omega) | omega)))))) (Nat.le_refl _)) rfl (by omega) (by omega) (by omega) (by omega) (by omega) hx).mono ?_; rintro e wd2 ⟨va2, rfl, hod2, hbd2⟩; obtain ⟨oa, ca, rfl⟩ := hod2.shapeN (n := xs.length) (pwL_len _ _ _ _ _ (oneL_len _)); have hd2 : Below w1.heap.size w1 wd2 := (by (repeat (first | exact Below.refl _ _ | (refine Below.setCell ?_ (by first | (simp; done) | (simp; omega) | omega) _) | (refine Below.alloc ?_ (by first | (simp; done) | (simp; omega) | omega) _) | (refine below_drewN ?_ _) | (refine Below.drew ?_) | (refine Below.trans ?_ (Below.mono hbd1 (by first | (simp; done) | (simp; omega) | omega))) | (refine Below.trans ?_ (Below.mono hbd2 (by first | (simp; done) | (simp; omega) | omega)))))); have hsd2 := hd2.size; have hsz2_ := hbd2.size; (try simp at hsz2_); obtain ⟨⟨q2_R_0, q2_R_1⟩, qf2_R⟩ := R1.below hd2 (Nat.le_refl _); obtain ⟨q2_X1_0, q2_X1_1⟩ := X1.below hd2 (Nat.le_refl _))
          | (go_at_call 101; refine (l02Make_c m _ _ _ _).mono ?_; rintro e wd3 ⟨rfl, hbd3⟩; have hd3 : Below w1.heap.size w1 wd3 := (by (repeat (first | exact Below.refl _ _ | (refine Below.setCell ?_ (by first | (simp; done) | (simp; omega) | omega) _) | (refine Below.alloc ?_ (by first | (simp; done) | (simp; omega) | omega) _) | (refine below_drewN ?_ _) | (refine Below.drew ?_) | (refine Below.trans ?_ (Below.mono hbd1 (by first | (simp; done) | (simp; omega) | omega))) | (refine Below.trans ?_ (Below.mono hbd2 (by first | (simp; done) | (simp; omega) | omega))) | (refine Below.trans ?_ (Below.mono hbd3 (by first | (simp; done) | (simp; omega) | omega)))))); have hsd3 := hd3.size; have hsz3_ := hbd3.size; (try simp at hsz3_); obtain ⟨⟨q3_R_0, q3_R_1⟩, qf3_R⟩ := R1.below hd3 (Nat.le_refl _); obtain ⟨q3_X1_0, q3_X1_1⟩ := X1.below hd3 (Nat.le_refl _)))
      go_wp2
      refine bodyPost_ret (v := .tuple #[.agg #[.int .i64 m, .slice oa xs.length ca], .int .i64 0]) (by simp [results, Try.results40, go_sem, q3_R_0, q3_R_1]) rfl ⟨_, rfl, ?_, ?_, hlen⟩
      · have hbsz := B1.size
        exact (((hod2.below (by (repeat (first | exact Below.refl _ _ | (refine Below.setCell ?_ (by first | (simp; done) | (simp; omega) | omega) _) | (refine Below.alloc ?_ (by first | (simp; done) | (simp; omega) | omega) _) | (refine below_drewN ?_ _) | (refine Below.drew ?_) | (refine Below.trans ?_ (Below.mono hbd3 (by first | (simp; done) | (simp; omega) | omega))))))).low (by first | (simp; done) | (simp; omega) | omega) _).low (by first | (simp; done) | (simp; omega) | omega) _).mono (by first | (simp; done) | (simp; omega) | omega)
      · have hbsz := B1.size
        (repeat (first | exact Below.refl _ _ | (refine Below.setCell ?_ (by first | (simp; done) | (simp; omega) | omega) _) | (refine Below.alloc ?_ (by first | (simp; done) | (simp; omega) | omega) _) | (refine below_drewN ?_ _) | (refine Below.drew ?_) | (refine Below.trans ?_ (Below.mono hbd1 (by first | (simp; done) | (simp; omega) | omega))) | (refine Below.trans ?_ (Below.mono hbd2 (by first | (simp; done) | (simp; omega) | omega))) | (refine Below.trans ?_ (Below.mono hbd3 (by first | (simp; done) | (simp; omega) | omega))) | (refine Below.trans ?_ (Below.mono B1 (by first | (simp; done) | (simp; omega) | omega)))))
end Go.Proofs.Ytcjinlfgeljmkaa
