/- Lemmas. -/
import Derived.Test.YtfpphfjlpgefaaaGreatqM32
import Derived.Test.YtfpphfjlpgefaaaGreatqM6
set_option maxHeartbeats 2000000
set_option linter.unusedSimpArgs false
set_option linter.unusedVariables false
namespace Go.Proofs.YtfpphfjlpgefaaaGreat
open Go.RowKit

theorem qDS (m : Int) (t : Tb) (m1 : Int) (xs : Li) (m2 : Int) (ys : Li) : qCa m t [(m1, xs), (m2, ys)] = if qAg m t then (if qB_ m1 xs && qB_ m2 ys then (if qBz m t.length (m1, xs) && qBz m t.length (m2, ys) then 0 else 2) else 1) else 1 := by simp [qCa]
theorem qLN {m : Int} {n : Nat} {m' : Int} {xs : Li} (h : qBz m n (m', xs) = true) : m = m' ∧ n = xs.length := by
 simp only [qBz, Bool.and_eq_true, beq_iff_eq] at h
 omega
theorem fit2_0 {m : Int} {t : Tb} {m1 : Int} {xs : Li} {m2 : Int} {ys : Li} (h : qCa m t [(m1, xs), (m2, ys)] = 0) : qAg m t = true ∧ qB_ m1 xs = true ∧ qB_ m2 ys = true ∧ m1 = m ∧ m2 = m ∧ xs.length = t.length ∧ ys.length = t.length := by
 rw [qDS] at h
 split at h
 ·rename_i h1
  split at h
  ·rename_i h2
   split at h
   ·rename_i h3
    rw [Bool.and_eq_true] at h2 h3; obtain ⟨e1, e2⟩ := qLN h3.1; obtain ⟨e3, e4⟩ := qLN h3.2; exact ⟨h1, h2.1, h2.2, e1.symm, e3.symm, e2.symm, e4.symm⟩
   ·cases h
  ·cases h
 ·cases h
def qB6 (m : Int) (t : Tb) (m1 : Int) (xs : Li) (m2 : Int) (ys : Li) : Int :=
 if qCa m t [(m1, xs), (m2, ys)] = 0 then (if qD5 m1 xs && qD5 m2 ys then 0 else 5) else qCa m t [(m1, xs), (m2, ys)]
theorem subC_0 {m : Int} {t : Tb} {m1 : Int} {xs : Li} {m2 : Int} {ys : Li} (h : qB6 m t m1 xs m2 ys = 0) : qAg m t = true ∧ qB_ m xs = true ∧ qB_ m ys = true ∧ m1 = m ∧ m2 = m ∧ xs.length = t.length ∧ ys.length = t.length ∧ at0 xs 0 = 0 ∧ at0 ys 0 = 0 := by
 unfold qB6 at h
 split at h
 ·rename_i h1
  obtain ⟨a1, a2, a3, rfl, rfl, a6, a7⟩ := fit2_0 h1
  split at h
  ·rename_i h2
   rw [Bool.and_eq_true] at h2; exact ⟨a1, a2, a3, rfl, rfl, a6, a7, (qIm h2.1).2, (qIm h2.2).2⟩
  ·cases h
 ·rename_i h1; exact absurd h h1

theorem qLw (m m1 m2 : Int) (v u u' : Value) (t : Tb) (xs ys : Li) (w : World) (hv : RdT w v t) (hu : RdI w u xs) (hu' : RdI w u' ys) :
  Calls Tryz.prog 65 #[.agg #[.int .i64 m, v], .agg #[.int .i64 m1, u], .agg #[.int .i64 m2, u']] w fun e w' => e = .returned (.int .i64 (qB6 m t m1 xs m2 ys)) ∧ Below w.heap.size w w' := by
 obtain ⟨o, c, rfl, -, -⟩ := id hv
 obtain ⟨o1, c1, rfl, -, -⟩ := id hu
 obtain ⟨o2, c2, rfl, -, -⟩ := id hu'
 cases h1 : qAg m t
 ·skip
  have hR : qB6 m t m1 xs m2 ys = 1 := by simp [qB6, qDS, h1]
  rw [hR]; clear hR
  go_enter Tryz.func65, Tryz.ntmps65
  go_wp2_with fail
  (obtain ⟨w0, hw0⟩ : ∃ W : World, W = (((w.alloc (.cells #[.int .i64 m, .slice o t.length c] 26)).alloc (.cells #[.int .i64 m1, .slice o1 xs.length c1] 34)).alloc (.cells #[.int .i64 m2, .slice o2 ys.length c2] 34)) := ⟨_, rfl⟩; have X0 := (RB2.mk1 w  (.int .i64 m) (.slice o t.length c) 26).1.below (w' := w0) (bV hw0) (nl _); have Y0 := (RB2.mk2 w (.cells #[.int .i64 m, .slice o t.length c] 26) (.int .i64 m1) (.slice o1 xs.length c1) 34).1.below (w' := w0) (bV hw0) (nl _); have Z0 := (RB2.mk3 w (.cells #[.int .i64 m, .slice o t.length c] 26) (.cells #[.int .i64 m1, .slice o1 xs.length c1] 34) (.int .i64 m2) (.slice o2 ys.length c2) 34).1.below (w' := w0) (bV hw0) (nl _); have B0 : Below w.heap.size w w0 := (bV hw0); have hv0 := hv.below (w' := w0) (bV hw0) (nl _); have hu0 := hu.below (w' := w0) (bV hw0) (nl _); have hu'0 := hu'.below (w' := w0) (bV hw0) (nl _); rw [← hw0]; clear hw0)
  (obtain ⟨gqX0, gqX1⟩ := id X0; go_wp2_with fail; refine (qCK m _ t _ hv0).mono ?_; rw [h1]; rintro e w1 ⟨rfl, hb⟩; (have X1 := X0.below hb; have Y1 := Y0.below hb; have Z1 := Z0.below hb; have hv1 := hv0.below hb; have hu1 := hu0.below hb; have hu'1 := hu'0.below hb; have B1 := B0.trans (hb.mono B0.size)); clear gqX0 gqX1; clear hb)
  go_wp2; go_ret; exact ⟨rfl, B1⟩
 ·skip
  cases h2 : qB_ m1 xs
  ·skip
   have hR : qB6 m t m1 xs m2 ys = 1 := by simp [qB6, qDS, h1, h2]
   rw [hR]; clear hR
   go_enter Tryz.func65, Tryz.ntmps65
   go_wp2_with fail
   (obtain ⟨w0, hw0⟩ : ∃ W : World, W = (((w.alloc (.cells #[.int .i64 m, .slice o t.length c] 26)).alloc (.cells #[.int .i64 m1, .slice o1 xs.length c1] 34)).alloc (.cells #[.int .i64 m2, .slice o2 ys.length c2] 34)) := ⟨_, rfl⟩; have X0 := (RB2.mk1 w  (.int .i64 m) (.slice o t.length c) 26).1.below (w' := w0) (bV hw0) (nl _); have Y0 := (RB2.mk2 w (.cells #[.int .i64 m, .slice o t.length c] 26) (.int .i64 m1) (.slice o1 xs.length c1) 34).1.below (w' := w0) (bV hw0) (nl _); have Z0 := (RB2.mk3 w (.cells #[.int .i64 m, .slice o t.length c] 26) (.cells #[.int .i64 m1, .slice o1 xs.length c1] 34) (.int .i64 m2) (.slice o2 ys.length c2) 34).1.below (w' := w0) (bV hw0) (nl _); have B0 : Below w.heap.size w w0 := (bV hw0); have hv0 := hv.below (w' := w0) (bV hw0) (nl _); have hu0 := hu.below (w' := w0) (bV hw0) (nl _); have hu'0 := hu'.below (w' := w0) (bV hw0) (nl _); rw [← hw0]; clear hw0)
   (obtain ⟨gqX0, gqX1⟩ := id X0; go_wp2_with fail; refine (qCK m _ t _ hv0).mono ?_; rw [h1]; rintro e w1 ⟨rfl, hb⟩; (have X1 := X0.below hb; have Y1 := Y0.below hb; have Z1 := Z0.below hb; have hv1 := hv0.below hb; have hu1 := hu0.below hb; have hu'1 := hu'0.below hb; have B1 := B0.trans (hb.mono B0.size)); clear gqX0 gqX1; clear hb)
   (obtain ⟨gqY0, gqY1⟩ := id Y1; go_wp2_with fail; refine (qBY m1 _ xs _ hu1).mono ?_; rw [h2]; rintro e w2 ⟨rfl, hb⟩; (have X2 := X1.below hb; have Y2 := Y1.below hb; have Z2 := Z1.below hb; have hv2 := hv1.below hb; have hu2 := hu1.below hb; have hu'2 := hu'1.below hb; have B2 := B1.trans (hb.mono B1.size)); clear gqY0 gqY1; clear hb)
   go_wp2; go_ret; exact ⟨rfl, B2⟩
  ·skip
   cases h3 : qB_ m2 ys
   ·skip
    have hR : qB6 m t m1 xs m2 ys = 1 := by simp [qB6, qDS, h1, h2, h3]
    rw [hR]; clear hR
    go_enter Tryz.func65, Tryz.ntmps65
    go_wp2_with fail
    (obtain ⟨w0, hw0⟩ : ∃ W : World, W = (((w.alloc (.cells #[.int .i64 m, .slice o t.length c] 26)).alloc (.cells #[.int .i64 m1, .slice o1 xs.length c1] 34)).alloc (.cells #[.int .i64 m2, .slice o2 ys.length c2] 34)) := ⟨_, rfl⟩; have X0 := (RB2.mk1 w  (.int .i64 m) (.slice o t.length c) 26).1.below (w' := w0) (bV hw0) (nl _); have Y0 := (RB2.mk2 w (.cells #[.int .i64 m, .slice o t.length c] 26) (.int .i64 m1) (.slice o1 xs.length c1) 34).1.below (w' := w0) (bV hw0) (nl _); have Z0 := (RB2.mk3 w (.cells #[.int .i64 m, .slice o t.length c] 26) (.cells #[.int .i64 m1, .slice o1 xs.length c1] 34) (.int .i64 m2) (.slice o2 ys.length c2) 34).1.below (w' := w0) (bV hw0) (nl _); have B0 : Below w.heap.size w w0 := (bV hw0); have hv0 := hv.below (w' := w0) (bV hw0) (nl _); have hu0 := hu.below (w' := w0) (bV hw0) (nl _); have hu'0 := hu'.below (w' := w0) (bV hw0) (nl _); rw [← hw0]; clear hw0)
    (obtain ⟨gqX0, gqX1⟩ := id X0; go_wp2_with fail; refine (qCK m _ t _ hv0).mono ?_; rw [h1]; rintro e w1 ⟨rfl, hb⟩; (have X1 := X0.below hb; have Y1 := Y0.below hb; have Z1 := Z0.below hb; have hv1 := hv0.below hb; have hu1 := hu0.below hb; have hu'1 := hu'0.below hb; have B1 := B0.trans (hb.mono B0.size)); clear gqX0 gqX1; clear hb)
    (obtain ⟨gqY0, gqY1⟩ := id Y1; go_wp2_with fail; refine (qBY m1 _ xs _ hu1).mono ?_; rw [h2]; rintro e w2 ⟨rfl, hb⟩; (have X2 := X1.below hb; have Y2 := Y1.below hb; have Z2 := Z1.below hb; have hv2 := hv1.below hb; have hu2 := hu1.below hb; have hu'2 := hu'1.below hb; have B2 := B1.trans (hb.mono B1.size)); clear gqY0 gqY1; clear hb)
    (obtain ⟨gqZ0, gqZ1⟩ := id Z2; go_wp2_with fail; refine (qBY m2 _ ys _ hu'2).mono ?_; rw [h3]; rintro e w3 ⟨rfl, hb⟩; (have X3 := X2.below hb; have Y3 := Y2.below hb; have Z3 := Z2.below hb; have hv3 := hv2.below hb; have hu3 := hu2.below hb; have hu'3 := hu'2.below hb; have B3 := B2.trans (hb.mono B2.size)); clear gqZ0 gqZ1; clear hb)
    go_wp2; go_ret; exact ⟨rfl, B3⟩
   ·skip
    cases h4 : qBz m t.length (m1, xs)
    ·skip
     have hR : qB6 m t m1 xs m2 ys = 2 := by simp [qB6, qDS, h1, h2, h3, h4]
     rw [hR]; clear hR
     go_enter Tryz.func65, Tryz.ntmps65
     go_wp2_with fail
     (obtain ⟨w0, hw0⟩ : ∃ W : World, W = (((w.alloc (.cells #[.int .i64 m, .slice o t.length c] 26)).alloc (.cells #[.int .i64 m1, .slice o1 xs.length c1] 34)).alloc (.cells #[.int .i64 m2, .slice o2 ys.length c2] 34)) := ⟨_, rfl⟩; have X0 := (RB2.mk1 w  (.int .i64 m) (.slice o t.length c) 26).1.below (w' := w0) (bV hw0) (nl _); have Y0 := (RB2.mk2 w (.cells #[.int .i64 m, .slice o t.length c] 26) (.int .i64 m1) (.slice o1 xs.length c1) 34).1.below (w' := w0) (bV hw0) (nl _); have Z0 := (RB2.mk3 w (.cells #[.int .i64 m, .slice o t.length c] 26) (.cells #[.int .i64 m1, .slice o1 xs.length c1] 34) (.int .i64 m2) (.slice o2 ys.length c2) 34).1.below (w' := w0) (bV hw0) (nl _); have B0 : Below w.heap.size w w0 := (bV hw0); have hv0 := hv.below (w' := w0) (bV hw0) (nl _); have hu0 := hu.below (w' := w0) (bV hw0) (nl _); have hu'0 := hu'.below (w' := w0) (bV hw0) (nl _); rw [← hw0]; clear hw0)
     (obtain ⟨gqX0, gqX1⟩ := id X0; go_wp2_with fail; refine (qCK m _ t _ hv0).mono ?_; rw [h1]; rintro e w1 ⟨rfl, hb⟩; (have X1 := X0.below hb; have Y1 := Y0.below hb; have Z1 := Z0.below hb; have hv1 := hv0.below hb; have hu1 := hu0.below hb; have hu'1 := hu'0.below hb; have B1 := B0.trans (hb.mono B0.size)); clear gqX0 gqX1; clear hb)
     (obtain ⟨gqY0, gqY1⟩ := id Y1; go_wp2_with fail; refine (qBY m1 _ xs _ hu1).mono ?_; rw [h2]; rintro e w2 ⟨rfl, hb⟩; (have X2 := X1.below hb; have Y2 := Y1.below hb; have Z2 := Z1.below hb; have hv2 := hv1.below hb; have hu2 := hu1.below hb; have hu'2 := hu'1.below hb; have B2 := B1.trans (hb.mono B1.size)); clear gqY0 gqY1; clear hb)
     (obtain ⟨gqZ0, gqZ1⟩ := id Z2; go_wp2_with fail; refine (qBY m2 _ ys _ hu'2).mono ?_; rw [h3]; rintro e w3 ⟨rfl, hb⟩; (have X3 := X2.below hb; have Y3 := Y2.below hb; have Z3 := Z2.below hb; have hv3 := hv2.below hb; have hu3 := hu2.below hb; have hu'3 := hu'2.below hb; have B3 := B2.trans (hb.mono B2.size)); clear gqZ0 gqZ1; clear hb)
     (obtain ⟨gqX0, gqX1⟩ := id X3; obtain ⟨gqY0, gqY1⟩ := id Y3; go_wp2_with fail; refine (qCt m m1 _ _ t xs _ hv3 hu3).mono ?_; rw [h4]; rintro e w4 ⟨rfl, hb⟩; (have X4 := X3.below hb; have Y4 := Y3.below hb; have Z4 := Z3.below hb; have hv4 := hv3.below hb; have hu4 := hu3.below hb; have hu'4 := hu'3.below hb; have B4 := B3.trans (hb.mono B3.size)); clear gqX0 gqX1 gqY0 gqY1; clear hb)
     go_wp2; go_ret; exact ⟨rfl, B4⟩
    ·skip
     cases h5 : qBz m t.length (m2, ys)
     ·skip
      have hR : qB6 m t m1 xs m2 ys = 2 := by simp [qB6, qDS, h1, h2, h3, h4, h5]
      rw [hR]; clear hR
      go_enter Tryz.func65, Tryz.ntmps65
      go_wp2_with fail
      (obtain ⟨w0, hw0⟩ : ∃ W : World, W = (((w.alloc (.cells #[.int .i64 m, .slice o t.length c] 26)).alloc (.cells #[.int .i64 m1, .slice o1 xs.length c1] 34)).alloc (.cells #[.int .i64 m2, .slice o2 ys.length c2] 34)) := ⟨_, rfl⟩; have X0 := (RB2.mk1 w  (.int .i64 m) (.slice o t.length c) 26).1.below (w' := w0) (bV hw0) (nl _); have Y0 := (RB2.mk2 w (.cells #[.int .i64 m, .slice o t.length c] 26) (.int .i64 m1) (.slice o1 xs.length c1) 34).1.below (w' := w0) (bV hw0) (nl _); have Z0 := (RB2.mk3 w (.cells #[.int .i64 m, .slice o t.length c] 26) (.cells #[.int .i64 m1, .slice o1 xs.length c1] 34) (.int .i64 m2) (.slice o2 ys.length c2) 34).1.below (w' := w0) (bV hw0) (nl _); have B0 : Below w.heap.size w w0 := (bV hw0); have hv0 := hv.below (w' := w0) (bV hw0) (nl _); have hu0 := hu.below (w' := w0) (bV hw0) (nl _); have hu'0 := hu'.below (w' := w0) (bV hw0) (nl _); rw [← hw0]; clear hw0)
      (obtain ⟨gqX0, gqX1⟩ := id X0; go_wp2_with fail; refine (qCK m _ t _ hv0).mono ?_; rw [h1]; rintro e w1 ⟨rfl, hb⟩; (have X1 := X0.below hb; have Y1 := Y0.below hb; have Z1 := Z0.below hb; have hv1 := hv0.below hb; have hu1 := hu0.below hb; have hu'1 := hu'0.below hb; have B1 := B0.trans (hb.mono B0.size)); clear gqX0 gqX1; clear hb)
      (obtain ⟨gqY0, gqY1⟩ := id Y1; go_wp2_with fail; refine (qBY m1 _ xs _ hu1).mono ?_; rw [h2]; rintro e w2 ⟨rfl, hb⟩; (have X2 := X1.below hb; have Y2 := Y1.below hb; have Z2 := Z1.below hb; have hv2 := hv1.below hb; have hu2 := hu1.below hb; have hu'2 := hu'1.below hb; have B2 := B1.trans (hb.mono B1.size)); clear gqY0 gqY1; clear hb)
      (obtain ⟨gqZ0, gqZ1⟩ := id Z2; go_wp2_with fail; refine (qBY m2 _ ys _ hu'2).mono ?_; rw [h3]; rintro e w3 ⟨rfl, hb⟩; (have X3 := X2.below hb; have Y3 := Y2.below hb; have Z3 := Z2.below hb; have hv3 := hv2.below hb; have hu3 := hu2.below hb; have hu'3 := hu'2.below hb; have B3 := B2.trans (hb.mono B2.size)); clear gqZ0 gqZ1; clear hb)
      (obtain ⟨gqX0, gqX1⟩ := id X3; obtain ⟨gqY0, gqY1⟩ := id Y3; go_wp2_with fail; refine (qCt m m1 _ _ t xs _ hv3 hu3).mono ?_; rw [h4]; rintro e w4 ⟨rfl, hb⟩; (have X4 := X3.below hb; have Y4 := Y3.below hb; have Z4 := Z3.below hb; have hv4 := hv3.below hb; have hu4 := hu3.below hb; have hu'4 := hu'3.below hb; have B4 := B3.trans (hb.mono B3.size)); clear gqX0 gqX1 gqY0 gqY1; clear hb)
      (obtain ⟨gqX0, gqX1⟩ := id X4; obtain ⟨gqZ0, gqZ1⟩ := id Z4; go_wp2_with fail; refine (qCt m m2 _ _ t ys _ hv4 hu'4).mono ?_; rw [h5]; rintro e w5 ⟨rfl, hb⟩; (have X5 := X4.below hb; have Y5 := Y4.below hb; have Z5 := Z4.below hb; have hv5 := hv4.below hb; have hu5 := hu4.below hb; have hu'5 := hu'4.below hb; have B5 := B4.trans (hb.mono B4.size)); clear gqX0 gqX1 gqZ0 gqZ1; clear hb)
      go_wp2; go_ret; exact ⟨rfl, B5⟩
     ·skip
      cases h6 : qD5 m1 xs
      ·skip
       have hR : qB6 m t m1 xs m2 ys = 5 := by simp [qB6, qDS, h1, h2, h3, h4, h5, h6]
       rw [hR]; clear hR
       go_enter Tryz.func65, Tryz.ntmps65
       go_wp2_with fail
       (obtain ⟨w0, hw0⟩ : ∃ W : World, W = (((w.alloc (.cells #[.int .i64 m, .slice o t.length c] 26)).alloc (.cells #[.int .i64 m1, .slice o1 xs.length c1] 34)).alloc (.cells #[.int .i64 m2, .slice o2 ys.length c2] 34)) := ⟨_, rfl⟩; have X0 := (RB2.mk1 w  (.int .i64 m) (.slice o t.length c) 26).1.below (w' := w0) (bV hw0) (nl _); have Y0 := (RB2.mk2 w (.cells #[.int .i64 m, .slice o t.length c] 26) (.int .i64 m1) (.slice o1 xs.length c1) 34).1.below (w' := w0) (bV hw0) (nl _); have Z0 := (RB2.mk3 w (.cells #[.int .i64 m, .slice o t.length c] 26) (.cells #[.int .i64 m1, .slice o1 xs.length c1] 34) (.int .i64 m2) (.slice o2 ys.length c2) 34).1.below (w' := w0) (bV hw0) (nl _); have B0 : Below w.heap.size w w0 := (bV hw0); have hv0 := hv.below (w' := w0) (bV hw0) (nl _); have hu0 := hu.below (w' := w0) (bV hw0) (nl _); have hu'0 := hu'.below (w' := w0) (bV hw0) (nl _); rw [← hw0]; clear hw0)
       (obtain ⟨gqX0, gqX1⟩ := id X0; go_wp2_with fail; refine (qCK m _ t _ hv0).mono ?_; rw [h1]; rintro e w1 ⟨rfl, hb⟩; (have X1 := X0.below hb; have Y1 := Y0.below hb; have Z1 := Z0.below hb; have hv1 := hv0.below hb; have hu1 := hu0.below hb; have hu'1 := hu'0.below hb; have B1 := B0.trans (hb.mono B0.size)); clear gqX0 gqX1; clear hb)
       (obtain ⟨gqY0, gqY1⟩ := id Y1; go_wp2_with fail; refine (qBY m1 _ xs _ hu1).mono ?_; rw [h2]; rintro e w2 ⟨rfl, hb⟩; (have X2 := X1.below hb; have Y2 := Y1.below hb; have Z2 := Z1.below hb; have hv2 := hv1.below hb; have hu2 := hu1.below hb; have hu'2 := hu'1.below hb; have B2 := B1.trans (hb.mono B1.size)); clear gqY0 gqY1; clear hb)
       (obtain ⟨gqZ0, gqZ1⟩ := id Z2; go_wp2_with fail; refine (qBY m2 _ ys _ hu'2).mono ?_; rw [h3]; rintro e w3 ⟨rfl, hb⟩; (have X3 := X2.below hb; have Y3 := Y2.below hb; have Z3 := Z2.below hb; have hv3 := hv2.below hb; have hu3 := hu2.below hb; have hu'3 := hu'2.below hb; have B3 := B2.trans (hb.mono B2.size)); clear gqZ0 gqZ1; clear hb)
       (obtain ⟨gqX0, gqX1⟩ := id X3; obtain ⟨gqY0, gqY1⟩ := id Y3; go_wp2_with fail; refine (qCt m m1 _ _ t xs _ hv3 hu3).mono ?_; rw [h4]; rintro e w4 ⟨rfl, hb⟩; (have X4 := X3.below hb; have Y4 := Y3.below hb; have Z4 := Z3.below hb; have hv4 := hv3.below hb; have hu4 := hu3.below hb; have hu'4 := hu'3.below hb; have B4 := B3.trans (hb.mono B3.size)); clear gqX0 gqX1 gqY0 gqY1; clear hb)
       (obtain ⟨gqX0, gqX1⟩ := id X4; obtain ⟨gqZ0, gqZ1⟩ := id Z4; go_wp2_with fail; refine (qCt m m2 _ _ t ys _ hv4 hu'4).mono ?_; rw [h5]; rintro e w5 ⟨rfl, hb⟩; (have X5 := X4.below hb; have Y5 := Y4.below hb; have Z5 := Z4.below hb; have hv5 := hv4.below hb; have hu5 := hu4.below hb; have hu'5 := hu'4.below hb; have B5 := B4.trans (hb.mono B4.size)); clear gqX0 gqX1 gqZ0 gqZ1; clear hb)
       (obtain ⟨gqY0, gqY1⟩ := id Y5; go_wp2_with fail; refine (qFL m1 _ xs _ hu5).mono ?_; rw [h6]; rintro e w6 ⟨rfl, hb⟩; (have X6 := X5.below hb; have Y6 := Y5.below hb; have Z6 := Z5.below hb; have hv6 := hv5.below hb; have hu6 := hu5.below hb; have hu'6 := hu'5.below hb; have B6 := B5.trans (hb.mono B5.size)); clear gqY0 gqY1; clear hb)
       go_wp2; go_ret; exact ⟨rfl, B6⟩
      ·skip
       cases h7 : qD5 m2 ys
       ·skip
        have hR : qB6 m t m1 xs m2 ys = 5 := by simp [qB6, qDS, h1, h2, h3, h4, h5, h6, h7]
        rw [hR]; clear hR
        go_enter Tryz.func65, Tryz.ntmps65
        go_wp2_with fail
        (obtain ⟨w0, hw0⟩ : ∃ W : World, W = (((w.alloc (.cells #[.int .i64 m, .slice o t.length c] 26)).alloc (.cells #[.int .i64 m1, .slice o1 xs.length c1] 34)).alloc (.cells #[.int .i64 m2, .slice o2 ys.length c2] 34)) := ⟨_, rfl⟩; have X0 := (RB2.mk1 w  (.int .i64 m) (.slice o t.length c) 26).1.below (w' := w0) (bV hw0) (nl _); have Y0 := (RB2.mk2 w (.cells #[.int .i64 m, .slice o t.length c] 26) (.int .i64 m1) (.slice o1 xs.length c1) 34).1.below (w' := w0) (bV hw0) (nl _); have Z0 := (RB2.mk3 w (.cells #[.int .i64 m, .slice o t.length c] 26) (.cells #[.int .i64 m1, .slice o1 xs.length c1] 34) (.int .i64 m2) (.slice o2 ys.length c2) 34).1.below (w' := w0) (bV hw0) (nl _); have B0 : Below w.heap.size w w0 := (bV hw0); have hv0 := hv.below (w' := w0) (bV hw0) (nl _); have hu0 := hu.below (w' := w0) (bV hw0) (nl _); have hu'0 := hu'.below (w' := w0) (bV hw0) (nl _); rw [← hw0]; clear hw0)
        (obtain ⟨gqX0, gqX1⟩ := id X0; go_wp2_with fail; refine (qCK m _ t _ hv0).mono ?_; rw [h1]; rintro e w1 ⟨rfl, hb⟩; (have X1 := X0.below hb; have Y1 := Y0.below hb; have Z1 := Z0.below hb; have hv1 := hv0.below hb; have hu1 := hu0.below hb; have hu'1 := hu'0.below hb; have B1 := B0.trans (hb.mono B0.size)); clear gqX0 gqX1; clear hb)
        (obtain ⟨gqY0, gqY1⟩ := id Y1; go_wp2_with fail; refine (qBY m1 _ xs _ hu1).mono ?_; rw [h2]; rintro e w2 ⟨rfl, hb⟩; (have X2 := X1.below hb; have Y2 := Y1.below hb; have Z2 := Z1.below hb; have hv2 := hv1.below hb; have hu2 := hu1.below hb; have hu'2 := hu'1.below hb; have B2 := B1.trans (hb.mono B1.size)); clear gqY0 gqY1; clear hb)
        (obtain ⟨gqZ0, gqZ1⟩ := id Z2; go_wp2_with fail; refine (qBY m2 _ ys _ hu'2).mono ?_; rw [h3]; rintro e w3 ⟨rfl, hb⟩; (have X3 := X2.below hb; have Y3 := Y2.below hb; have Z3 := Z2.below hb; have hv3 := hv2.below hb; have hu3 := hu2.below hb; have hu'3 := hu'2.below hb; have B3 := B2.trans (hb.mono B2.size)); clear gqZ0 gqZ1; clear hb)
        (obtain ⟨gqX0, gqX1⟩ := id X3; obtain ⟨gqY0, gqY1⟩ := id Y3; go_wp2_with fail; refine (qCt m m1 _ _ t xs _ hv3 hu3).mono ?_; rw [h4]; rintro e w4 ⟨rfl, hb⟩; (have X4 := X3.below hb; have Y4 := Y3.below hb; have Z4 := Z3.below hb; have hv4 := hv3.below hb; have hu4 := hu3.below hb; have hu'4 := hu'3.below hb; have B4 := B3.trans (hb.mono B3.size)); clear gqX0 gqX1 gqY0 gqY1; clear hb)
        (obtain ⟨gqX0, gqX1⟩ := id X4; obtain ⟨gqZ0, gqZ1⟩ := id Z4; go_wp2_with fail; refine (qCt m m2 _ _ t ys _ hv4 hu'4).mono ?_; rw [h5]; rintro e w5 ⟨rfl, hb⟩; (have X5 := X4.below hb; have Y5 := Y4.below hb; have Z5 := Z4.below hb; have hv5 := hv4.below hb; have hu5 := hu4.below hb; have hu'5 := hu'4.below hb; have B5 := B4.trans (hb.mono B4.size)); clear gqX0 gqX1 gqZ0 gqZ1; clear hb)
        (obtain ⟨gqY0, gqY1⟩ := id Y5; go_wp2_with fail; refine (qFL m1 _ xs _ hu5).mono ?_; rw [h6]; rintro e w6 ⟨rfl, hb⟩; (have X6 := X5.below hb; have Y6 := Y5.below hb; have Z6 := Z5.below hb; have hv6 := hv5.below hb; have hu6 := hu5.below hb; have hu'6 := hu'5.below hb; have B6 := B5.trans (hb.mono B5.size)); clear gqY0 gqY1; clear hb)
        (obtain ⟨gqZ0, gqZ1⟩ := id Z6; go_wp2_with fail; refine (qFL m2 _ ys _ hu'6).mono ?_; rw [h7]; rintro e w7 ⟨rfl, hb⟩; (have X7 := X6.below hb; have Y7 := Y6.below hb; have Z7 := Z6.below hb; have hv7 := hv6.below hb; have hu7 := hu6.below hb; have hu'7 := hu'6.below hb; have B7 := B6.trans (hb.mono B6.size)); clear gqZ0 gqZ1; clear hb)
        go_wp2; go_ret; exact ⟨rfl, B7⟩
       ·skip
        have hR : qB6 m t m1 xs m2 ys = 0 := by simp [qB6, qDS, h1, h2, h3, h4, h5, h6, h7]
        rw [hR]; clear hR
        go_enter Tryz.func65, Tryz.ntmps65
        go_wp2_with fail
        (obtain ⟨w0, hw0⟩ : ∃ W : World, W = (((w.alloc (.cells #[.int .i64 m, .slice o t.length c] 26)).alloc (.cells #[.int .i64 m1, .slice o1 xs.length c1] 34)).alloc (.cells #[.int .i64 m2, .slice o2 ys.length c2] 34)) := ⟨_, rfl⟩; have X0 := (RB2.mk1 w  (.int .i64 m) (.slice o t.length c) 26).1.below (w' := w0) (bV hw0) (nl _); have Y0 := (RB2.mk2 w (.cells #[.int .i64 m, .slice o t.length c] 26) (.int .i64 m1) (.slice o1 xs.length c1) 34).1.below (w' := w0) (bV hw0) (nl _); have Z0 := (RB2.mk3 w (.cells #[.int .i64 m, .slice o t.length c] 26) (.cells #[.int .i64 m1, .slice o1 xs.length c1] 34) (.int .i64 m2) (.slice o2 ys.length c2) 34).1.below (w' := w0) (bV hw0) (nl _); have B0 : Below w.heap.size w w0 := (bV hw0); have hv0 := hv.below (w' := w0) (bV hw0) (nl _); have hu0 := hu.below (w' := w0) (bV hw0) (nl _); have hu'0 := hu'.below (w' := w0) (bV hw0) (nl _); rw [← hw0]; clear hw0)
        (obtain ⟨gqX0, gqX1⟩ := id X0; go_wp2_with fail; refine (qCK m _ t _ hv0).mono ?_; rw [h1]; rintro e w1 ⟨rfl, hb⟩; (have X1 := X0.below hb; have Y1 := Y0.below hb; have Z1 := Z0.below hb; have hv1 := hv0.below hb; have hu1 := hu0.below hb; have hu'1 := hu'0.below hb; have B1 := B0.trans (hb.mono B0.size)); clear gqX0 gqX1; clear hb)
        (obtain ⟨gqY0, gqY1⟩ := id Y1; go_wp2_with fail; refine (qBY m1 _ xs _ hu1).mono ?_; rw [h2]; rintro e w2 ⟨rfl, hb⟩; (have X2 := X1.below hb; have Y2 := Y1.below hb; have Z2 := Z1.below hb; have hv2 := hv1.below hb; have hu2 := hu1.below hb; have hu'2 := hu'1.below hb; have B2 := B1.trans (hb.mono B1.size)); clear gqY0 gqY1; clear hb)
        (obtain ⟨gqZ0, gqZ1⟩ := id Z2; go_wp2_with fail; refine (qBY m2 _ ys _ hu'2).mono ?_; rw [h3]; rintro e w3 ⟨rfl, hb⟩; (have X3 := X2.below hb; have Y3 := Y2.below hb; have Z3 := Z2.below hb; have hv3 := hv2.below hb; have hu3 := hu2.below hb; have hu'3 := hu'2.below hb; have B3 := B2.trans (hb.mono B2.size)); clear gqZ0 gqZ1; clear hb)
        (obtain ⟨gqX0, gqX1⟩ := id X3; obtain ⟨gqY0, gqY1⟩ := id Y3; go_wp2_with fail; refine (qCt m m1 _ _ t xs _ hv3 hu3).mono ?_; rw [h4]; rintro e w4 ⟨rfl, hb⟩; (have X4 := X3.below hb; have Y4 := Y3.below hb; have Z4 := Z3.below hb; have hv4 := hv3.below hb; have hu4 := hu3.below hb; have hu'4 := hu'3.below hb; have B4 := B3.trans (hb.mono B3.size)); clear gqX0 gqX1 gqY0 gqY1; clear hb)
        (obtain ⟨gqX0, gqX1⟩ := id X4; obtain ⟨gqZ0, gqZ1⟩ := id Z4; go_wp2_with fail; refine (qCt m m2 _ _ t ys _ hv4 hu'4).mono ?_; rw [h5]; rintro e w5 ⟨rfl, hb⟩; (have X5 := X4.below hb; have Y5 := Y4.below hb; have Z5 := Z4.below hb; have hv5 := hv4.below hb; have hu5 := hu4.below hb; have hu'5 := hu'4.below hb; have B5 := B4.trans (hb.mono B4.size)); clear gqX0 gqX1 gqZ0 gqZ1; clear hb)
        (obtain ⟨gqY0, gqY1⟩ := id Y5; go_wp2_with fail; refine (qFL m1 _ xs _ hu5).mono ?_; rw [h6]; rintro e w6 ⟨rfl, hb⟩; (have X6 := X5.below hb; have Y6 := Y5.below hb; have Z6 := Z5.below hb; have hv6 := hv5.below hb; have hu6 := hu5.below hb; have hu'6 := hu'5.below hb; have B6 := B5.trans (hb.mono B5.size)); clear gqY0 gqY1; clear hb)
        (obtain ⟨gqZ0, gqZ1⟩ := id Z6; go_wp2_with fail; refine (qFL m2 _ ys _ hu'6).mono ?_; rw [h7]; rintro e w7 ⟨rfl, hb⟩; (have X7 := X6.below hb; have Y7 := Y6.below hb; have Z7 := Z6.below hb; have hv7 := hv6.below hb; have hu7 := hu6.below hb; have hu'7 := hu'6.below hb; have B7 := B6.trans (hb.mono B6.size)); clear gqZ0 gqZ1; clear hb)
        go_wp2; go_ret; exact ⟨rfl, B7⟩

end Go.Proofs.YtfpphfjlpgefaaaGreat
