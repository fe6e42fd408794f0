/- Lemmas. -/
import Derived.Test.YtfpphfjlpgefaaaGreatqM27
import Derived.Test.YtfpphfjlpgefaaaGreatqM6
set_option maxHeartbeats 1000000
set_option maxRecDepth 100000
set_option linter.unusedSimpArgs false
set_option linter.unusedVariables false
namespace Go.Proofs.YtfpphfjlpgefaaaGreat
open Go.RowKit

theorem fit1 (m : Int) (yss : Tb) (m' : Int) (xs : Li) : qCa m yss [(m', xs)] = if qAg m yss then (if qB_ m' xs then (if qBz m yss.length (m', xs) then 0 else 2) else 1) else 1 := by simp [qCa]
theorem fitB_t {m : Int} {n : Nat} {m' : Int} {xs : Li} (h : qBz m n (m', xs) = true) : m = m' ∧ n = xs.length := by
 simp only [qBz, Bool.and_eq_true, beq_iff_eq] at h
 omega
def qCM (m' : Int) (xs : Li) (m : Int) (yss : Tb) : PR :=
 if qCa m yss [(m', xs)] = 0 then (if atT yss 0 0 == 0 then ⟨m, qAK m yss.length yss xs, 0⟩ else PR.bad 5) else PR.bad (qCa m yss [(m', xs)])
theorem qJJ {m : Int} {xs : Li} {n : Int} {ys : Tb} (hc : qCa n ys [(m, xs)] = 0) (h : (atT ys 0 0 != 0) = false) : qCM m xs n ys = ⟨n, qAK n ys.length ys xs, 0⟩ := by
 unfold qCM
 rw [if_pos hc, if_pos (by simpa using h)]
theorem qOC {m : Int} {xs : Li} {n : Int} {ys : Tb} (hc : qCa n ys [(m, xs)] = 0) (h : (atT ys 0 0 != 0) = true) : qCM m xs n ys = PR.bad 5 := by
 unfold qCM
 rw [if_pos hc, if_neg (by simpa using h)]
theorem qO5 {m : Int} {n : Nat} {t : Tb} {cs : Li} (hn : n ≤ 1000) : qBu (qAK m n t cs) ≤ 1048576 := by
 cases cs <;> exact qFO hn _

theorem qP4 (m : Int) (v : Value) (xs : Li) (n : Int) (u : Value) (ys : Tb) (w : World) (hv : RdI w v xs) (hu : RdT w u ys) :
  Calls Tryz.prog 28 #[.agg #[.int .i64 m, v], .agg #[.int .i64 n, u]] w fun e w' => qE4 w w' (qCM m xs n ys) e := by
 obtain ⟨o, c, rfl, -, -⟩ := id hv
 obtain ⟨o', c', rfl, -, -⟩ := id hu
 cases h1 : qB_ m xs
 ·have hR : qCM m xs n ys = PR.bad 1 := by unfold qCM; simp [fit1, h1]
  rw [hR]; clear hR
  go_enter Tryz.func28, Tryz.ntmps28
  go_wp2_with fail
  (obtain ⟨w0, hw0⟩ : ∃ W : World, W = (((w.alloc (.cells #[.int .i64 m, .slice o xs.length c] 34)).alloc (.cells #[.int .i64 n, .slice o' ys.length c'] 26)).alloc (.cells #[.int .i64 0, .slice none 0 0] 26)) := ⟨_, rfl⟩; have X0 := (RB2.mk1 w  (.int .i64 m) (.slice o xs.length c) 34).1.below (w' := w0) (bV hw0) (nl _); have Y0 := (RB2.mk2 w (.cells #[.int .i64 m, .slice o xs.length c] 34) (.int .i64 n) (.slice o' ys.length c') 26).1.below (w' := w0) (bV hw0) (nl _); have R0 := (RB2.mk3 w (.cells #[.int .i64 m, .slice o xs.length c] 34) (.cells #[.int .i64 n, .slice o' ys.length c'] 26) (.int .i64 0) (.slice none 0 0) 26).below (w' := w0) (bV hw0) (nl _); have B0 : Below w.heap.size w w0 := (bV hw0); have hv0 := hv.below (w' := w0) (bV hw0) (nl _); have hu0 := hu.below (w' := w0) (bV hw0) (nl _); rw [← hw0]; clear hw0)
  (obtain ⟨gqX0, gqX1⟩ := id X0; go_wp2_with fail; refine (qBY m _ xs _ hv0).mono ?_; rw [h1]; rintro e w1 ⟨rfl, hb⟩; (have R1 := R0.below hb; have B1 := B0.trans (hb.mono B0.size)); clear gqX0 gqX1; clear hb)
  (obtain ⟨⟨r0, r1⟩, rf⟩ := id R1; go_wp2; exact bodyPost_ret (v := .tuple #[.agg #[.int .i64 0, .slice none 0 0], .int .i64 1]) (by simp [results, Tryz.results28, go_sem, r0, r1]) rfl ⟨_, rfl, OwS.nil _ _, (bY1 B1), by simp [PR.bad, qBu, qBW]⟩)
 ·cases h2 : qAg n ys
  ·have hR : qCM m xs n ys = PR.bad 1 := by unfold qCM; simp [fit1, h2]
   rw [hR]; clear hR
   go_enter Tryz.func28, Tryz.ntmps28
   go_wp2_with fail
   (obtain ⟨w0, hw0⟩ : ∃ W : World, W = (((w.alloc (.cells #[.int .i64 m, .slice o xs.length c] 34)).alloc (.cells #[.int .i64 n, .slice o' ys.length c'] 26)).alloc (.cells #[.int .i64 0, .slice none 0 0] 26)) := ⟨_, rfl⟩; have X0 := (RB2.mk1 w  (.int .i64 m) (.slice o xs.length c) 34).1.below (w' := w0) (bV hw0) (nl _); have Y0 := (RB2.mk2 w (.cells #[.int .i64 m, .slice o xs.length c] 34) (.int .i64 n) (.slice o' ys.length c') 26).1.below (w' := w0) (bV hw0) (nl _); have R0 := (RB2.mk3 w (.cells #[.int .i64 m, .slice o xs.length c] 34) (.cells #[.int .i64 n, .slice o' ys.length c'] 26) (.int .i64 0) (.slice none 0 0) 26).below (w' := w0) (bV hw0) (nl _); have B0 : Below w.heap.size w w0 := (bV hw0); have hv0 := hv.below (w' := w0) (bV hw0) (nl _); have hu0 := hu.below (w' := w0) (bV hw0) (nl _); rw [← hw0]; clear hw0)
   (obtain ⟨gqX0, gqX1⟩ := id X0; go_wp2_with fail; refine (qBY m _ xs _ hv0).mono ?_; rw [h1]; rintro e w1 ⟨rfl, hb⟩; (have Y1 := Y0.below hb; have R1 := R0.below hb; have hv1 := hv0.below hb; have hu1 := hu0.below hb; have B1 := B0.trans (hb.mono B0.size)); clear gqX0 gqX1; clear hb)
   (obtain ⟨gqY0, gqY1⟩ := id Y1; go_wp2_with fail; refine (qCK n _ ys _ hu1).mono ?_; rw [h2]; rintro e w2 ⟨rfl, hb⟩; (have R2 := R1.below hb; have B2 := B1.trans (hb.mono B1.size)); clear gqY0 gqY1; clear hb)
   (obtain ⟨⟨r0, r1⟩, rf⟩ := id R2; go_wp2; exact bodyPost_ret (v := .tuple #[.agg #[.int .i64 0, .slice none 0 0], .int .i64 1]) (by simp [results, Tryz.results28, go_sem, r0, r1]) rfl ⟨_, rfl, OwS.nil _ _, (bY1 B2), by simp [PR.bad, qBu, qBW]⟩)
  ·cases h3 : qBz n ys.length (m, xs)
   ·have hR : qCM m xs n ys = PR.bad 2 := by unfold qCM; simp [fit1, h1, h2, h3]
    rw [hR]; clear hR
    go_enter Tryz.func28, Tryz.ntmps28
    go_wp2_with fail
    (obtain ⟨w0, hw0⟩ : ∃ W : World, W = (((w.alloc (.cells #[.int .i64 m, .slice o xs.length c] 34)).alloc (.cells #[.int .i64 n, .slice o' ys.length c'] 26)).alloc (.cells #[.int .i64 0, .slice none 0 0] 26)) := ⟨_, rfl⟩; have X0 := (RB2.mk1 w  (.int .i64 m) (.slice o xs.length c) 34).1.below (w' := w0) (bV hw0) (nl _); have Y0 := (RB2.mk2 w (.cells #[.int .i64 m, .slice o xs.length c] 34) (.int .i64 n) (.slice o' ys.length c') 26).1.below (w' := w0) (bV hw0) (nl _); have R0 := (RB2.mk3 w (.cells #[.int .i64 m, .slice o xs.length c] 34) (.cells #[.int .i64 n, .slice o' ys.length c'] 26) (.int .i64 0) (.slice none 0 0) 26).below (w' := w0) (bV hw0) (nl _); have B0 : Below w.heap.size w w0 := (bV hw0); have hv0 := hv.below (w' := w0) (bV hw0) (nl _); have hu0 := hu.below (w' := w0) (bV hw0) (nl _); rw [← hw0]; clear hw0)
    (obtain ⟨gqX0, gqX1⟩ := id X0; go_wp2_with fail; refine (qBY m _ xs _ hv0).mono ?_; rw [h1]; rintro e w1 ⟨rfl, hb⟩; (have X1 := X0.below hb; have Y1 := Y0.below hb; have R1 := R0.below hb; have hv1 := hv0.below hb; have hu1 := hu0.below hb; have B1 := B0.trans (hb.mono B0.size)); clear gqX0 gqX1; clear hb)
    (obtain ⟨gqY0, gqY1⟩ := id Y1; go_wp2_with fail; refine (qCK n _ ys _ hu1).mono ?_; rw [h2]; rintro e w2 ⟨rfl, hb⟩; (have X2 := X1.below hb; have Y2 := Y1.below hb; have R2 := R1.below hb; have hv2 := hv1.below hb; have hu2 := hu1.below hb; have B2 := B1.trans (hb.mono B1.size)); clear gqY0 gqY1; clear hb)
    (obtain ⟨gqX0, gqX1⟩ := id X2; obtain ⟨gqY0, gqY1⟩ := id Y2; go_wp2_with fail; refine (qCt n m _ _ ys xs _ hu2 hv2).mono ?_; rw [h3]; rintro e w3 ⟨rfl, hb⟩; (have R3 := R2.below hb; have B3 := B2.trans (hb.mono B2.size)); clear gqX0 gqX1 gqY0 gqY1; clear hb)
    (obtain ⟨⟨r0, r1⟩, rf⟩ := id R3; go_wp2; exact bodyPost_ret (v := .tuple #[.agg #[.int .i64 0, .slice none 0 0], .int .i64 2]) (by simp [results, Tryz.results28, go_sem, r0, r1]) rfl ⟨_, rfl, OwS.nil _ _, (bY1 B3), by simp [PR.bad, qBu, qBW]⟩)
   ·obtain ⟨rfl, hl⟩ := fitB_t h3; have hn := qFq h2; have hm := qFD h2; have hx := qGH h1; have hxn := ser_n h1; have hyr := qF9 h2; have HP := dd (show PlaT n ys.length ys from ⟨rfl, hyr⟩); obtain ⟨r0, hr0, hrl, hrj⟩ := HP.out.row (i := 0) Oo; have hr00 := hrj 0 Oo; clear hyr hrj; have HR0 := dd hr0; have HRL := dd hrl; have HR00 := dd hr00; have HL := dd hl; clear hr0 hrl hr00 hl; cases h4 : (atT ys 0 0 != 0)
    ·have hR : qCM n xs n ys = ⟨n, qAK n ys.length ys xs, 0⟩ := qJJ (by simp [fit1, h1, h2, h3]) h4; rw [hR]; clear hR; have hlen : qBu (qAK n ys.length ys xs) ≤ 1048576 := qO5 Oo
     go_enter Tryz.func28, Tryz.ntmps28
     go_wp2_with fail
     (obtain ⟨w0, hw0⟩ : ∃ W : World, W = (((w.alloc (.cells #[.int .i64 n, .slice o xs.length c] 34)).alloc (.cells #[.int .i64 n, .slice o' ys.length c'] 26)).alloc (.cells #[.int .i64 0, .slice none 0 0] 26)) := ⟨_, rfl⟩; have X0 := (RB2.mk1 w  (.int .i64 n) (.slice o xs.length c) 34).1.below (w' := w0) (bV hw0) (nl _); have Y0 := (RB2.mk2 w (.cells #[.int .i64 n, .slice o xs.length c] 34) (.int .i64 n) (.slice o' ys.length c') 26).1.below (w' := w0) (bV hw0) (nl _); have R0 := (RB2.mk3 w (.cells #[.int .i64 n, .slice o xs.length c] 34) (.cells #[.int .i64 n, .slice o' ys.length c'] 26) (.int .i64 0) (.slice none 0 0) 26).below (w' := w0) (bV hw0) (nl _); have B0 : Below w.heap.size w w0 := (bV hw0); have hv0 := hv.below (w' := w0) (bV hw0) (nl _); have hu0 := hu.below (w' := w0) (bV hw0) (nl _); rw [← hw0]; clear hw0)
     (obtain ⟨gqX0, gqX1⟩ := id X0; go_wp2_with fail; refine (qBY n _ xs _ hv0).mono ?_; rw [h1]; rintro e w1 ⟨rfl, hb⟩; (have X1 := X0.below hb; have Y1 := Y0.below hb; have R1 := R0.below hb; have hv1 := hv0.below hb; have hu1 := hu0.below hb; have B1 := B0.trans (hb.mono B0.size)); clear gqX0 gqX1; clear hb)
     (obtain ⟨gqY0, gqY1⟩ := id Y1; go_wp2_with fail; refine (qCK n _ ys _ hu1).mono ?_; rw [h2]; rintro e w2 ⟨rfl, hb⟩; (have X2 := X1.below hb; have Y2 := Y1.below hb; have R2 := R1.below hb; have hv2 := hv1.below hb; have hu2 := hu1.below hb; have B2 := B1.trans (hb.mono B1.size)); clear gqY0 gqY1; clear hb)
     (obtain ⟨gqX0, gqX1⟩ := id X2; obtain ⟨gqY0, gqY1⟩ := id Y2; go_wp2_with fail; refine (qCt n n _ _ ys xs _ hu2 hv2).mono ?_; rw [h3]; rintro e w3 ⟨rfl, hb⟩; (have X3 := X2.below hb; have Y3 := Y2.below hb; have R3 := R2.below hb; have hv3 := hv2.below hb; have hu3 := hu2.below hb; have B3 := B2.trans (hb.mono B2.size)); clear gqX0 gqX1 gqY0 gqY1; clear hb)
     obtain ⟨bt, ft, rfl, -⟩ := hu3.rows Oo; obtain ⟨o2, c2, cr, rr⟩ := hu3.row HR0.out; rw [HRL.out] at cr rr; obtain ⟨br, fr, rfl, -⟩ := rr.cells (by have := HRL.out; omega); have cc := rr.cell0 HR00.out; rw [Nat.add_zero] at cr cc; have i0 : (0 : Int) < (ys.length : Int) := Oo; have i1 : 0 < ys.length := Oo; have i2 : (0 : Int) < ((ys.length - 0 : Nat) : Int) := Oo; have i3 : 0 < ys.length - 0 := Oo
     (obtain ⟨gqX0, gqX1⟩ := id X3; obtain ⟨gqY0, gqY1⟩ := id Y3; go_wp2_with fail; refine (qHp n n ys.length _ _ xs ys _ hv3 hu3 Oo Oo Oo Oo Oo Oo hx HP.out).mono ?_; rintro e w4 ⟨vR, rfl, how, hb⟩; obtain ⟨oV, cV, rfl⟩ := how.shapeN (n := ys.length) (qE6 _ _ _ _); have hz := R3.1.lt; have hB := B3.size; (have R4 := R3.below hb; have B4 := B3.trans (hb.mono B3.size)); obtain ⟨⟨r0, r1⟩, rf⟩ := id R4; go_wp2; exact bodyPost_ret (v := .tuple #[.agg #[.int .i64 n, .slice oV ys.length cV], .int .i64 0]) (by simp [results, Tryz.results28, go_sem, r0, r1]) rfl ⟨_, rfl, ((how.low hz _).low hz _).mono hB, (bY1 B4), hlen⟩)
    ·have hR : qCM n xs n ys = PR.bad 5 := qOC (by simp [fit1, h1, h2, h3]) h4; rw [hR]; clear hR
     go_enter Tryz.func28, Tryz.ntmps28
     go_wp2_with fail
     (obtain ⟨w0, hw0⟩ : ∃ W : World, W = (((w.alloc (.cells #[.int .i64 n, .slice o xs.length c] 34)).alloc (.cells #[.int .i64 n, .slice o' ys.length c'] 26)).alloc (.cells #[.int .i64 0, .slice none 0 0] 26)) := ⟨_, rfl⟩; have X0 := (RB2.mk1 w  (.int .i64 n) (.slice o xs.length c) 34).1.below (w' := w0) (bV hw0) (nl _); have Y0 := (RB2.mk2 w (.cells #[.int .i64 n, .slice o xs.length c] 34) (.int .i64 n) (.slice o' ys.length c') 26).1.below (w' := w0) (bV hw0) (nl _); have R0 := (RB2.mk3 w (.cells #[.int .i64 n, .slice o xs.length c] 34) (.cells #[.int .i64 n, .slice o' ys.length c'] 26) (.int .i64 0) (.slice none 0 0) 26).below (w' := w0) (bV hw0) (nl _); have B0 : Below w.heap.size w w0 := (bV hw0); have hv0 := hv.below (w' := w0) (bV hw0) (nl _); have hu0 := hu.below (w' := w0) (bV hw0) (nl _); rw [← hw0]; clear hw0)
     (obtain ⟨gqX0, gqX1⟩ := id X0; go_wp2_with fail; refine (qBY n _ xs _ hv0).mono ?_; rw [h1]; rintro e w1 ⟨rfl, hb⟩; (have X1 := X0.below hb; have Y1 := Y0.below hb; have R1 := R0.below hb; have hv1 := hv0.below hb; have hu1 := hu0.below hb; have B1 := B0.trans (hb.mono B0.size)); clear gqX0 gqX1; clear hb)
     (obtain ⟨gqY0, gqY1⟩ := id Y1; go_wp2_with fail; refine (qCK n _ ys _ hu1).mono ?_; rw [h2]; rintro e w2 ⟨rfl, hb⟩; (have X2 := X1.below hb; have Y2 := Y1.below hb; have R2 := R1.below hb; have hv2 := hv1.below hb; have hu2 := hu1.below hb; have B2 := B1.trans (hb.mono B1.size)); clear gqY0 gqY1; clear hb)
     (obtain ⟨gqX0, gqX1⟩ := id X2; obtain ⟨gqY0, gqY1⟩ := id Y2; go_wp2_with fail; refine (qCt n n _ _ ys xs _ hu2 hv2).mono ?_; rw [h3]; rintro e w3 ⟨rfl, hb⟩; (have X3 := X2.below hb; have Y3 := Y2.below hb; have R3 := R2.below hb; have hv3 := hv2.below hb; have hu3 := hu2.below hb; have B3 := B2.trans (hb.mono B2.size)); clear gqX0 gqX1 gqY0 gqY1; clear hb)
     obtain ⟨bt, ft, rfl, -⟩ := hu3.rows Oo; obtain ⟨o2, c2, cr, rr⟩ := hu3.row HR0.out; rw [HRL.out] at cr rr; obtain ⟨br, fr, rfl, -⟩ := rr.cells (by have := HRL.out; omega); have cc := rr.cell0 HR00.out; rw [Nat.add_zero] at cr cc; have i0 : (0 : Int) < (ys.length : Int) := Oo; have i1 : 0 < ys.length := Oo; have i2 : (0 : Int) < ((ys.length - 0 : Nat) : Int) := Oo; have i3 : 0 < ys.length - 0 := Oo; obtain ⟨y0, y1⟩ := id Y3
     (obtain ⟨⟨r0, r1⟩, rf⟩ := id R3; go_wp2; exact bodyPost_ret (v := .tuple #[.agg #[.int .i64 0, .slice none 0 0], .int .i64 5]) (by simp [results, Tryz.results28, go_sem, r0, r1]) rfl ⟨_, rfl, OwS.nil _ _, (bY1 B3), by simp [PR.bad, qBu, qBW]⟩)

end Go.Proofs.YtfpphfjlpgefaaaGreat
