/- Where two laws agree, and their first difference: the functions that are called. -/
import Derived.Test.YtflebfmkgmhccaaG5
set_option linter.unusedSimpArgs false
set_option linter.unusedVariables false
namespace Go.Proofs.Ytflebfmkgmhccaa
open Go.RowKit

def agreeR (m : Int) (t : List (List Int)) (n : Int) (s : List (List Int)) : IR := if twoL m t n s = 0 then ⟨(agrK t s t.length : Int) - 1, 0⟩ else ⟨0, twoL m t n s⟩
def firstR (m : Int) (t : List (List Int)) (n : Int) (s : List (List Int)) : LR := if twoL m t n s = 0 then (if agrK t s t.length = t.length then ⟨[], 4⟩ else ⟨diffL m t s (agrK t s t.length), 0⟩) else ⟨[], twoL m t n s⟩
theorem law_0 {m : Int} {t : List (List Int)} (h : lawB m t = true) : atT t 0 0 = 0 := by
  obtain ⟨h1, h2⟩ := lawB_t h
  have := (fauL_nil h2).1 0 (by have := pla_n h1; omega)
  simpa [dueI] using this
theorem law_P {m : Int} {t : List (List Int)} (h : lawB m t = true) : PlaT m t.length t := ⟨rfl, pla_row (lawB_t h).1⟩
theorem agr_0 {m n : Int} {t s : List (List Int)} (h : lawB m t = true) (h' : lawB n s = true) : agrA t s 0 = true := agrA_t fun i hi => by
  obtain rfl : i = 0 := by omega
  rw [Nat.sub_zero, law_0 h, law_0 h']

set_option maxHeartbeats 1000000 in
set_option maxRecDepth 100000 in
theorem AgreementOf_c (m : Int) (v : Value) (t : List (List Int)) (n : Int) (u : Value) (s : List (List Int)) (w : World) (hv : RdT w v t) (hu : RdT w u s) :
    Calls Try.prog 25 #[.agg #[.int .i64 m, v], .agg #[.int .i64 n, u]] w fun e w' => IEnd w w' (agreeR m t n s) e := by
  obtain ⟨o, c, rfl, -, -⟩ := id hv
  obtain ⟨o', c', rfl, -, -⟩ := id hu
  by_cases hc : twoL m t n s = 0
  · obtain ⟨h1, h2, rfl, hl⟩ := twoL_0 hc
    have hn := pla_n (lawB_t h1).1
    have HR := Lib.hid (show agreeR n t n s = ⟨(agrK t s t.length : Int) - 1, 0⟩ by simp [agreeR, hc])
    have HC := Lib.hid hc
    have HT := Lib.hid (law_P h1)
    have HS := Lib.hid (show PlaT n t.length s by have := law_P h2; rw [hl] at this; exact this)
    have HZ := Lib.hid (agr_0 h1 h2)
    clear hc h1 h2 hl
    have hcc : ((0 : Int) != 0) = false := by simp
    go_enter Try.func25, Try.ntmps25
    go_wp2_with fail
    (have X0 := ((RB2.mk1 w  (.int .i64 n) (.slice o t.length c) 29).1).below (w' := ((w.alloc (.cells #[.int .i64 n, .slice o t.length c] 29)).alloc (.cells #[.int .i64 n, .slice o' s.length c'] 29))) (by (repeat (first | exact Below.refl _ _ | (refine Below.setCell ?_ (by first | (simp; done) | (simp; omega) | omega) _) | (refine Below.alloc ?_ (by first | (simp; done) | (simp; omega) | omega) _) | (refine below_drewN ?_ _) | (refine Below.drew ?_)))) (Nat.le_refl _); have Y0 := ((RB2.mk2 w (.cells #[.int .i64 n, .slice o t.length c] 29) (.int .i64 n) (.slice o' s.length c') 29).1).below (w' := ((w.alloc (.cells #[.int .i64 n, .slice o t.length c] 29)).alloc (.cells #[.int .i64 n, .slice o' s.length c'] 29))) (by (repeat (first | exact Below.refl _ _ | (refine Below.setCell ?_ (by first | (simp; done) | (simp; omega) | omega) _) | (refine Below.alloc ?_ (by first | (simp; done) | (simp; omega) | omega) _) | (refine below_drewN ?_ _) | (refine Below.drew ?_)))) (Nat.le_refl _); have B0 : Below w.heap.size w ((w.alloc (.cells #[.int .i64 n, .slice o t.length c] 29)).alloc (.cells #[.int .i64 n, .slice o' s.length c'] 29)) := (by (repeat (first | exact Below.refl _ _ | (refine Below.setCell ?_ (by first | (simp; done) | (simp; omega) | omega) _) | (refine Below.alloc ?_ (by first | (simp; done) | (simp; omega) | omega) _) | (refine below_drewN ?_ _) | (refine Below.drew ?_)))); have hv0 := hv.below (w' := ((w.alloc (.cells #[.int .i64 n, .slice o t.length c] 29)).alloc (.cells #[.int .i64 n, .slice o' s.length c'] 29))) (by (repeat (first | exact Below.refl _ _ | (refine Below.setCell ?_ (by first | (simp; done) | (simp; omega) | omega) _) | (refine Below.alloc ?_ (by first | (simp; done) | (simp; omega) | omega) _) | (refine below_drewN ?_ _) | (refine Below.drew ?_)))) (Nat.le_refl _); have hu0 := hu.below (w' := ((w.alloc (.cells #[.int .i64 n, .slice o t.length c] 29)).alloc (.cells #[.int .i64 n, .slice o' s.length c'] 29))) (by (repeat (first | exact Below.refl _ _ | (refine Below.setCell ?_ (by first | (simp; done) | (simp; omega) | omega) _) | (refine Below.alloc ?_ (by first | (simp; done) | (simp; omega) | omega) _) | (refine below_drewN ?_ _) | (refine Below.drew ?_)))) (Nat.le_refl _); generalize (w.alloc (.cells #[.int .i64 n, .slice o t.length c] 29)).alloc (.cells #[.int .i64 n, .slice o' s.length c'] 29) = w0 at X0 Y0 B0 hv0 hu0 ⊢)
    (obtain ⟨gqX0, gqX1⟩ := id X0; obtain ⟨gqY0, gqY1⟩ := id Y0; go_wp2_with fail; refine (bothLaws_c n n _ _ t s _ hv0 hu0).mono ?_; rw [HC.out]; rintro e w1 ⟨rfl, hb⟩; (have X1 := X0.below hb (Nat.le_refl _); have Y1 := Y0.below hb (Nat.le_refl _); have hv1 := hv0.below hb (Nat.le_refl _); have hu1 := hu0.below hb (Nat.le_refl _); have B1 := B0.trans (hb.mono B0.size)); clear gqX0 gqX1 gqY0 gqY1; clear hb)
    obtain ⟨x0, x1⟩ := id X1
    obtain ⟨y0, y1⟩ := id Y1
    go_wp2_with fail
    refine (agreement_c n n n t.length _ _ t s _ hv1 hu1 (by omega) (by omega) HT.out HS.out HZ.out).mono ?_
    rintro e w2 ⟨rfl, hb⟩
    (have X2 := X1.below hb (Nat.le_refl _); have B2 := B1.trans (hb.mono B1.size))
    go_wp2
    go_ret2
    rw [HR.out]
    exact ⟨rfl, B2⟩
  · have HR := Lib.hid (show agreeR m t n s = ⟨0, twoL m t n s⟩ by simp [agreeR, hc])
    obtain ⟨cc, hcc0⟩ : ∃ cc, twoL m t n s = cc := ⟨_, rfl⟩
    rw [hcc0] at hc HR
    have HC := Lib.hid hcc0
    clear hcc0
    have hcc : (cc != 0) = true := by simpa using hc
    clear hc
    go_enter Try.func25, Try.ntmps25
    go_wp2_with fail
    (have X0 := ((RB2.mk1 w  (.int .i64 m) (.slice o t.length c) 29).1).below (w' := ((w.alloc (.cells #[.int .i64 m, .slice o t.length c] 29)).alloc (.cells #[.int .i64 n, .slice o' s.length c'] 29))) (by (repeat (first | exact Below.refl _ _ | (refine Below.setCell ?_ (by first | (simp; done) | (simp; omega) | omega) _) | (refine Below.alloc ?_ (by first | (simp; done) | (simp; omega) | omega) _) | (refine below_drewN ?_ _) | (refine Below.drew ?_)))) (Nat.le_refl _); have Y0 := ((RB2.mk2 w (.cells #[.int .i64 m, .slice o t.length c] 29) (.int .i64 n) (.slice o' s.length c') 29).1).below (w' := ((w.alloc (.cells #[.int .i64 m, .slice o t.length c] 29)).alloc (.cells #[.int .i64 n, .slice o' s.length c'] 29))) (by (repeat (first | exact Below.refl _ _ | (refine Below.setCell ?_ (by first | (simp; done) | (simp; omega) | omega) _) | (refine Below.alloc ?_ (by first | (simp; done) | (simp; omega) | omega) _) | (refine below_drewN ?_ _) | (refine Below.drew ?_)))) (Nat.le_refl _); have B0 : Below w.heap.size w ((w.alloc (.cells #[.int .i64 m, .slice o t.length c] 29)).alloc (.cells #[.int .i64 n, .slice o' s.length c'] 29)) := (by (repeat (first | exact Below.refl _ _ | (refine Below.setCell ?_ (by first | (simp; done) | (simp; omega) | omega) _) | (refine Below.alloc ?_ (by first | (simp; done) | (simp; omega) | omega) _) | (refine below_drewN ?_ _) | (refine Below.drew ?_)))); have hv0 := hv.below (w' := ((w.alloc (.cells #[.int .i64 m, .slice o t.length c] 29)).alloc (.cells #[.int .i64 n, .slice o' s.length c'] 29))) (by (repeat (first | exact Below.refl _ _ | (refine Below.setCell ?_ (by first | (simp; done) | (simp; omega) | omega) _) | (refine Below.alloc ?_ (by first | (simp; done) | (simp; omega) | omega) _) | (refine below_drewN ?_ _) | (refine Below.drew ?_)))) (Nat.le_refl _); have hu0 := hu.below (w' := ((w.alloc (.cells #[.int .i64 m, .slice o t.length c] 29)).alloc (.cells #[.int .i64 n, .slice o' s.length c'] 29))) (by (repeat (first | exact Below.refl _ _ | (refine Below.setCell ?_ (by first | (simp; done) | (simp; omega) | omega) _) | (refine Below.alloc ?_ (by first | (simp; done) | (simp; omega) | omega) _) | (refine below_drewN ?_ _) | (refine Below.drew ?_)))) (Nat.le_refl _); generalize (w.alloc (.cells #[.int .i64 m, .slice o t.length c] 29)).alloc (.cells #[.int .i64 n, .slice o' s.length c'] 29) = w0 at X0 Y0 B0 hv0 hu0 ⊢)
    (obtain ⟨gqX0, gqX1⟩ := id X0; obtain ⟨gqY0, gqY1⟩ := id Y0; go_wp2_with fail; refine (bothLaws_c m n _ _ t s _ hv0 hu0).mono ?_; rw [HC.out]; rintro e w1 ⟨rfl, hb⟩; (have X1 := X0.below hb (Nat.le_refl _); have Y1 := Y0.below hb (Nat.le_refl _); have hv1 := hv0.below hb (Nat.le_refl _); have hu1 := hu0.below hb (Nat.le_refl _); have B1 := B0.trans (hb.mono B0.size)); clear gqX0 gqX1 gqY0 gqY1; clear hb)
    go_wp2
    go_ret2
    rw [HR.out]
    exact ⟨rfl, B1⟩
set_option maxHeartbeats 1000000 in
set_option maxRecDepth 100000 in
theorem sAgreementOf_c (m : Int) (v : Value) (t : List (List Int)) (n : Int) (u : Value) (s : List (List Int)) (w : World) (hv : RdT w v t) (hu : RdT w u s) :
    Calls Try.prog 24 #[.agg #[.int .i64 m, v], .agg #[.int .i64 n, u]] w fun e w' => IEnd w w' (agreeR m t n s) e := by
  obtain ⟨o, c, rfl, -, -⟩ := id hv
  obtain ⟨o', c', rfl, -, -⟩ := id hu
  by_cases hc : twoL m t n s = 0
  · obtain ⟨h1, h2, rfl, hl⟩ := twoL_0 hc
    have hn := pla_n (lawB_t h1).1
    have HR := Lib.hid (show agreeR n t n s = ⟨(agrK t s t.length : Int) - 1, 0⟩ by simp [agreeR, hc])
    have HC := Lib.hid hc
    have HT := Lib.hid (law_P h1)
    have HS := Lib.hid (show PlaT n t.length s by have := law_P h2; rw [hl] at this; exact this)
    have HZ := Lib.hid (agr_0 h1 h2)
    clear hc h1 h2 hl
    have hcc : ((0 : Int) != 0) = false := by simp
    go_enter Try.func24, Try.ntmps24
    go_wp2_with fail
    (have X0 := ((RB2.mk1 w  (.int .i64 n) (.slice o t.length c) 29).1).below (w' := ((w.alloc (.cells #[.int .i64 n, .slice o t.length c] 29)).alloc (.cells #[.int .i64 n, .slice o' s.length c'] 29))) (by (repeat (first | exact Below.refl _ _ | (refine Below.setCell ?_ (by first | (simp; done) | (simp; omega) | omega) _) | (refine Below.alloc ?_ (by first | (simp; done) | (simp; omega) | omega) _) | (refine below_drewN ?_ _) | (refine Below.drew ?_)))) (Nat.le_refl _); have Y0 := ((RB2.mk2 w (.cells #[.int .i64 n, .slice o t.length c] 29) (.int .i64 n) (.slice o' s.length c') 29).1).below (w' := ((w.alloc (.cells #[.int .i64 n, .slice o t.length c] 29)).alloc (.cells #[.int .i64 n, .slice o' s.length c'] 29))) (by (repeat (first | exact Below.refl _ _ | (refine Below.setCell ?_ (by first | (simp; done) | (simp; omega) | omega) _) | (refine Below.alloc ?_ (by first | (simp; done) | (simp; omega) | omega) _) | (refine below_drewN ?_ _) | (refine Below.drew ?_)))) (Nat.le_refl _); have B0 : Below w.heap.size w ((w.alloc (.cells #[.int .i64 n, .slice o t.length c] 29)).alloc (.cells #[.int .i64 n, .slice o' s.length c'] 29)) := (by (repeat (first | exact Below.refl _ _ | (refine Below.setCell ?_ (by first | (simp; done) | (simp; omega) | omega) _) | (refine Below.alloc ?_ (by first | (simp; done) | (simp; omega) | omega) _) | (refine below_drewN ?_ _) | (refine Below.drew ?_)))); have hv0 := hv.below (w' := ((w.alloc (.cells #[.int .i64 n, .slice o t.length c] 29)).alloc (.cells #[.int .i64 n, .slice o' s.length c'] 29))) (by (repeat (first | exact Below.refl _ _ | (refine Below.setCell ?_ (by first | (simp; done) | (simp; omega) | omega) _) | (refine Below.alloc ?_ (by first | (simp; done) | (simp; omega) | omega) _) | (refine below_drewN ?_ _) | (refine Below.drew ?_)))) (Nat.le_refl _); have hu0 := hu.below (w' := ((w.alloc (.cells #[.int .i64 n, .slice o t.length c] 29)).alloc (.cells #[.int .i64 n, .slice o' s.length c'] 29))) (by (repeat (first | exact Below.refl _ _ | (refine Below.setCell ?_ (by first | (simp; done) | (simp; omega) | omega) _) | (refine Below.alloc ?_ (by first | (simp; done) | (simp; omega) | omega) _) | (refine below_drewN ?_ _) | (refine Below.drew ?_)))) (Nat.le_refl _); generalize (w.alloc (.cells #[.int .i64 n, .slice o t.length c] 29)).alloc (.cells #[.int .i64 n, .slice o' s.length c'] 29) = w0 at X0 Y0 B0 hv0 hu0 ⊢)
    (obtain ⟨gqX0, gqX1⟩ := id X0; obtain ⟨gqY0, gqY1⟩ := id Y0; go_wp2_with fail; refine (l04Two_c n n _ _ t s _ hv0 hu0).mono ?_; rw [HC.out]; rintro e w1 ⟨rfl, hb⟩; (have X1 := X0.below hb (Nat.le_refl _); have Y1 := Y0.below hb (Nat.le_refl _); have hv1 := hv0.below hb (Nat.le_refl _); have hu1 := hu0.below hb (Nat.le_refl _); have B1 := B0.trans (hb.mono B0.size)); clear gqX0 gqX1 gqY0 gqY1; clear hb)
    obtain ⟨x0, x1⟩ := id X1
    obtain ⟨y0, y1⟩ := id Y1
    go_wp2_with fail
    refine (l04Agreement_c n n n t.length _ _ t s _ hv1 hu1 (by omega) (by omega) HT.out HS.out HZ.out).mono ?_
    rintro e w2 ⟨rfl, hb⟩
    (have X2 := X1.below hb (Nat.le_refl _); have B2 := B1.trans (hb.mono B1.size))
    go_wp2
    go_ret2
    rw [HR.out]
    exact ⟨rfl, B2⟩
  · have HR := Lib.hid (show agreeR m t n s = ⟨0, twoL m t n s⟩ by simp [agreeR, hc])
    obtain ⟨cc, hcc0⟩ : ∃ cc, twoL m t n s = cc := ⟨_, rfl⟩
    rw [hcc0] at hc HR
    have HC := Lib.hid hcc0
    clear hcc0
    have hcc : (cc != 0) = true := by simpa using hc
    clear hc
    go_enter Try.func24, Try.ntmps24
    go_wp2_with fail
    (have X0 := ((RB2.mk1 w  (.int .i64 m) (.slice o t.length c) 29).1).below (w' := ((w.alloc (.cells #[.int .i64 m, .slice o t.length c] 29)).alloc (.cells #[.int .i64 n, .slice o' s.length c'] 29))) (by (repeat (first | exact Below.refl _ _ | (refine Below.setCell ?_ (by first | (simp; done) | (simp; omega) | omega) _) | (refine Below.alloc ?_ (by first | (simp; done) | (simp; omega) | omega) _) | (refine below_drewN ?_ _) | (refine Below.drew ?_)))) (Nat.le_refl _); have Y0 := ((RB2.mk2 w (.cells #[.int .i64 m, .slice o t.length c] 29) (.int .i64 n) (.slice o' s.length c') 29).1).below (w' := ((w.alloc (.cells #[.int .i64 m, .slice o t.length c] 29)).alloc (.cells #[.int .i64 n, .slice o' s.length c'] 29))) (by (repeat (first | exact Below.refl _ _ | (refine Below.setCell ?_ (by first | (simp; done) | (simp; omega) | omega) _) | (refine Below.alloc ?_ (by first | (simp; done) | (simp; omega) | omega) _) | (refine below_drewN ?_ _) | (refine Below.drew ?_)))) (Nat.le_refl _); have B0 : Below w.heap.size w ((w.alloc (.cells #[.int .i64 m, .slice o t.length c] 29)).alloc (.cells #[.int .i64 n, .slice o' s.length c'] 29)) := (by (repeat (first | exact Below.refl _ _ | (refine Below.setCell ?_ (by first | (simp; done) | (simp; omega) | omega) _) | (refine Below.alloc ?_ (by first | (simp; done) | (simp; omega) | omega) _) | (refine below_drewN ?_ _) | (refine Below.drew ?_)))); have hv0 := hv.below (w' := ((w.alloc (.cells #[.int .i64 m, .slice o t.length c] 29)).alloc (.cells #[.int .i64 n, .slice o' s.length c'] 29))) (by (repeat (first | exact Below.refl _ _ | (refine Below.setCell ?_ (by first | (simp; done) | (simp; omega) | omega) _) | (refine Below.alloc ?_ (by first | (simp; done) | (simp; omega) | omega) _) | (refine below_drewN ?_ _) | (refine Below.drew ?_)))) (Nat.le_refl _); have hu0 := hu.below (w' := ((w.alloc (.cells #[.int .i64 m, .slice o t.length c] 29)).alloc (.cells #[.int .i64 n, .slice o' s.length c'] 29))) (by (repeat (first | exact Below.refl _ _ | (refine Below.setCell ?_ (by first | (simp; done) | (simp; omega) | omega) _) | (refine Below.alloc ?_ (by first | (simp; done) | (simp; omega) | omega) _) | (refine below_drewN ?_ _) | (refine Below.drew ?_)))) (Nat.le_refl _); generalize (w.alloc (.cells #[.int .i64 m, .slice o t.length c] 29)).alloc (.cells #[.int .i64 n, .slice o' s.length c'] 29) = w0 at X0 Y0 B0 hv0 hu0 ⊢)
    (obtain ⟨gqX0, gqX1⟩ := id X0; obtain ⟨gqY0, gqY1⟩ := id Y0; go_wp2_with fail; refine (l04Two_c m n _ _ t s _ hv0 hu0).mono ?_; rw [HC.out]; rintro e w1 ⟨rfl, hb⟩; (have X1 := X0.below hb (Nat.le_refl _); have Y1 := Y0.below hb (Nat.le_refl _); have hv1 := hv0.below hb (Nat.le_refl _); have hu1 := hu0.below hb (Nat.le_refl _); have B1 := B0.trans (hb.mono B0.size)); clear gqX0 gqX1 gqY0 gqY1; clear hb)
    go_wp2
    go_ret2
    rw [HR.out]
    exact ⟨rfl, B1⟩

set_option maxHeartbeats 2000000 in
set_option maxRecDepth 100000 in
theorem FirstDifference_c (m : Int) (v : Value) (t : List (List Int)) (n : Int) (u : Value) (s : List (List Int)) (w : World) (hv : RdT w v t) (hu : RdT w u s) :
    Calls Try.prog 27 #[.agg #[.int .i64 m, v], .agg #[.int .i64 n, u]] w fun e w' => LEnd w w' (firstR m t n s) e := by
  obtain ⟨o, c, rfl, hmx, -⟩ := id hv
  obtain ⟨o', c', rfl, -, -⟩ := id hu
  have hml := hmx.1
  clear hmx
  by_cases hc : twoL m t n s = 0
  · obtain ⟨h1, h2, rfl, hl⟩ := twoL_0 hc
    have hn := pla_n (lawB_t h1).1
    have hm := pla_m (lawB_t h1).1
    have HR := Lib.hid (show firstR n t n s = if agrK t s t.length = t.length then ⟨[], 4⟩ else ⟨diffL n t s (agrK t s t.length), 0⟩ by simp [firstR, hc])
    have HC := Lib.hid hc
    have HT := Lib.hid (law_P h1)
    have HS := Lib.hid (show PlaT n t.length s by have := law_P h2; rw [hl] at this; exact this)
    have HZ := Lib.hid (agr_0 h1 h2)
    have hu' : RdT w (.slice o' t.length c') s := by rw [hl] at hu; exact hu
    rw [hl]
    clear hc h1 h2 hl hu
    have hcc : ((0 : Int) != 0) = false := by simp
    have hKle := agrK_le t s t.length
    obtain ⟨bt, ft, rfl, -⟩ := hv.rows (by omega)
    obtain ⟨bs, fs, rfl, -⟩ := hu'.rows (by have := HS.out.1; omega)
    go_enter Try.func27, Try.ntmps27
    go_wp2_with fail
    (have X0 := ((RB2.mk1 w  (.int .i64 n) (.slice (some ⟨bt, ft, none⟩) t.length c) 29).1).below (w' := ((w.alloc (.cells #[.int .i64 n, .slice (some ⟨bt, ft, none⟩) t.length c] 29)).alloc (.cells #[.int .i64 n, .slice (some ⟨bs, fs, none⟩) t.length c'] 29))) (by (repeat (first | exact Below.refl _ _ | (refine Below.setCell ?_ (by first | (simp; done) | (simp; omega) | omega) _) | (refine Below.alloc ?_ (by first | (simp; done) | (simp; omega) | omega) _) | (refine below_drewN ?_ _) | (refine Below.drew ?_)))) (Nat.le_refl _); have Y0 := ((RB2.mk2 w (.cells #[.int .i64 n, .slice (some ⟨bt, ft, none⟩) t.length c] 29) (.int .i64 n) (.slice (some ⟨bs, fs, none⟩) t.length c') 29).1).below (w' := ((w.alloc (.cells #[.int .i64 n, .slice (some ⟨bt, ft, none⟩) t.length c] 29)).alloc (.cells #[.int .i64 n, .slice (some ⟨bs, fs, none⟩) t.length c'] 29))) (by (repeat (first | exact Below.refl _ _ | (refine Below.setCell ?_ (by first | (simp; done) | (simp; omega) | omega) _) | (refine Below.alloc ?_ (by first | (simp; done) | (simp; omega) | omega) _) | (refine below_drewN ?_ _) | (refine Below.drew ?_)))) (Nat.le_refl _); have B0 : Below w.heap.size w ((w.alloc (.cells #[.int .i64 n, .slice (some ⟨bt, ft, none⟩) t.length c] 29)).alloc (.cells #[.int .i64 n, .slice (some ⟨bs, fs, none⟩) t.length c'] 29)) := (by (repeat (first | exact Below.refl _ _ | (refine Below.setCell ?_ (by first | (simp; done) | (simp; omega) | omega) _) | (refine Below.alloc ?_ (by first | (simp; done) | (simp; omega) | omega) _) | (refine below_drewN ?_ _) | (refine Below.drew ?_)))); have hv0 := hv.below (w' := ((w.alloc (.cells #[.int .i64 n, .slice (some ⟨bt, ft, none⟩) t.length c] 29)).alloc (.cells #[.int .i64 n, .slice (some ⟨bs, fs, none⟩) t.length c'] 29))) (by (repeat (first | exact Below.refl _ _ | (refine Below.setCell ?_ (by first | (simp; done) | (simp; omega) | omega) _) | (refine Below.alloc ?_ (by first | (simp; done) | (simp; omega) | omega) _) | (refine below_drewN ?_ _) | (refine Below.drew ?_)))) (Nat.le_refl _); have hu'0 := hu'.below (w' := ((w.alloc (.cells #[.int .i64 n, .slice (some ⟨bt, ft, none⟩) t.length c] 29)).alloc (.cells #[.int .i64 n, .slice (some ⟨bs, fs, none⟩) t.length c'] 29))) (by (repeat (first | exact Below.refl _ _ | (refine Below.setCell ?_ (by first | (simp; done) | (simp; omega) | omega) _) | (refine Below.alloc ?_ (by first | (simp; done) | (simp; omega) | omega) _) | (refine below_drewN ?_ _) | (refine Below.drew ?_)))) (Nat.le_refl _); generalize (w.alloc (.cells #[.int .i64 n, .slice (some ⟨bt, ft, none⟩) t.length c] 29)).alloc (.cells #[.int .i64 n, .slice (some ⟨bs, fs, none⟩) t.length c'] 29) = w0 at X0 Y0 B0 hv0 hu'0 ⊢)
    (obtain ⟨gqX0, gqX1⟩ := id X0; obtain ⟨gqY0, gqY1⟩ := id Y0; go_wp2_with fail; refine (bothLaws_c n n _ _ t s _ hv0 hu'0).mono ?_; rw [HC.out]; rintro e w1 ⟨rfl, hb⟩; (have X1 := X0.below hb (Nat.le_refl _); have Y1 := Y0.below hb (Nat.le_refl _); have hv1 := hv0.below hb (Nat.le_refl _); have hu'1 := hu'0.below hb (Nat.le_refl _); have B1 := B0.trans (hb.mono B0.size)); clear gqX0 gqX1 gqY0 gqY1; clear hb)
    obtain ⟨x0, x1⟩ := id X1
    obtain ⟨y0, y1⟩ := id Y1
    go_wp2_with fail
    refine (agreement_c n n n t.length _ _ t s _ hv1 hu'1 (by omega) (by omega) HT.out HS.out HZ.out).mono ?_
    rintro e w2 ⟨rfl, hb⟩
    (have X2 := X1.below hb (Nat.le_refl _); have Y2 := Y1.below hb (Nat.le_refl _); have hv2 := hv1.below hb (Nat.le_refl _); have hu'2 := hu'1.below hb (Nat.le_refl _); have B2 := B1.trans (hb.mono B1.size))
    clear x0 x1 y0 y1 hb
    obtain ⟨x0, x1⟩ := id X2
    have HK := Lib.hid (show ∃ K, agrK t s t.length = K from ⟨_, rfl⟩)
    generalize agrK t s t.length = K at hKle HR ⊢
    have e0 : IntKind.i64.wrap ((K : Int) - 1 + 1) = (K : Int) := by rw [show (K : Int) - 1 + 1 = (K : Int) by omega]; exact IntWalk.i64_in _ (by omega)
    have e0' : (K : Int) - 1 + 1 = (K : Int) := by omega
    go_wp2_with fail
    refine (degreeP_c n _ t.length c _ hml).mono ?_
    rintro e w3 ⟨rfl, hb⟩
    (have X3 := X2.below hb (Nat.le_refl _); have Y3 := Y2.below hb (Nat.le_refl _); have hv3 := hv2.below hb (Nat.le_refl _); have hu'3 := hu'2.below hb (Nat.le_refl _); have B3 := B2.trans (hb.mono B2.size))
    clear x0 x1 hb e0 e0'
    by_cases hK : K = t.length
    · have HR2 := Lib.hid (show firstR n t n s = ⟨[], 4⟩ by rw [HR.out, if_pos hK])
      have i0 : (t.length : Int) - 1 < (K : Int) := by omega
      go_wp2
      go_ret2
      rw [HR2.out]
      exact ⟨_, rfl, OwI.nil _ _, B3, by simp⟩
    · have HR2 := Lib.hid (show firstR n t n s = ⟨diffL n t s K, 0⟩ by rw [HR.out, if_neg hK])
      have i0 : ¬ (t.length : Int) - 1 < (K : Int) := by omega
      have B3s := B3.size
      go_wp2_with fail
      have O1 := OwI.lit w3 [] (by decide)
      have hb4 : Below w3.heap.size w3 (w3.alloc (.cells #[] 2)) := (by (repeat (first | exact Below.refl _ _ | (refine Below.setCell ?_ (by first | (simp; done) | (simp; omega) | omega) _) | (refine Below.alloc ?_ (by first | (simp; done) | (simp; omega) | omega) _) | (refine below_drewN ?_ _) | (refine Below.drew ?_))))
      simp at O1
      generalize w3.alloc (.cells #[] 2) = w4 at O1 hb4 ⊢
      go_loopw [8, 9] (fun l i wr => ∃ k : Nat, k ≤ K + 1 ∧ i = .int .i64 k ∧ OwI wr w3.heap.size l (diffTo n t s K k) ∧ Below w3.heap.size w3 wr) (fun _ i _ => K + 1 - (intOf i).toNat)
      case atStart => exact ⟨0, Nat.zero_le _, rfl, O1, hb4⟩
      case round =>
        obtain ⟨k, hk, rfl, hO, hbr⟩ := hrel
        obtain ⟨ov, cv, rfl⟩ := hO.shapeN (n := k) (mk_len _ _)
        have hbrs := hbr.size
        have Xr := X3.below hbr (Nat.le_refl _)
        have Yr := Y3.below hbr (Nat.le_refl _)
        have hvr := hv3.below hbr (Nat.le_refl _)
        have hur := hu'3.below hbr (Nat.le_refl _)
        by_cases hlt : k ≤ K
        · obtain ⟨r1, hr1, hl1, hj1⟩ := HT.out.row (show k < t.length by omega)
          obtain ⟨r2, hr2, hl2, hj2⟩ := HS.out.row (show k < t.length by omega)
          obtain ⟨p1, q1, cx, rx⟩ := hvr.row hr1
          obtain ⟨p2, q2, cy, ry⟩ := hur.row hr2
          rw [hl1] at cx rx
          rw [hl2] at cy ry
          obtain ⟨b1, f1, rfl, -⟩ := rx.cells (by omega)
          obtain ⟨b2, f2, rfl, -⟩ := ry.cells (by omega)
          have ex := rx.cell0 (hj1 (K - k) (by omega))
          have ey := ry.cell0 (hj2 (K - k) (by omega))
          obtain ⟨-, -, -, -, hxa, hxb⟩ := HT.out.at (i := k) (j := K - k) (by omega)
          obtain ⟨-, -, -, -, hya, hyb⟩ := HS.out.at (i := k) (j := K - k) (by omega)
          clear hr1 hl1 hj1 hr2 hl2 hj2
          obtain ⟨x0, x1⟩ := id Xr
          obtain ⟨y0, y1⟩ := id Yr
          have HSn := Lib.hid (diffTo_snoc n t s K k)
          have HLn := Lib.hid (show (diffTo n t s K k).length = k from mk_len _ _)
          generalize diffTo n t s K k = l at hO HSn HLn
          generalize atT t k (K - k) = T at ex hxa hxb HSn
          generalize atT s k (K - k) = S at ey hya hyb HSn
          have k0 : (0 : Int) ≤ (k : Int) := by omega
          have k1 : (k : Int) ≤ (K : Int) := by omega
          have k2 : (k : Int) < (t.length : Int) := by omega
          have k3 : (0 : Int) ≤ (K : Int) - (k : Int) := by omega
          have k4 : (K : Int) - (k : Int) < ((t.length - k : Nat) : Int) := by omega
          have k5 : ((K : Int) - (k : Int)).toNat = K - k := by omega
          have m0 : (n == 0) = false := by simp; omega
          have m1 : ¬ n = 0 := by omega
          go_wp2_with fail
          have e0 : IntKind.i64.wrap ((K : Int) - (k : Int)) = (K : Int) - (k : Int) := IntWalk.i64_in _ (by omega)
          have e1 : IntKind.i64.wrap (S - T) = S - T := IntWalk.i64_in _ (by omega)
          have hd0 : Below wr.heap.size wr wr.drew := (Below.refl _ _).drew
          have hsd0 := hd0.size
          refine wp_region_K (S := fun w' => w'.cell? ⟨w.heap.size, 0, none⟩ = some (.int .i64 n) ∧ w'.cell? ⟨w.heap.size, 1, none⟩ = some (.slice (some ⟨bt, ft, none⟩) t.length c) ∧ w'.cell? ⟨w.heap.size + 1, 1, none⟩ = some (.slice (some ⟨bs, fs, none⟩) t.length c') ∧ w'.cell? ⟨bt, ft + k, none⟩ = some (.slice (some ⟨b1, f1, none⟩) (t.length - k) q1) ∧ w'.cell? ⟨bs, fs + k, none⟩ = some (.slice (some ⟨b2, f2, none⟩) (t.length - k) q2) ∧ w'.cell? ⟨b1, f1 + (K - k), none⟩ = some (.int .i64 T) ∧ w'.cell? ⟨b2, f2 + (K - k), none⟩ = some (.int .i64 S)) [0, 25, 26, 27] (by kernel_rfl) ?_
          have hHeld : (fun w' : World => w'.cell? ⟨w.heap.size, 0, none⟩ = some (.int .i64 n) ∧ w'.cell? ⟨w.heap.size, 1, none⟩ = some (.slice (some ⟨bt, ft, none⟩) t.length c) ∧ w'.cell? ⟨w.heap.size + 1, 1, none⟩ = some (.slice (some ⟨bs, fs, none⟩) t.length c') ∧ w'.cell? ⟨bt, ft + k, none⟩ = some (.slice (some ⟨b1, f1, none⟩) (t.length - k) q1) ∧ w'.cell? ⟨bs, fs + k, none⟩ = some (.slice (some ⟨b2, f2, none⟩) (t.length - k) q2) ∧ w'.cell? ⟨b1, f1 + (K - k), none⟩ = some (.int .i64 T) ∧ w'.cell? ⟨b2, f2 + (K - k), none⟩ = some (.int .i64 S)) wr.drew := by go_keep
          refine' wpAnyK_pureL (i := 0) (v := _) rfl (by kernel_rfl) (by kernel_rfl) (by kernel_rfl) (by kernel_rfl) (fun _ _ _ h => h) (Or.inl ⟨by rfl, ?yT1⟩) ?rT1
          case yT1 => (intro w' _; go_simp; try with_reducible rfl)
          try simp only [List.getElem_toArray, List.getElem_cons_zero, List.getElem_cons_succ, Act.put, List.setIfInBounds_toArray, List.set_cons_zero, List.set_cons_succ]
          refine' wpAnyK_takeL (i := 1) (v := _) rfl (by kernel_rfl) (by kernel_rfl) (by kernel_rfl) (by kernel_rfl) (fun _ _ _ h => h) (Or.inl ⟨by rfl, ?yT2⟩) hHeld ?rT2
          case yT2 => (intro w' hSw; (try dsimp only at hSw); go_simp; try with_reducible rfl)
          try simp only [List.getElem_toArray, List.getElem_cons_zero, List.getElem_cons_succ, Act.put, List.setIfInBounds_toArray, List.set_cons_zero, List.set_cons_succ]
          refine' wpAnyK_takeL (i := 2) (v := _) rfl (by kernel_rfl) (by kernel_rfl) (by kernel_rfl) (by kernel_rfl) (fun _ _ _ h => h) (Or.inl ⟨by rfl, ?yT3⟩) hHeld ?rT3
          case yT3 => (intro w' hSw; (try dsimp only at hSw); go_simp; try with_reducible rfl)
          try simp only [List.getElem_toArray, List.getElem_cons_zero, List.getElem_cons_succ, Act.put, List.setIfInBounds_toArray, List.set_cons_zero, List.set_cons_succ]
          refine' wpAnyK_takeL (i := 3) (v := _) rfl (by kernel_rfl) (by kernel_rfl) (by kernel_rfl) (by kernel_rfl) (fun _ _ _ h => h) (Or.inl ⟨by rfl, ?yT4⟩) hHeld ?rT4
          case yT4 => (intro w' hSw; (try dsimp only at hSw); go_simp; try with_reducible rfl)
          try simp only [List.getElem_toArray, List.getElem_cons_zero, List.getElem_cons_succ, Act.put, List.setIfInBounds_toArray, List.set_cons_zero, List.set_cons_succ]
          refine' wpAnyK_takeL (i := 4) (v := _) rfl (by kernel_rfl) (by kernel_rfl) (by kernel_rfl) (by kernel_rfl) (fun _ _ _ h => h) (Or.inl ⟨by rfl, ?yT5⟩) hHeld ?rT5
          case yT5 => (intro w' hSw; (try dsimp only at hSw); go_simp; try with_reducible rfl)
          try simp only [List.getElem_toArray, List.getElem_cons_zero, List.getElem_cons_succ, Act.put, List.setIfInBounds_toArray, List.set_cons_zero, List.set_cons_succ]
          refine' wpAnyK_takeL (i := 5) (v := _) rfl (by kernel_rfl) (by kernel_rfl) (by kernel_rfl) (by kernel_rfl) (fun _ _ _ h => h) (Or.inl ⟨by rfl, ?yT6⟩) hHeld ?rT6
          case yT6 => (intro w' hSw; (try dsimp only at hSw); go_simp; try with_reducible rfl)
          try simp only [List.getElem_toArray, List.getElem_cons_zero, List.getElem_cons_succ, Act.put, List.setIfInBounds_toArray, List.set_cons_zero, List.set_cons_succ]
          refine' wpAnyK_takeL (i := 6) (v := _) rfl (by kernel_rfl) (by kernel_rfl) (by kernel_rfl) (by kernel_rfl) (fun _ _ _ h => h) (Or.inl ⟨by rfl, ?yT7⟩) hHeld ?rT7
          case yT7 => (intro w' hSw; (try dsimp only at hSw); go_simp; try with_reducible rfl)
          try simp only [List.getElem_toArray, List.getElem_cons_zero, List.getElem_cons_succ, Act.put, List.setIfInBounds_toArray, List.set_cons_zero, List.set_cons_succ]
          refine' wpAnyK_takeL (i := 7) (v := _) rfl (by kernel_rfl) (by kernel_rfl) (by kernel_rfl) (by kernel_rfl) (fun _ _ _ h => h) (Or.inl ⟨by rfl, ?yT8⟩) hHeld ?rT8
          case yT8 => (intro w' hSw; (try dsimp only at hSw); go_simp; try with_reducible rfl)
          try simp only [List.getElem_toArray, List.getElem_cons_zero, List.getElem_cons_succ, Act.put, List.setIfInBounds_toArray, List.set_cons_zero, List.set_cons_succ]
          refine' wpAnyK_takeL (i := 8) (v := _) rfl (by kernel_rfl) (by kernel_rfl) (by kernel_rfl) (by kernel_rfl) (fun _ _ _ h => h) (Or.inl ⟨by rfl, ?yT9⟩) hHeld ?rT9
          case yT9 => (intro w' hSw; (try dsimp only at hSw); go_simp; try with_reducible rfl)
          try simp only [List.getElem_toArray, List.getElem_cons_zero, List.getElem_cons_succ, Act.put, List.setIfInBounds_toArray, List.set_cons_zero, List.set_cons_succ]
          refine' wpAnyK_takeL (i := 9) (v := _) rfl (by kernel_rfl) (by kernel_rfl) (by kernel_rfl) (by kernel_rfl) (fun _ _ _ h => h) (Or.inl ⟨by rfl, ?yT10⟩) hHeld ?rT10
          case yT10 => (intro w' hSw; (try dsimp only at hSw); go_simp; try with_reducible rfl)
          try simp only [List.getElem_toArray, List.getElem_cons_zero, List.getElem_cons_succ, Act.put, List.setIfInBounds_toArray, List.set_cons_zero, List.set_cons_succ]
          refine' wpAnyK_takeL (i := 10) (v := _) rfl (by kernel_rfl) (by kernel_rfl) (by kernel_rfl) (by kernel_rfl) (fun _ _ _ h => h) (Or.inl ⟨by rfl, ?yT11⟩) hHeld ?rT11
          case yT11 => (intro w' hSw; (try dsimp only at hSw); go_simp; try with_reducible rfl)
          try simp only [List.getElem_toArray, List.getElem_cons_zero, List.getElem_cons_succ, Act.put, List.setIfInBounds_toArray, List.set_cons_zero, List.set_cons_succ]
          refine' wpAnyK_takeL (i := 11) (v := _) rfl (by kernel_rfl) (by kernel_rfl) (by kernel_rfl) (by kernel_rfl) (fun _ _ _ h => h) (Or.inl ⟨by rfl, ?yT12⟩) hHeld ?rT12
          case yT12 => (intro w' hSw; (try dsimp only at hSw); go_simp; try with_reducible rfl)
          try simp only [List.getElem_toArray, List.getElem_cons_zero, List.getElem_cons_succ, Act.put, List.setIfInBounds_toArray, List.set_cons_zero, List.set_cons_succ]
          refine' wpAnyK_takeL (i := 12) (v := _) rfl (by kernel_rfl) (by kernel_rfl) (by kernel_rfl) (by kernel_rfl) (fun _ _ _ h => h) (Or.inl ⟨by rfl, ?yT13⟩) hHeld ?rT13
          case yT13 => (intro w' hSw; (try dsimp only at hSw); go_simp; try with_reducible rfl)
          try simp only [List.getElem_toArray, List.getElem_cons_zero, List.getElem_cons_succ, Act.put, List.setIfInBounds_toArray, List.set_cons_zero, List.set_cons_succ]
          refine' wpAnyK_takeL (i := 13) (v := _) rfl (by kernel_rfl) (by kernel_rfl) (by kernel_rfl) (by kernel_rfl) (fun _ _ _ h => h) (Or.inl ⟨by rfl, ?yT14⟩) hHeld ?rT14
          case yT14 => (intro w' hSw; (try dsimp only at hSw); go_simp; try with_reducible rfl)
          try simp only [List.getElem_toArray, List.getElem_cons_zero, List.getElem_cons_succ, Act.put, List.setIfInBounds_toArray, List.set_cons_zero, List.set_cons_succ]
          refine' wpAnyK_takeL (i := 14) (v := _) rfl (by kernel_rfl) (by kernel_rfl) (by kernel_rfl) (by kernel_rfl) (fun _ _ _ h => h) (Or.inl ⟨by rfl, ?yT15⟩) hHeld ?rT15
          case yT15 => (intro w' hSw; (try dsimp only at hSw); go_simp; try with_reducible rfl)
          try simp only [List.getElem_toArray, List.getElem_cons_zero, List.getElem_cons_succ, Act.put, List.setIfInBounds_toArray, List.set_cons_zero, List.set_cons_succ]
          refine' wpAnyK_takeL (i := 15) (v := _) rfl (by kernel_rfl) (by kernel_rfl) (by kernel_rfl) (by kernel_rfl) (fun _ _ _ h => h) (Or.inl ⟨by rfl, ?yT16⟩) hHeld ?rT16
          case yT16 => (intro w' hSw; (try dsimp only at hSw); go_simp; try with_reducible rfl)
          try simp only [List.getElem_toArray, List.getElem_cons_zero, List.getElem_cons_succ, Act.put, List.setIfInBounds_toArray, List.set_cons_zero, List.set_cons_succ]
          refine' wpAnyK_takeL (i := 16) (v := _) rfl (by kernel_rfl) (by kernel_rfl) (by kernel_rfl) (by kernel_rfl) (fun _ _ _ h => h) (Or.inl ⟨by rfl, ?yT17⟩) hHeld ?rT17
          case yT17 => (intro w' hSw; (try dsimp only at hSw); go_simp; try with_reducible rfl)
          try simp only [List.getElem_toArray, List.getElem_cons_zero, List.getElem_cons_succ, Act.put, List.setIfInBounds_toArray, List.set_cons_zero, List.set_cons_succ]
          refine' wpAnyK_takeL (i := 17) (v := _) rfl (by kernel_rfl) (by kernel_rfl) (by kernel_rfl) (by kernel_rfl) (fun _ _ _ h => h) (Or.inl ⟨by rfl, ?yT18⟩) hHeld ?rT18
          case yT18 => (intro w' hSw; (try dsimp only at hSw); go_simp; try with_reducible rfl)
          try simp only [List.getElem_toArray, List.getElem_cons_zero, List.getElem_cons_succ, Act.put, List.setIfInBounds_toArray, List.set_cons_zero, List.set_cons_succ]
          refine' wpAnyK_takeL (i := 18) (v := _) rfl (by kernel_rfl) (by kernel_rfl) (by kernel_rfl) (by kernel_rfl) (fun _ _ _ h => h) (Or.inl ⟨by rfl, ?yT19⟩) hHeld ?rT19
          case yT19 => (intro w' hSw; (try dsimp only at hSw); go_simp; try with_reducible rfl)
          try simp only [List.getElem_toArray, List.getElem_cons_zero, List.getElem_cons_succ, Act.put, List.setIfInBounds_toArray, List.set_cons_zero, List.set_cons_succ]
          refine' wpAnyK_takeL (i := 19) (v := _) rfl (by kernel_rfl) (by kernel_rfl) (by kernel_rfl) (by kernel_rfl) (fun _ _ _ h => h) (Or.inl ⟨by rfl, ?yT20⟩) hHeld ?rT20
          case yT20 => (intro w' hSw; (try dsimp only at hSw); go_simp; try with_reducible rfl)
          try simp only [List.getElem_toArray, List.getElem_cons_zero, List.getElem_cons_succ, Act.put, List.setIfInBounds_toArray, List.set_cons_zero, List.set_cons_succ]
          refine' wpAnyK_takeL (i := 20) (v := _) rfl (by kernel_rfl) (by kernel_rfl) (by kernel_rfl) (by kernel_rfl) (fun _ _ _ h => h) (Or.inl ⟨by rfl, ?yT21⟩) hHeld ?rT21
          case yT21 => (intro w' hSw; (try dsimp only at hSw); go_simp; try with_reducible rfl)
          try simp only [List.getElem_toArray, List.getElem_cons_zero, List.getElem_cons_succ, Act.put, List.setIfInBounds_toArray, List.set_cons_zero, List.set_cons_succ]
          refine' wpAnyK_takeL (i := 21) (v := _) rfl (by kernel_rfl) (by kernel_rfl) (by kernel_rfl) (by kernel_rfl) (fun _ _ _ h => h) (Or.inl ⟨by rfl, ?yT22⟩) hHeld ?rT22
          case yT22 => (intro w' hSw; (try dsimp only at hSw); go_simp; try with_reducible rfl)
          try simp only [List.getElem_toArray, List.getElem_cons_zero, List.getElem_cons_succ, Act.put, List.setIfInBounds_toArray, List.set_cons_zero, List.set_cons_succ]
          refine' wpAnyK_takeL (i := 22) (v := _) rfl (by kernel_rfl) (by kernel_rfl) (by kernel_rfl) (by kernel_rfl) (fun _ _ _ h => h) (Or.inl ⟨by rfl, ?yT23⟩) hHeld ?rT23
          case yT23 => (intro w' hSw; (try dsimp only at hSw); go_simp; try with_reducible rfl)
          try simp only [List.getElem_toArray, List.getElem_cons_zero, List.getElem_cons_succ, Act.put, List.setIfInBounds_toArray, List.set_cons_zero, List.set_cons_succ]
          refine' wpAnyK_takeL (i := 23) (v := _) rfl (by kernel_rfl) (by kernel_rfl) (by kernel_rfl) (by kernel_rfl) (fun _ _ _ h => h) (Or.inl ⟨by rfl, ?yT24⟩) hHeld ?rT24
          case yT24 => (intro w' hSw; (try dsimp only at hSw); go_simp; try with_reducible rfl)
          try simp only [List.getElem_toArray, List.getElem_cons_zero, List.getElem_cons_succ, Act.put, List.setIfInBounds_toArray, List.set_cons_zero, List.set_cons_succ]
          refine wpAnyK_oneL (i := 24) rfl (by kernel_rfl) (fun K hK => ?_)
          go_simp
          go_at_call 65
          refine (mod_c _ _ _ (by omega) (by omega) (by omega) (by omega)).mono ?_
          rintro e w' ⟨rfl, rfl⟩
          go_wp2_with fail
          refine hK.out _ _ (fun _ => hHeld) ?_
          clear hK K
          try simp only [List.getElem_toArray, List.getElem_cons_zero, List.getElem_cons_succ, Act.put, List.setIfInBounds_toArray, List.set_cons_zero, List.set_cons_succ]
          refine wpAnyK_oneL (i := 25) rfl (by kernel_rfl) (fun K hK => ?_)
          go_simp
          (try go_wp2_with fail)
          refine hK.out _ _ (fun h => absurd h (by decide)) ?_
          clear hK K
          try simp only [List.getElem_toArray, List.getElem_cons_zero, List.getElem_cons_succ, Act.put, List.setIfInBounds_toArray, List.set_cons_zero, List.set_cons_succ]
          refine wpAnyK_oneL (i := 26) rfl (by kernel_rfl) (fun K hK => ?_)
          refine stI wr rfl _ _ rfl w3.heap.size (.slice ov k cv) l rfl hO ((S - T) % n) rfl (by rw [HLn.out]; omega) (by omega) ?_
          intro v' w5 hO5 hb5
          refine hK.out _ _ (fun h => absurd h (by decide)) ?_
          clear hK K
          try simp only [List.getElem_toArray, List.getElem_cons_zero, List.getElem_cons_succ, Act.put, List.setIfInBounds_toArray, List.set_cons_zero, List.set_cons_succ]
          refine wpAnyK_oneL (i := 27) rfl (by kernel_rfl) (fun K hK => ?_)
          go_simp
          (try go_wp2_with fail)
          refine hK.out _ _ (fun h => absurd h (by decide)) ?_
          clear hK K
          try simp only [List.getElem_toArray, List.getElem_cons_zero, List.getElem_cons_succ, Act.put, List.setIfInBounds_toArray, List.set_cons_zero, List.set_cons_succ]
          refine wpAnyK_done (by kernel_rfl) ?_ _
          go_wp2_with fail
          rw [← HSn.out] at hO5
          have hb6 : Below w3.heap.size w3 w5 := hbr.trans hb5
          go_wp2
          exact ⟨⟨k + 1, by omega, by go_num, hO5, hb6⟩, by simp [intOf]; omega⟩
        · obtain rfl : k = K + 1 := by omega
          have k1 : ¬ ((K + 1 : Nat) : Int) ≤ (K : Int) := by omega
          have B4 := B3.trans (hbr.mono B3s)
          go_wp2
          go_ret2
          rw [HR2.out]
          exact ⟨_, rfl, hO.mono B3s, B4, by show (diffL n t s K).length ≤ _; rw [diffL_len]; omega⟩
  · have HR := Lib.hid (show firstR m t n s = ⟨[], twoL m t n s⟩ by simp [firstR, hc])
    obtain ⟨cc, hcc0⟩ : ∃ cc, twoL m t n s = cc := ⟨_, rfl⟩
    rw [hcc0] at hc HR
    have HC := Lib.hid hcc0
    clear hcc0
    have hcc : (cc != 0) = true := by simpa using hc
    clear hc
    go_enter Try.func27, Try.ntmps27
    go_wp2_with fail
    (have X0 := ((RB2.mk1 w  (.int .i64 m) (.slice o t.length c) 29).1).below (w' := ((w.alloc (.cells #[.int .i64 m, .slice o t.length c] 29)).alloc (.cells #[.int .i64 n, .slice o' s.length c'] 29))) (by (repeat (first | exact Below.refl _ _ | (refine Below.setCell ?_ (by first | (simp; done) | (simp; omega) | omega) _) | (refine Below.alloc ?_ (by first | (simp; done) | (simp; omega) | omega) _) | (refine below_drewN ?_ _) | (refine Below.drew ?_)))) (Nat.le_refl _); have Y0 := ((RB2.mk2 w (.cells #[.int .i64 m, .slice o t.length c] 29) (.int .i64 n) (.slice o' s.length c') 29).1).below (w' := ((w.alloc (.cells #[.int .i64 m, .slice o t.length c] 29)).alloc (.cells #[.int .i64 n, .slice o' s.length c'] 29))) (by (repeat (first | exact Below.refl _ _ | (refine Below.setCell ?_ (by first | (simp; done) | (simp; omega) | omega) _) | (refine Below.alloc ?_ (by first | (simp; done) | (simp; omega) | omega) _) | (refine below_drewN ?_ _) | (refine Below.drew ?_)))) (Nat.le_refl _); have B0 : Below w.heap.size w ((w.alloc (.cells #[.int .i64 m, .slice o t.length c] 29)).alloc (.cells #[.int .i64 n, .slice o' s.length c'] 29)) := (by (repeat (first | exact Below.refl _ _ | (refine Below.setCell ?_ (by first | (simp; done) | (simp; omega) | omega) _) | (refine Below.alloc ?_ (by first | (simp; done) | (simp; omega) | omega) _) | (refine below_drewN ?_ _) | (refine Below.drew ?_)))); have hv0 := hv.below (w' := ((w.alloc (.cells #[.int .i64 m, .slice o t.length c] 29)).alloc (.cells #[.int .i64 n, .slice o' s.length c'] 29))) (by (repeat (first | exact Below.refl _ _ | (refine Below.setCell ?_ (by first | (simp; done) | (simp; omega) | omega) _) | (refine Below.alloc ?_ (by first | (simp; done) | (simp; omega) | omega) _) | (refine below_drewN ?_ _) | (refine Below.drew ?_)))) (Nat.le_refl _); have hu0 := hu.below (w' := ((w.alloc (.cells #[.int .i64 m, .slice o t.length c] 29)).alloc (.cells #[.int .i64 n, .slice o' s.length c'] 29))) (by (repeat (first | exact Below.refl _ _ | (refine Below.setCell ?_ (by first | (simp; done) | (simp; omega) | omega) _) | (refine Below.alloc ?_ (by first | (simp; done) | (simp; omega) | omega) _) | (refine below_drewN ?_ _) | (refine Below.drew ?_)))) (Nat.le_refl _); generalize (w.alloc (.cells #[.int .i64 m, .slice o t.length c] 29)).alloc (.cells #[.int .i64 n, .slice o' s.length c'] 29) = w0 at X0 Y0 B0 hv0 hu0 ⊢)
    (obtain ⟨gqX0, gqX1⟩ := id X0; obtain ⟨gqY0, gqY1⟩ := id Y0; go_wp2_with fail; refine (bothLaws_c m n _ _ t s _ hv0 hu0).mono ?_; rw [HC.out]; rintro e w1 ⟨rfl, hb⟩; (have X1 := X0.below hb (Nat.le_refl _); have Y1 := Y0.below hb (Nat.le_refl _); have hv1 := hv0.below hb (Nat.le_refl _); have hu1 := hu0.below hb (Nat.le_refl _); have B1 := B0.trans (hb.mono B0.size)); clear gqX0 gqX1 gqY0 gqY1; clear hb)
    go_wp2
    go_ret2
    rw [HR.out]
    exact ⟨_, rfl, OwI.nil _ _, B1, by simp⟩
set_option maxHeartbeats 2000000 in
set_option maxRecDepth 100000 in
theorem sFirstDifference_c (m : Int) (v : Value) (t : List (List Int)) (n : Int) (u : Value) (s : List (List Int)) (w : World) (hv : RdT w v t) (hu : RdT w u s) :
    Calls Try.prog 26 #[.agg #[.int .i64 m, v], .agg #[.int .i64 n, u]] w fun e w' => LEnd w w' (firstR m t n s) e := by
  obtain ⟨o, c, rfl, hmx, -⟩ := id hv
  obtain ⟨o', c', rfl, -, -⟩ := id hu
  have hml := hmx.1
  clear hmx
  by_cases hc : twoL m t n s = 0
  · obtain ⟨h1, h2, rfl, hl⟩ := twoL_0 hc
    have hn := pla_n (lawB_t h1).1
    have hm := pla_m (lawB_t h1).1
    have HR := Lib.hid (show firstR n t n s = if agrK t s t.length = t.length then ⟨[], 4⟩ else ⟨diffL n t s (agrK t s t.length), 0⟩ by simp [firstR, hc])
    have HC := Lib.hid hc
    have HT := Lib.hid (law_P h1)
    have HS := Lib.hid (show PlaT n t.length s by have := law_P h2; rw [hl] at this; exact this)
    have HZ := Lib.hid (agr_0 h1 h2)
    have hu' : RdT w (.slice o' t.length c') s := by rw [hl] at hu; exact hu
    rw [hl]
    clear hc h1 h2 hl hu
    have hcc : ((0 : Int) != 0) = false := by simp
    have hKle := agrK_le t s t.length
    obtain ⟨bt, ft, rfl, -⟩ := hv.rows (by omega)
    obtain ⟨bs, fs, rfl, -⟩ := hu'.rows (by have := HS.out.1; omega)
    go_enter Try.func26, Try.ntmps26
    go_wp2_with fail
    (have X0 := ((RB2.mk1 w  (.int .i64 n) (.slice (some ⟨bt, ft, none⟩) t.length c) 29).1).below (w' := ((w.alloc (.cells #[.int .i64 n, .slice (some ⟨bt, ft, none⟩) t.length c] 29)).alloc (.cells #[.int .i64 n, .slice (some ⟨bs, fs, none⟩) t.length c'] 29))) (by (repeat (first | exact Below.refl _ _ | (refine Below.setCell ?_ (by first | (simp; done) | (simp; omega) | omega) _) | (refine Below.alloc ?_ (by first | (simp; done) | (simp; omega) | omega) _) | (refine below_drewN ?_ _) | (refine Below.drew ?_)))) (Nat.le_refl _); have Y0 := ((RB2.mk2 w (.cells #[.int .i64 n, .slice (some ⟨bt, ft, none⟩) t.length c] 29) (.int .i64 n) (.slice (some ⟨bs, fs, none⟩) t.length c') 29).1).below (w' := ((w.alloc (.cells #[.int .i64 n, .slice (some ⟨bt, ft, none⟩) t.length c] 29)).alloc (.cells #[.int .i64 n, .slice (some ⟨bs, fs, none⟩) t.length c'] 29))) (by (repeat (first | exact Below.refl _ _ | (refine Below.setCell ?_ (by first | (simp; done) | (simp; omega) | omega) _) | (refine Below.alloc ?_ (by first | (simp; done) | (simp; omega) | omega) _) | (refine below_drewN ?_ _) | (refine Below.drew ?_)))) (Nat.le_refl _); have B0 : Below w.heap.size w ((w.alloc (.cells #[.int .i64 n, .slice (some ⟨bt, ft, none⟩) t.length c] 29)).alloc (.cells #[.int .i64 n, .slice (some ⟨bs, fs, none⟩) t.length c'] 29)) := (by (repeat (first | exact Below.refl _ _ | (refine Below.setCell ?_ (by first | (simp; done) | (simp; omega) | omega) _) | (refine Below.alloc ?_ (by first | (simp; done) | (simp; omega) | omega) _) | (refine below_drewN ?_ _) | (refine Below.drew ?_)))); have hv0 := hv.below (w' := ((w.alloc (.cells #[.int .i64 n, .slice (some ⟨bt, ft, none⟩) t.length c] 29)).alloc (.cells #[.int .i64 n, .slice (some ⟨bs, fs, none⟩) t.length c'] 29))) (by (repeat (first | exact Below.refl _ _ | (refine Below.setCell ?_ (by first | (simp; done) | (simp; omega) | omega) _) | (refine Below.alloc ?_ (by first | (simp; done) | (simp; omega) | omega) _) | (refine below_drewN ?_ _) | (refine Below.drew ?_)))) (Nat.le_refl _); have hu'0 := hu'.below (w' := ((w.alloc (.cells #[.int .i64 n, .slice (some ⟨bt, ft, none⟩) t.length c] 29)).alloc (.cells #[.int .i64 n, .slice (some ⟨bs, fs, none⟩) t.length c'] 29))) (by (repeat (first | exact Below.refl _ _ | (refine Below.setCell ?_ (by first | (simp; done) | (simp; omega) | omega) _) | (refine Below.alloc ?_ (by first | (simp; done) | (simp; omega) | omega) _) | (refine below_drewN ?_ _) | (refine Below.drew ?_)))) (Nat.le_refl _); generalize (w.alloc (.cells #[.int .i64 n, .slice (some ⟨bt, ft, none⟩) t.length c] 29)).alloc (.cells #[.int .i64 n, .slice (some ⟨bs, fs, none⟩) t.length c'] 29) = w0 at X0 Y0 B0 hv0 hu'0 ⊢)
    (obtain ⟨gqX0, gqX1⟩ := id X0; obtain ⟨gqY0, gqY1⟩ := id Y0; go_wp2_with fail; refine (l04Two_c n n _ _ t s _ hv0 hu'0).mono ?_; rw [HC.out]; rintro e w1 ⟨rfl, hb⟩; (have X1 := X0.below hb (Nat.le_refl _); have Y1 := Y0.below hb (Nat.le_refl _); have hv1 := hv0.below hb (Nat.le_refl _); have hu'1 := hu'0.below hb (Nat.le_refl _); have B1 := B0.trans (hb.mono B0.size)); clear gqX0 gqX1 gqY0 gqY1; clear hb)
    obtain ⟨x0, x1⟩ := id X1
    obtain ⟨y0, y1⟩ := id Y1
    go_wp2_with fail
    refine (l04Agreement_c n n n t.length _ _ t s _ hv1 hu'1 (by omega) (by omega) HT.out HS.out HZ.out).mono ?_
    rintro e w2 ⟨rfl, hb⟩
    (have X2 := X1.below hb (Nat.le_refl _); have Y2 := Y1.below hb (Nat.le_refl _); have hv2 := hv1.below hb (Nat.le_refl _); have hu'2 := hu'1.below hb (Nat.le_refl _); have B2 := B1.trans (hb.mono B1.size))
    clear x0 x1 y0 y1 hb
    obtain ⟨x0, x1⟩ := id X2
    have HK := Lib.hid (show ∃ K, agrK t s t.length = K from ⟨_, rfl⟩)
    generalize agrK t s t.length = K at hKle HR ⊢
    have e0 : IntKind.i64.wrap ((K : Int) - 1 + 1) = (K : Int) := by rw [show (K : Int) - 1 + 1 = (K : Int) by omega]; exact IntWalk.i64_in _ (by omega)
    have e0' : (K : Int) - 1 + 1 = (K : Int) := by omega
    have B2s := B2.size
    have lX := X2.lt
    by_cases hK : K = t.length
    · have HR2 := Lib.hid (show firstR n t n s = ⟨[], 4⟩ by rw [HR.out, if_pos hK])
      have i0 : ((K : Int) == (t.length : Int)) = true := by simp; omega
      go_wp2
      go_ret2
      rw [HR2.out]
      exact ⟨_, rfl, OwI.nil _ _, (by (repeat (first | exact Below.refl _ _ | (refine Below.setCell ?_ (by first | (simp; done) | (simp; omega) | omega) _) | (refine Below.alloc ?_ (by first | (simp; done) | (simp; omega) | omega) _) | (refine below_drewN ?_ _) | (refine Below.drew ?_) | (refine Below.trans ?_ (Below.mono B2 (by first | (simp; done) | (simp; omega) | omega)))))), by simp⟩
    · have HR2 := Lib.hid (show firstR n t n s = ⟨diffL n t s K, 0⟩ by rw [HR.out, if_neg hK])
      have i0 : ((K : Int) == (t.length : Int)) = false := by simp; omega
      go_wp2_with fail
      have O1 := OwI.lit w2 [] (by decide)
      have hb : Below w2.heap.size w2 (w2.alloc (.cells #[] 2)) := (by (repeat (first | exact Below.refl _ _ | (refine Below.setCell ?_ (by first | (simp; done) | (simp; omega) | omega) _) | (refine Below.alloc ?_ (by first | (simp; done) | (simp; omega) | omega) _) | (refine below_drewN ?_ _) | (refine Below.drew ?_))))
      simp at O1
      generalize w2.alloc (.cells #[] 2) = w3 at O1 hb ⊢
      clear x0 x1 e0 e0'
      go_loopw [8, 9] (fun l i wr => ∃ k : Nat, k ≤ K + 1 ∧ i = .int .i64 k ∧ OwI wr w2.heap.size l (diffTo n t s K k) ∧ Below w2.heap.size w2 wr) (fun _ i _ => K + 1 - (intOf i).toNat)
      case atStart => exact ⟨0, Nat.zero_le _, rfl, O1, hb⟩
      case round =>
        obtain ⟨k, hk, rfl, hO, hbr⟩ := hrel
        obtain ⟨ov, cv, rfl⟩ := hO.shapeN (n := k) (mk_len _ _)
        have hbrs := hbr.size
        have Xr := X2.below hbr (Nat.le_refl _)
        have Yr := Y2.below hbr (Nat.le_refl _)
        have hvr := hv2.below hbr (Nat.le_refl _)
        have hur := hu'2.below hbr (Nat.le_refl _)
        by_cases hlt : k ≤ K
        · obtain ⟨r1, hr1, hl1, hj1⟩ := HT.out.row (show k < t.length by omega)
          obtain ⟨r2, hr2, hl2, hj2⟩ := HS.out.row (show k < t.length by omega)
          obtain ⟨p1, q1, cx, rx⟩ := hvr.row hr1
          obtain ⟨p2, q2, cy, ry⟩ := hur.row hr2
          rw [hl1] at cx rx
          rw [hl2] at cy ry
          obtain ⟨b1, f1, rfl, -⟩ := rx.cells (by omega)
          obtain ⟨b2, f2, rfl, -⟩ := ry.cells (by omega)
          have ex := rx.cell0 (hj1 (K - k) (by omega))
          have ey := ry.cell0 (hj2 (K - k) (by omega))
          obtain ⟨-, -, -, -, hxa, hxb⟩ := HT.out.at (i := k) (j := K - k) (by omega)
          obtain ⟨-, -, -, -, hya, hyb⟩ := HS.out.at (i := k) (j := K - k) (by omega)
          clear hr1 hl1 hj1 hr2 hl2 hj2
          obtain ⟨x0, x1⟩ := id Xr
          obtain ⟨y0, y1⟩ := id Yr
          have HSn := Lib.hid (diffTo_snoc n t s K k)
          have HLn := Lib.hid (show (diffTo n t s K k).length = k from mk_len _ _)
          generalize diffTo n t s K k = l at hO HSn HLn
          generalize atT t k (K - k) = T at ex hxa hxb HSn
          generalize atT s k (K - k) = S at ey hya hyb HSn
          have k0 : (0 : Int) ≤ (k : Int) := by omega
          have k1 : (k : Int) ≤ (K : Int) := by omega
          have k2 : (k : Int) < (t.length : Int) := by omega
          have k3 : (0 : Int) ≤ (K : Int) - (k : Int) := by omega
          have k4 : (K : Int) - (k : Int) < ((t.length - k : Nat) : Int) := by omega
          have k5 : ((K : Int) - (k : Int)).toNat = K - k := by omega
          have m0 : (n == 0) = false := by simp; omega
          have m1 : ¬ n = 0 := by omega
          go_wp2_with fail
          have e0 : IntKind.i64.wrap ((K : Int) - (k : Int)) = (K : Int) - (k : Int) := IntWalk.i64_in _ (by omega)
          have e1 : IntKind.i64.wrap (S - T) = S - T := IntWalk.i64_in _ (by omega)
          have hMod := mod_lt' (a := S - T) (show 0 < n by omega)
          have e2 : IntKind.i64.wrap (S - T + n) = S - T + n := IntWalk.i64_in _ (by omega)
          have e3 : (S - T + n).tmod n = (S - T) % n := by rw [Int.tmod_eq_emod_of_nonneg (by omega)]; exact Int.add_emod_right _ _
          have hd0 : Below wr.heap.size wr wr.drew := (Below.refl _ _).drew
          have hsd0 := hd0.size
          refine wp_region_K (S := fun w' => w'.cell? ⟨w.heap.size, 0, none⟩ = some (.int .i64 n) ∧ w'.cell? ⟨w.heap.size, 1, none⟩ = some (.slice (some ⟨bt, ft, none⟩) t.length c) ∧ w'.cell? ⟨w.heap.size + 1, 1, none⟩ = some (.slice (some ⟨bs, fs, none⟩) t.length c') ∧ w'.cell? ⟨bt, ft + k, none⟩ = some (.slice (some ⟨b1, f1, none⟩) (t.length - k) q1) ∧ w'.cell? ⟨bs, fs + k, none⟩ = some (.slice (some ⟨b2, f2, none⟩) (t.length - k) q2) ∧ w'.cell? ⟨b1, f1 + (K - k), none⟩ = some (.int .i64 T) ∧ w'.cell? ⟨b2, f2 + (K - k), none⟩ = some (.int .i64 S)) [0, 28, 29, 30] (by kernel_rfl) ?_
          have hHeld : (fun w' : World => w'.cell? ⟨w.heap.size, 0, none⟩ = some (.int .i64 n) ∧ w'.cell? ⟨w.heap.size, 1, none⟩ = some (.slice (some ⟨bt, ft, none⟩) t.length c) ∧ w'.cell? ⟨w.heap.size + 1, 1, none⟩ = some (.slice (some ⟨bs, fs, none⟩) t.length c') ∧ w'.cell? ⟨bt, ft + k, none⟩ = some (.slice (some ⟨b1, f1, none⟩) (t.length - k) q1) ∧ w'.cell? ⟨bs, fs + k, none⟩ = some (.slice (some ⟨b2, f2, none⟩) (t.length - k) q2) ∧ w'.cell? ⟨b1, f1 + (K - k), none⟩ = some (.int .i64 T) ∧ w'.cell? ⟨b2, f2 + (K - k), none⟩ = some (.int .i64 S)) wr.drew := by go_keep
          refine' wpAnyK_pureL (i := 0) (v := _) rfl (by kernel_rfl) (by kernel_rfl) (by kernel_rfl) (by kernel_rfl) (fun _ _ _ h => h) (Or.inl ⟨by rfl, ?yT25⟩) ?rT25
          case yT25 => (intro w' _; go_simp; try with_reducible rfl)
          try simp only [List.getElem_toArray, List.getElem_cons_zero, List.getElem_cons_succ, Act.put, List.setIfInBounds_toArray, List.set_cons_zero, List.set_cons_succ]
          refine' wpAnyK_takeL (i := 1) (v := _) rfl (by kernel_rfl) (by kernel_rfl) (by kernel_rfl) (by kernel_rfl) (fun _ _ _ h => h) (Or.inl ⟨by rfl, ?yT26⟩) hHeld ?rT26
          case yT26 => (intro w' hSw; (try dsimp only at hSw); go_simp; try with_reducible rfl)
          try simp only [List.getElem_toArray, List.getElem_cons_zero, List.getElem_cons_succ, Act.put, List.setIfInBounds_toArray, List.set_cons_zero, List.set_cons_succ]
          refine' wpAnyK_takeL (i := 2) (v := _) rfl (by kernel_rfl) (by kernel_rfl) (by kernel_rfl) (by kernel_rfl) (fun _ _ _ h => h) (Or.inl ⟨by rfl, ?yT27⟩) hHeld ?rT27
          case yT27 => (intro w' hSw; (try dsimp only at hSw); go_simp; try with_reducible rfl)
          try simp only [List.getElem_toArray, List.getElem_cons_zero, List.getElem_cons_succ, Act.put, List.setIfInBounds_toArray, List.set_cons_zero, List.set_cons_succ]
          refine' wpAnyK_takeL (i := 3) (v := _) rfl (by kernel_rfl) (by kernel_rfl) (by kernel_rfl) (by kernel_rfl) (fun _ _ _ h => h) (Or.inl ⟨by rfl, ?yT28⟩) hHeld ?rT28
          case yT28 => (intro w' hSw; (try dsimp only at hSw); go_simp; try with_reducible rfl)
          try simp only [List.getElem_toArray, List.getElem_cons_zero, List.getElem_cons_succ, Act.put, List.setIfInBounds_toArray, List.set_cons_zero, List.set_cons_succ]
          refine' wpAnyK_takeL (i := 4) (v := _) rfl (by kernel_rfl) (by kernel_rfl) (by kernel_rfl) (by kernel_rfl) (fun _ _ _ h => h) (Or.inl ⟨by rfl, ?yT29⟩) hHeld ?rT29
          case yT29 => (intro w' hSw; (try dsimp only at hSw); go_simp; try with_reducible rfl)
          try simp only [List.getElem_toArray, List.getElem_cons_zero, List.getElem_cons_succ, Act.put, List.setIfInBounds_toArray, List.set_cons_zero, List.set_cons_succ]
          refine' wpAnyK_takeL (i := 5) (v := _) rfl (by kernel_rfl) (by kernel_rfl) (by kernel_rfl) (by kernel_rfl) (fun _ _ _ h => h) (Or.inl ⟨by rfl, ?yT30⟩) hHeld ?rT30
          case yT30 => (intro w' hSw; (try dsimp only at hSw); go_simp; try with_reducible rfl)
          try simp only [List.getElem_toArray, List.getElem_cons_zero, List.getElem_cons_succ, Act.put, List.setIfInBounds_toArray, List.set_cons_zero, List.set_cons_succ]
          refine' wpAnyK_takeL (i := 6) (v := _) rfl (by kernel_rfl) (by kernel_rfl) (by kernel_rfl) (by kernel_rfl) (fun _ _ _ h => h) (Or.inl ⟨by rfl, ?yT31⟩) hHeld ?rT31
          case yT31 => (intro w' hSw; (try dsimp only at hSw); go_simp; try with_reducible rfl)
          try simp only [List.getElem_toArray, List.getElem_cons_zero, List.getElem_cons_succ, Act.put, List.setIfInBounds_toArray, List.set_cons_zero, List.set_cons_succ]
          refine' wpAnyK_takeL (i := 7) (v := _) rfl (by kernel_rfl) (by kernel_rfl) (by kernel_rfl) (by kernel_rfl) (fun _ _ _ h => h) (Or.inl ⟨by rfl, ?yT32⟩) hHeld ?rT32
          case yT32 => (intro w' hSw; (try dsimp only at hSw); go_simp; try with_reducible rfl)
          try simp only [List.getElem_toArray, List.getElem_cons_zero, List.getElem_cons_succ, Act.put, List.setIfInBounds_toArray, List.set_cons_zero, List.set_cons_succ]
          refine' wpAnyK_takeL (i := 8) (v := _) rfl (by kernel_rfl) (by kernel_rfl) (by kernel_rfl) (by kernel_rfl) (fun _ _ _ h => h) (Or.inl ⟨by rfl, ?yT33⟩) hHeld ?rT33
          case yT33 => (intro w' hSw; (try dsimp only at hSw); go_simp; try with_reducible rfl)
          try simp only [List.getElem_toArray, List.getElem_cons_zero, List.getElem_cons_succ, Act.put, List.setIfInBounds_toArray, List.set_cons_zero, List.set_cons_succ]
          refine' wpAnyK_takeL (i := 9) (v := _) rfl (by kernel_rfl) (by kernel_rfl) (by kernel_rfl) (by kernel_rfl) (fun _ _ _ h => h) (Or.inl ⟨by rfl, ?yT34⟩) hHeld ?rT34
          case yT34 => (intro w' hSw; (try dsimp only at hSw); go_simp; try with_reducible rfl)
          try simp only [List.getElem_toArray, List.getElem_cons_zero, List.getElem_cons_succ, Act.put, List.setIfInBounds_toArray, List.set_cons_zero, List.set_cons_succ]
          refine' wpAnyK_takeL (i := 10) (v := _) rfl (by kernel_rfl) (by kernel_rfl) (by kernel_rfl) (by kernel_rfl) (fun _ _ _ h => h) (Or.inl ⟨by rfl, ?yT35⟩) hHeld ?rT35
          case yT35 => (intro w' hSw; (try dsimp only at hSw); go_simp; try with_reducible rfl)
          try simp only [List.getElem_toArray, List.getElem_cons_zero, List.getElem_cons_succ, Act.put, List.setIfInBounds_toArray, List.set_cons_zero, List.set_cons_succ]
          refine' wpAnyK_takeL (i := 11) (v := _) rfl (by kernel_rfl) (by kernel_rfl) (by kernel_rfl) (by kernel_rfl) (fun _ _ _ h => h) (Or.inl ⟨by rfl, ?yT36⟩) hHeld ?rT36
          case yT36 => (intro w' hSw; (try dsimp only at hSw); go_simp; try with_reducible rfl)
          try simp only [List.getElem_toArray, List.getElem_cons_zero, List.getElem_cons_succ, Act.put, List.setIfInBounds_toArray, List.set_cons_zero, List.set_cons_succ]
          refine' wpAnyK_takeL (i := 12) (v := _) rfl (by kernel_rfl) (by kernel_rfl) (by kernel_rfl) (by kernel_rfl) (fun _ _ _ h => h) (Or.inl ⟨by rfl, ?yT37⟩) hHeld ?rT37
          case yT37 => (intro w' hSw; (try dsimp only at hSw); go_simp; try with_reducible rfl)
          try simp only [List.getElem_toArray, List.getElem_cons_zero, List.getElem_cons_succ, Act.put, List.setIfInBounds_toArray, List.set_cons_zero, List.set_cons_succ]
          refine' wpAnyK_takeL (i := 13) (v := _) rfl (by kernel_rfl) (by kernel_rfl) (by kernel_rfl) (by kernel_rfl) (fun _ _ _ h => h) (Or.inl ⟨by rfl, ?yT38⟩) hHeld ?rT38
          case yT38 => (intro w' hSw; (try dsimp only at hSw); go_simp; try with_reducible rfl)
          try simp only [List.getElem_toArray, List.getElem_cons_zero, List.getElem_cons_succ, Act.put, List.setIfInBounds_toArray, List.set_cons_zero, List.set_cons_succ]
          refine' wpAnyK_takeL (i := 14) (v := _) rfl (by kernel_rfl) (by kernel_rfl) (by kernel_rfl) (by kernel_rfl) (fun _ _ _ h => h) (Or.inl ⟨by rfl, ?yT39⟩) hHeld ?rT39
          case yT39 => (intro w' hSw; (try dsimp only at hSw); go_simp; try with_reducible rfl)
          try simp only [List.getElem_toArray, List.getElem_cons_zero, List.getElem_cons_succ, Act.put, List.setIfInBounds_toArray, List.set_cons_zero, List.set_cons_succ]
          refine' wpAnyK_takeL (i := 15) (v := _) rfl (by kernel_rfl) (by kernel_rfl) (by kernel_rfl) (by kernel_rfl) (fun _ _ _ h => h) (Or.inl ⟨by rfl, ?yT40⟩) hHeld ?rT40
          case yT40 => (intro w' hSw; (try dsimp only at hSw); go_simp; try with_reducible rfl)
          try simp only [List.getElem_toArray, List.getElem_cons_zero, List.getElem_cons_succ, Act.put, List.setIfInBounds_toArray, List.set_cons_zero, List.set_cons_succ]
          refine' wpAnyK_takeL (i := 16) (v := _) rfl (by kernel_rfl) (by kernel_rfl) (by kernel_rfl) (by kernel_rfl) (fun _ _ _ h => h) (Or.inl ⟨by rfl, ?yT41⟩) hHeld ?rT41
          case yT41 => (intro w' hSw; (try dsimp only at hSw); go_simp; try with_reducible rfl)
          try simp only [List.getElem_toArray, List.getElem_cons_zero, List.getElem_cons_succ, Act.put, List.setIfInBounds_toArray, List.set_cons_zero, List.set_cons_succ]
          refine' wpAnyK_takeL (i := 17) (v := _) rfl (by kernel_rfl) (by kernel_rfl) (by kernel_rfl) (by kernel_rfl) (fun _ _ _ h => h) (Or.inl ⟨by rfl, ?yT42⟩) hHeld ?rT42
          case yT42 => (intro w' hSw; (try dsimp only at hSw); go_simp; try with_reducible rfl)
          try simp only [List.getElem_toArray, List.getElem_cons_zero, List.getElem_cons_succ, Act.put, List.setIfInBounds_toArray, List.set_cons_zero, List.set_cons_succ]
          refine' wpAnyK_takeL (i := 18) (v := _) rfl (by kernel_rfl) (by kernel_rfl) (by kernel_rfl) (by kernel_rfl) (fun _ _ _ h => h) (Or.inl ⟨by rfl, ?yT43⟩) hHeld ?rT43
          case yT43 => (intro w' hSw; (try dsimp only at hSw); go_simp; try with_reducible rfl)
          try simp only [List.getElem_toArray, List.getElem_cons_zero, List.getElem_cons_succ, Act.put, List.setIfInBounds_toArray, List.set_cons_zero, List.set_cons_succ]
          refine' wpAnyK_takeL (i := 19) (v := _) rfl (by kernel_rfl) (by kernel_rfl) (by kernel_rfl) (by kernel_rfl) (fun _ _ _ h => h) (Or.inl ⟨by rfl, ?yT44⟩) hHeld ?rT44
          case yT44 => (intro w' hSw; (try dsimp only at hSw); go_simp; try with_reducible rfl)
          try simp only [List.getElem_toArray, List.getElem_cons_zero, List.getElem_cons_succ, Act.put, List.setIfInBounds_toArray, List.set_cons_zero, List.set_cons_succ]
          refine' wpAnyK_takeL (i := 20) (v := _) rfl (by kernel_rfl) (by kernel_rfl) (by kernel_rfl) (by kernel_rfl) (fun _ _ _ h => h) (Or.inl ⟨by rfl, ?yT45⟩) hHeld ?rT45
          case yT45 => (intro w' hSw; (try dsimp only at hSw); go_simp; try with_reducible rfl)
          try simp only [List.getElem_toArray, List.getElem_cons_zero, List.getElem_cons_succ, Act.put, List.setIfInBounds_toArray, List.set_cons_zero, List.set_cons_succ]
          refine' wpAnyK_takeL (i := 21) (v := _) rfl (by kernel_rfl) (by kernel_rfl) (by kernel_rfl) (by kernel_rfl) (fun _ _ _ h => h) (Or.inl ⟨by rfl, ?yT46⟩) hHeld ?rT46
          case yT46 => (intro w' hSw; (try dsimp only at hSw); go_simp; try with_reducible rfl)
          try simp only [List.getElem_toArray, List.getElem_cons_zero, List.getElem_cons_succ, Act.put, List.setIfInBounds_toArray, List.set_cons_zero, List.set_cons_succ]
          refine' wpAnyK_takeL (i := 22) (v := _) rfl (by kernel_rfl) (by kernel_rfl) (by kernel_rfl) (by kernel_rfl) (fun _ _ _ h => h) (Or.inl ⟨by rfl, ?yT47⟩) hHeld ?rT47
          case yT47 => (intro w' hSw; (try dsimp only at hSw); go_simp; try with_reducible rfl)
          try simp only [List.getElem_toArray, List.getElem_cons_zero, List.getElem_cons_succ, Act.put, List.setIfInBounds_toArray, List.set_cons_zero, List.set_cons_succ]
          refine' wpAnyK_takeL (i := 23) (v := _) rfl (by kernel_rfl) (by kernel_rfl) (by kernel_rfl) (by kernel_rfl) (fun _ _ _ h => h) (Or.inl ⟨by rfl, ?yT48⟩) hHeld ?rT48
          case yT48 => (intro w' hSw; (try dsimp only at hSw); go_simp; try with_reducible rfl)
          try simp only [List.getElem_toArray, List.getElem_cons_zero, List.getElem_cons_succ, Act.put, List.setIfInBounds_toArray, List.set_cons_zero, List.set_cons_succ]
          refine' wpAnyK_takeL (i := 24) (v := _) rfl (by kernel_rfl) (by kernel_rfl) (by kernel_rfl) (by kernel_rfl) (fun _ _ _ h => h) (Or.inl ⟨by rfl, ?yT49⟩) hHeld ?rT49
          case yT49 => (intro w' hSw; (try dsimp only at hSw); go_simp; try with_reducible rfl)
          try simp only [List.getElem_toArray, List.getElem_cons_zero, List.getElem_cons_succ, Act.put, List.setIfInBounds_toArray, List.set_cons_zero, List.set_cons_succ]
          refine' wpAnyK_takeL (i := 25) (v := _) rfl (by kernel_rfl) (by kernel_rfl) (by kernel_rfl) (by kernel_rfl) (fun _ _ _ h => h) (Or.inl ⟨by rfl, ?yT50⟩) hHeld ?rT50
          case yT50 => (intro w' hSw; (try dsimp only at hSw); go_simp; try with_reducible rfl)
          try simp only [List.getElem_toArray, List.getElem_cons_zero, List.getElem_cons_succ, Act.put, List.setIfInBounds_toArray, List.set_cons_zero, List.set_cons_succ]
          refine' wpAnyK_takeL (i := 26) (v := _) rfl (by kernel_rfl) (by kernel_rfl) (by kernel_rfl) (by kernel_rfl) (fun _ _ _ h => h) (Or.inl ⟨by rfl, ?yT51⟩) hHeld ?rT51
          case yT51 => (intro w' hSw; (try dsimp only at hSw); go_simp; try with_reducible rfl)
          try simp only [List.getElem_toArray, List.getElem_cons_zero, List.getElem_cons_succ, Act.put, List.setIfInBounds_toArray, List.set_cons_zero, List.set_cons_succ]
          refine' wpAnyK_takeL (i := 27) (v := _) rfl (by kernel_rfl) (by kernel_rfl) (by kernel_rfl) (by kernel_rfl) (fun _ _ _ h => h) (Or.inl ⟨by rfl, ?yT52⟩) hHeld ?rT52
          case yT52 => (intro w' hSw; (try dsimp only at hSw); go_simp; try with_reducible rfl)
          try simp only [List.getElem_toArray, List.getElem_cons_zero, List.getElem_cons_succ, Act.put, List.setIfInBounds_toArray, List.set_cons_zero, List.set_cons_succ]
          refine wpAnyK_oneL (i := 28) rfl (by kernel_rfl) (fun K hK => ?_)
          go_simp
          (try go_wp2_with fail)
          refine hK.out _ _ (fun h => absurd h (by decide)) ?_
          clear hK K
          try simp only [List.getElem_toArray, List.getElem_cons_zero, List.getElem_cons_succ, Act.put, List.setIfInBounds_toArray, List.set_cons_zero, List.set_cons_succ]
          refine wpAnyK_oneL (i := 29) rfl (by kernel_rfl) (fun K hK => ?_)
          refine stI wr rfl _ _ rfl w2.heap.size (.slice ov k cv) l rfl hO ((S - T) % n) rfl (by rw [HLn.out]; omega) (by omega) ?_
          intro v' w5 hO5 hb5
          refine hK.out _ _ (fun h => absurd h (by decide)) ?_
          clear hK K
          try simp only [List.getElem_toArray, List.getElem_cons_zero, List.getElem_cons_succ, Act.put, List.setIfInBounds_toArray, List.set_cons_zero, List.set_cons_succ]
          refine wpAnyK_oneL (i := 30) rfl (by kernel_rfl) (fun K hK => ?_)
          go_simp
          (try go_wp2_with fail)
          refine hK.out _ _ (fun h => absurd h (by decide)) ?_
          clear hK K
          try simp only [List.getElem_toArray, List.getElem_cons_zero, List.getElem_cons_succ, Act.put, List.setIfInBounds_toArray, List.set_cons_zero, List.set_cons_succ]
          refine wpAnyK_done (by kernel_rfl) ?_ _
          go_wp2_with fail
          rw [← HSn.out] at hO5
          have hb6 : Below w2.heap.size w2 w5 := hbr.trans hb5
          go_wp2
          exact ⟨⟨k + 1, by omega, by go_num, hO5, hb6⟩, by simp [intOf]; omega⟩
        · obtain rfl : k = K + 1 := by omega
          have k1 : ¬ ((K + 1 : Nat) : Int) ≤ (K : Int) := by omega
          have B4 := B2.trans (hbr.mono B2s)
          go_wp2
          go_ret2
          rw [HR2.out]
          exact ⟨_, rfl, hO.mono B2s, B4, by show (diffL n t s K).length ≤ _; rw [diffL_len]; omega⟩
  · have HR := Lib.hid (show firstR m t n s = ⟨[], twoL m t n s⟩ by simp [firstR, hc])
    obtain ⟨cc, hcc0⟩ : ∃ cc, twoL m t n s = cc := ⟨_, rfl⟩
    rw [hcc0] at hc HR
    have HC := Lib.hid hcc0
    clear hcc0
    have hcc : (cc != 0) = true := by simpa using hc
    clear hc
    go_enter Try.func26, Try.ntmps26
    go_wp2_with fail
    (have X0 := ((RB2.mk1 w  (.int .i64 m) (.slice o t.length c) 29).1).below (w' := ((w.alloc (.cells #[.int .i64 m, .slice o t.length c] 29)).alloc (.cells #[.int .i64 n, .slice o' s.length c'] 29))) (by (repeat (first | exact Below.refl _ _ | (refine Below.setCell ?_ (by first | (simp; done) | (simp; omega) | omega) _) | (refine Below.alloc ?_ (by first | (simp; done) | (simp; omega) | omega) _) | (refine below_drewN ?_ _) | (refine Below.drew ?_)))) (Nat.le_refl _); have Y0 := ((RB2.mk2 w (.cells #[.int .i64 m, .slice o t.length c] 29) (.int .i64 n) (.slice o' s.length c') 29).1).below (w' := ((w.alloc (.cells #[.int .i64 m, .slice o t.length c] 29)).alloc (.cells #[.int .i64 n, .slice o' s.length c'] 29))) (by (repeat (first | exact Below.refl _ _ | (refine Below.setCell ?_ (by first | (simp; done) | (simp; omega) | omega) _) | (refine Below.alloc ?_ (by first | (simp; done) | (simp; omega) | omega) _) | (refine below_drewN ?_ _) | (refine Below.drew ?_)))) (Nat.le_refl _); have B0 : Below w.heap.size w ((w.alloc (.cells #[.int .i64 m, .slice o t.length c] 29)).alloc (.cells #[.int .i64 n, .slice o' s.length c'] 29)) := (by (repeat (first | exact Below.refl _ _ | (refine Below.setCell ?_ (by first | (simp; done) | (simp; omega) | omega) _) | (refine Below.alloc ?_ (by first | (simp; done) | (simp; omega) | omega) _) | (refine below_drewN ?_ _) | (refine Below.drew ?_)))); have hv0 := hv.below (w' := ((w.alloc (.cells #[.int .i64 m, .slice o t.length c] 29)).alloc (.cells #[.int .i64 n, .slice o' s.length c'] 29))) (by (repeat (first | exact Below.refl _ _ | (refine Below.setCell ?_ (by first | (simp; done) | (simp; omega) | omega) _) | (refine Below.alloc ?_ (by first | (simp; done) | (simp; omega) | omega) _) | (refine below_drewN ?_ _) | (refine Below.drew ?_)))) (Nat.le_refl _); have hu0 := hu.below (w' := ((w.alloc (.cells #[.int .i64 m, .slice o t.length c] 29)).alloc (.cells #[.int .i64 n, .slice o' s.length c'] 29))) (by (repeat (first | exact Below.refl _ _ | (refine Below.setCell ?_ (by first | (simp; done) | (simp; omega) | omega) _) | (refine Below.alloc ?_ (by first | (simp; done) | (simp; omega) | omega) _) | (refine below_drewN ?_ _) | (refine Below.drew ?_)))) (Nat.le_refl _); generalize (w.alloc (.cells #[.int .i64 m, .slice o t.length c] 29)).alloc (.cells #[.int .i64 n, .slice o' s.length c'] 29) = w0 at X0 Y0 B0 hv0 hu0 ⊢)
    (obtain ⟨gqX0, gqX1⟩ := id X0; obtain ⟨gqY0, gqY1⟩ := id Y0; go_wp2_with fail; refine (l04Two_c m n _ _ t s _ hv0 hu0).mono ?_; rw [HC.out]; rintro e w1 ⟨rfl, hb⟩; (have X1 := X0.below hb (Nat.le_refl _); have Y1 := Y0.below hb (Nat.le_refl _); have hv1 := hv0.below hb (Nat.le_refl _); have hu1 := hu0.below hb (Nat.le_refl _); have B1 := B0.trans (hb.mono B0.size)); clear gqX0 gqX1 gqY0 gqY1; clear hb)
    go_wp2
    go_ret2
    rw [HR.out]
    exact ⟨_, rfl, OwI.nil _ _, B1, by simp⟩
end Go.Proofs.Ytflebfmkgmhccaa
