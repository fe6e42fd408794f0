/- Lemmas of Ext. -/
import Derived.Test.YtoednonijmkbjaaULzF
import Derived.Test.YtoednonijmkbjaaULzP
import Derived.Test.YtoednonijmkbjaaUAgrO
set_option linter.unusedSimpArgs false
set_option linter.unusedVariables false
namespace Go.Proofs.Ytoednonijmkbjaa
open Go.RowKit

def extR (m : Int) (t : List (List Int)) (n : Int) (s : List (List Int)) : IR :=
  if twoL m t n s = 0 then (if t.length = 2 then ⟨0, 2⟩ else if agrK t s t.length < t.length - 1 then ⟨0, 5⟩ else
    ⟨facTo m (laz (t.length - 1)) (fun i => (atT s i (t.length - 1 - i) - atT t i (t.length - 1 - i)) % m) t.length m.toNat, 0⟩) else ⟨0, twoL m t n s⟩
theorem extR_ways (m : Int) (t : List (List Int)) (n : Int) (s : List (List Int)) :
    (twoL m t n s ≠ 0 ∧ extR m t n s = ⟨0, twoL m t n s⟩) ∨
    (twoL m t n s = 0 ∧ n = m ∧ ∃ D : Nat, 1 ≤ D ∧ D ≤ 10 ∧ 2 ≤ m ∧ m ≤ 10000 ∧ PlaT m (D + 1) t ∧ PlaT m (D + 1) s ∧ agrA t s 0 = true ∧
      ((D = 1 ∧ extR m t n s = ⟨0, 2⟩) ∨ (2 ≤ D ∧ agrK t s (D + 1) < D ∧ extR m t n s = ⟨0, 5⟩) ∨
        (2 ≤ D ∧ D ≤ agrK t s (D + 1) ∧ extR m t n s = ⟨facTo m (laz D) (fun i => (atT s i (D - i) - atT t i (D - i)) % m) (D + 1) m.toNat, 0⟩ ∧
          0 ≤ facTo m (laz D) (fun i => (atT s i (D - i) - atT t i (D - i)) % m) (D + 1) m.toNat))) := by
  by_cases hc : twoL m t n s = 0
  · obtain ⟨h1, h2, rfl, hl⟩ := twoL_0 hc
    have hn := pla_n (lawB_t h1).1
    have hm := pla_m (lawB_t h1).1
    obtain ⟨D, hD⟩ : ∃ D, t.length = D + 1 := ⟨t.length - 1, by omega⟩
    have HT := law_P h1
    have HS := law_P h2
    rw [hD] at HT
    rw [hl, hD] at HS
    refine .inr ⟨hc, rfl, D, by omega, by omega, hm.1, hm.2, HT, HS, agr_0 h1 h2, ?_⟩
    unfold extR
    rw [if_pos hc, hD]
    by_cases e1 : D = 1
    · exact .inl ⟨e1, by rw [if_pos (by omega)]⟩
    · rw [if_neg (by omega)]
      by_cases e2 : agrK t s (D + 1) < D
      · exact .inr (.inl ⟨by omega, e2, by rw [if_pos (by omega)]⟩)
      · have LF : Lw n (D + 1) (atT t) := lw_of (by omega) HT (by have := (lawB_t h1).2; rwa [hD] at this)
        have LG : Lw n (D + 1) (atT s) := lw_of (by omega) HS (by have := (lawB_t h2).2; rwa [hl, hD] at this)
        refine .inr (.inr ⟨by omega, by omega, by rw [if_neg (by omega)]; rfl, gap_ex hm.1 (by omega) (by omega) LF LG (agrK_eqv (n := D + 1) (by omega))⟩)
  · exact .inl ⟨hc, by unfold extR; rw [if_neg hc]⟩

set_option maxHeartbeats 2000000 in
set_option maxRecDepth 100000 in
theorem ExtensionFactor_c (m : Int) (v : Value) (t : List (List Int)) (n : Int) (u : Value) (s : List (List Int)) (w : World) (hv : RdT w v t) (hu : RdT w u s) :
    Calls Try.prog 19 #[.agg #[.int .i64 m, v], .agg #[.int .i64 n, u]] w fun e w' => IEnd w w' (extR m t n s) e := by
  obtain ⟨o, c, rfl, -, -⟩ := id hv
  obtain ⟨o', c', rfl, -, -⟩ := id hu
  rcases extR_ways m t n s with ⟨hc, hR⟩ | ⟨hc, rfl, D, hD1, hD, hm, hm', HT, HS, hZ, hW⟩
  · have HR := Lib.hid hR
    obtain ⟨cc, hcc0⟩ : ∃ cc, twoL m t n s = cc := ⟨_, rfl⟩
    rw [hcc0] at hc HR
    have HC := Lib.hid hcc0
    clear hcc0 hR
    have hcc : (cc != 0) = true := by simpa using hc
    clear hc
    go_enter Try.func19, Try.ntmps19
    go_wp2_with fail
    (have X0 := ((RB2.mk1 w  (.int .i64 m) (.slice o t.length c) 24).1).below (w' := ((w.alloc (.cells #[.int .i64 m, .slice o t.length c] 24)).alloc (.cells #[.int .i64 n, .slice o' s.length c'] 24))) (by (repeat (first | exact Below.refl _ _ | (refine Below.setCell ?_ (by first | (simp; done) | (simp; omega) | omega) _) | (refine Below.alloc ?_ (by first | (simp; done) | (simp; omega) | omega) _) | (refine below_drewN ?_ _) | (refine Below.drew ?_)))) (Nat.le_refl _); have Y0 := ((RB2.mk2 w (.cells #[.int .i64 m, .slice o t.length c] 24) (.int .i64 n) (.slice o' s.length c') 24).1).below (w' := ((w.alloc (.cells #[.int .i64 m, .slice o t.length c] 24)).alloc (.cells #[.int .i64 n, .slice o' s.length c'] 24))) (by (repeat (first | exact Below.refl _ _ | (refine Below.setCell ?_ (by first | (simp; done) | (simp; omega) | omega) _) | (refine Below.alloc ?_ (by first | (simp; done) | (simp; omega) | omega) _) | (refine below_drewN ?_ _) | (refine Below.drew ?_)))) (Nat.le_refl _); have B0 : Below w.heap.size w ((w.alloc (.cells #[.int .i64 m, .slice o t.length c] 24)).alloc (.cells #[.int .i64 n, .slice o' s.length c'] 24)) := (by (repeat (first | exact Below.refl _ _ | (refine Below.setCell ?_ (by first | (simp; done) | (simp; omega) | omega) _) | (refine Below.alloc ?_ (by first | (simp; done) | (simp; omega) | omega) _) | (refine below_drewN ?_ _) | (refine Below.drew ?_)))); have hv0 := hv.below (w' := ((w.alloc (.cells #[.int .i64 m, .slice o t.length c] 24)).alloc (.cells #[.int .i64 n, .slice o' s.length c'] 24))) (by (repeat (first | exact Below.refl _ _ | (refine Below.setCell ?_ (by first | (simp; done) | (simp; omega) | omega) _) | (refine Below.alloc ?_ (by first | (simp; done) | (simp; omega) | omega) _) | (refine below_drewN ?_ _) | (refine Below.drew ?_)))) (Nat.le_refl _); have hu0 := hu.below (w' := ((w.alloc (.cells #[.int .i64 m, .slice o t.length c] 24)).alloc (.cells #[.int .i64 n, .slice o' s.length c'] 24))) (by (repeat (first | exact Below.refl _ _ | (refine Below.setCell ?_ (by first | (simp; done) | (simp; omega) | omega) _) | (refine Below.alloc ?_ (by first | (simp; done) | (simp; omega) | omega) _) | (refine below_drewN ?_ _) | (refine Below.drew ?_)))) (Nat.le_refl _); generalize (w.alloc (.cells #[.int .i64 m, .slice o t.length c] 24)).alloc (.cells #[.int .i64 n, .slice o' s.length c'] 24) = w0 at X0 Y0 B0 hv0 hu0 ⊢)
    (obtain ⟨gqX0, gqX1⟩ := id X0; obtain ⟨gqY0, gqY1⟩ := id Y0; go_wp2_with fail; refine (bothLaws_c m n _ _ t s _ hv0 hu0).mono ?_; rw [HC.out]; rintro e w1 ⟨rfl, hb⟩; (have X1 := X0.below hb (Nat.le_refl _); have Y1 := Y0.below hb (Nat.le_refl _); have hv1 := hv0.below hb (Nat.le_refl _); have hu1 := hu0.below hb (Nat.le_refl _); have B1 := B0.trans (hb.mono B0.size)); clear gqX0 gqX1 gqY0 gqY1; clear hb)
    go_wp2
    go_ret2
    rw [HR.out]
    exact ⟨rfl, B1⟩
  · have HC := Lib.hid hc
    have hcc : ((0 : Int) != 0) = false := by simp
    have hv' : RdT w (.slice o (D + 1) c) t := by rw [HT.1] at hv; exact hv
    have hu' : RdT w (.slice o' (D + 1) c') s := by rw [HS.1] at hu; exact hu
    rw [HT.1, HS.1]
    have hml : D + 1 ≤ maxLen := by unfold maxLen; omega
    have HTh := Lib.hid HT
    have HSh := Lib.hid HS
    have HZ := Lib.hid hZ
    clear hc hv hu HT HS hZ
    rcases hW with ⟨rfl, hR⟩ | ⟨h2, hK, hR⟩ | ⟨h2, hK, hR, hpos⟩
    · have HR := Lib.hid hR
      clear hR
      go_enter Try.func19, Try.ntmps19
      go_wp2_with fail
      (have X0 := ((RB2.mk1 w  (.int .i64 n) (.slice o (1 + 1) c) 24).1).below (w' := ((w.alloc (.cells #[.int .i64 n, .slice o (1 + 1) c] 24)).alloc (.cells #[.int .i64 n, .slice o' (1 + 1) c'] 24))) (by (repeat (first | exact Below.refl _ _ | (refine Below.setCell ?_ (by first | (simp; done) | (simp; omega) | omega) _) | (refine Below.alloc ?_ (by first | (simp; done) | (simp; omega) | omega) _) | (refine below_drewN ?_ _) | (refine Below.drew ?_)))) (Nat.le_refl _); have Y0 := ((RB2.mk2 w (.cells #[.int .i64 n, .slice o (1 + 1) c] 24) (.int .i64 n) (.slice o' (1 + 1) c') 24).1).below (w' := ((w.alloc (.cells #[.int .i64 n, .slice o (1 + 1) c] 24)).alloc (.cells #[.int .i64 n, .slice o' (1 + 1) c'] 24))) (by (repeat (first | exact Below.refl _ _ | (refine Below.setCell ?_ (by first | (simp; done) | (simp; omega) | omega) _) | (refine Below.alloc ?_ (by first | (simp; done) | (simp; omega) | omega) _) | (refine below_drewN ?_ _) | (refine Below.drew ?_)))) (Nat.le_refl _); have B0 : Below w.heap.size w ((w.alloc (.cells #[.int .i64 n, .slice o (1 + 1) c] 24)).alloc (.cells #[.int .i64 n, .slice o' (1 + 1) c'] 24)) := (by (repeat (first | exact Below.refl _ _ | (refine Below.setCell ?_ (by first | (simp; done) | (simp; omega) | omega) _) | (refine Below.alloc ?_ (by first | (simp; done) | (simp; omega) | omega) _) | (refine below_drewN ?_ _) | (refine Below.drew ?_)))); have hv'0 := hv'.below (w' := ((w.alloc (.cells #[.int .i64 n, .slice o (1 + 1) c] 24)).alloc (.cells #[.int .i64 n, .slice o' (1 + 1) c'] 24))) (by (repeat (first | exact Below.refl _ _ | (refine Below.setCell ?_ (by first | (simp; done) | (simp; omega) | omega) _) | (refine Below.alloc ?_ (by first | (simp; done) | (simp; omega) | omega) _) | (refine below_drewN ?_ _) | (refine Below.drew ?_)))) (Nat.le_refl _); have hu'0 := hu'.below (w' := ((w.alloc (.cells #[.int .i64 n, .slice o (1 + 1) c] 24)).alloc (.cells #[.int .i64 n, .slice o' (1 + 1) c'] 24))) (by (repeat (first | exact Below.refl _ _ | (refine Below.setCell ?_ (by first | (simp; done) | (simp; omega) | omega) _) | (refine Below.alloc ?_ (by first | (simp; done) | (simp; omega) | omega) _) | (refine below_drewN ?_ _) | (refine Below.drew ?_)))) (Nat.le_refl _); generalize (w.alloc (.cells #[.int .i64 n, .slice o (1 + 1) c] 24)).alloc (.cells #[.int .i64 n, .slice o' (1 + 1) c'] 24) = w0 at X0 Y0 B0 hv'0 hu'0 ⊢)
      (obtain ⟨gqX0, gqX1⟩ := id X0; obtain ⟨gqY0, gqY1⟩ := id Y0; go_wp2_with fail; refine (bothLaws_c n n _ _ t s _ hv'0 hu'0).mono ?_; rw [HC.out]; rintro e w1 ⟨rfl, hb⟩; (have X1 := X0.below hb (Nat.le_refl _); have Y1 := Y0.below hb (Nat.le_refl _); have hv'1 := hv'0.below hb (Nat.le_refl _); have hu'1 := hu'0.below hb (Nat.le_refl _); have B1 := B0.trans (hb.mono B0.size)); clear gqX0 gqX1 gqY0 gqY1; clear hb)
      obtain ⟨x0, x1⟩ := id X1
      go_wp2_with fail
      refine (degreeP_c n o (1 + 1) c _ hml).mono ?_
      rintro e w2 ⟨rfl, hb⟩
      (have X2 := X1.below hb (Nat.le_refl _); have B2 := B1.trans (hb.mono B1.size))
      go_wp2
      go_ret2
      rw [HR.out]
      exact ⟨rfl, B2⟩
    · have HR := Lib.hid hR
      clear hR
      have hd0 : ((D : Int) == 1) = false := by simp; omega
      have hd1 : ¬ (D : Int) = 1 := by omega
      have hd2 : ¬ D = 1 := by omega
      have k1 : (agrK t s (D + 1) : Int) - 1 < (D : Int) - 1 := by omega
      have k2 : (agrK t s (D + 1) : Int) < (D : Int) := by omega
      generalize hKe : agrK t s (D + 1) = K at k1 k2 hK
      have HK := Lib.hid hKe
      have hKl : K ≤ D + 1 := by rw [← hKe]; exact agrK_le _ _ _
      clear hKe
      have e1 : IntKind.i64.wrap ((D : Int) - 1) = (D : Int) - 1 := IntWalk.i64_in _ (by omega)
      go_enter Try.func19, Try.ntmps19
      go_wp2_with fail
      (have X0 := ((RB2.mk1 w  (.int .i64 n) (.slice o (D + 1) c) 24).1).below (w' := ((w.alloc (.cells #[.int .i64 n, .slice o (D + 1) c] 24)).alloc (.cells #[.int .i64 n, .slice o' (D + 1) c'] 24))) (by (repeat (first | exact Below.refl _ _ | (refine Below.setCell ?_ (by first | (simp; done) | (simp; omega) | omega) _) | (refine Below.alloc ?_ (by first | (simp; done) | (simp; omega) | omega) _) | (refine below_drewN ?_ _) | (refine Below.drew ?_)))) (Nat.le_refl _); have Y0 := ((RB2.mk2 w (.cells #[.int .i64 n, .slice o (D + 1) c] 24) (.int .i64 n) (.slice o' (D + 1) c') 24).1).below (w' := ((w.alloc (.cells #[.int .i64 n, .slice o (D + 1) c] 24)).alloc (.cells #[.int .i64 n, .slice o' (D + 1) c'] 24))) (by (repeat (first | exact Below.refl _ _ | (refine Below.setCell ?_ (by first | (simp; done) | (simp; omega) | omega) _) | (refine Below.alloc ?_ (by first | (simp; done) | (simp; omega) | omega) _) | (refine below_drewN ?_ _) | (refine Below.drew ?_)))) (Nat.le_refl _); have B0 : Below w.heap.size w ((w.alloc (.cells #[.int .i64 n, .slice o (D + 1) c] 24)).alloc (.cells #[.int .i64 n, .slice o' (D + 1) c'] 24)) := (by (repeat (first | exact Below.refl _ _ | (refine Below.setCell ?_ (by first | (simp; done) | (simp; omega) | omega) _) | (refine Below.alloc ?_ (by first | (simp; done) | (simp; omega) | omega) _) | (refine below_drewN ?_ _) | (refine Below.drew ?_)))); have hv'0 := hv'.below (w' := ((w.alloc (.cells #[.int .i64 n, .slice o (D + 1) c] 24)).alloc (.cells #[.int .i64 n, .slice o' (D + 1) c'] 24))) (by (repeat (first | exact Below.refl _ _ | (refine Below.setCell ?_ (by first | (simp; done) | (simp; omega) | omega) _) | (refine Below.alloc ?_ (by first | (simp; done) | (simp; omega) | omega) _) | (refine below_drewN ?_ _) | (refine Below.drew ?_)))) (Nat.le_refl _); have hu'0 := hu'.below (w' := ((w.alloc (.cells #[.int .i64 n, .slice o (D + 1) c] 24)).alloc (.cells #[.int .i64 n, .slice o' (D + 1) c'] 24))) (by (repeat (first | exact Below.refl _ _ | (refine Below.setCell ?_ (by first | (simp; done) | (simp; omega) | omega) _) | (refine Below.alloc ?_ (by first | (simp; done) | (simp; omega) | omega) _) | (refine below_drewN ?_ _) | (refine Below.drew ?_)))) (Nat.le_refl _); generalize (w.alloc (.cells #[.int .i64 n, .slice o (D + 1) c] 24)).alloc (.cells #[.int .i64 n, .slice o' (D + 1) c'] 24) = w0 at X0 Y0 B0 hv'0 hu'0 ⊢)
      (obtain ⟨gqX0, gqX1⟩ := id X0; obtain ⟨gqY0, gqY1⟩ := id Y0; go_wp2_with fail; refine (bothLaws_c n n _ _ t s _ hv'0 hu'0).mono ?_; rw [HC.out]; rintro e w1 ⟨rfl, hb⟩; (have X1 := X0.below hb (Nat.le_refl _); have Y1 := Y0.below hb (Nat.le_refl _); have hv'1 := hv'0.below hb (Nat.le_refl _); have hu'1 := hu'0.below hb (Nat.le_refl _); have B1 := B0.trans (hb.mono B0.size)); clear gqX0 gqX1 gqY0 gqY1; clear hb)
      obtain ⟨x0, x1⟩ := id X1
      go_wp2_with fail
      refine (degreeP_c n o (D + 1) c _ hml).mono ?_
      rintro e w2 ⟨rfl, hb⟩
      (have X2 := X1.below hb (Nat.le_refl _); have Y2 := Y1.below hb (Nat.le_refl _); have hv'2 := hv'1.below hb (Nat.le_refl _); have hu'2 := hu'1.below hb (Nat.le_refl _); have B2 := B1.trans (hb.mono B1.size))
      clear x0 x1
      obtain ⟨x0, x1⟩ := id X2
      obtain ⟨y0, y1⟩ := id Y2
      go_wp2_with fail
      have hd0 : Below w2.heap.size w2 w2.drew := (Below.refl _ _).drew
      have hsd0 := hd0.size
      have f0_a := keep_cell hd0 (Nat.le_refl _) x0
      have f0_b := keep_cell hd0 (Nat.le_refl _) x1
      have f0_c := keep_cell hd0 (Nat.le_refl _) y0
      have f0_d := keep_cell hd0 (Nat.le_refl _) y1
      refine wp_region_K (S := fun w' => w'.cell? ⟨w.heap.size, 0, none⟩ = some (.int .i64 n) ∧ w'.cell? ⟨w.heap.size, 1, none⟩ = some (.slice o (D + 1) c) ∧ w'.cell? ⟨w.heap.size + 1, 0, none⟩ = some (.int .i64 n) ∧ w'.cell? ⟨w.heap.size + 1, 1, none⟩ = some (.slice o' (D + 1) c')) [] (by kernel_rfl) ?_
      have hHeld : (fun w' : World => w'.cell? ⟨w.heap.size, 0, none⟩ = some (.int .i64 n) ∧ w'.cell? ⟨w.heap.size, 1, none⟩ = some (.slice o (D + 1) c) ∧ w'.cell? ⟨w.heap.size + 1, 0, none⟩ = some (.int .i64 n) ∧ w'.cell? ⟨w.heap.size + 1, 1, none⟩ = some (.slice o' (D + 1) c')) w2.drew := by go_keep
      refine' wpAnyK_takeL (i := 0) (v := _) rfl (by kernel_rfl) (by kernel_rfl) (by kernel_rfl) (by kernel_rfl) (fun _ _ _ h => h) (Or.inl ⟨by rfl, ?yT1⟩) hHeld ?rT1
      case yT1 => (intro w' hSw; (try dsimp only at hSw); go_simp; try with_reducible rfl)
      try simp only [List.getElem_toArray, List.getElem_cons_zero, List.getElem_cons_succ, Act.put, List.setIfInBounds_toArray, List.set_cons_zero, List.set_cons_succ]
      refine' wpAnyK_takeL (i := 1) (v := _) rfl (by kernel_rfl) (by kernel_rfl) (by kernel_rfl) (by kernel_rfl) (fun _ _ _ h => h) (Or.inl ⟨by rfl, ?yT2⟩) hHeld ?rT2
      case yT2 => (intro w' hSw; (try dsimp only at hSw); go_simp; try with_reducible rfl)
      try simp only [List.getElem_toArray, List.getElem_cons_zero, List.getElem_cons_succ, Act.put, List.setIfInBounds_toArray, List.set_cons_zero, List.set_cons_succ]
      refine' wpAnyK_takeL (i := 3) (v := _) rfl (by kernel_rfl) (by kernel_rfl) (by kernel_rfl) (by kernel_rfl) (fun _ _ _ h => h) (Or.inl ⟨by rfl, ?yT3⟩) hHeld ?rT3
      case yT3 => (intro w' hSw; (try dsimp only at hSw); go_simp; try with_reducible rfl)
      try simp only [List.getElem_toArray, List.getElem_cons_zero, List.getElem_cons_succ, Act.put, List.setIfInBounds_toArray, List.set_cons_zero, List.set_cons_succ]
      refine wpAnyK_oneL (i := 2) rfl (by kernel_rfl) (fun K hK => ?_)
      go_simp
      go_at_call 41
      refine (agreement_c n n n (D + 1) _ _ t s _ ((hv'2).below (by (repeat (first | exact Below.refl _ _ | (refine Below.setCell ?_ (by first | (simp; done) | (simp; omega) | omega) _) | (refine Below.alloc ?_ (by first | (simp; done) | (simp; omega) | omega) _) | (refine below_drewN ?_ _) | (refine Below.drew ?_)))) (Nat.le_refl _)) ((hu'2).below (by (repeat (first | exact Below.refl _ _ | (refine Below.setCell ?_ (by first | (simp; done) | (simp; omega) | omega) _) | (refine Below.alloc ?_ (by first | (simp; done) | (simp; omega) | omega) _) | (refine below_drewN ?_ _) | (refine Below.drew ?_)))) (Nat.le_refl _)) (by omega) (by omega) HTh.out HSh.out HZ.out).mono ?_
      rintro e wd1 ⟨rfl, hbd1⟩
      rw [HK.out]
      have hd1 : Below w2.heap.size w2 wd1 := (by (repeat (first | exact Below.refl _ _ | (refine Below.setCell ?_ (by first | (simp; done) | (simp; omega) | omega) _) | (refine Below.alloc ?_ (by first | (simp; done) | (simp; omega) | omega) _) | (refine below_drewN ?_ _) | (refine Below.drew ?_) | (refine Below.trans ?_ (Below.mono hbd1 (by first | (simp; done) | (simp; omega) | omega))))))
      have hsd1 := hd1.size
      have hsz1_ := hbd1.size
      (try simp at hsz1_)
      have f1_a := keep_cell hd1 (Nat.le_refl _) x0
      have f1_b := keep_cell hd1 (Nat.le_refl _) x1
      have f1_c := keep_cell hd1 (Nat.le_refl _) y0
      have f1_d := keep_cell hd1 (Nat.le_refl _) y1
      go_wp2_with fail
      clear hHeld
      have hHeld : (fun w' : World => w'.cell? ⟨w.heap.size, 0, none⟩ = some (.int .i64 n) ∧ w'.cell? ⟨w.heap.size, 1, none⟩ = some (.slice o (D + 1) c) ∧ w'.cell? ⟨w.heap.size + 1, 0, none⟩ = some (.int .i64 n) ∧ w'.cell? ⟨w.heap.size + 1, 1, none⟩ = some (.slice o' (D + 1) c')) wd1 := by go_keep
      refine hK.out _ _ (fun _ => hHeld) ?_
      clear hK K
      try simp only [List.getElem_toArray, List.getElem_cons_zero, List.getElem_cons_succ, Act.put, List.setIfInBounds_toArray, List.set_cons_zero, List.set_cons_succ]
      refine wpAnyK_oneL (i := 4) rfl (by kernel_rfl) (fun K hK => ?_)
      go_simp
      go_at_call 40
      refine (degreeP_c n o (D + 1) c _ hml).mono ?_
      rintro e wd2 ⟨rfl, hbd2⟩
      have hd2 : Below w2.heap.size w2 wd2 := (by (repeat (first | exact Below.refl _ _ | (refine Below.setCell ?_ (by first | (simp; done) | (simp; omega) | omega) _) | (refine Below.alloc ?_ (by first | (simp; done) | (simp; omega) | omega) _) | (refine below_drewN ?_ _) | (refine Below.drew ?_) | (refine Below.trans ?_ (Below.mono hbd1 (by first | (simp; done) | (simp; omega) | omega))) | (refine Below.trans ?_ (Below.mono hbd2 (by first | (simp; done) | (simp; omega) | omega))))))
      have hsd2 := hd2.size
      have hsz2_ := hbd2.size
      (try simp at hsz2_)
      have f2_a := keep_cell hd2 (Nat.le_refl _) x0
      have f2_b := keep_cell hd2 (Nat.le_refl _) x1
      have f2_c := keep_cell hd2 (Nat.le_refl _) y0
      have f2_d := keep_cell hd2 (Nat.le_refl _) y1
      go_wp2_with fail
      clear hHeld
      have hHeld : (fun w' : World => w'.cell? ⟨w.heap.size, 0, none⟩ = some (.int .i64 n) ∧ w'.cell? ⟨w.heap.size, 1, none⟩ = some (.slice o (D + 1) c) ∧ w'.cell? ⟨w.heap.size + 1, 0, none⟩ = some (.int .i64 n) ∧ w'.cell? ⟨w.heap.size + 1, 1, none⟩ = some (.slice o' (D + 1) c')) wd2 := by go_keep
      refine hK.out _ _ (fun _ => hHeld) ?_
      clear hK K
      try simp only [List.getElem_toArray, List.getElem_cons_zero, List.getElem_cons_succ, Act.put, List.setIfInBounds_toArray, List.set_cons_zero, List.set_cons_succ]
      refine' wpAnyK_takeL (i := 5) (v := _) rfl (by kernel_rfl) (by kernel_rfl) (by kernel_rfl) (by kernel_rfl) (fun _ _ _ h => h) (Or.inl ⟨by rfl, ?yT4⟩) hHeld ?rT4
      case yT4 => (intro w' hSw; (try dsimp only at hSw); go_simp; try with_reducible rfl)
      try simp only [List.getElem_toArray, List.getElem_cons_zero, List.getElem_cons_succ, Act.put, List.setIfInBounds_toArray, List.set_cons_zero, List.set_cons_succ]
      refine' wpAnyK_takeL (i := 6) (v := _) rfl (by kernel_rfl) (by kernel_rfl) (by kernel_rfl) (by kernel_rfl) (fun _ _ _ h => h) (Or.inl ⟨by rfl, ?yT5⟩) hHeld ?rT5
      case yT5 => (intro w' hSw; (try dsimp only at hSw); go_simp; try with_reducible rfl)
      try simp only [List.getElem_toArray, List.getElem_cons_zero, List.getElem_cons_succ, Act.put, List.setIfInBounds_toArray, List.set_cons_zero, List.set_cons_succ]
      refine' wpAnyK_takeL (i := 7) (v := _) rfl (by kernel_rfl) (by kernel_rfl) (by kernel_rfl) (by kernel_rfl) (fun _ _ _ h => h) (Or.inl ⟨by rfl, ?yT6⟩) hHeld ?rT6
      case yT6 => (intro w' hSw; (try dsimp only at hSw); go_simp; try with_reducible rfl)
      try simp only [List.getElem_toArray, List.getElem_cons_zero, List.getElem_cons_succ, Act.put, List.setIfInBounds_toArray, List.set_cons_zero, List.set_cons_succ]
      refine wpAnyK_done (by kernel_rfl) ?_ _
      go_wp2_with fail
      have B9 := B2.trans (hd2.mono B2.size)
      go_wp2
      go_ret2
      rw [HR.out]
      exact ⟨rfl, B9⟩
    · have HR := Lib.hid hR
      clear hR
      have hd0 : ((D : Int) == 1) = false := by simp; omega
      have hd1 : ¬ (D : Int) = 1 := by omega
      have hd2 : ¬ D = 1 := by omega
      have k1 : ¬ (agrK t s (D + 1) : Int) - 1 < (D : Int) - 1 := by omega
      have k2 : ¬ (agrK t s (D + 1) : Int) < (D : Int) := by omega
      have HF := Lib.hid (show facP n (laz D) (at0 (topL D (subT n (D + 1) s t) (D + 1))) (D + 1) = facTo n (laz D) (fun i => (atT s i (D - i) - atT t i (D - i)) % n) (D + 1) n.toNat by
        rw [facP_congr (d' := fun i => (atT s i (D - i) - atT t i (D - i)) % n) (fun i hi => by
          unfold topL
          rw [mk_at hi]
          unfold subT
          rw [atT_tri (by omega)])]
        exact facP_eq hpos)
      have HTr := Lib.hid (show ∀ x ∈ topL D (subT n (D + 1) s t) (D + 1), 0 ≤ x ∧ x < n from fun x hx => by
        unfold topL at hx
        simp only [mk, List.mem_map, List.mem_range] at hx
        obtain ⟨i, hi, rfl⟩ := hx
        exact tab_range (show PlaT n (D + 1) (subT n (D + 1) s t) from tri_ok fun _ _ _ => mod_lt' (by omega)) (by omega))
      have HSP := Lib.hid (show PlaT n (D + 1) (subT n (D + 1) s t) from tri_ok fun _ _ _ => mod_lt' (by omega))
      generalize hKe : agrK t s (D + 1) = K at k1 k2 hK
      have HK := Lib.hid hKe
      have hKl : K ≤ D + 1 := by rw [← hKe]; exact agrK_le _ _ _
      clear hKe
      have e1 : IntKind.i64.wrap ((D : Int) - 1) = (D : Int) - 1 := IntWalk.i64_in _ (by omega)
      go_enter Try.func19, Try.ntmps19
      go_wp2_with fail
      (have X0 := ((RB2.mk1 w  (.int .i64 n) (.slice o (D + 1) c) 24).1).below (w' := ((w.alloc (.cells #[.int .i64 n, .slice o (D + 1) c] 24)).alloc (.cells #[.int .i64 n, .slice o' (D + 1) c'] 24))) (by (repeat (first | exact Below.refl _ _ | (refine Below.setCell ?_ (by first | (simp; done) | (simp; omega) | omega) _) | (refine Below.alloc ?_ (by first | (simp; done) | (simp; omega) | omega) _) | (refine below_drewN ?_ _) | (refine Below.drew ?_)))) (Nat.le_refl _); have Y0 := ((RB2.mk2 w (.cells #[.int .i64 n, .slice o (D + 1) c] 24) (.int .i64 n) (.slice o' (D + 1) c') 24).1).below (w' := ((w.alloc (.cells #[.int .i64 n, .slice o (D + 1) c] 24)).alloc (.cells #[.int .i64 n, .slice o' (D + 1) c'] 24))) (by (repeat (first | exact Below.refl _ _ | (refine Below.setCell ?_ (by first | (simp; done) | (simp; omega) | omega) _) | (refine Below.alloc ?_ (by first | (simp; done) | (simp; omega) | omega) _) | (refine below_drewN ?_ _) | (refine Below.drew ?_)))) (Nat.le_refl _); have B0 : Below w.heap.size w ((w.alloc (.cells #[.int .i64 n, .slice o (D + 1) c] 24)).alloc (.cells #[.int .i64 n, .slice o' (D + 1) c'] 24)) := (by (repeat (first | exact Below.refl _ _ | (refine Below.setCell ?_ (by first | (simp; done) | (simp; omega) | omega) _) | (refine Below.alloc ?_ (by first | (simp; done) | (simp; omega) | omega) _) | (refine below_drewN ?_ _) | (refine Below.drew ?_)))); have hv'0 := hv'.below (w' := ((w.alloc (.cells #[.int .i64 n, .slice o (D + 1) c] 24)).alloc (.cells #[.int .i64 n, .slice o' (D + 1) c'] 24))) (by (repeat (first | exact Below.refl _ _ | (refine Below.setCell ?_ (by first | (simp; done) | (simp; omega) | omega) _) | (refine Below.alloc ?_ (by first | (simp; done) | (simp; omega) | omega) _) | (refine below_drewN ?_ _) | (refine Below.drew ?_)))) (Nat.le_refl _); have hu'0 := hu'.below (w' := ((w.alloc (.cells #[.int .i64 n, .slice o (D + 1) c] 24)).alloc (.cells #[.int .i64 n, .slice o' (D + 1) c'] 24))) (by (repeat (first | exact Below.refl _ _ | (refine Below.setCell ?_ (by first | (simp; done) | (simp; omega) | omega) _) | (refine Below.alloc ?_ (by first | (simp; done) | (simp; omega) | omega) _) | (refine below_drewN ?_ _) | (refine Below.drew ?_)))) (Nat.le_refl _); generalize (w.alloc (.cells #[.int .i64 n, .slice o (D + 1) c] 24)).alloc (.cells #[.int .i64 n, .slice o' (D + 1) c'] 24) = w0 at X0 Y0 B0 hv'0 hu'0 ⊢)
      (obtain ⟨gqX0, gqX1⟩ := id X0; obtain ⟨gqY0, gqY1⟩ := id Y0; go_wp2_with fail; refine (bothLaws_c n n _ _ t s _ hv'0 hu'0).mono ?_; rw [HC.out]; rintro e w1 ⟨rfl, hb⟩; (have X1 := X0.below hb (Nat.le_refl _); have Y1 := Y0.below hb (Nat.le_refl _); have hv'1 := hv'0.below hb (Nat.le_refl _); have hu'1 := hu'0.below hb (Nat.le_refl _); have B1 := B0.trans (hb.mono B0.size)); clear gqX0 gqX1 gqY0 gqY1; clear hb)
      obtain ⟨x0, x1⟩ := id X1
      go_wp2_with fail
      refine (degreeP_c n o (D + 1) c _ hml).mono ?_
      rintro e w2 ⟨rfl, hb⟩
      (have X2 := X1.below hb (Nat.le_refl _); have Y2 := Y1.below hb (Nat.le_refl _); have hv'2 := hv'1.below hb (Nat.le_refl _); have hu'2 := hu'1.below hb (Nat.le_refl _); have B2 := B1.trans (hb.mono B1.size))
      clear x0 x1
      obtain ⟨x0, x1⟩ := id X2
      obtain ⟨y0, y1⟩ := id Y2
      go_wp2_with fail
      have hd0 : Below w2.heap.size w2 w2.drew := (Below.refl _ _).drew
      have hsd0 := hd0.size
      have f0_a := keep_cell hd0 (Nat.le_refl _) x0
      have f0_b := keep_cell hd0 (Nat.le_refl _) x1
      have f0_c := keep_cell hd0 (Nat.le_refl _) y0
      have f0_d := keep_cell hd0 (Nat.le_refl _) y1
      refine wp_region_K (S := fun w' => w'.cell? ⟨w.heap.size, 0, none⟩ = some (.int .i64 n) ∧ w'.cell? ⟨w.heap.size, 1, none⟩ = some (.slice o (D + 1) c) ∧ w'.cell? ⟨w.heap.size + 1, 0, none⟩ = some (.int .i64 n) ∧ w'.cell? ⟨w.heap.size + 1, 1, none⟩ = some (.slice o' (D + 1) c')) [] (by kernel_rfl) ?_
      have hHeld : (fun w' : World => w'.cell? ⟨w.heap.size, 0, none⟩ = some (.int .i64 n) ∧ w'.cell? ⟨w.heap.size, 1, none⟩ = some (.slice o (D + 1) c) ∧ w'.cell? ⟨w.heap.size + 1, 0, none⟩ = some (.int .i64 n) ∧ w'.cell? ⟨w.heap.size + 1, 1, none⟩ = some (.slice o' (D + 1) c')) w2.drew := by go_keep
      refine' wpAnyK_takeL (i := 0) (v := _) rfl (by kernel_rfl) (by kernel_rfl) (by kernel_rfl) (by kernel_rfl) (fun _ _ _ h => h) (Or.inl ⟨by rfl, ?yT7⟩) hHeld ?rT7
      case yT7 => (intro w' hSw; (try dsimp only at hSw); go_simp; try with_reducible rfl)
      try simp only [List.getElem_toArray, List.getElem_cons_zero, List.getElem_cons_succ, Act.put, List.setIfInBounds_toArray, List.set_cons_zero, List.set_cons_succ]
      refine' wpAnyK_takeL (i := 1) (v := _) rfl (by kernel_rfl) (by kernel_rfl) (by kernel_rfl) (by kernel_rfl) (fun _ _ _ h => h) (Or.inl ⟨by rfl, ?yT8⟩) hHeld ?rT8
      case yT8 => (intro w' hSw; (try dsimp only at hSw); go_simp; try with_reducible rfl)
      try simp only [List.getElem_toArray, List.getElem_cons_zero, List.getElem_cons_succ, Act.put, List.setIfInBounds_toArray, List.set_cons_zero, List.set_cons_succ]
      refine' wpAnyK_takeL (i := 3) (v := _) rfl (by kernel_rfl) (by kernel_rfl) (by kernel_rfl) (by kernel_rfl) (fun _ _ _ h => h) (Or.inl ⟨by rfl, ?yT9⟩) hHeld ?rT9
      case yT9 => (intro w' hSw; (try dsimp only at hSw); go_simp; try with_reducible rfl)
      try simp only [List.getElem_toArray, List.getElem_cons_zero, List.getElem_cons_succ, Act.put, List.setIfInBounds_toArray, List.set_cons_zero, List.set_cons_succ]
      refine wpAnyK_oneL (i := 2) rfl (by kernel_rfl) (fun K hK => ?_)
      go_simp
      go_at_call 41
      refine (agreement_c n n n (D + 1) _ _ t s _ ((hv'2).below (by (repeat (first | exact Below.refl _ _ | (refine Below.setCell ?_ (by first | (simp; done) | (simp; omega) | omega) _) | (refine Below.alloc ?_ (by first | (simp; done) | (simp; omega) | omega) _) | (refine below_drewN ?_ _) | (refine Below.drew ?_)))) (Nat.le_refl _)) ((hu'2).below (by (repeat (first | exact Below.refl _ _ | (refine Below.setCell ?_ (by first | (simp; done) | (simp; omega) | omega) _) | (refine Below.alloc ?_ (by first | (simp; done) | (simp; omega) | omega) _) | (refine below_drewN ?_ _) | (refine Below.drew ?_)))) (Nat.le_refl _)) (by omega) (by omega) HTh.out HSh.out HZ.out).mono ?_
      rintro e wd1 ⟨rfl, hbd1⟩
      rw [HK.out]
      have hd1 : Below w2.heap.size w2 wd1 := (by (repeat (first | exact Below.refl _ _ | (refine Below.setCell ?_ (by first | (simp; done) | (simp; omega) | omega) _) | (refine Below.alloc ?_ (by first | (simp; done) | (simp; omega) | omega) _) | (refine below_drewN ?_ _) | (refine Below.drew ?_) | (refine Below.trans ?_ (Below.mono hbd1 (by first | (simp; done) | (simp; omega) | omega))))))
      have hsd1 := hd1.size
      have hsz1_ := hbd1.size
      (try simp at hsz1_)
      have f1_a := keep_cell hd1 (Nat.le_refl _) x0
      have f1_b := keep_cell hd1 (Nat.le_refl _) x1
      have f1_c := keep_cell hd1 (Nat.le_refl _) y0
      have f1_d := keep_cell hd1 (Nat.le_refl _) y1
      go_wp2_with fail
      clear hHeld
      have hHeld : (fun w' : World => w'.cell? ⟨w.heap.size, 0, none⟩ = some (.int .i64 n) ∧ w'.cell? ⟨w.heap.size, 1, none⟩ = some (.slice o (D + 1) c) ∧ w'.cell? ⟨w.heap.size + 1, 0, none⟩ = some (.int .i64 n) ∧ w'.cell? ⟨w.heap.size + 1, 1, none⟩ = some (.slice o' (D + 1) c')) wd1 := by go_keep
      refine hK.out _ _ (fun _ => hHeld) ?_
      clear hK K
      try simp only [List.getElem_toArray, List.getElem_cons_zero, List.getElem_cons_succ, Act.put, List.setIfInBounds_toArray, List.set_cons_zero, List.set_cons_succ]
      refine wpAnyK_oneL (i := 4) rfl (by kernel_rfl) (fun K hK => ?_)
      go_simp
      go_at_call 40
      refine (degreeP_c n o (D + 1) c _ hml).mono ?_
      rintro e wd2 ⟨rfl, hbd2⟩
      have hd2 : Below w2.heap.size w2 wd2 := (by (repeat (first | exact Below.refl _ _ | (refine Below.setCell ?_ (by first | (simp; done) | (simp; omega) | omega) _) | (refine Below.alloc ?_ (by first | (simp; done) | (simp; omega) | omega) _) | (refine below_drewN ?_ _) | (refine Below.drew ?_) | (refine Below.trans ?_ (Below.mono hbd1 (by first | (simp; done) | (simp; omega) | omega))) | (refine Below.trans ?_ (Below.mono hbd2 (by first | (simp; done) | (simp; omega) | omega))))))
      have hsd2 := hd2.size
      have hsz2_ := hbd2.size
      (try simp at hsz2_)
      have f2_a := keep_cell hd2 (Nat.le_refl _) x0
      have f2_b := keep_cell hd2 (Nat.le_refl _) x1
      have f2_c := keep_cell hd2 (Nat.le_refl _) y0
      have f2_d := keep_cell hd2 (Nat.le_refl _) y1
      go_wp2_with fail
      clear hHeld
      have hHeld : (fun w' : World => w'.cell? ⟨w.heap.size, 0, none⟩ = some (.int .i64 n) ∧ w'.cell? ⟨w.heap.size, 1, none⟩ = some (.slice o (D + 1) c) ∧ w'.cell? ⟨w.heap.size + 1, 0, none⟩ = some (.int .i64 n) ∧ w'.cell? ⟨w.heap.size + 1, 1, none⟩ = some (.slice o' (D + 1) c')) wd2 := by go_keep
      refine hK.out _ _ (fun _ => hHeld) ?_
      clear hK K
      try simp only [List.getElem_toArray, List.getElem_cons_zero, List.getElem_cons_succ, Act.put, List.setIfInBounds_toArray, List.set_cons_zero, List.set_cons_succ]
      refine' wpAnyK_takeL (i := 5) (v := _) rfl (by kernel_rfl) (by kernel_rfl) (by kernel_rfl) (by kernel_rfl) (fun _ _ _ h => h) (Or.inl ⟨by rfl, ?yT10⟩) hHeld ?rT10
      case yT10 => (intro w' hSw; (try dsimp only at hSw); go_simp; try with_reducible rfl)
      try simp only [List.getElem_toArray, List.getElem_cons_zero, List.getElem_cons_succ, Act.put, List.setIfInBounds_toArray, List.set_cons_zero, List.set_cons_succ]
      refine' wpAnyK_takeL (i := 6) (v := _) rfl (by kernel_rfl) (by kernel_rfl) (by kernel_rfl) (by kernel_rfl) (fun _ _ _ h => h) (Or.inl ⟨by rfl, ?yT11⟩) hHeld ?rT11
      case yT11 => (intro w' hSw; (try dsimp only at hSw); go_simp; try with_reducible rfl)
      try simp only [List.getElem_toArray, List.getElem_cons_zero, List.getElem_cons_succ, Act.put, List.setIfInBounds_toArray, List.set_cons_zero, List.set_cons_succ]
      refine' wpAnyK_takeL (i := 7) (v := _) rfl (by kernel_rfl) (by kernel_rfl) (by kernel_rfl) (by kernel_rfl) (fun _ _ _ h => h) (Or.inl ⟨by rfl, ?yT12⟩) hHeld ?rT12
      case yT12 => (intro w' hSw; (try dsimp only at hSw); go_simp; try with_reducible rfl)
      try simp only [List.getElem_toArray, List.getElem_cons_zero, List.getElem_cons_succ, Act.put, List.setIfInBounds_toArray, List.set_cons_zero, List.set_cons_succ]
      refine wpAnyK_done (by kernel_rfl) ?_ _
      go_wp2_with fail
      have X3 := X2.below hd2 (Nat.le_refl _)
      have Y3 := Y2.below hd2 (Nat.le_refl _)
      have hv'3 := hv'2.below hd2 (Nat.le_refl _)
      have hu'3 := hu'2.below hd2 (Nat.le_refl _)
      have B3 := B2.trans (hd2.mono B2.size)
      obtain ⟨w3, hw3⟩ : ∃ w3, w3 = wd2 := ⟨_, rfl⟩
      rw [← hw3] at X3 Y3 hv'3 hu'3 B3 ⊢
      clear x0 x1 y0 y1 hHeld hbd1 hbd2 hd0 hd1 hd2 hsd0 hsd1 hsd2 hsz1_ hsz2_ f0_a f1_a f2_a f0_b f1_b f2_b f0_c f1_c f2_c f0_d f1_d f2_d hw3
      obtain ⟨x0, x1⟩ := id X3
      obtain ⟨y0, y1⟩ := id Y3
      go_wp2_with fail
      have hd0 : Below w3.heap.size w3 w3.drew := (Below.refl _ _).drew
      have hsd0 := hd0.size
      have f0_a := keep_cell hd0 (Nat.le_refl _) x0
      have f0_b := keep_cell hd0 (Nat.le_refl _) x1
      have f0_c := keep_cell hd0 (Nat.le_refl _) y0
      have f0_d := keep_cell hd0 (Nat.le_refl _) y1
      refine wp_region_K (S := fun w' => w'.cell? ⟨w.heap.size, 0, none⟩ = some (.int .i64 n) ∧ w'.cell? ⟨w.heap.size, 1, none⟩ = some (.slice o (D + 1) c) ∧ w'.cell? ⟨w.heap.size + 1, 0, none⟩ = some (.int .i64 n) ∧ w'.cell? ⟨w.heap.size + 1, 1, none⟩ = some (.slice o' (D + 1) c')) [] (by kernel_rfl) ?_
      have hHeld : (fun w' : World => w'.cell? ⟨w.heap.size, 0, none⟩ = some (.int .i64 n) ∧ w'.cell? ⟨w.heap.size, 1, none⟩ = some (.slice o (D + 1) c) ∧ w'.cell? ⟨w.heap.size + 1, 0, none⟩ = some (.int .i64 n) ∧ w'.cell? ⟨w.heap.size + 1, 1, none⟩ = some (.slice o' (D + 1) c')) w3.drew := by go_keep
      refine' wpAnyK_takeL (i := 0) (v := _) rfl (by kernel_rfl) (by kernel_rfl) (by kernel_rfl) (by kernel_rfl) (fun _ _ _ h => h) (Or.inl ⟨by rfl, ?yT13⟩) hHeld ?rT13
      case yT13 => (intro w' hSw; (try dsimp only at hSw); go_simp; try with_reducible rfl)
      try simp only [List.getElem_toArray, List.getElem_cons_zero, List.getElem_cons_succ, Act.put, List.setIfInBounds_toArray, List.set_cons_zero, List.set_cons_succ]
      refine' wpAnyK_takeL (i := 1) (v := _) rfl (by kernel_rfl) (by kernel_rfl) (by kernel_rfl) (by kernel_rfl) (fun _ _ _ h => h) (Or.inl ⟨by rfl, ?yT14⟩) hHeld ?rT14
      case yT14 => (intro w' hSw; (try dsimp only at hSw); go_simp; try with_reducible rfl)
      try simp only [List.getElem_toArray, List.getElem_cons_zero, List.getElem_cons_succ, Act.put, List.setIfInBounds_toArray, List.set_cons_zero, List.set_cons_succ]
      refine' wpAnyK_takeL (i := 2) (v := _) rfl (by kernel_rfl) (by kernel_rfl) (by kernel_rfl) (by kernel_rfl) (fun _ _ _ h => h) (Or.inl ⟨by rfl, ?yT15⟩) hHeld ?rT15
      case yT15 => (intro w' hSw; (try dsimp only at hSw); go_simp; try with_reducible rfl)
      try simp only [List.getElem_toArray, List.getElem_cons_zero, List.getElem_cons_succ, Act.put, List.setIfInBounds_toArray, List.set_cons_zero, List.set_cons_succ]
      refine' wpAnyK_takeL (i := 3) (v := _) rfl (by kernel_rfl) (by kernel_rfl) (by kernel_rfl) (by kernel_rfl) (fun _ _ _ h => h) (Or.inl ⟨by rfl, ?yT16⟩) hHeld ?rT16
      case yT16 => (intro w' hSw; (try dsimp only at hSw); go_simp; try with_reducible rfl)
      try simp only [List.getElem_toArray, List.getElem_cons_zero, List.getElem_cons_succ, Act.put, List.setIfInBounds_toArray, List.set_cons_zero, List.set_cons_succ]
      refine wpAnyK_oneL (i := 4) rfl (by kernel_rfl) (fun K hK => ?_)
      go_simp
      go_at_call 43
      refine (minusP_c n n _ _ s t _ ((hu'3).below (by (repeat (first | exact Below.refl _ _ | (refine Below.setCell ?_ (by first | (simp; done) | (simp; omega) | omega) _) | (refine Below.alloc ?_ (by first | (simp; done) | (simp; omega) | omega) _) | (refine below_drewN ?_ _) | (refine Below.drew ?_)))) (Nat.le_refl _)) ((hv'3).below (by (repeat (first | exact Below.refl _ _ | (refine Below.setCell ?_ (by first | (simp; done) | (simp; omega) | omega) _) | (refine Below.alloc ?_ (by first | (simp; done) | (simp; omega) | omega) _) | (refine below_drewN ?_ _) | (refine Below.drew ?_)))) (Nat.le_refl _)) (by rw [HSh.out.1]; omega) (by rw [HSh.out.1]; omega) (by rw [HSh.out.1, HTh.out.1]) hm (by omega) HSh.out.2 HTh.out.2).mono ?_
      rintro e wd1 ⟨va1, rfl, hod1, hbd1⟩
      rw [show tri s.length (fun i j => (atT s i j - atT t i j) % n) = subT n (D + 1) s t by rw [HSh.out.1]; rfl] at hod1
      have hd1 : Below w3.heap.size w3 wd1 := (by (repeat (first | exact Below.refl _ _ | (refine Below.setCell ?_ (by first | (simp; done) | (simp; omega) | omega) _) | (refine Below.alloc ?_ (by first | (simp; done) | (simp; omega) | omega) _) | (refine below_drewN ?_ _) | (refine Below.drew ?_) | (refine Below.trans ?_ (Below.mono hbd1 (by first | (simp; done) | (simp; omega) | omega))))))
      have hsd1 := hd1.size
      have hsz1_ := hbd1.size
      (try simp at hsz1_)
      have f1_a := keep_cell hd1 (Nat.le_refl _) x0
      have f1_b := keep_cell hd1 (Nat.le_refl _) x1
      have f1_c := keep_cell hd1 (Nat.le_refl _) y0
      have f1_d := keep_cell hd1 (Nat.le_refl _) y1
      go_wp2_with fail
      clear hHeld
      have hHeld : (fun w' : World => w'.cell? ⟨w.heap.size, 0, none⟩ = some (.int .i64 n) ∧ w'.cell? ⟨w.heap.size, 1, none⟩ = some (.slice o (D + 1) c) ∧ w'.cell? ⟨w.heap.size + 1, 0, none⟩ = some (.int .i64 n) ∧ w'.cell? ⟨w.heap.size + 1, 1, none⟩ = some (.slice o' (D + 1) c')) wd1 := by go_keep
      refine hK.out _ _ (fun _ => hHeld) ?_
      clear hK K
      try simp only [List.getElem_toArray, List.getElem_cons_zero, List.getElem_cons_succ, Act.put, List.setIfInBounds_toArray, List.set_cons_zero, List.set_cons_succ]
      refine wpAnyK_oneL (i := 5) rfl (by kernel_rfl) (fun K hK => ?_)
      go_simp
      go_at_call 44
      refine (topP_c n n D _ (subT n (D + 1) s t) _ ((hod1.below (by (repeat (first | exact Below.refl _ _ | (refine Below.setCell ?_ (by first | (simp; done) | (simp; omega) | omega) _) | (refine Below.alloc ?_ (by first | (simp; done) | (simp; omega) | omega) _) | (refine below_drewN ?_ _) | (refine Below.drew ?_)))))).rd HSP.out (by omega)).mono ?_
      rintro e wd2 ⟨vb2, rfl, hod2, hbd2⟩
      have hd2 : Below w3.heap.size w3 wd2 := (by (repeat (first | exact Below.refl _ _ | (refine Below.setCell ?_ (by first | (simp; done) | (simp; omega) | omega) _) | (refine Below.alloc ?_ (by first | (simp; done) | (simp; omega) | omega) _) | (refine below_drewN ?_ _) | (refine Below.drew ?_) | (refine Below.trans ?_ (Below.mono hbd1 (by first | (simp; done) | (simp; omega) | omega))) | (refine Below.trans ?_ (Below.mono hbd2 (by first | (simp; done) | (simp; omega) | omega))))))
      have hsd2 := hd2.size
      have hsz2_ := hbd2.size
      (try simp at hsz2_)
      have f2_a := keep_cell hd2 (Nat.le_refl _) x0
      have f2_b := keep_cell hd2 (Nat.le_refl _) x1
      have f2_c := keep_cell hd2 (Nat.le_refl _) y0
      have f2_d := keep_cell hd2 (Nat.le_refl _) y1
      go_wp2_with fail
      clear hHeld
      have hHeld : (fun w' : World => w'.cell? ⟨w.heap.size, 0, none⟩ = some (.int .i64 n) ∧ w'.cell? ⟨w.heap.size, 1, none⟩ = some (.slice o (D + 1) c) ∧ w'.cell? ⟨w.heap.size + 1, 0, none⟩ = some (.int .i64 n) ∧ w'.cell? ⟨w.heap.size + 1, 1, none⟩ = some (.slice o' (D + 1) c')) wd2 := by go_keep
      refine hK.out _ _ (fun _ => hHeld) ?_
      clear hK K
      try simp only [List.getElem_toArray, List.getElem_cons_zero, List.getElem_cons_succ, Act.put, List.setIfInBounds_toArray, List.set_cons_zero, List.set_cons_succ]
      refine wpAnyK_oneL (i := 6) rfl (by kernel_rfl) (fun K hK => ?_)
      go_simp
      go_at_call 42
      refine (factorOf_c n D _ (topL D (subT n (D + 1) s t) (D + 1)) _ ((hod2.below (by (repeat (first | exact Below.refl _ _ | (refine Below.setCell ?_ (by first | (simp; done) | (simp; omega) | omega) _) | (refine Below.alloc ?_ (by first | (simp; done) | (simp; omega) | omega) _) | (refine below_drewN ?_ _) | (refine Below.drew ?_)))))).rd (mk_len _ _) h2 hD hm hm' HTr.out).mono ?_
      rintro e wd3 ⟨rfl, hbd3⟩
      rw [HF.out]
      have hd3 : Below w3.heap.size w3 wd3 := (by (repeat (first | exact Below.refl _ _ | (refine Below.setCell ?_ (by first | (simp; done) | (simp; omega) | omega) _) | (refine Below.alloc ?_ (by first | (simp; done) | (simp; omega) | omega) _) | (refine below_drewN ?_ _) | (refine Below.drew ?_) | (refine Below.trans ?_ (Below.mono hbd1 (by first | (simp; done) | (simp; omega) | omega))) | (refine Below.trans ?_ (Below.mono hbd2 (by first | (simp; done) | (simp; omega) | omega))) | (refine Below.trans ?_ (Below.mono hbd3 (by first | (simp; done) | (simp; omega) | omega))))))
      have hsd3 := hd3.size
      have hsz3_ := hbd3.size
      (try simp at hsz3_)
      have f3_a := keep_cell hd3 (Nat.le_refl _) x0
      have f3_b := keep_cell hd3 (Nat.le_refl _) x1
      have f3_c := keep_cell hd3 (Nat.le_refl _) y0
      have f3_d := keep_cell hd3 (Nat.le_refl _) y1
      go_wp2_with fail
      clear hHeld
      have hHeld : (fun w' : World => w'.cell? ⟨w.heap.size, 0, none⟩ = some (.int .i64 n) ∧ w'.cell? ⟨w.heap.size, 1, none⟩ = some (.slice o (D + 1) c) ∧ w'.cell? ⟨w.heap.size + 1, 0, none⟩ = some (.int .i64 n) ∧ w'.cell? ⟨w.heap.size + 1, 1, none⟩ = some (.slice o' (D + 1) c')) wd3 := by go_keep
      refine hK.out _ _ (fun _ => hHeld) ?_
      clear hK K
      try simp only [List.getElem_toArray, List.getElem_cons_zero, List.getElem_cons_succ, Act.put, List.setIfInBounds_toArray, List.set_cons_zero, List.set_cons_succ]
      refine' wpAnyK_takeL (i := 7) (v := _) rfl (by kernel_rfl) (by kernel_rfl) (by kernel_rfl) (by kernel_rfl) (fun _ _ _ h => h) (Or.inl ⟨by rfl, ?yT17⟩) hHeld ?rT17
      case yT17 => (intro w' hSw; (try dsimp only at hSw); go_simp; try with_reducible rfl)
      try simp only [List.getElem_toArray, List.getElem_cons_zero, List.getElem_cons_succ, Act.put, List.setIfInBounds_toArray, List.set_cons_zero, List.set_cons_succ]
      refine' wpAnyK_takeL (i := 8) (v := _) rfl (by kernel_rfl) (by kernel_rfl) (by kernel_rfl) (by kernel_rfl) (fun _ _ _ h => h) (Or.inl ⟨by rfl, ?yT18⟩) hHeld ?rT18
      case yT18 => (intro w' hSw; (try dsimp only at hSw); go_simp; try with_reducible rfl)
      try simp only [List.getElem_toArray, List.getElem_cons_zero, List.getElem_cons_succ, Act.put, List.setIfInBounds_toArray, List.set_cons_zero, List.set_cons_succ]
      refine wpAnyK_done (by kernel_rfl) ?_ _
      go_wp2_with fail
      have B9 := B3.trans (hd3.mono B3.size)
      go_wp2
      go_ret2
      rw [HR.out]
      exact ⟨rfl, B9⟩
end Go.Proofs.Ytoednonijmkbjaa
