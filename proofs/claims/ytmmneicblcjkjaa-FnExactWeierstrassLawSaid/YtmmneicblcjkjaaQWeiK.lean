/- Lemmas of WeiK. -/
import Derived.Test.YtmmneicblcjkjaaQWeiD
import Derived.Test.YtmmneicblcjkjaaQWeiH
import Derived.Test.YtmmneicblcjkjaaQWeiJ
set_option linter.unusedSimpArgs false
set_option linter.unusedVariables false
namespace Go.Proofs.Ytmmneicblcjkjaa
open Go.RowKit

theorem sizeT_pla {m : Int} {n : Nat} {t : List (List Int)} (h : PlaT m n t) (hn : n ≤ 1000) : sizeT t ≤ 1048576 := by
  rw [tri_eq (n := n) h.1 (fun i hi => by have h1 := (h.2 i hi).1; have h2 := h.1; omega)]
  exact sizeT_tri hn _
def weiPR (m d : Int) (ls : List Int) : PR := if fiveB m d ls then ⟨m, wtLaw m (d.toNat + 1) (at0 ls) (weiI m (d.toNat + 2) (at0 ls) (d.toNat + 1)), 0⟩ else PR.bad 2
theorem weiPR_bad {m d : Int} {ls : List Int} (h : fiveB m d ls = false) : weiPR m d ls = PR.bad 2 := by simp [weiPR, h]
theorem weiPR_ok {m d : Int} {ls : List Int} (h : fiveB m d ls = true) : weiPR m d ls = ⟨m, wtLaw m (d.toNat + 1) (at0 ls) (weiI m (d.toNat + 2) (at0 ls) (d.toNat + 1)), 0⟩ := by simp [weiPR, h]
theorem weiPR_ref {m d : Int} {ls : List Int} (h : fiveB m d ls = true) : weiPR m d ls = ⟨m, wrLaw m (d.toNat + 1) (at0 ls) (weiR m (d.toNat + 2) (at0 ls) (d.toNat - 1)), 0⟩ := by
  obtain ⟨-, h1, h2, h3, h4, -⟩ := fiveB_t h
  rw [weiPR_ok h]
  have e := wei_eq (m := m) (by omega) (N := d.toNat + 2) (by omega) (at0 ls)
  rw [show d.toNat + 2 - 1 = d.toNat + 1 by omega, show d.toNat + 2 - 3 = d.toNat - 1 by omega] at e
  rw [e]
  have h0 : ∀ j, j < 3 → at0 (weiR m (d.toNat + 2) (at0 ls) (d.toNat - 1)) j = 0 := fun j hj => weiR_out m _ _ _ j (.inl hj)
  rw [wei_tab h1 (by omega) (at0 ls) (h0 0 (by omega)) (h0 1 (by omega))]

set_option maxHeartbeats 2000000 in
set_option maxRecDepth 100000 in
theorem WeierstrassLaw_c (m d : Int) (v : Value) (ls : List Int) (w : World) (hv : RdI w v ls) :
    Calls Try.prog 6 #[.int .i64 m, .int .i64 d, v] w fun e w' => PEnd w w' (weiPR m d ls) e := by
  cases h1 : fiveB m d ls
  · rw [weiPR_bad h1]
    go_enter Try.func6, Try.ntmps6
    go_wp2_with fail
    (have R0 := ((RB2.mk1 w  (.int .i64 0) (.slice none 0 0) 25)).below (w' := (w.alloc (.cells #[.int .i64 0, .slice none 0 0] 25))) (by (repeat (first | exact Below.refl _ _ | (refine Below.setCell ?_ (by first | (simp; done) | (simp; omega) | omega) _) | (refine Below.alloc ?_ (by first | (simp; done) | (simp; omega) | omega) _) | (refine below_drewN ?_ _) | (refine Below.drew ?_)))) (Nat.le_refl _); have B0 : Below w.heap.size w (w.alloc (.cells #[.int .i64 0, .slice none 0 0] 25)) := (by (repeat (first | exact Below.refl _ _ | (refine Below.setCell ?_ (by first | (simp; done) | (simp; omega) | omega) _) | (refine Below.alloc ?_ (by first | (simp; done) | (simp; omega) | omega) _) | (refine below_drewN ?_ _) | (refine Below.drew ?_)))); have hv0 := hv.below (w' := (w.alloc (.cells #[.int .i64 0, .slice none 0 0] 25))) (by (repeat (first | exact Below.refl _ _ | (refine Below.setCell ?_ (by first | (simp; done) | (simp; omega) | omega) _) | (refine Below.alloc ?_ (by first | (simp; done) | (simp; omega) | omega) _) | (refine below_drewN ?_ _) | (refine Below.drew ?_)))) (Nat.le_refl _); generalize w.alloc (.cells #[.int .i64 0, .slice none 0 0] 25) = w0 at R0 B0 hv0 ⊢)
    refine (fived_c m d _ ls _ hv0).mono ?_
    rw [h1]
    rintro e w1 ⟨rfl, hb⟩
    (have R1 := R0.below hb (Nat.le_refl _); have B1 := B0.trans (hb.mono B0.size))
    clear hb
    (obtain ⟨⟨r0, r1⟩, rf⟩ := id R1; go_wp2; exact bodyPost_ret (v := .tuple #[.agg #[.int .i64 0, .slice none 0 0], .int .i64 2]) (by simp [results, Try.results6, go_sem, r0, r1]) rfl ⟨_, rfl, OwS.nil _ _, (by (repeat (first | exact Below.refl _ _ | (refine Below.setCell ?_ (by first | (simp; done) | (simp; omega) | omega) _) | (refine Below.alloc ?_ (by first | (simp; done) | (simp; omega) | omega) _) | (refine below_drewN ?_ _) | (refine Below.drew ?_) | (refine Below.trans ?_ (Below.mono B1 (by first | (simp; done) | (simp; omega) | omega)))))), by simp [PR.bad, sizeT, numT]⟩)
  · obtain ⟨hl, hm, hm', hd, hd', hx⟩ := fiveB_t h1
    obtain ⟨D, rfl⟩ : ∃ D : Nat, d = D := ⟨d.toNat, by omega⟩
    rw [weiPR_ok h1, Int.toNat_natCast]
    have hlen := sizeT_tri (n := D + 1) (by omega) (fun i j => (sm i fun a => sm j fun b => (0 : Int)))
    have HTl : (wtLaw m (D + 1) (at0 ls) (weiI m (D + 2) (at0 ls) (D + 1))).length = D + 1 := tri_len _ _
    have hsz : sizeT (wtLaw m (D + 1) (at0 ls) (weiI m (D + 2) (at0 ls) (D + 1))) ≤ 1048576 := sizeT_tri (by omega) _
    have HL := Lib.hid hl
    have HTl := Lib.hid HTl
    clear hl hlen
    go_enter Try.func6, Try.ntmps6
    go_wp2_with fail
    (have R0 := ((RB2.mk1 w  (.int .i64 0) (.slice none 0 0) 25)).below (w' := (w.alloc (.cells #[.int .i64 0, .slice none 0 0] 25))) (by (repeat (first | exact Below.refl _ _ | (refine Below.setCell ?_ (by first | (simp; done) | (simp; omega) | omega) _) | (refine Below.alloc ?_ (by first | (simp; done) | (simp; omega) | omega) _) | (refine below_drewN ?_ _) | (refine Below.drew ?_)))) (Nat.le_refl _); have B0 : Below w.heap.size w (w.alloc (.cells #[.int .i64 0, .slice none 0 0] 25)) := (by (repeat (first | exact Below.refl _ _ | (refine Below.setCell ?_ (by first | (simp; done) | (simp; omega) | omega) _) | (refine Below.alloc ?_ (by first | (simp; done) | (simp; omega) | omega) _) | (refine below_drewN ?_ _) | (refine Below.drew ?_)))); have hv0 := hv.below (w' := (w.alloc (.cells #[.int .i64 0, .slice none 0 0] 25))) (by (repeat (first | exact Below.refl _ _ | (refine Below.setCell ?_ (by first | (simp; done) | (simp; omega) | omega) _) | (refine Below.alloc ?_ (by first | (simp; done) | (simp; omega) | omega) _) | (refine below_drewN ?_ _) | (refine Below.drew ?_)))) (Nat.le_refl _); generalize w.alloc (.cells #[.int .i64 0, .slice none 0 0] 25) = w0 at R0 B0 hv0 ⊢)
    refine (fived_c m D _ ls _ hv0).mono ?_
    rw [h1]
    rintro e w1 ⟨rfl, hb⟩
    (have R1 := R0.below hb (Nat.le_refl _); have hv1 := hv0.below hb (Nat.le_refl _); have B1 := B0.trans (hb.mono B0.size))
    clear hb
    (go_wp2_with fail; refine (weierstrassLaw_c m D (D + 1) _ ls _ (by omega) hv1 HL.out (by omega) (by omega) hm hm' hx).mono ?_; rintro e w2 ⟨vR, rfl, how, hb⟩; obtain ⟨oV, cV, rfl⟩ := how.shapeN (n := D + 1) (HTl.out); have hz := R1.1.lt; have hB := B1.size; (have R2 := R1.below hb (Nat.le_refl _); have B2 := B1.trans (hb.mono B1.size)); obtain ⟨⟨r0, r1⟩, rf⟩ := id R2; go_wp2; exact bodyPost_ret (v := .tuple #[.agg #[.int .i64 m, .slice oV (D + 1) cV], .int .i64 0]) (by simp [results, Try.results6, go_sem, r0, r1]) rfl ⟨_, rfl, ((how.low hz _).low hz _).mono hB, (by (repeat (first | exact Below.refl _ _ | (refine Below.setCell ?_ (by first | (simp; done) | (simp; omega) | omega) _) | (refine Below.alloc ?_ (by first | (simp; done) | (simp; omega) | omega) _) | (refine below_drewN ?_ _) | (refine Below.drew ?_) | (refine Below.trans ?_ (Below.mono B2 (by first | (simp; done) | (simp; omega) | omega)))))), hsz⟩)

set_option maxHeartbeats 2000000 in
set_option maxRecDepth 100000 in
theorem sWeierstrassLaw_c (m d : Int) (v : Value) (ls : List Int) (w : World) (hv : RdI w v ls) :
    Calls Try.prog 4 #[.int .i64 m, .int .i64 d, v] w fun e w' => PEnd w w' (weiPR m d ls) e := by
  cases h1 : fiveB m d ls
  · rw [weiPR_bad h1]
    go_enter Try.func4, Try.ntmps4
    go_wp2_with fail
    (have R0 := ((RB2.mk1 w  (.int .i64 0) (.slice none 0 0) 25)).below (w' := (w.alloc (.cells #[.int .i64 0, .slice none 0 0] 25))) (by (repeat (first | exact Below.refl _ _ | (refine Below.setCell ?_ (by first | (simp; done) | (simp; omega) | omega) _) | (refine Below.alloc ?_ (by first | (simp; done) | (simp; omega) | omega) _) | (refine below_drewN ?_ _) | (refine Below.drew ?_)))) (Nat.le_refl _); have B0 : Below w.heap.size w (w.alloc (.cells #[.int .i64 0, .slice none 0 0] 25)) := (by (repeat (first | exact Below.refl _ _ | (refine Below.setCell ?_ (by first | (simp; done) | (simp; omega) | omega) _) | (refine Below.alloc ?_ (by first | (simp; done) | (simp; omega) | omega) _) | (refine below_drewN ?_ _) | (refine Below.drew ?_)))); have hv0 := hv.below (w' := (w.alloc (.cells #[.int .i64 0, .slice none 0 0] 25))) (by (repeat (first | exact Below.refl _ _ | (refine Below.setCell ?_ (by first | (simp; done) | (simp; omega) | omega) _) | (refine Below.alloc ?_ (by first | (simp; done) | (simp; omega) | omega) _) | (refine below_drewN ?_ _) | (refine Below.drew ?_)))) (Nat.le_refl _); generalize w.alloc (.cells #[.int .i64 0, .slice none 0 0] 25) = w0 at R0 B0 hv0 ⊢)
    refine (l08List_c m d _ ls _ hv0).mono ?_
    rw [h1]
    rintro e w1 ⟨rfl, rfl⟩
    have B1 := B0
    have R1 := R0
    (obtain ⟨⟨r0, r1⟩, rf⟩ := id R1; go_wp2; exact bodyPost_ret (v := .tuple #[.agg #[.int .i64 0, .slice none 0 0], .int .i64 2]) (by simp [results, Try.results4, go_sem, r0, r1]) rfl ⟨_, rfl, OwS.nil _ _, (by (repeat (first | exact Below.refl _ _ | (refine Below.setCell ?_ (by first | (simp; done) | (simp; omega) | omega) _) | (refine Below.alloc ?_ (by first | (simp; done) | (simp; omega) | omega) _) | (refine below_drewN ?_ _) | (refine Below.drew ?_) | (refine Below.trans ?_ (Below.mono B1 (by first | (simp; done) | (simp; omega) | omega)))))), by simp [PR.bad, sizeT, numT]⟩)
  · obtain ⟨hl, hm, hm', hd, hd', hx⟩ := fiveB_t h1
    obtain ⟨D, rfl⟩ : ∃ D : Nat, d = D := ⟨d.toNat, by omega⟩
    rw [weiPR_ref h1, Int.toNat_natCast]
    have hok := hornT_ok (m := m) (show 0 < m by omega) (D + 1) (wrU m (D + 1) (at0 ls) (weiR m (D + 2) (at0 ls) (D - 1)) (linT m (D + 1) (weiR m (D + 2) (at0 ls) (D - 1)))) (timesL m (D + 1) ((List.replicate (D + 1) 0).set 1 (m - 1)) (invS m (D + 1) (wrB m (D + 1) (at0 ls) (weiR m (D + 2) (at0 ls) (D - 1)))))
    have HTl : (wrLaw m (D + 1) (at0 ls) (weiR m (D + 2) (at0 ls) (D - 1))).length = D + 1 := hok.1
    have hsz : sizeT (wrLaw m (D + 1) (at0 ls) (weiR m (D + 2) (at0 ls) (D - 1))) ≤ 1048576 := sizeT_pla hok (by omega)
    have HL := Lib.hid hl
    have HTl := Lib.hid HTl
    clear hl hok
    go_enter Try.func4, Try.ntmps4
    go_wp2_with fail
    (have R0 := ((RB2.mk1 w  (.int .i64 0) (.slice none 0 0) 25)).below (w' := (w.alloc (.cells #[.int .i64 0, .slice none 0 0] 25))) (by (repeat (first | exact Below.refl _ _ | (refine Below.setCell ?_ (by first | (simp; done) | (simp; omega) | omega) _) | (refine Below.alloc ?_ (by first | (simp; done) | (simp; omega) | omega) _) | (refine below_drewN ?_ _) | (refine Below.drew ?_)))) (Nat.le_refl _); have B0 : Below w.heap.size w (w.alloc (.cells #[.int .i64 0, .slice none 0 0] 25)) := (by (repeat (first | exact Below.refl _ _ | (refine Below.setCell ?_ (by first | (simp; done) | (simp; omega) | omega) _) | (refine Below.alloc ?_ (by first | (simp; done) | (simp; omega) | omega) _) | (refine below_drewN ?_ _) | (refine Below.drew ?_)))); have hv0 := hv.below (w' := (w.alloc (.cells #[.int .i64 0, .slice none 0 0] 25))) (by (repeat (first | exact Below.refl _ _ | (refine Below.setCell ?_ (by first | (simp; done) | (simp; omega) | omega) _) | (refine Below.alloc ?_ (by first | (simp; done) | (simp; omega) | omega) _) | (refine below_drewN ?_ _) | (refine Below.drew ?_)))) (Nat.le_refl _); generalize w.alloc (.cells #[.int .i64 0, .slice none 0 0] 25) = w0 at R0 B0 hv0 ⊢)
    refine (l08List_c m D _ ls _ hv0).mono ?_
    rw [h1]
    rintro e w1 ⟨rfl, rfl⟩
    have hw0 := R0.1.lt
    go_wp2_with fail
    refine (l08Weierstrass_c m D (D + 1) _ ls _ (by omega) hv0 HL.out (by omega) (by omega) hm hm' hx).mono ?_
    rintro e w2 ⟨vR, rfl, how, hb⟩
    rw [show D + 1 + 1 = D + 2 from rfl, show D + 1 - 2 = D - 1 by omega] at how
    obtain ⟨oV, cV, rfl⟩ := how.shapeN (n := D + 1) HTl.out
    (have R1 := R0.below hb (Nat.le_refl _); have B1 := B0.trans (hb.mono B0.size))
    clear hb
    go_wp2_with fail
    refine (l03Make_c m oV (D + 1) cV _).mono ?_
    rintro e w3 ⟨rfl, hb⟩
    have how := how.below hb
    have hB0 := B0.size
    (have R2 := R1.below hb (Nat.le_refl _); have B2 := B1.trans (hb.mono B1.size))
    obtain ⟨⟨r0, r1⟩, rf⟩ := id R2
    go_wp2
    exact bodyPost_ret (v := .tuple #[.agg #[.int .i64 m, .slice oV (D + 1) cV], .int .i64 0]) (by simp [results, Try.results4, go_sem, r0, r1]) rfl ⟨_, rfl, ((how.low hw0 _).low hw0 _).mono hB0, (by (repeat (first | exact Below.refl _ _ | (refine Below.setCell ?_ (by first | (simp; done) | (simp; omega) | omega) _) | (refine Below.alloc ?_ (by first | (simp; done) | (simp; omega) | omega) _) | (refine below_drewN ?_ _) | (refine Below.drew ?_) | (refine Below.trans ?_ (Below.mono B2 (by first | (simp; done) | (simp; omega) | omega)))))), hsz⟩
end Go.Proofs.Ytmmneicblcjkjaa
