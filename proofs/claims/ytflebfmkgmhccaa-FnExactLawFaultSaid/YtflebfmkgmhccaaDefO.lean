/- The defects of a law: the program's function that makes the closure. -/
import Derived.Test.YtflebfmkgmhccaaDef
import Derived.Test.YtflebfmkgmhccaaLinT
set_option linter.unusedSimpArgs false
set_option linter.unusedVariables false
namespace Go.Proofs.Ytflebfmkgmhccaa
open Go.RowKit

/-- A block of one cell that the call laid. -/
def RB1 (w : World) (b : Nat) (x : Value) : Prop := w.cell? ⟨b, 0, none⟩ = some x ∧ ∀ k, w.frozen? ⟨b, k, none⟩ = false
theorem RB1.lt {w : World} {b : Nat} {x : Value} (h : RB1 w b x) : b < w.heap.size := cell_lt h.1
theorem RB1.below {B : Nat} {w w' : World} {b : Nat} {x : Value} (h : RB1 w b x) (hb : Below B w w') (hB : w.heap.size ≤ B) : RB1 w' b x :=
  ⟨keep_cell hb hB h.1, fun k => (hb.frozen (p := ⟨b, k, none⟩) (Nat.lt_of_lt_of_le h.lt hB)).trans (h.2 k)⟩
theorem RB1.mk1 (w : World) (x : Value) (t : TypeId) : RB1 (w.alloc (.cells #[x] t)) w.heap.size x := ⟨by simp, frozen_new w _ t⟩
/-- Two blocks of one cell, written one behind the other. -/
theorem RB1.two {w : World} {b b' : Nat} {x0 y0 : Value} (h : RB1 w b x0) (h' : RB1 w b' y0) (hne : b ≠ b') (x y : Value) :
    ((w.setCell ⟨b, 0, none⟩ x).setCell ⟨b', 0, none⟩ y).cell? ⟨b, 0, none⟩ = some x ∧ ((w.setCell ⟨b, 0, none⟩ x).setCell ⟨b', 0, none⟩ y).cell? ⟨b', 0, none⟩ = some y := by
  have e1 := h.1
  have e2 := h'.1
  have hne' : b' ≠ b := fun e => hne e.symm
  constructor <;> simp [go_sem, *]

set_option maxHeartbeats 4000000 in
set_option maxRecDepth 100000 in
theorem defectsOf_c (m : Int) (n : Nat) (v : Value) (t : List (List Int)) (w : World) (hv : RdT w v t) (h1 : 1 ≤ n) (hn : n ≤ 1000) (hm : 2 ≤ m) (hm' : m ≤ 3000000000) (ht : PlaT m n t) :
    Calls Try.prog 111 #[.agg #[.int .i64 m, v]] w fun e w' => ∃ (bd bf bp : Nat) (o op : Option Addr) (k kp : Nat), e = .returned (.func (.func 147) #[] #[.pointer (some ⟨bd, 0, none⟩), .pointer (some ⟨bf, 0, none⟩), .pointer (some ⟨bp, 0, none⟩)]) ∧
      w'.cell? ⟨bd, 0, none⟩ = some (.int .i64 ((n : Int) - 1)) ∧ Box2 w' bf (.int .i64 m) (.slice o n k) ∧ v = .slice o n k ∧ w'.cell? ⟨bp, 0, none⟩ = some (.slice op n kp) ∧ RdLP w' (.slice op n kp) m (powsT m n t n) ∧ Below w.heap.size w w' := by
  obtain ⟨o, c, rfl, hmx, -⟩ := id hv
  have hu : RdT w (.slice o n c) t := by rw [ht.1] at hv; exact hv
  rw [ht.1] at hmx ⊢
  clear hv
  have hml := hmx.1
  unfold maxLen at hmx
  have HT := Lib.hid ht
  clear ht
  go_enter Try.func111, Try.ntmps111
  go_wp2_with fail
  (have X0 := ((RB2.mk1 w  (.int .i64 m) (.slice o n c) 29).1).below (w' := (w.alloc (.cells #[.int .i64 m, .slice o n c] 29))) (by (repeat (first | exact Below.refl _ _ | (refine Below.setCell ?_ (by first | (simp; done) | (simp; omega) | omega) _) | (refine Below.alloc ?_ (by first | (simp; done) | (simp; omega) | omega) _) | (refine below_drewN ?_ _) | (refine Below.drew ?_)))) (Nat.le_refl _); have B0 : Below w.heap.size w (w.alloc (.cells #[.int .i64 m, .slice o n c] 29)) := (by (repeat (first | exact Below.refl _ _ | (refine Below.setCell ?_ (by first | (simp; done) | (simp; omega) | omega) _) | (refine Below.alloc ?_ (by first | (simp; done) | (simp; omega) | omega) _) | (refine below_drewN ?_ _) | (refine Below.drew ?_)))); have hu0 := hu.below (w' := (w.alloc (.cells #[.int .i64 m, .slice o n c] 29))) (by (repeat (first | exact Below.refl _ _ | (refine Below.setCell ?_ (by first | (simp; done) | (simp; omega) | omega) _) | (refine Below.alloc ?_ (by first | (simp; done) | (simp; omega) | omega) _) | (refine below_drewN ?_ _) | (refine Below.drew ?_)))) (Nat.le_refl _); generalize w.alloc (.cells #[.int .i64 m, .slice o n c] 29) = w0 at X0 B0 hu0 ⊢)
  obtain ⟨x0, x1⟩ := id X0
  have lX := X0.lt
  go_wp2_with fail
  go_cut [3, 4] (fun sp sd u => ∃ (wz : World) (bp bd : Nat) (op : Option Addr) (kp : Nat), wz = u ∧ sp = .pointer (some ⟨bp, 0, none⟩) ∧ sd = .pointer (some ⟨bd, 0, none⟩) ∧ u.cell? ⟨bd, 0, none⟩ = some (.int .i64 ((n : Int) - 1)) ∧ u.cell? ⟨bp, 0, none⟩ = some (.slice op n kp) ∧ RdLP u (.slice op n kp) m (powsT m n t n) ∧ Below w0.heap.size w0 u)
  case first =>
    have hd0 : Below w0.heap.size w0 w0.drew := (Below.refl _ _).drew
    refine wp_region_K (S := fun w' => w'.cell? ⟨w.heap.size, 0, none⟩ = some (.int .i64 m) ∧ w'.cell? ⟨w.heap.size, 1, none⟩ = some (.slice o n c)) [3, 6, 7] (by kernel_rfl) ?_
    have hHeld : (fun w' : World => w'.cell? ⟨w.heap.size, 0, none⟩ = some (.int .i64 m) ∧ w'.cell? ⟨w.heap.size, 1, none⟩ = some (.slice o n c)) w0.drew := by go_keep
    refine' wpAnyK_takeL (i := 0) (v := _) rfl (by kernel_rfl) (by kernel_rfl) (by kernel_rfl) (by kernel_rfl) (fun _ _ _ h => h) (Or.inl ⟨by rfl, ?yT1⟩) hHeld ?rT1
    case yT1 => (intro w' hSw; (try dsimp only at hSw); go_simp; try with_reducible rfl)
    try simp only [List.getElem_toArray, List.getElem_cons_zero, List.getElem_cons_succ, Act.put, List.setIfInBounds_toArray, List.set_cons_zero, List.set_cons_succ]
    refine' wpAnyK_takeL (i := 2) (v := _) rfl (by kernel_rfl) (by kernel_rfl) (by kernel_rfl) (by kernel_rfl) (fun _ _ _ h => h) (Or.inl ⟨by rfl, ?yT2⟩) hHeld ?rT2
    case yT2 => (intro w' hSw; (try dsimp only at hSw); go_simp; try with_reducible rfl)
    try simp only [List.getElem_toArray, List.getElem_cons_zero, List.getElem_cons_succ, Act.put, List.setIfInBounds_toArray, List.set_cons_zero, List.set_cons_succ]
    refine wpAnyK_three (i := 1) (j := 4) (k := 5) (by kernel_rfl) rfl rfl rfl (fun K hK => ?_) (fun K hK => ?_) (fun K hK => ?_)
    · skip
      go_simp
      go_at_call 146
      refine (powersP_c m n _ t _ (hu0.below (by (repeat (first | exact Below.refl _ _ | (refine Below.setCell ?_ (by first | (simp; done) | (simp; omega) | omega) _) | (refine Below.alloc ?_ (by first | (simp; done) | (simp; omega) | omega) _) | (refine below_drewN ?_ _) | (refine Below.drew ?_)))) (Nat.le_refl _)) h1 hn hm hm' HT.out).mono ?_
      rintro e wp ⟨vp, rfl, hol, hbp⟩
      obtain ⟨op, cp, rfl⟩ := hol.shapeN (n := n) (powsT_len _ _ _ _)
      have hrp := hol.rds
      have hlp := hol.lt
      clear hol
      have hdp : Below w0.heap.size w0 wp := (by (repeat (first | exact Below.refl _ _ | (refine Below.setCell ?_ (by first | (simp; done) | (simp; omega) | omega) _) | (refine Below.alloc ?_ (by first | (simp; done) | (simp; omega) | omega) _) | (refine below_drewN ?_ _) | (refine Below.drew ?_) | (refine Below.trans ?_ (Below.mono hbp (by first | (simp; done) | (simp; omega) | omega))))))
      have hsp := hdp.size
      have hzp : w0.heap.size ≤ wp.heap.size := by first | exact hbp.size | (have := hbp.size; simpa using this)
      have fp0 := keep_cell hdp (Nat.le_refl _) x0
      have fp1 := keep_cell hdp (Nat.le_refl _) x1
      go_wp2_with fail
      clear hHeld
      have hHeld : (fun w' : World => w'.cell? ⟨w.heap.size, 0, none⟩ = some (.int .i64 m) ∧ w'.cell? ⟨w.heap.size, 1, none⟩ = some (.slice o n c)) wp := by go_keep
      refine hK.out _ _ (fun _ => hHeld) ?_
      clear hK K
      try simp only [List.getElem_toArray, List.getElem_cons_zero, List.getElem_cons_succ, Act.put, List.setIfInBounds_toArray, List.set_cons_zero, List.set_cons_succ]
      refine wpAnyK_three (i := 3) (j := 4) (k := 5) (by kernel_rfl) rfl rfl rfl (fun K hK => ?_) (fun K hK => ?_) (fun K hK => ?_)
      · skip
        go_simp
        go_at_call 64
        refine (degreeP_c m o n c _ hml).mono ?_
        rintro e wq ⟨rfl, hbq⟩
        have hdq : Below w0.heap.size w0 wq := (by (repeat (first | exact Below.refl _ _ | (refine Below.setCell ?_ (by first | (simp; done) | (simp; omega) | omega) _) | (refine Below.alloc ?_ (by first | (simp; done) | (simp; omega) | omega) _) | (refine below_drewN ?_ _) | (refine Below.drew ?_) | (refine Below.trans ?_ (Below.mono hbp (by first | (simp; done) | (simp; omega) | omega))) | (refine Below.trans ?_ (Below.mono hbq (by first | (simp; done) | (simp; omega) | omega))))))
        have hsq := hdq.size
        have hzq : wp.heap.size ≤ wq.heap.size := by first | exact hbq.size | (have := hbq.size; simpa using this)
        have fq0 := keep_cell hdq (Nat.le_refl _) x0
        have fq1 := keep_cell hdq (Nat.le_refl _) x1
        go_wp2_with fail
        refine hK.out _ _ (fun h => absurd h (by decide)) ?_
        clear hK K
        try simp only [List.getElem_toArray, List.getElem_cons_zero, List.getElem_cons_succ, Act.put, List.setIfInBounds_toArray, List.set_cons_zero, List.set_cons_succ]
        refine wpAnyK_two (i := 4) (j := 5) rfl rfl (by kernel_rfl) (fun K hK => ?_) (fun K hK => ?_)
        · skip
          go_simp
          obtain ⟨wa, hwa⟩ : ∃ x : World, x = (wq).alloc (.cells #[.slice none 0 0] 105) := ⟨_, rfl⟩
          have hba : Below (wq).heap.size (wq) wa := by rw [hwa]; exact (by (repeat (first | exact Below.refl _ _ | (refine Below.setCell ?_ (by first | (simp; done) | (simp; omega) | omega) _) | (refine Below.alloc ?_ (by first | (simp; done) | (simp; omega) | omega) _) | (refine below_drewN ?_ _) | (refine Below.drew ?_))))
          have A4 : RB1 wa wq.heap.size (.slice none 0 0) := by rw [hwa]; exact RB1.mk1 (wq) _ _
          have ha4 : wq.heap.size < wa.heap.size := A4.lt
          have hda : Below w0.heap.size w0 wa := (by (repeat (first | exact Below.refl _ _ | (refine Below.setCell ?_ (by first | (simp; done) | (simp; omega) | omega) _) | (refine Below.alloc ?_ (by first | (simp; done) | (simp; omega) | omega) _) | (refine below_drewN ?_ _) | (refine Below.drew ?_) | (refine Below.trans ?_ (Below.mono hbp (by first | (simp; done) | (simp; omega) | omega))) | (refine Below.trans ?_ (Below.mono hbq (by first | (simp; done) | (simp; omega) | omega))) | (refine Below.trans ?_ (Below.mono hba (by first | (simp; done) | (simp; omega) | omega))))))
          have hsa := hda.size
          have fa0 := keep_cell hda (Nat.le_refl _) x0
          have fa1 := keep_cell hda (Nat.le_refl _) x1
          rw [← hwa]
          clear hwa
          clear hHeld
          have hHeld : (fun w' : World => w'.cell? ⟨w.heap.size, 0, none⟩ = some (.int .i64 m) ∧ w'.cell? ⟨w.heap.size, 1, none⟩ = some (.slice o n c)) wa := by go_keep
          refine hK.out _ _ (fun _ => hHeld) ?_
          clear hK K
          try simp only [List.getElem_toArray, List.getElem_cons_zero, List.getElem_cons_succ, Act.put, List.setIfInBounds_toArray, List.set_cons_zero, List.set_cons_succ]
          refine wpAnyK_oneL (i := 5) rfl (by kernel_rfl) (fun K hK => ?_)
          go_simp
          obtain ⟨wc, hwc⟩ : ∃ x : World, x = (wa).alloc (.cells #[.int .i64 0] 3) := ⟨_, rfl⟩
          have hbc : Below (wa).heap.size (wa) wc := by rw [hwc]; exact (by (repeat (first | exact Below.refl _ _ | (refine Below.setCell ?_ (by first | (simp; done) | (simp; omega) | omega) _) | (refine Below.alloc ?_ (by first | (simp; done) | (simp; omega) | omega) _) | (refine below_drewN ?_ _) | (refine Below.drew ?_))))
          have A5 : RB1 wc wa.heap.size (.int .i64 0) := by rw [hwc]; exact RB1.mk1 (wa) _ _
          have ha5 : wa.heap.size < wc.heap.size := A5.lt
          have hdc : Below w0.heap.size w0 wc := (by (repeat (first | exact Below.refl _ _ | (refine Below.setCell ?_ (by first | (simp; done) | (simp; omega) | omega) _) | (refine Below.alloc ?_ (by first | (simp; done) | (simp; omega) | omega) _) | (refine below_drewN ?_ _) | (refine Below.drew ?_) | (refine Below.trans ?_ (Below.mono hbp (by first | (simp; done) | (simp; omega) | omega))) | (refine Below.trans ?_ (Below.mono hbq (by first | (simp; done) | (simp; omega) | omega))) | (refine Below.trans ?_ (Below.mono hba (by first | (simp; done) | (simp; omega) | omega))) | (refine Below.trans ?_ (Below.mono hbc (by first | (simp; done) | (simp; omega) | omega))))))
          have hsc := hdc.size
          have fc0 := keep_cell hdc (Nat.le_refl _) x0
          have fc1 := keep_cell hdc (Nat.le_refl _) x1
          rw [← hwc]
          clear hwc
          clear hHeld
          have hHeld : (fun w' : World => w'.cell? ⟨w.heap.size, 0, none⟩ = some (.int .i64 m) ∧ w'.cell? ⟨w.heap.size, 1, none⟩ = some (.slice o n c)) wc := by go_keep
          refine hK.out _ _ (fun _ => hHeld) ?_
          clear hK K
          try simp only [List.getElem_toArray, List.getElem_cons_zero, List.getElem_cons_succ, Act.put, List.setIfInBounds_toArray, List.set_cons_zero, List.set_cons_succ]
          refine wpAnyK_oneL (i := 6) rfl (by kernel_rfl) (fun K hK => ?_)
          have L4 : RB1 wc wq.heap.size (.slice none 0 0) := A4.below (B := wa.heap.size) (by (repeat (first | exact Below.refl _ _ | (refine Below.setCell ?_ (by first | (simp; done) | (simp; omega) | omega) _) | (refine Below.alloc ?_ (by first | (simp; done) | (simp; omega) | omega) _) | (refine below_drewN ?_ _) | (refine Below.drew ?_) | (refine Below.trans ?_ (Below.mono hbp (by first | (simp; done) | (simp; omega) | omega))) | (refine Below.trans ?_ (Below.mono hbq (by first | (simp; done) | (simp; omega) | omega))) | (refine Below.trans ?_ (Below.mono hba (by first | (simp; done) | (simp; omega) | omega))) | (refine Below.trans ?_ (Below.mono hbc (by first | (simp; done) | (simp; omega) | omega)))))) (Nat.le_refl _)
          have L5 : RB1 wc wa.heap.size (.int .i64 0) := A5.below (B := wc.heap.size) (by (repeat (first | exact Below.refl _ _ | (refine Below.setCell ?_ (by first | (simp; done) | (simp; omega) | omega) _) | (refine Below.alloc ?_ (by first | (simp; done) | (simp; omega) | omega) _) | (refine below_drewN ?_ _) | (refine Below.drew ?_) | (refine Below.trans ?_ (Below.mono hbp (by first | (simp; done) | (simp; omega) | omega))) | (refine Below.trans ?_ (Below.mono hbq (by first | (simp; done) | (simp; omega) | omega))) | (refine Below.trans ?_ (Below.mono hba (by first | (simp; done) | (simp; omega) | omega))) | (refine Below.trans ?_ (Below.mono hbc (by first | (simp; done) | (simp; omega) | omega)))))) (Nat.le_refl _)
          obtain ⟨a4, a4f⟩ := id L4
          obtain ⟨a5, a5f⟩ := id L5
          have a4g := a4f 0
          have a5g := a5f 0
          have hne : wq.heap.size ≠ wa.heap.size := by omega
          have hne' : wa.heap.size ≠ wq.heap.size := by omega
          have hb4 : w0.heap.size ≤ wq.heap.size := by omega
          have hb5 : w0.heap.size ≤ wa.heap.size := by omega
          go_simp
          (try go_wp2_with fail)
          refine hK.out _ _ (fun h => absurd h (by decide)) ?_
          clear hK K
          try simp only [List.getElem_toArray, List.getElem_cons_zero, List.getElem_cons_succ, Act.put, List.setIfInBounds_toArray, List.set_cons_zero, List.set_cons_succ]
          refine wpAnyK_oneL (i := 7) rfl (by kernel_rfl) (fun K hK => ?_)
          go_simp
          (try go_wp2_with fail)
          refine hK.out _ _ (fun h => absurd h (by decide)) ?_
          clear hK K
          try simp only [List.getElem_toArray, List.getElem_cons_zero, List.getElem_cons_succ, Act.put, List.setIfInBounds_toArray, List.set_cons_zero, List.set_cons_succ]
          refine wpAnyK_done (by kernel_rfl) ?_ _
          go_wp2_with fail
          go_meet
          obtain ⟨c4, c5⟩ := L4.two L5 hne (.slice op n cp) (.int .i64 ((n : Int) - 1))
          exact ⟨_, _, _, op, cp, rfl, rfl, rfl, c5, c4, (((hrp.belowB (B := wp.heap.size) (by (repeat (first | exact Below.refl _ _ | (refine Below.setCell ?_ (by first | (simp; done) | (simp; omega) | omega) _) | (refine Below.alloc ?_ (by first | (simp; done) | (simp; omega) | omega) _) | (refine below_drewN ?_ _) | (refine Below.drew ?_) | (refine Below.trans ?_ (Below.mono hbp (by first | (simp; done) | (simp; omega) | omega))) | (refine Below.trans ?_ (Below.mono hbq (by first | (simp; done) | (simp; omega) | omega))) | (refine Below.trans ?_ (Below.mono hba (by first | (simp; done) | (simp; omega) | omega))) | (refine Below.trans ?_ (Below.mono hbc (by first | (simp; done) | (simp; omega) | omega)))))) (Nat.le_refl _)).put (by first | (simp; done) | (simp; omega) | omega) 0 _).put (by first | (simp; done) | (simp; omega) | omega) 0 _).now, (by (repeat (first | exact Below.refl _ _ | (refine Below.setCell ?_ (by first | (simp; done) | (simp; omega) | omega) _) | (refine Below.alloc ?_ (by first | (simp; done) | (simp; omega) | omega) _) | (refine below_drewN ?_ _) | (refine Below.drew ?_) | (refine Below.trans ?_ (Below.mono hbp (by first | (simp; done) | (simp; omega) | omega))) | (refine Below.trans ?_ (Below.mono hbq (by first | (simp; done) | (simp; omega) | omega))) | (refine Below.trans ?_ (Below.mono hba (by first | (simp; done) | (simp; omega) | omega))) | (refine Below.trans ?_ (Below.mono hbc (by first | (simp; done) | (simp; omega) | omega))))))⟩
        · skip
          go_simp
          obtain ⟨wc, hwc⟩ : ∃ x : World, x = (wq).alloc (.cells #[.int .i64 0] 3) := ⟨_, rfl⟩
          have hbc : Below (wq).heap.size (wq) wc := by rw [hwc]; exact (by (repeat (first | exact Below.refl _ _ | (refine Below.setCell ?_ (by first | (simp; done) | (simp; omega) | omega) _) | (refine Below.alloc ?_ (by first | (simp; done) | (simp; omega) | omega) _) | (refine below_drewN ?_ _) | (refine Below.drew ?_))))
          have A5 : RB1 wc wq.heap.size (.int .i64 0) := by rw [hwc]; exact RB1.mk1 (wq) _ _
          have ha5 : wq.heap.size < wc.heap.size := A5.lt
          have hdc : Below w0.heap.size w0 wc := (by (repeat (first | exact Below.refl _ _ | (refine Below.setCell ?_ (by first | (simp; done) | (simp; omega) | omega) _) | (refine Below.alloc ?_ (by first | (simp; done) | (simp; omega) | omega) _) | (refine below_drewN ?_ _) | (refine Below.drew ?_) | (refine Below.trans ?_ (Below.mono hbp (by first | (simp; done) | (simp; omega) | omega))) | (refine Below.trans ?_ (Below.mono hbq (by first | (simp; done) | (simp; omega) | omega))) | (refine Below.trans ?_ (Below.mono hbc (by first | (simp; done) | (simp; omega) | omega))))))
          have hsc := hdc.size
          have fc0 := keep_cell hdc (Nat.le_refl _) x0
          have fc1 := keep_cell hdc (Nat.le_refl _) x1
          rw [← hwc]
          clear hwc
          clear hHeld
          have hHeld : (fun w' : World => w'.cell? ⟨w.heap.size, 0, none⟩ = some (.int .i64 m) ∧ w'.cell? ⟨w.heap.size, 1, none⟩ = some (.slice o n c)) wc := by go_keep
          refine hK.out _ _ (fun _ => hHeld) ?_
          clear hK K
          try simp only [List.getElem_toArray, List.getElem_cons_zero, List.getElem_cons_succ, Act.put, List.setIfInBounds_toArray, List.set_cons_zero, List.set_cons_succ]
          refine wpAnyK_oneL (i := 4) rfl (by kernel_rfl) (fun K hK => ?_)
          go_simp
          obtain ⟨wa, hwa⟩ : ∃ x : World, x = (wc).alloc (.cells #[.slice none 0 0] 105) := ⟨_, rfl⟩
          have hba : Below (wc).heap.size (wc) wa := by rw [hwa]; exact (by (repeat (first | exact Below.refl _ _ | (refine Below.setCell ?_ (by first | (simp; done) | (simp; omega) | omega) _) | (refine Below.alloc ?_ (by first | (simp; done) | (simp; omega) | omega) _) | (refine below_drewN ?_ _) | (refine Below.drew ?_))))
          have A4 : RB1 wa wc.heap.size (.slice none 0 0) := by rw [hwa]; exact RB1.mk1 (wc) _ _
          have ha4 : wc.heap.size < wa.heap.size := A4.lt
          have hda : Below w0.heap.size w0 wa := (by (repeat (first | exact Below.refl _ _ | (refine Below.setCell ?_ (by first | (simp; done) | (simp; omega) | omega) _) | (refine Below.alloc ?_ (by first | (simp; done) | (simp; omega) | omega) _) | (refine below_drewN ?_ _) | (refine Below.drew ?_) | (refine Below.trans ?_ (Below.mono hbp (by first | (simp; done) | (simp; omega) | omega))) | (refine Below.trans ?_ (Below.mono hbq (by first | (simp; done) | (simp; omega) | omega))) | (refine Below.trans ?_ (Below.mono hbc (by first | (simp; done) | (simp; omega) | omega))) | (refine Below.trans ?_ (Below.mono hba (by first | (simp; done) | (simp; omega) | omega))))))
          have hsa := hda.size
          have fa0 := keep_cell hda (Nat.le_refl _) x0
          have fa1 := keep_cell hda (Nat.le_refl _) x1
          rw [← hwa]
          clear hwa
          clear hHeld
          have hHeld : (fun w' : World => w'.cell? ⟨w.heap.size, 0, none⟩ = some (.int .i64 m) ∧ w'.cell? ⟨w.heap.size, 1, none⟩ = some (.slice o n c)) wa := by go_keep
          refine hK.out _ _ (fun _ => hHeld) ?_
          clear hK K
          try simp only [List.getElem_toArray, List.getElem_cons_zero, List.getElem_cons_succ, Act.put, List.setIfInBounds_toArray, List.set_cons_zero, List.set_cons_succ]
          refine wpAnyK_oneL (i := 6) rfl (by kernel_rfl) (fun K hK => ?_)
          have L4 : RB1 wa wc.heap.size (.slice none 0 0) := A4.below (B := wa.heap.size) (by (repeat (first | exact Below.refl _ _ | (refine Below.setCell ?_ (by first | (simp; done) | (simp; omega) | omega) _) | (refine Below.alloc ?_ (by first | (simp; done) | (simp; omega) | omega) _) | (refine below_drewN ?_ _) | (refine Below.drew ?_) | (refine Below.trans ?_ (Below.mono hbp (by first | (simp; done) | (simp; omega) | omega))) | (refine Below.trans ?_ (Below.mono hbq (by first | (simp; done) | (simp; omega) | omega))) | (refine Below.trans ?_ (Below.mono hbc (by first | (simp; done) | (simp; omega) | omega))) | (refine Below.trans ?_ (Below.mono hba (by first | (simp; done) | (simp; omega) | omega)))))) (Nat.le_refl _)
          have L5 : RB1 wa wq.heap.size (.int .i64 0) := A5.below (B := wc.heap.size) (by (repeat (first | exact Below.refl _ _ | (refine Below.setCell ?_ (by first | (simp; done) | (simp; omega) | omega) _) | (refine Below.alloc ?_ (by first | (simp; done) | (simp; omega) | omega) _) | (refine below_drewN ?_ _) | (refine Below.drew ?_) | (refine Below.trans ?_ (Below.mono hbp (by first | (simp; done) | (simp; omega) | omega))) | (refine Below.trans ?_ (Below.mono hbq (by first | (simp; done) | (simp; omega) | omega))) | (refine Below.trans ?_ (Below.mono hbc (by first | (simp; done) | (simp; omega) | omega))) | (refine Below.trans ?_ (Below.mono hba (by first | (simp; done) | (simp; omega) | omega)))))) (Nat.le_refl _)
          obtain ⟨a4, a4f⟩ := id L4
          obtain ⟨a5, a5f⟩ := id L5
          have a4g := a4f 0
          have a5g := a5f 0
          have hne : wc.heap.size ≠ wq.heap.size := by omega
          have hne' : wq.heap.size ≠ wc.heap.size := by omega
          have hb4 : w0.heap.size ≤ wc.heap.size := by omega
          have hb5 : w0.heap.size ≤ wq.heap.size := by omega
          go_simp
          (try go_wp2_with fail)
          refine hK.out _ _ (fun h => absurd h (by decide)) ?_
          clear hK K
          try simp only [List.getElem_toArray, List.getElem_cons_zero, List.getElem_cons_succ, Act.put, List.setIfInBounds_toArray, List.set_cons_zero, List.set_cons_succ]
          refine wpAnyK_oneL (i := 7) rfl (by kernel_rfl) (fun K hK => ?_)
          go_simp
          (try go_wp2_with fail)
          refine hK.out _ _ (fun h => absurd h (by decide)) ?_
          clear hK K
          try simp only [List.getElem_toArray, List.getElem_cons_zero, List.getElem_cons_succ, Act.put, List.setIfInBounds_toArray, List.set_cons_zero, List.set_cons_succ]
          refine wpAnyK_done (by kernel_rfl) ?_ _
          go_wp2_with fail
          go_meet
          obtain ⟨c4, c5⟩ := L4.two L5 hne (.slice op n cp) (.int .i64 ((n : Int) - 1))
          exact ⟨_, _, _, op, cp, rfl, rfl, rfl, c5, c4, (((hrp.belowB (B := wp.heap.size) (by (repeat (first | exact Below.refl _ _ | (refine Below.setCell ?_ (by first | (simp; done) | (simp; omega) | omega) _) | (refine Below.alloc ?_ (by first | (simp; done) | (simp; omega) | omega) _) | (refine below_drewN ?_ _) | (refine Below.drew ?_) | (refine Below.trans ?_ (Below.mono hbp (by first | (simp; done) | (simp; omega) | omega))) | (refine Below.trans ?_ (Below.mono hbq (by first | (simp; done) | (simp; omega) | omega))) | (refine Below.trans ?_ (Below.mono hbc (by first | (simp; done) | (simp; omega) | omega))) | (refine Below.trans ?_ (Below.mono hba (by first | (simp; done) | (simp; omega) | omega)))))) (Nat.le_refl _)).put (by first | (simp; done) | (simp; omega) | omega) 0 _).put (by first | (simp; done) | (simp; omega) | omega) 0 _).now, (by (repeat (first | exact Below.refl _ _ | (refine Below.setCell ?_ (by first | (simp; done) | (simp; omega) | omega) _) | (refine Below.alloc ?_ (by first | (simp; done) | (simp; omega) | omega) _) | (refine below_drewN ?_ _) | (refine Below.drew ?_) | (refine Below.trans ?_ (Below.mono hbp (by first | (simp; done) | (simp; omega) | omega))) | (refine Below.trans ?_ (Below.mono hbq (by first | (simp; done) | (simp; omega) | omega))) | (refine Below.trans ?_ (Below.mono hbc (by first | (simp; done) | (simp; omega) | omega))) | (refine Below.trans ?_ (Below.mono hba (by first | (simp; done) | (simp; omega) | omega))))))⟩
      · skip
        go_simp
        obtain ⟨wa, hwa⟩ : ∃ x : World, x = (wp).alloc (.cells #[.slice none 0 0] 105) := ⟨_, rfl⟩
        have hba : Below (wp).heap.size (wp) wa := by rw [hwa]; exact (by (repeat (first | exact Below.refl _ _ | (refine Below.setCell ?_ (by first | (simp; done) | (simp; omega) | omega) _) | (refine Below.alloc ?_ (by first | (simp; done) | (simp; omega) | omega) _) | (refine below_drewN ?_ _) | (refine Below.drew ?_))))
        have A4 : RB1 wa wp.heap.size (.slice none 0 0) := by rw [hwa]; exact RB1.mk1 (wp) _ _
        have ha4 : wp.heap.size < wa.heap.size := A4.lt
        have hda : Below w0.heap.size w0 wa := (by (repeat (first | exact Below.refl _ _ | (refine Below.setCell ?_ (by first | (simp; done) | (simp; omega) | omega) _) | (refine Below.alloc ?_ (by first | (simp; done) | (simp; omega) | omega) _) | (refine below_drewN ?_ _) | (refine Below.drew ?_) | (refine Below.trans ?_ (Below.mono hbp (by first | (simp; done) | (simp; omega) | omega))) | (refine Below.trans ?_ (Below.mono hba (by first | (simp; done) | (simp; omega) | omega))))))
        have hsa := hda.size
        have fa0 := keep_cell hda (Nat.le_refl _) x0
        have fa1 := keep_cell hda (Nat.le_refl _) x1
        rw [← hwa]
        clear hwa
        clear hHeld
        have hHeld : (fun w' : World => w'.cell? ⟨w.heap.size, 0, none⟩ = some (.int .i64 m) ∧ w'.cell? ⟨w.heap.size, 1, none⟩ = some (.slice o n c)) wa := by go_keep
        refine hK.out _ _ (fun _ => hHeld) ?_
        clear hK K
        try simp only [List.getElem_toArray, List.getElem_cons_zero, List.getElem_cons_succ, Act.put, List.setIfInBounds_toArray, List.set_cons_zero, List.set_cons_succ]
        refine wpAnyK_two (i := 3) (j := 5) rfl rfl (by kernel_rfl) (fun K hK => ?_) (fun K hK => ?_)
        · skip
          go_simp
          go_at_call 64
          refine (degreeP_c m o n c _ hml).mono ?_
          rintro e wq ⟨rfl, hbq⟩
          have hdq : Below w0.heap.size w0 wq := (by (repeat (first | exact Below.refl _ _ | (refine Below.setCell ?_ (by first | (simp; done) | (simp; omega) | omega) _) | (refine Below.alloc ?_ (by first | (simp; done) | (simp; omega) | omega) _) | (refine below_drewN ?_ _) | (refine Below.drew ?_) | (refine Below.trans ?_ (Below.mono hbp (by first | (simp; done) | (simp; omega) | omega))) | (refine Below.trans ?_ (Below.mono hba (by first | (simp; done) | (simp; omega) | omega))) | (refine Below.trans ?_ (Below.mono hbq (by first | (simp; done) | (simp; omega) | omega))))))
          have hsq := hdq.size
          have hzq : wa.heap.size ≤ wq.heap.size := by first | exact hbq.size | (have := hbq.size; simpa using this)
          have fq0 := keep_cell hdq (Nat.le_refl _) x0
          have fq1 := keep_cell hdq (Nat.le_refl _) x1
          go_wp2_with fail
          refine hK.out _ _ (fun h => absurd h (by decide)) ?_
          clear hK K
          try simp only [List.getElem_toArray, List.getElem_cons_zero, List.getElem_cons_succ, Act.put, List.setIfInBounds_toArray, List.set_cons_zero, List.set_cons_succ]
          refine wpAnyK_oneL (i := 5) rfl (by kernel_rfl) (fun K hK => ?_)
          go_simp
          obtain ⟨wc, hwc⟩ : ∃ x : World, x = (wq).alloc (.cells #[.int .i64 0] 3) := ⟨_, rfl⟩
          have hbc : Below (wq).heap.size (wq) wc := by rw [hwc]; exact (by (repeat (first | exact Below.refl _ _ | (refine Below.setCell ?_ (by first | (simp; done) | (simp; omega) | omega) _) | (refine Below.alloc ?_ (by first | (simp; done) | (simp; omega) | omega) _) | (refine below_drewN ?_ _) | (refine Below.drew ?_))))
          have A5 : RB1 wc wq.heap.size (.int .i64 0) := by rw [hwc]; exact RB1.mk1 (wq) _ _
          have ha5 : wq.heap.size < wc.heap.size := A5.lt
          have hdc : Below w0.heap.size w0 wc := (by (repeat (first | exact Below.refl _ _ | (refine Below.setCell ?_ (by first | (simp; done) | (simp; omega) | omega) _) | (refine Below.alloc ?_ (by first | (simp; done) | (simp; omega) | omega) _) | (refine below_drewN ?_ _) | (refine Below.drew ?_) | (refine Below.trans ?_ (Below.mono hbp (by first | (simp; done) | (simp; omega) | omega))) | (refine Below.trans ?_ (Below.mono hba (by first | (simp; done) | (simp; omega) | omega))) | (refine Below.trans ?_ (Below.mono hbq (by first | (simp; done) | (simp; omega) | omega))) | (refine Below.trans ?_ (Below.mono hbc (by first | (simp; done) | (simp; omega) | omega))))))
          have hsc := hdc.size
          have fc0 := keep_cell hdc (Nat.le_refl _) x0
          have fc1 := keep_cell hdc (Nat.le_refl _) x1
          rw [← hwc]
          clear hwc
          clear hHeld
          have hHeld : (fun w' : World => w'.cell? ⟨w.heap.size, 0, none⟩ = some (.int .i64 m) ∧ w'.cell? ⟨w.heap.size, 1, none⟩ = some (.slice o n c)) wc := by go_keep
          refine hK.out _ _ (fun _ => hHeld) ?_
          clear hK K
          try simp only [List.getElem_toArray, List.getElem_cons_zero, List.getElem_cons_succ, Act.put, List.setIfInBounds_toArray, List.set_cons_zero, List.set_cons_succ]
          refine wpAnyK_oneL (i := 6) rfl (by kernel_rfl) (fun K hK => ?_)
          have L4 : RB1 wc wp.heap.size (.slice none 0 0) := A4.below (B := wa.heap.size) (by (repeat (first | exact Below.refl _ _ | (refine Below.setCell ?_ (by first | (simp; done) | (simp; omega) | omega) _) | (refine Below.alloc ?_ (by first | (simp; done) | (simp; omega) | omega) _) | (refine below_drewN ?_ _) | (refine Below.drew ?_) | (refine Below.trans ?_ (Below.mono hbp (by first | (simp; done) | (simp; omega) | omega))) | (refine Below.trans ?_ (Below.mono hba (by first | (simp; done) | (simp; omega) | omega))) | (refine Below.trans ?_ (Below.mono hbq (by first | (simp; done) | (simp; omega) | omega))) | (refine Below.trans ?_ (Below.mono hbc (by first | (simp; done) | (simp; omega) | omega)))))) (Nat.le_refl _)
          have L5 : RB1 wc wq.heap.size (.int .i64 0) := A5.below (B := wc.heap.size) (by (repeat (first | exact Below.refl _ _ | (refine Below.setCell ?_ (by first | (simp; done) | (simp; omega) | omega) _) | (refine Below.alloc ?_ (by first | (simp; done) | (simp; omega) | omega) _) | (refine below_drewN ?_ _) | (refine Below.drew ?_) | (refine Below.trans ?_ (Below.mono hbp (by first | (simp; done) | (simp; omega) | omega))) | (refine Below.trans ?_ (Below.mono hba (by first | (simp; done) | (simp; omega) | omega))) | (refine Below.trans ?_ (Below.mono hbq (by first | (simp; done) | (simp; omega) | omega))) | (refine Below.trans ?_ (Below.mono hbc (by first | (simp; done) | (simp; omega) | omega)))))) (Nat.le_refl _)
          obtain ⟨a4, a4f⟩ := id L4
          obtain ⟨a5, a5f⟩ := id L5
          have a4g := a4f 0
          have a5g := a5f 0
          have hne : wp.heap.size ≠ wq.heap.size := by omega
          have hne' : wq.heap.size ≠ wp.heap.size := by omega
          have hb4 : w0.heap.size ≤ wp.heap.size := by omega
          have hb5 : w0.heap.size ≤ wq.heap.size := by omega
          go_simp
          (try go_wp2_with fail)
          refine hK.out _ _ (fun h => absurd h (by decide)) ?_
          clear hK K
          try simp only [List.getElem_toArray, List.getElem_cons_zero, List.getElem_cons_succ, Act.put, List.setIfInBounds_toArray, List.set_cons_zero, List.set_cons_succ]
          refine wpAnyK_oneL (i := 7) rfl (by kernel_rfl) (fun K hK => ?_)
          go_simp
          (try go_wp2_with fail)
          refine hK.out _ _ (fun h => absurd h (by decide)) ?_
          clear hK K
          try simp only [List.getElem_toArray, List.getElem_cons_zero, List.getElem_cons_succ, Act.put, List.setIfInBounds_toArray, List.set_cons_zero, List.set_cons_succ]
          refine wpAnyK_done (by kernel_rfl) ?_ _
          go_wp2_with fail
          go_meet
          obtain ⟨c4, c5⟩ := L4.two L5 hne (.slice op n cp) (.int .i64 ((n : Int) - 1))
          exact ⟨_, _, _, op, cp, rfl, rfl, rfl, c5, c4, (((hrp.belowB (B := wp.heap.size) (by (repeat (first | exact Below.refl _ _ | (refine Below.setCell ?_ (by first | (simp; done) | (simp; omega) | omega) _) | (refine Below.alloc ?_ (by first | (simp; done) | (simp; omega) | omega) _) | (refine below_drewN ?_ _) | (refine Below.drew ?_) | (refine Below.trans ?_ (Below.mono hbp (by first | (simp; done) | (simp; omega) | omega))) | (refine Below.trans ?_ (Below.mono hba (by first | (simp; done) | (simp; omega) | omega))) | (refine Below.trans ?_ (Below.mono hbq (by first | (simp; done) | (simp; omega) | omega))) | (refine Below.trans ?_ (Below.mono hbc (by first | (simp; done) | (simp; omega) | omega)))))) (Nat.le_refl _)).put (by first | (simp; done) | (simp; omega) | omega) 0 _).put (by first | (simp; done) | (simp; omega) | omega) 0 _).now, (by (repeat (first | exact Below.refl _ _ | (refine Below.setCell ?_ (by first | (simp; done) | (simp; omega) | omega) _) | (refine Below.alloc ?_ (by first | (simp; done) | (simp; omega) | omega) _) | (refine below_drewN ?_ _) | (refine Below.drew ?_) | (refine Below.trans ?_ (Below.mono hbp (by first | (simp; done) | (simp; omega) | omega))) | (refine Below.trans ?_ (Below.mono hba (by first | (simp; done) | (simp; omega) | omega))) | (refine Below.trans ?_ (Below.mono hbq (by first | (simp; done) | (simp; omega) | omega))) | (refine Below.trans ?_ (Below.mono hbc (by first | (simp; done) | (simp; omega) | omega))))))⟩
        · skip
          go_simp
          obtain ⟨wc, hwc⟩ : ∃ x : World, x = (wa).alloc (.cells #[.int .i64 0] 3) := ⟨_, rfl⟩
          have hbc : Below (wa).heap.size (wa) wc := by rw [hwc]; exact (by (repeat (first | exact Below.refl _ _ | (refine Below.setCell ?_ (by first | (simp; done) | (simp; omega) | omega) _) | (refine Below.alloc ?_ (by first | (simp; done) | (simp; omega) | omega) _) | (refine below_drewN ?_ _) | (refine Below.drew ?_))))
          have A5 : RB1 wc wa.heap.size (.int .i64 0) := by rw [hwc]; exact RB1.mk1 (wa) _ _
          have ha5 : wa.heap.size < wc.heap.size := A5.lt
          have hdc : Below w0.heap.size w0 wc := (by (repeat (first | exact Below.refl _ _ | (refine Below.setCell ?_ (by first | (simp; done) | (simp; omega) | omega) _) | (refine Below.alloc ?_ (by first | (simp; done) | (simp; omega) | omega) _) | (refine below_drewN ?_ _) | (refine Below.drew ?_) | (refine Below.trans ?_ (Below.mono hbp (by first | (simp; done) | (simp; omega) | omega))) | (refine Below.trans ?_ (Below.mono hba (by first | (simp; done) | (simp; omega) | omega))) | (refine Below.trans ?_ (Below.mono hbc (by first | (simp; done) | (simp; omega) | omega))))))
          have hsc := hdc.size
          have fc0 := keep_cell hdc (Nat.le_refl _) x0
          have fc1 := keep_cell hdc (Nat.le_refl _) x1
          rw [← hwc]
          clear hwc
          clear hHeld
          have hHeld : (fun w' : World => w'.cell? ⟨w.heap.size, 0, none⟩ = some (.int .i64 m) ∧ w'.cell? ⟨w.heap.size, 1, none⟩ = some (.slice o n c)) wc := by go_keep
          refine hK.out _ _ (fun _ => hHeld) ?_
          clear hK K
          try simp only [List.getElem_toArray, List.getElem_cons_zero, List.getElem_cons_succ, Act.put, List.setIfInBounds_toArray, List.set_cons_zero, List.set_cons_succ]
          refine wpAnyK_oneL (i := 3) rfl (by kernel_rfl) (fun K hK => ?_)
          go_simp
          go_at_call 64
          refine (degreeP_c m o n c _ hml).mono ?_
          rintro e wq ⟨rfl, hbq⟩
          have hdq : Below w0.heap.size w0 wq := (by (repeat (first | exact Below.refl _ _ | (refine Below.setCell ?_ (by first | (simp; done) | (simp; omega) | omega) _) | (refine Below.alloc ?_ (by first | (simp; done) | (simp; omega) | omega) _) | (refine below_drewN ?_ _) | (refine Below.drew ?_) | (refine Below.trans ?_ (Below.mono hbp (by first | (simp; done) | (simp; omega) | omega))) | (refine Below.trans ?_ (Below.mono hba (by first | (simp; done) | (simp; omega) | omega))) | (refine Below.trans ?_ (Below.mono hbc (by first | (simp; done) | (simp; omega) | omega))) | (refine Below.trans ?_ (Below.mono hbq (by first | (simp; done) | (simp; omega) | omega))))))
          have hsq := hdq.size
          have hzq : wc.heap.size ≤ wq.heap.size := by first | exact hbq.size | (have := hbq.size; simpa using this)
          have fq0 := keep_cell hdq (Nat.le_refl _) x0
          have fq1 := keep_cell hdq (Nat.le_refl _) x1
          go_wp2_with fail
          refine hK.out _ _ (fun h => absurd h (by decide)) ?_
          clear hK K
          try simp only [List.getElem_toArray, List.getElem_cons_zero, List.getElem_cons_succ, Act.put, List.setIfInBounds_toArray, List.set_cons_zero, List.set_cons_succ]
          refine wpAnyK_oneL (i := 6) rfl (by kernel_rfl) (fun K hK => ?_)
          have L4 : RB1 wq wp.heap.size (.slice none 0 0) := A4.below (B := wa.heap.size) (by (repeat (first | exact Below.refl _ _ | (refine Below.setCell ?_ (by first | (simp; done) | (simp; omega) | omega) _) | (refine Below.alloc ?_ (by first | (simp; done) | (simp; omega) | omega) _) | (refine below_drewN ?_ _) | (refine Below.drew ?_) | (refine Below.trans ?_ (Below.mono hbp (by first | (simp; done) | (simp; omega) | omega))) | (refine Below.trans ?_ (Below.mono hba (by first | (simp; done) | (simp; omega) | omega))) | (refine Below.trans ?_ (Below.mono hbc (by first | (simp; done) | (simp; omega) | omega))) | (refine Below.trans ?_ (Below.mono hbq (by first | (simp; done) | (simp; omega) | omega)))))) (Nat.le_refl _)
          have L5 : RB1 wq wa.heap.size (.int .i64 0) := A5.below (B := wc.heap.size) (by (repeat (first | exact Below.refl _ _ | (refine Below.setCell ?_ (by first | (simp; done) | (simp; omega) | omega) _) | (refine Below.alloc ?_ (by first | (simp; done) | (simp; omega) | omega) _) | (refine below_drewN ?_ _) | (refine Below.drew ?_) | (refine Below.trans ?_ (Below.mono hbp (by first | (simp; done) | (simp; omega) | omega))) | (refine Below.trans ?_ (Below.mono hba (by first | (simp; done) | (simp; omega) | omega))) | (refine Below.trans ?_ (Below.mono hbc (by first | (simp; done) | (simp; omega) | omega))) | (refine Below.trans ?_ (Below.mono hbq (by first | (simp; done) | (simp; omega) | omega)))))) (Nat.le_refl _)
          obtain ⟨a4, a4f⟩ := id L4
          obtain ⟨a5, a5f⟩ := id L5
          have a4g := a4f 0
          have a5g := a5f 0
          have hne : wp.heap.size ≠ wa.heap.size := by omega
          have hne' : wa.heap.size ≠ wp.heap.size := by omega
          have hb4 : w0.heap.size ≤ wp.heap.size := by omega
          have hb5 : w0.heap.size ≤ wa.heap.size := by omega
          go_simp
          (try go_wp2_with fail)
          refine hK.out _ _ (fun h => absurd h (by decide)) ?_
          clear hK K
          try simp only [List.getElem_toArray, List.getElem_cons_zero, List.getElem_cons_succ, Act.put, List.setIfInBounds_toArray, List.set_cons_zero, List.set_cons_succ]
          refine wpAnyK_oneL (i := 7) rfl (by kernel_rfl) (fun K hK => ?_)
          go_simp
          (try go_wp2_with fail)
          refine hK.out _ _ (fun h => absurd h (by decide)) ?_
          clear hK K
          try simp only [List.getElem_toArray, List.getElem_cons_zero, List.getElem_cons_succ, Act.put, List.setIfInBounds_toArray, List.set_cons_zero, List.set_cons_succ]
          refine wpAnyK_done (by kernel_rfl) ?_ _
          go_wp2_with fail
          go_meet
          obtain ⟨c4, c5⟩ := L4.two L5 hne (.slice op n cp) (.int .i64 ((n : Int) - 1))
          exact ⟨_, _, _, op, cp, rfl, rfl, rfl, c5, c4, (((hrp.belowB (B := wp.heap.size) (by (repeat (first | exact Below.refl _ _ | (refine Below.setCell ?_ (by first | (simp; done) | (simp; omega) | omega) _) | (refine Below.alloc ?_ (by first | (simp; done) | (simp; omega) | omega) _) | (refine below_drewN ?_ _) | (refine Below.drew ?_) | (refine Below.trans ?_ (Below.mono hbp (by first | (simp; done) | (simp; omega) | omega))) | (refine Below.trans ?_ (Below.mono hba (by first | (simp; done) | (simp; omega) | omega))) | (refine Below.trans ?_ (Below.mono hbc (by first | (simp; done) | (simp; omega) | omega))) | (refine Below.trans ?_ (Below.mono hbq (by first | (simp; done) | (simp; omega) | omega)))))) (Nat.le_refl _)).put (by first | (simp; done) | (simp; omega) | omega) 0 _).put (by first | (simp; done) | (simp; omega) | omega) 0 _).now, (by (repeat (first | exact Below.refl _ _ | (refine Below.setCell ?_ (by first | (simp; done) | (simp; omega) | omega) _) | (refine Below.alloc ?_ (by first | (simp; done) | (simp; omega) | omega) _) | (refine below_drewN ?_ _) | (refine Below.drew ?_) | (refine Below.trans ?_ (Below.mono hbp (by first | (simp; done) | (simp; omega) | omega))) | (refine Below.trans ?_ (Below.mono hba (by first | (simp; done) | (simp; omega) | omega))) | (refine Below.trans ?_ (Below.mono hbc (by first | (simp; done) | (simp; omega) | omega))) | (refine Below.trans ?_ (Below.mono hbq (by first | (simp; done) | (simp; omega) | omega))))))⟩
      · skip
        go_simp
        obtain ⟨wc, hwc⟩ : ∃ x : World, x = (wp).alloc (.cells #[.int .i64 0] 3) := ⟨_, rfl⟩
        have hbc : Below (wp).heap.size (wp) wc := by rw [hwc]; exact (by (repeat (first | exact Below.refl _ _ | (refine Below.setCell ?_ (by first | (simp; done) | (simp; omega) | omega) _) | (refine Below.alloc ?_ (by first | (simp; done) | (simp; omega) | omega) _) | (refine below_drewN ?_ _) | (refine Below.drew ?_))))
        have A5 : RB1 wc wp.heap.size (.int .i64 0) := by rw [hwc]; exact RB1.mk1 (wp) _ _
        have ha5 : wp.heap.size < wc.heap.size := A5.lt
        have hdc : Below w0.heap.size w0 wc := (by (repeat (first | exact Below.refl _ _ | (refine Below.setCell ?_ (by first | (simp; done) | (simp; omega) | omega) _) | (refine Below.alloc ?_ (by first | (simp; done) | (simp; omega) | omega) _) | (refine below_drewN ?_ _) | (refine Below.drew ?_) | (refine Below.trans ?_ (Below.mono hbp (by first | (simp; done) | (simp; omega) | omega))) | (refine Below.trans ?_ (Below.mono hbc (by first | (simp; done) | (simp; omega) | omega))))))
        have hsc := hdc.size
        have fc0 := keep_cell hdc (Nat.le_refl _) x0
        have fc1 := keep_cell hdc (Nat.le_refl _) x1
        rw [← hwc]
        clear hwc
        clear hHeld
        have hHeld : (fun w' : World => w'.cell? ⟨w.heap.size, 0, none⟩ = some (.int .i64 m) ∧ w'.cell? ⟨w.heap.size, 1, none⟩ = some (.slice o n c)) wc := by go_keep
        refine hK.out _ _ (fun _ => hHeld) ?_
        clear hK K
        try simp only [List.getElem_toArray, List.getElem_cons_zero, List.getElem_cons_succ, Act.put, List.setIfInBounds_toArray, List.set_cons_zero, List.set_cons_succ]
        refine wpAnyK_two (i := 3) (j := 4) rfl rfl (by kernel_rfl) (fun K hK => ?_) (fun K hK => ?_)
        · skip
          go_simp
          go_at_call 64
          refine (degreeP_c m o n c _ hml).mono ?_
          rintro e wq ⟨rfl, hbq⟩
          have hdq : Below w0.heap.size w0 wq := (by (repeat (first | exact Below.refl _ _ | (refine Below.setCell ?_ (by first | (simp; done) | (simp; omega) | omega) _) | (refine Below.alloc ?_ (by first | (simp; done) | (simp; omega) | omega) _) | (refine below_drewN ?_ _) | (refine Below.drew ?_) | (refine Below.trans ?_ (Below.mono hbp (by first | (simp; done) | (simp; omega) | omega))) | (refine Below.trans ?_ (Below.mono hbc (by first | (simp; done) | (simp; omega) | omega))) | (refine Below.trans ?_ (Below.mono hbq (by first | (simp; done) | (simp; omega) | omega))))))
          have hsq := hdq.size
          have hzq : wc.heap.size ≤ wq.heap.size := by first | exact hbq.size | (have := hbq.size; simpa using this)
          have fq0 := keep_cell hdq (Nat.le_refl _) x0
          have fq1 := keep_cell hdq (Nat.le_refl _) x1
          go_wp2_with fail
          refine hK.out _ _ (fun h => absurd h (by decide)) ?_
          clear hK K
          try simp only [List.getElem_toArray, List.getElem_cons_zero, List.getElem_cons_succ, Act.put, List.setIfInBounds_toArray, List.set_cons_zero, List.set_cons_succ]
          refine wpAnyK_oneL (i := 4) rfl (by kernel_rfl) (fun K hK => ?_)
          go_simp
          obtain ⟨wa, hwa⟩ : ∃ x : World, x = (wq).alloc (.cells #[.slice none 0 0] 105) := ⟨_, rfl⟩
          have hba : Below (wq).heap.size (wq) wa := by rw [hwa]; exact (by (repeat (first | exact Below.refl _ _ | (refine Below.setCell ?_ (by first | (simp; done) | (simp; omega) | omega) _) | (refine Below.alloc ?_ (by first | (simp; done) | (simp; omega) | omega) _) | (refine below_drewN ?_ _) | (refine Below.drew ?_))))
          have A4 : RB1 wa wq.heap.size (.slice none 0 0) := by rw [hwa]; exact RB1.mk1 (wq) _ _
          have ha4 : wq.heap.size < wa.heap.size := A4.lt
          have hda : Below w0.heap.size w0 wa := (by (repeat (first | exact Below.refl _ _ | (refine Below.setCell ?_ (by first | (simp; done) | (simp; omega) | omega) _) | (refine Below.alloc ?_ (by first | (simp; done) | (simp; omega) | omega) _) | (refine below_drewN ?_ _) | (refine Below.drew ?_) | (refine Below.trans ?_ (Below.mono hbp (by first | (simp; done) | (simp; omega) | omega))) | (refine Below.trans ?_ (Below.mono hbc (by first | (simp; done) | (simp; omega) | omega))) | (refine Below.trans ?_ (Below.mono hbq (by first | (simp; done) | (simp; omega) | omega))) | (refine Below.trans ?_ (Below.mono hba (by first | (simp; done) | (simp; omega) | omega))))))
          have hsa := hda.size
          have fa0 := keep_cell hda (Nat.le_refl _) x0
          have fa1 := keep_cell hda (Nat.le_refl _) x1
          rw [← hwa]
          clear hwa
          clear hHeld
          have hHeld : (fun w' : World => w'.cell? ⟨w.heap.size, 0, none⟩ = some (.int .i64 m) ∧ w'.cell? ⟨w.heap.size, 1, none⟩ = some (.slice o n c)) wa := by go_keep
          refine hK.out _ _ (fun _ => hHeld) ?_
          clear hK K
          try simp only [List.getElem_toArray, List.getElem_cons_zero, List.getElem_cons_succ, Act.put, List.setIfInBounds_toArray, List.set_cons_zero, List.set_cons_succ]
          refine wpAnyK_oneL (i := 6) rfl (by kernel_rfl) (fun K hK => ?_)
          have L4 : RB1 wa wq.heap.size (.slice none 0 0) := A4.below (B := wa.heap.size) (by (repeat (first | exact Below.refl _ _ | (refine Below.setCell ?_ (by first | (simp; done) | (simp; omega) | omega) _) | (refine Below.alloc ?_ (by first | (simp; done) | (simp; omega) | omega) _) | (refine below_drewN ?_ _) | (refine Below.drew ?_) | (refine Below.trans ?_ (Below.mono hbp (by first | (simp; done) | (simp; omega) | omega))) | (refine Below.trans ?_ (Below.mono hbc (by first | (simp; done) | (simp; omega) | omega))) | (refine Below.trans ?_ (Below.mono hbq (by first | (simp; done) | (simp; omega) | omega))) | (refine Below.trans ?_ (Below.mono hba (by first | (simp; done) | (simp; omega) | omega)))))) (Nat.le_refl _)
          have L5 : RB1 wa wp.heap.size (.int .i64 0) := A5.below (B := wc.heap.size) (by (repeat (first | exact Below.refl _ _ | (refine Below.setCell ?_ (by first | (simp; done) | (simp; omega) | omega) _) | (refine Below.alloc ?_ (by first | (simp; done) | (simp; omega) | omega) _) | (refine below_drewN ?_ _) | (refine Below.drew ?_) | (refine Below.trans ?_ (Below.mono hbp (by first | (simp; done) | (simp; omega) | omega))) | (refine Below.trans ?_ (Below.mono hbc (by first | (simp; done) | (simp; omega) | omega))) | (refine Below.trans ?_ (Below.mono hbq (by first | (simp; done) | (simp; omega) | omega))) | (refine Below.trans ?_ (Below.mono hba (by first | (simp; done) | (simp; omega) | omega)))))) (Nat.le_refl _)
          obtain ⟨a4, a4f⟩ := id L4
          obtain ⟨a5, a5f⟩ := id L5
          have a4g := a4f 0
          have a5g := a5f 0
          have hne : wq.heap.size ≠ wp.heap.size := by omega
          have hne' : wp.heap.size ≠ wq.heap.size := by omega
          have hb4 : w0.heap.size ≤ wq.heap.size := by omega
          have hb5 : w0.heap.size ≤ wp.heap.size := by omega
          go_simp
          (try go_wp2_with fail)
          refine hK.out _ _ (fun h => absurd h (by decide)) ?_
          clear hK K
          try simp only [List.getElem_toArray, List.getElem_cons_zero, List.getElem_cons_succ, Act.put, List.setIfInBounds_toArray, List.set_cons_zero, List.set_cons_succ]
          refine wpAnyK_oneL (i := 7) rfl (by kernel_rfl) (fun K hK => ?_)
          go_simp
          (try go_wp2_with fail)
          refine hK.out _ _ (fun h => absurd h (by decide)) ?_
          clear hK K
          try simp only [List.getElem_toArray, List.getElem_cons_zero, List.getElem_cons_succ, Act.put, List.setIfInBounds_toArray, List.set_cons_zero, List.set_cons_succ]
          refine wpAnyK_done (by kernel_rfl) ?_ _
          go_wp2_with fail
          go_meet
          obtain ⟨c4, c5⟩ := L4.two L5 hne (.slice op n cp) (.int .i64 ((n : Int) - 1))
          exact ⟨_, _, _, op, cp, rfl, rfl, rfl, c5, c4, (((hrp.belowB (B := wp.heap.size) (by (repeat (first | exact Below.refl _ _ | (refine Below.setCell ?_ (by first | (simp; done) | (simp; omega) | omega) _) | (refine Below.alloc ?_ (by first | (simp; done) | (simp; omega) | omega) _) | (refine below_drewN ?_ _) | (refine Below.drew ?_) | (refine Below.trans ?_ (Below.mono hbp (by first | (simp; done) | (simp; omega) | omega))) | (refine Below.trans ?_ (Below.mono hbc (by first | (simp; done) | (simp; omega) | omega))) | (refine Below.trans ?_ (Below.mono hbq (by first | (simp; done) | (simp; omega) | omega))) | (refine Below.trans ?_ (Below.mono hba (by first | (simp; done) | (simp; omega) | omega)))))) (Nat.le_refl _)).put (by first | (simp; done) | (simp; omega) | omega) 0 _).put (by first | (simp; done) | (simp; omega) | omega) 0 _).now, (by (repeat (first | exact Below.refl _ _ | (refine Below.setCell ?_ (by first | (simp; done) | (simp; omega) | omega) _) | (refine Below.alloc ?_ (by first | (simp; done) | (simp; omega) | omega) _) | (refine below_drewN ?_ _) | (refine Below.drew ?_) | (refine Below.trans ?_ (Below.mono hbp (by first | (simp; done) | (simp; omega) | omega))) | (refine Below.trans ?_ (Below.mono hbc (by first | (simp; done) | (simp; omega) | omega))) | (refine Below.trans ?_ (Below.mono hbq (by first | (simp; done) | (simp; omega) | omega))) | (refine Below.trans ?_ (Below.mono hba (by first | (simp; done) | (simp; omega) | omega))))))⟩
        · skip
          go_simp
          obtain ⟨wa, hwa⟩ : ∃ x : World, x = (wc).alloc (.cells #[.slice none 0 0] 105) := ⟨_, rfl⟩
          have hba : Below (wc).heap.size (wc) wa := by rw [hwa]; exact (by (repeat (first | exact Below.refl _ _ | (refine Below.setCell ?_ (by first | (simp; done) | (simp; omega) | omega) _) | (refine Below.alloc ?_ (by first | (simp; done) | (simp; omega) | omega) _) | (refine below_drewN ?_ _) | (refine Below.drew ?_))))
          have A4 : RB1 wa wc.heap.size (.slice none 0 0) := by rw [hwa]; exact RB1.mk1 (wc) _ _
          have ha4 : wc.heap.size < wa.heap.size := A4.lt
          have hda : Below w0.heap.size w0 wa := (by (repeat (first | exact Below.refl _ _ | (refine Below.setCell ?_ (by first | (simp; done) | (simp; omega) | omega) _) | (refine Below.alloc ?_ (by first | (simp; done) | (simp; omega) | omega) _) | (refine below_drewN ?_ _) | (refine Below.drew ?_) | (refine Below.trans ?_ (Below.mono hbp (by first | (simp; done) | (simp; omega) | omega))) | (refine Below.trans ?_ (Below.mono hbc (by first | (simp; done) | (simp; omega) | omega))) | (refine Below.trans ?_ (Below.mono hba (by first | (simp; done) | (simp; omega) | omega))))))
          have hsa := hda.size
          have fa0 := keep_cell hda (Nat.le_refl _) x0
          have fa1 := keep_cell hda (Nat.le_refl _) x1
          rw [← hwa]
          clear hwa
          clear hHeld
          have hHeld : (fun w' : World => w'.cell? ⟨w.heap.size, 0, none⟩ = some (.int .i64 m) ∧ w'.cell? ⟨w.heap.size, 1, none⟩ = some (.slice o n c)) wa := by go_keep
          refine hK.out _ _ (fun _ => hHeld) ?_
          clear hK K
          try simp only [List.getElem_toArray, List.getElem_cons_zero, List.getElem_cons_succ, Act.put, List.setIfInBounds_toArray, List.set_cons_zero, List.set_cons_succ]
          refine wpAnyK_oneL (i := 3) rfl (by kernel_rfl) (fun K hK => ?_)
          go_simp
          go_at_call 64
          refine (degreeP_c m o n c _ hml).mono ?_
          rintro e wq ⟨rfl, hbq⟩
          have hdq : Below w0.heap.size w0 wq := (by (repeat (first | exact Below.refl _ _ | (refine Below.setCell ?_ (by first | (simp; done) | (simp; omega) | omega) _) | (refine Below.alloc ?_ (by first | (simp; done) | (simp; omega) | omega) _) | (refine below_drewN ?_ _) | (refine Below.drew ?_) | (refine Below.trans ?_ (Below.mono hbp (by first | (simp; done) | (simp; omega) | omega))) | (refine Below.trans ?_ (Below.mono hbc (by first | (simp; done) | (simp; omega) | omega))) | (refine Below.trans ?_ (Below.mono hba (by first | (simp; done) | (simp; omega) | omega))) | (refine Below.trans ?_ (Below.mono hbq (by first | (simp; done) | (simp; omega) | omega))))))
          have hsq := hdq.size
          have hzq : wa.heap.size ≤ wq.heap.size := by first | exact hbq.size | (have := hbq.size; simpa using this)
          have fq0 := keep_cell hdq (Nat.le_refl _) x0
          have fq1 := keep_cell hdq (Nat.le_refl _) x1
          go_wp2_with fail
          refine hK.out _ _ (fun h => absurd h (by decide)) ?_
          clear hK K
          try simp only [List.getElem_toArray, List.getElem_cons_zero, List.getElem_cons_succ, Act.put, List.setIfInBounds_toArray, List.set_cons_zero, List.set_cons_succ]
          refine wpAnyK_oneL (i := 6) rfl (by kernel_rfl) (fun K hK => ?_)
          have L4 : RB1 wq wc.heap.size (.slice none 0 0) := A4.below (B := wa.heap.size) (by (repeat (first | exact Below.refl _ _ | (refine Below.setCell ?_ (by first | (simp; done) | (simp; omega) | omega) _) | (refine Below.alloc ?_ (by first | (simp; done) | (simp; omega) | omega) _) | (refine below_drewN ?_ _) | (refine Below.drew ?_) | (refine Below.trans ?_ (Below.mono hbp (by first | (simp; done) | (simp; omega) | omega))) | (refine Below.trans ?_ (Below.mono hbc (by first | (simp; done) | (simp; omega) | omega))) | (refine Below.trans ?_ (Below.mono hba (by first | (simp; done) | (simp; omega) | omega))) | (refine Below.trans ?_ (Below.mono hbq (by first | (simp; done) | (simp; omega) | omega)))))) (Nat.le_refl _)
          have L5 : RB1 wq wp.heap.size (.int .i64 0) := A5.below (B := wc.heap.size) (by (repeat (first | exact Below.refl _ _ | (refine Below.setCell ?_ (by first | (simp; done) | (simp; omega) | omega) _) | (refine Below.alloc ?_ (by first | (simp; done) | (simp; omega) | omega) _) | (refine below_drewN ?_ _) | (refine Below.drew ?_) | (refine Below.trans ?_ (Below.mono hbp (by first | (simp; done) | (simp; omega) | omega))) | (refine Below.trans ?_ (Below.mono hbc (by first | (simp; done) | (simp; omega) | omega))) | (refine Below.trans ?_ (Below.mono hba (by first | (simp; done) | (simp; omega) | omega))) | (refine Below.trans ?_ (Below.mono hbq (by first | (simp; done) | (simp; omega) | omega)))))) (Nat.le_refl _)
          obtain ⟨a4, a4f⟩ := id L4
          obtain ⟨a5, a5f⟩ := id L5
          have a4g := a4f 0
          have a5g := a5f 0
          have hne : wc.heap.size ≠ wp.heap.size := by omega
          have hne' : wp.heap.size ≠ wc.heap.size := by omega
          have hb4 : w0.heap.size ≤ wc.heap.size := by omega
          have hb5 : w0.heap.size ≤ wp.heap.size := by omega
          go_simp
          (try go_wp2_with fail)
          refine hK.out _ _ (fun h => absurd h (by decide)) ?_
          clear hK K
          try simp only [List.getElem_toArray, List.getElem_cons_zero, List.getElem_cons_succ, Act.put, List.setIfInBounds_toArray, List.set_cons_zero, List.set_cons_succ]
          refine wpAnyK_oneL (i := 7) rfl (by kernel_rfl) (fun K hK => ?_)
          go_simp
          (try go_wp2_with fail)
          refine hK.out _ _ (fun h => absurd h (by decide)) ?_
          clear hK K
          try simp only [List.getElem_toArray, List.getElem_cons_zero, List.getElem_cons_succ, Act.put, List.setIfInBounds_toArray, List.set_cons_zero, List.set_cons_succ]
          refine wpAnyK_done (by kernel_rfl) ?_ _
          go_wp2_with fail
          go_meet
          obtain ⟨c4, c5⟩ := L4.two L5 hne (.slice op n cp) (.int .i64 ((n : Int) - 1))
          exact ⟨_, _, _, op, cp, rfl, rfl, rfl, c5, c4, (((hrp.belowB (B := wp.heap.size) (by (repeat (first | exact Below.refl _ _ | (refine Below.setCell ?_ (by first | (simp; done) | (simp; omega) | omega) _) | (refine Below.alloc ?_ (by first | (simp; done) | (simp; omega) | omega) _) | (refine below_drewN ?_ _) | (refine Below.drew ?_) | (refine Below.trans ?_ (Below.mono hbp (by first | (simp; done) | (simp; omega) | omega))) | (refine Below.trans ?_ (Below.mono hbc (by first | (simp; done) | (simp; omega) | omega))) | (refine Below.trans ?_ (Below.mono hba (by first | (simp; done) | (simp; omega) | omega))) | (refine Below.trans ?_ (Below.mono hbq (by first | (simp; done) | (simp; omega) | omega)))))) (Nat.le_refl _)).put (by first | (simp; done) | (simp; omega) | omega) 0 _).put (by first | (simp; done) | (simp; omega) | omega) 0 _).now, (by (repeat (first | exact Below.refl _ _ | (refine Below.setCell ?_ (by first | (simp; done) | (simp; omega) | omega) _) | (refine Below.alloc ?_ (by first | (simp; done) | (simp; omega) | omega) _) | (refine below_drewN ?_ _) | (refine Below.drew ?_) | (refine Below.trans ?_ (Below.mono hbp (by first | (simp; done) | (simp; omega) | omega))) | (refine Below.trans ?_ (Below.mono hbc (by first | (simp; done) | (simp; omega) | omega))) | (refine Below.trans ?_ (Below.mono hba (by first | (simp; done) | (simp; omega) | omega))) | (refine Below.trans ?_ (Below.mono hbq (by first | (simp; done) | (simp; omega) | omega))))))⟩
    · skip
      go_simp
      obtain ⟨wa, hwa⟩ : ∃ x : World, x = (w0.alloc (.cells #[.slice none 0 0] 105)).drew := ⟨_, rfl⟩
      have hba : Below (w0).heap.size (w0) wa := by rw [hwa]; exact (by (repeat (first | exact Below.refl _ _ | (refine Below.setCell ?_ (by first | (simp; done) | (simp; omega) | omega) _) | (refine Below.alloc ?_ (by first | (simp; done) | (simp; omega) | omega) _) | (refine below_drewN ?_ _) | (refine Below.drew ?_))))
      have A4 : RB1 wa w0.heap.size (.slice none 0 0) := by rw [hwa]; exact RB1.mk1 (w0) _ _
      have ha4 : w0.heap.size < wa.heap.size := A4.lt
      have hda : Below w0.heap.size w0 wa := (by (repeat (first | exact Below.refl _ _ | (refine Below.setCell ?_ (by first | (simp; done) | (simp; omega) | omega) _) | (refine Below.alloc ?_ (by first | (simp; done) | (simp; omega) | omega) _) | (refine below_drewN ?_ _) | (refine Below.drew ?_) | (refine Below.trans ?_ (Below.mono hba (by first | (simp; done) | (simp; omega) | omega))))))
      have hsa := hda.size
      have fa0 := keep_cell hda (Nat.le_refl _) x0
      have fa1 := keep_cell hda (Nat.le_refl _) x1
      rw [← hwa]
      clear hwa
      clear hHeld
      have hHeld : (fun w' : World => w'.cell? ⟨w.heap.size, 0, none⟩ = some (.int .i64 m) ∧ w'.cell? ⟨w.heap.size, 1, none⟩ = some (.slice o n c)) wa := by go_keep
      refine hK.out _ _ (fun _ => hHeld) ?_
      clear hK K
      try simp only [List.getElem_toArray, List.getElem_cons_zero, List.getElem_cons_succ, Act.put, List.setIfInBounds_toArray, List.set_cons_zero, List.set_cons_succ]
      refine wpAnyK_two (i := 1) (j := 5) rfl rfl (by kernel_rfl) (fun K hK => ?_) (fun K hK => ?_)
      · skip
        go_simp
        go_at_call 146
        refine (powersP_c m n _ t _ (hu0.below (by (repeat (first | exact Below.refl _ _ | (refine Below.setCell ?_ (by first | (simp; done) | (simp; omega) | omega) _) | (refine Below.alloc ?_ (by first | (simp; done) | (simp; omega) | omega) _) | (refine below_drewN ?_ _) | (refine Below.drew ?_) | (refine Below.trans ?_ (Below.mono hba (by first | (simp; done) | (simp; omega) | omega)))))) (Nat.le_refl _)) h1 hn hm hm' HT.out).mono ?_
        rintro e wp ⟨vp, rfl, hol, hbp⟩
        obtain ⟨op, cp, rfl⟩ := hol.shapeN (n := n) (powsT_len _ _ _ _)
        have hrp := hol.rds
        have hlp := hol.lt
        clear hol
        have hdp : Below w0.heap.size w0 wp := (by (repeat (first | exact Below.refl _ _ | (refine Below.setCell ?_ (by first | (simp; done) | (simp; omega) | omega) _) | (refine Below.alloc ?_ (by first | (simp; done) | (simp; omega) | omega) _) | (refine below_drewN ?_ _) | (refine Below.drew ?_) | (refine Below.trans ?_ (Below.mono hba (by first | (simp; done) | (simp; omega) | omega))) | (refine Below.trans ?_ (Below.mono hbp (by first | (simp; done) | (simp; omega) | omega))))))
        have hsp := hdp.size
        have hzp : wa.heap.size ≤ wp.heap.size := by first | exact hbp.size | (have := hbp.size; simpa using this)
        have fp0 := keep_cell hdp (Nat.le_refl _) x0
        have fp1 := keep_cell hdp (Nat.le_refl _) x1
        go_wp2_with fail
        clear hHeld
        have hHeld : (fun w' : World => w'.cell? ⟨w.heap.size, 0, none⟩ = some (.int .i64 m) ∧ w'.cell? ⟨w.heap.size, 1, none⟩ = some (.slice o n c)) wp := by go_keep
        refine hK.out _ _ (fun _ => hHeld) ?_
        clear hK K
        try simp only [List.getElem_toArray, List.getElem_cons_zero, List.getElem_cons_succ, Act.put, List.setIfInBounds_toArray, List.set_cons_zero, List.set_cons_succ]
        refine wpAnyK_two (i := 3) (j := 5) rfl rfl (by kernel_rfl) (fun K hK => ?_) (fun K hK => ?_)
        · skip
          go_simp
          go_at_call 64
          refine (degreeP_c m o n c _ hml).mono ?_
          rintro e wq ⟨rfl, hbq⟩
          have hdq : Below w0.heap.size w0 wq := (by (repeat (first | exact Below.refl _ _ | (refine Below.setCell ?_ (by first | (simp; done) | (simp; omega) | omega) _) | (refine Below.alloc ?_ (by first | (simp; done) | (simp; omega) | omega) _) | (refine below_drewN ?_ _) | (refine Below.drew ?_) | (refine Below.trans ?_ (Below.mono hba (by first | (simp; done) | (simp; omega) | omega))) | (refine Below.trans ?_ (Below.mono hbp (by first | (simp; done) | (simp; omega) | omega))) | (refine Below.trans ?_ (Below.mono hbq (by first | (simp; done) | (simp; omega) | omega))))))
          have hsq := hdq.size
          have hzq : wp.heap.size ≤ wq.heap.size := by first | exact hbq.size | (have := hbq.size; simpa using this)
          have fq0 := keep_cell hdq (Nat.le_refl _) x0
          have fq1 := keep_cell hdq (Nat.le_refl _) x1
          go_wp2_with fail
          refine hK.out _ _ (fun h => absurd h (by decide)) ?_
          clear hK K
          try simp only [List.getElem_toArray, List.getElem_cons_zero, List.getElem_cons_succ, Act.put, List.setIfInBounds_toArray, List.set_cons_zero, List.set_cons_succ]
          refine wpAnyK_oneL (i := 5) rfl (by kernel_rfl) (fun K hK => ?_)
          go_simp
          obtain ⟨wc, hwc⟩ : ∃ x : World, x = (wq).alloc (.cells #[.int .i64 0] 3) := ⟨_, rfl⟩
          have hbc : Below (wq).heap.size (wq) wc := by rw [hwc]; exact (by (repeat (first | exact Below.refl _ _ | (refine Below.setCell ?_ (by first | (simp; done) | (simp; omega) | omega) _) | (refine Below.alloc ?_ (by first | (simp; done) | (simp; omega) | omega) _) | (refine below_drewN ?_ _) | (refine Below.drew ?_))))
          have A5 : RB1 wc wq.heap.size (.int .i64 0) := by rw [hwc]; exact RB1.mk1 (wq) _ _
          have ha5 : wq.heap.size < wc.heap.size := A5.lt
          have hdc : Below w0.heap.size w0 wc := (by (repeat (first | exact Below.refl _ _ | (refine Below.setCell ?_ (by first | (simp; done) | (simp; omega) | omega) _) | (refine Below.alloc ?_ (by first | (simp; done) | (simp; omega) | omega) _) | (refine below_drewN ?_ _) | (refine Below.drew ?_) | (refine Below.trans ?_ (Below.mono hba (by first | (simp; done) | (simp; omega) | omega))) | (refine Below.trans ?_ (Below.mono hbp (by first | (simp; done) | (simp; omega) | omega))) | (refine Below.trans ?_ (Below.mono hbq (by first | (simp; done) | (simp; omega) | omega))) | (refine Below.trans ?_ (Below.mono hbc (by first | (simp; done) | (simp; omega) | omega))))))
          have hsc := hdc.size
          have fc0 := keep_cell hdc (Nat.le_refl _) x0
          have fc1 := keep_cell hdc (Nat.le_refl _) x1
          rw [← hwc]
          clear hwc
          clear hHeld
          have hHeld : (fun w' : World => w'.cell? ⟨w.heap.size, 0, none⟩ = some (.int .i64 m) ∧ w'.cell? ⟨w.heap.size, 1, none⟩ = some (.slice o n c)) wc := by go_keep
          refine hK.out _ _ (fun _ => hHeld) ?_
          clear hK K
          try simp only [List.getElem_toArray, List.getElem_cons_zero, List.getElem_cons_succ, Act.put, List.setIfInBounds_toArray, List.set_cons_zero, List.set_cons_succ]
          refine wpAnyK_oneL (i := 6) rfl (by kernel_rfl) (fun K hK => ?_)
          have L4 : RB1 wc w0.heap.size (.slice none 0 0) := A4.below (B := wa.heap.size) (by (repeat (first | exact Below.refl _ _ | (refine Below.setCell ?_ (by first | (simp; done) | (simp; omega) | omega) _) | (refine Below.alloc ?_ (by first | (simp; done) | (simp; omega) | omega) _) | (refine below_drewN ?_ _) | (refine Below.drew ?_) | (refine Below.trans ?_ (Below.mono hba (by first | (simp; done) | (simp; omega) | omega))) | (refine Below.trans ?_ (Below.mono hbp (by first | (simp; done) | (simp; omega) | omega))) | (refine Below.trans ?_ (Below.mono hbq (by first | (simp; done) | (simp; omega) | omega))) | (refine Below.trans ?_ (Below.mono hbc (by first | (simp; done) | (simp; omega) | omega)))))) (Nat.le_refl _)
          have L5 : RB1 wc wq.heap.size (.int .i64 0) := A5.below (B := wc.heap.size) (by (repeat (first | exact Below.refl _ _ | (refine Below.setCell ?_ (by first | (simp; done) | (simp; omega) | omega) _) | (refine Below.alloc ?_ (by first | (simp; done) | (simp; omega) | omega) _) | (refine below_drewN ?_ _) | (refine Below.drew ?_) | (refine Below.trans ?_ (Below.mono hba (by first | (simp; done) | (simp; omega) | omega))) | (refine Below.trans ?_ (Below.mono hbp (by first | (simp; done) | (simp; omega) | omega))) | (refine Below.trans ?_ (Below.mono hbq (by first | (simp; done) | (simp; omega) | omega))) | (refine Below.trans ?_ (Below.mono hbc (by first | (simp; done) | (simp; omega) | omega)))))) (Nat.le_refl _)
          obtain ⟨a4, a4f⟩ := id L4
          obtain ⟨a5, a5f⟩ := id L5
          have a4g := a4f 0
          have a5g := a5f 0
          have hne : w0.heap.size ≠ wq.heap.size := by omega
          have hne' : wq.heap.size ≠ w0.heap.size := by omega
          have hb4 : w0.heap.size ≤ w0.heap.size := by omega
          have hb5 : w0.heap.size ≤ wq.heap.size := by omega
          go_simp
          (try go_wp2_with fail)
          refine hK.out _ _ (fun h => absurd h (by decide)) ?_
          clear hK K
          try simp only [List.getElem_toArray, List.getElem_cons_zero, List.getElem_cons_succ, Act.put, List.setIfInBounds_toArray, List.set_cons_zero, List.set_cons_succ]
          refine wpAnyK_oneL (i := 7) rfl (by kernel_rfl) (fun K hK => ?_)
          go_simp
          (try go_wp2_with fail)
          refine hK.out _ _ (fun h => absurd h (by decide)) ?_
          clear hK K
          try simp only [List.getElem_toArray, List.getElem_cons_zero, List.getElem_cons_succ, Act.put, List.setIfInBounds_toArray, List.set_cons_zero, List.set_cons_succ]
          refine wpAnyK_done (by kernel_rfl) ?_ _
          go_wp2_with fail
          go_meet
          obtain ⟨c4, c5⟩ := L4.two L5 hne (.slice op n cp) (.int .i64 ((n : Int) - 1))
          exact ⟨_, _, _, op, cp, rfl, rfl, rfl, c5, c4, (((hrp.belowB (B := wp.heap.size) (by (repeat (first | exact Below.refl _ _ | (refine Below.setCell ?_ (by first | (simp; done) | (simp; omega) | omega) _) | (refine Below.alloc ?_ (by first | (simp; done) | (simp; omega) | omega) _) | (refine below_drewN ?_ _) | (refine Below.drew ?_) | (refine Below.trans ?_ (Below.mono hba (by first | (simp; done) | (simp; omega) | omega))) | (refine Below.trans ?_ (Below.mono hbp (by first | (simp; done) | (simp; omega) | omega))) | (refine Below.trans ?_ (Below.mono hbq (by first | (simp; done) | (simp; omega) | omega))) | (refine Below.trans ?_ (Below.mono hbc (by first | (simp; done) | (simp; omega) | omega)))))) (Nat.le_refl _)).put (by first | (simp; done) | (simp; omega) | omega) 0 _).put (by first | (simp; done) | (simp; omega) | omega) 0 _).now, (by (repeat (first | exact Below.refl _ _ | (refine Below.setCell ?_ (by first | (simp; done) | (simp; omega) | omega) _) | (refine Below.alloc ?_ (by first | (simp; done) | (simp; omega) | omega) _) | (refine below_drewN ?_ _) | (refine Below.drew ?_) | (refine Below.trans ?_ (Below.mono hba (by first | (simp; done) | (simp; omega) | omega))) | (refine Below.trans ?_ (Below.mono hbp (by first | (simp; done) | (simp; omega) | omega))) | (refine Below.trans ?_ (Below.mono hbq (by first | (simp; done) | (simp; omega) | omega))) | (refine Below.trans ?_ (Below.mono hbc (by first | (simp; done) | (simp; omega) | omega))))))⟩
        · skip
          go_simp
          obtain ⟨wc, hwc⟩ : ∃ x : World, x = (wp).alloc (.cells #[.int .i64 0] 3) := ⟨_, rfl⟩
          have hbc : Below (wp).heap.size (wp) wc := by rw [hwc]; exact (by (repeat (first | exact Below.refl _ _ | (refine Below.setCell ?_ (by first | (simp; done) | (simp; omega) | omega) _) | (refine Below.alloc ?_ (by first | (simp; done) | (simp; omega) | omega) _) | (refine below_drewN ?_ _) | (refine Below.drew ?_))))
          have A5 : RB1 wc wp.heap.size (.int .i64 0) := by rw [hwc]; exact RB1.mk1 (wp) _ _
          have ha5 : wp.heap.size < wc.heap.size := A5.lt
          have hdc : Below w0.heap.size w0 wc := (by (repeat (first | exact Below.refl _ _ | (refine Below.setCell ?_ (by first | (simp; done) | (simp; omega) | omega) _) | (refine Below.alloc ?_ (by first | (simp; done) | (simp; omega) | omega) _) | (refine below_drewN ?_ _) | (refine Below.drew ?_) | (refine Below.trans ?_ (Below.mono hba (by first | (simp; done) | (simp; omega) | omega))) | (refine Below.trans ?_ (Below.mono hbp (by first | (simp; done) | (simp; omega) | omega))) | (refine Below.trans ?_ (Below.mono hbc (by first | (simp; done) | (simp; omega) | omega))))))
          have hsc := hdc.size
          have fc0 := keep_cell hdc (Nat.le_refl _) x0
          have fc1 := keep_cell hdc (Nat.le_refl _) x1
          rw [← hwc]
          clear hwc
          clear hHeld
          have hHeld : (fun w' : World => w'.cell? ⟨w.heap.size, 0, none⟩ = some (.int .i64 m) ∧ w'.cell? ⟨w.heap.size, 1, none⟩ = some (.slice o n c)) wc := by go_keep
          refine hK.out _ _ (fun _ => hHeld) ?_
          clear hK K
          try simp only [List.getElem_toArray, List.getElem_cons_zero, List.getElem_cons_succ, Act.put, List.setIfInBounds_toArray, List.set_cons_zero, List.set_cons_succ]
          refine wpAnyK_oneL (i := 3) rfl (by kernel_rfl) (fun K hK => ?_)
          go_simp
          go_at_call 64
          refine (degreeP_c m o n c _ hml).mono ?_
          rintro e wq ⟨rfl, hbq⟩
          have hdq : Below w0.heap.size w0 wq := (by (repeat (first | exact Below.refl _ _ | (refine Below.setCell ?_ (by first | (simp; done) | (simp; omega) | omega) _) | (refine Below.alloc ?_ (by first | (simp; done) | (simp; omega) | omega) _) | (refine below_drewN ?_ _) | (refine Below.drew ?_) | (refine Below.trans ?_ (Below.mono hba (by first | (simp; done) | (simp; omega) | omega))) | (refine Below.trans ?_ (Below.mono hbp (by first | (simp; done) | (simp; omega) | omega))) | (refine Below.trans ?_ (Below.mono hbc (by first | (simp; done) | (simp; omega) | omega))) | (refine Below.trans ?_ (Below.mono hbq (by first | (simp; done) | (simp; omega) | omega))))))
          have hsq := hdq.size
          have hzq : wc.heap.size ≤ wq.heap.size := by first | exact hbq.size | (have := hbq.size; simpa using this)
          have fq0 := keep_cell hdq (Nat.le_refl _) x0
          have fq1 := keep_cell hdq (Nat.le_refl _) x1
          go_wp2_with fail
          refine hK.out _ _ (fun h => absurd h (by decide)) ?_
          clear hK K
          try simp only [List.getElem_toArray, List.getElem_cons_zero, List.getElem_cons_succ, Act.put, List.setIfInBounds_toArray, List.set_cons_zero, List.set_cons_succ]
          refine wpAnyK_oneL (i := 6) rfl (by kernel_rfl) (fun K hK => ?_)
          have L4 : RB1 wq w0.heap.size (.slice none 0 0) := A4.below (B := wa.heap.size) (by (repeat (first | exact Below.refl _ _ | (refine Below.setCell ?_ (by first | (simp; done) | (simp; omega) | omega) _) | (refine Below.alloc ?_ (by first | (simp; done) | (simp; omega) | omega) _) | (refine below_drewN ?_ _) | (refine Below.drew ?_) | (refine Below.trans ?_ (Below.mono hba (by first | (simp; done) | (simp; omega) | omega))) | (refine Below.trans ?_ (Below.mono hbp (by first | (simp; done) | (simp; omega) | omega))) | (refine Below.trans ?_ (Below.mono hbc (by first | (simp; done) | (simp; omega) | omega))) | (refine Below.trans ?_ (Below.mono hbq (by first | (simp; done) | (simp; omega) | omega)))))) (Nat.le_refl _)
          have L5 : RB1 wq wp.heap.size (.int .i64 0) := A5.below (B := wc.heap.size) (by (repeat (first | exact Below.refl _ _ | (refine Below.setCell ?_ (by first | (simp; done) | (simp; omega) | omega) _) | (refine Below.alloc ?_ (by first | (simp; done) | (simp; omega) | omega) _) | (refine below_drewN ?_ _) | (refine Below.drew ?_) | (refine Below.trans ?_ (Below.mono hba (by first | (simp; done) | (simp; omega) | omega))) | (refine Below.trans ?_ (Below.mono hbp (by first | (simp; done) | (simp; omega) | omega))) | (refine Below.trans ?_ (Below.mono hbc (by first | (simp; done) | (simp; omega) | omega))) | (refine Below.trans ?_ (Below.mono hbq (by first | (simp; done) | (simp; omega) | omega)))))) (Nat.le_refl _)
          obtain ⟨a4, a4f⟩ := id L4
          obtain ⟨a5, a5f⟩ := id L5
          have a4g := a4f 0
          have a5g := a5f 0
          have hne : w0.heap.size ≠ wp.heap.size := by omega
          have hne' : wp.heap.size ≠ w0.heap.size := by omega
          have hb4 : w0.heap.size ≤ w0.heap.size := by omega
          have hb5 : w0.heap.size ≤ wp.heap.size := by omega
          go_simp
          (try go_wp2_with fail)
          refine hK.out _ _ (fun h => absurd h (by decide)) ?_
          clear hK K
          try simp only [List.getElem_toArray, List.getElem_cons_zero, List.getElem_cons_succ, Act.put, List.setIfInBounds_toArray, List.set_cons_zero, List.set_cons_succ]
          refine wpAnyK_oneL (i := 7) rfl (by kernel_rfl) (fun K hK => ?_)
          go_simp
          (try go_wp2_with fail)
          refine hK.out _ _ (fun h => absurd h (by decide)) ?_
          clear hK K
          try simp only [List.getElem_toArray, List.getElem_cons_zero, List.getElem_cons_succ, Act.put, List.setIfInBounds_toArray, List.set_cons_zero, List.set_cons_succ]
          refine wpAnyK_done (by kernel_rfl) ?_ _
          go_wp2_with fail
          go_meet
          obtain ⟨c4, c5⟩ := L4.two L5 hne (.slice op n cp) (.int .i64 ((n : Int) - 1))
          exact ⟨_, _, _, op, cp, rfl, rfl, rfl, c5, c4, (((hrp.belowB (B := wp.heap.size) (by (repeat (first | exact Below.refl _ _ | (refine Below.setCell ?_ (by first | (simp; done) | (simp; omega) | omega) _) | (refine Below.alloc ?_ (by first | (simp; done) | (simp; omega) | omega) _) | (refine below_drewN ?_ _) | (refine Below.drew ?_) | (refine Below.trans ?_ (Below.mono hba (by first | (simp; done) | (simp; omega) | omega))) | (refine Below.trans ?_ (Below.mono hbp (by first | (simp; done) | (simp; omega) | omega))) | (refine Below.trans ?_ (Below.mono hbc (by first | (simp; done) | (simp; omega) | omega))) | (refine Below.trans ?_ (Below.mono hbq (by first | (simp; done) | (simp; omega) | omega)))))) (Nat.le_refl _)).put (by first | (simp; done) | (simp; omega) | omega) 0 _).put (by first | (simp; done) | (simp; omega) | omega) 0 _).now, (by (repeat (first | exact Below.refl _ _ | (refine Below.setCell ?_ (by first | (simp; done) | (simp; omega) | omega) _) | (refine Below.alloc ?_ (by first | (simp; done) | (simp; omega) | omega) _) | (refine below_drewN ?_ _) | (refine Below.drew ?_) | (refine Below.trans ?_ (Below.mono hba (by first | (simp; done) | (simp; omega) | omega))) | (refine Below.trans ?_ (Below.mono hbp (by first | (simp; done) | (simp; omega) | omega))) | (refine Below.trans ?_ (Below.mono hbc (by first | (simp; done) | (simp; omega) | omega))) | (refine Below.trans ?_ (Below.mono hbq (by first | (simp; done) | (simp; omega) | omega))))))⟩
      · skip
        go_simp
        obtain ⟨wc, hwc⟩ : ∃ x : World, x = (wa).alloc (.cells #[.int .i64 0] 3) := ⟨_, rfl⟩
        have hbc : Below (wa).heap.size (wa) wc := by rw [hwc]; exact (by (repeat (first | exact Below.refl _ _ | (refine Below.setCell ?_ (by first | (simp; done) | (simp; omega) | omega) _) | (refine Below.alloc ?_ (by first | (simp; done) | (simp; omega) | omega) _) | (refine below_drewN ?_ _) | (refine Below.drew ?_))))
        have A5 : RB1 wc wa.heap.size (.int .i64 0) := by rw [hwc]; exact RB1.mk1 (wa) _ _
        have ha5 : wa.heap.size < wc.heap.size := A5.lt
        have hdc : Below w0.heap.size w0 wc := (by (repeat (first | exact Below.refl _ _ | (refine Below.setCell ?_ (by first | (simp; done) | (simp; omega) | omega) _) | (refine Below.alloc ?_ (by first | (simp; done) | (simp; omega) | omega) _) | (refine below_drewN ?_ _) | (refine Below.drew ?_) | (refine Below.trans ?_ (Below.mono hba (by first | (simp; done) | (simp; omega) | omega))) | (refine Below.trans ?_ (Below.mono hbc (by first | (simp; done) | (simp; omega) | omega))))))
        have hsc := hdc.size
        have fc0 := keep_cell hdc (Nat.le_refl _) x0
        have fc1 := keep_cell hdc (Nat.le_refl _) x1
        rw [← hwc]
        clear hwc
        clear hHeld
        have hHeld : (fun w' : World => w'.cell? ⟨w.heap.size, 0, none⟩ = some (.int .i64 m) ∧ w'.cell? ⟨w.heap.size, 1, none⟩ = some (.slice o n c)) wc := by go_keep
        refine hK.out _ _ (fun _ => hHeld) ?_
        clear hK K
        try simp only [List.getElem_toArray, List.getElem_cons_zero, List.getElem_cons_succ, Act.put, List.setIfInBounds_toArray, List.set_cons_zero, List.set_cons_succ]
        refine wpAnyK_oneL (i := 1) rfl (by kernel_rfl) (fun K hK => ?_)
        go_simp
        go_at_call 146
        refine (powersP_c m n _ t _ (hu0.below (by (repeat (first | exact Below.refl _ _ | (refine Below.setCell ?_ (by first | (simp; done) | (simp; omega) | omega) _) | (refine Below.alloc ?_ (by first | (simp; done) | (simp; omega) | omega) _) | (refine below_drewN ?_ _) | (refine Below.drew ?_) | (refine Below.trans ?_ (Below.mono hba (by first | (simp; done) | (simp; omega) | omega))) | (refine Below.trans ?_ (Below.mono hbc (by first | (simp; done) | (simp; omega) | omega)))))) (Nat.le_refl _)) h1 hn hm hm' HT.out).mono ?_
        rintro e wp ⟨vp, rfl, hol, hbp⟩
        obtain ⟨op, cp, rfl⟩ := hol.shapeN (n := n) (powsT_len _ _ _ _)
        have hrp := hol.rds
        have hlp := hol.lt
        clear hol
        have hdp : Below w0.heap.size w0 wp := (by (repeat (first | exact Below.refl _ _ | (refine Below.setCell ?_ (by first | (simp; done) | (simp; omega) | omega) _) | (refine Below.alloc ?_ (by first | (simp; done) | (simp; omega) | omega) _) | (refine below_drewN ?_ _) | (refine Below.drew ?_) | (refine Below.trans ?_ (Below.mono hba (by first | (simp; done) | (simp; omega) | omega))) | (refine Below.trans ?_ (Below.mono hbc (by first | (simp; done) | (simp; omega) | omega))) | (refine Below.trans ?_ (Below.mono hbp (by first | (simp; done) | (simp; omega) | omega))))))
        have hsp := hdp.size
        have hzp : wc.heap.size ≤ wp.heap.size := by first | exact hbp.size | (have := hbp.size; simpa using this)
        have fp0 := keep_cell hdp (Nat.le_refl _) x0
        have fp1 := keep_cell hdp (Nat.le_refl _) x1
        go_wp2_with fail
        clear hHeld
        have hHeld : (fun w' : World => w'.cell? ⟨w.heap.size, 0, none⟩ = some (.int .i64 m) ∧ w'.cell? ⟨w.heap.size, 1, none⟩ = some (.slice o n c)) wp := by go_keep
        refine hK.out _ _ (fun _ => hHeld) ?_
        clear hK K
        try simp only [List.getElem_toArray, List.getElem_cons_zero, List.getElem_cons_succ, Act.put, List.setIfInBounds_toArray, List.set_cons_zero, List.set_cons_succ]
        refine wpAnyK_oneL (i := 3) rfl (by kernel_rfl) (fun K hK => ?_)
        go_simp
        go_at_call 64
        refine (degreeP_c m o n c _ hml).mono ?_
        rintro e wq ⟨rfl, hbq⟩
        have hdq : Below w0.heap.size w0 wq := (by (repeat (first | exact Below.refl _ _ | (refine Below.setCell ?_ (by first | (simp; done) | (simp; omega) | omega) _) | (refine Below.alloc ?_ (by first | (simp; done) | (simp; omega) | omega) _) | (refine below_drewN ?_ _) | (refine Below.drew ?_) | (refine Below.trans ?_ (Below.mono hba (by first | (simp; done) | (simp; omega) | omega))) | (refine Below.trans ?_ (Below.mono hbc (by first | (simp; done) | (simp; omega) | omega))) | (refine Below.trans ?_ (Below.mono hbp (by first | (simp; done) | (simp; omega) | omega))) | (refine Below.trans ?_ (Below.mono hbq (by first | (simp; done) | (simp; omega) | omega))))))
        have hsq := hdq.size
        have hzq : wp.heap.size ≤ wq.heap.size := by first | exact hbq.size | (have := hbq.size; simpa using this)
        have fq0 := keep_cell hdq (Nat.le_refl _) x0
        have fq1 := keep_cell hdq (Nat.le_refl _) x1
        go_wp2_with fail
        refine hK.out _ _ (fun h => absurd h (by decide)) ?_
        clear hK K
        try simp only [List.getElem_toArray, List.getElem_cons_zero, List.getElem_cons_succ, Act.put, List.setIfInBounds_toArray, List.set_cons_zero, List.set_cons_succ]
        refine wpAnyK_oneL (i := 6) rfl (by kernel_rfl) (fun K hK => ?_)
        have L4 : RB1 wq w0.heap.size (.slice none 0 0) := A4.below (B := wa.heap.size) (by (repeat (first | exact Below.refl _ _ | (refine Below.setCell ?_ (by first | (simp; done) | (simp; omega) | omega) _) | (refine Below.alloc ?_ (by first | (simp; done) | (simp; omega) | omega) _) | (refine below_drewN ?_ _) | (refine Below.drew ?_) | (refine Below.trans ?_ (Below.mono hba (by first | (simp; done) | (simp; omega) | omega))) | (refine Below.trans ?_ (Below.mono hbc (by first | (simp; done) | (simp; omega) | omega))) | (refine Below.trans ?_ (Below.mono hbp (by first | (simp; done) | (simp; omega) | omega))) | (refine Below.trans ?_ (Below.mono hbq (by first | (simp; done) | (simp; omega) | omega)))))) (Nat.le_refl _)
        have L5 : RB1 wq wa.heap.size (.int .i64 0) := A5.below (B := wc.heap.size) (by (repeat (first | exact Below.refl _ _ | (refine Below.setCell ?_ (by first | (simp; done) | (simp; omega) | omega) _) | (refine Below.alloc ?_ (by first | (simp; done) | (simp; omega) | omega) _) | (refine below_drewN ?_ _) | (refine Below.drew ?_) | (refine Below.trans ?_ (Below.mono hba (by first | (simp; done) | (simp; omega) | omega))) | (refine Below.trans ?_ (Below.mono hbc (by first | (simp; done) | (simp; omega) | omega))) | (refine Below.trans ?_ (Below.mono hbp (by first | (simp; done) | (simp; omega) | omega))) | (refine Below.trans ?_ (Below.mono hbq (by first | (simp; done) | (simp; omega) | omega)))))) (Nat.le_refl _)
        obtain ⟨a4, a4f⟩ := id L4
        obtain ⟨a5, a5f⟩ := id L5
        have a4g := a4f 0
        have a5g := a5f 0
        have hne : w0.heap.size ≠ wa.heap.size := by omega
        have hne' : wa.heap.size ≠ w0.heap.size := by omega
        have hb4 : w0.heap.size ≤ w0.heap.size := by omega
        have hb5 : w0.heap.size ≤ wa.heap.size := by omega
        go_simp
        (try go_wp2_with fail)
        refine hK.out _ _ (fun h => absurd h (by decide)) ?_
        clear hK K
        try simp only [List.getElem_toArray, List.getElem_cons_zero, List.getElem_cons_succ, Act.put, List.setIfInBounds_toArray, List.set_cons_zero, List.set_cons_succ]
        refine wpAnyK_oneL (i := 7) rfl (by kernel_rfl) (fun K hK => ?_)
        go_simp
        (try go_wp2_with fail)
        refine hK.out _ _ (fun h => absurd h (by decide)) ?_
        clear hK K
        try simp only [List.getElem_toArray, List.getElem_cons_zero, List.getElem_cons_succ, Act.put, List.setIfInBounds_toArray, List.set_cons_zero, List.set_cons_succ]
        refine wpAnyK_done (by kernel_rfl) ?_ _
        go_wp2_with fail
        go_meet
        obtain ⟨c4, c5⟩ := L4.two L5 hne (.slice op n cp) (.int .i64 ((n : Int) - 1))
        exact ⟨_, _, _, op, cp, rfl, rfl, rfl, c5, c4, (((hrp.belowB (B := wp.heap.size) (by (repeat (first | exact Below.refl _ _ | (refine Below.setCell ?_ (by first | (simp; done) | (simp; omega) | omega) _) | (refine Below.alloc ?_ (by first | (simp; done) | (simp; omega) | omega) _) | (refine below_drewN ?_ _) | (refine Below.drew ?_) | (refine Below.trans ?_ (Below.mono hba (by first | (simp; done) | (simp; omega) | omega))) | (refine Below.trans ?_ (Below.mono hbc (by first | (simp; done) | (simp; omega) | omega))) | (refine Below.trans ?_ (Below.mono hbp (by first | (simp; done) | (simp; omega) | omega))) | (refine Below.trans ?_ (Below.mono hbq (by first | (simp; done) | (simp; omega) | omega)))))) (Nat.le_refl _)).put (by first | (simp; done) | (simp; omega) | omega) 0 _).put (by first | (simp; done) | (simp; omega) | omega) 0 _).now, (by (repeat (first | exact Below.refl _ _ | (refine Below.setCell ?_ (by first | (simp; done) | (simp; omega) | omega) _) | (refine Below.alloc ?_ (by first | (simp; done) | (simp; omega) | omega) _) | (refine below_drewN ?_ _) | (refine Below.drew ?_) | (refine Below.trans ?_ (Below.mono hba (by first | (simp; done) | (simp; omega) | omega))) | (refine Below.trans ?_ (Below.mono hbc (by first | (simp; done) | (simp; omega) | omega))) | (refine Below.trans ?_ (Below.mono hbp (by first | (simp; done) | (simp; omega) | omega))) | (refine Below.trans ?_ (Below.mono hbq (by first | (simp; done) | (simp; omega) | omega))))))⟩
    · skip
      go_simp
      obtain ⟨wc, hwc⟩ : ∃ x : World, x = (w0.alloc (.cells #[.int .i64 0] 3)).drew := ⟨_, rfl⟩
      have hbc : Below (w0).heap.size (w0) wc := by rw [hwc]; exact (by (repeat (first | exact Below.refl _ _ | (refine Below.setCell ?_ (by first | (simp; done) | (simp; omega) | omega) _) | (refine Below.alloc ?_ (by first | (simp; done) | (simp; omega) | omega) _) | (refine below_drewN ?_ _) | (refine Below.drew ?_))))
      have A5 : RB1 wc w0.heap.size (.int .i64 0) := by rw [hwc]; exact RB1.mk1 (w0) _ _
      have ha5 : w0.heap.size < wc.heap.size := A5.lt
      have hdc : Below w0.heap.size w0 wc := (by (repeat (first | exact Below.refl _ _ | (refine Below.setCell ?_ (by first | (simp; done) | (simp; omega) | omega) _) | (refine Below.alloc ?_ (by first | (simp; done) | (simp; omega) | omega) _) | (refine below_drewN ?_ _) | (refine Below.drew ?_) | (refine Below.trans ?_ (Below.mono hbc (by first | (simp; done) | (simp; omega) | omega))))))
      have hsc := hdc.size
      have fc0 := keep_cell hdc (Nat.le_refl _) x0
      have fc1 := keep_cell hdc (Nat.le_refl _) x1
      rw [← hwc]
      clear hwc
      clear hHeld
      have hHeld : (fun w' : World => w'.cell? ⟨w.heap.size, 0, none⟩ = some (.int .i64 m) ∧ w'.cell? ⟨w.heap.size, 1, none⟩ = some (.slice o n c)) wc := by go_keep
      refine hK.out _ _ (fun _ => hHeld) ?_
      clear hK K
      try simp only [List.getElem_toArray, List.getElem_cons_zero, List.getElem_cons_succ, Act.put, List.setIfInBounds_toArray, List.set_cons_zero, List.set_cons_succ]
      refine wpAnyK_two (i := 1) (j := 4) rfl rfl (by kernel_rfl) (fun K hK => ?_) (fun K hK => ?_)
      · skip
        go_simp
        go_at_call 146
        refine (powersP_c m n _ t _ (hu0.below (by (repeat (first | exact Below.refl _ _ | (refine Below.setCell ?_ (by first | (simp; done) | (simp; omega) | omega) _) | (refine Below.alloc ?_ (by first | (simp; done) | (simp; omega) | omega) _) | (refine below_drewN ?_ _) | (refine Below.drew ?_) | (refine Below.trans ?_ (Below.mono hbc (by first | (simp; done) | (simp; omega) | omega)))))) (Nat.le_refl _)) h1 hn hm hm' HT.out).mono ?_
        rintro e wp ⟨vp, rfl, hol, hbp⟩
        obtain ⟨op, cp, rfl⟩ := hol.shapeN (n := n) (powsT_len _ _ _ _)
        have hrp := hol.rds
        have hlp := hol.lt
        clear hol
        have hdp : Below w0.heap.size w0 wp := (by (repeat (first | exact Below.refl _ _ | (refine Below.setCell ?_ (by first | (simp; done) | (simp; omega) | omega) _) | (refine Below.alloc ?_ (by first | (simp; done) | (simp; omega) | omega) _) | (refine below_drewN ?_ _) | (refine Below.drew ?_) | (refine Below.trans ?_ (Below.mono hbc (by first | (simp; done) | (simp; omega) | omega))) | (refine Below.trans ?_ (Below.mono hbp (by first | (simp; done) | (simp; omega) | omega))))))
        have hsp := hdp.size
        have hzp : wc.heap.size ≤ wp.heap.size := by first | exact hbp.size | (have := hbp.size; simpa using this)
        have fp0 := keep_cell hdp (Nat.le_refl _) x0
        have fp1 := keep_cell hdp (Nat.le_refl _) x1
        go_wp2_with fail
        clear hHeld
        have hHeld : (fun w' : World => w'.cell? ⟨w.heap.size, 0, none⟩ = some (.int .i64 m) ∧ w'.cell? ⟨w.heap.size, 1, none⟩ = some (.slice o n c)) wp := by go_keep
        refine hK.out _ _ (fun _ => hHeld) ?_
        clear hK K
        try simp only [List.getElem_toArray, List.getElem_cons_zero, List.getElem_cons_succ, Act.put, List.setIfInBounds_toArray, List.set_cons_zero, List.set_cons_succ]
        refine wpAnyK_two (i := 3) (j := 4) rfl rfl (by kernel_rfl) (fun K hK => ?_) (fun K hK => ?_)
        · skip
          go_simp
          go_at_call 64
          refine (degreeP_c m o n c _ hml).mono ?_
          rintro e wq ⟨rfl, hbq⟩
          have hdq : Below w0.heap.size w0 wq := (by (repeat (first | exact Below.refl _ _ | (refine Below.setCell ?_ (by first | (simp; done) | (simp; omega) | omega) _) | (refine Below.alloc ?_ (by first | (simp; done) | (simp; omega) | omega) _) | (refine below_drewN ?_ _) | (refine Below.drew ?_) | (refine Below.trans ?_ (Below.mono hbc (by first | (simp; done) | (simp; omega) | omega))) | (refine Below.trans ?_ (Below.mono hbp (by first | (simp; done) | (simp; omega) | omega))) | (refine Below.trans ?_ (Below.mono hbq (by first | (simp; done) | (simp; omega) | omega))))))
          have hsq := hdq.size
          have hzq : wp.heap.size ≤ wq.heap.size := by first | exact hbq.size | (have := hbq.size; simpa using this)
          have fq0 := keep_cell hdq (Nat.le_refl _) x0
          have fq1 := keep_cell hdq (Nat.le_refl _) x1
          go_wp2_with fail
          refine hK.out _ _ (fun h => absurd h (by decide)) ?_
          clear hK K
          try simp only [List.getElem_toArray, List.getElem_cons_zero, List.getElem_cons_succ, Act.put, List.setIfInBounds_toArray, List.set_cons_zero, List.set_cons_succ]
          refine wpAnyK_oneL (i := 4) rfl (by kernel_rfl) (fun K hK => ?_)
          go_simp
          obtain ⟨wa, hwa⟩ : ∃ x : World, x = (wq).alloc (.cells #[.slice none 0 0] 105) := ⟨_, rfl⟩
          have hba : Below (wq).heap.size (wq) wa := by rw [hwa]; exact (by (repeat (first | exact Below.refl _ _ | (refine Below.setCell ?_ (by first | (simp; done) | (simp; omega) | omega) _) | (refine Below.alloc ?_ (by first | (simp; done) | (simp; omega) | omega) _) | (refine below_drewN ?_ _) | (refine Below.drew ?_))))
          have A4 : RB1 wa wq.heap.size (.slice none 0 0) := by rw [hwa]; exact RB1.mk1 (wq) _ _
          have ha4 : wq.heap.size < wa.heap.size := A4.lt
          have hda : Below w0.heap.size w0 wa := (by (repeat (first | exact Below.refl _ _ | (refine Below.setCell ?_ (by first | (simp; done) | (simp; omega) | omega) _) | (refine Below.alloc ?_ (by first | (simp; done) | (simp; omega) | omega) _) | (refine below_drewN ?_ _) | (refine Below.drew ?_) | (refine Below.trans ?_ (Below.mono hbc (by first | (simp; done) | (simp; omega) | omega))) | (refine Below.trans ?_ (Below.mono hbp (by first | (simp; done) | (simp; omega) | omega))) | (refine Below.trans ?_ (Below.mono hbq (by first | (simp; done) | (simp; omega) | omega))) | (refine Below.trans ?_ (Below.mono hba (by first | (simp; done) | (simp; omega) | omega))))))
          have hsa := hda.size
          have fa0 := keep_cell hda (Nat.le_refl _) x0
          have fa1 := keep_cell hda (Nat.le_refl _) x1
          rw [← hwa]
          clear hwa
          clear hHeld
          have hHeld : (fun w' : World => w'.cell? ⟨w.heap.size, 0, none⟩ = some (.int .i64 m) ∧ w'.cell? ⟨w.heap.size, 1, none⟩ = some (.slice o n c)) wa := by go_keep
          refine hK.out _ _ (fun _ => hHeld) ?_
          clear hK K
          try simp only [List.getElem_toArray, List.getElem_cons_zero, List.getElem_cons_succ, Act.put, List.setIfInBounds_toArray, List.set_cons_zero, List.set_cons_succ]
          refine wpAnyK_oneL (i := 6) rfl (by kernel_rfl) (fun K hK => ?_)
          have L4 : RB1 wa wq.heap.size (.slice none 0 0) := A4.below (B := wa.heap.size) (by (repeat (first | exact Below.refl _ _ | (refine Below.setCell ?_ (by first | (simp; done) | (simp; omega) | omega) _) | (refine Below.alloc ?_ (by first | (simp; done) | (simp; omega) | omega) _) | (refine below_drewN ?_ _) | (refine Below.drew ?_) | (refine Below.trans ?_ (Below.mono hbc (by first | (simp; done) | (simp; omega) | omega))) | (refine Below.trans ?_ (Below.mono hbp (by first | (simp; done) | (simp; omega) | omega))) | (refine Below.trans ?_ (Below.mono hbq (by first | (simp; done) | (simp; omega) | omega))) | (refine Below.trans ?_ (Below.mono hba (by first | (simp; done) | (simp; omega) | omega)))))) (Nat.le_refl _)
          have L5 : RB1 wa w0.heap.size (.int .i64 0) := A5.below (B := wc.heap.size) (by (repeat (first | exact Below.refl _ _ | (refine Below.setCell ?_ (by first | (simp; done) | (simp; omega) | omega) _) | (refine Below.alloc ?_ (by first | (simp; done) | (simp; omega) | omega) _) | (refine below_drewN ?_ _) | (refine Below.drew ?_) | (refine Below.trans ?_ (Below.mono hbc (by first | (simp; done) | (simp; omega) | omega))) | (refine Below.trans ?_ (Below.mono hbp (by first | (simp; done) | (simp; omega) | omega))) | (refine Below.trans ?_ (Below.mono hbq (by first | (simp; done) | (simp; omega) | omega))) | (refine Below.trans ?_ (Below.mono hba (by first | (simp; done) | (simp; omega) | omega)))))) (Nat.le_refl _)
          obtain ⟨a4, a4f⟩ := id L4
          obtain ⟨a5, a5f⟩ := id L5
          have a4g := a4f 0
          have a5g := a5f 0
          have hne : wq.heap.size ≠ w0.heap.size := by omega
          have hne' : w0.heap.size ≠ wq.heap.size := by omega
          have hb4 : w0.heap.size ≤ wq.heap.size := by omega
          have hb5 : w0.heap.size ≤ w0.heap.size := by omega
          go_simp
          (try go_wp2_with fail)
          refine hK.out _ _ (fun h => absurd h (by decide)) ?_
          clear hK K
          try simp only [List.getElem_toArray, List.getElem_cons_zero, List.getElem_cons_succ, Act.put, List.setIfInBounds_toArray, List.set_cons_zero, List.set_cons_succ]
          refine wpAnyK_oneL (i := 7) rfl (by kernel_rfl) (fun K hK => ?_)
          go_simp
          (try go_wp2_with fail)
          refine hK.out _ _ (fun h => absurd h (by decide)) ?_
          clear hK K
          try simp only [List.getElem_toArray, List.getElem_cons_zero, List.getElem_cons_succ, Act.put, List.setIfInBounds_toArray, List.set_cons_zero, List.set_cons_succ]
          refine wpAnyK_done (by kernel_rfl) ?_ _
          go_wp2_with fail
          go_meet
          obtain ⟨c4, c5⟩ := L4.two L5 hne (.slice op n cp) (.int .i64 ((n : Int) - 1))
          exact ⟨_, _, _, op, cp, rfl, rfl, rfl, c5, c4, (((hrp.belowB (B := wp.heap.size) (by (repeat (first | exact Below.refl _ _ | (refine Below.setCell ?_ (by first | (simp; done) | (simp; omega) | omega) _) | (refine Below.alloc ?_ (by first | (simp; done) | (simp; omega) | omega) _) | (refine below_drewN ?_ _) | (refine Below.drew ?_) | (refine Below.trans ?_ (Below.mono hbc (by first | (simp; done) | (simp; omega) | omega))) | (refine Below.trans ?_ (Below.mono hbp (by first | (simp; done) | (simp; omega) | omega))) | (refine Below.trans ?_ (Below.mono hbq (by first | (simp; done) | (simp; omega) | omega))) | (refine Below.trans ?_ (Below.mono hba (by first | (simp; done) | (simp; omega) | omega)))))) (Nat.le_refl _)).put (by first | (simp; done) | (simp; omega) | omega) 0 _).put (by first | (simp; done) | (simp; omega) | omega) 0 _).now, (by (repeat (first | exact Below.refl _ _ | (refine Below.setCell ?_ (by first | (simp; done) | (simp; omega) | omega) _) | (refine Below.alloc ?_ (by first | (simp; done) | (simp; omega) | omega) _) | (refine below_drewN ?_ _) | (refine Below.drew ?_) | (refine Below.trans ?_ (Below.mono hbc (by first | (simp; done) | (simp; omega) | omega))) | (refine Below.trans ?_ (Below.mono hbp (by first | (simp; done) | (simp; omega) | omega))) | (refine Below.trans ?_ (Below.mono hbq (by first | (simp; done) | (simp; omega) | omega))) | (refine Below.trans ?_ (Below.mono hba (by first | (simp; done) | (simp; omega) | omega))))))⟩
        · skip
          go_simp
          obtain ⟨wa, hwa⟩ : ∃ x : World, x = (wp).alloc (.cells #[.slice none 0 0] 105) := ⟨_, rfl⟩
          have hba : Below (wp).heap.size (wp) wa := by rw [hwa]; exact (by (repeat (first | exact Below.refl _ _ | (refine Below.setCell ?_ (by first | (simp; done) | (simp; omega) | omega) _) | (refine Below.alloc ?_ (by first | (simp; done) | (simp; omega) | omega) _) | (refine below_drewN ?_ _) | (refine Below.drew ?_))))
          have A4 : RB1 wa wp.heap.size (.slice none 0 0) := by rw [hwa]; exact RB1.mk1 (wp) _ _
          have ha4 : wp.heap.size < wa.heap.size := A4.lt
          have hda : Below w0.heap.size w0 wa := (by (repeat (first | exact Below.refl _ _ | (refine Below.setCell ?_ (by first | (simp; done) | (simp; omega) | omega) _) | (refine Below.alloc ?_ (by first | (simp; done) | (simp; omega) | omega) _) | (refine below_drewN ?_ _) | (refine Below.drew ?_) | (refine Below.trans ?_ (Below.mono hbc (by first | (simp; done) | (simp; omega) | omega))) | (refine Below.trans ?_ (Below.mono hbp (by first | (simp; done) | (simp; omega) | omega))) | (refine Below.trans ?_ (Below.mono hba (by first | (simp; done) | (simp; omega) | omega))))))
          have hsa := hda.size
          have fa0 := keep_cell hda (Nat.le_refl _) x0
          have fa1 := keep_cell hda (Nat.le_refl _) x1
          rw [← hwa]
          clear hwa
          clear hHeld
          have hHeld : (fun w' : World => w'.cell? ⟨w.heap.size, 0, none⟩ = some (.int .i64 m) ∧ w'.cell? ⟨w.heap.size, 1, none⟩ = some (.slice o n c)) wa := by go_keep
          refine hK.out _ _ (fun _ => hHeld) ?_
          clear hK K
          try simp only [List.getElem_toArray, List.getElem_cons_zero, List.getElem_cons_succ, Act.put, List.setIfInBounds_toArray, List.set_cons_zero, List.set_cons_succ]
          refine wpAnyK_oneL (i := 3) rfl (by kernel_rfl) (fun K hK => ?_)
          go_simp
          go_at_call 64
          refine (degreeP_c m o n c _ hml).mono ?_
          rintro e wq ⟨rfl, hbq⟩
          have hdq : Below w0.heap.size w0 wq := (by (repeat (first | exact Below.refl _ _ | (refine Below.setCell ?_ (by first | (simp; done) | (simp; omega) | omega) _) | (refine Below.alloc ?_ (by first | (simp; done) | (simp; omega) | omega) _) | (refine below_drewN ?_ _) | (refine Below.drew ?_) | (refine Below.trans ?_ (Below.mono hbc (by first | (simp; done) | (simp; omega) | omega))) | (refine Below.trans ?_ (Below.mono hbp (by first | (simp; done) | (simp; omega) | omega))) | (refine Below.trans ?_ (Below.mono hba (by first | (simp; done) | (simp; omega) | omega))) | (refine Below.trans ?_ (Below.mono hbq (by first | (simp; done) | (simp; omega) | omega))))))
          have hsq := hdq.size
          have hzq : wa.heap.size ≤ wq.heap.size := by first | exact hbq.size | (have := hbq.size; simpa using this)
          have fq0 := keep_cell hdq (Nat.le_refl _) x0
          have fq1 := keep_cell hdq (Nat.le_refl _) x1
          go_wp2_with fail
          refine hK.out _ _ (fun h => absurd h (by decide)) ?_
          clear hK K
          try simp only [List.getElem_toArray, List.getElem_cons_zero, List.getElem_cons_succ, Act.put, List.setIfInBounds_toArray, List.set_cons_zero, List.set_cons_succ]
          refine wpAnyK_oneL (i := 6) rfl (by kernel_rfl) (fun K hK => ?_)
          have L4 : RB1 wq wp.heap.size (.slice none 0 0) := A4.below (B := wa.heap.size) (by (repeat (first | exact Below.refl _ _ | (refine Below.setCell ?_ (by first | (simp; done) | (simp; omega) | omega) _) | (refine Below.alloc ?_ (by first | (simp; done) | (simp; omega) | omega) _) | (refine below_drewN ?_ _) | (refine Below.drew ?_) | (refine Below.trans ?_ (Below.mono hbc (by first | (simp; done) | (simp; omega) | omega))) | (refine Below.trans ?_ (Below.mono hbp (by first | (simp; done) | (simp; omega) | omega))) | (refine Below.trans ?_ (Below.mono hba (by first | (simp; done) | (simp; omega) | omega))) | (refine Below.trans ?_ (Below.mono hbq (by first | (simp; done) | (simp; omega) | omega)))))) (Nat.le_refl _)
          have L5 : RB1 wq w0.heap.size (.int .i64 0) := A5.below (B := wc.heap.size) (by (repeat (first | exact Below.refl _ _ | (refine Below.setCell ?_ (by first | (simp; done) | (simp; omega) | omega) _) | (refine Below.alloc ?_ (by first | (simp; done) | (simp; omega) | omega) _) | (refine below_drewN ?_ _) | (refine Below.drew ?_) | (refine Below.trans ?_ (Below.mono hbc (by first | (simp; done) | (simp; omega) | omega))) | (refine Below.trans ?_ (Below.mono hbp (by first | (simp; done) | (simp; omega) | omega))) | (refine Below.trans ?_ (Below.mono hba (by first | (simp; done) | (simp; omega) | omega))) | (refine Below.trans ?_ (Below.mono hbq (by first | (simp; done) | (simp; omega) | omega)))))) (Nat.le_refl _)
          obtain ⟨a4, a4f⟩ := id L4
          obtain ⟨a5, a5f⟩ := id L5
          have a4g := a4f 0
          have a5g := a5f 0
          have hne : wp.heap.size ≠ w0.heap.size := by omega
          have hne' : w0.heap.size ≠ wp.heap.size := by omega
          have hb4 : w0.heap.size ≤ wp.heap.size := by omega
          have hb5 : w0.heap.size ≤ w0.heap.size := by omega
          go_simp
          (try go_wp2_with fail)
          refine hK.out _ _ (fun h => absurd h (by decide)) ?_
          clear hK K
          try simp only [List.getElem_toArray, List.getElem_cons_zero, List.getElem_cons_succ, Act.put, List.setIfInBounds_toArray, List.set_cons_zero, List.set_cons_succ]
          refine wpAnyK_oneL (i := 7) rfl (by kernel_rfl) (fun K hK => ?_)
          go_simp
          (try go_wp2_with fail)
          refine hK.out _ _ (fun h => absurd h (by decide)) ?_
          clear hK K
          try simp only [List.getElem_toArray, List.getElem_cons_zero, List.getElem_cons_succ, Act.put, List.setIfInBounds_toArray, List.set_cons_zero, List.set_cons_succ]
          refine wpAnyK_done (by kernel_rfl) ?_ _
          go_wp2_with fail
          go_meet
          obtain ⟨c4, c5⟩ := L4.two L5 hne (.slice op n cp) (.int .i64 ((n : Int) - 1))
          exact ⟨_, _, _, op, cp, rfl, rfl, rfl, c5, c4, (((hrp.belowB (B := wp.heap.size) (by (repeat (first | exact Below.refl _ _ | (refine Below.setCell ?_ (by first | (simp; done) | (simp; omega) | omega) _) | (refine Below.alloc ?_ (by first | (simp; done) | (simp; omega) | omega) _) | (refine below_drewN ?_ _) | (refine Below.drew ?_) | (refine Below.trans ?_ (Below.mono hbc (by first | (simp; done) | (simp; omega) | omega))) | (refine Below.trans ?_ (Below.mono hbp (by first | (simp; done) | (simp; omega) | omega))) | (refine Below.trans ?_ (Below.mono hba (by first | (simp; done) | (simp; omega) | omega))) | (refine Below.trans ?_ (Below.mono hbq (by first | (simp; done) | (simp; omega) | omega)))))) (Nat.le_refl _)).put (by first | (simp; done) | (simp; omega) | omega) 0 _).put (by first | (simp; done) | (simp; omega) | omega) 0 _).now, (by (repeat (first | exact Below.refl _ _ | (refine Below.setCell ?_ (by first | (simp; done) | (simp; omega) | omega) _) | (refine Below.alloc ?_ (by first | (simp; done) | (simp; omega) | omega) _) | (refine below_drewN ?_ _) | (refine Below.drew ?_) | (refine Below.trans ?_ (Below.mono hbc (by first | (simp; done) | (simp; omega) | omega))) | (refine Below.trans ?_ (Below.mono hbp (by first | (simp; done) | (simp; omega) | omega))) | (refine Below.trans ?_ (Below.mono hba (by first | (simp; done) | (simp; omega) | omega))) | (refine Below.trans ?_ (Below.mono hbq (by first | (simp; done) | (simp; omega) | omega))))))⟩
      · skip
        go_simp
        obtain ⟨wa, hwa⟩ : ∃ x : World, x = (wc).alloc (.cells #[.slice none 0 0] 105) := ⟨_, rfl⟩
        have hba : Below (wc).heap.size (wc) wa := by rw [hwa]; exact (by (repeat (first | exact Below.refl _ _ | (refine Below.setCell ?_ (by first | (simp; done) | (simp; omega) | omega) _) | (refine Below.alloc ?_ (by first | (simp; done) | (simp; omega) | omega) _) | (refine below_drewN ?_ _) | (refine Below.drew ?_))))
        have A4 : RB1 wa wc.heap.size (.slice none 0 0) := by rw [hwa]; exact RB1.mk1 (wc) _ _
        have ha4 : wc.heap.size < wa.heap.size := A4.lt
        have hda : Below w0.heap.size w0 wa := (by (repeat (first | exact Below.refl _ _ | (refine Below.setCell ?_ (by first | (simp; done) | (simp; omega) | omega) _) | (refine Below.alloc ?_ (by first | (simp; done) | (simp; omega) | omega) _) | (refine below_drewN ?_ _) | (refine Below.drew ?_) | (refine Below.trans ?_ (Below.mono hbc (by first | (simp; done) | (simp; omega) | omega))) | (refine Below.trans ?_ (Below.mono hba (by first | (simp; done) | (simp; omega) | omega))))))
        have hsa := hda.size
        have fa0 := keep_cell hda (Nat.le_refl _) x0
        have fa1 := keep_cell hda (Nat.le_refl _) x1
        rw [← hwa]
        clear hwa
        clear hHeld
        have hHeld : (fun w' : World => w'.cell? ⟨w.heap.size, 0, none⟩ = some (.int .i64 m) ∧ w'.cell? ⟨w.heap.size, 1, none⟩ = some (.slice o n c)) wa := by go_keep
        refine hK.out _ _ (fun _ => hHeld) ?_
        clear hK K
        try simp only [List.getElem_toArray, List.getElem_cons_zero, List.getElem_cons_succ, Act.put, List.setIfInBounds_toArray, List.set_cons_zero, List.set_cons_succ]
        refine wpAnyK_oneL (i := 1) rfl (by kernel_rfl) (fun K hK => ?_)
        go_simp
        go_at_call 146
        refine (powersP_c m n _ t _ (hu0.below (by (repeat (first | exact Below.refl _ _ | (refine Below.setCell ?_ (by first | (simp; done) | (simp; omega) | omega) _) | (refine Below.alloc ?_ (by first | (simp; done) | (simp; omega) | omega) _) | (refine below_drewN ?_ _) | (refine Below.drew ?_) | (refine Below.trans ?_ (Below.mono hbc (by first | (simp; done) | (simp; omega) | omega))) | (refine Below.trans ?_ (Below.mono hba (by first | (simp; done) | (simp; omega) | omega)))))) (Nat.le_refl _)) h1 hn hm hm' HT.out).mono ?_
        rintro e wp ⟨vp, rfl, hol, hbp⟩
        obtain ⟨op, cp, rfl⟩ := hol.shapeN (n := n) (powsT_len _ _ _ _)
        have hrp := hol.rds
        have hlp := hol.lt
        clear hol
        have hdp : Below w0.heap.size w0 wp := (by (repeat (first | exact Below.refl _ _ | (refine Below.setCell ?_ (by first | (simp; done) | (simp; omega) | omega) _) | (refine Below.alloc ?_ (by first | (simp; done) | (simp; omega) | omega) _) | (refine below_drewN ?_ _) | (refine Below.drew ?_) | (refine Below.trans ?_ (Below.mono hbc (by first | (simp; done) | (simp; omega) | omega))) | (refine Below.trans ?_ (Below.mono hba (by first | (simp; done) | (simp; omega) | omega))) | (refine Below.trans ?_ (Below.mono hbp (by first | (simp; done) | (simp; omega) | omega))))))
        have hsp := hdp.size
        have hzp : wa.heap.size ≤ wp.heap.size := by first | exact hbp.size | (have := hbp.size; simpa using this)
        have fp0 := keep_cell hdp (Nat.le_refl _) x0
        have fp1 := keep_cell hdp (Nat.le_refl _) x1
        go_wp2_with fail
        clear hHeld
        have hHeld : (fun w' : World => w'.cell? ⟨w.heap.size, 0, none⟩ = some (.int .i64 m) ∧ w'.cell? ⟨w.heap.size, 1, none⟩ = some (.slice o n c)) wp := by go_keep
        refine hK.out _ _ (fun _ => hHeld) ?_
        clear hK K
        try simp only [List.getElem_toArray, List.getElem_cons_zero, List.getElem_cons_succ, Act.put, List.setIfInBounds_toArray, List.set_cons_zero, List.set_cons_succ]
        refine wpAnyK_oneL (i := 3) rfl (by kernel_rfl) (fun K hK => ?_)
        go_simp
        go_at_call 64
        refine (degreeP_c m o n c _ hml).mono ?_
        rintro e wq ⟨rfl, hbq⟩
        have hdq : Below w0.heap.size w0 wq := (by (repeat (first | exact Below.refl _ _ | (refine Below.setCell ?_ (by first | (simp; done) | (simp; omega) | omega) _) | (refine Below.alloc ?_ (by first | (simp; done) | (simp; omega) | omega) _) | (refine below_drewN ?_ _) | (refine Below.drew ?_) | (refine Below.trans ?_ (Below.mono hbc (by first | (simp; done) | (simp; omega) | omega))) | (refine Below.trans ?_ (Below.mono hba (by first | (simp; done) | (simp; omega) | omega))) | (refine Below.trans ?_ (Below.mono hbp (by first | (simp; done) | (simp; omega) | omega))) | (refine Below.trans ?_ (Below.mono hbq (by first | (simp; done) | (simp; omega) | omega))))))
        have hsq := hdq.size
        have hzq : wp.heap.size ≤ wq.heap.size := by first | exact hbq.size | (have := hbq.size; simpa using this)
        have fq0 := keep_cell hdq (Nat.le_refl _) x0
        have fq1 := keep_cell hdq (Nat.le_refl _) x1
        go_wp2_with fail
        refine hK.out _ _ (fun h => absurd h (by decide)) ?_
        clear hK K
        try simp only [List.getElem_toArray, List.getElem_cons_zero, List.getElem_cons_succ, Act.put, List.setIfInBounds_toArray, List.set_cons_zero, List.set_cons_succ]
        refine wpAnyK_oneL (i := 6) rfl (by kernel_rfl) (fun K hK => ?_)
        have L4 : RB1 wq wc.heap.size (.slice none 0 0) := A4.below (B := wa.heap.size) (by (repeat (first | exact Below.refl _ _ | (refine Below.setCell ?_ (by first | (simp; done) | (simp; omega) | omega) _) | (refine Below.alloc ?_ (by first | (simp; done) | (simp; omega) | omega) _) | (refine below_drewN ?_ _) | (refine Below.drew ?_) | (refine Below.trans ?_ (Below.mono hbc (by first | (simp; done) | (simp; omega) | omega))) | (refine Below.trans ?_ (Below.mono hba (by first | (simp; done) | (simp; omega) | omega))) | (refine Below.trans ?_ (Below.mono hbp (by first | (simp; done) | (simp; omega) | omega))) | (refine Below.trans ?_ (Below.mono hbq (by first | (simp; done) | (simp; omega) | omega)))))) (Nat.le_refl _)
        have L5 : RB1 wq w0.heap.size (.int .i64 0) := A5.below (B := wc.heap.size) (by (repeat (first | exact Below.refl _ _ | (refine Below.setCell ?_ (by first | (simp; done) | (simp; omega) | omega) _) | (refine Below.alloc ?_ (by first | (simp; done) | (simp; omega) | omega) _) | (refine below_drewN ?_ _) | (refine Below.drew ?_) | (refine Below.trans ?_ (Below.mono hbc (by first | (simp; done) | (simp; omega) | omega))) | (refine Below.trans ?_ (Below.mono hba (by first | (simp; done) | (simp; omega) | omega))) | (refine Below.trans ?_ (Below.mono hbp (by first | (simp; done) | (simp; omega) | omega))) | (refine Below.trans ?_ (Below.mono hbq (by first | (simp; done) | (simp; omega) | omega)))))) (Nat.le_refl _)
        obtain ⟨a4, a4f⟩ := id L4
        obtain ⟨a5, a5f⟩ := id L5
        have a4g := a4f 0
        have a5g := a5f 0
        have hne : wc.heap.size ≠ w0.heap.size := by omega
        have hne' : w0.heap.size ≠ wc.heap.size := by omega
        have hb4 : w0.heap.size ≤ wc.heap.size := by omega
        have hb5 : w0.heap.size ≤ w0.heap.size := by omega
        go_simp
        (try go_wp2_with fail)
        refine hK.out _ _ (fun h => absurd h (by decide)) ?_
        clear hK K
        try simp only [List.getElem_toArray, List.getElem_cons_zero, List.getElem_cons_succ, Act.put, List.setIfInBounds_toArray, List.set_cons_zero, List.set_cons_succ]
        refine wpAnyK_oneL (i := 7) rfl (by kernel_rfl) (fun K hK => ?_)
        go_simp
        (try go_wp2_with fail)
        refine hK.out _ _ (fun h => absurd h (by decide)) ?_
        clear hK K
        try simp only [List.getElem_toArray, List.getElem_cons_zero, List.getElem_cons_succ, Act.put, List.setIfInBounds_toArray, List.set_cons_zero, List.set_cons_succ]
        refine wpAnyK_done (by kernel_rfl) ?_ _
        go_wp2_with fail
        go_meet
        obtain ⟨c4, c5⟩ := L4.two L5 hne (.slice op n cp) (.int .i64 ((n : Int) - 1))
        exact ⟨_, _, _, op, cp, rfl, rfl, rfl, c5, c4, (((hrp.belowB (B := wp.heap.size) (by (repeat (first | exact Below.refl _ _ | (refine Below.setCell ?_ (by first | (simp; done) | (simp; omega) | omega) _) | (refine Below.alloc ?_ (by first | (simp; done) | (simp; omega) | omega) _) | (refine below_drewN ?_ _) | (refine Below.drew ?_) | (refine Below.trans ?_ (Below.mono hbc (by first | (simp; done) | (simp; omega) | omega))) | (refine Below.trans ?_ (Below.mono hba (by first | (simp; done) | (simp; omega) | omega))) | (refine Below.trans ?_ (Below.mono hbp (by first | (simp; done) | (simp; omega) | omega))) | (refine Below.trans ?_ (Below.mono hbq (by first | (simp; done) | (simp; omega) | omega)))))) (Nat.le_refl _)).put (by first | (simp; done) | (simp; omega) | omega) 0 _).put (by first | (simp; done) | (simp; omega) | omega) 0 _).now, (by (repeat (first | exact Below.refl _ _ | (refine Below.setCell ?_ (by first | (simp; done) | (simp; omega) | omega) _) | (refine Below.alloc ?_ (by first | (simp; done) | (simp; omega) | omega) _) | (refine below_drewN ?_ _) | (refine Below.drew ?_) | (refine Below.trans ?_ (Below.mono hbc (by first | (simp; done) | (simp; omega) | omega))) | (refine Below.trans ?_ (Below.mono hba (by first | (simp; done) | (simp; omega) | omega))) | (refine Below.trans ?_ (Below.mono hbp (by first | (simp; done) | (simp; omega) | omega))) | (refine Below.trans ?_ (Below.mono hbq (by first | (simp; done) | (simp; omega) | omega))))))⟩
  case rest =>
    obtain ⟨w1, bp, bd, op, kp, rfl, rfl, rfl, hcd, hcp, hR, hb⟩ := hcut
    have B1 := B0.trans (hb.mono B0.size)
    have X1 := X0.below hb (Nat.le_refl _)
    go_wp2
    go_ret
    exact ⟨bd, w.heap.size, bp, o, op, c, kp, rfl, hcd, X1, rfl, hcp, hR, B1⟩
end Go.Proofs.Ytflebfmkgmhccaa
