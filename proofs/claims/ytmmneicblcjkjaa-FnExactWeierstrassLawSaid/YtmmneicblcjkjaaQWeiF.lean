/- Lemmas of WeiF. -/
import Derived.Test.YtmmneicblcjkjaaQPlaN2
import Derived.Test.YtmmneicblcjkjaaQFlR
import Derived.Test.YtmmneicblcjkjaaQG1
set_option linter.unusedSimpArgs false
set_option linter.unusedVariables false
namespace Go.Proofs.Ytmmneicblcjkjaa
open Go.RowKit

set_option maxHeartbeats 4000000 in
set_option maxRecDepth 100000 in
theorem inverted_c (m : Int) (n : Nat) (v : Value) (t : List (List Int)) (w : World) (hv : RdT w v t) (h1 : 1 ≤ n) (hn : n ≤ 1000) (hm : 2 ≤ m) (hm' : m ≤ 10000) (ht : PlaT m n t) :
    Calls Try.prog 42 #[.agg #[.int .i64 m, v]] w fun e w' => PVEnd w w' m (invT m n t) e := by
  obtain ⟨o, c, rfl, hmx, -⟩ := id hv
  have hu : RdT w (.slice o n c) t := by rw [ht.1] at hv; exact hv
  rw [ht.1] at hmx ⊢
  have hml := hmx.1
  clear hv hmx
  have HT := Lib.hid ht
  clear ht
  go_enter Try.func42, Try.ntmps42
  go_wp2_with fail
  (have X0 := ((RB2.mk1 w  (.int .i64 m) (.slice o n c) 25).1).below (w' := ((w.alloc (.cells #[.int .i64 m, .slice o n c] 25)).alloc (.cells #[.int .i64 0, .slice none 0 0] 25))) (by (repeat (first | exact Below.refl _ _ | (refine Below.setCell ?_ (by first | (simp; done) | (simp; omega) | omega) _) | (refine Below.alloc ?_ (by first | (simp; done) | (simp; omega) | omega) _) | (refine below_drewN ?_ _) | (refine Below.drew ?_)))) (Nat.le_refl _); have R0 := ((RB2.mk2 w (.cells #[.int .i64 m, .slice o n c] 25) (.int .i64 0) (.slice none 0 0) 25)).below (w' := ((w.alloc (.cells #[.int .i64 m, .slice o n c] 25)).alloc (.cells #[.int .i64 0, .slice none 0 0] 25))) (by (repeat (first | exact Below.refl _ _ | (refine Below.setCell ?_ (by first | (simp; done) | (simp; omega) | omega) _) | (refine Below.alloc ?_ (by first | (simp; done) | (simp; omega) | omega) _) | (refine below_drewN ?_ _) | (refine Below.drew ?_)))) (Nat.le_refl _); have B0 : Below w.heap.size w ((w.alloc (.cells #[.int .i64 m, .slice o n c] 25)).alloc (.cells #[.int .i64 0, .slice none 0 0] 25)) := (by (repeat (first | exact Below.refl _ _ | (refine Below.setCell ?_ (by first | (simp; done) | (simp; omega) | omega) _) | (refine Below.alloc ?_ (by first | (simp; done) | (simp; omega) | omega) _) | (refine below_drewN ?_ _) | (refine Below.drew ?_)))); have hu0 := hu.below (w' := ((w.alloc (.cells #[.int .i64 m, .slice o n c] 25)).alloc (.cells #[.int .i64 0, .slice none 0 0] 25))) (by (repeat (first | exact Below.refl _ _ | (refine Below.setCell ?_ (by first | (simp; done) | (simp; omega) | omega) _) | (refine Below.alloc ?_ (by first | (simp; done) | (simp; omega) | omega) _) | (refine below_drewN ?_ _) | (refine Below.drew ?_)))) (Nat.le_refl _); generalize (w.alloc (.cells #[.int .i64 m, .slice o n c] 25)).alloc (.cells #[.int .i64 0, .slice none 0 0] 25) = w0 at X0 R0 B0 hu0 ⊢)
  obtain ⟨x0, x1⟩ := id X0
  have lX := X0.lt
  have lR := R0.1.lt
  go_cut [3, 4] from 5 to 10 (fun sa sb u => ∃ (b3 b4 : Nat) (o3 o4 : Option Addr) (c3 c4 : Nat), sa = .pointer (some ⟨b3, 0, none⟩) ∧ sb = .pointer (some ⟨b4, 0, none⟩) ∧ RB2 u b3 (.int .i64 m) (.slice o3 n c3) ∧ RB2 u b4 (.int .i64 m) (.slice o4 n c4) ∧ w0.heap.size ≤ b3 ∧ w0.heap.size ≤ b4 ∧ b3 ≠ b4 ∧ LiveE b4 (fun w => RdT w (.slice o3 n c3) (subT m n (oneT m n) t)) u ∧ OwS u w0.heap.size (.slice o4 n c4) (oneT m n) ∧ Below w0.heap.size w0 u)
  case first =>
    as_aux_lemma =>
    have hd0 : Below w0.heap.size w0 w0.drew := (Below.refl _ _).drew
    refine wp_region_K (S := fun w' => w'.cell? ⟨w.heap.size, 0, none⟩ = some (.int .i64 m) ∧ w'.cell? ⟨w.heap.size, 1, none⟩ = some (.slice o n c)) [8, 9] (by as_aux_lemma => kernel_rfl) ?_
    have hHeld : (fun w' : World => w'.cell? ⟨w.heap.size, 0, none⟩ = some (.int .i64 m) ∧ w'.cell? ⟨w.heap.size, 1, none⟩ = some (.slice o n c)) w0.drew := by go_keep
    refine' wpAnyK_takeL (i := 0) (v := _) rfl (by as_aux_lemma => kernel_rfl) (by as_aux_lemma => kernel_rfl) (by as_aux_lemma => kernel_rfl) (by as_aux_lemma => kernel_rfl) (fun _ _ _ h => h) (Or.inl ⟨by rfl, ?yT1⟩) hHeld ?rT1
    case yT1 => (intro w' hSw; (try dsimp only at hSw); go_simp; try with_reducible rfl)
    try simp only [List.getElem_toArray, List.getElem_cons_zero, List.getElem_cons_succ, Act.put, List.setIfInBounds_toArray, List.set_cons_zero, List.set_cons_succ]
    refine' wpAnyK_takeL (i := 2) (v := _) rfl (by as_aux_lemma => kernel_rfl) (by as_aux_lemma => kernel_rfl) (by as_aux_lemma => kernel_rfl) (by as_aux_lemma => kernel_rfl) (fun _ _ _ h => h) (Or.inl ⟨by rfl, ?yT2⟩) hHeld ?rT2
    case yT2 => (intro w' hSw; (try dsimp only at hSw); go_simp; try with_reducible rfl)
    try simp only [List.getElem_toArray, List.getElem_cons_zero, List.getElem_cons_succ, Act.put, List.setIfInBounds_toArray, List.set_cons_zero, List.set_cons_succ]
    refine' wpAnyK_takeL (i := 4) (v := _) rfl (by as_aux_lemma => kernel_rfl) (by as_aux_lemma => kernel_rfl) (by as_aux_lemma => kernel_rfl) (by as_aux_lemma => kernel_rfl) (fun _ _ _ h => h) (Or.inl ⟨by rfl, ?yT3⟩) hHeld ?rT3
    case yT3 => (intro w' hSw; (try dsimp only at hSw); go_simp; try with_reducible rfl)
    try simp only [List.getElem_toArray, List.getElem_cons_zero, List.getElem_cons_succ, Act.put, List.setIfInBounds_toArray, List.set_cons_zero, List.set_cons_succ]
    refine wpAnyK_three (i := 1) (j := 6) (k := 7) (by as_aux_lemma => kernel_rfl) rfl rfl rfl (fun K hK => ?_) (fun K hK => ?_) (fun K hK => ?_)
    · as_aux_lemma =>
      go_simp
      go_at_call 41
      refine (one_n m o n c _ h1 hn hm hm').mono ?_
      rintro e w1 ⟨v1, rfl, h1_, hb1⟩
      obtain ⟨o1, c1, rfl⟩ := h1_.shapeN (n := n) (tri_len _ _)
      have hd1 : Below w0.heap.size w0 w1 := (by (repeat (first | exact Below.refl _ _ | (refine Below.setCell ?_ (by first | (simp; done) | (simp; omega) | omega) _) | (refine Below.alloc ?_ (by first | (simp; done) | (simp; omega) | omega) _) | (refine below_drewN ?_ _) | (refine Below.drew ?_) | (refine Below.trans ?_ (Below.mono hb1 (by first | (simp; done) | (simp; omega) | omega))))))
      have hs1 := hd1.size
      have hz1 : w0.heap.size ≤ w1.heap.size := by first | exact hb1.size | (have := hb1.size; simpa using this)
      have hr1 := h1_.rd
      clear h1_
      obtain ⟨f10, f11⟩ := X0.below hd1 (Nat.le_refl _)
      go_wp2_with fail
      clear hHeld
      have hHeld : (fun w' : World => w'.cell? ⟨w.heap.size, 0, none⟩ = some (.int .i64 m) ∧ w'.cell? ⟨w.heap.size, 1, none⟩ = some (.slice o n c)) w1 := by go_keep
      refine hK.out _ _ (fun _ => hHeld) ?_
      clear hK K
      try simp only [List.getElem_toArray, List.getElem_cons_zero, List.getElem_cons_succ, Act.put, List.setIfInBounds_toArray, List.set_cons_zero, List.set_cons_succ]
      refine wpAnyK_three (i := 3) (j := 6) (k := 7) (by as_aux_lemma => kernel_rfl) rfl rfl rfl (fun K hK => ?_) (fun K hK => ?_) (fun K hK => ?_)
      · as_aux_lemma =>
        go_simp
        go_at_call 37
        refine (minusP_n m m n _ _ (oneT m n) t _ (hr1.below (B := w1.heap.size) (by (repeat (first | exact Below.refl _ _ | (refine Below.setCell ?_ (by first | (simp; done) | (simp; omega) | omega) _) | (refine Below.alloc ?_ (by first | (simp; done) | (simp; omega) | omega) _) | (refine below_drewN ?_ _) | (refine Below.drew ?_) | (refine Below.trans ?_ (Below.mono hb1 (by first | (simp; done) | (simp; omega) | omega)))))) (Nat.le_refl _)) (hu0.below (by (repeat (first | exact Below.refl _ _ | (refine Below.setCell ?_ (by first | (simp; done) | (simp; omega) | omega) _) | (refine Below.alloc ?_ (by first | (simp; done) | (simp; omega) | omega) _) | (refine below_drewN ?_ _) | (refine Below.drew ?_) | (refine Below.trans ?_ (Below.mono hb1 (by first | (simp; done) | (simp; omega) | omega)))))) (Nat.le_refl _)) h1 hn hm hm' (PlaT.one (by omega) n) HT.out).mono ?_
        rintro e w3 ⟨v3, rfl, h3_, hb3⟩
        obtain ⟨o3, c3, rfl⟩ := h3_.shapeN (n := n) (tri_len _ _)
        have hd3 : Below w0.heap.size w0 w3 := (by (repeat (first | exact Below.refl _ _ | (refine Below.setCell ?_ (by first | (simp; done) | (simp; omega) | omega) _) | (refine Below.alloc ?_ (by first | (simp; done) | (simp; omega) | omega) _) | (refine below_drewN ?_ _) | (refine Below.drew ?_) | (refine Below.trans ?_ (Below.mono hb1 (by first | (simp; done) | (simp; omega) | omega))) | (refine Below.trans ?_ (Below.mono hb3 (by first | (simp; done) | (simp; omega) | omega))))))
        have hs3 := hd3.size
        have hz3 : w1.heap.size ≤ w3.heap.size := by first | exact hb3.size | (have := hb3.size; simpa using this)
        have hR3 := h3_.toR
        clear h3_
        obtain ⟨f30, f31⟩ := X0.below hd3 (Nat.le_refl _)
        go_wp2_with fail
        clear hHeld
        have hHeld : (fun w' : World => w'.cell? ⟨w.heap.size, 0, none⟩ = some (.int .i64 m) ∧ w'.cell? ⟨w.heap.size, 1, none⟩ = some (.slice o n c)) w3 := by go_keep
        refine hK.out _ _ (fun _ => hHeld) ?_
        clear hK K
        try simp only [List.getElem_toArray, List.getElem_cons_zero, List.getElem_cons_succ, Act.put, List.setIfInBounds_toArray, List.set_cons_zero, List.set_cons_succ]
        refine wpAnyK_three (i := 5) (j := 6) (k := 7) (by as_aux_lemma => kernel_rfl) rfl rfl rfl (fun K hK => ?_) (fun K hK => ?_) (fun K hK => ?_)
        · as_aux_lemma =>
          go_simp
          go_at_call 41
          refine (one_n m o n c _ h1 hn hm hm').mono ?_
          rintro e w5 ⟨v5, rfl, h5_, hb5⟩
          obtain ⟨o5, c5, rfl⟩ := h5_.shapeN (n := n) (tri_len _ _)
          have hd5 : Below w0.heap.size w0 w5 := (by (repeat (first | exact Below.refl _ _ | (refine Below.setCell ?_ (by first | (simp; done) | (simp; omega) | omega) _) | (refine Below.alloc ?_ (by first | (simp; done) | (simp; omega) | omega) _) | (refine below_drewN ?_ _) | (refine Below.drew ?_) | (refine Below.trans ?_ (Below.mono hb1 (by first | (simp; done) | (simp; omega) | omega))) | (refine Below.trans ?_ (Below.mono hb3 (by first | (simp; done) | (simp; omega) | omega))) | (refine Below.trans ?_ (Below.mono hb5 (by first | (simp; done) | (simp; omega) | omega))))))
          have hs5 := hd5.size
          have hz5 : w3.heap.size ≤ w5.heap.size := by first | exact hb5.size | (have := hb5.size; simpa using this)
          have hR5 := h5_.toR
          clear h5_
          obtain ⟨f50, f51⟩ := X0.below hd5 (Nat.le_refl _)
          go_wp2_with fail
          clear hHeld
          have hHeld : (fun w' : World => w'.cell? ⟨w.heap.size, 0, none⟩ = some (.int .i64 m) ∧ w'.cell? ⟨w.heap.size, 1, none⟩ = some (.slice o n c)) w5 := by go_keep
          refine hK.out _ _ (fun _ => hHeld) ?_
          clear hK K
          try simp only [List.getElem_toArray, List.getElem_cons_zero, List.getElem_cons_succ, Act.put, List.setIfInBounds_toArray, List.set_cons_zero, List.set_cons_succ]
          refine wpAnyK_two (i := 6) (j := 7) rfl rfl (by as_aux_lemma => kernel_rfl) (fun K hK => ?_) (fun K hK => ?_)
          · as_aux_lemma =>
            go_simp
            obtain ⟨wa, hwa⟩ : ∃ x : World, x = (w5).alloc (.cells #[.int .i64 0, .slice none 0 0] 25) := ⟨_, rfl⟩
            have hba : Below (w5).heap.size (w5) wa := by rw [hwa]; exact (by (repeat (first | exact Below.refl _ _ | (refine Below.setCell ?_ (by first | (simp; done) | (simp; omega) | omega) _) | (refine Below.alloc ?_ (by first | (simp; done) | (simp; omega) | omega) _) | (refine below_drewN ?_ _) | (refine Below.drew ?_))))
            have A6 : RB2 wa w5.heap.size (.int .i64 0) (.slice none 0 0) := by rw [hwa]; exact RB2.mk1 (w5) _ _ _
            have ha6 : w5.heap.size < wa.heap.size := A6.1.lt
            have hda : Below w0.heap.size w0 wa := (by (repeat (first | exact Below.refl _ _ | (refine Below.setCell ?_ (by first | (simp; done) | (simp; omega) | omega) _) | (refine Below.alloc ?_ (by first | (simp; done) | (simp; omega) | omega) _) | (refine below_drewN ?_ _) | (refine Below.drew ?_) | (refine Below.trans ?_ (Below.mono hb1 (by first | (simp; done) | (simp; omega) | omega))) | (refine Below.trans ?_ (Below.mono hb3 (by first | (simp; done) | (simp; omega) | omega))) | (refine Below.trans ?_ (Below.mono hb5 (by first | (simp; done) | (simp; omega) | omega))) | (refine Below.trans ?_ (Below.mono hba (by first | (simp; done) | (simp; omega) | omega))))))
            have hsa := hda.size
            obtain ⟨fa0, fa1⟩ := X0.below hda (Nat.le_refl _)
            rw [← hwa]
            clear hwa
            clear hHeld
            have hHeld : (fun w' : World => w'.cell? ⟨w.heap.size, 0, none⟩ = some (.int .i64 m) ∧ w'.cell? ⟨w.heap.size, 1, none⟩ = some (.slice o n c)) wa := by go_keep
            refine hK.out _ _ (fun _ => hHeld) ?_
            clear hK K
            try simp only [List.getElem_toArray, List.getElem_cons_zero, List.getElem_cons_succ, Act.put, List.setIfInBounds_toArray, List.set_cons_zero, List.set_cons_succ]
            refine wpAnyK_oneL (i := 7) rfl (by as_aux_lemma => kernel_rfl) (fun K hK => ?_)
            go_simp
            obtain ⟨we, hwe⟩ : ∃ x : World, x = (wa).alloc (.cells #[.int .i64 0, .slice none 0 0] 25) := ⟨_, rfl⟩
            have hbe : Below (wa).heap.size (wa) we := by rw [hwe]; exact (by (repeat (first | exact Below.refl _ _ | (refine Below.setCell ?_ (by first | (simp; done) | (simp; omega) | omega) _) | (refine Below.alloc ?_ (by first | (simp; done) | (simp; omega) | omega) _) | (refine below_drewN ?_ _) | (refine Below.drew ?_))))
            have A7 : RB2 we wa.heap.size (.int .i64 0) (.slice none 0 0) := by rw [hwe]; exact RB2.mk1 (wa) _ _ _
            have ha7 : wa.heap.size < we.heap.size := A7.1.lt
            have hde : Below w0.heap.size w0 we := (by (repeat (first | exact Below.refl _ _ | (refine Below.setCell ?_ (by first | (simp; done) | (simp; omega) | omega) _) | (refine Below.alloc ?_ (by first | (simp; done) | (simp; omega) | omega) _) | (refine below_drewN ?_ _) | (refine Below.drew ?_) | (refine Below.trans ?_ (Below.mono hb1 (by first | (simp; done) | (simp; omega) | omega))) | (refine Below.trans ?_ (Below.mono hb3 (by first | (simp; done) | (simp; omega) | omega))) | (refine Below.trans ?_ (Below.mono hb5 (by first | (simp; done) | (simp; omega) | omega))) | (refine Below.trans ?_ (Below.mono hba (by first | (simp; done) | (simp; omega) | omega))) | (refine Below.trans ?_ (Below.mono hbe (by first | (simp; done) | (simp; omega) | omega))))))
            have hse := hde.size
            obtain ⟨fe0, fe1⟩ := X0.below hde (Nat.le_refl _)
            rw [← hwe]
            clear hwe
            clear hHeld
            have hHeld : (fun w' : World => w'.cell? ⟨w.heap.size, 0, none⟩ = some (.int .i64 m) ∧ w'.cell? ⟨w.heap.size, 1, none⟩ = some (.slice o n c)) we := by go_keep
            refine hK.out _ _ (fun _ => hHeld) ?_
            clear hK K
            try simp only [List.getElem_toArray, List.getElem_cons_zero, List.getElem_cons_succ, Act.put, List.setIfInBounds_toArray, List.set_cons_zero, List.set_cons_succ]
            refine wpAnyK_oneL (i := 8) rfl (by as_aux_lemma => kernel_rfl) (fun K hK => ?_)
            have L6 : RB2 we w5.heap.size (.int .i64 0) (.slice none 0 0) := A6.below (B := wa.heap.size) (by (repeat (first | exact Below.refl _ _ | (refine Below.setCell ?_ (by first | (simp; done) | (simp; omega) | omega) _) | (refine Below.alloc ?_ (by first | (simp; done) | (simp; omega) | omega) _) | (refine below_drewN ?_ _) | (refine Below.drew ?_) | (refine Below.trans ?_ (Below.mono hb1 (by first | (simp; done) | (simp; omega) | omega))) | (refine Below.trans ?_ (Below.mono hb3 (by first | (simp; done) | (simp; omega) | omega))) | (refine Below.trans ?_ (Below.mono hb5 (by first | (simp; done) | (simp; omega) | omega))) | (refine Below.trans ?_ (Below.mono hba (by first | (simp; done) | (simp; omega) | omega))) | (refine Below.trans ?_ (Below.mono hbe (by first | (simp; done) | (simp; omega) | omega)))))) (Nat.le_refl _)
            have L7 : RB2 we wa.heap.size (.int .i64 0) (.slice none 0 0) := A7.below (B := we.heap.size) (by (repeat (first | exact Below.refl _ _ | (refine Below.setCell ?_ (by first | (simp; done) | (simp; omega) | omega) _) | (refine Below.alloc ?_ (by first | (simp; done) | (simp; omega) | omega) _) | (refine below_drewN ?_ _) | (refine Below.drew ?_) | (refine Below.trans ?_ (Below.mono hb1 (by first | (simp; done) | (simp; omega) | omega))) | (refine Below.trans ?_ (Below.mono hb3 (by first | (simp; done) | (simp; omega) | omega))) | (refine Below.trans ?_ (Below.mono hb5 (by first | (simp; done) | (simp; omega) | omega))) | (refine Below.trans ?_ (Below.mono hba (by first | (simp; done) | (simp; omega) | omega))) | (refine Below.trans ?_ (Below.mono hbe (by first | (simp; done) | (simp; omega) | omega)))))) (Nat.le_refl _)
            have M3 : OwSR w1.heap.size w3.heap.size we (.slice o3 n c3) (subT m n (oneT m n) t) := hR3.bel2 (by (repeat (first | exact Below.refl _ _ | (refine Below.setCell ?_ (by first | (simp; done) | (simp; omega) | omega) _) | (refine Below.alloc ?_ (by first | (simp; done) | (simp; omega) | omega) _) | (refine below_drewN ?_ _) | (refine Below.drew ?_) | (refine Below.trans ?_ (Below.mono hb1 (by first | (simp; done) | (simp; omega) | omega))) | (refine Below.trans ?_ (Below.mono hb3 (by first | (simp; done) | (simp; omega) | omega))) | (refine Below.trans ?_ (Below.mono hb5 (by first | (simp; done) | (simp; omega) | omega))) | (refine Below.trans ?_ (Below.mono hba (by first | (simp; done) | (simp; omega) | omega))) | (refine Below.trans ?_ (Below.mono hbe (by first | (simp; done) | (simp; omega) | omega))))))
            have M5 : OwSR w3.heap.size w5.heap.size we (.slice o5 n c5) (oneT m n) := hR5.bel2 (by (repeat (first | exact Below.refl _ _ | (refine Below.setCell ?_ (by first | (simp; done) | (simp; omega) | omega) _) | (refine Below.alloc ?_ (by first | (simp; done) | (simp; omega) | omega) _) | (refine below_drewN ?_ _) | (refine Below.drew ?_) | (refine Below.trans ?_ (Below.mono hb1 (by first | (simp; done) | (simp; omega) | omega))) | (refine Below.trans ?_ (Below.mono hb3 (by first | (simp; done) | (simp; omega) | omega))) | (refine Below.trans ?_ (Below.mono hb5 (by first | (simp; done) | (simp; omega) | omega))) | (refine Below.trans ?_ (Below.mono hba (by first | (simp; done) | (simp; omega) | omega))) | (refine Below.trans ?_ (Below.mono hbe (by first | (simp; done) | (simp; omega) | omega))))))
            obtain ⟨⟨a60, a61⟩, a6f⟩ := id L6
            obtain ⟨⟨a70, a71⟩, a7f⟩ := id L7
            have a6g := a6f 0
            have a7g := a7f 0
            have a6h := a6f 1
            have a7h := a7f 1
            have hne : w5.heap.size ≠ wa.heap.size := by omega
            have hne' : wa.heap.size ≠ w5.heap.size := by omega
            have hb6_ : w0.heap.size ≤ w5.heap.size := by omega
            have hb7_ : w0.heap.size ≤ wa.heap.size := by omega
            have y36 : w5.heap.size < w1.heap.size ∨ w3.heap.size ≤ w5.heap.size := by omega
            have y37 : wa.heap.size < w1.heap.size ∨ w3.heap.size ≤ wa.heap.size := by omega
            have y56 : w5.heap.size < w3.heap.size ∨ w5.heap.size ≤ w5.heap.size := by omega
            have y57 : wa.heap.size < w3.heap.size ∨ w5.heap.size ≤ wa.heap.size := by omega
            have y5 : w0.heap.size ≤ w3.heap.size := by omega
            go_simp
            (try go_wp2_with fail)
            refine hK.out _ _ (fun h => absurd h (by decide)) ?_
            clear hK K
            try simp only [List.getElem_toArray, List.getElem_cons_zero, List.getElem_cons_succ, Act.put, List.setIfInBounds_toArray, List.set_cons_zero, List.set_cons_succ]
            refine wpAnyK_oneL (i := 9) rfl (by as_aux_lemma => kernel_rfl) (fun K hK => ?_)
            go_simp
            (try go_wp2_with fail)
            refine hK.out _ _ (fun h => absurd h (by decide)) ?_
            clear hK K
            try simp only [List.getElem_toArray, List.getElem_cons_zero, List.getElem_cons_succ, Act.put, List.setIfInBounds_toArray, List.set_cons_zero, List.set_cons_succ]
            refine wpAnyK_done (by as_aux_lemma => kernel_rfl) ?_ _
            go_wp2_with fail
            go_meet
            exact ⟨_, _, o3, o5, c3, c5, rfl, rfl, ((L6.put _ _).put' (a := ⟨_, 0, none⟩) hne' _).put' (a := ⟨_, 1, none⟩) hne' _, ((L7.put' (a := ⟨_, 0, none⟩) hne _).put' (a := ⟨_, 1, none⟩) hne _).put _ _, hb6_, hb7_, hne, ((((M3.put y36 0 _).put y36 1 _).put y37 0 _).put y37 1 _).live y37 (by simp; omega), ((((M5.put y56 0 _).put y56 1 _).put y57 0 _).put y57 1 _).ow.mono y5, (((Below.setCell (Below.setCell (by (repeat (first | exact Below.refl _ _ | (refine Below.setCell ?_ (by first | (simp; done) | (simp; omega) | omega) _) | (refine Below.alloc ?_ (by first | (simp; done) | (simp; omega) | omega) _) | (refine below_drewN ?_ _) | (refine Below.drew ?_) | (refine Below.trans ?_ (Below.mono hb1 (by first | (simp; done) | (simp; omega) | omega))) | (refine Below.trans ?_ (Below.mono hb3 (by first | (simp; done) | (simp; omega) | omega))) | (refine Below.trans ?_ (Below.mono hb5 (by first | (simp; done) | (simp; omega) | omega))) | (refine Below.trans ?_ (Below.mono hba (by first | (simp; done) | (simp; omega) | omega))) | (refine Below.trans ?_ (Below.mono hbe (by first | (simp; done) | (simp; omega) | omega)))))) (p := ⟨_, 0, none⟩) hb6_ _) (p := ⟨_, 1, none⟩) hb6_ _).setCell (p := ⟨_, 0, none⟩) hb7_ _).setCell (p := ⟨_, 1, none⟩) hb7_ _)⟩
          · as_aux_lemma =>
            go_simp
            obtain ⟨we, hwe⟩ : ∃ x : World, x = (w5).alloc (.cells #[.int .i64 0, .slice none 0 0] 25) := ⟨_, rfl⟩
            have hbe : Below (w5).heap.size (w5) we := by rw [hwe]; exact (by (repeat (first | exact Below.refl _ _ | (refine Below.setCell ?_ (by first | (simp; done) | (simp; omega) | omega) _) | (refine Below.alloc ?_ (by first | (simp; done) | (simp; omega) | omega) _) | (refine below_drewN ?_ _) | (refine Below.drew ?_))))
            have A7 : RB2 we w5.heap.size (.int .i64 0) (.slice none 0 0) := by rw [hwe]; exact RB2.mk1 (w5) _ _ _
            have ha7 : w5.heap.size < we.heap.size := A7.1.lt
            have hde : Below w0.heap.size w0 we := (by (repeat (first | exact Below.refl _ _ | (refine Below.setCell ?_ (by first | (simp; done) | (simp; omega) | omega) _) | (refine Below.alloc ?_ (by first | (simp; done) | (simp; omega) | omega) _) | (refine below_drewN ?_ _) | (refine Below.drew ?_) | (refine Below.trans ?_ (Below.mono hb1 (by first | (simp; done) | (simp; omega) | omega))) | (refine Below.trans ?_ (Below.mono hb3 (by first | (simp; done) | (simp; omega) | omega))) | (refine Below.trans ?_ (Below.mono hb5 (by first | (simp; done) | (simp; omega) | omega))) | (refine Below.trans ?_ (Below.mono hbe (by first | (simp; done) | (simp; omega) | omega))))))
            have hse := hde.size
            obtain ⟨fe0, fe1⟩ := X0.below hde (Nat.le_refl _)
            rw [← hwe]
            clear hwe
            clear hHeld
            have hHeld : (fun w' : World => w'.cell? ⟨w.heap.size, 0, none⟩ = some (.int .i64 m) ∧ w'.cell? ⟨w.heap.size, 1, none⟩ = some (.slice o n c)) we := by go_keep
            refine hK.out _ _ (fun _ => hHeld) ?_
            clear hK K
            try simp only [List.getElem_toArray, List.getElem_cons_zero, List.getElem_cons_succ, Act.put, List.setIfInBounds_toArray, List.set_cons_zero, List.set_cons_succ]
            refine wpAnyK_oneL (i := 6) rfl (by as_aux_lemma => kernel_rfl) (fun K hK => ?_)
            go_simp
            obtain ⟨wa, hwa⟩ : ∃ x : World, x = (we).alloc (.cells #[.int .i64 0, .slice none 0 0] 25) := ⟨_, rfl⟩
            have hba : Below (we).heap.size (we) wa := by rw [hwa]; exact (by (repeat (first | exact Below.refl _ _ | (refine Below.setCell ?_ (by first | (simp; done) | (simp; omega) | omega) _) | (refine Below.alloc ?_ (by first | (simp; done) | (simp; omega) | omega) _) | (refine below_drewN ?_ _) | (refine Below.drew ?_))))
            have A6 : RB2 wa we.heap.size (.int .i64 0) (.slice none 0 0) := by rw [hwa]; exact RB2.mk1 (we) _ _ _
            have ha6 : we.heap.size < wa.heap.size := A6.1.lt
            have hda : Below w0.heap.size w0 wa := (by (repeat (first | exact Below.refl _ _ | (refine Below.setCell ?_ (by first | (simp; done) | (simp; omega) | omega) _) | (refine Below.alloc ?_ (by first | (simp; done) | (simp; omega) | omega) _) | (refine below_drewN ?_ _) | (refine Below.drew ?_) | (refine Below.trans ?_ (Below.mono hb1 (by first | (simp; done) | (simp; omega) | omega))) | (refine Below.trans ?_ (Below.mono hb3 (by first | (simp; done) | (simp; omega) | omega))) | (refine Below.trans ?_ (Below.mono hb5 (by first | (simp; done) | (simp; omega) | omega))) | (refine Below.trans ?_ (Below.mono hbe (by first | (simp; done) | (simp; omega) | omega))) | (refine Below.trans ?_ (Below.mono hba (by first | (simp; done) | (simp; omega) | omega))))))
            have hsa := hda.size
            obtain ⟨fa0, fa1⟩ := X0.below hda (Nat.le_refl _)
            rw [← hwa]
            clear hwa
            clear hHeld
            have hHeld : (fun w' : World => w'.cell? ⟨w.heap.size, 0, none⟩ = some (.int .i64 m) ∧ w'.cell? ⟨w.heap.size, 1, none⟩ = some (.slice o n c)) wa := by go_keep
            refine hK.out _ _ (fun _ => hHeld) ?_
            clear hK K
            try simp only [List.getElem_toArray, List.getElem_cons_zero, List.getElem_cons_succ, Act.put, List.setIfInBounds_toArray, List.set_cons_zero, List.set_cons_succ]
            refine wpAnyK_oneL (i := 8) rfl (by as_aux_lemma => kernel_rfl) (fun K hK => ?_)
            have L6 : RB2 wa we.heap.size (.int .i64 0) (.slice none 0 0) := A6.below (B := wa.heap.size) (by (repeat (first | exact Below.refl _ _ | (refine Below.setCell ?_ (by first | (simp; done) | (simp; omega) | omega) _) | (refine Below.alloc ?_ (by first | (simp; done) | (simp; omega) | omega) _) | (refine below_drewN ?_ _) | (refine Below.drew ?_) | (refine Below.trans ?_ (Below.mono hb1 (by first | (simp; done) | (simp; omega) | omega))) | (refine Below.trans ?_ (Below.mono hb3 (by first | (simp; done) | (simp; omega) | omega))) | (refine Below.trans ?_ (Below.mono hb5 (by first | (simp; done) | (simp; omega) | omega))) | (refine Below.trans ?_ (Below.mono hbe (by first | (simp; done) | (simp; omega) | omega))) | (refine Below.trans ?_ (Below.mono hba (by first | (simp; done) | (simp; omega) | omega)))))) (Nat.le_refl _)
            have L7 : RB2 wa w5.heap.size (.int .i64 0) (.slice none 0 0) := A7.below (B := we.heap.size) (by (repeat (first | exact Below.refl _ _ | (refine Below.setCell ?_ (by first | (simp; done) | (simp; omega) | omega) _) | (refine Below.alloc ?_ (by first | (simp; done) | (simp; omega) | omega) _) | (refine below_drewN ?_ _) | (refine Below.drew ?_) | (refine Below.trans ?_ (Below.mono hb1 (by first | (simp; done) | (simp; omega) | omega))) | (refine Below.trans ?_ (Below.mono hb3 (by first | (simp; done) | (simp; omega) | omega))) | (refine Below.trans ?_ (Below.mono hb5 (by first | (simp; done) | (simp; omega) | omega))) | (refine Below.trans ?_ (Below.mono hbe (by first | (simp; done) | (simp; omega) | omega))) | (refine Below.trans ?_ (Below.mono hba (by first | (simp; done) | (simp; omega) | omega)))))) (Nat.le_refl _)
            have M3 : OwSR w1.heap.size w3.heap.size wa (.slice o3 n c3) (subT m n (oneT m n) t) := hR3.bel2 (by (repeat (first | exact Below.refl _ _ | (refine Below.setCell ?_ (by first | (simp; done) | (simp; omega) | omega) _) | (refine Below.alloc ?_ (by first | (simp; done) | (simp; omega) | omega) _) | (refine below_drewN ?_ _) | (refine Below.drew ?_) | (refine Below.trans ?_ (Below.mono hb1 (by first | (simp; done) | (simp; omega) | omega))) | (refine Below.trans ?_ (Below.mono hb3 (by first | (simp; done) | (simp; omega) | omega))) | (refine Below.trans ?_ (Below.mono hb5 (by first | (simp; done) | (simp; omega) | omega))) | (refine Below.trans ?_ (Below.mono hbe (by first | (simp; done) | (simp; omega) | omega))) | (refine Below.trans ?_ (Below.mono hba (by first | (simp; done) | (simp; omega) | omega))))))
            have M5 : OwSR w3.heap.size w5.heap.size wa (.slice o5 n c5) (oneT m n) := hR5.bel2 (by (repeat (first | exact Below.refl _ _ | (refine Below.setCell ?_ (by first | (simp; done) | (simp; omega) | omega) _) | (refine Below.alloc ?_ (by first | (simp; done) | (simp; omega) | omega) _) | (refine below_drewN ?_ _) | (refine Below.drew ?_) | (refine Below.trans ?_ (Below.mono hb1 (by first | (simp; done) | (simp; omega) | omega))) | (refine Below.trans ?_ (Below.mono hb3 (by first | (simp; done) | (simp; omega) | omega))) | (refine Below.trans ?_ (Below.mono hb5 (by first | (simp; done) | (simp; omega) | omega))) | (refine Below.trans ?_ (Below.mono hbe (by first | (simp; done) | (simp; omega) | omega))) | (refine Below.trans ?_ (Below.mono hba (by first | (simp; done) | (simp; omega) | omega))))))
            obtain ⟨⟨a60, a61⟩, a6f⟩ := id L6
            obtain ⟨⟨a70, a71⟩, a7f⟩ := id L7
            have a6g := a6f 0
            have a7g := a7f 0
            have a6h := a6f 1
            have a7h := a7f 1
            have hne : we.heap.size ≠ w5.heap.size := by omega
            have hne' : w5.heap.size ≠ we.heap.size := by omega
            have hb6_ : w0.heap.size ≤ we.heap.size := by omega
            have hb7_ : w0.heap.size ≤ w5.heap.size := by omega
            have y36 : we.heap.size < w1.heap.size ∨ w3.heap.size ≤ we.heap.size := by omega
            have y37 : w5.heap.size < w1.heap.size ∨ w3.heap.size ≤ w5.heap.size := by omega
            have y56 : we.heap.size < w3.heap.size ∨ w5.heap.size ≤ we.heap.size := by omega
            have y57 : w5.heap.size < w3.heap.size ∨ w5.heap.size ≤ w5.heap.size := by omega
            have y5 : w0.heap.size ≤ w3.heap.size := by omega
            go_simp
            (try go_wp2_with fail)
            refine hK.out _ _ (fun h => absurd h (by decide)) ?_
            clear hK K
            try simp only [List.getElem_toArray, List.getElem_cons_zero, List.getElem_cons_succ, Act.put, List.setIfInBounds_toArray, List.set_cons_zero, List.set_cons_succ]
            refine wpAnyK_oneL (i := 9) rfl (by as_aux_lemma => kernel_rfl) (fun K hK => ?_)
            go_simp
            (try go_wp2_with fail)
            refine hK.out _ _ (fun h => absurd h (by decide)) ?_
            clear hK K
            try simp only [List.getElem_toArray, List.getElem_cons_zero, List.getElem_cons_succ, Act.put, List.setIfInBounds_toArray, List.set_cons_zero, List.set_cons_succ]
            refine wpAnyK_done (by as_aux_lemma => kernel_rfl) ?_ _
            go_wp2_with fail
            go_meet
            exact ⟨_, _, o3, o5, c3, c5, rfl, rfl, ((L6.put _ _).put' (a := ⟨_, 0, none⟩) hne' _).put' (a := ⟨_, 1, none⟩) hne' _, ((L7.put' (a := ⟨_, 0, none⟩) hne _).put' (a := ⟨_, 1, none⟩) hne _).put _ _, hb6_, hb7_, hne, ((((M3.put y36 0 _).put y36 1 _).put y37 0 _).put y37 1 _).live y37 (by simp; omega), ((((M5.put y56 0 _).put y56 1 _).put y57 0 _).put y57 1 _).ow.mono y5, (((Below.setCell (Below.setCell (by (repeat (first | exact Below.refl _ _ | (refine Below.setCell ?_ (by first | (simp; done) | (simp; omega) | omega) _) | (refine Below.alloc ?_ (by first | (simp; done) | (simp; omega) | omega) _) | (refine below_drewN ?_ _) | (refine Below.drew ?_) | (refine Below.trans ?_ (Below.mono hb1 (by first | (simp; done) | (simp; omega) | omega))) | (refine Below.trans ?_ (Below.mono hb3 (by first | (simp; done) | (simp; omega) | omega))) | (refine Below.trans ?_ (Below.mono hb5 (by first | (simp; done) | (simp; omega) | omega))) | (refine Below.trans ?_ (Below.mono hbe (by first | (simp; done) | (simp; omega) | omega))) | (refine Below.trans ?_ (Below.mono hba (by first | (simp; done) | (simp; omega) | omega)))))) (p := ⟨_, 0, none⟩) hb6_ _) (p := ⟨_, 1, none⟩) hb6_ _).setCell (p := ⟨_, 0, none⟩) hb7_ _).setCell (p := ⟨_, 1, none⟩) hb7_ _)⟩
        · as_aux_lemma =>
          go_simp
          obtain ⟨wa, hwa⟩ : ∃ x : World, x = (w3).alloc (.cells #[.int .i64 0, .slice none 0 0] 25) := ⟨_, rfl⟩
          have hba : Below (w3).heap.size (w3) wa := by rw [hwa]; exact (by (repeat (first | exact Below.refl _ _ | (refine Below.setCell ?_ (by first | (simp; done) | (simp; omega) | omega) _) | (refine Below.alloc ?_ (by first | (simp; done) | (simp; omega) | omega) _) | (refine below_drewN ?_ _) | (refine Below.drew ?_))))
          have A6 : RB2 wa w3.heap.size (.int .i64 0) (.slice none 0 0) := by rw [hwa]; exact RB2.mk1 (w3) _ _ _
          have ha6 : w3.heap.size < wa.heap.size := A6.1.lt
          have hda : Below w0.heap.size w0 wa := (by (repeat (first | exact Below.refl _ _ | (refine Below.setCell ?_ (by first | (simp; done) | (simp; omega) | omega) _) | (refine Below.alloc ?_ (by first | (simp; done) | (simp; omega) | omega) _) | (refine below_drewN ?_ _) | (refine Below.drew ?_) | (refine Below.trans ?_ (Below.mono hb1 (by first | (simp; done) | (simp; omega) | omega))) | (refine Below.trans ?_ (Below.mono hb3 (by first | (simp; done) | (simp; omega) | omega))) | (refine Below.trans ?_ (Below.mono hba (by first | (simp; done) | (simp; omega) | omega))))))
          have hsa := hda.size
          obtain ⟨fa0, fa1⟩ := X0.below hda (Nat.le_refl _)
          rw [← hwa]
          clear hwa
          clear hHeld
          have hHeld : (fun w' : World => w'.cell? ⟨w.heap.size, 0, none⟩ = some (.int .i64 m) ∧ w'.cell? ⟨w.heap.size, 1, none⟩ = some (.slice o n c)) wa := by go_keep
          refine hK.out _ _ (fun _ => hHeld) ?_
          clear hK K
          try simp only [List.getElem_toArray, List.getElem_cons_zero, List.getElem_cons_succ, Act.put, List.setIfInBounds_toArray, List.set_cons_zero, List.set_cons_succ]
          refine wpAnyK_two (i := 5) (j := 7) rfl rfl (by as_aux_lemma => kernel_rfl) (fun K hK => ?_) (fun K hK => ?_)
          · as_aux_lemma =>
            go_simp
            go_at_call 41
            refine (one_n m o n c _ h1 hn hm hm').mono ?_
            rintro e w5 ⟨v5, rfl, h5_, hb5⟩
            obtain ⟨o5, c5, rfl⟩ := h5_.shapeN (n := n) (tri_len _ _)
            have hd5 : Below w0.heap.size w0 w5 := (by (repeat (first | exact Below.refl _ _ | (refine Below.setCell ?_ (by first | (simp; done) | (simp; omega) | omega) _) | (refine Below.alloc ?_ (by first | (simp; done) | (simp; omega) | omega) _) | (refine below_drewN ?_ _) | (refine Below.drew ?_) | (refine Below.trans ?_ (Below.mono hb1 (by first | (simp; done) | (simp; omega) | omega))) | (refine Below.trans ?_ (Below.mono hb3 (by first | (simp; done) | (simp; omega) | omega))) | (refine Below.trans ?_ (Below.mono hba (by first | (simp; done) | (simp; omega) | omega))) | (refine Below.trans ?_ (Below.mono hb5 (by first | (simp; done) | (simp; omega) | omega))))))
            have hs5 := hd5.size
            have hz5 : wa.heap.size ≤ w5.heap.size := by first | exact hb5.size | (have := hb5.size; simpa using this)
            have hR5 := h5_.toR
            clear h5_
            obtain ⟨f50, f51⟩ := X0.below hd5 (Nat.le_refl _)
            go_wp2_with fail
            clear hHeld
            have hHeld : (fun w' : World => w'.cell? ⟨w.heap.size, 0, none⟩ = some (.int .i64 m) ∧ w'.cell? ⟨w.heap.size, 1, none⟩ = some (.slice o n c)) w5 := by go_keep
            refine hK.out _ _ (fun _ => hHeld) ?_
            clear hK K
            try simp only [List.getElem_toArray, List.getElem_cons_zero, List.getElem_cons_succ, Act.put, List.setIfInBounds_toArray, List.set_cons_zero, List.set_cons_succ]
            refine wpAnyK_oneL (i := 7) rfl (by as_aux_lemma => kernel_rfl) (fun K hK => ?_)
            go_simp
            obtain ⟨we, hwe⟩ : ∃ x : World, x = (w5).alloc (.cells #[.int .i64 0, .slice none 0 0] 25) := ⟨_, rfl⟩
            have hbe : Below (w5).heap.size (w5) we := by rw [hwe]; exact (by (repeat (first | exact Below.refl _ _ | (refine Below.setCell ?_ (by first | (simp; done) | (simp; omega) | omega) _) | (refine Below.alloc ?_ (by first | (simp; done) | (simp; omega) | omega) _) | (refine below_drewN ?_ _) | (refine Below.drew ?_))))
            have A7 : RB2 we w5.heap.size (.int .i64 0) (.slice none 0 0) := by rw [hwe]; exact RB2.mk1 (w5) _ _ _
            have ha7 : w5.heap.size < we.heap.size := A7.1.lt
            have hde : Below w0.heap.size w0 we := (by (repeat (first | exact Below.refl _ _ | (refine Below.setCell ?_ (by first | (simp; done) | (simp; omega) | omega) _) | (refine Below.alloc ?_ (by first | (simp; done) | (simp; omega) | omega) _) | (refine below_drewN ?_ _) | (refine Below.drew ?_) | (refine Below.trans ?_ (Below.mono hb1 (by first | (simp; done) | (simp; omega) | omega))) | (refine Below.trans ?_ (Below.mono hb3 (by first | (simp; done) | (simp; omega) | omega))) | (refine Below.trans ?_ (Below.mono hba (by first | (simp; done) | (simp; omega) | omega))) | (refine Below.trans ?_ (Below.mono hb5 (by first | (simp; done) | (simp; omega) | omega))) | (refine Below.trans ?_ (Below.mono hbe (by first | (simp; done) | (simp; omega) | omega))))))
            have hse := hde.size
            obtain ⟨fe0, fe1⟩ := X0.below hde (Nat.le_refl _)
            rw [← hwe]
            clear hwe
            clear hHeld
            have hHeld : (fun w' : World => w'.cell? ⟨w.heap.size, 0, none⟩ = some (.int .i64 m) ∧ w'.cell? ⟨w.heap.size, 1, none⟩ = some (.slice o n c)) we := by go_keep
            refine hK.out _ _ (fun _ => hHeld) ?_
            clear hK K
            try simp only [List.getElem_toArray, List.getElem_cons_zero, List.getElem_cons_succ, Act.put, List.setIfInBounds_toArray, List.set_cons_zero, List.set_cons_succ]
            refine wpAnyK_oneL (i := 8) rfl (by as_aux_lemma => kernel_rfl) (fun K hK => ?_)
            have L6 : RB2 we w3.heap.size (.int .i64 0) (.slice none 0 0) := A6.below (B := wa.heap.size) (by (repeat (first | exact Below.refl _ _ | (refine Below.setCell ?_ (by first | (simp; done) | (simp; omega) | omega) _) | (refine Below.alloc ?_ (by first | (simp; done) | (simp; omega) | omega) _) | (refine below_drewN ?_ _) | (refine Below.drew ?_) | (refine Below.trans ?_ (Below.mono hb1 (by first | (simp; done) | (simp; omega) | omega))) | (refine Below.trans ?_ (Below.mono hb3 (by first | (simp; done) | (simp; omega) | omega))) | (refine Below.trans ?_ (Below.mono hba (by first | (simp; done) | (simp; omega) | omega))) | (refine Below.trans ?_ (Below.mono hb5 (by first | (simp; done) | (simp; omega) | omega))) | (refine Below.trans ?_ (Below.mono hbe (by first | (simp; done) | (simp; omega) | omega)))))) (Nat.le_refl _)
            have L7 : RB2 we w5.heap.size (.int .i64 0) (.slice none 0 0) := A7.below (B := we.heap.size) (by (repeat (first | exact Below.refl _ _ | (refine Below.setCell ?_ (by first | (simp; done) | (simp; omega) | omega) _) | (refine Below.alloc ?_ (by first | (simp; done) | (simp; omega) | omega) _) | (refine below_drewN ?_ _) | (refine Below.drew ?_) | (refine Below.trans ?_ (Below.mono hb1 (by first | (simp; done) | (simp; omega) | omega))) | (refine Below.trans ?_ (Below.mono hb3 (by first | (simp; done) | (simp; omega) | omega))) | (refine Below.trans ?_ (Below.mono hba (by first | (simp; done) | (simp; omega) | omega))) | (refine Below.trans ?_ (Below.mono hb5 (by first | (simp; done) | (simp; omega) | omega))) | (refine Below.trans ?_ (Below.mono hbe (by first | (simp; done) | (simp; omega) | omega)))))) (Nat.le_refl _)
            have M3 : OwSR w1.heap.size w3.heap.size we (.slice o3 n c3) (subT m n (oneT m n) t) := hR3.bel2 (by (repeat (first | exact Below.refl _ _ | (refine Below.setCell ?_ (by first | (simp; done) | (simp; omega) | omega) _) | (refine Below.alloc ?_ (by first | (simp; done) | (simp; omega) | omega) _) | (refine below_drewN ?_ _) | (refine Below.drew ?_) | (refine Below.trans ?_ (Below.mono hb1 (by first | (simp; done) | (simp; omega) | omega))) | (refine Below.trans ?_ (Below.mono hb3 (by first | (simp; done) | (simp; omega) | omega))) | (refine Below.trans ?_ (Below.mono hba (by first | (simp; done) | (simp; omega) | omega))) | (refine Below.trans ?_ (Below.mono hb5 (by first | (simp; done) | (simp; omega) | omega))) | (refine Below.trans ?_ (Below.mono hbe (by first | (simp; done) | (simp; omega) | omega))))))
            have M5 : OwSR wa.heap.size w5.heap.size we (.slice o5 n c5) (oneT m n) := hR5.bel2 (by (repeat (first | exact Below.refl _ _ | (refine Below.setCell ?_ (by first | (simp; done) | (simp; omega) | omega) _) | (refine Below.alloc ?_ (by first | (simp; done) | (simp; omega) | omega) _) | (refine below_drewN ?_ _) | (refine Below.drew ?_) | (refine Below.trans ?_ (Below.mono hb1 (by first | (simp; done) | (simp; omega) | omega))) | (refine Below.trans ?_ (Below.mono hb3 (by first | (simp; done) | (simp; omega) | omega))) | (refine Below.trans ?_ (Below.mono hba (by first | (simp; done) | (simp; omega) | omega))) | (refine Below.trans ?_ (Below.mono hb5 (by first | (simp; done) | (simp; omega) | omega))) | (refine Below.trans ?_ (Below.mono hbe (by first | (simp; done) | (simp; omega) | omega))))))
            obtain ⟨⟨a60, a61⟩, a6f⟩ := id L6
            obtain ⟨⟨a70, a71⟩, a7f⟩ := id L7
            have a6g := a6f 0
            have a7g := a7f 0
            have a6h := a6f 1
            have a7h := a7f 1
            have hne : w3.heap.size ≠ w5.heap.size := by omega
            have hne' : w5.heap.size ≠ w3.heap.size := by omega
            have hb6_ : w0.heap.size ≤ w3.heap.size := by omega
            have hb7_ : w0.heap.size ≤ w5.heap.size := by omega
            have y36 : w3.heap.size < w1.heap.size ∨ w3.heap.size ≤ w3.heap.size := by omega
            have y37 : w5.heap.size < w1.heap.size ∨ w3.heap.size ≤ w5.heap.size := by omega
            have y56 : w3.heap.size < wa.heap.size ∨ w5.heap.size ≤ w3.heap.size := by omega
            have y57 : w5.heap.size < wa.heap.size ∨ w5.heap.size ≤ w5.heap.size := by omega
            have y5 : w0.heap.size ≤ wa.heap.size := by omega
            go_simp
            (try go_wp2_with fail)
            refine hK.out _ _ (fun h => absurd h (by decide)) ?_
            clear hK K
            try simp only [List.getElem_toArray, List.getElem_cons_zero, List.getElem_cons_succ, Act.put, List.setIfInBounds_toArray, List.set_cons_zero, List.set_cons_succ]
            refine wpAnyK_oneL (i := 9) rfl (by as_aux_lemma => kernel_rfl) (fun K hK => ?_)
            go_simp
            (try go_wp2_with fail)
            refine hK.out _ _ (fun h => absurd h (by decide)) ?_
            clear hK K
            try simp only [List.getElem_toArray, List.getElem_cons_zero, List.getElem_cons_succ, Act.put, List.setIfInBounds_toArray, List.set_cons_zero, List.set_cons_succ]
            refine wpAnyK_done (by as_aux_lemma => kernel_rfl) ?_ _
            go_wp2_with fail
            go_meet
            exact ⟨_, _, o3, o5, c3, c5, rfl, rfl, ((L6.put _ _).put' (a := ⟨_, 0, none⟩) hne' _).put' (a := ⟨_, 1, none⟩) hne' _, ((L7.put' (a := ⟨_, 0, none⟩) hne _).put' (a := ⟨_, 1, none⟩) hne _).put _ _, hb6_, hb7_, hne, ((((M3.put y36 0 _).put y36 1 _).put y37 0 _).put y37 1 _).live y37 (by simp; omega), ((((M5.put y56 0 _).put y56 1 _).put y57 0 _).put y57 1 _).ow.mono y5, (((Below.setCell (Below.setCell (by (repeat (first | exact Below.refl _ _ | (refine Below.setCell ?_ (by first | (simp; done) | (simp; omega) | omega) _) | (refine Below.alloc ?_ (by first | (simp; done) | (simp; omega) | omega) _) | (refine below_drewN ?_ _) | (refine Below.drew ?_) | (refine Below.trans ?_ (Below.mono hb1 (by first | (simp; done) | (simp; omega) | omega))) | (refine Below.trans ?_ (Below.mono hb3 (by first | (simp; done) | (simp; omega) | omega))) | (refine Below.trans ?_ (Below.mono hba (by first | (simp; done) | (simp; omega) | omega))) | (refine Below.trans ?_ (Below.mono hb5 (by first | (simp; done) | (simp; omega) | omega))) | (refine Below.trans ?_ (Below.mono hbe (by first | (simp; done) | (simp; omega) | omega)))))) (p := ⟨_, 0, none⟩) hb6_ _) (p := ⟨_, 1, none⟩) hb6_ _).setCell (p := ⟨_, 0, none⟩) hb7_ _).setCell (p := ⟨_, 1, none⟩) hb7_ _)⟩
          · as_aux_lemma =>
            go_simp
            obtain ⟨we, hwe⟩ : ∃ x : World, x = (wa).alloc (.cells #[.int .i64 0, .slice none 0 0] 25) := ⟨_, rfl⟩
            have hbe : Below (wa).heap.size (wa) we := by rw [hwe]; exact (by (repeat (first | exact Below.refl _ _ | (refine Below.setCell ?_ (by first | (simp; done) | (simp; omega) | omega) _) | (refine Below.alloc ?_ (by first | (simp; done) | (simp; omega) | omega) _) | (refine below_drewN ?_ _) | (refine Below.drew ?_))))
            have A7 : RB2 we wa.heap.size (.int .i64 0) (.slice none 0 0) := by rw [hwe]; exact RB2.mk1 (wa) _ _ _
            have ha7 : wa.heap.size < we.heap.size := A7.1.lt
            have hde : Below w0.heap.size w0 we := (by (repeat (first | exact Below.refl _ _ | (refine Below.setCell ?_ (by first | (simp; done) | (simp; omega) | omega) _) | (refine Below.alloc ?_ (by first | (simp; done) | (simp; omega) | omega) _) | (refine below_drewN ?_ _) | (refine Below.drew ?_) | (refine Below.trans ?_ (Below.mono hb1 (by first | (simp; done) | (simp; omega) | omega))) | (refine Below.trans ?_ (Below.mono hb3 (by first | (simp; done) | (simp; omega) | omega))) | (refine Below.trans ?_ (Below.mono hba (by first | (simp; done) | (simp; omega) | omega))) | (refine Below.trans ?_ (Below.mono hbe (by first | (simp; done) | (simp; omega) | omega))))))
            have hse := hde.size
            obtain ⟨fe0, fe1⟩ := X0.below hde (Nat.le_refl _)
            rw [← hwe]
            clear hwe
            clear hHeld
            have hHeld : (fun w' : World => w'.cell? ⟨w.heap.size, 0, none⟩ = some (.int .i64 m) ∧ w'.cell? ⟨w.heap.size, 1, none⟩ = some (.slice o n c)) we := by go_keep
            refine hK.out _ _ (fun _ => hHeld) ?_
            clear hK K
            try simp only [List.getElem_toArray, List.getElem_cons_zero, List.getElem_cons_succ, Act.put, List.setIfInBounds_toArray, List.set_cons_zero, List.set_cons_succ]
            refine wpAnyK_oneL (i := 5) rfl (by as_aux_lemma => kernel_rfl) (fun K hK => ?_)
            go_simp
            go_at_call 41
            refine (one_n m o n c _ h1 hn hm hm').mono ?_
            rintro e w5 ⟨v5, rfl, h5_, hb5⟩
            obtain ⟨o5, c5, rfl⟩ := h5_.shapeN (n := n) (tri_len _ _)
            have hd5 : Below w0.heap.size w0 w5 := (by (repeat (first | exact Below.refl _ _ | (refine Below.setCell ?_ (by first | (simp; done) | (simp; omega) | omega) _) | (refine Below.alloc ?_ (by first | (simp; done) | (simp; omega) | omega) _) | (refine below_drewN ?_ _) | (refine Below.drew ?_) | (refine Below.trans ?_ (Below.mono hb1 (by first | (simp; done) | (simp; omega) | omega))) | (refine Below.trans ?_ (Below.mono hb3 (by first | (simp; done) | (simp; omega) | omega))) | (refine Below.trans ?_ (Below.mono hba (by first | (simp; done) | (simp; omega) | omega))) | (refine Below.trans ?_ (Below.mono hbe (by first | (simp; done) | (simp; omega) | omega))) | (refine Below.trans ?_ (Below.mono hb5 (by first | (simp; done) | (simp; omega) | omega))))))
            have hs5 := hd5.size
            have hz5 : we.heap.size ≤ w5.heap.size := by first | exact hb5.size | (have := hb5.size; simpa using this)
            have hR5 := h5_.toR
            clear h5_
            obtain ⟨f50, f51⟩ := X0.below hd5 (Nat.le_refl _)
            go_wp2_with fail
            clear hHeld
            have hHeld : (fun w' : World => w'.cell? ⟨w.heap.size, 0, none⟩ = some (.int .i64 m) ∧ w'.cell? ⟨w.heap.size, 1, none⟩ = some (.slice o n c)) w5 := by go_keep
            refine hK.out _ _ (fun _ => hHeld) ?_
            clear hK K
            try simp only [List.getElem_toArray, List.getElem_cons_zero, List.getElem_cons_succ, Act.put, List.setIfInBounds_toArray, List.set_cons_zero, List.set_cons_succ]
            refine wpAnyK_oneL (i := 8) rfl (by as_aux_lemma => kernel_rfl) (fun K hK => ?_)
            have L6 : RB2 w5 w3.heap.size (.int .i64 0) (.slice none 0 0) := A6.below (B := wa.heap.size) (by (repeat (first | exact Below.refl _ _ | (refine Below.setCell ?_ (by first | (simp; done) | (simp; omega) | omega) _) | (refine Below.alloc ?_ (by first | (simp; done) | (simp; omega) | omega) _) | (refine below_drewN ?_ _) | (refine Below.drew ?_) | (refine Below.trans ?_ (Below.mono hb1 (by first | (simp; done) | (simp; omega) | omega))) | (refine Below.trans ?_ (Below.mono hb3 (by first | (simp; done) | (simp; omega) | omega))) | (refine Below.trans ?_ (Below.mono hba (by first | (simp; done) | (simp; omega) | omega))) | (refine Below.trans ?_ (Below.mono hbe (by first | (simp; done) | (simp; omega) | omega))) | (refine Below.trans ?_ (Below.mono hb5 (by first | (simp; done) | (simp; omega) | omega)))))) (Nat.le_refl _)
            have L7 : RB2 w5 wa.heap.size (.int .i64 0) (.slice none 0 0) := A7.below (B := we.heap.size) (by (repeat (first | exact Below.refl _ _ | (refine Below.setCell ?_ (by first | (simp; done) | (simp; omega) | omega) _) | (refine Below.alloc ?_ (by first | (simp; done) | (simp; omega) | omega) _) | (refine below_drewN ?_ _) | (refine Below.drew ?_) | (refine Below.trans ?_ (Below.mono hb1 (by first | (simp; done) | (simp; omega) | omega))) | (refine Below.trans ?_ (Below.mono hb3 (by first | (simp; done) | (simp; omega) | omega))) | (refine Below.trans ?_ (Below.mono hba (by first | (simp; done) | (simp; omega) | omega))) | (refine Below.trans ?_ (Below.mono hbe (by first | (simp; done) | (simp; omega) | omega))) | (refine Below.trans ?_ (Below.mono hb5 (by first | (simp; done) | (simp; omega) | omega)))))) (Nat.le_refl _)
            have M3 : OwSR w1.heap.size w3.heap.size w5 (.slice o3 n c3) (subT m n (oneT m n) t) := hR3.bel2 (by (repeat (first | exact Below.refl _ _ | (refine Below.setCell ?_ (by first | (simp; done) | (simp; omega) | omega) _) | (refine Below.alloc ?_ (by first | (simp; done) | (simp; omega) | omega) _) | (refine below_drewN ?_ _) | (refine Below.drew ?_) | (refine Below.trans ?_ (Below.mono hb1 (by first | (simp; done) | (simp; omega) | omega))) | (refine Below.trans ?_ (Below.mono hb3 (by first | (simp; done) | (simp; omega) | omega))) | (refine Below.trans ?_ (Below.mono hba (by first | (simp; done) | (simp; omega) | omega))) | (refine Below.trans ?_ (Below.mono hbe (by first | (simp; done) | (simp; omega) | omega))) | (refine Below.trans ?_ (Below.mono hb5 (by first | (simp; done) | (simp; omega) | omega))))))
            have M5 : OwSR we.heap.size w5.heap.size w5 (.slice o5 n c5) (oneT m n) := hR5.bel2 (by (repeat (first | exact Below.refl _ _ | (refine Below.setCell ?_ (by first | (simp; done) | (simp; omega) | omega) _) | (refine Below.alloc ?_ (by first | (simp; done) | (simp; omega) | omega) _) | (refine below_drewN ?_ _) | (refine Below.drew ?_) | (refine Below.trans ?_ (Below.mono hb1 (by first | (simp; done) | (simp; omega) | omega))) | (refine Below.trans ?_ (Below.mono hb3 (by first | (simp; done) | (simp; omega) | omega))) | (refine Below.trans ?_ (Below.mono hba (by first | (simp; done) | (simp; omega) | omega))) | (refine Below.trans ?_ (Below.mono hbe (by first | (simp; done) | (simp; omega) | omega))) | (refine Below.trans ?_ (Below.mono hb5 (by first | (simp; done) | (simp; omega) | omega))))))
            obtain ⟨⟨a60, a61⟩, a6f⟩ := id L6
            obtain ⟨⟨a70, a71⟩, a7f⟩ := id L7
            have a6g := a6f 0
            have a7g := a7f 0
            have a6h := a6f 1
            have a7h := a7f 1
            have hne : w3.heap.size ≠ wa.heap.size := by omega
            have hne' : wa.heap.size ≠ w3.heap.size := by omega
            have hb6_ : w0.heap.size ≤ w3.heap.size := by omega
            have hb7_ : w0.heap.size ≤ wa.heap.size := by omega
            have y36 : w3.heap.size < w1.heap.size ∨ w3.heap.size ≤ w3.heap.size := by omega
            have y37 : wa.heap.size < w1.heap.size ∨ w3.heap.size ≤ wa.heap.size := by omega
            have y56 : w3.heap.size < we.heap.size ∨ w5.heap.size ≤ w3.heap.size := by omega
            have y57 : wa.heap.size < we.heap.size ∨ w5.heap.size ≤ wa.heap.size := by omega
            have y5 : w0.heap.size ≤ we.heap.size := by omega
            go_simp
            (try go_wp2_with fail)
            refine hK.out _ _ (fun h => absurd h (by decide)) ?_
            clear hK K
            try simp only [List.getElem_toArray, List.getElem_cons_zero, List.getElem_cons_succ, Act.put, List.setIfInBounds_toArray, List.set_cons_zero, List.set_cons_succ]
            refine wpAnyK_oneL (i := 9) rfl (by as_aux_lemma => kernel_rfl) (fun K hK => ?_)
            go_simp
            (try go_wp2_with fail)
            refine hK.out _ _ (fun h => absurd h (by decide)) ?_
            clear hK K
            try simp only [List.getElem_toArray, List.getElem_cons_zero, List.getElem_cons_succ, Act.put, List.setIfInBounds_toArray, List.set_cons_zero, List.set_cons_succ]
            refine wpAnyK_done (by as_aux_lemma => kernel_rfl) ?_ _
            go_wp2_with fail
            go_meet
            exact ⟨_, _, o3, o5, c3, c5, rfl, rfl, ((L6.put _ _).put' (a := ⟨_, 0, none⟩) hne' _).put' (a := ⟨_, 1, none⟩) hne' _, ((L7.put' (a := ⟨_, 0, none⟩) hne _).put' (a := ⟨_, 1, none⟩) hne _).put _ _, hb6_, hb7_, hne, ((((M3.put y36 0 _).put y36 1 _).put y37 0 _).put y37 1 _).live y37 (by simp; omega), ((((M5.put y56 0 _).put y56 1 _).put y57 0 _).put y57 1 _).ow.mono y5, (((Below.setCell (Below.setCell (by (repeat (first | exact Below.refl _ _ | (refine Below.setCell ?_ (by first | (simp; done) | (simp; omega) | omega) _) | (refine Below.alloc ?_ (by first | (simp; done) | (simp; omega) | omega) _) | (refine below_drewN ?_ _) | (refine Below.drew ?_) | (refine Below.trans ?_ (Below.mono hb1 (by first | (simp; done) | (simp; omega) | omega))) | (refine Below.trans ?_ (Below.mono hb3 (by first | (simp; done) | (simp; omega) | omega))) | (refine Below.trans ?_ (Below.mono hba (by first | (simp; done) | (simp; omega) | omega))) | (refine Below.trans ?_ (Below.mono hbe (by first | (simp; done) | (simp; omega) | omega))) | (refine Below.trans ?_ (Below.mono hb5 (by first | (simp; done) | (simp; omega) | omega)))))) (p := ⟨_, 0, none⟩) hb6_ _) (p := ⟨_, 1, none⟩) hb6_ _).setCell (p := ⟨_, 0, none⟩) hb7_ _).setCell (p := ⟨_, 1, none⟩) hb7_ _)⟩
        · as_aux_lemma =>
          go_simp
          obtain ⟨we, hwe⟩ : ∃ x : World, x = (w3).alloc (.cells #[.int .i64 0, .slice none 0 0] 25) := ⟨_, rfl⟩
          have hbe : Below (w3).heap.size (w3) we := by rw [hwe]; exact (by (repeat (first | exact Below.refl _ _ | (refine Below.setCell ?_ (by first | (simp; done) | (simp; omega) | omega) _) | (refine Below.alloc ?_ (by first | (simp; done) | (simp; omega) | omega) _) | (refine below_drewN ?_ _) | (refine Below.drew ?_))))
          have A7 : RB2 we w3.heap.size (.int .i64 0) (.slice none 0 0) := by rw [hwe]; exact RB2.mk1 (w3) _ _ _
          have ha7 : w3.heap.size < we.heap.size := A7.1.lt
          have hde : Below w0.heap.size w0 we := (by (repeat (first | exact Below.refl _ _ | (refine Below.setCell ?_ (by first | (simp; done) | (simp; omega) | omega) _) | (refine Below.alloc ?_ (by first | (simp; done) | (simp; omega) | omega) _) | (refine below_drewN ?_ _) | (refine Below.drew ?_) | (refine Below.trans ?_ (Below.mono hb1 (by first | (simp; done) | (simp; omega) | omega))) | (refine Below.trans ?_ (Below.mono hb3 (by first | (simp; done) | (simp; omega) | omega))) | (refine Below.trans ?_ (Below.mono hbe (by first | (simp; done) | (simp; omega) | omega))))))
          have hse := hde.size
          obtain ⟨fe0, fe1⟩ := X0.below hde (Nat.le_refl _)
          rw [← hwe]
          clear hwe
          clear hHeld
          have hHeld : (fun w' : World => w'.cell? ⟨w.heap.size, 0, none⟩ = some (.int .i64 m) ∧ w'.cell? ⟨w.heap.size, 1, none⟩ = some (.slice o n c)) we := by go_keep
          refine hK.out _ _ (fun _ => hHeld) ?_
          clear hK K
          try simp only [List.getElem_toArray, List.getElem_cons_zero, List.getElem_cons_succ, Act.put, List.setIfInBounds_toArray, List.set_cons_zero, List.set_cons_succ]
          refine wpAnyK_two (i := 5) (j := 6) rfl rfl (by as_aux_lemma => kernel_rfl) (fun K hK => ?_) (fun K hK => ?_)
          · as_aux_lemma =>
            go_simp
            go_at_call 41
            refine (one_n m o n c _ h1 hn hm hm').mono ?_
            rintro e w5 ⟨v5, rfl, h5_, hb5⟩
            obtain ⟨o5, c5, rfl⟩ := h5_.shapeN (n := n) (tri_len _ _)
            have hd5 : Below w0.heap.size w0 w5 := (by (repeat (first | exact Below.refl _ _ | (refine Below.setCell ?_ (by first | (simp; done) | (simp; omega) | omega) _) | (refine Below.alloc ?_ (by first | (simp; done) | (simp; omega) | omega) _) | (refine below_drewN ?_ _) | (refine Below.drew ?_) | (refine Below.trans ?_ (Below.mono hb1 (by first | (simp; done) | (simp; omega) | omega))) | (refine Below.trans ?_ (Below.mono hb3 (by first | (simp; done) | (simp; omega) | omega))) | (refine Below.trans ?_ (Below.mono hbe (by first | (simp; done) | (simp; omega) | omega))) | (refine Below.trans ?_ (Below.mono hb5 (by first | (simp; done) | (simp; omega) | omega))))))
            have hs5 := hd5.size
            have hz5 : we.heap.size ≤ w5.heap.size := by first | exact hb5.size | (have := hb5.size; simpa using this)
            have hR5 := h5_.toR
            clear h5_
            obtain ⟨f50, f51⟩ := X0.below hd5 (Nat.le_refl _)
            go_wp2_with fail
            clear hHeld
            have hHeld : (fun w' : World => w'.cell? ⟨w.heap.size, 0, none⟩ = some (.int .i64 m) ∧ w'.cell? ⟨w.heap.size, 1, none⟩ = some (.slice o n c)) w5 := by go_keep
            refine hK.out _ _ (fun _ => hHeld) ?_
            clear hK K
            try simp only [List.getElem_toArray, List.getElem_cons_zero, List.getElem_cons_succ, Act.put, List.setIfInBounds_toArray, List.set_cons_zero, List.set_cons_succ]
            refine wpAnyK_oneL (i := 6) rfl (by as_aux_lemma => kernel_rfl) (fun K hK => ?_)
            go_simp
            obtain ⟨wa, hwa⟩ : ∃ x : World, x = (w5).alloc (.cells #[.int .i64 0, .slice none 0 0] 25) := ⟨_, rfl⟩
            have hba : Below (w5).heap.size (w5) wa := by rw [hwa]; exact (by (repeat (first | exact Below.refl _ _ | (refine Below.setCell ?_ (by first | (simp; done) | (simp; omega) | omega) _) | (refine Below.alloc ?_ (by first | (simp; done) | (simp; omega) | omega) _) | (refine below_drewN ?_ _) | (refine Below.drew ?_))))
            have A6 : RB2 wa w5.heap.size (.int .i64 0) (.slice none 0 0) := by rw [hwa]; exact RB2.mk1 (w5) _ _ _
            have ha6 : w5.heap.size < wa.heap.size := A6.1.lt
            have hda : Below w0.heap.size w0 wa := (by (repeat (first | exact Below.refl _ _ | (refine Below.setCell ?_ (by first | (simp; done) | (simp; omega) | omega) _) | (refine Below.alloc ?_ (by first | (simp; done) | (simp; omega) | omega) _) | (refine below_drewN ?_ _) | (refine Below.drew ?_) | (refine Below.trans ?_ (Below.mono hb1 (by first | (simp; done) | (simp; omega) | omega))) | (refine Below.trans ?_ (Below.mono hb3 (by first | (simp; done) | (simp; omega) | omega))) | (refine Below.trans ?_ (Below.mono hbe (by first | (simp; done) | (simp; omega) | omega))) | (refine Below.trans ?_ (Below.mono hb5 (by first | (simp; done) | (simp; omega) | omega))) | (refine Below.trans ?_ (Below.mono hba (by first | (simp; done) | (simp; omega) | omega))))))
            have hsa := hda.size
            obtain ⟨fa0, fa1⟩ := X0.below hda (Nat.le_refl _)
            rw [← hwa]
            clear hwa
            clear hHeld
            have hHeld : (fun w' : World => w'.cell? ⟨w.heap.size, 0, none⟩ = some (.int .i64 m) ∧ w'.cell? ⟨w.heap.size, 1, none⟩ = some (.slice o n c)) wa := by go_keep
            refine hK.out _ _ (fun _ => hHeld) ?_
            clear hK K
            try simp only [List.getElem_toArray, List.getElem_cons_zero, List.getElem_cons_succ, Act.put, List.setIfInBounds_toArray, List.set_cons_zero, List.set_cons_succ]
            refine wpAnyK_oneL (i := 8) rfl (by as_aux_lemma => kernel_rfl) (fun K hK => ?_)
            have L6 : RB2 wa w5.heap.size (.int .i64 0) (.slice none 0 0) := A6.below (B := wa.heap.size) (by (repeat (first | exact Below.refl _ _ | (refine Below.setCell ?_ (by first | (simp; done) | (simp; omega) | omega) _) | (refine Below.alloc ?_ (by first | (simp; done) | (simp; omega) | omega) _) | (refine below_drewN ?_ _) | (refine Below.drew ?_) | (refine Below.trans ?_ (Below.mono hb1 (by first | (simp; done) | (simp; omega) | omega))) | (refine Below.trans ?_ (Below.mono hb3 (by first | (simp; done) | (simp; omega) | omega))) | (refine Below.trans ?_ (Below.mono hbe (by first | (simp; done) | (simp; omega) | omega))) | (refine Below.trans ?_ (Below.mono hb5 (by first | (simp; done) | (simp; omega) | omega))) | (refine Below.trans ?_ (Below.mono hba (by first | (simp; done) | (simp; omega) | omega)))))) (Nat.le_refl _)
            have L7 : RB2 wa w3.heap.size (.int .i64 0) (.slice none 0 0) := A7.below (B := we.heap.size) (by (repeat (first | exact Below.refl _ _ | (refine Below.setCell ?_ (by first | (simp; done) | (simp; omega) | omega) _) | (refine Below.alloc ?_ (by first | (simp; done) | (simp; omega) | omega) _) | (refine below_drewN ?_ _) | (refine Below.drew ?_) | (refine Below.trans ?_ (Below.mono hb1 (by first | (simp; done) | (simp; omega) | omega))) | (refine Below.trans ?_ (Below.mono hb3 (by first | (simp; done) | (simp; omega) | omega))) | (refine Below.trans ?_ (Below.mono hbe (by first | (simp; done) | (simp; omega) | omega))) | (refine Below.trans ?_ (Below.mono hb5 (by first | (simp; done) | (simp; omega) | omega))) | (refine Below.trans ?_ (Below.mono hba (by first | (simp; done) | (simp; omega) | omega)))))) (Nat.le_refl _)
            have M3 : OwSR w1.heap.size w3.heap.size wa (.slice o3 n c3) (subT m n (oneT m n) t) := hR3.bel2 (by (repeat (first | exact Below.refl _ _ | (refine Below.setCell ?_ (by first | (simp; done) | (simp; omega) | omega) _) | (refine Below.alloc ?_ (by first | (simp; done) | (simp; omega) | omega) _) | (refine below_drewN ?_ _) | (refine Below.drew ?_) | (refine Below.trans ?_ (Below.mono hb1 (by first | (simp; done) | (simp; omega) | omega))) | (refine Below.trans ?_ (Below.mono hb3 (by first | (simp; done) | (simp; omega) | omega))) | (refine Below.trans ?_ (Below.mono hbe (by first | (simp; done) | (simp; omega) | omega))) | (refine Below.trans ?_ (Below.mono hb5 (by first | (simp; done) | (simp; omega) | omega))) | (refine Below.trans ?_ (Below.mono hba (by first | (simp; done) | (simp; omega) | omega))))))
            have M5 : OwSR we.heap.size w5.heap.size wa (.slice o5 n c5) (oneT m n) := hR5.bel2 (by (repeat (first | exact Below.refl _ _ | (refine Below.setCell ?_ (by first | (simp; done) | (simp; omega) | omega) _) | (refine Below.alloc ?_ (by first | (simp; done) | (simp; omega) | omega) _) | (refine below_drewN ?_ _) | (refine Below.drew ?_) | (refine Below.trans ?_ (Below.mono hb1 (by first | (simp; done) | (simp; omega) | omega))) | (refine Below.trans ?_ (Below.mono hb3 (by first | (simp; done) | (simp; omega) | omega))) | (refine Below.trans ?_ (Below.mono hbe (by first | (simp; done) | (simp; omega) | omega))) | (refine Below.trans ?_ (Below.mono hb5 (by first | (simp; done) | (simp; omega) | omega))) | (refine Below.trans ?_ (Below.mono hba (by first | (simp; done) | (simp; omega) | omega))))))
            obtain ⟨⟨a60, a61⟩, a6f⟩ := id L6
            obtain ⟨⟨a70, a71⟩, a7f⟩ := id L7
            have a6g := a6f 0
            have a7g := a7f 0
            have a6h := a6f 1
            have a7h := a7f 1
            have hne : w5.heap.size ≠ w3.heap.size := by omega
            have hne' : w3.heap.size ≠ w5.heap.size := by omega
            have hb6_ : w0.heap.size ≤ w5.heap.size := by omega
            have hb7_ : w0.heap.size ≤ w3.heap.size := by omega
            have y36 : w5.heap.size < w1.heap.size ∨ w3.heap.size ≤ w5.heap.size := by omega
            have y37 : w3.heap.size < w1.heap.size ∨ w3.heap.size ≤ w3.heap.size := by omega
            have y56 : w5.heap.size < we.heap.size ∨ w5.heap.size ≤ w5.heap.size := by omega
            have y57 : w3.heap.size < we.heap.size ∨ w5.heap.size ≤ w3.heap.size := by omega
            have y5 : w0.heap.size ≤ we.heap.size := by omega
            go_simp
            (try go_wp2_with fail)
            refine hK.out _ _ (fun h => absurd h (by decide)) ?_
            clear hK K
            try simp only [List.getElem_toArray, List.getElem_cons_zero, List.getElem_cons_succ, Act.put, List.setIfInBounds_toArray, List.set_cons_zero, List.set_cons_succ]
            refine wpAnyK_oneL (i := 9) rfl (by as_aux_lemma => kernel_rfl) (fun K hK => ?_)
            go_simp
            (try go_wp2_with fail)
            refine hK.out _ _ (fun h => absurd h (by decide)) ?_
            clear hK K
            try simp only [List.getElem_toArray, List.getElem_cons_zero, List.getElem_cons_succ, Act.put, List.setIfInBounds_toArray, List.set_cons_zero, List.set_cons_succ]
            refine wpAnyK_done (by as_aux_lemma => kernel_rfl) ?_ _
            go_wp2_with fail
            go_meet
            exact ⟨_, _, o3, o5, c3, c5, rfl, rfl, ((L6.put _ _).put' (a := ⟨_, 0, none⟩) hne' _).put' (a := ⟨_, 1, none⟩) hne' _, ((L7.put' (a := ⟨_, 0, none⟩) hne _).put' (a := ⟨_, 1, none⟩) hne _).put _ _, hb6_, hb7_, hne, ((((M3.put y36 0 _).put y36 1 _).put y37 0 _).put y37 1 _).live y37 (by simp; omega), ((((M5.put y56 0 _).put y56 1 _).put y57 0 _).put y57 1 _).ow.mono y5, (((Below.setCell (Below.setCell (by (repeat (first | exact Below.refl _ _ | (refine Below.setCell ?_ (by first | (simp; done) | (simp; omega) | omega) _) | (refine Below.alloc ?_ (by first | (simp; done) | (simp; omega) | omega) _) | (refine below_drewN ?_ _) | (refine Below.drew ?_) | (refine Below.trans ?_ (Below.mono hb1 (by first | (simp; done) | (simp; omega) | omega))) | (refine Below.trans ?_ (Below.mono hb3 (by first | (simp; done) | (simp; omega) | omega))) | (refine Below.trans ?_ (Below.mono hbe (by first | (simp; done) | (simp; omega) | omega))) | (refine Below.trans ?_ (Below.mono hb5 (by first | (simp; done) | (simp; omega) | omega))) | (refine Below.trans ?_ (Below.mono hba (by first | (simp; done) | (simp; omega) | omega)))))) (p := ⟨_, 0, none⟩) hb6_ _) (p := ⟨_, 1, none⟩) hb6_ _).setCell (p := ⟨_, 0, none⟩) hb7_ _).setCell (p := ⟨_, 1, none⟩) hb7_ _)⟩
          · as_aux_lemma =>
            go_simp
            obtain ⟨wa, hwa⟩ : ∃ x : World, x = (we).alloc (.cells #[.int .i64 0, .slice none 0 0] 25) := ⟨_, rfl⟩
            have hba : Below (we).heap.size (we) wa := by rw [hwa]; exact (by (repeat (first | exact Below.refl _ _ | (refine Below.setCell ?_ (by first | (simp; done) | (simp; omega) | omega) _) | (refine Below.alloc ?_ (by first | (simp; done) | (simp; omega) | omega) _) | (refine below_drewN ?_ _) | (refine Below.drew ?_))))
            have A6 : RB2 wa we.heap.size (.int .i64 0) (.slice none 0 0) := by rw [hwa]; exact RB2.mk1 (we) _ _ _
            have ha6 : we.heap.size < wa.heap.size := A6.1.lt
            have hda : Below w0.heap.size w0 wa := (by (repeat (first | exact Below.refl _ _ | (refine Below.setCell ?_ (by first | (simp; done) | (simp; omega) | omega) _) | (refine Below.alloc ?_ (by first | (simp; done) | (simp; omega) | omega) _) | (refine below_drewN ?_ _) | (refine Below.drew ?_) | (refine Below.trans ?_ (Below.mono hb1 (by first | (simp; done) | (simp; omega) | omega))) | (refine Below.trans ?_ (Below.mono hb3 (by first | (simp; done) | (simp; omega) | omega))) | (refine Below.trans ?_ (Below.mono hbe (by first | (simp; done) | (simp; omega) | omega))) | (refine Below.trans ?_ (Below.mono hba (by first | (simp; done) | (simp; omega) | omega))))))
            have hsa := hda.size
            obtain ⟨fa0, fa1⟩ := X0.below hda (Nat.le_refl _)
            rw [← hwa]
            clear hwa
            clear hHeld
            have hHeld : (fun w' : World => w'.cell? ⟨w.heap.size, 0, none⟩ = some (.int .i64 m) ∧ w'.cell? ⟨w.heap.size, 1, none⟩ = some (.slice o n c)) wa := by go_keep
            refine hK.out _ _ (fun _ => hHeld) ?_
            clear hK K
            try simp only [List.getElem_toArray, List.getElem_cons_zero, List.getElem_cons_succ, Act.put, List.setIfInBounds_toArray, List.set_cons_zero, List.set_cons_succ]
            refine wpAnyK_oneL (i := 5) rfl (by as_aux_lemma => kernel_rfl) (fun K hK => ?_)
            go_simp
            go_at_call 41
            refine (one_n m o n c _ h1 hn hm hm').mono ?_
            rintro e w5 ⟨v5, rfl, h5_, hb5⟩
            obtain ⟨o5, c5, rfl⟩ := h5_.shapeN (n := n) (tri_len _ _)
            have hd5 : Below w0.heap.size w0 w5 := (by (repeat (first | exact Below.refl _ _ | (refine Below.setCell ?_ (by first | (simp; done) | (simp; omega) | omega) _) | (refine Below.alloc ?_ (by first | (simp; done) | (simp; omega) | omega) _) | (refine below_drewN ?_ _) | (refine Below.drew ?_) | (refine Below.trans ?_ (Below.mono hb1 (by first | (simp; done) | (simp; omega) | omega))) | (refine Below.trans ?_ (Below.mono hb3 (by first | (simp; done) | (simp; omega) | omega))) | (refine Below.trans ?_ (Below.mono hbe (by first | (simp; done) | (simp; omega) | omega))) | (refine Below.trans ?_ (Below.mono hba (by first | (simp; done) | (simp; omega) | omega))) | (refine Below.trans ?_ (Below.mono hb5 (by first | (simp; done) | (simp; omega) | omega))))))
            have hs5 := hd5.size
            have hz5 : wa.heap.size ≤ w5.heap.size := by first | exact hb5.size | (have := hb5.size; simpa using this)
            have hR5 := h5_.toR
            clear h5_
            obtain ⟨f50, f51⟩ := X0.below hd5 (Nat.le_refl _)
            go_wp2_with fail
            clear hHeld
            have hHeld : (fun w' : World => w'.cell? ⟨w.heap.size, 0, none⟩ = some (.int .i64 m) ∧ w'.cell? ⟨w.heap.size, 1, none⟩ = some (.slice o n c)) w5 := by go_keep
            refine hK.out _ _ (fun _ => hHeld) ?_
            clear hK K
            try simp only [List.getElem_toArray, List.getElem_cons_zero, List.getElem_cons_succ, Act.put, List.setIfInBounds_toArray, List.set_cons_zero, List.set_cons_succ]
            refine wpAnyK_oneL (i := 8) rfl (by as_aux_lemma => kernel_rfl) (fun K hK => ?_)
            have L6 : RB2 w5 we.heap.size (.int .i64 0) (.slice none 0 0) := A6.below (B := wa.heap.size) (by (repeat (first | exact Below.refl _ _ | (refine Below.setCell ?_ (by first | (simp; done) | (simp; omega) | omega) _) | (refine Below.alloc ?_ (by first | (simp; done) | (simp; omega) | omega) _) | (refine below_drewN ?_ _) | (refine Below.drew ?_) | (refine Below.trans ?_ (Below.mono hb1 (by first | (simp; done) | (simp; omega) | omega))) | (refine Below.trans ?_ (Below.mono hb3 (by first | (simp; done) | (simp; omega) | omega))) | (refine Below.trans ?_ (Below.mono hbe (by first | (simp; done) | (simp; omega) | omega))) | (refine Below.trans ?_ (Below.mono hba (by first | (simp; done) | (simp; omega) | omega))) | (refine Below.trans ?_ (Below.mono hb5 (by first | (simp; done) | (simp; omega) | omega)))))) (Nat.le_refl _)
            have L7 : RB2 w5 w3.heap.size (.int .i64 0) (.slice none 0 0) := A7.below (B := we.heap.size) (by (repeat (first | exact Below.refl _ _ | (refine Below.setCell ?_ (by first | (simp; done) | (simp; omega) | omega) _) | (refine Below.alloc ?_ (by first | (simp; done) | (simp; omega) | omega) _) | (refine below_drewN ?_ _) | (refine Below.drew ?_) | (refine Below.trans ?_ (Below.mono hb1 (by first | (simp; done) | (simp; omega) | omega))) | (refine Below.trans ?_ (Below.mono hb3 (by first | (simp; done) | (simp; omega) | omega))) | (refine Below.trans ?_ (Below.mono hbe (by first | (simp; done) | (simp; omega) | omega))) | (refine Below.trans ?_ (Below.mono hba (by first | (simp; done) | (simp; omega) | omega))) | (refine Below.trans ?_ (Below.mono hb5 (by first | (simp; done) | (simp; omega) | omega)))))) (Nat.le_refl _)
            have M3 : OwSR w1.heap.size w3.heap.size w5 (.slice o3 n c3) (subT m n (oneT m n) t) := hR3.bel2 (by (repeat (first | exact Below.refl _ _ | (refine Below.setCell ?_ (by first | (simp; done) | (simp; omega) | omega) _) | (refine Below.alloc ?_ (by first | (simp; done) | (simp; omega) | omega) _) | (refine below_drewN ?_ _) | (refine Below.drew ?_) | (refine Below.trans ?_ (Below.mono hb1 (by first | (simp; done) | (simp; omega) | omega))) | (refine Below.trans ?_ (Below.mono hb3 (by first | (simp; done) | (simp; omega) | omega))) | (refine Below.trans ?_ (Below.mono hbe (by first | (simp; done) | (simp; omega) | omega))) | (refine Below.trans ?_ (Below.mono hba (by first | (simp; done) | (simp; omega) | omega))) | (refine Below.trans ?_ (Below.mono hb5 (by first | (simp; done) | (simp; omega) | omega))))))
            have M5 : OwSR wa.heap.size w5.heap.size w5 (.slice o5 n c5) (oneT m n) := hR5.bel2 (by (repeat (first | exact Below.refl _ _ | (refine Below.setCell ?_ (by first | (simp; done) | (simp; omega) | omega) _) | (refine Below.alloc ?_ (by first | (simp; done) | (simp; omega) | omega) _) | (refine below_drewN ?_ _) | (refine Below.drew ?_) | (refine Below.trans ?_ (Below.mono hb1 (by first | (simp; done) | (simp; omega) | omega))) | (refine Below.trans ?_ (Below.mono hb3 (by first | (simp; done) | (simp; omega) | omega))) | (refine Below.trans ?_ (Below.mono hbe (by first | (simp; done) | (simp; omega) | omega))) | (refine Below.trans ?_ (Below.mono hba (by first | (simp; done) | (simp; omega) | omega))) | (refine Below.trans ?_ (Below.mono hb5 (by first | (simp; done) | (simp; omega) | omega))))))
            obtain ⟨⟨a60, a61⟩, a6f⟩ := id L6
            obtain ⟨⟨a70, a71⟩, a7f⟩ := id L7
            have a6g := a6f 0
            have a7g := a7f 0
            have a6h := a6f 1
            have a7h := a7f 1
            have hne : we.heap.size ≠ w3.heap.size := by omega
            have hne' : w3.heap.size ≠ we.heap.size := by omega
            have hb6_ : w0.heap.size ≤ we.heap.size := by omega
            have hb7_ : w0.heap.size ≤ w3.heap.size := by omega
            have y36 : we.heap.size < w1.heap.size ∨ w3.heap.size ≤ we.heap.size := by omega
            have y37 : w3.heap.size < w1.heap.size ∨ w3.heap.size ≤ w3.heap.size := by omega
            have y56 : we.heap.size < wa.heap.size ∨ w5.heap.size ≤ we.heap.size := by omega
            have y57 : w3.heap.size < wa.heap.size ∨ w5.heap.size ≤ w3.heap.size := by omega
            have y5 : w0.heap.size ≤ wa.heap.size := by omega
            go_simp
            (try go_wp2_with fail)
            refine hK.out _ _ (fun h => absurd h (by decide)) ?_
            clear hK K
            try simp only [List.getElem_toArray, List.getElem_cons_zero, List.getElem_cons_succ, Act.put, List.setIfInBounds_toArray, List.set_cons_zero, List.set_cons_succ]
            refine wpAnyK_oneL (i := 9) rfl (by as_aux_lemma => kernel_rfl) (fun K hK => ?_)
            go_simp
            (try go_wp2_with fail)
            refine hK.out _ _ (fun h => absurd h (by decide)) ?_
            clear hK K
            try simp only [List.getElem_toArray, List.getElem_cons_zero, List.getElem_cons_succ, Act.put, List.setIfInBounds_toArray, List.set_cons_zero, List.set_cons_succ]
            refine wpAnyK_done (by as_aux_lemma => kernel_rfl) ?_ _
            go_wp2_with fail
            go_meet
            exact ⟨_, _, o3, o5, c3, c5, rfl, rfl, ((L6.put _ _).put' (a := ⟨_, 0, none⟩) hne' _).put' (a := ⟨_, 1, none⟩) hne' _, ((L7.put' (a := ⟨_, 0, none⟩) hne _).put' (a := ⟨_, 1, none⟩) hne _).put _ _, hb6_, hb7_, hne, ((((M3.put y36 0 _).put y36 1 _).put y37 0 _).put y37 1 _).live y37 (by simp; omega), ((((M5.put y56 0 _).put y56 1 _).put y57 0 _).put y57 1 _).ow.mono y5, (((Below.setCell (Below.setCell (by (repeat (first | exact Below.refl _ _ | (refine Below.setCell ?_ (by first | (simp; done) | (simp; omega) | omega) _) | (refine Below.alloc ?_ (by first | (simp; done) | (simp; omega) | omega) _) | (refine below_drewN ?_ _) | (refine Below.drew ?_) | (refine Below.trans ?_ (Below.mono hb1 (by first | (simp; done) | (simp; omega) | omega))) | (refine Below.trans ?_ (Below.mono hb3 (by first | (simp; done) | (simp; omega) | omega))) | (refine Below.trans ?_ (Below.mono hbe (by first | (simp; done) | (simp; omega) | omega))) | (refine Below.trans ?_ (Below.mono hba (by first | (simp; done) | (simp; omega) | omega))) | (refine Below.trans ?_ (Below.mono hb5 (by first | (simp; done) | (simp; omega) | omega)))))) (p := ⟨_, 0, none⟩) hb6_ _) (p := ⟨_, 1, none⟩) hb6_ _).setCell (p := ⟨_, 0, none⟩) hb7_ _).setCell (p := ⟨_, 1, none⟩) hb7_ _)⟩
      · as_aux_lemma =>
        go_simp
        obtain ⟨wa, hwa⟩ : ∃ x : World, x = (w1).alloc (.cells #[.int .i64 0, .slice none 0 0] 25) := ⟨_, rfl⟩
        have hba : Below (w1).heap.size (w1) wa := by rw [hwa]; exact (by (repeat (first | exact Below.refl _ _ | (refine Below.setCell ?_ (by first | (simp; done) | (simp; omega) | omega) _) | (refine Below.alloc ?_ (by first | (simp; done) | (simp; omega) | omega) _) | (refine below_drewN ?_ _) | (refine Below.drew ?_))))
        have A6 : RB2 wa w1.heap.size (.int .i64 0) (.slice none 0 0) := by rw [hwa]; exact RB2.mk1 (w1) _ _ _
        have ha6 : w1.heap.size < wa.heap.size := A6.1.lt
        have hda : Below w0.heap.size w0 wa := (by (repeat (first | exact Below.refl _ _ | (refine Below.setCell ?_ (by first | (simp; done) | (simp; omega) | omega) _) | (refine Below.alloc ?_ (by first | (simp; done) | (simp; omega) | omega) _) | (refine below_drewN ?_ _) | (refine Below.drew ?_) | (refine Below.trans ?_ (Below.mono hb1 (by first | (simp; done) | (simp; omega) | omega))) | (refine Below.trans ?_ (Below.mono hba (by first | (simp; done) | (simp; omega) | omega))))))
        have hsa := hda.size
        obtain ⟨fa0, fa1⟩ := X0.below hda (Nat.le_refl _)
        rw [← hwa]
        clear hwa
        clear hHeld
        have hHeld : (fun w' : World => w'.cell? ⟨w.heap.size, 0, none⟩ = some (.int .i64 m) ∧ w'.cell? ⟨w.heap.size, 1, none⟩ = some (.slice o n c)) wa := by go_keep
        refine hK.out _ _ (fun _ => hHeld) ?_
        clear hK K
        try simp only [List.getElem_toArray, List.getElem_cons_zero, List.getElem_cons_succ, Act.put, List.setIfInBounds_toArray, List.set_cons_zero, List.set_cons_succ]
        refine wpAnyK_two (i := 3) (j := 7) rfl rfl (by as_aux_lemma => kernel_rfl) (fun K hK => ?_) (fun K hK => ?_)
        · as_aux_lemma =>
          go_simp
          go_at_call 37
          refine (minusP_n m m n _ _ (oneT m n) t _ (hr1.below (B := w1.heap.size) (by (repeat (first | exact Below.refl _ _ | (refine Below.setCell ?_ (by first | (simp; done) | (simp; omega) | omega) _) | (refine Below.alloc ?_ (by first | (simp; done) | (simp; omega) | omega) _) | (refine below_drewN ?_ _) | (refine Below.drew ?_) | (refine Below.trans ?_ (Below.mono hb1 (by first | (simp; done) | (simp; omega) | omega))) | (refine Below.trans ?_ (Below.mono hba (by first | (simp; done) | (simp; omega) | omega)))))) (Nat.le_refl _)) (hu0.below (by (repeat (first | exact Below.refl _ _ | (refine Below.setCell ?_ (by first | (simp; done) | (simp; omega) | omega) _) | (refine Below.alloc ?_ (by first | (simp; done) | (simp; omega) | omega) _) | (refine below_drewN ?_ _) | (refine Below.drew ?_) | (refine Below.trans ?_ (Below.mono hb1 (by first | (simp; done) | (simp; omega) | omega))) | (refine Below.trans ?_ (Below.mono hba (by first | (simp; done) | (simp; omega) | omega)))))) (Nat.le_refl _)) h1 hn hm hm' (PlaT.one (by omega) n) HT.out).mono ?_
          rintro e w3 ⟨v3, rfl, h3_, hb3⟩
          obtain ⟨o3, c3, rfl⟩ := h3_.shapeN (n := n) (tri_len _ _)
          have hd3 : Below w0.heap.size w0 w3 := (by (repeat (first | exact Below.refl _ _ | (refine Below.setCell ?_ (by first | (simp; done) | (simp; omega) | omega) _) | (refine Below.alloc ?_ (by first | (simp; done) | (simp; omega) | omega) _) | (refine below_drewN ?_ _) | (refine Below.drew ?_) | (refine Below.trans ?_ (Below.mono hb1 (by first | (simp; done) | (simp; omega) | omega))) | (refine Below.trans ?_ (Below.mono hba (by first | (simp; done) | (simp; omega) | omega))) | (refine Below.trans ?_ (Below.mono hb3 (by first | (simp; done) | (simp; omega) | omega))))))
          have hs3 := hd3.size
          have hz3 : wa.heap.size ≤ w3.heap.size := by first | exact hb3.size | (have := hb3.size; simpa using this)
          have hR3 := h3_.toR
          clear h3_
          obtain ⟨f30, f31⟩ := X0.below hd3 (Nat.le_refl _)
          go_wp2_with fail
          clear hHeld
          have hHeld : (fun w' : World => w'.cell? ⟨w.heap.size, 0, none⟩ = some (.int .i64 m) ∧ w'.cell? ⟨w.heap.size, 1, none⟩ = some (.slice o n c)) w3 := by go_keep
          refine hK.out _ _ (fun _ => hHeld) ?_
          clear hK K
          try simp only [List.getElem_toArray, List.getElem_cons_zero, List.getElem_cons_succ, Act.put, List.setIfInBounds_toArray, List.set_cons_zero, List.set_cons_succ]
          refine wpAnyK_two (i := 5) (j := 7) rfl rfl (by as_aux_lemma => kernel_rfl) (fun K hK => ?_) (fun K hK => ?_)
          · as_aux_lemma =>
            go_simp
            go_at_call 41
            refine (one_n m o n c _ h1 hn hm hm').mono ?_
            rintro e w5 ⟨v5, rfl, h5_, hb5⟩
            obtain ⟨o5, c5, rfl⟩ := h5_.shapeN (n := n) (tri_len _ _)
            have hd5 : Below w0.heap.size w0 w5 := (by (repeat (first | exact Below.refl _ _ | (refine Below.setCell ?_ (by first | (simp; done) | (simp; omega) | omega) _) | (refine Below.alloc ?_ (by first | (simp; done) | (simp; omega) | omega) _) | (refine below_drewN ?_ _) | (refine Below.drew ?_) | (refine Below.trans ?_ (Below.mono hb1 (by first | (simp; done) | (simp; omega) | omega))) | (refine Below.trans ?_ (Below.mono hba (by first | (simp; done) | (simp; omega) | omega))) | (refine Below.trans ?_ (Below.mono hb3 (by first | (simp; done) | (simp; omega) | omega))) | (refine Below.trans ?_ (Below.mono hb5 (by first | (simp; done) | (simp; omega) | omega))))))
            have hs5 := hd5.size
            have hz5 : w3.heap.size ≤ w5.heap.size := by first | exact hb5.size | (have := hb5.size; simpa using this)
            have hR5 := h5_.toR
            clear h5_
            obtain ⟨f50, f51⟩ := X0.below hd5 (Nat.le_refl _)
            go_wp2_with fail
            clear hHeld
            have hHeld : (fun w' : World => w'.cell? ⟨w.heap.size, 0, none⟩ = some (.int .i64 m) ∧ w'.cell? ⟨w.heap.size, 1, none⟩ = some (.slice o n c)) w5 := by go_keep
            refine hK.out _ _ (fun _ => hHeld) ?_
            clear hK K
            try simp only [List.getElem_toArray, List.getElem_cons_zero, List.getElem_cons_succ, Act.put, List.setIfInBounds_toArray, List.set_cons_zero, List.set_cons_succ]
            refine wpAnyK_oneL (i := 7) rfl (by as_aux_lemma => kernel_rfl) (fun K hK => ?_)
            go_simp
            obtain ⟨we, hwe⟩ : ∃ x : World, x = (w5).alloc (.cells #[.int .i64 0, .slice none 0 0] 25) := ⟨_, rfl⟩
            have hbe : Below (w5).heap.size (w5) we := by rw [hwe]; exact (by (repeat (first | exact Below.refl _ _ | (refine Below.setCell ?_ (by first | (simp; done) | (simp; omega) | omega) _) | (refine Below.alloc ?_ (by first | (simp; done) | (simp; omega) | omega) _) | (refine below_drewN ?_ _) | (refine Below.drew ?_))))
            have A7 : RB2 we w5.heap.size (.int .i64 0) (.slice none 0 0) := by rw [hwe]; exact RB2.mk1 (w5) _ _ _
            have ha7 : w5.heap.size < we.heap.size := A7.1.lt
            have hde : Below w0.heap.size w0 we := (by (repeat (first | exact Below.refl _ _ | (refine Below.setCell ?_ (by first | (simp; done) | (simp; omega) | omega) _) | (refine Below.alloc ?_ (by first | (simp; done) | (simp; omega) | omega) _) | (refine below_drewN ?_ _) | (refine Below.drew ?_) | (refine Below.trans ?_ (Below.mono hb1 (by first | (simp; done) | (simp; omega) | omega))) | (refine Below.trans ?_ (Below.mono hba (by first | (simp; done) | (simp; omega) | omega))) | (refine Below.trans ?_ (Below.mono hb3 (by first | (simp; done) | (simp; omega) | omega))) | (refine Below.trans ?_ (Below.mono hb5 (by first | (simp; done) | (simp; omega) | omega))) | (refine Below.trans ?_ (Below.mono hbe (by first | (simp; done) | (simp; omega) | omega))))))
            have hse := hde.size
            obtain ⟨fe0, fe1⟩ := X0.below hde (Nat.le_refl _)
            rw [← hwe]
            clear hwe
            clear hHeld
            have hHeld : (fun w' : World => w'.cell? ⟨w.heap.size, 0, none⟩ = some (.int .i64 m) ∧ w'.cell? ⟨w.heap.size, 1, none⟩ = some (.slice o n c)) we := by go_keep
            refine hK.out _ _ (fun _ => hHeld) ?_
            clear hK K
            try simp only [List.getElem_toArray, List.getElem_cons_zero, List.getElem_cons_succ, Act.put, List.setIfInBounds_toArray, List.set_cons_zero, List.set_cons_succ]
            refine wpAnyK_oneL (i := 8) rfl (by as_aux_lemma => kernel_rfl) (fun K hK => ?_)
            have L6 : RB2 we w1.heap.size (.int .i64 0) (.slice none 0 0) := A6.below (B := wa.heap.size) (by (repeat (first | exact Below.refl _ _ | (refine Below.setCell ?_ (by first | (simp; done) | (simp; omega) | omega) _) | (refine Below.alloc ?_ (by first | (simp; done) | (simp; omega) | omega) _) | (refine below_drewN ?_ _) | (refine Below.drew ?_) | (refine Below.trans ?_ (Below.mono hb1 (by first | (simp; done) | (simp; omega) | omega))) | (refine Below.trans ?_ (Below.mono hba (by first | (simp; done) | (simp; omega) | omega))) | (refine Below.trans ?_ (Below.mono hb3 (by first | (simp; done) | (simp; omega) | omega))) | (refine Below.trans ?_ (Below.mono hb5 (by first | (simp; done) | (simp; omega) | omega))) | (refine Below.trans ?_ (Below.mono hbe (by first | (simp; done) | (simp; omega) | omega)))))) (Nat.le_refl _)
            have L7 : RB2 we w5.heap.size (.int .i64 0) (.slice none 0 0) := A7.below (B := we.heap.size) (by (repeat (first | exact Below.refl _ _ | (refine Below.setCell ?_ (by first | (simp; done) | (simp; omega) | omega) _) | (refine Below.alloc ?_ (by first | (simp; done) | (simp; omega) | omega) _) | (refine below_drewN ?_ _) | (refine Below.drew ?_) | (refine Below.trans ?_ (Below.mono hb1 (by first | (simp; done) | (simp; omega) | omega))) | (refine Below.trans ?_ (Below.mono hba (by first | (simp; done) | (simp; omega) | omega))) | (refine Below.trans ?_ (Below.mono hb3 (by first | (simp; done) | (simp; omega) | omega))) | (refine Below.trans ?_ (Below.mono hb5 (by first | (simp; done) | (simp; omega) | omega))) | (refine Below.trans ?_ (Below.mono hbe (by first | (simp; done) | (simp; omega) | omega)))))) (Nat.le_refl _)
            have M3 : OwSR wa.heap.size w3.heap.size we (.slice o3 n c3) (subT m n (oneT m n) t) := hR3.bel2 (by (repeat (first | exact Below.refl _ _ | (refine Below.setCell ?_ (by first | (simp; done) | (simp; omega) | omega) _) | (refine Below.alloc ?_ (by first | (simp; done) | (simp; omega) | omega) _) | (refine below_drewN ?_ _) | (refine Below.drew ?_) | (refine Below.trans ?_ (Below.mono hb1 (by first | (simp; done) | (simp; omega) | omega))) | (refine Below.trans ?_ (Below.mono hba (by first | (simp; done) | (simp; omega) | omega))) | (refine Below.trans ?_ (Below.mono hb3 (by first | (simp; done) | (simp; omega) | omega))) | (refine Below.trans ?_ (Below.mono hb5 (by first | (simp; done) | (simp; omega) | omega))) | (refine Below.trans ?_ (Below.mono hbe (by first | (simp; done) | (simp; omega) | omega))))))
            have M5 : OwSR w3.heap.size w5.heap.size we (.slice o5 n c5) (oneT m n) := hR5.bel2 (by (repeat (first | exact Below.refl _ _ | (refine Below.setCell ?_ (by first | (simp; done) | (simp; omega) | omega) _) | (refine Below.alloc ?_ (by first | (simp; done) | (simp; omega) | omega) _) | (refine below_drewN ?_ _) | (refine Below.drew ?_) | (refine Below.trans ?_ (Below.mono hb1 (by first | (simp; done) | (simp; omega) | omega))) | (refine Below.trans ?_ (Below.mono hba (by first | (simp; done) | (simp; omega) | omega))) | (refine Below.trans ?_ (Below.mono hb3 (by first | (simp; done) | (simp; omega) | omega))) | (refine Below.trans ?_ (Below.mono hb5 (by first | (simp; done) | (simp; omega) | omega))) | (refine Below.trans ?_ (Below.mono hbe (by first | (simp; done) | (simp; omega) | omega))))))
            obtain ⟨⟨a60, a61⟩, a6f⟩ := id L6
            obtain ⟨⟨a70, a71⟩, a7f⟩ := id L7
            have a6g := a6f 0
            have a7g := a7f 0
            have a6h := a6f 1
            have a7h := a7f 1
            have hne : w1.heap.size ≠ w5.heap.size := by omega
            have hne' : w5.heap.size ≠ w1.heap.size := by omega
            have hb6_ : w0.heap.size ≤ w1.heap.size := by omega
            have hb7_ : w0.heap.size ≤ w5.heap.size := by omega
            have y36 : w1.heap.size < wa.heap.size ∨ w3.heap.size ≤ w1.heap.size := by omega
            have y37 : w5.heap.size < wa.heap.size ∨ w3.heap.size ≤ w5.heap.size := by omega
            have y56 : w1.heap.size < w3.heap.size ∨ w5.heap.size ≤ w1.heap.size := by omega
            have y57 : w5.heap.size < w3.heap.size ∨ w5.heap.size ≤ w5.heap.size := by omega
            have y5 : w0.heap.size ≤ w3.heap.size := by omega
            go_simp
            (try go_wp2_with fail)
            refine hK.out _ _ (fun h => absurd h (by decide)) ?_
            clear hK K
            try simp only [List.getElem_toArray, List.getElem_cons_zero, List.getElem_cons_succ, Act.put, List.setIfInBounds_toArray, List.set_cons_zero, List.set_cons_succ]
            refine wpAnyK_oneL (i := 9) rfl (by as_aux_lemma => kernel_rfl) (fun K hK => ?_)
            go_simp
            (try go_wp2_with fail)
            refine hK.out _ _ (fun h => absurd h (by decide)) ?_
            clear hK K
            try simp only [List.getElem_toArray, List.getElem_cons_zero, List.getElem_cons_succ, Act.put, List.setIfInBounds_toArray, List.set_cons_zero, List.set_cons_succ]
            refine wpAnyK_done (by as_aux_lemma => kernel_rfl) ?_ _
            go_wp2_with fail
            go_meet
            exact ⟨_, _, o3, o5, c3, c5, rfl, rfl, ((L6.put _ _).put' (a := ⟨_, 0, none⟩) hne' _).put' (a := ⟨_, 1, none⟩) hne' _, ((L7.put' (a := ⟨_, 0, none⟩) hne _).put' (a := ⟨_, 1, none⟩) hne _).put _ _, hb6_, hb7_, hne, ((((M3.put y36 0 _).put y36 1 _).put y37 0 _).put y37 1 _).live y37 (by simp; omega), ((((M5.put y56 0 _).put y56 1 _).put y57 0 _).put y57 1 _).ow.mono y5, (((Below.setCell (Below.setCell (by (repeat (first | exact Below.refl _ _ | (refine Below.setCell ?_ (by first | (simp; done) | (simp; omega) | omega) _) | (refine Below.alloc ?_ (by first | (simp; done) | (simp; omega) | omega) _) | (refine below_drewN ?_ _) | (refine Below.drew ?_) | (refine Below.trans ?_ (Below.mono hb1 (by first | (simp; done) | (simp; omega) | omega))) | (refine Below.trans ?_ (Below.mono hba (by first | (simp; done) | (simp; omega) | omega))) | (refine Below.trans ?_ (Below.mono hb3 (by first | (simp; done) | (simp; omega) | omega))) | (refine Below.trans ?_ (Below.mono hb5 (by first | (simp; done) | (simp; omega) | omega))) | (refine Below.trans ?_ (Below.mono hbe (by first | (simp; done) | (simp; omega) | omega)))))) (p := ⟨_, 0, none⟩) hb6_ _) (p := ⟨_, 1, none⟩) hb6_ _).setCell (p := ⟨_, 0, none⟩) hb7_ _).setCell (p := ⟨_, 1, none⟩) hb7_ _)⟩
          · as_aux_lemma =>
            go_simp
            obtain ⟨we, hwe⟩ : ∃ x : World, x = (w3).alloc (.cells #[.int .i64 0, .slice none 0 0] 25) := ⟨_, rfl⟩
            have hbe : Below (w3).heap.size (w3) we := by rw [hwe]; exact (by (repeat (first | exact Below.refl _ _ | (refine Below.setCell ?_ (by first | (simp; done) | (simp; omega) | omega) _) | (refine Below.alloc ?_ (by first | (simp; done) | (simp; omega) | omega) _) | (refine below_drewN ?_ _) | (refine Below.drew ?_))))
            have A7 : RB2 we w3.heap.size (.int .i64 0) (.slice none 0 0) := by rw [hwe]; exact RB2.mk1 (w3) _ _ _
            have ha7 : w3.heap.size < we.heap.size := A7.1.lt
            have hde : Below w0.heap.size w0 we := (by (repeat (first | exact Below.refl _ _ | (refine Below.setCell ?_ (by first | (simp; done) | (simp; omega) | omega) _) | (refine Below.alloc ?_ (by first | (simp; done) | (simp; omega) | omega) _) | (refine below_drewN ?_ _) | (refine Below.drew ?_) | (refine Below.trans ?_ (Below.mono hb1 (by first | (simp; done) | (simp; omega) | omega))) | (refine Below.trans ?_ (Below.mono hba (by first | (simp; done) | (simp; omega) | omega))) | (refine Below.trans ?_ (Below.mono hb3 (by first | (simp; done) | (simp; omega) | omega))) | (refine Below.trans ?_ (Below.mono hbe (by first | (simp; done) | (simp; omega) | omega))))))
            have hse := hde.size
            obtain ⟨fe0, fe1⟩ := X0.below hde (Nat.le_refl _)
            rw [← hwe]
            clear hwe
            clear hHeld
            have hHeld : (fun w' : World => w'.cell? ⟨w.heap.size, 0, none⟩ = some (.int .i64 m) ∧ w'.cell? ⟨w.heap.size, 1, none⟩ = some (.slice o n c)) we := by go_keep
            refine hK.out _ _ (fun _ => hHeld) ?_
            clear hK K
            try simp only [List.getElem_toArray, List.getElem_cons_zero, List.getElem_cons_succ, Act.put, List.setIfInBounds_toArray, List.set_cons_zero, List.set_cons_succ]
            refine wpAnyK_oneL (i := 5) rfl (by as_aux_lemma => kernel_rfl) (fun K hK => ?_)
            go_simp
            go_at_call 41
            refine (one_n m o n c _ h1 hn hm hm').mono ?_
            rintro e w5 ⟨v5, rfl, h5_, hb5⟩
            obtain ⟨o5, c5, rfl⟩ := h5_.shapeN (n := n) (tri_len _ _)
            have hd5 : Below w0.heap.size w0 w5 := (by (repeat (first | exact Below.refl _ _ | (refine Below.setCell ?_ (by first | (simp; done) | (simp; omega) | omega) _) | (refine Below.alloc ?_ (by first | (simp; done) | (simp; omega) | omega) _) | (refine below_drewN ?_ _) | (refine Below.drew ?_) | (refine Below.trans ?_ (Below.mono hb1 (by first | (simp; done) | (simp; omega) | omega))) | (refine Below.trans ?_ (Below.mono hba (by first | (simp; done) | (simp; omega) | omega))) | (refine Below.trans ?_ (Below.mono hb3 (by first | (simp; done) | (simp; omega) | omega))) | (refine Below.trans ?_ (Below.mono hbe (by first | (simp; done) | (simp; omega) | omega))) | (refine Below.trans ?_ (Below.mono hb5 (by first | (simp; done) | (simp; omega) | omega))))))
            have hs5 := hd5.size
            have hz5 : we.heap.size ≤ w5.heap.size := by first | exact hb5.size | (have := hb5.size; simpa using this)
            have hR5 := h5_.toR
            clear h5_
            obtain ⟨f50, f51⟩ := X0.below hd5 (Nat.le_refl _)
            go_wp2_with fail
            clear hHeld
            have hHeld : (fun w' : World => w'.cell? ⟨w.heap.size, 0, none⟩ = some (.int .i64 m) ∧ w'.cell? ⟨w.heap.size, 1, none⟩ = some (.slice o n c)) w5 := by go_keep
            refine hK.out _ _ (fun _ => hHeld) ?_
            clear hK K
            try simp only [List.getElem_toArray, List.getElem_cons_zero, List.getElem_cons_succ, Act.put, List.setIfInBounds_toArray, List.set_cons_zero, List.set_cons_succ]
            refine wpAnyK_oneL (i := 8) rfl (by as_aux_lemma => kernel_rfl) (fun K hK => ?_)
            have L6 : RB2 w5 w1.heap.size (.int .i64 0) (.slice none 0 0) := A6.below (B := wa.heap.size) (by (repeat (first | exact Below.refl _ _ | (refine Below.setCell ?_ (by first | (simp; done) | (simp; omega) | omega) _) | (refine Below.alloc ?_ (by first | (simp; done) | (simp; omega) | omega) _) | (refine below_drewN ?_ _) | (refine Below.drew ?_) | (refine Below.trans ?_ (Below.mono hb1 (by first | (simp; done) | (simp; omega) | omega))) | (refine Below.trans ?_ (Below.mono hba (by first | (simp; done) | (simp; omega) | omega))) | (refine Below.trans ?_ (Below.mono hb3 (by first | (simp; done) | (simp; omega) | omega))) | (refine Below.trans ?_ (Below.mono hbe (by first | (simp; done) | (simp; omega) | omega))) | (refine Below.trans ?_ (Below.mono hb5 (by first | (simp; done) | (simp; omega) | omega)))))) (Nat.le_refl _)
            have L7 : RB2 w5 w3.heap.size (.int .i64 0) (.slice none 0 0) := A7.below (B := we.heap.size) (by (repeat (first | exact Below.refl _ _ | (refine Below.setCell ?_ (by first | (simp; done) | (simp; omega) | omega) _) | (refine Below.alloc ?_ (by first | (simp; done) | (simp; omega) | omega) _) | (refine below_drewN ?_ _) | (refine Below.drew ?_) | (refine Below.trans ?_ (Below.mono hb1 (by first | (simp; done) | (simp; omega) | omega))) | (refine Below.trans ?_ (Below.mono hba (by first | (simp; done) | (simp; omega) | omega))) | (refine Below.trans ?_ (Below.mono hb3 (by first | (simp; done) | (simp; omega) | omega))) | (refine Below.trans ?_ (Below.mono hbe (by first | (simp; done) | (simp; omega) | omega))) | (refine Below.trans ?_ (Below.mono hb5 (by first | (simp; done) | (simp; omega) | omega)))))) (Nat.le_refl _)
            have M3 : OwSR wa.heap.size w3.heap.size w5 (.slice o3 n c3) (subT m n (oneT m n) t) := hR3.bel2 (by (repeat (first | exact Below.refl _ _ | (refine Below.setCell ?_ (by first | (simp; done) | (simp; omega) | omega) _) | (refine Below.alloc ?_ (by first | (simp; done) | (simp; omega) | omega) _) | (refine below_drewN ?_ _) | (refine Below.drew ?_) | (refine Below.trans ?_ (Below.mono hb1 (by first | (simp; done) | (simp; omega) | omega))) | (refine Below.trans ?_ (Below.mono hba (by first | (simp; done) | (simp; omega) | omega))) | (refine Below.trans ?_ (Below.mono hb3 (by first | (simp; done) | (simp; omega) | omega))) | (refine Below.trans ?_ (Below.mono hbe (by first | (simp; done) | (simp; omega) | omega))) | (refine Below.trans ?_ (Below.mono hb5 (by first | (simp; done) | (simp; omega) | omega))))))
            have M5 : OwSR we.heap.size w5.heap.size w5 (.slice o5 n c5) (oneT m n) := hR5.bel2 (by (repeat (first | exact Below.refl _ _ | (refine Below.setCell ?_ (by first | (simp; done) | (simp; omega) | omega) _) | (refine Below.alloc ?_ (by first | (simp; done) | (simp; omega) | omega) _) | (refine below_drewN ?_ _) | (refine Below.drew ?_) | (refine Below.trans ?_ (Below.mono hb1 (by first | (simp; done) | (simp; omega) | omega))) | (refine Below.trans ?_ (Below.mono hba (by first | (simp; done) | (simp; omega) | omega))) | (refine Below.trans ?_ (Below.mono hb3 (by first | (simp; done) | (simp; omega) | omega))) | (refine Below.trans ?_ (Below.mono hbe (by first | (simp; done) | (simp; omega) | omega))) | (refine Below.trans ?_ (Below.mono hb5 (by first | (simp; done) | (simp; omega) | omega))))))
            obtain ⟨⟨a60, a61⟩, a6f⟩ := id L6
            obtain ⟨⟨a70, a71⟩, a7f⟩ := id L7
            have a6g := a6f 0
            have a7g := a7f 0
            have a6h := a6f 1
            have a7h := a7f 1
            have hne : w1.heap.size ≠ w3.heap.size := by omega
            have hne' : w3.heap.size ≠ w1.heap.size := by omega
            have hb6_ : w0.heap.size ≤ w1.heap.size := by omega
            have hb7_ : w0.heap.size ≤ w3.heap.size := by omega
            have y36 : w1.heap.size < wa.heap.size ∨ w3.heap.size ≤ w1.heap.size := by omega
            have y37 : w3.heap.size < wa.heap.size ∨ w3.heap.size ≤ w3.heap.size := by omega
            have y56 : w1.heap.size < we.heap.size ∨ w5.heap.size ≤ w1.heap.size := by omega
            have y57 : w3.heap.size < we.heap.size ∨ w5.heap.size ≤ w3.heap.size := by omega
            have y5 : w0.heap.size ≤ we.heap.size := by omega
            go_simp
            (try go_wp2_with fail)
            refine hK.out _ _ (fun h => absurd h (by decide)) ?_
            clear hK K
            try simp only [List.getElem_toArray, List.getElem_cons_zero, List.getElem_cons_succ, Act.put, List.setIfInBounds_toArray, List.set_cons_zero, List.set_cons_succ]
            refine wpAnyK_oneL (i := 9) rfl (by as_aux_lemma => kernel_rfl) (fun K hK => ?_)
            go_simp
            (try go_wp2_with fail)
            refine hK.out _ _ (fun h => absurd h (by decide)) ?_
            clear hK K
            try simp only [List.getElem_toArray, List.getElem_cons_zero, List.getElem_cons_succ, Act.put, List.setIfInBounds_toArray, List.set_cons_zero, List.set_cons_succ]
            refine wpAnyK_done (by as_aux_lemma => kernel_rfl) ?_ _
            go_wp2_with fail
            go_meet
            exact ⟨_, _, o3, o5, c3, c5, rfl, rfl, ((L6.put _ _).put' (a := ⟨_, 0, none⟩) hne' _).put' (a := ⟨_, 1, none⟩) hne' _, ((L7.put' (a := ⟨_, 0, none⟩) hne _).put' (a := ⟨_, 1, none⟩) hne _).put _ _, hb6_, hb7_, hne, ((((M3.put y36 0 _).put y36 1 _).put y37 0 _).put y37 1 _).live y37 (by simp; omega), ((((M5.put y56 0 _).put y56 1 _).put y57 0 _).put y57 1 _).ow.mono y5, (((Below.setCell (Below.setCell (by (repeat (first | exact Below.refl _ _ | (refine Below.setCell ?_ (by first | (simp; done) | (simp; omega) | omega) _) | (refine Below.alloc ?_ (by first | (simp; done) | (simp; omega) | omega) _) | (refine below_drewN ?_ _) | (refine Below.drew ?_) | (refine Below.trans ?_ (Below.mono hb1 (by first | (simp; done) | (simp; omega) | omega))) | (refine Below.trans ?_ (Below.mono hba (by first | (simp; done) | (simp; omega) | omega))) | (refine Below.trans ?_ (Below.mono hb3 (by first | (simp; done) | (simp; omega) | omega))) | (refine Below.trans ?_ (Below.mono hbe (by first | (simp; done) | (simp; omega) | omega))) | (refine Below.trans ?_ (Below.mono hb5 (by first | (simp; done) | (simp; omega) | omega)))))) (p := ⟨_, 0, none⟩) hb6_ _) (p := ⟨_, 1, none⟩) hb6_ _).setCell (p := ⟨_, 0, none⟩) hb7_ _).setCell (p := ⟨_, 1, none⟩) hb7_ _)⟩
        · as_aux_lemma =>
          go_simp
          obtain ⟨we, hwe⟩ : ∃ x : World, x = (wa).alloc (.cells #[.int .i64 0, .slice none 0 0] 25) := ⟨_, rfl⟩
          have hbe : Below (wa).heap.size (wa) we := by rw [hwe]; exact (by (repeat (first | exact Below.refl _ _ | (refine Below.setCell ?_ (by first | (simp; done) | (simp; omega) | omega) _) | (refine Below.alloc ?_ (by first | (simp; done) | (simp; omega) | omega) _) | (refine below_drewN ?_ _) | (refine Below.drew ?_))))
          have A7 : RB2 we wa.heap.size (.int .i64 0) (.slice none 0 0) := by rw [hwe]; exact RB2.mk1 (wa) _ _ _
          have ha7 : wa.heap.size < we.heap.size := A7.1.lt
          have hde : Below w0.heap.size w0 we := (by (repeat (first | exact Below.refl _ _ | (refine Below.setCell ?_ (by first | (simp; done) | (simp; omega) | omega) _) | (refine Below.alloc ?_ (by first | (simp; done) | (simp; omega) | omega) _) | (refine below_drewN ?_ _) | (refine Below.drew ?_) | (refine Below.trans ?_ (Below.mono hb1 (by first | (simp; done) | (simp; omega) | omega))) | (refine Below.trans ?_ (Below.mono hba (by first | (simp; done) | (simp; omega) | omega))) | (refine Below.trans ?_ (Below.mono hbe (by first | (simp; done) | (simp; omega) | omega))))))
          have hse := hde.size
          obtain ⟨fe0, fe1⟩ := X0.below hde (Nat.le_refl _)
          rw [← hwe]
          clear hwe
          clear hHeld
          have hHeld : (fun w' : World => w'.cell? ⟨w.heap.size, 0, none⟩ = some (.int .i64 m) ∧ w'.cell? ⟨w.heap.size, 1, none⟩ = some (.slice o n c)) we := by go_keep
          refine hK.out _ _ (fun _ => hHeld) ?_
          clear hK K
          try simp only [List.getElem_toArray, List.getElem_cons_zero, List.getElem_cons_succ, Act.put, List.setIfInBounds_toArray, List.set_cons_zero, List.set_cons_succ]
          refine wpAnyK_oneL (i := 3) rfl (by as_aux_lemma => kernel_rfl) (fun K hK => ?_)
          go_simp
          go_at_call 37
          refine (minusP_n m m n _ _ (oneT m n) t _ (hr1.below (B := w1.heap.size) (by (repeat (first | exact Below.refl _ _ | (refine Below.setCell ?_ (by first | (simp; done) | (simp; omega) | omega) _) | (refine Below.alloc ?_ (by first | (simp; done) | (simp; omega) | omega) _) | (refine below_drewN ?_ _) | (refine Below.drew ?_) | (refine Below.trans ?_ (Below.mono hb1 (by first | (simp; done) | (simp; omega) | omega))) | (refine Below.trans ?_ (Below.mono hba (by first | (simp; done) | (simp; omega) | omega))) | (refine Below.trans ?_ (Below.mono hbe (by first | (simp; done) | (simp; omega) | omega)))))) (Nat.le_refl _)) (hu0.below (by (repeat (first | exact Below.refl _ _ | (refine Below.setCell ?_ (by first | (simp; done) | (simp; omega) | omega) _) | (refine Below.alloc ?_ (by first | (simp; done) | (simp; omega) | omega) _) | (refine below_drewN ?_ _) | (refine Below.drew ?_) | (refine Below.trans ?_ (Below.mono hb1 (by first | (simp; done) | (simp; omega) | omega))) | (refine Below.trans ?_ (Below.mono hba (by first | (simp; done) | (simp; omega) | omega))) | (refine Below.trans ?_ (Below.mono hbe (by first | (simp; done) | (simp; omega) | omega)))))) (Nat.le_refl _)) h1 hn hm hm' (PlaT.one (by omega) n) HT.out).mono ?_
          rintro e w3 ⟨v3, rfl, h3_, hb3⟩
          obtain ⟨o3, c3, rfl⟩ := h3_.shapeN (n := n) (tri_len _ _)
          have hd3 : Below w0.heap.size w0 w3 := (by (repeat (first | exact Below.refl _ _ | (refine Below.setCell ?_ (by first | (simp; done) | (simp; omega) | omega) _) | (refine Below.alloc ?_ (by first | (simp; done) | (simp; omega) | omega) _) | (refine below_drewN ?_ _) | (refine Below.drew ?_) | (refine Below.trans ?_ (Below.mono hb1 (by first | (simp; done) | (simp; omega) | omega))) | (refine Below.trans ?_ (Below.mono hba (by first | (simp; done) | (simp; omega) | omega))) | (refine Below.trans ?_ (Below.mono hbe (by first | (simp; done) | (simp; omega) | omega))) | (refine Below.trans ?_ (Below.mono hb3 (by first | (simp; done) | (simp; omega) | omega))))))
          have hs3 := hd3.size
          have hz3 : we.heap.size ≤ w3.heap.size := by first | exact hb3.size | (have := hb3.size; simpa using this)
          have hR3 := h3_.toR
          clear h3_
          obtain ⟨f30, f31⟩ := X0.below hd3 (Nat.le_refl _)
          go_wp2_with fail
          clear hHeld
          have hHeld : (fun w' : World => w'.cell? ⟨w.heap.size, 0, none⟩ = some (.int .i64 m) ∧ w'.cell? ⟨w.heap.size, 1, none⟩ = some (.slice o n c)) w3 := by go_keep
          refine hK.out _ _ (fun _ => hHeld) ?_
          clear hK K
          try simp only [List.getElem_toArray, List.getElem_cons_zero, List.getElem_cons_succ, Act.put, List.setIfInBounds_toArray, List.set_cons_zero, List.set_cons_succ]
          refine wpAnyK_oneL (i := 5) rfl (by as_aux_lemma => kernel_rfl) (fun K hK => ?_)
          go_simp
          go_at_call 41
          refine (one_n m o n c _ h1 hn hm hm').mono ?_
          rintro e w5 ⟨v5, rfl, h5_, hb5⟩
          obtain ⟨o5, c5, rfl⟩ := h5_.shapeN (n := n) (tri_len _ _)
          have hd5 : Below w0.heap.size w0 w5 := (by (repeat (first | exact Below.refl _ _ | (refine Below.setCell ?_ (by first | (simp; done) | (simp; omega) | omega) _) | (refine Below.alloc ?_ (by first | (simp; done) | (simp; omega) | omega) _) | (refine below_drewN ?_ _) | (refine Below.drew ?_) | (refine Below.trans ?_ (Below.mono hb1 (by first | (simp; done) | (simp; omega) | omega))) | (refine Below.trans ?_ (Below.mono hba (by first | (simp; done) | (simp; omega) | omega))) | (refine Below.trans ?_ (Below.mono hbe (by first | (simp; done) | (simp; omega) | omega))) | (refine Below.trans ?_ (Below.mono hb3 (by first | (simp; done) | (simp; omega) | omega))) | (refine Below.trans ?_ (Below.mono hb5 (by first | (simp; done) | (simp; omega) | omega))))))
          have hs5 := hd5.size
          have hz5 : w3.heap.size ≤ w5.heap.size := by first | exact hb5.size | (have := hb5.size; simpa using this)
          have hR5 := h5_.toR
          clear h5_
          obtain ⟨f50, f51⟩ := X0.below hd5 (Nat.le_refl _)
          go_wp2_with fail
          clear hHeld
          have hHeld : (fun w' : World => w'.cell? ⟨w.heap.size, 0, none⟩ = some (.int .i64 m) ∧ w'.cell? ⟨w.heap.size, 1, none⟩ = some (.slice o n c)) w5 := by go_keep
          refine hK.out _ _ (fun _ => hHeld) ?_
          clear hK K
          try simp only [List.getElem_toArray, List.getElem_cons_zero, List.getElem_cons_succ, Act.put, List.setIfInBounds_toArray, List.set_cons_zero, List.set_cons_succ]
          refine wpAnyK_oneL (i := 8) rfl (by as_aux_lemma => kernel_rfl) (fun K hK => ?_)
          have L6 : RB2 w5 w1.heap.size (.int .i64 0) (.slice none 0 0) := A6.below (B := wa.heap.size) (by (repeat (first | exact Below.refl _ _ | (refine Below.setCell ?_ (by first | (simp; done) | (simp; omega) | omega) _) | (refine Below.alloc ?_ (by first | (simp; done) | (simp; omega) | omega) _) | (refine below_drewN ?_ _) | (refine Below.drew ?_) | (refine Below.trans ?_ (Below.mono hb1 (by first | (simp; done) | (simp; omega) | omega))) | (refine Below.trans ?_ (Below.mono hba (by first | (simp; done) | (simp; omega) | omega))) | (refine Below.trans ?_ (Below.mono hbe (by first | (simp; done) | (simp; omega) | omega))) | (refine Below.trans ?_ (Below.mono hb3 (by first | (simp; done) | (simp; omega) | omega))) | (refine Below.trans ?_ (Below.mono hb5 (by first | (simp; done) | (simp; omega) | omega)))))) (Nat.le_refl _)
          have L7 : RB2 w5 wa.heap.size (.int .i64 0) (.slice none 0 0) := A7.below (B := we.heap.size) (by (repeat (first | exact Below.refl _ _ | (refine Below.setCell ?_ (by first | (simp; done) | (simp; omega) | omega) _) | (refine Below.alloc ?_ (by first | (simp; done) | (simp; omega) | omega) _) | (refine below_drewN ?_ _) | (refine Below.drew ?_) | (refine Below.trans ?_ (Below.mono hb1 (by first | (simp; done) | (simp; omega) | omega))) | (refine Below.trans ?_ (Below.mono hba (by first | (simp; done) | (simp; omega) | omega))) | (refine Below.trans ?_ (Below.mono hbe (by first | (simp; done) | (simp; omega) | omega))) | (refine Below.trans ?_ (Below.mono hb3 (by first | (simp; done) | (simp; omega) | omega))) | (refine Below.trans ?_ (Below.mono hb5 (by first | (simp; done) | (simp; omega) | omega)))))) (Nat.le_refl _)
          have M3 : OwSR we.heap.size w3.heap.size w5 (.slice o3 n c3) (subT m n (oneT m n) t) := hR3.bel2 (by (repeat (first | exact Below.refl _ _ | (refine Below.setCell ?_ (by first | (simp; done) | (simp; omega) | omega) _) | (refine Below.alloc ?_ (by first | (simp; done) | (simp; omega) | omega) _) | (refine below_drewN ?_ _) | (refine Below.drew ?_) | (refine Below.trans ?_ (Below.mono hb1 (by first | (simp; done) | (simp; omega) | omega))) | (refine Below.trans ?_ (Below.mono hba (by first | (simp; done) | (simp; omega) | omega))) | (refine Below.trans ?_ (Below.mono hbe (by first | (simp; done) | (simp; omega) | omega))) | (refine Below.trans ?_ (Below.mono hb3 (by first | (simp; done) | (simp; omega) | omega))) | (refine Below.trans ?_ (Below.mono hb5 (by first | (simp; done) | (simp; omega) | omega))))))
          have M5 : OwSR w3.heap.size w5.heap.size w5 (.slice o5 n c5) (oneT m n) := hR5.bel2 (by (repeat (first | exact Below.refl _ _ | (refine Below.setCell ?_ (by first | (simp; done) | (simp; omega) | omega) _) | (refine Below.alloc ?_ (by first | (simp; done) | (simp; omega) | omega) _) | (refine below_drewN ?_ _) | (refine Below.drew ?_) | (refine Below.trans ?_ (Below.mono hb1 (by first | (simp; done) | (simp; omega) | omega))) | (refine Below.trans ?_ (Below.mono hba (by first | (simp; done) | (simp; omega) | omega))) | (refine Below.trans ?_ (Below.mono hbe (by first | (simp; done) | (simp; omega) | omega))) | (refine Below.trans ?_ (Below.mono hb3 (by first | (simp; done) | (simp; omega) | omega))) | (refine Below.trans ?_ (Below.mono hb5 (by first | (simp; done) | (simp; omega) | omega))))))
          obtain ⟨⟨a60, a61⟩, a6f⟩ := id L6
          obtain ⟨⟨a70, a71⟩, a7f⟩ := id L7
          have a6g := a6f 0
          have a7g := a7f 0
          have a6h := a6f 1
          have a7h := a7f 1
          have hne : w1.heap.size ≠ wa.heap.size := by omega
          have hne' : wa.heap.size ≠ w1.heap.size := by omega
          have hb6_ : w0.heap.size ≤ w1.heap.size := by omega
          have hb7_ : w0.heap.size ≤ wa.heap.size := by omega
          have y36 : w1.heap.size < we.heap.size ∨ w3.heap.size ≤ w1.heap.size := by omega
          have y37 : wa.heap.size < we.heap.size ∨ w3.heap.size ≤ wa.heap.size := by omega
          have y56 : w1.heap.size < w3.heap.size ∨ w5.heap.size ≤ w1.heap.size := by omega
          have y57 : wa.heap.size < w3.heap.size ∨ w5.heap.size ≤ wa.heap.size := by omega
          have y5 : w0.heap.size ≤ w3.heap.size := by omega
          go_simp
          (try go_wp2_with fail)
          refine hK.out _ _ (fun h => absurd h (by decide)) ?_
          clear hK K
          try simp only [List.getElem_toArray, List.getElem_cons_zero, List.getElem_cons_succ, Act.put, List.setIfInBounds_toArray, List.set_cons_zero, List.set_cons_succ]
          refine wpAnyK_oneL (i := 9) rfl (by as_aux_lemma => kernel_rfl) (fun K hK => ?_)
          go_simp
          (try go_wp2_with fail)
          refine hK.out _ _ (fun h => absurd h (by decide)) ?_
          clear hK K
          try simp only [List.getElem_toArray, List.getElem_cons_zero, List.getElem_cons_succ, Act.put, List.setIfInBounds_toArray, List.set_cons_zero, List.set_cons_succ]
          refine wpAnyK_done (by as_aux_lemma => kernel_rfl) ?_ _
          go_wp2_with fail
          go_meet
          exact ⟨_, _, o3, o5, c3, c5, rfl, rfl, ((L6.put _ _).put' (a := ⟨_, 0, none⟩) hne' _).put' (a := ⟨_, 1, none⟩) hne' _, ((L7.put' (a := ⟨_, 0, none⟩) hne _).put' (a := ⟨_, 1, none⟩) hne _).put _ _, hb6_, hb7_, hne, ((((M3.put y36 0 _).put y36 1 _).put y37 0 _).put y37 1 _).live y37 (by simp; omega), ((((M5.put y56 0 _).put y56 1 _).put y57 0 _).put y57 1 _).ow.mono y5, (((Below.setCell (Below.setCell (by (repeat (first | exact Below.refl _ _ | (refine Below.setCell ?_ (by first | (simp; done) | (simp; omega) | omega) _) | (refine Below.alloc ?_ (by first | (simp; done) | (simp; omega) | omega) _) | (refine below_drewN ?_ _) | (refine Below.drew ?_) | (refine Below.trans ?_ (Below.mono hb1 (by first | (simp; done) | (simp; omega) | omega))) | (refine Below.trans ?_ (Below.mono hba (by first | (simp; done) | (simp; omega) | omega))) | (refine Below.trans ?_ (Below.mono hbe (by first | (simp; done) | (simp; omega) | omega))) | (refine Below.trans ?_ (Below.mono hb3 (by first | (simp; done) | (simp; omega) | omega))) | (refine Below.trans ?_ (Below.mono hb5 (by first | (simp; done) | (simp; omega) | omega)))))) (p := ⟨_, 0, none⟩) hb6_ _) (p := ⟨_, 1, none⟩) hb6_ _).setCell (p := ⟨_, 0, none⟩) hb7_ _).setCell (p := ⟨_, 1, none⟩) hb7_ _)⟩
      · as_aux_lemma =>
        go_simp
        obtain ⟨we, hwe⟩ : ∃ x : World, x = (w1).alloc (.cells #[.int .i64 0, .slice none 0 0] 25) := ⟨_, rfl⟩
        have hbe : Below (w1).heap.size (w1) we := by rw [hwe]; exact (by (repeat (first | exact Below.refl _ _ | (refine Below.setCell ?_ (by first | (simp; done) | (simp; omega) | omega) _) | (refine Below.alloc ?_ (by first | (simp; done) | (simp; omega) | omega) _) | (refine below_drewN ?_ _) | (refine Below.drew ?_))))
        have A7 : RB2 we w1.heap.size (.int .i64 0) (.slice none 0 0) := by rw [hwe]; exact RB2.mk1 (w1) _ _ _
        have ha7 : w1.heap.size < we.heap.size := A7.1.lt
        have hde : Below w0.heap.size w0 we := (by (repeat (first | exact Below.refl _ _ | (refine Below.setCell ?_ (by first | (simp; done) | (simp; omega) | omega) _) | (refine Below.alloc ?_ (by first | (simp; done) | (simp; omega) | omega) _) | (refine below_drewN ?_ _) | (refine Below.drew ?_) | (refine Below.trans ?_ (Below.mono hb1 (by first | (simp; done) | (simp; omega) | omega))) | (refine Below.trans ?_ (Below.mono hbe (by first | (simp; done) | (simp; omega) | omega))))))
        have hse := hde.size
        obtain ⟨fe0, fe1⟩ := X0.below hde (Nat.le_refl _)
        rw [← hwe]
        clear hwe
        clear hHeld
        have hHeld : (fun w' : World => w'.cell? ⟨w.heap.size, 0, none⟩ = some (.int .i64 m) ∧ w'.cell? ⟨w.heap.size, 1, none⟩ = some (.slice o n c)) we := by go_keep
        refine hK.out _ _ (fun _ => hHeld) ?_
        clear hK K
        try simp only [List.getElem_toArray, List.getElem_cons_zero, List.getElem_cons_succ, Act.put, List.setIfInBounds_toArray, List.set_cons_zero, List.set_cons_succ]
        refine wpAnyK_two (i := 3) (j := 6) rfl rfl (by as_aux_lemma => kernel_rfl) (fun K hK => ?_) (fun K hK => ?_)
        · as_aux_lemma =>
          go_simp
          go_at_call 37
          refine (minusP_n m m n _ _ (oneT m n) t _ (hr1.below (B := w1.heap.size) (by (repeat (first | exact Below.refl _ _ | (refine Below.setCell ?_ (by first | (simp; done) | (simp; omega) | omega) _) | (refine Below.alloc ?_ (by first | (simp; done) | (simp; omega) | omega) _) | (refine below_drewN ?_ _) | (refine Below.drew ?_) | (refine Below.trans ?_ (Below.mono hb1 (by first | (simp; done) | (simp; omega) | omega))) | (refine Below.trans ?_ (Below.mono hbe (by first | (simp; done) | (simp; omega) | omega)))))) (Nat.le_refl _)) (hu0.below (by (repeat (first | exact Below.refl _ _ | (refine Below.setCell ?_ (by first | (simp; done) | (simp; omega) | omega) _) | (refine Below.alloc ?_ (by first | (simp; done) | (simp; omega) | omega) _) | (refine below_drewN ?_ _) | (refine Below.drew ?_) | (refine Below.trans ?_ (Below.mono hb1 (by first | (simp; done) | (simp; omega) | omega))) | (refine Below.trans ?_ (Below.mono hbe (by first | (simp; done) | (simp; omega) | omega)))))) (Nat.le_refl _)) h1 hn hm hm' (PlaT.one (by omega) n) HT.out).mono ?_
          rintro e w3 ⟨v3, rfl, h3_, hb3⟩
          obtain ⟨o3, c3, rfl⟩ := h3_.shapeN (n := n) (tri_len _ _)
          have hd3 : Below w0.heap.size w0 w3 := (by (repeat (first | exact Below.refl _ _ | (refine Below.setCell ?_ (by first | (simp; done) | (simp; omega) | omega) _) | (refine Below.alloc ?_ (by first | (simp; done) | (simp; omega) | omega) _) | (refine below_drewN ?_ _) | (refine Below.drew ?_) | (refine Below.trans ?_ (Below.mono hb1 (by first | (simp; done) | (simp; omega) | omega))) | (refine Below.trans ?_ (Below.mono hbe (by first | (simp; done) | (simp; omega) | omega))) | (refine Below.trans ?_ (Below.mono hb3 (by first | (simp; done) | (simp; omega) | omega))))))
          have hs3 := hd3.size
          have hz3 : we.heap.size ≤ w3.heap.size := by first | exact hb3.size | (have := hb3.size; simpa using this)
          have hR3 := h3_.toR
          clear h3_
          obtain ⟨f30, f31⟩ := X0.below hd3 (Nat.le_refl _)
          go_wp2_with fail
          clear hHeld
          have hHeld : (fun w' : World => w'.cell? ⟨w.heap.size, 0, none⟩ = some (.int .i64 m) ∧ w'.cell? ⟨w.heap.size, 1, none⟩ = some (.slice o n c)) w3 := by go_keep
          refine hK.out _ _ (fun _ => hHeld) ?_
          clear hK K
          try simp only [List.getElem_toArray, List.getElem_cons_zero, List.getElem_cons_succ, Act.put, List.setIfInBounds_toArray, List.set_cons_zero, List.set_cons_succ]
          refine wpAnyK_two (i := 5) (j := 6) rfl rfl (by as_aux_lemma => kernel_rfl) (fun K hK => ?_) (fun K hK => ?_)
          · as_aux_lemma =>
            go_simp
            go_at_call 41
            refine (one_n m o n c _ h1 hn hm hm').mono ?_
            rintro e w5 ⟨v5, rfl, h5_, hb5⟩
            obtain ⟨o5, c5, rfl⟩ := h5_.shapeN (n := n) (tri_len _ _)
            have hd5 : Below w0.heap.size w0 w5 := (by (repeat (first | exact Below.refl _ _ | (refine Below.setCell ?_ (by first | (simp; done) | (simp; omega) | omega) _) | (refine Below.alloc ?_ (by first | (simp; done) | (simp; omega) | omega) _) | (refine below_drewN ?_ _) | (refine Below.drew ?_) | (refine Below.trans ?_ (Below.mono hb1 (by first | (simp; done) | (simp; omega) | omega))) | (refine Below.trans ?_ (Below.mono hbe (by first | (simp; done) | (simp; omega) | omega))) | (refine Below.trans ?_ (Below.mono hb3 (by first | (simp; done) | (simp; omega) | omega))) | (refine Below.trans ?_ (Below.mono hb5 (by first | (simp; done) | (simp; omega) | omega))))))
            have hs5 := hd5.size
            have hz5 : w3.heap.size ≤ w5.heap.size := by first | exact hb5.size | (have := hb5.size; simpa using this)
            have hR5 := h5_.toR
            clear h5_
            obtain ⟨f50, f51⟩ := X0.below hd5 (Nat.le_refl _)
            go_wp2_with fail
            clear hHeld
            have hHeld : (fun w' : World => w'.cell? ⟨w.heap.size, 0, none⟩ = some (.int .i64 m) ∧ w'.cell? ⟨w.heap.size, 1, none⟩ = some (.slice o n c)) w5 := by go_keep
            refine hK.out _ _ (fun _ => hHeld) ?_
            clear hK K
            try simp only [List.getElem_toArray, List.getElem_cons_zero, List.getElem_cons_succ, Act.put, List.setIfInBounds_toArray, List.set_cons_zero, List.set_cons_succ]
            refine wpAnyK_oneL (i := 6) rfl (by as_aux_lemma => kernel_rfl) (fun K hK => ?_)
            go_simp
            obtain ⟨wa, hwa⟩ : ∃ x : World, x = (w5).alloc (.cells #[.int .i64 0, .slice none 0 0] 25) := ⟨_, rfl⟩
            have hba : Below (w5).heap.size (w5) wa := by rw [hwa]; exact (by (repeat (first | exact Below.refl _ _ | (refine Below.setCell ?_ (by first | (simp; done) | (simp; omega) | omega) _) | (refine Below.alloc ?_ (by first | (simp; done) | (simp; omega) | omega) _) | (refine below_drewN ?_ _) | (refine Below.drew ?_))))
            have A6 : RB2 wa w5.heap.size (.int .i64 0) (.slice none 0 0) := by rw [hwa]; exact RB2.mk1 (w5) _ _ _
            have ha6 : w5.heap.size < wa.heap.size := A6.1.lt
            have hda : Below w0.heap.size w0 wa := (by (repeat (first | exact Below.refl _ _ | (refine Below.setCell ?_ (by first | (simp; done) | (simp; omega) | omega) _) | (refine Below.alloc ?_ (by first | (simp; done) | (simp; omega) | omega) _) | (refine below_drewN ?_ _) | (refine Below.drew ?_) | (refine Below.trans ?_ (Below.mono hb1 (by first | (simp; done) | (simp; omega) | omega))) | (refine Below.trans ?_ (Below.mono hbe (by first | (simp; done) | (simp; omega) | omega))) | (refine Below.trans ?_ (Below.mono hb3 (by first | (simp; done) | (simp; omega) | omega))) | (refine Below.trans ?_ (Below.mono hb5 (by first | (simp; done) | (simp; omega) | omega))) | (refine Below.trans ?_ (Below.mono hba (by first | (simp; done) | (simp; omega) | omega))))))
            have hsa := hda.size
            obtain ⟨fa0, fa1⟩ := X0.below hda (Nat.le_refl _)
            rw [← hwa]
            clear hwa
            clear hHeld
            have hHeld : (fun w' : World => w'.cell? ⟨w.heap.size, 0, none⟩ = some (.int .i64 m) ∧ w'.cell? ⟨w.heap.size, 1, none⟩ = some (.slice o n c)) wa := by go_keep
            refine hK.out _ _ (fun _ => hHeld) ?_
            clear hK K
            try simp only [List.getElem_toArray, List.getElem_cons_zero, List.getElem_cons_succ, Act.put, List.setIfInBounds_toArray, List.set_cons_zero, List.set_cons_succ]
            refine wpAnyK_oneL (i := 8) rfl (by as_aux_lemma => kernel_rfl) (fun K hK => ?_)
            have L6 : RB2 wa w5.heap.size (.int .i64 0) (.slice none 0 0) := A6.below (B := wa.heap.size) (by (repeat (first | exact Below.refl _ _ | (refine Below.setCell ?_ (by first | (simp; done) | (simp; omega) | omega) _) | (refine Below.alloc ?_ (by first | (simp; done) | (simp; omega) | omega) _) | (refine below_drewN ?_ _) | (refine Below.drew ?_) | (refine Below.trans ?_ (Below.mono hb1 (by first | (simp; done) | (simp; omega) | omega))) | (refine Below.trans ?_ (Below.mono hbe (by first | (simp; done) | (simp; omega) | omega))) | (refine Below.trans ?_ (Below.mono hb3 (by first | (simp; done) | (simp; omega) | omega))) | (refine Below.trans ?_ (Below.mono hb5 (by first | (simp; done) | (simp; omega) | omega))) | (refine Below.trans ?_ (Below.mono hba (by first | (simp; done) | (simp; omega) | omega)))))) (Nat.le_refl _)
            have L7 : RB2 wa w1.heap.size (.int .i64 0) (.slice none 0 0) := A7.below (B := we.heap.size) (by (repeat (first | exact Below.refl _ _ | (refine Below.setCell ?_ (by first | (simp; done) | (simp; omega) | omega) _) | (refine Below.alloc ?_ (by first | (simp; done) | (simp; omega) | omega) _) | (refine below_drewN ?_ _) | (refine Below.drew ?_) | (refine Below.trans ?_ (Below.mono hb1 (by first | (simp; done) | (simp; omega) | omega))) | (refine Below.trans ?_ (Below.mono hbe (by first | (simp; done) | (simp; omega) | omega))) | (refine Below.trans ?_ (Below.mono hb3 (by first | (simp; done) | (simp; omega) | omega))) | (refine Below.trans ?_ (Below.mono hb5 (by first | (simp; done) | (simp; omega) | omega))) | (refine Below.trans ?_ (Below.mono hba (by first | (simp; done) | (simp; omega) | omega)))))) (Nat.le_refl _)
            have M3 : OwSR we.heap.size w3.heap.size wa (.slice o3 n c3) (subT m n (oneT m n) t) := hR3.bel2 (by (repeat (first | exact Below.refl _ _ | (refine Below.setCell ?_ (by first | (simp; done) | (simp; omega) | omega) _) | (refine Below.alloc ?_ (by first | (simp; done) | (simp; omega) | omega) _) | (refine below_drewN ?_ _) | (refine Below.drew ?_) | (refine Below.trans ?_ (Below.mono hb1 (by first | (simp; done) | (simp; omega) | omega))) | (refine Below.trans ?_ (Below.mono hbe (by first | (simp; done) | (simp; omega) | omega))) | (refine Below.trans ?_ (Below.mono hb3 (by first | (simp; done) | (simp; omega) | omega))) | (refine Below.trans ?_ (Below.mono hb5 (by first | (simp; done) | (simp; omega) | omega))) | (refine Below.trans ?_ (Below.mono hba (by first | (simp; done) | (simp; omega) | omega))))))
            have M5 : OwSR w3.heap.size w5.heap.size wa (.slice o5 n c5) (oneT m n) := hR5.bel2 (by (repeat (first | exact Below.refl _ _ | (refine Below.setCell ?_ (by first | (simp; done) | (simp; omega) | omega) _) | (refine Below.alloc ?_ (by first | (simp; done) | (simp; omega) | omega) _) | (refine below_drewN ?_ _) | (refine Below.drew ?_) | (refine Below.trans ?_ (Below.mono hb1 (by first | (simp; done) | (simp; omega) | omega))) | (refine Below.trans ?_ (Below.mono hbe (by first | (simp; done) | (simp; omega) | omega))) | (refine Below.trans ?_ (Below.mono hb3 (by first | (simp; done) | (simp; omega) | omega))) | (refine Below.trans ?_ (Below.mono hb5 (by first | (simp; done) | (simp; omega) | omega))) | (refine Below.trans ?_ (Below.mono hba (by first | (simp; done) | (simp; omega) | omega))))))
            obtain ⟨⟨a60, a61⟩, a6f⟩ := id L6
            obtain ⟨⟨a70, a71⟩, a7f⟩ := id L7
            have a6g := a6f 0
            have a7g := a7f 0
            have a6h := a6f 1
            have a7h := a7f 1
            have hne : w5.heap.size ≠ w1.heap.size := by omega
            have hne' : w1.heap.size ≠ w5.heap.size := by omega
            have hb6_ : w0.heap.size ≤ w5.heap.size := by omega
            have hb7_ : w0.heap.size ≤ w1.heap.size := by omega
            have y36 : w5.heap.size < we.heap.size ∨ w3.heap.size ≤ w5.heap.size := by omega
            have y37 : w1.heap.size < we.heap.size ∨ w3.heap.size ≤ w1.heap.size := by omega
            have y56 : w5.heap.size < w3.heap.size ∨ w5.heap.size ≤ w5.heap.size := by omega
            have y57 : w1.heap.size < w3.heap.size ∨ w5.heap.size ≤ w1.heap.size := by omega
            have y5 : w0.heap.size ≤ w3.heap.size := by omega
            go_simp
            (try go_wp2_with fail)
            refine hK.out _ _ (fun h => absurd h (by decide)) ?_
            clear hK K
            try simp only [List.getElem_toArray, List.getElem_cons_zero, List.getElem_cons_succ, Act.put, List.setIfInBounds_toArray, List.set_cons_zero, List.set_cons_succ]
            refine wpAnyK_oneL (i := 9) rfl (by as_aux_lemma => kernel_rfl) (fun K hK => ?_)
            go_simp
            (try go_wp2_with fail)
            refine hK.out _ _ (fun h => absurd h (by decide)) ?_
            clear hK K
            try simp only [List.getElem_toArray, List.getElem_cons_zero, List.getElem_cons_succ, Act.put, List.setIfInBounds_toArray, List.set_cons_zero, List.set_cons_succ]
            refine wpAnyK_done (by as_aux_lemma => kernel_rfl) ?_ _
            go_wp2_with fail
            go_meet
            exact ⟨_, _, o3, o5, c3, c5, rfl, rfl, ((L6.put _ _).put' (a := ⟨_, 0, none⟩) hne' _).put' (a := ⟨_, 1, none⟩) hne' _, ((L7.put' (a := ⟨_, 0, none⟩) hne _).put' (a := ⟨_, 1, none⟩) hne _).put _ _, hb6_, hb7_, hne, ((((M3.put y36 0 _).put y36 1 _).put y37 0 _).put y37 1 _).live y37 (by simp; omega), ((((M5.put y56 0 _).put y56 1 _).put y57 0 _).put y57 1 _).ow.mono y5, (((Below.setCell (Below.setCell (by (repeat (first | exact Below.refl _ _ | (refine Below.setCell ?_ (by first | (simp; done) | (simp; omega) | omega) _) | (refine Below.alloc ?_ (by first | (simp; done) | (simp; omega) | omega) _) | (refine below_drewN ?_ _) | (refine Below.drew ?_) | (refine Below.trans ?_ (Below.mono hb1 (by first | (simp; done) | (simp; omega) | omega))) | (refine Below.trans ?_ (Below.mono hbe (by first | (simp; done) | (simp; omega) | omega))) | (refine Below.trans ?_ (Below.mono hb3 (by first | (simp; done) | (simp; omega) | omega))) | (refine Below.trans ?_ (Below.mono hb5 (by first | (simp; done) | (simp; omega) | omega))) | (refine Below.trans ?_ (Below.mono hba (by first | (simp; done) | (simp; omega) | omega)))))) (p := ⟨_, 0, none⟩) hb6_ _) (p := ⟨_, 1, none⟩) hb6_ _).setCell (p := ⟨_, 0, none⟩) hb7_ _).setCell (p := ⟨_, 1, none⟩) hb7_ _)⟩
          · as_aux_lemma =>
            go_simp
            obtain ⟨wa, hwa⟩ : ∃ x : World, x = (w3).alloc (.cells #[.int .i64 0, .slice none 0 0] 25) := ⟨_, rfl⟩
            have hba : Below (w3).heap.size (w3) wa := by rw [hwa]; exact (by (repeat (first | exact Below.refl _ _ | (refine Below.setCell ?_ (by first | (simp; done) | (simp; omega) | omega) _) | (refine Below.alloc ?_ (by first | (simp; done) | (simp; omega) | omega) _) | (refine below_drewN ?_ _) | (refine Below.drew ?_))))
            have A6 : RB2 wa w3.heap.size (.int .i64 0) (.slice none 0 0) := by rw [hwa]; exact RB2.mk1 (w3) _ _ _
            have ha6 : w3.heap.size < wa.heap.size := A6.1.lt
            have hda : Below w0.heap.size w0 wa := (by (repeat (first | exact Below.refl _ _ | (refine Below.setCell ?_ (by first | (simp; done) | (simp; omega) | omega) _) | (refine Below.alloc ?_ (by first | (simp; done) | (simp; omega) | omega) _) | (refine below_drewN ?_ _) | (refine Below.drew ?_) | (refine Below.trans ?_ (Below.mono hb1 (by first | (simp; done) | (simp; omega) | omega))) | (refine Below.trans ?_ (Below.mono hbe (by first | (simp; done) | (simp; omega) | omega))) | (refine Below.trans ?_ (Below.mono hb3 (by first | (simp; done) | (simp; omega) | omega))) | (refine Below.trans ?_ (Below.mono hba (by first | (simp; done) | (simp; omega) | omega))))))
            have hsa := hda.size
            obtain ⟨fa0, fa1⟩ := X0.below hda (Nat.le_refl _)
            rw [← hwa]
            clear hwa
            clear hHeld
            have hHeld : (fun w' : World => w'.cell? ⟨w.heap.size, 0, none⟩ = some (.int .i64 m) ∧ w'.cell? ⟨w.heap.size, 1, none⟩ = some (.slice o n c)) wa := by go_keep
            refine hK.out _ _ (fun _ => hHeld) ?_
            clear hK K
            try simp only [List.getElem_toArray, List.getElem_cons_zero, List.getElem_cons_succ, Act.put, List.setIfInBounds_toArray, List.set_cons_zero, List.set_cons_succ]
            refine wpAnyK_oneL (i := 5) rfl (by as_aux_lemma => kernel_rfl) (fun K hK => ?_)
            go_simp
            go_at_call 41
            refine (one_n m o n c _ h1 hn hm hm').mono ?_
            rintro e w5 ⟨v5, rfl, h5_, hb5⟩
            obtain ⟨o5, c5, rfl⟩ := h5_.shapeN (n := n) (tri_len _ _)
            have hd5 : Below w0.heap.size w0 w5 := (by (repeat (first | exact Below.refl _ _ | (refine Below.setCell ?_ (by first | (simp; done) | (simp; omega) | omega) _) | (refine Below.alloc ?_ (by first | (simp; done) | (simp; omega) | omega) _) | (refine below_drewN ?_ _) | (refine Below.drew ?_) | (refine Below.trans ?_ (Below.mono hb1 (by first | (simp; done) | (simp; omega) | omega))) | (refine Below.trans ?_ (Below.mono hbe (by first | (simp; done) | (simp; omega) | omega))) | (refine Below.trans ?_ (Below.mono hb3 (by first | (simp; done) | (simp; omega) | omega))) | (refine Below.trans ?_ (Below.mono hba (by first | (simp; done) | (simp; omega) | omega))) | (refine Below.trans ?_ (Below.mono hb5 (by first | (simp; done) | (simp; omega) | omega))))))
            have hs5 := hd5.size
            have hz5 : wa.heap.size ≤ w5.heap.size := by first | exact hb5.size | (have := hb5.size; simpa using this)
            have hR5 := h5_.toR
            clear h5_
            obtain ⟨f50, f51⟩ := X0.below hd5 (Nat.le_refl _)
            go_wp2_with fail
            clear hHeld
            have hHeld : (fun w' : World => w'.cell? ⟨w.heap.size, 0, none⟩ = some (.int .i64 m) ∧ w'.cell? ⟨w.heap.size, 1, none⟩ = some (.slice o n c)) w5 := by go_keep
            refine hK.out _ _ (fun _ => hHeld) ?_
            clear hK K
            try simp only [List.getElem_toArray, List.getElem_cons_zero, List.getElem_cons_succ, Act.put, List.setIfInBounds_toArray, List.set_cons_zero, List.set_cons_succ]
            refine wpAnyK_oneL (i := 8) rfl (by as_aux_lemma => kernel_rfl) (fun K hK => ?_)
            have L6 : RB2 w5 w3.heap.size (.int .i64 0) (.slice none 0 0) := A6.below (B := wa.heap.size) (by (repeat (first | exact Below.refl _ _ | (refine Below.setCell ?_ (by first | (simp; done) | (simp; omega) | omega) _) | (refine Below.alloc ?_ (by first | (simp; done) | (simp; omega) | omega) _) | (refine below_drewN ?_ _) | (refine Below.drew ?_) | (refine Below.trans ?_ (Below.mono hb1 (by first | (simp; done) | (simp; omega) | omega))) | (refine Below.trans ?_ (Below.mono hbe (by first | (simp; done) | (simp; omega) | omega))) | (refine Below.trans ?_ (Below.mono hb3 (by first | (simp; done) | (simp; omega) | omega))) | (refine Below.trans ?_ (Below.mono hba (by first | (simp; done) | (simp; omega) | omega))) | (refine Below.trans ?_ (Below.mono hb5 (by first | (simp; done) | (simp; omega) | omega)))))) (Nat.le_refl _)
            have L7 : RB2 w5 w1.heap.size (.int .i64 0) (.slice none 0 0) := A7.below (B := we.heap.size) (by (repeat (first | exact Below.refl _ _ | (refine Below.setCell ?_ (by first | (simp; done) | (simp; omega) | omega) _) | (refine Below.alloc ?_ (by first | (simp; done) | (simp; omega) | omega) _) | (refine below_drewN ?_ _) | (refine Below.drew ?_) | (refine Below.trans ?_ (Below.mono hb1 (by first | (simp; done) | (simp; omega) | omega))) | (refine Below.trans ?_ (Below.mono hbe (by first | (simp; done) | (simp; omega) | omega))) | (refine Below.trans ?_ (Below.mono hb3 (by first | (simp; done) | (simp; omega) | omega))) | (refine Below.trans ?_ (Below.mono hba (by first | (simp; done) | (simp; omega) | omega))) | (refine Below.trans ?_ (Below.mono hb5 (by first | (simp; done) | (simp; omega) | omega)))))) (Nat.le_refl _)
            have M3 : OwSR we.heap.size w3.heap.size w5 (.slice o3 n c3) (subT m n (oneT m n) t) := hR3.bel2 (by (repeat (first | exact Below.refl _ _ | (refine Below.setCell ?_ (by first | (simp; done) | (simp; omega) | omega) _) | (refine Below.alloc ?_ (by first | (simp; done) | (simp; omega) | omega) _) | (refine below_drewN ?_ _) | (refine Below.drew ?_) | (refine Below.trans ?_ (Below.mono hb1 (by first | (simp; done) | (simp; omega) | omega))) | (refine Below.trans ?_ (Below.mono hbe (by first | (simp; done) | (simp; omega) | omega))) | (refine Below.trans ?_ (Below.mono hb3 (by first | (simp; done) | (simp; omega) | omega))) | (refine Below.trans ?_ (Below.mono hba (by first | (simp; done) | (simp; omega) | omega))) | (refine Below.trans ?_ (Below.mono hb5 (by first | (simp; done) | (simp; omega) | omega))))))
            have M5 : OwSR wa.heap.size w5.heap.size w5 (.slice o5 n c5) (oneT m n) := hR5.bel2 (by (repeat (first | exact Below.refl _ _ | (refine Below.setCell ?_ (by first | (simp; done) | (simp; omega) | omega) _) | (refine Below.alloc ?_ (by first | (simp; done) | (simp; omega) | omega) _) | (refine below_drewN ?_ _) | (refine Below.drew ?_) | (refine Below.trans ?_ (Below.mono hb1 (by first | (simp; done) | (simp; omega) | omega))) | (refine Below.trans ?_ (Below.mono hbe (by first | (simp; done) | (simp; omega) | omega))) | (refine Below.trans ?_ (Below.mono hb3 (by first | (simp; done) | (simp; omega) | omega))) | (refine Below.trans ?_ (Below.mono hba (by first | (simp; done) | (simp; omega) | omega))) | (refine Below.trans ?_ (Below.mono hb5 (by first | (simp; done) | (simp; omega) | omega))))))
            obtain ⟨⟨a60, a61⟩, a6f⟩ := id L6
            obtain ⟨⟨a70, a71⟩, a7f⟩ := id L7
            have a6g := a6f 0
            have a7g := a7f 0
            have a6h := a6f 1
            have a7h := a7f 1
            have hne : w3.heap.size ≠ w1.heap.size := by omega
            have hne' : w1.heap.size ≠ w3.heap.size := by omega
            have hb6_ : w0.heap.size ≤ w3.heap.size := by omega
            have hb7_ : w0.heap.size ≤ w1.heap.size := by omega
            have y36 : w3.heap.size < we.heap.size ∨ w3.heap.size ≤ w3.heap.size := by omega
            have y37 : w1.heap.size < we.heap.size ∨ w3.heap.size ≤ w1.heap.size := by omega
            have y56 : w3.heap.size < wa.heap.size ∨ w5.heap.size ≤ w3.heap.size := by omega
            have y57 : w1.heap.size < wa.heap.size ∨ w5.heap.size ≤ w1.heap.size := by omega
            have y5 : w0.heap.size ≤ wa.heap.size := by omega
            go_simp
            (try go_wp2_with fail)
            refine hK.out _ _ (fun h => absurd h (by decide)) ?_
            clear hK K
            try simp only [List.getElem_toArray, List.getElem_cons_zero, List.getElem_cons_succ, Act.put, List.setIfInBounds_toArray, List.set_cons_zero, List.set_cons_succ]
            refine wpAnyK_oneL (i := 9) rfl (by as_aux_lemma => kernel_rfl) (fun K hK => ?_)
            go_simp
            (try go_wp2_with fail)
            refine hK.out _ _ (fun h => absurd h (by decide)) ?_
            clear hK K
            try simp only [List.getElem_toArray, List.getElem_cons_zero, List.getElem_cons_succ, Act.put, List.setIfInBounds_toArray, List.set_cons_zero, List.set_cons_succ]
            refine wpAnyK_done (by as_aux_lemma => kernel_rfl) ?_ _
            go_wp2_with fail
            go_meet
            exact ⟨_, _, o3, o5, c3, c5, rfl, rfl, ((L6.put _ _).put' (a := ⟨_, 0, none⟩) hne' _).put' (a := ⟨_, 1, none⟩) hne' _, ((L7.put' (a := ⟨_, 0, none⟩) hne _).put' (a := ⟨_, 1, none⟩) hne _).put _ _, hb6_, hb7_, hne, ((((M3.put y36 0 _).put y36 1 _).put y37 0 _).put y37 1 _).live y37 (by simp; omega), ((((M5.put y56 0 _).put y56 1 _).put y57 0 _).put y57 1 _).ow.mono y5, (((Below.setCell (Below.setCell (by (repeat (first | exact Below.refl _ _ | (refine Below.setCell ?_ (by first | (simp; done) | (simp; omega) | omega) _) | (refine Below.alloc ?_ (by first | (simp; done) | (simp; omega) | omega) _) | (refine below_drewN ?_ _) | (refine Below.drew ?_) | (refine Below.trans ?_ (Below.mono hb1 (by first | (simp; done) | (simp; omega) | omega))) | (refine Below.trans ?_ (Below.mono hbe (by first | (simp; done) | (simp; omega) | omega))) | (refine Below.trans ?_ (Below.mono hb3 (by first | (simp; done) | (simp; omega) | omega))) | (refine Below.trans ?_ (Below.mono hba (by first | (simp; done) | (simp; omega) | omega))) | (refine Below.trans ?_ (Below.mono hb5 (by first | (simp; done) | (simp; omega) | omega)))))) (p := ⟨_, 0, none⟩) hb6_ _) (p := ⟨_, 1, none⟩) hb6_ _).setCell (p := ⟨_, 0, none⟩) hb7_ _).setCell (p := ⟨_, 1, none⟩) hb7_ _)⟩
        · as_aux_lemma =>
          go_simp
          obtain ⟨wa, hwa⟩ : ∃ x : World, x = (we).alloc (.cells #[.int .i64 0, .slice none 0 0] 25) := ⟨_, rfl⟩
          have hba : Below (we).heap.size (we) wa := by rw [hwa]; exact (by (repeat (first | exact Below.refl _ _ | (refine Below.setCell ?_ (by first | (simp; done) | (simp; omega) | omega) _) | (refine Below.alloc ?_ (by first | (simp; done) | (simp; omega) | omega) _) | (refine below_drewN ?_ _) | (refine Below.drew ?_))))
          have A6 : RB2 wa we.heap.size (.int .i64 0) (.slice none 0 0) := by rw [hwa]; exact RB2.mk1 (we) _ _ _
          have ha6 : we.heap.size < wa.heap.size := A6.1.lt
          have hda : Below w0.heap.size w0 wa := (by (repeat (first | exact Below.refl _ _ | (refine Below.setCell ?_ (by first | (simp; done) | (simp; omega) | omega) _) | (refine Below.alloc ?_ (by first | (simp; done) | (simp; omega) | omega) _) | (refine below_drewN ?_ _) | (refine Below.drew ?_) | (refine Below.trans ?_ (Below.mono hb1 (by first | (simp; done) | (simp; omega) | omega))) | (refine Below.trans ?_ (Below.mono hbe (by first | (simp; done) | (simp; omega) | omega))) | (refine Below.trans ?_ (Below.mono hba (by first | (simp; done) | (simp; omega) | omega))))))
          have hsa := hda.size
          obtain ⟨fa0, fa1⟩ := X0.below hda (Nat.le_refl _)
          rw [← hwa]
          clear hwa
          clear hHeld
          have hHeld : (fun w' : World => w'.cell? ⟨w.heap.size, 0, none⟩ = some (.int .i64 m) ∧ w'.cell? ⟨w.heap.size, 1, none⟩ = some (.slice o n c)) wa := by go_keep
          refine hK.out _ _ (fun _ => hHeld) ?_
          clear hK K
          try simp only [List.getElem_toArray, List.getElem_cons_zero, List.getElem_cons_succ, Act.put, List.setIfInBounds_toArray, List.set_cons_zero, List.set_cons_succ]
          refine wpAnyK_oneL (i := 3) rfl (by as_aux_lemma => kernel_rfl) (fun K hK => ?_)
          go_simp
          go_at_call 37
          refine (minusP_n m m n _ _ (oneT m n) t _ (hr1.below (B := w1.heap.size) (by (repeat (first | exact Below.refl _ _ | (refine Below.setCell ?_ (by first | (simp; done) | (simp; omega) | omega) _) | (refine Below.alloc ?_ (by first | (simp; done) | (simp; omega) | omega) _) | (refine below_drewN ?_ _) | (refine Below.drew ?_) | (refine Below.trans ?_ (Below.mono hb1 (by first | (simp; done) | (simp; omega) | omega))) | (refine Below.trans ?_ (Below.mono hbe (by first | (simp; done) | (simp; omega) | omega))) | (refine Below.trans ?_ (Below.mono hba (by first | (simp; done) | (simp; omega) | omega)))))) (Nat.le_refl _)) (hu0.below (by (repeat (first | exact Below.refl _ _ | (refine Below.setCell ?_ (by first | (simp; done) | (simp; omega) | omega) _) | (refine Below.alloc ?_ (by first | (simp; done) | (simp; omega) | omega) _) | (refine below_drewN ?_ _) | (refine Below.drew ?_) | (refine Below.trans ?_ (Below.mono hb1 (by first | (simp; done) | (simp; omega) | omega))) | (refine Below.trans ?_ (Below.mono hbe (by first | (simp; done) | (simp; omega) | omega))) | (refine Below.trans ?_ (Below.mono hba (by first | (simp; done) | (simp; omega) | omega)))))) (Nat.le_refl _)) h1 hn hm hm' (PlaT.one (by omega) n) HT.out).mono ?_
          rintro e w3 ⟨v3, rfl, h3_, hb3⟩
          obtain ⟨o3, c3, rfl⟩ := h3_.shapeN (n := n) (tri_len _ _)
          have hd3 : Below w0.heap.size w0 w3 := (by (repeat (first | exact Below.refl _ _ | (refine Below.setCell ?_ (by first | (simp; done) | (simp; omega) | omega) _) | (refine Below.alloc ?_ (by first | (simp; done) | (simp; omega) | omega) _) | (refine below_drewN ?_ _) | (refine Below.drew ?_) | (refine Below.trans ?_ (Below.mono hb1 (by first | (simp; done) | (simp; omega) | omega))) | (refine Below.trans ?_ (Below.mono hbe (by first | (simp; done) | (simp; omega) | omega))) | (refine Below.trans ?_ (Below.mono hba (by first | (simp; done) | (simp; omega) | omega))) | (refine Below.trans ?_ (Below.mono hb3 (by first | (simp; done) | (simp; omega) | omega))))))
          have hs3 := hd3.size
          have hz3 : wa.heap.size ≤ w3.heap.size := by first | exact hb3.size | (have := hb3.size; simpa using this)
          have hR3 := h3_.toR
          clear h3_
          obtain ⟨f30, f31⟩ := X0.below hd3 (Nat.le_refl _)
          go_wp2_with fail
          clear hHeld
          have hHeld : (fun w' : World => w'.cell? ⟨w.heap.size, 0, none⟩ = some (.int .i64 m) ∧ w'.cell? ⟨w.heap.size, 1, none⟩ = some (.slice o n c)) w3 := by go_keep
          refine hK.out _ _ (fun _ => hHeld) ?_
          clear hK K
          try simp only [List.getElem_toArray, List.getElem_cons_zero, List.getElem_cons_succ, Act.put, List.setIfInBounds_toArray, List.set_cons_zero, List.set_cons_succ]
          refine wpAnyK_oneL (i := 5) rfl (by as_aux_lemma => kernel_rfl) (fun K hK => ?_)
          go_simp
          go_at_call 41
          refine (one_n m o n c _ h1 hn hm hm').mono ?_
          rintro e w5 ⟨v5, rfl, h5_, hb5⟩
          obtain ⟨o5, c5, rfl⟩ := h5_.shapeN (n := n) (tri_len _ _)
          have hd5 : Below w0.heap.size w0 w5 := (by (repeat (first | exact Below.refl _ _ | (refine Below.setCell ?_ (by first | (simp; done) | (simp; omega) | omega) _) | (refine Below.alloc ?_ (by first | (simp; done) | (simp; omega) | omega) _) | (refine below_drewN ?_ _) | (refine Below.drew ?_) | (refine Below.trans ?_ (Below.mono hb1 (by first | (simp; done) | (simp; omega) | omega))) | (refine Below.trans ?_ (Below.mono hbe (by first | (simp; done) | (simp; omega) | omega))) | (refine Below.trans ?_ (Below.mono hba (by first | (simp; done) | (simp; omega) | omega))) | (refine Below.trans ?_ (Below.mono hb3 (by first | (simp; done) | (simp; omega) | omega))) | (refine Below.trans ?_ (Below.mono hb5 (by first | (simp; done) | (simp; omega) | omega))))))
          have hs5 := hd5.size
          have hz5 : w3.heap.size ≤ w5.heap.size := by first | exact hb5.size | (have := hb5.size; simpa using this)
          have hR5 := h5_.toR
          clear h5_
          obtain ⟨f50, f51⟩ := X0.below hd5 (Nat.le_refl _)
          go_wp2_with fail
          clear hHeld
          have hHeld : (fun w' : World => w'.cell? ⟨w.heap.size, 0, none⟩ = some (.int .i64 m) ∧ w'.cell? ⟨w.heap.size, 1, none⟩ = some (.slice o n c)) w5 := by go_keep
          refine hK.out _ _ (fun _ => hHeld) ?_
          clear hK K
          try simp only [List.getElem_toArray, List.getElem_cons_zero, List.getElem_cons_succ, Act.put, List.setIfInBounds_toArray, List.set_cons_zero, List.set_cons_succ]
          refine wpAnyK_oneL (i := 8) rfl (by as_aux_lemma => kernel_rfl) (fun K hK => ?_)
          have L6 : RB2 w5 we.heap.size (.int .i64 0) (.slice none 0 0) := A6.below (B := wa.heap.size) (by (repeat (first | exact Below.refl _ _ | (refine Below.setCell ?_ (by first | (simp; done) | (simp; omega) | omega) _) | (refine Below.alloc ?_ (by first | (simp; done) | (simp; omega) | omega) _) | (refine below_drewN ?_ _) | (refine Below.drew ?_) | (refine Below.trans ?_ (Below.mono hb1 (by first | (simp; done) | (simp; omega) | omega))) | (refine Below.trans ?_ (Below.mono hbe (by first | (simp; done) | (simp; omega) | omega))) | (refine Below.trans ?_ (Below.mono hba (by first | (simp; done) | (simp; omega) | omega))) | (refine Below.trans ?_ (Below.mono hb3 (by first | (simp; done) | (simp; omega) | omega))) | (refine Below.trans ?_ (Below.mono hb5 (by first | (simp; done) | (simp; omega) | omega)))))) (Nat.le_refl _)
          have L7 : RB2 w5 w1.heap.size (.int .i64 0) (.slice none 0 0) := A7.below (B := we.heap.size) (by (repeat (first | exact Below.refl _ _ | (refine Below.setCell ?_ (by first | (simp; done) | (simp; omega) | omega) _) | (refine Below.alloc ?_ (by first | (simp; done) | (simp; omega) | omega) _) | (refine below_drewN ?_ _) | (refine Below.drew ?_) | (refine Below.trans ?_ (Below.mono hb1 (by first | (simp; done) | (simp; omega) | omega))) | (refine Below.trans ?_ (Below.mono hbe (by first | (simp; done) | (simp; omega) | omega))) | (refine Below.trans ?_ (Below.mono hba (by first | (simp; done) | (simp; omega) | omega))) | (refine Below.trans ?_ (Below.mono hb3 (by first | (simp; done) | (simp; omega) | omega))) | (refine Below.trans ?_ (Below.mono hb5 (by first | (simp; done) | (simp; omega) | omega)))))) (Nat.le_refl _)
          have M3 : OwSR wa.heap.size w3.heap.size w5 (.slice o3 n c3) (subT m n (oneT m n) t) := hR3.bel2 (by (repeat (first | exact Below.refl _ _ | (refine Below.setCell ?_ (by first | (simp; done) | (simp; omega) | omega) _) | (refine Below.alloc ?_ (by first | (simp; done) | (simp; omega) | omega) _) | (refine below_drewN ?_ _) | (refine Below.drew ?_) | (refine Below.trans ?_ (Below.mono hb1 (by first | (simp; done) | (simp; omega) | omega))) | (refine Below.trans ?_ (Below.mono hbe (by first | (simp; done) | (simp; omega) | omega))) | (refine Below.trans ?_ (Below.mono hba (by first | (simp; done) | (simp; omega) | omega))) | (refine Below.trans ?_ (Below.mono hb3 (by first | (simp; done) | (simp; omega) | omega))) | (refine Below.trans ?_ (Below.mono hb5 (by first | (simp; done) | (simp; omega) | omega))))))
          have M5 : OwSR w3.heap.size w5.heap.size w5 (.slice o5 n c5) (oneT m n) := hR5.bel2 (by (repeat (first | exact Below.refl _ _ | (refine Below.setCell ?_ (by first | (simp; done) | (simp; omega) | omega) _) | (refine Below.alloc ?_ (by first | (simp; done) | (simp; omega) | omega) _) | (refine below_drewN ?_ _) | (refine Below.drew ?_) | (refine Below.trans ?_ (Below.mono hb1 (by first | (simp; done) | (simp; omega) | omega))) | (refine Below.trans ?_ (Below.mono hbe (by first | (simp; done) | (simp; omega) | omega))) | (refine Below.trans ?_ (Below.mono hba (by first | (simp; done) | (simp; omega) | omega))) | (refine Below.trans ?_ (Below.mono hb3 (by first | (simp; done) | (simp; omega) | omega))) | (refine Below.trans ?_ (Below.mono hb5 (by first | (simp; done) | (simp; omega) | omega))))))
          obtain ⟨⟨a60, a61⟩, a6f⟩ := id L6
          obtain ⟨⟨a70, a71⟩, a7f⟩ := id L7
          have a6g := a6f 0
          have a7g := a7f 0
          have a6h := a6f 1
          have a7h := a7f 1
          have hne : we.heap.size ≠ w1.heap.size := by omega
          have hne' : w1.heap.size ≠ we.heap.size := by omega
          have hb6_ : w0.heap.size ≤ we.heap.size := by omega
          have hb7_ : w0.heap.size ≤ w1.heap.size := by omega
          have y36 : we.heap.size < wa.heap.size ∨ w3.heap.size ≤ we.heap.size := by omega
          have y37 : w1.heap.size < wa.heap.size ∨ w3.heap.size ≤ w1.heap.size := by omega
          have y56 : we.heap.size < w3.heap.size ∨ w5.heap.size ≤ we.heap.size := by omega
          have y57 : w1.heap.size < w3.heap.size ∨ w5.heap.size ≤ w1.heap.size := by omega
          have y5 : w0.heap.size ≤ w3.heap.size := by omega
          go_simp
          (try go_wp2_with fail)
          refine hK.out _ _ (fun h => absurd h (by decide)) ?_
          clear hK K
          try simp only [List.getElem_toArray, List.getElem_cons_zero, List.getElem_cons_succ, Act.put, List.setIfInBounds_toArray, List.set_cons_zero, List.set_cons_succ]
          refine wpAnyK_oneL (i := 9) rfl (by as_aux_lemma => kernel_rfl) (fun K hK => ?_)
          go_simp
          (try go_wp2_with fail)
          refine hK.out _ _ (fun h => absurd h (by decide)) ?_
          clear hK K
          try simp only [List.getElem_toArray, List.getElem_cons_zero, List.getElem_cons_succ, Act.put, List.setIfInBounds_toArray, List.set_cons_zero, List.set_cons_succ]
          refine wpAnyK_done (by as_aux_lemma => kernel_rfl) ?_ _
          go_wp2_with fail
          go_meet
          exact ⟨_, _, o3, o5, c3, c5, rfl, rfl, ((L6.put _ _).put' (a := ⟨_, 0, none⟩) hne' _).put' (a := ⟨_, 1, none⟩) hne' _, ((L7.put' (a := ⟨_, 0, none⟩) hne _).put' (a := ⟨_, 1, none⟩) hne _).put _ _, hb6_, hb7_, hne, ((((M3.put y36 0 _).put y36 1 _).put y37 0 _).put y37 1 _).live y37 (by simp; omega), ((((M5.put y56 0 _).put y56 1 _).put y57 0 _).put y57 1 _).ow.mono y5, (((Below.setCell (Below.setCell (by (repeat (first | exact Below.refl _ _ | (refine Below.setCell ?_ (by first | (simp; done) | (simp; omega) | omega) _) | (refine Below.alloc ?_ (by first | (simp; done) | (simp; omega) | omega) _) | (refine below_drewN ?_ _) | (refine Below.drew ?_) | (refine Below.trans ?_ (Below.mono hb1 (by first | (simp; done) | (simp; omega) | omega))) | (refine Below.trans ?_ (Below.mono hbe (by first | (simp; done) | (simp; omega) | omega))) | (refine Below.trans ?_ (Below.mono hba (by first | (simp; done) | (simp; omega) | omega))) | (refine Below.trans ?_ (Below.mono hb3 (by first | (simp; done) | (simp; omega) | omega))) | (refine Below.trans ?_ (Below.mono hb5 (by first | (simp; done) | (simp; omega) | omega)))))) (p := ⟨_, 0, none⟩) hb6_ _) (p := ⟨_, 1, none⟩) hb6_ _).setCell (p := ⟨_, 0, none⟩) hb7_ _).setCell (p := ⟨_, 1, none⟩) hb7_ _)⟩
    · as_aux_lemma =>
      go_simp
      obtain ⟨wa, hwa⟩ : ∃ x : World, x = (w0.alloc (.cells #[.int .i64 0, .slice none 0 0] 25)).drew := ⟨_, rfl⟩
      have hba : Below (w0).heap.size (w0) wa := by rw [hwa]; exact (by (repeat (first | exact Below.refl _ _ | (refine Below.setCell ?_ (by first | (simp; done) | (simp; omega) | omega) _) | (refine Below.alloc ?_ (by first | (simp; done) | (simp; omega) | omega) _) | (refine below_drewN ?_ _) | (refine Below.drew ?_))))
      have A6 : RB2 wa w0.heap.size (.int .i64 0) (.slice none 0 0) := by rw [hwa]; exact RB2.mk1 (w0) _ _ _
      have ha6 : w0.heap.size < wa.heap.size := A6.1.lt
      have hda : Below w0.heap.size w0 wa := (by (repeat (first | exact Below.refl _ _ | (refine Below.setCell ?_ (by first | (simp; done) | (simp; omega) | omega) _) | (refine Below.alloc ?_ (by first | (simp; done) | (simp; omega) | omega) _) | (refine below_drewN ?_ _) | (refine Below.drew ?_) | (refine Below.trans ?_ (Below.mono hba (by first | (simp; done) | (simp; omega) | omega))))))
      have hsa := hda.size
      obtain ⟨fa0, fa1⟩ := X0.below hda (Nat.le_refl _)
      rw [← hwa]
      clear hwa
      clear hHeld
      have hHeld : (fun w' : World => w'.cell? ⟨w.heap.size, 0, none⟩ = some (.int .i64 m) ∧ w'.cell? ⟨w.heap.size, 1, none⟩ = some (.slice o n c)) wa := by go_keep
      refine hK.out _ _ (fun _ => hHeld) ?_
      clear hK K
      try simp only [List.getElem_toArray, List.getElem_cons_zero, List.getElem_cons_succ, Act.put, List.setIfInBounds_toArray, List.set_cons_zero, List.set_cons_succ]
      refine wpAnyK_two (i := 1) (j := 7) rfl rfl (by as_aux_lemma => kernel_rfl) (fun K hK => ?_) (fun K hK => ?_)
      · as_aux_lemma =>
        go_simp
        go_at_call 41
        refine (one_n m o n c _ h1 hn hm hm').mono ?_
        rintro e w1 ⟨v1, rfl, h1_, hb1⟩
        obtain ⟨o1, c1, rfl⟩ := h1_.shapeN (n := n) (tri_len _ _)
        have hd1 : Below w0.heap.size w0 w1 := (by (repeat (first | exact Below.refl _ _ | (refine Below.setCell ?_ (by first | (simp; done) | (simp; omega) | omega) _) | (refine Below.alloc ?_ (by first | (simp; done) | (simp; omega) | omega) _) | (refine below_drewN ?_ _) | (refine Below.drew ?_) | (refine Below.trans ?_ (Below.mono hba (by first | (simp; done) | (simp; omega) | omega))) | (refine Below.trans ?_ (Below.mono hb1 (by first | (simp; done) | (simp; omega) | omega))))))
        have hs1 := hd1.size
        have hz1 : wa.heap.size ≤ w1.heap.size := by first | exact hb1.size | (have := hb1.size; simpa using this)
        have hr1 := h1_.rd
        clear h1_
        obtain ⟨f10, f11⟩ := X0.below hd1 (Nat.le_refl _)
        go_wp2_with fail
        clear hHeld
        have hHeld : (fun w' : World => w'.cell? ⟨w.heap.size, 0, none⟩ = some (.int .i64 m) ∧ w'.cell? ⟨w.heap.size, 1, none⟩ = some (.slice o n c)) w1 := by go_keep
        refine hK.out _ _ (fun _ => hHeld) ?_
        clear hK K
        try simp only [List.getElem_toArray, List.getElem_cons_zero, List.getElem_cons_succ, Act.put, List.setIfInBounds_toArray, List.set_cons_zero, List.set_cons_succ]
        refine wpAnyK_two (i := 3) (j := 7) rfl rfl (by as_aux_lemma => kernel_rfl) (fun K hK => ?_) (fun K hK => ?_)
        · as_aux_lemma =>
          go_simp
          go_at_call 37
          refine (minusP_n m m n _ _ (oneT m n) t _ (hr1.below (B := w1.heap.size) (by (repeat (first | exact Below.refl _ _ | (refine Below.setCell ?_ (by first | (simp; done) | (simp; omega) | omega) _) | (refine Below.alloc ?_ (by first | (simp; done) | (simp; omega) | omega) _) | (refine below_drewN ?_ _) | (refine Below.drew ?_) | (refine Below.trans ?_ (Below.mono hba (by first | (simp; done) | (simp; omega) | omega))) | (refine Below.trans ?_ (Below.mono hb1 (by first | (simp; done) | (simp; omega) | omega)))))) (Nat.le_refl _)) (hu0.below (by (repeat (first | exact Below.refl _ _ | (refine Below.setCell ?_ (by first | (simp; done) | (simp; omega) | omega) _) | (refine Below.alloc ?_ (by first | (simp; done) | (simp; omega) | omega) _) | (refine below_drewN ?_ _) | (refine Below.drew ?_) | (refine Below.trans ?_ (Below.mono hba (by first | (simp; done) | (simp; omega) | omega))) | (refine Below.trans ?_ (Below.mono hb1 (by first | (simp; done) | (simp; omega) | omega)))))) (Nat.le_refl _)) h1 hn hm hm' (PlaT.one (by omega) n) HT.out).mono ?_
          rintro e w3 ⟨v3, rfl, h3_, hb3⟩
          obtain ⟨o3, c3, rfl⟩ := h3_.shapeN (n := n) (tri_len _ _)
          have hd3 : Below w0.heap.size w0 w3 := (by (repeat (first | exact Below.refl _ _ | (refine Below.setCell ?_ (by first | (simp; done) | (simp; omega) | omega) _) | (refine Below.alloc ?_ (by first | (simp; done) | (simp; omega) | omega) _) | (refine below_drewN ?_ _) | (refine Below.drew ?_) | (refine Below.trans ?_ (Below.mono hba (by first | (simp; done) | (simp; omega) | omega))) | (refine Below.trans ?_ (Below.mono hb1 (by first | (simp; done) | (simp; omega) | omega))) | (refine Below.trans ?_ (Below.mono hb3 (by first | (simp; done) | (simp; omega) | omega))))))
          have hs3 := hd3.size
          have hz3 : w1.heap.size ≤ w3.heap.size := by first | exact hb3.size | (have := hb3.size; simpa using this)
          have hR3 := h3_.toR
          clear h3_
          obtain ⟨f30, f31⟩ := X0.below hd3 (Nat.le_refl _)
          go_wp2_with fail
          clear hHeld
          have hHeld : (fun w' : World => w'.cell? ⟨w.heap.size, 0, none⟩ = some (.int .i64 m) ∧ w'.cell? ⟨w.heap.size, 1, none⟩ = some (.slice o n c)) w3 := by go_keep
          refine hK.out _ _ (fun _ => hHeld) ?_
          clear hK K
          try simp only [List.getElem_toArray, List.getElem_cons_zero, List.getElem_cons_succ, Act.put, List.setIfInBounds_toArray, List.set_cons_zero, List.set_cons_succ]
          refine wpAnyK_two (i := 5) (j := 7) rfl rfl (by as_aux_lemma => kernel_rfl) (fun K hK => ?_) (fun K hK => ?_)
          · as_aux_lemma =>
            go_simp
            go_at_call 41
            refine (one_n m o n c _ h1 hn hm hm').mono ?_
            rintro e w5 ⟨v5, rfl, h5_, hb5⟩
            obtain ⟨o5, c5, rfl⟩ := h5_.shapeN (n := n) (tri_len _ _)
            have hd5 : Below w0.heap.size w0 w5 := (by (repeat (first | exact Below.refl _ _ | (refine Below.setCell ?_ (by first | (simp; done) | (simp; omega) | omega) _) | (refine Below.alloc ?_ (by first | (simp; done) | (simp; omega) | omega) _) | (refine below_drewN ?_ _) | (refine Below.drew ?_) | (refine Below.trans ?_ (Below.mono hba (by first | (simp; done) | (simp; omega) | omega))) | (refine Below.trans ?_ (Below.mono hb1 (by first | (simp; done) | (simp; omega) | omega))) | (refine Below.trans ?_ (Below.mono hb3 (by first | (simp; done) | (simp; omega) | omega))) | (refine Below.trans ?_ (Below.mono hb5 (by first | (simp; done) | (simp; omega) | omega))))))
            have hs5 := hd5.size
            have hz5 : w3.heap.size ≤ w5.heap.size := by first | exact hb5.size | (have := hb5.size; simpa using this)
            have hR5 := h5_.toR
            clear h5_
            obtain ⟨f50, f51⟩ := X0.below hd5 (Nat.le_refl _)
            go_wp2_with fail
            clear hHeld
            have hHeld : (fun w' : World => w'.cell? ⟨w.heap.size, 0, none⟩ = some (.int .i64 m) ∧ w'.cell? ⟨w.heap.size, 1, none⟩ = some (.slice o n c)) w5 := by go_keep
            refine hK.out _ _ (fun _ => hHeld) ?_
            clear hK K
            try simp only [List.getElem_toArray, List.getElem_cons_zero, List.getElem_cons_succ, Act.put, List.setIfInBounds_toArray, List.set_cons_zero, List.set_cons_succ]
            refine wpAnyK_oneL (i := 7) rfl (by as_aux_lemma => kernel_rfl) (fun K hK => ?_)
            go_simp
            obtain ⟨we, hwe⟩ : ∃ x : World, x = (w5).alloc (.cells #[.int .i64 0, .slice none 0 0] 25) := ⟨_, rfl⟩
            have hbe : Below (w5).heap.size (w5) we := by rw [hwe]; exact (by (repeat (first | exact Below.refl _ _ | (refine Below.setCell ?_ (by first | (simp; done) | (simp; omega) | omega) _) | (refine Below.alloc ?_ (by first | (simp; done) | (simp; omega) | omega) _) | (refine below_drewN ?_ _) | (refine Below.drew ?_))))
            have A7 : RB2 we w5.heap.size (.int .i64 0) (.slice none 0 0) := by rw [hwe]; exact RB2.mk1 (w5) _ _ _
            have ha7 : w5.heap.size < we.heap.size := A7.1.lt
            have hde : Below w0.heap.size w0 we := (by (repeat (first | exact Below.refl _ _ | (refine Below.setCell ?_ (by first | (simp; done) | (simp; omega) | omega) _) | (refine Below.alloc ?_ (by first | (simp; done) | (simp; omega) | omega) _) | (refine below_drewN ?_ _) | (refine Below.drew ?_) | (refine Below.trans ?_ (Below.mono hba (by first | (simp; done) | (simp; omega) | omega))) | (refine Below.trans ?_ (Below.mono hb1 (by first | (simp; done) | (simp; omega) | omega))) | (refine Below.trans ?_ (Below.mono hb3 (by first | (simp; done) | (simp; omega) | omega))) | (refine Below.trans ?_ (Below.mono hb5 (by first | (simp; done) | (simp; omega) | omega))) | (refine Below.trans ?_ (Below.mono hbe (by first | (simp; done) | (simp; omega) | omega))))))
            have hse := hde.size
            obtain ⟨fe0, fe1⟩ := X0.below hde (Nat.le_refl _)
            rw [← hwe]
            clear hwe
            clear hHeld
            have hHeld : (fun w' : World => w'.cell? ⟨w.heap.size, 0, none⟩ = some (.int .i64 m) ∧ w'.cell? ⟨w.heap.size, 1, none⟩ = some (.slice o n c)) we := by go_keep
            refine hK.out _ _ (fun _ => hHeld) ?_
            clear hK K
            try simp only [List.getElem_toArray, List.getElem_cons_zero, List.getElem_cons_succ, Act.put, List.setIfInBounds_toArray, List.set_cons_zero, List.set_cons_succ]
            refine wpAnyK_oneL (i := 8) rfl (by as_aux_lemma => kernel_rfl) (fun K hK => ?_)
            have L6 : RB2 we w0.heap.size (.int .i64 0) (.slice none 0 0) := A6.below (B := wa.heap.size) (by (repeat (first | exact Below.refl _ _ | (refine Below.setCell ?_ (by first | (simp; done) | (simp; omega) | omega) _) | (refine Below.alloc ?_ (by first | (simp; done) | (simp; omega) | omega) _) | (refine below_drewN ?_ _) | (refine Below.drew ?_) | (refine Below.trans ?_ (Below.mono hba (by first | (simp; done) | (simp; omega) | omega))) | (refine Below.trans ?_ (Below.mono hb1 (by first | (simp; done) | (simp; omega) | omega))) | (refine Below.trans ?_ (Below.mono hb3 (by first | (simp; done) | (simp; omega) | omega))) | (refine Below.trans ?_ (Below.mono hb5 (by first | (simp; done) | (simp; omega) | omega))) | (refine Below.trans ?_ (Below.mono hbe (by first | (simp; done) | (simp; omega) | omega)))))) (Nat.le_refl _)
            have L7 : RB2 we w5.heap.size (.int .i64 0) (.slice none 0 0) := A7.below (B := we.heap.size) (by (repeat (first | exact Below.refl _ _ | (refine Below.setCell ?_ (by first | (simp; done) | (simp; omega) | omega) _) | (refine Below.alloc ?_ (by first | (simp; done) | (simp; omega) | omega) _) | (refine below_drewN ?_ _) | (refine Below.drew ?_) | (refine Below.trans ?_ (Below.mono hba (by first | (simp; done) | (simp; omega) | omega))) | (refine Below.trans ?_ (Below.mono hb1 (by first | (simp; done) | (simp; omega) | omega))) | (refine Below.trans ?_ (Below.mono hb3 (by first | (simp; done) | (simp; omega) | omega))) | (refine Below.trans ?_ (Below.mono hb5 (by first | (simp; done) | (simp; omega) | omega))) | (refine Below.trans ?_ (Below.mono hbe (by first | (simp; done) | (simp; omega) | omega)))))) (Nat.le_refl _)
            have M3 : OwSR w1.heap.size w3.heap.size we (.slice o3 n c3) (subT m n (oneT m n) t) := hR3.bel2 (by (repeat (first | exact Below.refl _ _ | (refine Below.setCell ?_ (by first | (simp; done) | (simp; omega) | omega) _) | (refine Below.alloc ?_ (by first | (simp; done) | (simp; omega) | omega) _) | (refine below_drewN ?_ _) | (refine Below.drew ?_) | (refine Below.trans ?_ (Below.mono hba (by first | (simp; done) | (simp; omega) | omega))) | (refine Below.trans ?_ (Below.mono hb1 (by first | (simp; done) | (simp; omega) | omega))) | (refine Below.trans ?_ (Below.mono hb3 (by first | (simp; done) | (simp; omega) | omega))) | (refine Below.trans ?_ (Below.mono hb5 (by first | (simp; done) | (simp; omega) | omega))) | (refine Below.trans ?_ (Below.mono hbe (by first | (simp; done) | (simp; omega) | omega))))))
            have M5 : OwSR w3.heap.size w5.heap.size we (.slice o5 n c5) (oneT m n) := hR5.bel2 (by (repeat (first | exact Below.refl _ _ | (refine Below.setCell ?_ (by first | (simp; done) | (simp; omega) | omega) _) | (refine Below.alloc ?_ (by first | (simp; done) | (simp; omega) | omega) _) | (refine below_drewN ?_ _) | (refine Below.drew ?_) | (refine Below.trans ?_ (Below.mono hba (by first | (simp; done) | (simp; omega) | omega))) | (refine Below.trans ?_ (Below.mono hb1 (by first | (simp; done) | (simp; omega) | omega))) | (refine Below.trans ?_ (Below.mono hb3 (by first | (simp; done) | (simp; omega) | omega))) | (refine Below.trans ?_ (Below.mono hb5 (by first | (simp; done) | (simp; omega) | omega))) | (refine Below.trans ?_ (Below.mono hbe (by first | (simp; done) | (simp; omega) | omega))))))
            obtain ⟨⟨a60, a61⟩, a6f⟩ := id L6
            obtain ⟨⟨a70, a71⟩, a7f⟩ := id L7
            have a6g := a6f 0
            have a7g := a7f 0
            have a6h := a6f 1
            have a7h := a7f 1
            have hne : w0.heap.size ≠ w5.heap.size := by omega
            have hne' : w5.heap.size ≠ w0.heap.size := by omega
            have hb6_ : w0.heap.size ≤ w0.heap.size := by omega
            have hb7_ : w0.heap.size ≤ w5.heap.size := by omega
            have y36 : w0.heap.size < w1.heap.size ∨ w3.heap.size ≤ w0.heap.size := by omega
            have y37 : w5.heap.size < w1.heap.size ∨ w3.heap.size ≤ w5.heap.size := by omega
            have y56 : w0.heap.size < w3.heap.size ∨ w5.heap.size ≤ w0.heap.size := by omega
            have y57 : w5.heap.size < w3.heap.size ∨ w5.heap.size ≤ w5.heap.size := by omega
            have y5 : w0.heap.size ≤ w3.heap.size := by omega
            go_simp
            (try go_wp2_with fail)
            refine hK.out _ _ (fun h => absurd h (by decide)) ?_
            clear hK K
            try simp only [List.getElem_toArray, List.getElem_cons_zero, List.getElem_cons_succ, Act.put, List.setIfInBounds_toArray, List.set_cons_zero, List.set_cons_succ]
            refine wpAnyK_oneL (i := 9) rfl (by as_aux_lemma => kernel_rfl) (fun K hK => ?_)
            go_simp
            (try go_wp2_with fail)
            refine hK.out _ _ (fun h => absurd h (by decide)) ?_
            clear hK K
            try simp only [List.getElem_toArray, List.getElem_cons_zero, List.getElem_cons_succ, Act.put, List.setIfInBounds_toArray, List.set_cons_zero, List.set_cons_succ]
            refine wpAnyK_done (by as_aux_lemma => kernel_rfl) ?_ _
            go_wp2_with fail
            go_meet
            exact ⟨_, _, o3, o5, c3, c5, rfl, rfl, ((L6.put _ _).put' (a := ⟨_, 0, none⟩) hne' _).put' (a := ⟨_, 1, none⟩) hne' _, ((L7.put' (a := ⟨_, 0, none⟩) hne _).put' (a := ⟨_, 1, none⟩) hne _).put _ _, hb6_, hb7_, hne, ((((M3.put y36 0 _).put y36 1 _).put y37 0 _).put y37 1 _).live y37 (by simp; omega), ((((M5.put y56 0 _).put y56 1 _).put y57 0 _).put y57 1 _).ow.mono y5, (((Below.setCell (Below.setCell (by (repeat (first | exact Below.refl _ _ | (refine Below.setCell ?_ (by first | (simp; done) | (simp; omega) | omega) _) | (refine Below.alloc ?_ (by first | (simp; done) | (simp; omega) | omega) _) | (refine below_drewN ?_ _) | (refine Below.drew ?_) | (refine Below.trans ?_ (Below.mono hba (by first | (simp; done) | (simp; omega) | omega))) | (refine Below.trans ?_ (Below.mono hb1 (by first | (simp; done) | (simp; omega) | omega))) | (refine Below.trans ?_ (Below.mono hb3 (by first | (simp; done) | (simp; omega) | omega))) | (refine Below.trans ?_ (Below.mono hb5 (by first | (simp; done) | (simp; omega) | omega))) | (refine Below.trans ?_ (Below.mono hbe (by first | (simp; done) | (simp; omega) | omega)))))) (p := ⟨_, 0, none⟩) hb6_ _) (p := ⟨_, 1, none⟩) hb6_ _).setCell (p := ⟨_, 0, none⟩) hb7_ _).setCell (p := ⟨_, 1, none⟩) hb7_ _)⟩
          · as_aux_lemma =>
            go_simp
            obtain ⟨we, hwe⟩ : ∃ x : World, x = (w3).alloc (.cells #[.int .i64 0, .slice none 0 0] 25) := ⟨_, rfl⟩
            have hbe : Below (w3).heap.size (w3) we := by rw [hwe]; exact (by (repeat (first | exact Below.refl _ _ | (refine Below.setCell ?_ (by first | (simp; done) | (simp; omega) | omega) _) | (refine Below.alloc ?_ (by first | (simp; done) | (simp; omega) | omega) _) | (refine below_drewN ?_ _) | (refine Below.drew ?_))))
            have A7 : RB2 we w3.heap.size (.int .i64 0) (.slice none 0 0) := by rw [hwe]; exact RB2.mk1 (w3) _ _ _
            have ha7 : w3.heap.size < we.heap.size := A7.1.lt
            have hde : Below w0.heap.size w0 we := (by (repeat (first | exact Below.refl _ _ | (refine Below.setCell ?_ (by first | (simp; done) | (simp; omega) | omega) _) | (refine Below.alloc ?_ (by first | (simp; done) | (simp; omega) | omega) _) | (refine below_drewN ?_ _) | (refine Below.drew ?_) | (refine Below.trans ?_ (Below.mono hba (by first | (simp; done) | (simp; omega) | omega))) | (refine Below.trans ?_ (Below.mono hb1 (by first | (simp; done) | (simp; omega) | omega))) | (refine Below.trans ?_ (Below.mono hb3 (by first | (simp; done) | (simp; omega) | omega))) | (refine Below.trans ?_ (Below.mono hbe (by first | (simp; done) | (simp; omega) | omega))))))
            have hse := hde.size
            obtain ⟨fe0, fe1⟩ := X0.below hde (Nat.le_refl _)
            rw [← hwe]
            clear hwe
            clear hHeld
            have hHeld : (fun w' : World => w'.cell? ⟨w.heap.size, 0, none⟩ = some (.int .i64 m) ∧ w'.cell? ⟨w.heap.size, 1, none⟩ = some (.slice o n c)) we := by go_keep
            refine hK.out _ _ (fun _ => hHeld) ?_
            clear hK K
            try simp only [List.getElem_toArray, List.getElem_cons_zero, List.getElem_cons_succ, Act.put, List.setIfInBounds_toArray, List.set_cons_zero, List.set_cons_succ]
            refine wpAnyK_oneL (i := 5) rfl (by as_aux_lemma => kernel_rfl) (fun K hK => ?_)
            go_simp
            go_at_call 41
            refine (one_n m o n c _ h1 hn hm hm').mono ?_
            rintro e w5 ⟨v5, rfl, h5_, hb5⟩
            obtain ⟨o5, c5, rfl⟩ := h5_.shapeN (n := n) (tri_len _ _)
            have hd5 : Below w0.heap.size w0 w5 := (by (repeat (first | exact Below.refl _ _ | (refine Below.setCell ?_ (by first | (simp; done) | (simp; omega) | omega) _) | (refine Below.alloc ?_ (by first | (simp; done) | (simp; omega) | omega) _) | (refine below_drewN ?_ _) | (refine Below.drew ?_) | (refine Below.trans ?_ (Below.mono hba (by first | (simp; done) | (simp; omega) | omega))) | (refine Below.trans ?_ (Below.mono hb1 (by first | (simp; done) | (simp; omega) | omega))) | (refine Below.trans ?_ (Below.mono hb3 (by first | (simp; done) | (simp; omega) | omega))) | (refine Below.trans ?_ (Below.mono hbe (by first | (simp; done) | (simp; omega) | omega))) | (refine Below.trans ?_ (Below.mono hb5 (by first | (simp; done) | (simp; omega) | omega))))))
            have hs5 := hd5.size
            have hz5 : we.heap.size ≤ w5.heap.size := by first | exact hb5.size | (have := hb5.size; simpa using this)
            have hR5 := h5_.toR
            clear h5_
            obtain ⟨f50, f51⟩ := X0.below hd5 (Nat.le_refl _)
            go_wp2_with fail
            clear hHeld
            have hHeld : (fun w' : World => w'.cell? ⟨w.heap.size, 0, none⟩ = some (.int .i64 m) ∧ w'.cell? ⟨w.heap.size, 1, none⟩ = some (.slice o n c)) w5 := by go_keep
            refine hK.out _ _ (fun _ => hHeld) ?_
            clear hK K
            try simp only [List.getElem_toArray, List.getElem_cons_zero, List.getElem_cons_succ, Act.put, List.setIfInBounds_toArray, List.set_cons_zero, List.set_cons_succ]
            refine wpAnyK_oneL (i := 8) rfl (by as_aux_lemma => kernel_rfl) (fun K hK => ?_)
            have L6 : RB2 w5 w0.heap.size (.int .i64 0) (.slice none 0 0) := A6.below (B := wa.heap.size) (by (repeat (first | exact Below.refl _ _ | (refine Below.setCell ?_ (by first | (simp; done) | (simp; omega) | omega) _) | (refine Below.alloc ?_ (by first | (simp; done) | (simp; omega) | omega) _) | (refine below_drewN ?_ _) | (refine Below.drew ?_) | (refine Below.trans ?_ (Below.mono hba (by first | (simp; done) | (simp; omega) | omega))) | (refine Below.trans ?_ (Below.mono hb1 (by first | (simp; done) | (simp; omega) | omega))) | (refine Below.trans ?_ (Below.mono hb3 (by first | (simp; done) | (simp; omega) | omega))) | (refine Below.trans ?_ (Below.mono hbe (by first | (simp; done) | (simp; omega) | omega))) | (refine Below.trans ?_ (Below.mono hb5 (by first | (simp; done) | (simp; omega) | omega)))))) (Nat.le_refl _)
            have L7 : RB2 w5 w3.heap.size (.int .i64 0) (.slice none 0 0) := A7.below (B := we.heap.size) (by (repeat (first | exact Below.refl _ _ | (refine Below.setCell ?_ (by first | (simp; done) | (simp; omega) | omega) _) | (refine Below.alloc ?_ (by first | (simp; done) | (simp; omega) | omega) _) | (refine below_drewN ?_ _) | (refine Below.drew ?_) | (refine Below.trans ?_ (Below.mono hba (by first | (simp; done) | (simp; omega) | omega))) | (refine Below.trans ?_ (Below.mono hb1 (by first | (simp; done) | (simp; omega) | omega))) | (refine Below.trans ?_ (Below.mono hb3 (by first | (simp; done) | (simp; omega) | omega))) | (refine Below.trans ?_ (Below.mono hbe (by first | (simp; done) | (simp; omega) | omega))) | (refine Below.trans ?_ (Below.mono hb5 (by first | (simp; done) | (simp; omega) | omega)))))) (Nat.le_refl _)
            have M3 : OwSR w1.heap.size w3.heap.size w5 (.slice o3 n c3) (subT m n (oneT m n) t) := hR3.bel2 (by (repeat (first | exact Below.refl _ _ | (refine Below.setCell ?_ (by first | (simp; done) | (simp; omega) | omega) _) | (refine Below.alloc ?_ (by first | (simp; done) | (simp; omega) | omega) _) | (refine below_drewN ?_ _) | (refine Below.drew ?_) | (refine Below.trans ?_ (Below.mono hba (by first | (simp; done) | (simp; omega) | omega))) | (refine Below.trans ?_ (Below.mono hb1 (by first | (simp; done) | (simp; omega) | omega))) | (refine Below.trans ?_ (Below.mono hb3 (by first | (simp; done) | (simp; omega) | omega))) | (refine Below.trans ?_ (Below.mono hbe (by first | (simp; done) | (simp; omega) | omega))) | (refine Below.trans ?_ (Below.mono hb5 (by first | (simp; done) | (simp; omega) | omega))))))
            have M5 : OwSR we.heap.size w5.heap.size w5 (.slice o5 n c5) (oneT m n) := hR5.bel2 (by (repeat (first | exact Below.refl _ _ | (refine Below.setCell ?_ (by first | (simp; done) | (simp; omega) | omega) _) | (refine Below.alloc ?_ (by first | (simp; done) | (simp; omega) | omega) _) | (refine below_drewN ?_ _) | (refine Below.drew ?_) | (refine Below.trans ?_ (Below.mono hba (by first | (simp; done) | (simp; omega) | omega))) | (refine Below.trans ?_ (Below.mono hb1 (by first | (simp; done) | (simp; omega) | omega))) | (refine Below.trans ?_ (Below.mono hb3 (by first | (simp; done) | (simp; omega) | omega))) | (refine Below.trans ?_ (Below.mono hbe (by first | (simp; done) | (simp; omega) | omega))) | (refine Below.trans ?_ (Below.mono hb5 (by first | (simp; done) | (simp; omega) | omega))))))
            obtain ⟨⟨a60, a61⟩, a6f⟩ := id L6
            obtain ⟨⟨a70, a71⟩, a7f⟩ := id L7
            have a6g := a6f 0
            have a7g := a7f 0
            have a6h := a6f 1
            have a7h := a7f 1
            have hne : w0.heap.size ≠ w3.heap.size := by omega
            have hne' : w3.heap.size ≠ w0.heap.size := by omega
            have hb6_ : w0.heap.size ≤ w0.heap.size := by omega
            have hb7_ : w0.heap.size ≤ w3.heap.size := by omega
            have y36 : w0.heap.size < w1.heap.size ∨ w3.heap.size ≤ w0.heap.size := by omega
            have y37 : w3.heap.size < w1.heap.size ∨ w3.heap.size ≤ w3.heap.size := by omega
            have y56 : w0.heap.size < we.heap.size ∨ w5.heap.size ≤ w0.heap.size := by omega
            have y57 : w3.heap.size < we.heap.size ∨ w5.heap.size ≤ w3.heap.size := by omega
            have y5 : w0.heap.size ≤ we.heap.size := by omega
            go_simp
            (try go_wp2_with fail)
            refine hK.out _ _ (fun h => absurd h (by decide)) ?_
            clear hK K
            try simp only [List.getElem_toArray, List.getElem_cons_zero, List.getElem_cons_succ, Act.put, List.setIfInBounds_toArray, List.set_cons_zero, List.set_cons_succ]
            refine wpAnyK_oneL (i := 9) rfl (by as_aux_lemma => kernel_rfl) (fun K hK => ?_)
            go_simp
            (try go_wp2_with fail)
            refine hK.out _ _ (fun h => absurd h (by decide)) ?_
            clear hK K
            try simp only [List.getElem_toArray, List.getElem_cons_zero, List.getElem_cons_succ, Act.put, List.setIfInBounds_toArray, List.set_cons_zero, List.set_cons_succ]
            refine wpAnyK_done (by as_aux_lemma => kernel_rfl) ?_ _
            go_wp2_with fail
            go_meet
            exact ⟨_, _, o3, o5, c3, c5, rfl, rfl, ((L6.put _ _).put' (a := ⟨_, 0, none⟩) hne' _).put' (a := ⟨_, 1, none⟩) hne' _, ((L7.put' (a := ⟨_, 0, none⟩) hne _).put' (a := ⟨_, 1, none⟩) hne _).put _ _, hb6_, hb7_, hne, ((((M3.put y36 0 _).put y36 1 _).put y37 0 _).put y37 1 _).live y37 (by simp; omega), ((((M5.put y56 0 _).put y56 1 _).put y57 0 _).put y57 1 _).ow.mono y5, (((Below.setCell (Below.setCell (by (repeat (first | exact Below.refl _ _ | (refine Below.setCell ?_ (by first | (simp; done) | (simp; omega) | omega) _) | (refine Below.alloc ?_ (by first | (simp; done) | (simp; omega) | omega) _) | (refine below_drewN ?_ _) | (refine Below.drew ?_) | (refine Below.trans ?_ (Below.mono hba (by first | (simp; done) | (simp; omega) | omega))) | (refine Below.trans ?_ (Below.mono hb1 (by first | (simp; done) | (simp; omega) | omega))) | (refine Below.trans ?_ (Below.mono hb3 (by first | (simp; done) | (simp; omega) | omega))) | (refine Below.trans ?_ (Below.mono hbe (by first | (simp; done) | (simp; omega) | omega))) | (refine Below.trans ?_ (Below.mono hb5 (by first | (simp; done) | (simp; omega) | omega)))))) (p := ⟨_, 0, none⟩) hb6_ _) (p := ⟨_, 1, none⟩) hb6_ _).setCell (p := ⟨_, 0, none⟩) hb7_ _).setCell (p := ⟨_, 1, none⟩) hb7_ _)⟩
        · as_aux_lemma =>
          go_simp
          obtain ⟨we, hwe⟩ : ∃ x : World, x = (w1).alloc (.cells #[.int .i64 0, .slice none 0 0] 25) := ⟨_, rfl⟩
          have hbe : Below (w1).heap.size (w1) we := by rw [hwe]; exact (by (repeat (first | exact Below.refl _ _ | (refine Below.setCell ?_ (by first | (simp; done) | (simp; omega) | omega) _) | (refine Below.alloc ?_ (by first | (simp; done) | (simp; omega) | omega) _) | (refine below_drewN ?_ _) | (refine Below.drew ?_))))
          have A7 : RB2 we w1.heap.size (.int .i64 0) (.slice none 0 0) := by rw [hwe]; exact RB2.mk1 (w1) _ _ _
          have ha7 : w1.heap.size < we.heap.size := A7.1.lt
          have hde : Below w0.heap.size w0 we := (by (repeat (first | exact Below.refl _ _ | (refine Below.setCell ?_ (by first | (simp; done) | (simp; omega) | omega) _) | (refine Below.alloc ?_ (by first | (simp; done) | (simp; omega) | omega) _) | (refine below_drewN ?_ _) | (refine Below.drew ?_) | (refine Below.trans ?_ (Below.mono hba (by first | (simp; done) | (simp; omega) | omega))) | (refine Below.trans ?_ (Below.mono hb1 (by first | (simp; done) | (simp; omega) | omega))) | (refine Below.trans ?_ (Below.mono hbe (by first | (simp; done) | (simp; omega) | omega))))))
          have hse := hde.size
          obtain ⟨fe0, fe1⟩ := X0.below hde (Nat.le_refl _)
          rw [← hwe]
          clear hwe
          clear hHeld
          have hHeld : (fun w' : World => w'.cell? ⟨w.heap.size, 0, none⟩ = some (.int .i64 m) ∧ w'.cell? ⟨w.heap.size, 1, none⟩ = some (.slice o n c)) we := by go_keep
          refine hK.out _ _ (fun _ => hHeld) ?_
          clear hK K
          try simp only [List.getElem_toArray, List.getElem_cons_zero, List.getElem_cons_succ, Act.put, List.setIfInBounds_toArray, List.set_cons_zero, List.set_cons_succ]
          refine wpAnyK_oneL (i := 3) rfl (by as_aux_lemma => kernel_rfl) (fun K hK => ?_)
          go_simp
          go_at_call 37
          refine (minusP_n m m n _ _ (oneT m n) t _ (hr1.below (B := w1.heap.size) (by (repeat (first | exact Below.refl _ _ | (refine Below.setCell ?_ (by first | (simp; done) | (simp; omega) | omega) _) | (refine Below.alloc ?_ (by first | (simp; done) | (simp; omega) | omega) _) | (refine below_drewN ?_ _) | (refine Below.drew ?_) | (refine Below.trans ?_ (Below.mono hba (by first | (simp; done) | (simp; omega) | omega))) | (refine Below.trans ?_ (Below.mono hb1 (by first | (simp; done) | (simp; omega) | omega))) | (refine Below.trans ?_ (Below.mono hbe (by first | (simp; done) | (simp; omega) | omega)))))) (Nat.le_refl _)) (hu0.below (by (repeat (first | exact Below.refl _ _ | (refine Below.setCell ?_ (by first | (simp; done) | (simp; omega) | omega) _) | (refine Below.alloc ?_ (by first | (simp; done) | (simp; omega) | omega) _) | (refine below_drewN ?_ _) | (refine Below.drew ?_) | (refine Below.trans ?_ (Below.mono hba (by first | (simp; done) | (simp; omega) | omega))) | (refine Below.trans ?_ (Below.mono hb1 (by first | (simp; done) | (simp; omega) | omega))) | (refine Below.trans ?_ (Below.mono hbe (by first | (simp; done) | (simp; omega) | omega)))))) (Nat.le_refl _)) h1 hn hm hm' (PlaT.one (by omega) n) HT.out).mono ?_
          rintro e w3 ⟨v3, rfl, h3_, hb3⟩
          obtain ⟨o3, c3, rfl⟩ := h3_.shapeN (n := n) (tri_len _ _)
          have hd3 : Below w0.heap.size w0 w3 := (by (repeat (first | exact Below.refl _ _ | (refine Below.setCell ?_ (by first | (simp; done) | (simp; omega) | omega) _) | (refine Below.alloc ?_ (by first | (simp; done) | (simp; omega) | omega) _) | (refine below_drewN ?_ _) | (refine Below.drew ?_) | (refine Below.trans ?_ (Below.mono hba (by first | (simp; done) | (simp; omega) | omega))) | (refine Below.trans ?_ (Below.mono hb1 (by first | (simp; done) | (simp; omega) | omega))) | (refine Below.trans ?_ (Below.mono hbe (by first | (simp; done) | (simp; omega) | omega))) | (refine Below.trans ?_ (Below.mono hb3 (by first | (simp; done) | (simp; omega) | omega))))))
          have hs3 := hd3.size
          have hz3 : we.heap.size ≤ w3.heap.size := by first | exact hb3.size | (have := hb3.size; simpa using this)
          have hR3 := h3_.toR
          clear h3_
          obtain ⟨f30, f31⟩ := X0.below hd3 (Nat.le_refl _)
          go_wp2_with fail
          clear hHeld
          have hHeld : (fun w' : World => w'.cell? ⟨w.heap.size, 0, none⟩ = some (.int .i64 m) ∧ w'.cell? ⟨w.heap.size, 1, none⟩ = some (.slice o n c)) w3 := by go_keep
          refine hK.out _ _ (fun _ => hHeld) ?_
          clear hK K
          try simp only [List.getElem_toArray, List.getElem_cons_zero, List.getElem_cons_succ, Act.put, List.setIfInBounds_toArray, List.set_cons_zero, List.set_cons_succ]
          refine wpAnyK_oneL (i := 5) rfl (by as_aux_lemma => kernel_rfl) (fun K hK => ?_)
          go_simp
          go_at_call 41
          refine (one_n m o n c _ h1 hn hm hm').mono ?_
          rintro e w5 ⟨v5, rfl, h5_, hb5⟩
          obtain ⟨o5, c5, rfl⟩ := h5_.shapeN (n := n) (tri_len _ _)
          have hd5 : Below w0.heap.size w0 w5 := (by (repeat (first | exact Below.refl _ _ | (refine Below.setCell ?_ (by first | (simp; done) | (simp; omega) | omega) _) | (refine Below.alloc ?_ (by first | (simp; done) | (simp; omega) | omega) _) | (refine below_drewN ?_ _) | (refine Below.drew ?_) | (refine Below.trans ?_ (Below.mono hba (by first | (simp; done) | (simp; omega) | omega))) | (refine Below.trans ?_ (Below.mono hb1 (by first | (simp; done) | (simp; omega) | omega))) | (refine Below.trans ?_ (Below.mono hbe (by first | (simp; done) | (simp; omega) | omega))) | (refine Below.trans ?_ (Below.mono hb3 (by first | (simp; done) | (simp; omega) | omega))) | (refine Below.trans ?_ (Below.mono hb5 (by first | (simp; done) | (simp; omega) | omega))))))
          have hs5 := hd5.size
          have hz5 : w3.heap.size ≤ w5.heap.size := by first | exact hb5.size | (have := hb5.size; simpa using this)
          have hR5 := h5_.toR
          clear h5_
          obtain ⟨f50, f51⟩ := X0.below hd5 (Nat.le_refl _)
          go_wp2_with fail
          clear hHeld
          have hHeld : (fun w' : World => w'.cell? ⟨w.heap.size, 0, none⟩ = some (.int .i64 m) ∧ w'.cell? ⟨w.heap.size, 1, none⟩ = some (.slice o n c)) w5 := by go_keep
          refine hK.out _ _ (fun _ => hHeld) ?_
          clear hK K
          try simp only [List.getElem_toArray, List.getElem_cons_zero, List.getElem_cons_succ, Act.put, List.setIfInBounds_toArray, List.set_cons_zero, List.set_cons_succ]
          refine wpAnyK_oneL (i := 8) rfl (by as_aux_lemma => kernel_rfl) (fun K hK => ?_)
          have L6 : RB2 w5 w0.heap.size (.int .i64 0) (.slice none 0 0) := A6.below (B := wa.heap.size) (by (repeat (first | exact Below.refl _ _ | (refine Below.setCell ?_ (by first | (simp; done) | (simp; omega) | omega) _) | (refine Below.alloc ?_ (by first | (simp; done) | (simp; omega) | omega) _) | (refine below_drewN ?_ _) | (refine Below.drew ?_) | (refine Below.trans ?_ (Below.mono hba (by first | (simp; done) | (simp; omega) | omega))) | (refine Below.trans ?_ (Below.mono hb1 (by first | (simp; done) | (simp; omega) | omega))) | (refine Below.trans ?_ (Below.mono hbe (by first | (simp; done) | (simp; omega) | omega))) | (refine Below.trans ?_ (Below.mono hb3 (by first | (simp; done) | (simp; omega) | omega))) | (refine Below.trans ?_ (Below.mono hb5 (by first | (simp; done) | (simp; omega) | omega)))))) (Nat.le_refl _)
          have L7 : RB2 w5 w1.heap.size (.int .i64 0) (.slice none 0 0) := A7.below (B := we.heap.size) (by (repeat (first | exact Below.refl _ _ | (refine Below.setCell ?_ (by first | (simp; done) | (simp; omega) | omega) _) | (refine Below.alloc ?_ (by first | (simp; done) | (simp; omega) | omega) _) | (refine below_drewN ?_ _) | (refine Below.drew ?_) | (refine Below.trans ?_ (Below.mono hba (by first | (simp; done) | (simp; omega) | omega))) | (refine Below.trans ?_ (Below.mono hb1 (by first | (simp; done) | (simp; omega) | omega))) | (refine Below.trans ?_ (Below.mono hbe (by first | (simp; done) | (simp; omega) | omega))) | (refine Below.trans ?_ (Below.mono hb3 (by first | (simp; done) | (simp; omega) | omega))) | (refine Below.trans ?_ (Below.mono hb5 (by first | (simp; done) | (simp; omega) | omega)))))) (Nat.le_refl _)
          have M3 : OwSR we.heap.size w3.heap.size w5 (.slice o3 n c3) (subT m n (oneT m n) t) := hR3.bel2 (by (repeat (first | exact Below.refl _ _ | (refine Below.setCell ?_ (by first | (simp; done) | (simp; omega) | omega) _) | (refine Below.alloc ?_ (by first | (simp; done) | (simp; omega) | omega) _) | (refine below_drewN ?_ _) | (refine Below.drew ?_) | (refine Below.trans ?_ (Below.mono hba (by first | (simp; done) | (simp; omega) | omega))) | (refine Below.trans ?_ (Below.mono hb1 (by first | (simp; done) | (simp; omega) | omega))) | (refine Below.trans ?_ (Below.mono hbe (by first | (simp; done) | (simp; omega) | omega))) | (refine Below.trans ?_ (Below.mono hb3 (by first | (simp; done) | (simp; omega) | omega))) | (refine Below.trans ?_ (Below.mono hb5 (by first | (simp; done) | (simp; omega) | omega))))))
          have M5 : OwSR w3.heap.size w5.heap.size w5 (.slice o5 n c5) (oneT m n) := hR5.bel2 (by (repeat (first | exact Below.refl _ _ | (refine Below.setCell ?_ (by first | (simp; done) | (simp; omega) | omega) _) | (refine Below.alloc ?_ (by first | (simp; done) | (simp; omega) | omega) _) | (refine below_drewN ?_ _) | (refine Below.drew ?_) | (refine Below.trans ?_ (Below.mono hba (by first | (simp; done) | (simp; omega) | omega))) | (refine Below.trans ?_ (Below.mono hb1 (by first | (simp; done) | (simp; omega) | omega))) | (refine Below.trans ?_ (Below.mono hbe (by first | (simp; done) | (simp; omega) | omega))) | (refine Below.trans ?_ (Below.mono hb3 (by first | (simp; done) | (simp; omega) | omega))) | (refine Below.trans ?_ (Below.mono hb5 (by first | (simp; done) | (simp; omega) | omega))))))
          obtain ⟨⟨a60, a61⟩, a6f⟩ := id L6
          obtain ⟨⟨a70, a71⟩, a7f⟩ := id L7
          have a6g := a6f 0
          have a7g := a7f 0
          have a6h := a6f 1
          have a7h := a7f 1
          have hne : w0.heap.size ≠ w1.heap.size := by omega
          have hne' : w1.heap.size ≠ w0.heap.size := by omega
          have hb6_ : w0.heap.size ≤ w0.heap.size := by omega
          have hb7_ : w0.heap.size ≤ w1.heap.size := by omega
          have y36 : w0.heap.size < we.heap.size ∨ w3.heap.size ≤ w0.heap.size := by omega
          have y37 : w1.heap.size < we.heap.size ∨ w3.heap.size ≤ w1.heap.size := by omega
          have y56 : w0.heap.size < w3.heap.size ∨ w5.heap.size ≤ w0.heap.size := by omega
          have y57 : w1.heap.size < w3.heap.size ∨ w5.heap.size ≤ w1.heap.size := by omega
          have y5 : w0.heap.size ≤ w3.heap.size := by omega
          go_simp
          (try go_wp2_with fail)
          refine hK.out _ _ (fun h => absurd h (by decide)) ?_
          clear hK K
          try simp only [List.getElem_toArray, List.getElem_cons_zero, List.getElem_cons_succ, Act.put, List.setIfInBounds_toArray, List.set_cons_zero, List.set_cons_succ]
          refine wpAnyK_oneL (i := 9) rfl (by as_aux_lemma => kernel_rfl) (fun K hK => ?_)
          go_simp
          (try go_wp2_with fail)
          refine hK.out _ _ (fun h => absurd h (by decide)) ?_
          clear hK K
          try simp only [List.getElem_toArray, List.getElem_cons_zero, List.getElem_cons_succ, Act.put, List.setIfInBounds_toArray, List.set_cons_zero, List.set_cons_succ]
          refine wpAnyK_done (by as_aux_lemma => kernel_rfl) ?_ _
          go_wp2_with fail
          go_meet
          exact ⟨_, _, o3, o5, c3, c5, rfl, rfl, ((L6.put _ _).put' (a := ⟨_, 0, none⟩) hne' _).put' (a := ⟨_, 1, none⟩) hne' _, ((L7.put' (a := ⟨_, 0, none⟩) hne _).put' (a := ⟨_, 1, none⟩) hne _).put _ _, hb6_, hb7_, hne, ((((M3.put y36 0 _).put y36 1 _).put y37 0 _).put y37 1 _).live y37 (by simp; omega), ((((M5.put y56 0 _).put y56 1 _).put y57 0 _).put y57 1 _).ow.mono y5, (((Below.setCell (Below.setCell (by (repeat (first | exact Below.refl _ _ | (refine Below.setCell ?_ (by first | (simp; done) | (simp; omega) | omega) _) | (refine Below.alloc ?_ (by first | (simp; done) | (simp; omega) | omega) _) | (refine below_drewN ?_ _) | (refine Below.drew ?_) | (refine Below.trans ?_ (Below.mono hba (by first | (simp; done) | (simp; omega) | omega))) | (refine Below.trans ?_ (Below.mono hb1 (by first | (simp; done) | (simp; omega) | omega))) | (refine Below.trans ?_ (Below.mono hbe (by first | (simp; done) | (simp; omega) | omega))) | (refine Below.trans ?_ (Below.mono hb3 (by first | (simp; done) | (simp; omega) | omega))) | (refine Below.trans ?_ (Below.mono hb5 (by first | (simp; done) | (simp; omega) | omega)))))) (p := ⟨_, 0, none⟩) hb6_ _) (p := ⟨_, 1, none⟩) hb6_ _).setCell (p := ⟨_, 0, none⟩) hb7_ _).setCell (p := ⟨_, 1, none⟩) hb7_ _)⟩
      · as_aux_lemma =>
        go_simp
        obtain ⟨we, hwe⟩ : ∃ x : World, x = (wa).alloc (.cells #[.int .i64 0, .slice none 0 0] 25) := ⟨_, rfl⟩
        have hbe : Below (wa).heap.size (wa) we := by rw [hwe]; exact (by (repeat (first | exact Below.refl _ _ | (refine Below.setCell ?_ (by first | (simp; done) | (simp; omega) | omega) _) | (refine Below.alloc ?_ (by first | (simp; done) | (simp; omega) | omega) _) | (refine below_drewN ?_ _) | (refine Below.drew ?_))))
        have A7 : RB2 we wa.heap.size (.int .i64 0) (.slice none 0 0) := by rw [hwe]; exact RB2.mk1 (wa) _ _ _
        have ha7 : wa.heap.size < we.heap.size := A7.1.lt
        have hde : Below w0.heap.size w0 we := (by (repeat (first | exact Below.refl _ _ | (refine Below.setCell ?_ (by first | (simp; done) | (simp; omega) | omega) _) | (refine Below.alloc ?_ (by first | (simp; done) | (simp; omega) | omega) _) | (refine below_drewN ?_ _) | (refine Below.drew ?_) | (refine Below.trans ?_ (Below.mono hba (by first | (simp; done) | (simp; omega) | omega))) | (refine Below.trans ?_ (Below.mono hbe (by first | (simp; done) | (simp; omega) | omega))))))
        have hse := hde.size
        obtain ⟨fe0, fe1⟩ := X0.below hde (Nat.le_refl _)
        rw [← hwe]
        clear hwe
        clear hHeld
        have hHeld : (fun w' : World => w'.cell? ⟨w.heap.size, 0, none⟩ = some (.int .i64 m) ∧ w'.cell? ⟨w.heap.size, 1, none⟩ = some (.slice o n c)) we := by go_keep
        refine hK.out _ _ (fun _ => hHeld) ?_
        clear hK K
        try simp only [List.getElem_toArray, List.getElem_cons_zero, List.getElem_cons_succ, Act.put, List.setIfInBounds_toArray, List.set_cons_zero, List.set_cons_succ]
        refine wpAnyK_oneL (i := 1) rfl (by as_aux_lemma => kernel_rfl) (fun K hK => ?_)
        go_simp
        go_at_call 41
        refine (one_n m o n c _ h1 hn hm hm').mono ?_
        rintro e w1 ⟨v1, rfl, h1_, hb1⟩
        obtain ⟨o1, c1, rfl⟩ := h1_.shapeN (n := n) (tri_len _ _)
        have hd1 : Below w0.heap.size w0 w1 := (by (repeat (first | exact Below.refl _ _ | (refine Below.setCell ?_ (by first | (simp; done) | (simp; omega) | omega) _) | (refine Below.alloc ?_ (by first | (simp; done) | (simp; omega) | omega) _) | (refine below_drewN ?_ _) | (refine Below.drew ?_) | (refine Below.trans ?_ (Below.mono hba (by first | (simp; done) | (simp; omega) | omega))) | (refine Below.trans ?_ (Below.mono hbe (by first | (simp; done) | (simp; omega) | omega))) | (refine Below.trans ?_ (Below.mono hb1 (by first | (simp; done) | (simp; omega) | omega))))))
        have hs1 := hd1.size
        have hz1 : we.heap.size ≤ w1.heap.size := by first | exact hb1.size | (have := hb1.size; simpa using this)
        have hr1 := h1_.rd
        clear h1_
        obtain ⟨f10, f11⟩ := X0.below hd1 (Nat.le_refl _)
        go_wp2_with fail
        clear hHeld
        have hHeld : (fun w' : World => w'.cell? ⟨w.heap.size, 0, none⟩ = some (.int .i64 m) ∧ w'.cell? ⟨w.heap.size, 1, none⟩ = some (.slice o n c)) w1 := by go_keep
        refine hK.out _ _ (fun _ => hHeld) ?_
        clear hK K
        try simp only [List.getElem_toArray, List.getElem_cons_zero, List.getElem_cons_succ, Act.put, List.setIfInBounds_toArray, List.set_cons_zero, List.set_cons_succ]
        refine wpAnyK_oneL (i := 3) rfl (by as_aux_lemma => kernel_rfl) (fun K hK => ?_)
        go_simp
        go_at_call 37
        refine (minusP_n m m n _ _ (oneT m n) t _ (hr1.below (B := w1.heap.size) (by (repeat (first | exact Below.refl _ _ | (refine Below.setCell ?_ (by first | (simp; done) | (simp; omega) | omega) _) | (refine Below.alloc ?_ (by first | (simp; done) | (simp; omega) | omega) _) | (refine below_drewN ?_ _) | (refine Below.drew ?_) | (refine Below.trans ?_ (Below.mono hba (by first | (simp; done) | (simp; omega) | omega))) | (refine Below.trans ?_ (Below.mono hbe (by first | (simp; done) | (simp; omega) | omega))) | (refine Below.trans ?_ (Below.mono hb1 (by first | (simp; done) | (simp; omega) | omega)))))) (Nat.le_refl _)) (hu0.below (by (repeat (first | exact Below.refl _ _ | (refine Below.setCell ?_ (by first | (simp; done) | (simp; omega) | omega) _) | (refine Below.alloc ?_ (by first | (simp; done) | (simp; omega) | omega) _) | (refine below_drewN ?_ _) | (refine Below.drew ?_) | (refine Below.trans ?_ (Below.mono hba (by first | (simp; done) | (simp; omega) | omega))) | (refine Below.trans ?_ (Below.mono hbe (by first | (simp; done) | (simp; omega) | omega))) | (refine Below.trans ?_ (Below.mono hb1 (by first | (simp; done) | (simp; omega) | omega)))))) (Nat.le_refl _)) h1 hn hm hm' (PlaT.one (by omega) n) HT.out).mono ?_
        rintro e w3 ⟨v3, rfl, h3_, hb3⟩
        obtain ⟨o3, c3, rfl⟩ := h3_.shapeN (n := n) (tri_len _ _)
        have hd3 : Below w0.heap.size w0 w3 := (by (repeat (first | exact Below.refl _ _ | (refine Below.setCell ?_ (by first | (simp; done) | (simp; omega) | omega) _) | (refine Below.alloc ?_ (by first | (simp; done) | (simp; omega) | omega) _) | (refine below_drewN ?_ _) | (refine Below.drew ?_) | (refine Below.trans ?_ (Below.mono hba (by first | (simp; done) | (simp; omega) | omega))) | (refine Below.trans ?_ (Below.mono hbe (by first | (simp; done) | (simp; omega) | omega))) | (refine Below.trans ?_ (Below.mono hb1 (by first | (simp; done) | (simp; omega) | omega))) | (refine Below.trans ?_ (Below.mono hb3 (by first | (simp; done) | (simp; omega) | omega))))))
        have hs3 := hd3.size
        have hz3 : w1.heap.size ≤ w3.heap.size := by first | exact hb3.size | (have := hb3.size; simpa using this)
        have hR3 := h3_.toR
        clear h3_
        obtain ⟨f30, f31⟩ := X0.below hd3 (Nat.le_refl _)
        go_wp2_with fail
        clear hHeld
        have hHeld : (fun w' : World => w'.cell? ⟨w.heap.size, 0, none⟩ = some (.int .i64 m) ∧ w'.cell? ⟨w.heap.size, 1, none⟩ = some (.slice o n c)) w3 := by go_keep
        refine hK.out _ _ (fun _ => hHeld) ?_
        clear hK K
        try simp only [List.getElem_toArray, List.getElem_cons_zero, List.getElem_cons_succ, Act.put, List.setIfInBounds_toArray, List.set_cons_zero, List.set_cons_succ]
        refine wpAnyK_oneL (i := 5) rfl (by as_aux_lemma => kernel_rfl) (fun K hK => ?_)
        go_simp
        go_at_call 41
        refine (one_n m o n c _ h1 hn hm hm').mono ?_
        rintro e w5 ⟨v5, rfl, h5_, hb5⟩
        obtain ⟨o5, c5, rfl⟩ := h5_.shapeN (n := n) (tri_len _ _)
        have hd5 : Below w0.heap.size w0 w5 := (by (repeat (first | exact Below.refl _ _ | (refine Below.setCell ?_ (by first | (simp; done) | (simp; omega) | omega) _) | (refine Below.alloc ?_ (by first | (simp; done) | (simp; omega) | omega) _) | (refine below_drewN ?_ _) | (refine Below.drew ?_) | (refine Below.trans ?_ (Below.mono hba (by first | (simp; done) | (simp; omega) | omega))) | (refine Below.trans ?_ (Below.mono hbe (by first | (simp; done) | (simp; omega) | omega))) | (refine Below.trans ?_ (Below.mono hb1 (by first | (simp; done) | (simp; omega) | omega))) | (refine Below.trans ?_ (Below.mono hb3 (by first | (simp; done) | (simp; omega) | omega))) | (refine Below.trans ?_ (Below.mono hb5 (by first | (simp; done) | (simp; omega) | omega))))))
        have hs5 := hd5.size
        have hz5 : w3.heap.size ≤ w5.heap.size := by first | exact hb5.size | (have := hb5.size; simpa using this)
        have hR5 := h5_.toR
        clear h5_
        obtain ⟨f50, f51⟩ := X0.below hd5 (Nat.le_refl _)
        go_wp2_with fail
        clear hHeld
        have hHeld : (fun w' : World => w'.cell? ⟨w.heap.size, 0, none⟩ = some (.int .i64 m) ∧ w'.cell? ⟨w.heap.size, 1, none⟩ = some (.slice o n c)) w5 := by go_keep
        refine hK.out _ _ (fun _ => hHeld) ?_
        clear hK K
        try simp only [List.getElem_toArray, List.getElem_cons_zero, List.getElem_cons_succ, Act.put, List.setIfInBounds_toArray, List.set_cons_zero, List.set_cons_succ]
        refine wpAnyK_oneL (i := 8) rfl (by as_aux_lemma => kernel_rfl) (fun K hK => ?_)
        have L6 : RB2 w5 w0.heap.size (.int .i64 0) (.slice none 0 0) := A6.below (B := wa.heap.size) (by (repeat (first | exact Below.refl _ _ | (refine Below.setCell ?_ (by first | (simp; done) | (simp; omega) | omega) _) | (refine Below.alloc ?_ (by first | (simp; done) | (simp; omega) | omega) _) | (refine below_drewN ?_ _) | (refine Below.drew ?_) | (refine Below.trans ?_ (Below.mono hba (by first | (simp; done) | (simp; omega) | omega))) | (refine Below.trans ?_ (Below.mono hbe (by first | (simp; done) | (simp; omega) | omega))) | (refine Below.trans ?_ (Below.mono hb1 (by first | (simp; done) | (simp; omega) | omega))) | (refine Below.trans ?_ (Below.mono hb3 (by first | (simp; done) | (simp; omega) | omega))) | (refine Below.trans ?_ (Below.mono hb5 (by first | (simp; done) | (simp; omega) | omega)))))) (Nat.le_refl _)
        have L7 : RB2 w5 wa.heap.size (.int .i64 0) (.slice none 0 0) := A7.below (B := we.heap.size) (by (repeat (first | exact Below.refl _ _ | (refine Below.setCell ?_ (by first | (simp; done) | (simp; omega) | omega) _) | (refine Below.alloc ?_ (by first | (simp; done) | (simp; omega) | omega) _) | (refine below_drewN ?_ _) | (refine Below.drew ?_) | (refine Below.trans ?_ (Below.mono hba (by first | (simp; done) | (simp; omega) | omega))) | (refine Below.trans ?_ (Below.mono hbe (by first | (simp; done) | (simp; omega) | omega))) | (refine Below.trans ?_ (Below.mono hb1 (by first | (simp; done) | (simp; omega) | omega))) | (refine Below.trans ?_ (Below.mono hb3 (by first | (simp; done) | (simp; omega) | omega))) | (refine Below.trans ?_ (Below.mono hb5 (by first | (simp; done) | (simp; omega) | omega)))))) (Nat.le_refl _)
        have M3 : OwSR w1.heap.size w3.heap.size w5 (.slice o3 n c3) (subT m n (oneT m n) t) := hR3.bel2 (by (repeat (first | exact Below.refl _ _ | (refine Below.setCell ?_ (by first | (simp; done) | (simp; omega) | omega) _) | (refine Below.alloc ?_ (by first | (simp; done) | (simp; omega) | omega) _) | (refine below_drewN ?_ _) | (refine Below.drew ?_) | (refine Below.trans ?_ (Below.mono hba (by first | (simp; done) | (simp; omega) | omega))) | (refine Below.trans ?_ (Below.mono hbe (by first | (simp; done) | (simp; omega) | omega))) | (refine Below.trans ?_ (Below.mono hb1 (by first | (simp; done) | (simp; omega) | omega))) | (refine Below.trans ?_ (Below.mono hb3 (by first | (simp; done) | (simp; omega) | omega))) | (refine Below.trans ?_ (Below.mono hb5 (by first | (simp; done) | (simp; omega) | omega))))))
        have M5 : OwSR w3.heap.size w5.heap.size w5 (.slice o5 n c5) (oneT m n) := hR5.bel2 (by (repeat (first | exact Below.refl _ _ | (refine Below.setCell ?_ (by first | (simp; done) | (simp; omega) | omega) _) | (refine Below.alloc ?_ (by first | (simp; done) | (simp; omega) | omega) _) | (refine below_drewN ?_ _) | (refine Below.drew ?_) | (refine Below.trans ?_ (Below.mono hba (by first | (simp; done) | (simp; omega) | omega))) | (refine Below.trans ?_ (Below.mono hbe (by first | (simp; done) | (simp; omega) | omega))) | (refine Below.trans ?_ (Below.mono hb1 (by first | (simp; done) | (simp; omega) | omega))) | (refine Below.trans ?_ (Below.mono hb3 (by first | (simp; done) | (simp; omega) | omega))) | (refine Below.trans ?_ (Below.mono hb5 (by first | (simp; done) | (simp; omega) | omega))))))
        obtain ⟨⟨a60, a61⟩, a6f⟩ := id L6
        obtain ⟨⟨a70, a71⟩, a7f⟩ := id L7
        have a6g := a6f 0
        have a7g := a7f 0
        have a6h := a6f 1
        have a7h := a7f 1
        have hne : w0.heap.size ≠ wa.heap.size := by omega
        have hne' : wa.heap.size ≠ w0.heap.size := by omega
        have hb6_ : w0.heap.size ≤ w0.heap.size := by omega
        have hb7_ : w0.heap.size ≤ wa.heap.size := by omega
        have y36 : w0.heap.size < w1.heap.size ∨ w3.heap.size ≤ w0.heap.size := by omega
        have y37 : wa.heap.size < w1.heap.size ∨ w3.heap.size ≤ wa.heap.size := by omega
        have y56 : w0.heap.size < w3.heap.size ∨ w5.heap.size ≤ w0.heap.size := by omega
        have y57 : wa.heap.size < w3.heap.size ∨ w5.heap.size ≤ wa.heap.size := by omega
        have y5 : w0.heap.size ≤ w3.heap.size := by omega
        go_simp
        (try go_wp2_with fail)
        refine hK.out _ _ (fun h => absurd h (by decide)) ?_
        clear hK K
        try simp only [List.getElem_toArray, List.getElem_cons_zero, List.getElem_cons_succ, Act.put, List.setIfInBounds_toArray, List.set_cons_zero, List.set_cons_succ]
        refine wpAnyK_oneL (i := 9) rfl (by as_aux_lemma => kernel_rfl) (fun K hK => ?_)
        go_simp
        (try go_wp2_with fail)
        refine hK.out _ _ (fun h => absurd h (by decide)) ?_
        clear hK K
        try simp only [List.getElem_toArray, List.getElem_cons_zero, List.getElem_cons_succ, Act.put, List.setIfInBounds_toArray, List.set_cons_zero, List.set_cons_succ]
        refine wpAnyK_done (by as_aux_lemma => kernel_rfl) ?_ _
        go_wp2_with fail
        go_meet
        exact ⟨_, _, o3, o5, c3, c5, rfl, rfl, ((L6.put _ _).put' (a := ⟨_, 0, none⟩) hne' _).put' (a := ⟨_, 1, none⟩) hne' _, ((L7.put' (a := ⟨_, 0, none⟩) hne _).put' (a := ⟨_, 1, none⟩) hne _).put _ _, hb6_, hb7_, hne, ((((M3.put y36 0 _).put y36 1 _).put y37 0 _).put y37 1 _).live y37 (by simp; omega), ((((M5.put y56 0 _).put y56 1 _).put y57 0 _).put y57 1 _).ow.mono y5, (((Below.setCell (Below.setCell (by (repeat (first | exact Below.refl _ _ | (refine Below.setCell ?_ (by first | (simp; done) | (simp; omega) | omega) _) | (refine Below.alloc ?_ (by first | (simp; done) | (simp; omega) | omega) _) | (refine below_drewN ?_ _) | (refine Below.drew ?_) | (refine Below.trans ?_ (Below.mono hba (by first | (simp; done) | (simp; omega) | omega))) | (refine Below.trans ?_ (Below.mono hbe (by first | (simp; done) | (simp; omega) | omega))) | (refine Below.trans ?_ (Below.mono hb1 (by first | (simp; done) | (simp; omega) | omega))) | (refine Below.trans ?_ (Below.mono hb3 (by first | (simp; done) | (simp; omega) | omega))) | (refine Below.trans ?_ (Below.mono hb5 (by first | (simp; done) | (simp; omega) | omega)))))) (p := ⟨_, 0, none⟩) hb6_ _) (p := ⟨_, 1, none⟩) hb6_ _).setCell (p := ⟨_, 0, none⟩) hb7_ _).setCell (p := ⟨_, 1, none⟩) hb7_ _)⟩
    · as_aux_lemma =>
      go_simp
      obtain ⟨we, hwe⟩ : ∃ x : World, x = (w0.alloc (.cells #[.int .i64 0, .slice none 0 0] 25)).drew := ⟨_, rfl⟩
      have hbe : Below (w0).heap.size (w0) we := by rw [hwe]; exact (by (repeat (first | exact Below.refl _ _ | (refine Below.setCell ?_ (by first | (simp; done) | (simp; omega) | omega) _) | (refine Below.alloc ?_ (by first | (simp; done) | (simp; omega) | omega) _) | (refine below_drewN ?_ _) | (refine Below.drew ?_))))
      have A7 : RB2 we w0.heap.size (.int .i64 0) (.slice none 0 0) := by rw [hwe]; exact RB2.mk1 (w0) _ _ _
      have ha7 : w0.heap.size < we.heap.size := A7.1.lt
      have hde : Below w0.heap.size w0 we := (by (repeat (first | exact Below.refl _ _ | (refine Below.setCell ?_ (by first | (simp; done) | (simp; omega) | omega) _) | (refine Below.alloc ?_ (by first | (simp; done) | (simp; omega) | omega) _) | (refine below_drewN ?_ _) | (refine Below.drew ?_) | (refine Below.trans ?_ (Below.mono hbe (by first | (simp; done) | (simp; omega) | omega))))))
      have hse := hde.size
      obtain ⟨fe0, fe1⟩ := X0.below hde (Nat.le_refl _)
      rw [← hwe]
      clear hwe
      clear hHeld
      have hHeld : (fun w' : World => w'.cell? ⟨w.heap.size, 0, none⟩ = some (.int .i64 m) ∧ w'.cell? ⟨w.heap.size, 1, none⟩ = some (.slice o n c)) we := by go_keep
      refine hK.out _ _ (fun _ => hHeld) ?_
      clear hK K
      try simp only [List.getElem_toArray, List.getElem_cons_zero, List.getElem_cons_succ, Act.put, List.setIfInBounds_toArray, List.set_cons_zero, List.set_cons_succ]
      refine wpAnyK_two (i := 1) (j := 6) rfl rfl (by as_aux_lemma => kernel_rfl) (fun K hK => ?_) (fun K hK => ?_)
      · as_aux_lemma =>
        go_simp
        go_at_call 41
        refine (one_n m o n c _ h1 hn hm hm').mono ?_
        rintro e w1 ⟨v1, rfl, h1_, hb1⟩
        obtain ⟨o1, c1, rfl⟩ := h1_.shapeN (n := n) (tri_len _ _)
        have hd1 : Below w0.heap.size w0 w1 := (by (repeat (first | exact Below.refl _ _ | (refine Below.setCell ?_ (by first | (simp; done) | (simp; omega) | omega) _) | (refine Below.alloc ?_ (by first | (simp; done) | (simp; omega) | omega) _) | (refine below_drewN ?_ _) | (refine Below.drew ?_) | (refine Below.trans ?_ (Below.mono hbe (by first | (simp; done) | (simp; omega) | omega))) | (refine Below.trans ?_ (Below.mono hb1 (by first | (simp; done) | (simp; omega) | omega))))))
        have hs1 := hd1.size
        have hz1 : we.heap.size ≤ w1.heap.size := by first | exact hb1.size | (have := hb1.size; simpa using this)
        have hr1 := h1_.rd
        clear h1_
        obtain ⟨f10, f11⟩ := X0.below hd1 (Nat.le_refl _)
        go_wp2_with fail
        clear hHeld
        have hHeld : (fun w' : World => w'.cell? ⟨w.heap.size, 0, none⟩ = some (.int .i64 m) ∧ w'.cell? ⟨w.heap.size, 1, none⟩ = some (.slice o n c)) w1 := by go_keep
        refine hK.out _ _ (fun _ => hHeld) ?_
        clear hK K
        try simp only [List.getElem_toArray, List.getElem_cons_zero, List.getElem_cons_succ, Act.put, List.setIfInBounds_toArray, List.set_cons_zero, List.set_cons_succ]
        refine wpAnyK_two (i := 3) (j := 6) rfl rfl (by as_aux_lemma => kernel_rfl) (fun K hK => ?_) (fun K hK => ?_)
        · as_aux_lemma =>
          go_simp
          go_at_call 37
          refine (minusP_n m m n _ _ (oneT m n) t _ (hr1.below (B := w1.heap.size) (by (repeat (first | exact Below.refl _ _ | (refine Below.setCell ?_ (by first | (simp; done) | (simp; omega) | omega) _) | (refine Below.alloc ?_ (by first | (simp; done) | (simp; omega) | omega) _) | (refine below_drewN ?_ _) | (refine Below.drew ?_) | (refine Below.trans ?_ (Below.mono hbe (by first | (simp; done) | (simp; omega) | omega))) | (refine Below.trans ?_ (Below.mono hb1 (by first | (simp; done) | (simp; omega) | omega)))))) (Nat.le_refl _)) (hu0.below (by (repeat (first | exact Below.refl _ _ | (refine Below.setCell ?_ (by first | (simp; done) | (simp; omega) | omega) _) | (refine Below.alloc ?_ (by first | (simp; done) | (simp; omega) | omega) _) | (refine below_drewN ?_ _) | (refine Below.drew ?_) | (refine Below.trans ?_ (Below.mono hbe (by first | (simp; done) | (simp; omega) | omega))) | (refine Below.trans ?_ (Below.mono hb1 (by first | (simp; done) | (simp; omega) | omega)))))) (Nat.le_refl _)) h1 hn hm hm' (PlaT.one (by omega) n) HT.out).mono ?_
          rintro e w3 ⟨v3, rfl, h3_, hb3⟩
          obtain ⟨o3, c3, rfl⟩ := h3_.shapeN (n := n) (tri_len _ _)
          have hd3 : Below w0.heap.size w0 w3 := (by (repeat (first | exact Below.refl _ _ | (refine Below.setCell ?_ (by first | (simp; done) | (simp; omega) | omega) _) | (refine Below.alloc ?_ (by first | (simp; done) | (simp; omega) | omega) _) | (refine below_drewN ?_ _) | (refine Below.drew ?_) | (refine Below.trans ?_ (Below.mono hbe (by first | (simp; done) | (simp; omega) | omega))) | (refine Below.trans ?_ (Below.mono hb1 (by first | (simp; done) | (simp; omega) | omega))) | (refine Below.trans ?_ (Below.mono hb3 (by first | (simp; done) | (simp; omega) | omega))))))
          have hs3 := hd3.size
          have hz3 : w1.heap.size ≤ w3.heap.size := by first | exact hb3.size | (have := hb3.size; simpa using this)
          have hR3 := h3_.toR
          clear h3_
          obtain ⟨f30, f31⟩ := X0.below hd3 (Nat.le_refl _)
          go_wp2_with fail
          clear hHeld
          have hHeld : (fun w' : World => w'.cell? ⟨w.heap.size, 0, none⟩ = some (.int .i64 m) ∧ w'.cell? ⟨w.heap.size, 1, none⟩ = some (.slice o n c)) w3 := by go_keep
          refine hK.out _ _ (fun _ => hHeld) ?_
          clear hK K
          try simp only [List.getElem_toArray, List.getElem_cons_zero, List.getElem_cons_succ, Act.put, List.setIfInBounds_toArray, List.set_cons_zero, List.set_cons_succ]
          refine wpAnyK_two (i := 5) (j := 6) rfl rfl (by as_aux_lemma => kernel_rfl) (fun K hK => ?_) (fun K hK => ?_)
          · as_aux_lemma =>
            go_simp
            go_at_call 41
            refine (one_n m o n c _ h1 hn hm hm').mono ?_
            rintro e w5 ⟨v5, rfl, h5_, hb5⟩
            obtain ⟨o5, c5, rfl⟩ := h5_.shapeN (n := n) (tri_len _ _)
            have hd5 : Below w0.heap.size w0 w5 := (by (repeat (first | exact Below.refl _ _ | (refine Below.setCell ?_ (by first | (simp; done) | (simp; omega) | omega) _) | (refine Below.alloc ?_ (by first | (simp; done) | (simp; omega) | omega) _) | (refine below_drewN ?_ _) | (refine Below.drew ?_) | (refine Below.trans ?_ (Below.mono hbe (by first | (simp; done) | (simp; omega) | omega))) | (refine Below.trans ?_ (Below.mono hb1 (by first | (simp; done) | (simp; omega) | omega))) | (refine Below.trans ?_ (Below.mono hb3 (by first | (simp; done) | (simp; omega) | omega))) | (refine Below.trans ?_ (Below.mono hb5 (by first | (simp; done) | (simp; omega) | omega))))))
            have hs5 := hd5.size
            have hz5 : w3.heap.size ≤ w5.heap.size := by first | exact hb5.size | (have := hb5.size; simpa using this)
            have hR5 := h5_.toR
            clear h5_
            obtain ⟨f50, f51⟩ := X0.below hd5 (Nat.le_refl _)
            go_wp2_with fail
            clear hHeld
            have hHeld : (fun w' : World => w'.cell? ⟨w.heap.size, 0, none⟩ = some (.int .i64 m) ∧ w'.cell? ⟨w.heap.size, 1, none⟩ = some (.slice o n c)) w5 := by go_keep
            refine hK.out _ _ (fun _ => hHeld) ?_
            clear hK K
            try simp only [List.getElem_toArray, List.getElem_cons_zero, List.getElem_cons_succ, Act.put, List.setIfInBounds_toArray, List.set_cons_zero, List.set_cons_succ]
            refine wpAnyK_oneL (i := 6) rfl (by as_aux_lemma => kernel_rfl) (fun K hK => ?_)
            go_simp
            obtain ⟨wa, hwa⟩ : ∃ x : World, x = (w5).alloc (.cells #[.int .i64 0, .slice none 0 0] 25) := ⟨_, rfl⟩
            have hba : Below (w5).heap.size (w5) wa := by rw [hwa]; exact (by (repeat (first | exact Below.refl _ _ | (refine Below.setCell ?_ (by first | (simp; done) | (simp; omega) | omega) _) | (refine Below.alloc ?_ (by first | (simp; done) | (simp; omega) | omega) _) | (refine below_drewN ?_ _) | (refine Below.drew ?_))))
            have A6 : RB2 wa w5.heap.size (.int .i64 0) (.slice none 0 0) := by rw [hwa]; exact RB2.mk1 (w5) _ _ _
            have ha6 : w5.heap.size < wa.heap.size := A6.1.lt
            have hda : Below w0.heap.size w0 wa := (by (repeat (first | exact Below.refl _ _ | (refine Below.setCell ?_ (by first | (simp; done) | (simp; omega) | omega) _) | (refine Below.alloc ?_ (by first | (simp; done) | (simp; omega) | omega) _) | (refine below_drewN ?_ _) | (refine Below.drew ?_) | (refine Below.trans ?_ (Below.mono hbe (by first | (simp; done) | (simp; omega) | omega))) | (refine Below.trans ?_ (Below.mono hb1 (by first | (simp; done) | (simp; omega) | omega))) | (refine Below.trans ?_ (Below.mono hb3 (by first | (simp; done) | (simp; omega) | omega))) | (refine Below.trans ?_ (Below.mono hb5 (by first | (simp; done) | (simp; omega) | omega))) | (refine Below.trans ?_ (Below.mono hba (by first | (simp; done) | (simp; omega) | omega))))))
            have hsa := hda.size
            obtain ⟨fa0, fa1⟩ := X0.below hda (Nat.le_refl _)
            rw [← hwa]
            clear hwa
            clear hHeld
            have hHeld : (fun w' : World => w'.cell? ⟨w.heap.size, 0, none⟩ = some (.int .i64 m) ∧ w'.cell? ⟨w.heap.size, 1, none⟩ = some (.slice o n c)) wa := by go_keep
            refine hK.out _ _ (fun _ => hHeld) ?_
            clear hK K
            try simp only [List.getElem_toArray, List.getElem_cons_zero, List.getElem_cons_succ, Act.put, List.setIfInBounds_toArray, List.set_cons_zero, List.set_cons_succ]
            refine wpAnyK_oneL (i := 8) rfl (by as_aux_lemma => kernel_rfl) (fun K hK => ?_)
            have L6 : RB2 wa w5.heap.size (.int .i64 0) (.slice none 0 0) := A6.below (B := wa.heap.size) (by (repeat (first | exact Below.refl _ _ | (refine Below.setCell ?_ (by first | (simp; done) | (simp; omega) | omega) _) | (refine Below.alloc ?_ (by first | (simp; done) | (simp; omega) | omega) _) | (refine below_drewN ?_ _) | (refine Below.drew ?_) | (refine Below.trans ?_ (Below.mono hbe (by first | (simp; done) | (simp; omega) | omega))) | (refine Below.trans ?_ (Below.mono hb1 (by first | (simp; done) | (simp; omega) | omega))) | (refine Below.trans ?_ (Below.mono hb3 (by first | (simp; done) | (simp; omega) | omega))) | (refine Below.trans ?_ (Below.mono hb5 (by first | (simp; done) | (simp; omega) | omega))) | (refine Below.trans ?_ (Below.mono hba (by first | (simp; done) | (simp; omega) | omega)))))) (Nat.le_refl _)
            have L7 : RB2 wa w0.heap.size (.int .i64 0) (.slice none 0 0) := A7.below (B := we.heap.size) (by (repeat (first | exact Below.refl _ _ | (refine Below.setCell ?_ (by first | (simp; done) | (simp; omega) | omega) _) | (refine Below.alloc ?_ (by first | (simp; done) | (simp; omega) | omega) _) | (refine below_drewN ?_ _) | (refine Below.drew ?_) | (refine Below.trans ?_ (Below.mono hbe (by first | (simp; done) | (simp; omega) | omega))) | (refine Below.trans ?_ (Below.mono hb1 (by first | (simp; done) | (simp; omega) | omega))) | (refine Below.trans ?_ (Below.mono hb3 (by first | (simp; done) | (simp; omega) | omega))) | (refine Below.trans ?_ (Below.mono hb5 (by first | (simp; done) | (simp; omega) | omega))) | (refine Below.trans ?_ (Below.mono hba (by first | (simp; done) | (simp; omega) | omega)))))) (Nat.le_refl _)
            have M3 : OwSR w1.heap.size w3.heap.size wa (.slice o3 n c3) (subT m n (oneT m n) t) := hR3.bel2 (by (repeat (first | exact Below.refl _ _ | (refine Below.setCell ?_ (by first | (simp; done) | (simp; omega) | omega) _) | (refine Below.alloc ?_ (by first | (simp; done) | (simp; omega) | omega) _) | (refine below_drewN ?_ _) | (refine Below.drew ?_) | (refine Below.trans ?_ (Below.mono hbe (by first | (simp; done) | (simp; omega) | omega))) | (refine Below.trans ?_ (Below.mono hb1 (by first | (simp; done) | (simp; omega) | omega))) | (refine Below.trans ?_ (Below.mono hb3 (by first | (simp; done) | (simp; omega) | omega))) | (refine Below.trans ?_ (Below.mono hb5 (by first | (simp; done) | (simp; omega) | omega))) | (refine Below.trans ?_ (Below.mono hba (by first | (simp; done) | (simp; omega) | omega))))))
            have M5 : OwSR w3.heap.size w5.heap.size wa (.slice o5 n c5) (oneT m n) := hR5.bel2 (by (repeat (first | exact Below.refl _ _ | (refine Below.setCell ?_ (by first | (simp; done) | (simp; omega) | omega) _) | (refine Below.alloc ?_ (by first | (simp; done) | (simp; omega) | omega) _) | (refine below_drewN ?_ _) | (refine Below.drew ?_) | (refine Below.trans ?_ (Below.mono hbe (by first | (simp; done) | (simp; omega) | omega))) | (refine Below.trans ?_ (Below.mono hb1 (by first | (simp; done) | (simp; omega) | omega))) | (refine Below.trans ?_ (Below.mono hb3 (by first | (simp; done) | (simp; omega) | omega))) | (refine Below.trans ?_ (Below.mono hb5 (by first | (simp; done) | (simp; omega) | omega))) | (refine Below.trans ?_ (Below.mono hba (by first | (simp; done) | (simp; omega) | omega))))))
            obtain ⟨⟨a60, a61⟩, a6f⟩ := id L6
            obtain ⟨⟨a70, a71⟩, a7f⟩ := id L7
            have a6g := a6f 0
            have a7g := a7f 0
            have a6h := a6f 1
            have a7h := a7f 1
            have hne : w5.heap.size ≠ w0.heap.size := by omega
            have hne' : w0.heap.size ≠ w5.heap.size := by omega
            have hb6_ : w0.heap.size ≤ w5.heap.size := by omega
            have hb7_ : w0.heap.size ≤ w0.heap.size := by omega
            have y36 : w5.heap.size < w1.heap.size ∨ w3.heap.size ≤ w5.heap.size := by omega
            have y37 : w0.heap.size < w1.heap.size ∨ w3.heap.size ≤ w0.heap.size := by omega
            have y56 : w5.heap.size < w3.heap.size ∨ w5.heap.size ≤ w5.heap.size := by omega
            have y57 : w0.heap.size < w3.heap.size ∨ w5.heap.size ≤ w0.heap.size := by omega
            have y5 : w0.heap.size ≤ w3.heap.size := by omega
            go_simp
            (try go_wp2_with fail)
            refine hK.out _ _ (fun h => absurd h (by decide)) ?_
            clear hK K
            try simp only [List.getElem_toArray, List.getElem_cons_zero, List.getElem_cons_succ, Act.put, List.setIfInBounds_toArray, List.set_cons_zero, List.set_cons_succ]
            refine wpAnyK_oneL (i := 9) rfl (by as_aux_lemma => kernel_rfl) (fun K hK => ?_)
            go_simp
            (try go_wp2_with fail)
            refine hK.out _ _ (fun h => absurd h (by decide)) ?_
            clear hK K
            try simp only [List.getElem_toArray, List.getElem_cons_zero, List.getElem_cons_succ, Act.put, List.setIfInBounds_toArray, List.set_cons_zero, List.set_cons_succ]
            refine wpAnyK_done (by as_aux_lemma => kernel_rfl) ?_ _
            go_wp2_with fail
            go_meet
            exact ⟨_, _, o3, o5, c3, c5, rfl, rfl, ((L6.put _ _).put' (a := ⟨_, 0, none⟩) hne' _).put' (a := ⟨_, 1, none⟩) hne' _, ((L7.put' (a := ⟨_, 0, none⟩) hne _).put' (a := ⟨_, 1, none⟩) hne _).put _ _, hb6_, hb7_, hne, ((((M3.put y36 0 _).put y36 1 _).put y37 0 _).put y37 1 _).live y37 (by simp; omega), ((((M5.put y56 0 _).put y56 1 _).put y57 0 _).put y57 1 _).ow.mono y5, (((Below.setCell (Below.setCell (by (repeat (first | exact Below.refl _ _ | (refine Below.setCell ?_ (by first | (simp; done) | (simp; omega) | omega) _) | (refine Below.alloc ?_ (by first | (simp; done) | (simp; omega) | omega) _) | (refine below_drewN ?_ _) | (refine Below.drew ?_) | (refine Below.trans ?_ (Below.mono hbe (by first | (simp; done) | (simp; omega) | omega))) | (refine Below.trans ?_ (Below.mono hb1 (by first | (simp; done) | (simp; omega) | omega))) | (refine Below.trans ?_ (Below.mono hb3 (by first | (simp; done) | (simp; omega) | omega))) | (refine Below.trans ?_ (Below.mono hb5 (by first | (simp; done) | (simp; omega) | omega))) | (refine Below.trans ?_ (Below.mono hba (by first | (simp; done) | (simp; omega) | omega)))))) (p := ⟨_, 0, none⟩) hb6_ _) (p := ⟨_, 1, none⟩) hb6_ _).setCell (p := ⟨_, 0, none⟩) hb7_ _).setCell (p := ⟨_, 1, none⟩) hb7_ _)⟩
          · as_aux_lemma =>
            go_simp
            obtain ⟨wa, hwa⟩ : ∃ x : World, x = (w3).alloc (.cells #[.int .i64 0, .slice none 0 0] 25) := ⟨_, rfl⟩
            have hba : Below (w3).heap.size (w3) wa := by rw [hwa]; exact (by (repeat (first | exact Below.refl _ _ | (refine Below.setCell ?_ (by first | (simp; done) | (simp; omega) | omega) _) | (refine Below.alloc ?_ (by first | (simp; done) | (simp; omega) | omega) _) | (refine below_drewN ?_ _) | (refine Below.drew ?_))))
            have A6 : RB2 wa w3.heap.size (.int .i64 0) (.slice none 0 0) := by rw [hwa]; exact RB2.mk1 (w3) _ _ _
            have ha6 : w3.heap.size < wa.heap.size := A6.1.lt
            have hda : Below w0.heap.size w0 wa := (by (repeat (first | exact Below.refl _ _ | (refine Below.setCell ?_ (by first | (simp; done) | (simp; omega) | omega) _) | (refine Below.alloc ?_ (by first | (simp; done) | (simp; omega) | omega) _) | (refine below_drewN ?_ _) | (refine Below.drew ?_) | (refine Below.trans ?_ (Below.mono hbe (by first | (simp; done) | (simp; omega) | omega))) | (refine Below.trans ?_ (Below.mono hb1 (by first | (simp; done) | (simp; omega) | omega))) | (refine Below.trans ?_ (Below.mono hb3 (by first | (simp; done) | (simp; omega) | omega))) | (refine Below.trans ?_ (Below.mono hba (by first | (simp; done) | (simp; omega) | omega))))))
            have hsa := hda.size
            obtain ⟨fa0, fa1⟩ := X0.below hda (Nat.le_refl _)
            rw [← hwa]
            clear hwa
            clear hHeld
            have hHeld : (fun w' : World => w'.cell? ⟨w.heap.size, 0, none⟩ = some (.int .i64 m) ∧ w'.cell? ⟨w.heap.size, 1, none⟩ = some (.slice o n c)) wa := by go_keep
            refine hK.out _ _ (fun _ => hHeld) ?_
            clear hK K
            try simp only [List.getElem_toArray, List.getElem_cons_zero, List.getElem_cons_succ, Act.put, List.setIfInBounds_toArray, List.set_cons_zero, List.set_cons_succ]
            refine wpAnyK_oneL (i := 5) rfl (by as_aux_lemma => kernel_rfl) (fun K hK => ?_)
            go_simp
            go_at_call 41
            refine (one_n m o n c _ h1 hn hm hm').mono ?_
            rintro e w5 ⟨v5, rfl, h5_, hb5⟩
            obtain ⟨o5, c5, rfl⟩ := h5_.shapeN (n := n) (tri_len _ _)
            have hd5 : Below w0.heap.size w0 w5 := (by (repeat (first | exact Below.refl _ _ | (refine Below.setCell ?_ (by first | (simp; done) | (simp; omega) | omega) _) | (refine Below.alloc ?_ (by first | (simp; done) | (simp; omega) | omega) _) | (refine below_drewN ?_ _) | (refine Below.drew ?_) | (refine Below.trans ?_ (Below.mono hbe (by first | (simp; done) | (simp; omega) | omega))) | (refine Below.trans ?_ (Below.mono hb1 (by first | (simp; done) | (simp; omega) | omega))) | (refine Below.trans ?_ (Below.mono hb3 (by first | (simp; done) | (simp; omega) | omega))) | (refine Below.trans ?_ (Below.mono hba (by first | (simp; done) | (simp; omega) | omega))) | (refine Below.trans ?_ (Below.mono hb5 (by first | (simp; done) | (simp; omega) | omega))))))
            have hs5 := hd5.size
            have hz5 : wa.heap.size ≤ w5.heap.size := by first | exact hb5.size | (have := hb5.size; simpa using this)
            have hR5 := h5_.toR
            clear h5_
            obtain ⟨f50, f51⟩ := X0.below hd5 (Nat.le_refl _)
            go_wp2_with fail
            clear hHeld
            have hHeld : (fun w' : World => w'.cell? ⟨w.heap.size, 0, none⟩ = some (.int .i64 m) ∧ w'.cell? ⟨w.heap.size, 1, none⟩ = some (.slice o n c)) w5 := by go_keep
            refine hK.out _ _ (fun _ => hHeld) ?_
            clear hK K
            try simp only [List.getElem_toArray, List.getElem_cons_zero, List.getElem_cons_succ, Act.put, List.setIfInBounds_toArray, List.set_cons_zero, List.set_cons_succ]
            refine wpAnyK_oneL (i := 8) rfl (by as_aux_lemma => kernel_rfl) (fun K hK => ?_)
            have L6 : RB2 w5 w3.heap.size (.int .i64 0) (.slice none 0 0) := A6.below (B := wa.heap.size) (by (repeat (first | exact Below.refl _ _ | (refine Below.setCell ?_ (by first | (simp; done) | (simp; omega) | omega) _) | (refine Below.alloc ?_ (by first | (simp; done) | (simp; omega) | omega) _) | (refine below_drewN ?_ _) | (refine Below.drew ?_) | (refine Below.trans ?_ (Below.mono hbe (by first | (simp; done) | (simp; omega) | omega))) | (refine Below.trans ?_ (Below.mono hb1 (by first | (simp; done) | (simp; omega) | omega))) | (refine Below.trans ?_ (Below.mono hb3 (by first | (simp; done) | (simp; omega) | omega))) | (refine Below.trans ?_ (Below.mono hba (by first | (simp; done) | (simp; omega) | omega))) | (refine Below.trans ?_ (Below.mono hb5 (by first | (simp; done) | (simp; omega) | omega)))))) (Nat.le_refl _)
            have L7 : RB2 w5 w0.heap.size (.int .i64 0) (.slice none 0 0) := A7.below (B := we.heap.size) (by (repeat (first | exact Below.refl _ _ | (refine Below.setCell ?_ (by first | (simp; done) | (simp; omega) | omega) _) | (refine Below.alloc ?_ (by first | (simp; done) | (simp; omega) | omega) _) | (refine below_drewN ?_ _) | (refine Below.drew ?_) | (refine Below.trans ?_ (Below.mono hbe (by first | (simp; done) | (simp; omega) | omega))) | (refine Below.trans ?_ (Below.mono hb1 (by first | (simp; done) | (simp; omega) | omega))) | (refine Below.trans ?_ (Below.mono hb3 (by first | (simp; done) | (simp; omega) | omega))) | (refine Below.trans ?_ (Below.mono hba (by first | (simp; done) | (simp; omega) | omega))) | (refine Below.trans ?_ (Below.mono hb5 (by first | (simp; done) | (simp; omega) | omega)))))) (Nat.le_refl _)
            have M3 : OwSR w1.heap.size w3.heap.size w5 (.slice o3 n c3) (subT m n (oneT m n) t) := hR3.bel2 (by (repeat (first | exact Below.refl _ _ | (refine Below.setCell ?_ (by first | (simp; done) | (simp; omega) | omega) _) | (refine Below.alloc ?_ (by first | (simp; done) | (simp; omega) | omega) _) | (refine below_drewN ?_ _) | (refine Below.drew ?_) | (refine Below.trans ?_ (Below.mono hbe (by first | (simp; done) | (simp; omega) | omega))) | (refine Below.trans ?_ (Below.mono hb1 (by first | (simp; done) | (simp; omega) | omega))) | (refine Below.trans ?_ (Below.mono hb3 (by first | (simp; done) | (simp; omega) | omega))) | (refine Below.trans ?_ (Below.mono hba (by first | (simp; done) | (simp; omega) | omega))) | (refine Below.trans ?_ (Below.mono hb5 (by first | (simp; done) | (simp; omega) | omega))))))
            have M5 : OwSR wa.heap.size w5.heap.size w5 (.slice o5 n c5) (oneT m n) := hR5.bel2 (by (repeat (first | exact Below.refl _ _ | (refine Below.setCell ?_ (by first | (simp; done) | (simp; omega) | omega) _) | (refine Below.alloc ?_ (by first | (simp; done) | (simp; omega) | omega) _) | (refine below_drewN ?_ _) | (refine Below.drew ?_) | (refine Below.trans ?_ (Below.mono hbe (by first | (simp; done) | (simp; omega) | omega))) | (refine Below.trans ?_ (Below.mono hb1 (by first | (simp; done) | (simp; omega) | omega))) | (refine Below.trans ?_ (Below.mono hb3 (by first | (simp; done) | (simp; omega) | omega))) | (refine Below.trans ?_ (Below.mono hba (by first | (simp; done) | (simp; omega) | omega))) | (refine Below.trans ?_ (Below.mono hb5 (by first | (simp; done) | (simp; omega) | omega))))))
            obtain ⟨⟨a60, a61⟩, a6f⟩ := id L6
            obtain ⟨⟨a70, a71⟩, a7f⟩ := id L7
            have a6g := a6f 0
            have a7g := a7f 0
            have a6h := a6f 1
            have a7h := a7f 1
            have hne : w3.heap.size ≠ w0.heap.size := by omega
            have hne' : w0.heap.size ≠ w3.heap.size := by omega
            have hb6_ : w0.heap.size ≤ w3.heap.size := by omega
            have hb7_ : w0.heap.size ≤ w0.heap.size := by omega
            have y36 : w3.heap.size < w1.heap.size ∨ w3.heap.size ≤ w3.heap.size := by omega
            have y37 : w0.heap.size < w1.heap.size ∨ w3.heap.size ≤ w0.heap.size := by omega
            have y56 : w3.heap.size < wa.heap.size ∨ w5.heap.size ≤ w3.heap.size := by omega
            have y57 : w0.heap.size < wa.heap.size ∨ w5.heap.size ≤ w0.heap.size := by omega
            have y5 : w0.heap.size ≤ wa.heap.size := by omega
            go_simp
            (try go_wp2_with fail)
            refine hK.out _ _ (fun h => absurd h (by decide)) ?_
            clear hK K
            try simp only [List.getElem_toArray, List.getElem_cons_zero, List.getElem_cons_succ, Act.put, List.setIfInBounds_toArray, List.set_cons_zero, List.set_cons_succ]
            refine wpAnyK_oneL (i := 9) rfl (by as_aux_lemma => kernel_rfl) (fun K hK => ?_)
            go_simp
            (try go_wp2_with fail)
            refine hK.out _ _ (fun h => absurd h (by decide)) ?_
            clear hK K
            try simp only [List.getElem_toArray, List.getElem_cons_zero, List.getElem_cons_succ, Act.put, List.setIfInBounds_toArray, List.set_cons_zero, List.set_cons_succ]
            refine wpAnyK_done (by as_aux_lemma => kernel_rfl) ?_ _
            go_wp2_with fail
            go_meet
            exact ⟨_, _, o3, o5, c3, c5, rfl, rfl, ((L6.put _ _).put' (a := ⟨_, 0, none⟩) hne' _).put' (a := ⟨_, 1, none⟩) hne' _, ((L7.put' (a := ⟨_, 0, none⟩) hne _).put' (a := ⟨_, 1, none⟩) hne _).put _ _, hb6_, hb7_, hne, ((((M3.put y36 0 _).put y36 1 _).put y37 0 _).put y37 1 _).live y37 (by simp; omega), ((((M5.put y56 0 _).put y56 1 _).put y57 0 _).put y57 1 _).ow.mono y5, (((Below.setCell (Below.setCell (by (repeat (first | exact Below.refl _ _ | (refine Below.setCell ?_ (by first | (simp; done) | (simp; omega) | omega) _) | (refine Below.alloc ?_ (by first | (simp; done) | (simp; omega) | omega) _) | (refine below_drewN ?_ _) | (refine Below.drew ?_) | (refine Below.trans ?_ (Below.mono hbe (by first | (simp; done) | (simp; omega) | omega))) | (refine Below.trans ?_ (Below.mono hb1 (by first | (simp; done) | (simp; omega) | omega))) | (refine Below.trans ?_ (Below.mono hb3 (by first | (simp; done) | (simp; omega) | omega))) | (refine Below.trans ?_ (Below.mono hba (by first | (simp; done) | (simp; omega) | omega))) | (refine Below.trans ?_ (Below.mono hb5 (by first | (simp; done) | (simp; omega) | omega)))))) (p := ⟨_, 0, none⟩) hb6_ _) (p := ⟨_, 1, none⟩) hb6_ _).setCell (p := ⟨_, 0, none⟩) hb7_ _).setCell (p := ⟨_, 1, none⟩) hb7_ _)⟩
        · as_aux_lemma =>
          go_simp
          obtain ⟨wa, hwa⟩ : ∃ x : World, x = (w1).alloc (.cells #[.int .i64 0, .slice none 0 0] 25) := ⟨_, rfl⟩
          have hba : Below (w1).heap.size (w1) wa := by rw [hwa]; exact (by (repeat (first | exact Below.refl _ _ | (refine Below.setCell ?_ (by first | (simp; done) | (simp; omega) | omega) _) | (refine Below.alloc ?_ (by first | (simp; done) | (simp; omega) | omega) _) | (refine below_drewN ?_ _) | (refine Below.drew ?_))))
          have A6 : RB2 wa w1.heap.size (.int .i64 0) (.slice none 0 0) := by rw [hwa]; exact RB2.mk1 (w1) _ _ _
          have ha6 : w1.heap.size < wa.heap.size := A6.1.lt
          have hda : Below w0.heap.size w0 wa := (by (repeat (first | exact Below.refl _ _ | (refine Below.setCell ?_ (by first | (simp; done) | (simp; omega) | omega) _) | (refine Below.alloc ?_ (by first | (simp; done) | (simp; omega) | omega) _) | (refine below_drewN ?_ _) | (refine Below.drew ?_) | (refine Below.trans ?_ (Below.mono hbe (by first | (simp; done) | (simp; omega) | omega))) | (refine Below.trans ?_ (Below.mono hb1 (by first | (simp; done) | (simp; omega) | omega))) | (refine Below.trans ?_ (Below.mono hba (by first | (simp; done) | (simp; omega) | omega))))))
          have hsa := hda.size
          obtain ⟨fa0, fa1⟩ := X0.below hda (Nat.le_refl _)
          rw [← hwa]
          clear hwa
          clear hHeld
          have hHeld : (fun w' : World => w'.cell? ⟨w.heap.size, 0, none⟩ = some (.int .i64 m) ∧ w'.cell? ⟨w.heap.size, 1, none⟩ = some (.slice o n c)) wa := by go_keep
          refine hK.out _ _ (fun _ => hHeld) ?_
          clear hK K
          try simp only [List.getElem_toArray, List.getElem_cons_zero, List.getElem_cons_succ, Act.put, List.setIfInBounds_toArray, List.set_cons_zero, List.set_cons_succ]
          refine wpAnyK_oneL (i := 3) rfl (by as_aux_lemma => kernel_rfl) (fun K hK => ?_)
          go_simp
          go_at_call 37
          refine (minusP_n m m n _ _ (oneT m n) t _ (hr1.below (B := w1.heap.size) (by (repeat (first | exact Below.refl _ _ | (refine Below.setCell ?_ (by first | (simp; done) | (simp; omega) | omega) _) | (refine Below.alloc ?_ (by first | (simp; done) | (simp; omega) | omega) _) | (refine below_drewN ?_ _) | (refine Below.drew ?_) | (refine Below.trans ?_ (Below.mono hbe (by first | (simp; done) | (simp; omega) | omega))) | (refine Below.trans ?_ (Below.mono hb1 (by first | (simp; done) | (simp; omega) | omega))) | (refine Below.trans ?_ (Below.mono hba (by first | (simp; done) | (simp; omega) | omega)))))) (Nat.le_refl _)) (hu0.below (by (repeat (first | exact Below.refl _ _ | (refine Below.setCell ?_ (by first | (simp; done) | (simp; omega) | omega) _) | (refine Below.alloc ?_ (by first | (simp; done) | (simp; omega) | omega) _) | (refine below_drewN ?_ _) | (refine Below.drew ?_) | (refine Below.trans ?_ (Below.mono hbe (by first | (simp; done) | (simp; omega) | omega))) | (refine Below.trans ?_ (Below.mono hb1 (by first | (simp; done) | (simp; omega) | omega))) | (refine Below.trans ?_ (Below.mono hba (by first | (simp; done) | (simp; omega) | omega)))))) (Nat.le_refl _)) h1 hn hm hm' (PlaT.one (by omega) n) HT.out).mono ?_
          rintro e w3 ⟨v3, rfl, h3_, hb3⟩
          obtain ⟨o3, c3, rfl⟩ := h3_.shapeN (n := n) (tri_len _ _)
          have hd3 : Below w0.heap.size w0 w3 := (by (repeat (first | exact Below.refl _ _ | (refine Below.setCell ?_ (by first | (simp; done) | (simp; omega) | omega) _) | (refine Below.alloc ?_ (by first | (simp; done) | (simp; omega) | omega) _) | (refine below_drewN ?_ _) | (refine Below.drew ?_) | (refine Below.trans ?_ (Below.mono hbe (by first | (simp; done) | (simp; omega) | omega))) | (refine Below.trans ?_ (Below.mono hb1 (by first | (simp; done) | (simp; omega) | omega))) | (refine Below.trans ?_ (Below.mono hba (by first | (simp; done) | (simp; omega) | omega))) | (refine Below.trans ?_ (Below.mono hb3 (by first | (simp; done) | (simp; omega) | omega))))))
          have hs3 := hd3.size
          have hz3 : wa.heap.size ≤ w3.heap.size := by first | exact hb3.size | (have := hb3.size; simpa using this)
          have hR3 := h3_.toR
          clear h3_
          obtain ⟨f30, f31⟩ := X0.below hd3 (Nat.le_refl _)
          go_wp2_with fail
          clear hHeld
          have hHeld : (fun w' : World => w'.cell? ⟨w.heap.size, 0, none⟩ = some (.int .i64 m) ∧ w'.cell? ⟨w.heap.size, 1, none⟩ = some (.slice o n c)) w3 := by go_keep
          refine hK.out _ _ (fun _ => hHeld) ?_
          clear hK K
          try simp only [List.getElem_toArray, List.getElem_cons_zero, List.getElem_cons_succ, Act.put, List.setIfInBounds_toArray, List.set_cons_zero, List.set_cons_succ]
          refine wpAnyK_oneL (i := 5) rfl (by as_aux_lemma => kernel_rfl) (fun K hK => ?_)
          go_simp
          go_at_call 41
          refine (one_n m o n c _ h1 hn hm hm').mono ?_
          rintro e w5 ⟨v5, rfl, h5_, hb5⟩
          obtain ⟨o5, c5, rfl⟩ := h5_.shapeN (n := n) (tri_len _ _)
          have hd5 : Below w0.heap.size w0 w5 := (by (repeat (first | exact Below.refl _ _ | (refine Below.setCell ?_ (by first | (simp; done) | (simp; omega) | omega) _) | (refine Below.alloc ?_ (by first | (simp; done) | (simp; omega) | omega) _) | (refine below_drewN ?_ _) | (refine Below.drew ?_) | (refine Below.trans ?_ (Below.mono hbe (by first | (simp; done) | (simp; omega) | omega))) | (refine Below.trans ?_ (Below.mono hb1 (by first | (simp; done) | (simp; omega) | omega))) | (refine Below.trans ?_ (Below.mono hba (by first | (simp; done) | (simp; omega) | omega))) | (refine Below.trans ?_ (Below.mono hb3 (by first | (simp; done) | (simp; omega) | omega))) | (refine Below.trans ?_ (Below.mono hb5 (by first | (simp; done) | (simp; omega) | omega))))))
          have hs5 := hd5.size
          have hz5 : w3.heap.size ≤ w5.heap.size := by first | exact hb5.size | (have := hb5.size; simpa using this)
          have hR5 := h5_.toR
          clear h5_
          obtain ⟨f50, f51⟩ := X0.below hd5 (Nat.le_refl _)
          go_wp2_with fail
          clear hHeld
          have hHeld : (fun w' : World => w'.cell? ⟨w.heap.size, 0, none⟩ = some (.int .i64 m) ∧ w'.cell? ⟨w.heap.size, 1, none⟩ = some (.slice o n c)) w5 := by go_keep
          refine hK.out _ _ (fun _ => hHeld) ?_
          clear hK K
          try simp only [List.getElem_toArray, List.getElem_cons_zero, List.getElem_cons_succ, Act.put, List.setIfInBounds_toArray, List.set_cons_zero, List.set_cons_succ]
          refine wpAnyK_oneL (i := 8) rfl (by as_aux_lemma => kernel_rfl) (fun K hK => ?_)
          have L6 : RB2 w5 w1.heap.size (.int .i64 0) (.slice none 0 0) := A6.below (B := wa.heap.size) (by (repeat (first | exact Below.refl _ _ | (refine Below.setCell ?_ (by first | (simp; done) | (simp; omega) | omega) _) | (refine Below.alloc ?_ (by first | (simp; done) | (simp; omega) | omega) _) | (refine below_drewN ?_ _) | (refine Below.drew ?_) | (refine Below.trans ?_ (Below.mono hbe (by first | (simp; done) | (simp; omega) | omega))) | (refine Below.trans ?_ (Below.mono hb1 (by first | (simp; done) | (simp; omega) | omega))) | (refine Below.trans ?_ (Below.mono hba (by first | (simp; done) | (simp; omega) | omega))) | (refine Below.trans ?_ (Below.mono hb3 (by first | (simp; done) | (simp; omega) | omega))) | (refine Below.trans ?_ (Below.mono hb5 (by first | (simp; done) | (simp; omega) | omega)))))) (Nat.le_refl _)
          have L7 : RB2 w5 w0.heap.size (.int .i64 0) (.slice none 0 0) := A7.below (B := we.heap.size) (by (repeat (first | exact Below.refl _ _ | (refine Below.setCell ?_ (by first | (simp; done) | (simp; omega) | omega) _) | (refine Below.alloc ?_ (by first | (simp; done) | (simp; omega) | omega) _) | (refine below_drewN ?_ _) | (refine Below.drew ?_) | (refine Below.trans ?_ (Below.mono hbe (by first | (simp; done) | (simp; omega) | omega))) | (refine Below.trans ?_ (Below.mono hb1 (by first | (simp; done) | (simp; omega) | omega))) | (refine Below.trans ?_ (Below.mono hba (by first | (simp; done) | (simp; omega) | omega))) | (refine Below.trans ?_ (Below.mono hb3 (by first | (simp; done) | (simp; omega) | omega))) | (refine Below.trans ?_ (Below.mono hb5 (by first | (simp; done) | (simp; omega) | omega)))))) (Nat.le_refl _)
          have M3 : OwSR wa.heap.size w3.heap.size w5 (.slice o3 n c3) (subT m n (oneT m n) t) := hR3.bel2 (by (repeat (first | exact Below.refl _ _ | (refine Below.setCell ?_ (by first | (simp; done) | (simp; omega) | omega) _) | (refine Below.alloc ?_ (by first | (simp; done) | (simp; omega) | omega) _) | (refine below_drewN ?_ _) | (refine Below.drew ?_) | (refine Below.trans ?_ (Below.mono hbe (by first | (simp; done) | (simp; omega) | omega))) | (refine Below.trans ?_ (Below.mono hb1 (by first | (simp; done) | (simp; omega) | omega))) | (refine Below.trans ?_ (Below.mono hba (by first | (simp; done) | (simp; omega) | omega))) | (refine Below.trans ?_ (Below.mono hb3 (by first | (simp; done) | (simp; omega) | omega))) | (refine Below.trans ?_ (Below.mono hb5 (by first | (simp; done) | (simp; omega) | omega))))))
          have M5 : OwSR w3.heap.size w5.heap.size w5 (.slice o5 n c5) (oneT m n) := hR5.bel2 (by (repeat (first | exact Below.refl _ _ | (refine Below.setCell ?_ (by first | (simp; done) | (simp; omega) | omega) _) | (refine Below.alloc ?_ (by first | (simp; done) | (simp; omega) | omega) _) | (refine below_drewN ?_ _) | (refine Below.drew ?_) | (refine Below.trans ?_ (Below.mono hbe (by first | (simp; done) | (simp; omega) | omega))) | (refine Below.trans ?_ (Below.mono hb1 (by first | (simp; done) | (simp; omega) | omega))) | (refine Below.trans ?_ (Below.mono hba (by first | (simp; done) | (simp; omega) | omega))) | (refine Below.trans ?_ (Below.mono hb3 (by first | (simp; done) | (simp; omega) | omega))) | (refine Below.trans ?_ (Below.mono hb5 (by first | (simp; done) | (simp; omega) | omega))))))
          obtain ⟨⟨a60, a61⟩, a6f⟩ := id L6
          obtain ⟨⟨a70, a71⟩, a7f⟩ := id L7
          have a6g := a6f 0
          have a7g := a7f 0
          have a6h := a6f 1
          have a7h := a7f 1
          have hne : w1.heap.size ≠ w0.heap.size := by omega
          have hne' : w0.heap.size ≠ w1.heap.size := by omega
          have hb6_ : w0.heap.size ≤ w1.heap.size := by omega
          have hb7_ : w0.heap.size ≤ w0.heap.size := by omega
          have y36 : w1.heap.size < wa.heap.size ∨ w3.heap.size ≤ w1.heap.size := by omega
          have y37 : w0.heap.size < wa.heap.size ∨ w3.heap.size ≤ w0.heap.size := by omega
          have y56 : w1.heap.size < w3.heap.size ∨ w5.heap.size ≤ w1.heap.size := by omega
          have y57 : w0.heap.size < w3.heap.size ∨ w5.heap.size ≤ w0.heap.size := by omega
          have y5 : w0.heap.size ≤ w3.heap.size := by omega
          go_simp
          (try go_wp2_with fail)
          refine hK.out _ _ (fun h => absurd h (by decide)) ?_
          clear hK K
          try simp only [List.getElem_toArray, List.getElem_cons_zero, List.getElem_cons_succ, Act.put, List.setIfInBounds_toArray, List.set_cons_zero, List.set_cons_succ]
          refine wpAnyK_oneL (i := 9) rfl (by as_aux_lemma => kernel_rfl) (fun K hK => ?_)
          go_simp
          (try go_wp2_with fail)
          refine hK.out _ _ (fun h => absurd h (by decide)) ?_
          clear hK K
          try simp only [List.getElem_toArray, List.getElem_cons_zero, List.getElem_cons_succ, Act.put, List.setIfInBounds_toArray, List.set_cons_zero, List.set_cons_succ]
          refine wpAnyK_done (by as_aux_lemma => kernel_rfl) ?_ _
          go_wp2_with fail
          go_meet
          exact ⟨_, _, o3, o5, c3, c5, rfl, rfl, ((L6.put _ _).put' (a := ⟨_, 0, none⟩) hne' _).put' (a := ⟨_, 1, none⟩) hne' _, ((L7.put' (a := ⟨_, 0, none⟩) hne _).put' (a := ⟨_, 1, none⟩) hne _).put _ _, hb6_, hb7_, hne, ((((M3.put y36 0 _).put y36 1 _).put y37 0 _).put y37 1 _).live y37 (by simp; omega), ((((M5.put y56 0 _).put y56 1 _).put y57 0 _).put y57 1 _).ow.mono y5, (((Below.setCell (Below.setCell (by (repeat (first | exact Below.refl _ _ | (refine Below.setCell ?_ (by first | (simp; done) | (simp; omega) | omega) _) | (refine Below.alloc ?_ (by first | (simp; done) | (simp; omega) | omega) _) | (refine below_drewN ?_ _) | (refine Below.drew ?_) | (refine Below.trans ?_ (Below.mono hbe (by first | (simp; done) | (simp; omega) | omega))) | (refine Below.trans ?_ (Below.mono hb1 (by first | (simp; done) | (simp; omega) | omega))) | (refine Below.trans ?_ (Below.mono hba (by first | (simp; done) | (simp; omega) | omega))) | (refine Below.trans ?_ (Below.mono hb3 (by first | (simp; done) | (simp; omega) | omega))) | (refine Below.trans ?_ (Below.mono hb5 (by first | (simp; done) | (simp; omega) | omega)))))) (p := ⟨_, 0, none⟩) hb6_ _) (p := ⟨_, 1, none⟩) hb6_ _).setCell (p := ⟨_, 0, none⟩) hb7_ _).setCell (p := ⟨_, 1, none⟩) hb7_ _)⟩
      · as_aux_lemma =>
        go_simp
        obtain ⟨wa, hwa⟩ : ∃ x : World, x = (we).alloc (.cells #[.int .i64 0, .slice none 0 0] 25) := ⟨_, rfl⟩
        have hba : Below (we).heap.size (we) wa := by rw [hwa]; exact (by (repeat (first | exact Below.refl _ _ | (refine Below.setCell ?_ (by first | (simp; done) | (simp; omega) | omega) _) | (refine Below.alloc ?_ (by first | (simp; done) | (simp; omega) | omega) _) | (refine below_drewN ?_ _) | (refine Below.drew ?_))))
        have A6 : RB2 wa we.heap.size (.int .i64 0) (.slice none 0 0) := by rw [hwa]; exact RB2.mk1 (we) _ _ _
        have ha6 : we.heap.size < wa.heap.size := A6.1.lt
        have hda : Below w0.heap.size w0 wa := (by (repeat (first | exact Below.refl _ _ | (refine Below.setCell ?_ (by first | (simp; done) | (simp; omega) | omega) _) | (refine Below.alloc ?_ (by first | (simp; done) | (simp; omega) | omega) _) | (refine below_drewN ?_ _) | (refine Below.drew ?_) | (refine Below.trans ?_ (Below.mono hbe (by first | (simp; done) | (simp; omega) | omega))) | (refine Below.trans ?_ (Below.mono hba (by first | (simp; done) | (simp; omega) | omega))))))
        have hsa := hda.size
        obtain ⟨fa0, fa1⟩ := X0.below hda (Nat.le_refl _)
        rw [← hwa]
        clear hwa
        clear hHeld
        have hHeld : (fun w' : World => w'.cell? ⟨w.heap.size, 0, none⟩ = some (.int .i64 m) ∧ w'.cell? ⟨w.heap.size, 1, none⟩ = some (.slice o n c)) wa := by go_keep
        refine hK.out _ _ (fun _ => hHeld) ?_
        clear hK K
        try simp only [List.getElem_toArray, List.getElem_cons_zero, List.getElem_cons_succ, Act.put, List.setIfInBounds_toArray, List.set_cons_zero, List.set_cons_succ]
        refine wpAnyK_oneL (i := 1) rfl (by as_aux_lemma => kernel_rfl) (fun K hK => ?_)
        go_simp
        go_at_call 41
        refine (one_n m o n c _ h1 hn hm hm').mono ?_
        rintro e w1 ⟨v1, rfl, h1_, hb1⟩
        obtain ⟨o1, c1, rfl⟩ := h1_.shapeN (n := n) (tri_len _ _)
        have hd1 : Below w0.heap.size w0 w1 := (by (repeat (first | exact Below.refl _ _ | (refine Below.setCell ?_ (by first | (simp; done) | (simp; omega) | omega) _) | (refine Below.alloc ?_ (by first | (simp; done) | (simp; omega) | omega) _) | (refine below_drewN ?_ _) | (refine Below.drew ?_) | (refine Below.trans ?_ (Below.mono hbe (by first | (simp; done) | (simp; omega) | omega))) | (refine Below.trans ?_ (Below.mono hba (by first | (simp; done) | (simp; omega) | omega))) | (refine Below.trans ?_ (Below.mono hb1 (by first | (simp; done) | (simp; omega) | omega))))))
        have hs1 := hd1.size
        have hz1 : wa.heap.size ≤ w1.heap.size := by first | exact hb1.size | (have := hb1.size; simpa using this)
        have hr1 := h1_.rd
        clear h1_
        obtain ⟨f10, f11⟩ := X0.below hd1 (Nat.le_refl _)
        go_wp2_with fail
        clear hHeld
        have hHeld : (fun w' : World => w'.cell? ⟨w.heap.size, 0, none⟩ = some (.int .i64 m) ∧ w'.cell? ⟨w.heap.size, 1, none⟩ = some (.slice o n c)) w1 := by go_keep
        refine hK.out _ _ (fun _ => hHeld) ?_
        clear hK K
        try simp only [List.getElem_toArray, List.getElem_cons_zero, List.getElem_cons_succ, Act.put, List.setIfInBounds_toArray, List.set_cons_zero, List.set_cons_succ]
        refine wpAnyK_oneL (i := 3) rfl (by as_aux_lemma => kernel_rfl) (fun K hK => ?_)
        go_simp
        go_at_call 37
        refine (minusP_n m m n _ _ (oneT m n) t _ (hr1.below (B := w1.heap.size) (by (repeat (first | exact Below.refl _ _ | (refine Below.setCell ?_ (by first | (simp; done) | (simp; omega) | omega) _) | (refine Below.alloc ?_ (by first | (simp; done) | (simp; omega) | omega) _) | (refine below_drewN ?_ _) | (refine Below.drew ?_) | (refine Below.trans ?_ (Below.mono hbe (by first | (simp; done) | (simp; omega) | omega))) | (refine Below.trans ?_ (Below.mono hba (by first | (simp; done) | (simp; omega) | omega))) | (refine Below.trans ?_ (Below.mono hb1 (by first | (simp; done) | (simp; omega) | omega)))))) (Nat.le_refl _)) (hu0.below (by (repeat (first | exact Below.refl _ _ | (refine Below.setCell ?_ (by first | (simp; done) | (simp; omega) | omega) _) | (refine Below.alloc ?_ (by first | (simp; done) | (simp; omega) | omega) _) | (refine below_drewN ?_ _) | (refine Below.drew ?_) | (refine Below.trans ?_ (Below.mono hbe (by first | (simp; done) | (simp; omega) | omega))) | (refine Below.trans ?_ (Below.mono hba (by first | (simp; done) | (simp; omega) | omega))) | (refine Below.trans ?_ (Below.mono hb1 (by first | (simp; done) | (simp; omega) | omega)))))) (Nat.le_refl _)) h1 hn hm hm' (PlaT.one (by omega) n) HT.out).mono ?_
        rintro e w3 ⟨v3, rfl, h3_, hb3⟩
        obtain ⟨o3, c3, rfl⟩ := h3_.shapeN (n := n) (tri_len _ _)
        have hd3 : Below w0.heap.size w0 w3 := (by (repeat (first | exact Below.refl _ _ | (refine Below.setCell ?_ (by first | (simp; done) | (simp; omega) | omega) _) | (refine Below.alloc ?_ (by first | (simp; done) | (simp; omega) | omega) _) | (refine below_drewN ?_ _) | (refine Below.drew ?_) | (refine Below.trans ?_ (Below.mono hbe (by first | (simp; done) | (simp; omega) | omega))) | (refine Below.trans ?_ (Below.mono hba (by first | (simp; done) | (simp; omega) | omega))) | (refine Below.trans ?_ (Below.mono hb1 (by first | (simp; done) | (simp; omega) | omega))) | (refine Below.trans ?_ (Below.mono hb3 (by first | (simp; done) | (simp; omega) | omega))))))
        have hs3 := hd3.size
        have hz3 : w1.heap.size ≤ w3.heap.size := by first | exact hb3.size | (have := hb3.size; simpa using this)
        have hR3 := h3_.toR
        clear h3_
        obtain ⟨f30, f31⟩ := X0.below hd3 (Nat.le_refl _)
        go_wp2_with fail
        clear hHeld
        have hHeld : (fun w' : World => w'.cell? ⟨w.heap.size, 0, none⟩ = some (.int .i64 m) ∧ w'.cell? ⟨w.heap.size, 1, none⟩ = some (.slice o n c)) w3 := by go_keep
        refine hK.out _ _ (fun _ => hHeld) ?_
        clear hK K
        try simp only [List.getElem_toArray, List.getElem_cons_zero, List.getElem_cons_succ, Act.put, List.setIfInBounds_toArray, List.set_cons_zero, List.set_cons_succ]
        refine wpAnyK_oneL (i := 5) rfl (by as_aux_lemma => kernel_rfl) (fun K hK => ?_)
        go_simp
        go_at_call 41
        refine (one_n m o n c _ h1 hn hm hm').mono ?_
        rintro e w5 ⟨v5, rfl, h5_, hb5⟩
        obtain ⟨o5, c5, rfl⟩ := h5_.shapeN (n := n) (tri_len _ _)
        have hd5 : Below w0.heap.size w0 w5 := (by (repeat (first | exact Below.refl _ _ | (refine Below.setCell ?_ (by first | (simp; done) | (simp; omega) | omega) _) | (refine Below.alloc ?_ (by first | (simp; done) | (simp; omega) | omega) _) | (refine below_drewN ?_ _) | (refine Below.drew ?_) | (refine Below.trans ?_ (Below.mono hbe (by first | (simp; done) | (simp; omega) | omega))) | (refine Below.trans ?_ (Below.mono hba (by first | (simp; done) | (simp; omega) | omega))) | (refine Below.trans ?_ (Below.mono hb1 (by first | (simp; done) | (simp; omega) | omega))) | (refine Below.trans ?_ (Below.mono hb3 (by first | (simp; done) | (simp; omega) | omega))) | (refine Below.trans ?_ (Below.mono hb5 (by first | (simp; done) | (simp; omega) | omega))))))
        have hs5 := hd5.size
        have hz5 : w3.heap.size ≤ w5.heap.size := by first | exact hb5.size | (have := hb5.size; simpa using this)
        have hR5 := h5_.toR
        clear h5_
        obtain ⟨f50, f51⟩ := X0.below hd5 (Nat.le_refl _)
        go_wp2_with fail
        clear hHeld
        have hHeld : (fun w' : World => w'.cell? ⟨w.heap.size, 0, none⟩ = some (.int .i64 m) ∧ w'.cell? ⟨w.heap.size, 1, none⟩ = some (.slice o n c)) w5 := by go_keep
        refine hK.out _ _ (fun _ => hHeld) ?_
        clear hK K
        try simp only [List.getElem_toArray, List.getElem_cons_zero, List.getElem_cons_succ, Act.put, List.setIfInBounds_toArray, List.set_cons_zero, List.set_cons_succ]
        refine wpAnyK_oneL (i := 8) rfl (by as_aux_lemma => kernel_rfl) (fun K hK => ?_)
        have L6 : RB2 w5 we.heap.size (.int .i64 0) (.slice none 0 0) := A6.below (B := wa.heap.size) (by (repeat (first | exact Below.refl _ _ | (refine Below.setCell ?_ (by first | (simp; done) | (simp; omega) | omega) _) | (refine Below.alloc ?_ (by first | (simp; done) | (simp; omega) | omega) _) | (refine below_drewN ?_ _) | (refine Below.drew ?_) | (refine Below.trans ?_ (Below.mono hbe (by first | (simp; done) | (simp; omega) | omega))) | (refine Below.trans ?_ (Below.mono hba (by first | (simp; done) | (simp; omega) | omega))) | (refine Below.trans ?_ (Below.mono hb1 (by first | (simp; done) | (simp; omega) | omega))) | (refine Below.trans ?_ (Below.mono hb3 (by first | (simp; done) | (simp; omega) | omega))) | (refine Below.trans ?_ (Below.mono hb5 (by first | (simp; done) | (simp; omega) | omega)))))) (Nat.le_refl _)
        have L7 : RB2 w5 w0.heap.size (.int .i64 0) (.slice none 0 0) := A7.below (B := we.heap.size) (by (repeat (first | exact Below.refl _ _ | (refine Below.setCell ?_ (by first | (simp; done) | (simp; omega) | omega) _) | (refine Below.alloc ?_ (by first | (simp; done) | (simp; omega) | omega) _) | (refine below_drewN ?_ _) | (refine Below.drew ?_) | (refine Below.trans ?_ (Below.mono hbe (by first | (simp; done) | (simp; omega) | omega))) | (refine Below.trans ?_ (Below.mono hba (by first | (simp; done) | (simp; omega) | omega))) | (refine Below.trans ?_ (Below.mono hb1 (by first | (simp; done) | (simp; omega) | omega))) | (refine Below.trans ?_ (Below.mono hb3 (by first | (simp; done) | (simp; omega) | omega))) | (refine Below.trans ?_ (Below.mono hb5 (by first | (simp; done) | (simp; omega) | omega)))))) (Nat.le_refl _)
        have M3 : OwSR w1.heap.size w3.heap.size w5 (.slice o3 n c3) (subT m n (oneT m n) t) := hR3.bel2 (by (repeat (first | exact Below.refl _ _ | (refine Below.setCell ?_ (by first | (simp; done) | (simp; omega) | omega) _) | (refine Below.alloc ?_ (by first | (simp; done) | (simp; omega) | omega) _) | (refine below_drewN ?_ _) | (refine Below.drew ?_) | (refine Below.trans ?_ (Below.mono hbe (by first | (simp; done) | (simp; omega) | omega))) | (refine Below.trans ?_ (Below.mono hba (by first | (simp; done) | (simp; omega) | omega))) | (refine Below.trans ?_ (Below.mono hb1 (by first | (simp; done) | (simp; omega) | omega))) | (refine Below.trans ?_ (Below.mono hb3 (by first | (simp; done) | (simp; omega) | omega))) | (refine Below.trans ?_ (Below.mono hb5 (by first | (simp; done) | (simp; omega) | omega))))))
        have M5 : OwSR w3.heap.size w5.heap.size w5 (.slice o5 n c5) (oneT m n) := hR5.bel2 (by (repeat (first | exact Below.refl _ _ | (refine Below.setCell ?_ (by first | (simp; done) | (simp; omega) | omega) _) | (refine Below.alloc ?_ (by first | (simp; done) | (simp; omega) | omega) _) | (refine below_drewN ?_ _) | (refine Below.drew ?_) | (refine Below.trans ?_ (Below.mono hbe (by first | (simp; done) | (simp; omega) | omega))) | (refine Below.trans ?_ (Below.mono hba (by first | (simp; done) | (simp; omega) | omega))) | (refine Below.trans ?_ (Below.mono hb1 (by first | (simp; done) | (simp; omega) | omega))) | (refine Below.trans ?_ (Below.mono hb3 (by first | (simp; done) | (simp; omega) | omega))) | (refine Below.trans ?_ (Below.mono hb5 (by first | (simp; done) | (simp; omega) | omega))))))
        obtain ⟨⟨a60, a61⟩, a6f⟩ := id L6
        obtain ⟨⟨a70, a71⟩, a7f⟩ := id L7
        have a6g := a6f 0
        have a7g := a7f 0
        have a6h := a6f 1
        have a7h := a7f 1
        have hne : we.heap.size ≠ w0.heap.size := by omega
        have hne' : w0.heap.size ≠ we.heap.size := by omega
        have hb6_ : w0.heap.size ≤ we.heap.size := by omega
        have hb7_ : w0.heap.size ≤ w0.heap.size := by omega
        have y36 : we.heap.size < w1.heap.size ∨ w3.heap.size ≤ we.heap.size := by omega
        have y37 : w0.heap.size < w1.heap.size ∨ w3.heap.size ≤ w0.heap.size := by omega
        have y56 : we.heap.size < w3.heap.size ∨ w5.heap.size ≤ we.heap.size := by omega
        have y57 : w0.heap.size < w3.heap.size ∨ w5.heap.size ≤ w0.heap.size := by omega
        have y5 : w0.heap.size ≤ w3.heap.size := by omega
        go_simp
        (try go_wp2_with fail)
        refine hK.out _ _ (fun h => absurd h (by decide)) ?_
        clear hK K
        try simp only [List.getElem_toArray, List.getElem_cons_zero, List.getElem_cons_succ, Act.put, List.setIfInBounds_toArray, List.set_cons_zero, List.set_cons_succ]
        refine wpAnyK_oneL (i := 9) rfl (by as_aux_lemma => kernel_rfl) (fun K hK => ?_)
        go_simp
        (try go_wp2_with fail)
        refine hK.out _ _ (fun h => absurd h (by decide)) ?_
        clear hK K
        try simp only [List.getElem_toArray, List.getElem_cons_zero, List.getElem_cons_succ, Act.put, List.setIfInBounds_toArray, List.set_cons_zero, List.set_cons_succ]
        refine wpAnyK_done (by as_aux_lemma => kernel_rfl) ?_ _
        go_wp2_with fail
        go_meet
        exact ⟨_, _, o3, o5, c3, c5, rfl, rfl, ((L6.put _ _).put' (a := ⟨_, 0, none⟩) hne' _).put' (a := ⟨_, 1, none⟩) hne' _, ((L7.put' (a := ⟨_, 0, none⟩) hne _).put' (a := ⟨_, 1, none⟩) hne _).put _ _, hb6_, hb7_, hne, ((((M3.put y36 0 _).put y36 1 _).put y37 0 _).put y37 1 _).live y37 (by simp; omega), ((((M5.put y56 0 _).put y56 1 _).put y57 0 _).put y57 1 _).ow.mono y5, (((Below.setCell (Below.setCell (by (repeat (first | exact Below.refl _ _ | (refine Below.setCell ?_ (by first | (simp; done) | (simp; omega) | omega) _) | (refine Below.alloc ?_ (by first | (simp; done) | (simp; omega) | omega) _) | (refine below_drewN ?_ _) | (refine Below.drew ?_) | (refine Below.trans ?_ (Below.mono hbe (by first | (simp; done) | (simp; omega) | omega))) | (refine Below.trans ?_ (Below.mono hba (by first | (simp; done) | (simp; omega) | omega))) | (refine Below.trans ?_ (Below.mono hb1 (by first | (simp; done) | (simp; omega) | omega))) | (refine Below.trans ?_ (Below.mono hb3 (by first | (simp; done) | (simp; omega) | omega))) | (refine Below.trans ?_ (Below.mono hb5 (by first | (simp; done) | (simp; omega) | omega)))))) (p := ⟨_, 0, none⟩) hb6_ _) (p := ⟨_, 1, none⟩) hb6_ _).setCell (p := ⟨_, 0, none⟩) hb7_ _).setCell (p := ⟨_, 1, none⟩) hb7_ _)⟩
  case rest =>
  obtain ⟨w2, rfl⟩ : ∃ u, u = wc := ⟨_, rfl⟩
  obtain ⟨b3, b4, o3, o4, c3, c4, rfl, rfl, R3, R4, hb3, hb4, hne, hL, hO, hb⟩ := hcut
  clear x0 x1
  have B2 := B0.trans (hb.mono B0.size)
  have X2 := X0.below hb (Nat.le_refl _)
  have R2 := R0.below hb (Nat.le_refl _)
  have hu2 := hu0.below hb (Nat.le_refl _)
  have hs2 := hb.size
  have hB0 := B0.size
  clear hb
  obtain ⟨x0, x1⟩ := id X2
  go_wp2_with fail
  clear x0 x1
  refine (degreeP_c m o n c _ hml).mono ?_
  rintro e w3 ⟨rfl, hb⟩
  have X3 := X2.below hb (Nat.le_refl _)
  have R3' := R3.below hb (Nat.le_refl _)
  have R4' := R4.below hb (Nat.le_refl _)
  have RR := R2.below hb (Nat.le_refl _)
  have hu3 := hu2.below hb (Nat.le_refl _)
  have hO3 := hO.below hb
  have hL3 : LiveE b4 (fun w => RdT w (.slice o3 n c3) (subT m n (oneT m n) t)) w3 := fun u' hk => hL u' (fun k h1 h2 => (hk k (by have := hb.size; omega) h2).trans (hb.block k h1))
  have B3 := B2.trans (hb.mono B2.size)
  have hs3 := hb.size
  have l4 := R4.1.lt
  have l3 := R3.1.lt
  clear hb X2 R3 R4 R2 hu2 hO hL B2
  obtain ⟨r, hr⟩ : ∃ r, r = subT m n (oneT m n) t := ⟨_, rfl⟩
  have HRr : PlaT m n r := by rw [hr]; exact PlaT.sub (by omega) n _ _
  rw [← hr] at hL3
  have HRd := Lib.hid hr
  clear hr
  go_wp2_with fail
  go_loopw [13] (fun i wr => ∃ (k : Nat) (ov : Option Addr) (cv : Nat), k + 1 ≤ n ∧ i = .int .i64 (k : Int) ∧ OwS wr w0.heap.size (.slice ov n cv) (geoT m n r k) ∧ RB2 wr b4 (.int .i64 m) (.slice ov n cv) ∧ w3.grownBy wr (some b4)) (fun i _ => n - (intOf i).toNat)
  case atStart => exact ⟨0, o4, c4, by omega, rfl, hO3, R4', World.grownBy.refl _ _⟩
  case round =>
    obtain ⟨k, ov, cv, hk, rfl, hO, OO, hg⟩ := hrel
    clear hO3 R4'
    have Xr := X3.grown hg (by simp; omega)
    have R3r := R3'.grown hg (by simp; omega)
    have RRr := RR.grown hg (by simp; omega)
    have Br := below_gr B3 hg (by omega) (by omega)
    have hgs := hg.size
    have hLr := hL3.grown hg
    (try dsimp only at hLr)
    have HS := Lib.hid (show geoT m n r (k + 1) = addT m n (timesT m n (geoT m n r k) r) (oneT m n) from rfl)
    have HG := PlaT.geo (show 0 < m by omega) n r k
    have HE := Lib.hid (show k + 1 = n → geoT m n r k = invT m n t from fun h => by unfold invT; rw [← HRd.out, ← h]; rfl)
    generalize geoT m n r k = g at hO HS HG HE
    by_cases hlt : k + 1 < n
    · have i0 : (k : Int) < (n : Int) - 1 := by omega
      go_wp2_with fail
      have hd0 : Below wr.heap.size wr wr.drew := (Below.refl _ _).drew
      have hsd0 := hd0.size
      have hlb_OO := OO.1.lt
      obtain ⟨⟨q0_OO_0, q0_OO_1⟩, qf0_OO⟩ := OO.below (Below.refl wr.heap.size wr) (Nat.le_refl _)
      obtain ⟨q0_R3r1_0, q0_R3r1_1⟩ := R3r.1.below (Below.refl wr.heap.size wr) (Nat.le_refl _)
      obtain ⟨q0_Xr_0, q0_Xr_1⟩ := Xr.below (Below.refl wr.heap.size wr) (Nat.le_refl _)
      refine wp_region_S (S := fun w' => w'.cell? ⟨b4 , 0, none⟩ = some (.int .i64 m) ∧ w'.cell? ⟨b4 , 1, none⟩ = some (.slice ov n cv) ∧ w'.cell? ⟨b3, 0, none⟩ = some (.int .i64 m) ∧ w'.cell? ⟨b3, 1, none⟩ = some (.slice o3 n c3) ∧ w'.cell? ⟨w.heap.size, 0, none⟩ = some (.int .i64 m) ∧ w'.cell? ⟨w.heap.size, 1, none⟩ = some (.slice o n c)) 6 (by kernel_rfl) ?_
      have hHeld : (fun w' : World => w'.cell? ⟨b4 , 0, none⟩ = some (.int .i64 m) ∧ w'.cell? ⟨b4 , 1, none⟩ = some (.slice ov n cv) ∧ w'.cell? ⟨b3, 0, none⟩ = some (.int .i64 m) ∧ w'.cell? ⟨b3, 1, none⟩ = some (.slice o3 n c3) ∧ w'.cell? ⟨w.heap.size, 0, none⟩ = some (.int .i64 m) ∧ w'.cell? ⟨w.heap.size, 1, none⟩ = some (.slice o n c)) wr.drew := by go_keep
      refine' wpAnyS_takeL (i := 0) (v := _) rfl (by kernel_rfl) (by kernel_rfl) (by kernel_rfl) (by kernel_rfl) (fun _ _ _ h => h) (Or.inl ⟨by rfl, ?yT4⟩) hHeld ?rT4
      case yT4 => (intro w' hSw; (try dsimp only at hSw); go_simp; try with_reducible rfl)
      try simp only [List.getElem_toArray, List.getElem_cons_zero, List.getElem_cons_succ, Act.put, List.setIfInBounds_toArray, List.set_cons_zero, List.set_cons_succ]
      refine' wpAnyS_takeL (i := 1) (v := _) rfl (by kernel_rfl) (by kernel_rfl) (by kernel_rfl) (by kernel_rfl) (fun _ _ _ h => h) (Or.inl ⟨by rfl, ?yT5⟩) hHeld ?rT5
      case yT5 => (intro w' hSw; (try dsimp only at hSw); go_simp; try with_reducible rfl)
      try simp only [List.getElem_toArray, List.getElem_cons_zero, List.getElem_cons_succ, Act.put, List.setIfInBounds_toArray, List.set_cons_zero, List.set_cons_succ]
      refine' wpAnyS_takeL (i := 3) (v := _) rfl (by kernel_rfl) (by kernel_rfl) (by kernel_rfl) (by kernel_rfl) (fun _ _ _ h => h) (Or.inl ⟨by rfl, ?yT6⟩) hHeld ?rT6
      case yT6 => (intro w' hSw; (try dsimp only at hSw); go_simp; try with_reducible rfl)
      try simp only [List.getElem_toArray, List.getElem_cons_zero, List.getElem_cons_succ, Act.put, List.setIfInBounds_toArray, List.set_cons_zero, List.set_cons_succ]
      refine wpAnyS_oneL (i := 2) rfl (by kernel_rfl) (fun K hK => ?_)
      go_simp
      go_at_call 38
      refine (timesP_c m m n _ _ g r _ ((hO.rd).below (by (repeat (first | exact Below.refl _ _ | (refine Below.setCell ?_ (by first | (simp; done) | (simp; omega) | omega) _) | (refine Below.alloc ?_ (by first | (simp; done) | (simp; omega) | omega) _) | (refine below_drewN ?_ _) | (refine Below.drew ?_)))) (Nat.le_refl _)) ((hLr).below (by (repeat (first | exact Below.refl _ _ | (refine Below.setCell ?_ (by first | (simp; done) | (simp; omega) | omega) _) | (refine Below.alloc ?_ (by first | (simp; done) | (simp; omega) | omega) _) | (refine below_drewN ?_ _) | (refine Below.drew ?_)))) (Nat.le_refl _)) h1 hn hm (by omega) HG HRr).mono ?_
      rintro e wd1 ⟨vt1, rfl, hod1, hbd1⟩
      obtain ⟨ot, ct, rfl⟩ := hod1.shapeN (n := n) (timesT_len _ _ _ _)
      have hd1 : Below wr.heap.size wr wd1 := (by (repeat (first | exact Below.refl _ _ | (refine Below.setCell ?_ (by first | (simp; done) | (simp; omega) | omega) _) | (refine Below.alloc ?_ (by first | (simp; done) | (simp; omega) | omega) _) | (refine below_drewN ?_ _) | (refine Below.drew ?_) | (refine Below.trans ?_ (Below.mono hbd1 (by first | (simp; done) | (simp; omega) | omega))))))
      have hsd1 := hd1.size
      obtain ⟨⟨q1_OO_0, q1_OO_1⟩, qf1_OO⟩ := OO.below hd1 (Nat.le_refl _)
      obtain ⟨q1_R3r1_0, q1_R3r1_1⟩ := R3r.1.below hd1 (Nat.le_refl _)
      obtain ⟨q1_Xr_0, q1_Xr_1⟩ := Xr.below hd1 (Nat.le_refl _)
      go_wp2_with fail
      clear hHeld
      have hHeld : (fun w' : World => w'.cell? ⟨b4 , 0, none⟩ = some (.int .i64 m) ∧ w'.cell? ⟨b4 , 1, none⟩ = some (.slice ov n cv) ∧ w'.cell? ⟨b3, 0, none⟩ = some (.int .i64 m) ∧ w'.cell? ⟨b3, 1, none⟩ = some (.slice o3 n c3) ∧ w'.cell? ⟨w.heap.size, 0, none⟩ = some (.int .i64 m) ∧ w'.cell? ⟨w.heap.size, 1, none⟩ = some (.slice o n c)) wd1 := by go_keep
      refine hK.out _ _ (fun _ => hHeld) ?_
      clear hK K
      try simp only [List.getElem_toArray, List.getElem_cons_zero, List.getElem_cons_succ, Act.put, List.setIfInBounds_toArray, List.set_cons_zero, List.set_cons_succ]
      refine wpAnyS_oneL (i := 4) rfl (by kernel_rfl) (fun K hK => ?_)
      go_simp
      go_at_call 41
      refine (one_n m o n c _ h1 hn hm hm').mono ?_
      rintro e wd2 ⟨vc2, rfl, hod2, hbd2⟩
      obtain ⟨oc, cc, rfl⟩ := hod2.shapeN (n := n) (tri_len _ _)
      have hd2 : Below wr.heap.size wr wd2 := (by (repeat (first | exact Below.refl _ _ | (refine Below.setCell ?_ (by first | (simp; done) | (simp; omega) | omega) _) | (refine Below.alloc ?_ (by first | (simp; done) | (simp; omega) | omega) _) | (refine below_drewN ?_ _) | (refine Below.drew ?_) | (refine Below.trans ?_ (Below.mono hbd1 (by first | (simp; done) | (simp; omega) | omega))) | (refine Below.trans ?_ (Below.mono hbd2 (by first | (simp; done) | (simp; omega) | omega))))))
      have hsd2 := hd2.size
      obtain ⟨⟨q2_OO_0, q2_OO_1⟩, qf2_OO⟩ := OO.below hd2 (Nat.le_refl _)
      obtain ⟨q2_R3r1_0, q2_R3r1_1⟩ := R3r.1.below hd2 (Nat.le_refl _)
      obtain ⟨q2_Xr_0, q2_Xr_1⟩ := Xr.below hd2 (Nat.le_refl _)
      go_wp2_with fail
      clear hHeld
      have hHeld : (fun w' : World => w'.cell? ⟨b4 , 0, none⟩ = some (.int .i64 m) ∧ w'.cell? ⟨b4 , 1, none⟩ = some (.slice ov n cv) ∧ w'.cell? ⟨b3, 0, none⟩ = some (.int .i64 m) ∧ w'.cell? ⟨b3, 1, none⟩ = some (.slice o3 n c3) ∧ w'.cell? ⟨w.heap.size, 0, none⟩ = some (.int .i64 m) ∧ w'.cell? ⟨w.heap.size, 1, none⟩ = some (.slice o n c)) wd2 := by go_keep
      refine hK.out _ _ (fun _ => hHeld) ?_
      clear hK K
      try simp only [List.getElem_toArray, List.getElem_cons_zero, List.getElem_cons_succ, Act.put, List.setIfInBounds_toArray, List.set_cons_zero, List.set_cons_succ]
      refine wpAnyS_oneL (i := 5) rfl (by kernel_rfl) (fun K hK => ?_)
      go_simp
      go_at_call 40
      refine (plusP_n m m n _ _ (timesT m n g r) (oneT m n) _ ((hod1.below (by (repeat (first | exact Below.refl _ _ | (refine Below.setCell ?_ (by first | (simp; done) | (simp; omega) | omega) _) | (refine Below.alloc ?_ (by first | (simp; done) | (simp; omega) | omega) _) | (refine below_drewN ?_ _) | (refine Below.drew ?_) | (refine Below.trans ?_ (Below.mono hbd2 (by first | (simp; done) | (simp; omega) | omega)))))))).rd ((hod2.below (by (repeat (first | exact Below.refl _ _ | (refine Below.setCell ?_ (by first | (simp; done) | (simp; omega) | omega) _) | (refine Below.alloc ?_ (by first | (simp; done) | (simp; omega) | omega) _) | (refine below_drewN ?_ _) | (refine Below.drew ?_)))))).rd h1 hn hm hm' (timesT_ok (by omega) _ _ _) (PlaT.one (by omega) n)).mono ?_
      rintro e wd3 ⟨vp3, rfl, hod3, hbd3⟩
      obtain ⟨op, cp, rfl⟩ := hod3.shapeN (n := n) (tri_len _ _)
      have hd3 : Below wr.heap.size wr wd3 := (by (repeat (first | exact Below.refl _ _ | (refine Below.setCell ?_ (by first | (simp; done) | (simp; omega) | omega) _) | (refine Below.alloc ?_ (by first | (simp; done) | (simp; omega) | omega) _) | (refine below_drewN ?_ _) | (refine Below.drew ?_) | (refine Below.trans ?_ (Below.mono hbd1 (by first | (simp; done) | (simp; omega) | omega))) | (refine Below.trans ?_ (Below.mono hbd2 (by first | (simp; done) | (simp; omega) | omega))) | (refine Below.trans ?_ (Below.mono hbd3 (by first | (simp; done) | (simp; omega) | omega))))))
      have hsd3 := hd3.size
      obtain ⟨⟨q3_OO_0, q3_OO_1⟩, qf3_OO⟩ := OO.below hd3 (Nat.le_refl _)
      obtain ⟨q3_R3r1_0, q3_R3r1_1⟩ := R3r.1.below hd3 (Nat.le_refl _)
      obtain ⟨q3_Xr_0, q3_Xr_1⟩ := Xr.below hd3 (Nat.le_refl _)
      go_wp2_with fail
      clear hHeld
      have hHeld : (fun w' : World => w'.cell? ⟨b4 , 0, none⟩ = some (.int .i64 m) ∧ w'.cell? ⟨b4 , 1, none⟩ = some (.slice ov n cv) ∧ w'.cell? ⟨b3, 0, none⟩ = some (.int .i64 m) ∧ w'.cell? ⟨b3, 1, none⟩ = some (.slice o3 n c3) ∧ w'.cell? ⟨w.heap.size, 0, none⟩ = some (.int .i64 m) ∧ w'.cell? ⟨w.heap.size, 1, none⟩ = some (.slice o n c)) wd3 := by go_keep
      refine hK.out _ _ (fun _ => hHeld) ?_
      clear hK K
      try simp only [List.getElem_toArray, List.getElem_cons_zero, List.getElem_cons_succ, Act.put, List.setIfInBounds_toArray, List.set_cons_zero, List.set_cons_succ]
      refine wpAnyS_oneL (i := 6) rfl (by kernel_rfl) (fun K hK => ?_)
      go_simp
      (try go_wp2_with fail)
      refine hK.out _ _ (fun h => absurd h (by decide)) ?_
      clear hK K
      try simp only [List.getElem_toArray, List.getElem_cons_zero, List.getElem_cons_succ, Act.put, List.setIfInBounds_toArray, List.set_cons_zero, List.set_cons_succ]
      refine wpAnyS_done (by kernel_rfl) ?_ _
      have hOn := OO.below hd3 (Nat.le_refl _)
      go_wp2_with fail
      have hgZ : wr.grownBy ((wd3.setCell ⟨b4 , 0, none⟩ (.int .i64 m)).setCell ⟨b4 , 1, none⟩ (.slice op n cp)) (some b4 ) := (gr_put (gr_put (show wr.grownBy wd3 (some b4 ) from World.grownBy.mk hd3.os hd3.tape hd3.output hd3.size (fun k hk _ => hd3.block k hk)) _ _) _ _)
      have hOZ : RB2 ((wd3.setCell ⟨b4 , 0, none⟩ (.int .i64 m)).setCell ⟨b4 , 1, none⟩ (.slice op n cp)) b4  (.int .i64 m) (.slice op n cp) := RB2.put hOn _ _
      have hRZ : OwS ((wd3.setCell ⟨b4 , 0, none⟩ (.int .i64 m)).setCell ⟨b4 , 1, none⟩ (.slice op n cp)) wr.heap.size (.slice op n cp) (addT m n (timesT m n g r) (oneT m n)) := ((hod3.low (by first | (simp; done) | (simp; omega) | omega) _).low (by first | (simp; done) | (simp; omega) | omega) _).mono (by first | (simp; done) | (simp; omega) | omega)
      rw [← HS.out] at hRZ
      exact ⟨⟨k + 1, op, cp, by omega, by go_num, hRZ.mono (by omega), hOZ, hg.trans hgZ⟩, by simp [intOf]; omega⟩
    · have i0 : ¬ (k : Int) < (n : Int) - 1 := by omega
      have hE := HE.out (by omega)
      rw [hE] at hO
      obtain ⟨⟨z0, z1⟩, zf⟩ := id OO
      obtain ⟨⟨r0, r1⟩, rf⟩ := id RRr
      go_wp2
      refine bodyPost_ret (v := .agg #[.int .i64 m, .slice ov n cv]) (by simp [results, Try.results42, go_sem, r0, r1]) rfl ⟨_, rfl, ?_, ?_⟩
      · exact ((hO.low (by first | (simp; done) | (simp; omega) | omega) _).low (by first | (simp; done) | (simp; omega) | omega) _).mono (by first | (simp; done) | (simp; omega) | omega)
      · (repeat (first | exact Below.refl _ _ | (refine Below.setCell ?_ (by first | (simp; done) | (simp; omega) | omega) _) | (refine Below.alloc ?_ (by first | (simp; done) | (simp; omega) | omega) _) | (refine below_drewN ?_ _) | (refine Below.drew ?_) | (refine Below.trans ?_ (Below.mono Br (by first | (simp; done) | (simp; omega) | omega)))))
end Go.Proofs.Ytmmneicblcjkjaa
