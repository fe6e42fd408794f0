/- Lemmas of SrcW. -/
import Derived.Test.YtcjinlfgeljmkaaWSSrcD
import Derived.Test.YtcjinlfgeljmkaaWSG1
set_option linter.unusedSimpArgs false
set_option linter.unusedVariables false
namespace Go.Proofs.Ytcjinlfgeljmkaa
open Go.RowKit

def WDr (L : Nat) (w w' : World) (B n b : Nat) (e : Ending) : Prop := ∃ p m v xs, e = .returned (.agg #[.int .i64 p, .int .i64 m, v]) ∧ OwI w' w.heap.size v xs ∧ xs.length ≤ L ∧ DW B n b w w'

set_option maxHeartbeats 1000000 in
set_option maxRecDepth 100000 in
theorem l13Draw_d (B n b : Nat) (w : World) (hs : Src w B n b) :
    Calls Try.prog 234 #[.pointer (some ⟨b, 0, none⟩)] w fun e w' => WDr 4 w w' B n b e := by
  have hlt := hs.lt
  go_enter Try.func234, Try.ntmps234
  go_wp2_with fail
  have hR0 := RB3.mk1 w (.int .i64 0) (.int .i64 0) (.slice none 0 0) 59
  have hd0 : DW B n b w (w.alloc (.cells #[.int .i64 0, .int .i64 0, .slice none 0 0] 59)) := (DW.refl hs).alloc _
  have hz0 : (w.alloc (.cells #[.int .i64 0, .int .i64 0, .slice none 0 0] 59)).heap.size = w.heap.size + 1 := by simp
  generalize w.alloc (.cells #[.int .i64 0, .int .i64 0, .slice none 0 0] 59) = w0 at hR0 hd0 hz0 ⊢
  refine (pick_d B n b _ _ [2, 2, 3, 3, 5, 7] _ w0 hd0.src (by omega) rfl rfl (by simp) (by simp)).mono ?_
  rintro e w1 ⟨p, rfl, hp, hd1, hz1⟩
  have hR1 := hR0.dw hd1 hlt
  have hd1 := hd0.trans hd1
  clear hR0 hd0 hp
  go_wp2_with fail
  refine (next_d B n b _ _ hd1.src).mono ?_
  rintro e w2 ⟨q, rfl, q0, q1, q2, hd2, hz2⟩
  have q1 := q1 (by omega)
  have hR2 := hR1.dw hd2 hlt
  have hd2 := hd1.trans hd2
  clear hR1 hd1 q2
  go_wp2_with fail
  refine (pick_d B n b _ _ [p, p, wrap64 (p * p), 4, 6, 2 + q, 10000] _ w2 hd2.src (by omega) rfl rfl (by simp) (by simp)).mono ?_
  rintro e w3 ⟨m, rfl, hm, hd3, hz3⟩
  have hR3 := hR2.dw hd3 hlt
  have hd3 := hd2.trans hd3
  clear hR2 hd2 hm
  clear hz0 hz1 hz2 hz3
  have hz3 := hd3.size
  have hl3 := hR3.1.lt
  go_wp2_with fail
  have hB4 := RB3.mk1 w3 (.int .i64 p) (.int .i64 m) (.slice none 0 0) 59
  have hR4 := hR3.below (w' := w3.alloc (.cells #[.int .i64 p, .int .i64 m, .slice none 0 0] 59)) (by (repeat (first | exact Below.refl _ _ | (refine Below.setCell ?_ (by first | (simp; done) | (simp; omega) | omega) _) | (refine Below.alloc ?_ (by first | (simp; done) | (simp; omega) | omega) _) | (refine below_drewN ?_ _) | (refine Below.drew ?_)))) (Nat.le_refl _)
  have hd4 := hd3.alloc (.cells #[.int .i64 p, .int .i64 m, .slice none 0 0] 59)
  generalize w3.alloc (.cells #[.int .i64 p, .int .i64 m, .slice none 0 0] 59) = w4 at hB4 hR4 hd4 ⊢
  refine (next_d B n b _ _ hd4.src).mono ?_
  rintro e w5 ⟨t, rfl, t0, t1, t2, hd5, hz5⟩
  have t1 := t1 (by omega)
  have hR5 := hR4.dw hd5 hlt
  have hB5 := hB4.dw hd5 (by omega)
  have hd5 := hd4.trans hd5
  clear hR4 hB4 hd4 hR3 hd3 hz5 t2
  obtain ⟨t, rfl⟩ : ∃ k : Nat, t = k := ⟨t.toNat, by omega⟩
  go_wp2_with fail
  go_loopw [6] (fun i wr => ∃ (k : Nat) (xs : List Int) (o : Option Addr) (c : Nat), k + xs.length ≤ 4 ∧ i = .int .i64 k ∧ RB3 wr w.heap.size (.int .i64 0) (.int .i64 0) (.slice none 0 0) ∧ RB3 wr w3.heap.size (.int .i64 p) (.int .i64 m) (.slice o xs.length c) ∧ OwI wr (w3.heap.size + 1) (.slice o xs.length c) xs ∧ DW B n b w wr) (fun i _ => (intOf i).toNat)
  case atStart => exact ⟨1 + t, [], none, 0, by simp; omega, by go_num, hR5, hB5, OwI.nil _ _, hd5⟩
  case round =>
    clear hR5 hB5 hd5
    obtain ⟨k, xs, o, c, hk, rfl, hR, hX, hO, hD⟩ := hrel
    have hlx := hX.1.lt
    by_cases hk0 : 0 < k
    · have i1 : (0 : Int) < (k : Int) := by omega
      obtain ⟨⟨x0, x1, x2⟩, xf⟩ := id hX
      go_wp2_with fail
      have hd0 : Below wr.heap.size wr wr.drew := (Below.refl _ _).drew
      have hsd0 := hd0.size
      refine wp_region_K (S := fun w' => w'.cell? ⟨w3.heap.size, 2, none⟩ = some (.slice o xs.length c)) [6, 7, 8] (by kernel_rfl) ?_
      have hHeld : (fun w' : World => w'.cell? ⟨w3.heap.size, 2, none⟩ = some (.slice o xs.length c)) wr.drew := by go_keep
      refine' wpAnyK_takeL (i := 0) (v := _) rfl (by kernel_rfl) (by kernel_rfl) (by kernel_rfl) (by kernel_rfl) (fun _ _ _ h => h) (Or.inl ⟨by rfl, ?yT1⟩) hHeld ?rT1
      case yT1 => (intro w' hSw; (try dsimp only at hSw); go_simp; try with_reducible rfl)
      try simp only [List.getElem_toArray, List.getElem_cons_zero, List.getElem_cons_succ, Act.put, List.setIfInBounds_toArray, List.set_cons_zero, List.set_cons_succ]
      refine' wpAnyK_takeL (i := 1) (v := _) rfl (by kernel_rfl) (by kernel_rfl) (by kernel_rfl) (by kernel_rfl) (fun _ _ _ h => h) (Or.inl ⟨by rfl, ?yT2⟩) hHeld ?rT2
      case yT2 => (intro w' hSw; (try dsimp only at hSw); go_simp; try with_reducible rfl)
      try simp only [List.getElem_toArray, List.getElem_cons_zero, List.getElem_cons_succ, Act.put, List.setIfInBounds_toArray, List.set_cons_zero, List.set_cons_succ]
      refine' wpAnyK_takeL (i := 2) (v := _) rfl (by kernel_rfl) (by kernel_rfl) (by kernel_rfl) (by kernel_rfl) (fun _ _ _ h => h) (Or.inl ⟨by rfl, ?yT3⟩) hHeld ?rT3
      case yT3 => (intro w' hSw; (try dsimp only at hSw); go_simp; try with_reducible rfl)
      try simp only [List.getElem_toArray, List.getElem_cons_zero, List.getElem_cons_succ, Act.put, List.setIfInBounds_toArray, List.set_cons_zero, List.set_cons_succ]
      refine' wpAnyK_takeL (i := 3) (v := _) rfl (by kernel_rfl) (by kernel_rfl) (by kernel_rfl) (by kernel_rfl) (fun _ _ _ h => h) (Or.inl ⟨by rfl, ?yT4⟩) hHeld ?rT4
      case yT4 => (intro w' hSw; (try dsimp only at hSw); go_simp; try with_reducible rfl)
      try simp only [List.getElem_toArray, List.getElem_cons_zero, List.getElem_cons_succ, Act.put, List.setIfInBounds_toArray, List.set_cons_zero, List.set_cons_succ]
      refine wpAnyK_oneL (i := 4) rfl (by kernel_rfl) (fun K hK => ?_)
      go_simp
      go_at_call 116
      refine (next_d B n b _ _ hD.drew.src).mono ?_
      rintro e w6 ⟨y, rfl, y0, y1, y2, hd6, hz6⟩
      have hX6 := (show RB3 wr.drew _ _ _ _ from hX).dw hd6 (by omega)
      have hR6 := (show RB3 wr.drew _ _ _ _ from hR).dw hd6 hlt
      have hO6 := (show OwI wr.drew _ _ _ from hO).dw hd6 (by omega)
      have hD6 := hD.drew.trans hd6
      clear y1 y2 hd6 hz6 hHeld
      have hl6 := hX6.1.lt
      obtain ⟨⟨z0, z1, z2⟩, zf⟩ := id hX6
      go_wp2_with fail
      have hHeld : (fun w' : World => w'.cell? ⟨w3.heap.size, 2, none⟩ = some (.slice o xs.length c)) w6 := by go_keep
      refine hK.out _ _ (fun _ => hHeld) ?_
      clear hK K
      try simp only [List.getElem_toArray, List.getElem_cons_zero, List.getElem_cons_succ, Act.put, List.setIfInBounds_toArray, List.set_cons_zero, List.set_cons_succ]
      refine wpAnyK_oneL (i := 5) rfl (by kernel_rfl) (fun K hK => ?_)
      go_simp
      (try go_wp2_with fail)
      have hHeld2 : (fun w' : World => w'.cell? ⟨w3.heap.size, 2, none⟩ = some (.slice o xs.length c)) (w6.alloc (.cells #[.int .i64 y] 2)) := by go_keep
      clear hHeld
      have hHeld := hHeld2
      clear hHeld2
      refine hK.out _ _ (fun _ => hHeld) ?_
      clear hK K
      try simp only [List.getElem_toArray, List.getElem_cons_zero, List.getElem_cons_succ, Act.put, List.setIfInBounds_toArray, List.set_cons_zero, List.set_cons_succ]
      refine wpAnyK_oneL (i := 6) rfl (by kernel_rfl) (fun K hK => ?_)
      clear hHeld
      refine stR _ rfl _ _ rfl (w3.heap.size + 1) (.slice o xs.length c) xs rfl (hO6.alloc _) ⟨w6.heap.size, 0, none⟩ 1 1 [y] rfl (OwI.lit w6 [y] (by simp [maxLen])).rd (by simp; omega) (by simp; omega) ?_
      intro o1 c1 w7 hO7 hg7 hb7
      have hX7 := (hX6.below (w' := w6.alloc (.cells #[.int .i64 y] 2)) (by (repeat (first | exact Below.refl _ _ | (refine Below.setCell ?_ (by first | (simp; done) | (simp; omega) | omega) _) | (refine Below.alloc ?_ (by first | (simp; done) | (simp; omega) | omega) _) | (refine below_drewN ?_ _) | (refine Below.drew ?_)))) (Nat.le_refl _)).grown hg7 (fun e => by have := hO6.lt _ e.symm; omega)
      have hR7 := (hR6.below (w' := w6.alloc (.cells #[.int .i64 y] 2)) (by (repeat (first | exact Below.refl _ _ | (refine Below.setCell ?_ (by first | (simp; done) | (simp; omega) | omega) _) | (refine Below.alloc ?_ (by first | (simp; done) | (simp; omega) | omega) _) | (refine below_drewN ?_ _) | (refine Below.drew ?_)))) (Nat.le_refl _)).grown hg7 (fun e => by have := hO6.lt _ e.symm; omega)
      have hD7 := (hD6.alloc (.cells #[.int .i64 y] 2)).grown hg7 (fun k hk => by have := hO6.lt _ hk; omega)
      clear hX6 hR6 hD6 hO6 hg7 hb7 z0 z1 z2 zf
      have hl7 := hX7.1.lt
      obtain ⟨⟨z0, z1, z2⟩, zf⟩ := id hX7
      refine hK.out _ _ (fun h => absurd h (by decide)) ?_
      clear hK K
      try simp only [List.getElem_toArray, List.getElem_cons_zero, List.getElem_cons_succ, Act.put, List.setIfInBounds_toArray, List.set_cons_zero, List.set_cons_succ]
      refine wpAnyK_oneL (i := 7) rfl (by kernel_rfl) (fun K hK => ?_)
      go_simp
      (try go_wp2_with fail)
      refine hK.out _ _ (fun h => absurd h (by decide)) ?_
      clear hK K
      try simp only [List.getElem_toArray, List.getElem_cons_zero, List.getElem_cons_succ, Act.put, List.setIfInBounds_toArray, List.set_cons_zero, List.set_cons_succ]
      refine wpAnyK_oneL (i := 8) rfl (by kernel_rfl) (fun K hK => ?_)
      go_simp
      (try go_wp2_with fail)
      refine hK.out _ _ (fun h => absurd h (by decide)) ?_
      clear hK K
      try simp only [List.getElem_toArray, List.getElem_cons_zero, List.getElem_cons_succ, Act.put, List.setIfInBounds_toArray, List.set_cons_zero, List.set_cons_succ]
      refine wpAnyK_done (by kernel_rfl) ?_ _
      go_wp2_with fail
      go_wp2
      exact ⟨⟨k - 1, xs ++ [y], o1, c1, by simp; omega, by go_num, hR7.off (by omega) _, by rw [show (xs ++ [y]).length = xs.length + 1 by simp]; exact hX7.set2 _, hO7.low (by simp) _, hD7.put (by omega) _ _⟩, by simp [intOf]; omega⟩
    · obtain rfl : k = 0 := by omega
      obtain ⟨⟨x0, x1, x2⟩, xf⟩ := id hX
      obtain ⟨⟨r0, r1, r2⟩, rf⟩ := id hR
      go_wp2_with fail
      refine bodyPost_ret (v := .agg #[.int .i64 p, .int .i64 m, .slice o xs.length c]) (by simp [results, Try.results234, go_sem, r0, r1, r2]) rfl ⟨p, m, _, xs, rfl, ?_, by omega, ?_⟩
      · exact (((hO.low (by simp; omega) _).low (by simp; omega) _).low (by simp; omega) _).mono (by omega)
      · exact ((hD.put (Nat.le_refl _) _ _).put (Nat.le_refl _) _ _).put (Nat.le_refl _) _ _
set_option maxHeartbeats 1000000 in
set_option maxRecDepth 100000 in
theorem l13Spoil_d (B n b : Nat) (w : World) (hs : Src w B n b) :
    Calls Try.prog 187 #[.pointer (some ⟨b, 0, none⟩)] w fun e w' => WDr 8 w w' B n b e := by
  have hlt := hs.lt
  go_enter Try.func187, Try.ntmps187
  go_wp2_with fail
  have hR0 := RB3.mk1 w (.int .i64 0) (.int .i64 0) (.slice none 0 0) 59
  have hd0 : DW B n b w (w.alloc (.cells #[.int .i64 0, .int .i64 0, .slice none 0 0] 59)) := (DW.refl hs).alloc _
  have hz0 := hd0.size
  generalize w.alloc (.cells #[.int .i64 0, .int .i64 0, .slice none 0 0] 59) = w0 at hR0 hd0 hz0 ⊢
  refine (l13Draw_d B n b w0 hd0.src).mono ?_
  rintro e w1 ⟨p, m, v, xs, rfl, hO1, hx, hd1⟩
  obtain ⟨o, c, rfl⟩ := hO1.shape
  have hl0 := hR0.1.lt
  have hR1 := hR0.dw hd1 hlt
  have hz1 := hd1.size
  have hd1 := hd0.trans hd1
  clear hR0 hd0
  go_wp2_with fail
  have hX2 := RB3.mk1 w1 (.int .i64 p) (.int .i64 m) (.slice o xs.length c) 59
  have hR2 := hR1.below (w' := w1.alloc (.cells #[.int .i64 p, .int .i64 m, .slice o xs.length c] 59)) (by (repeat (first | exact Below.refl _ _ | (refine Below.setCell ?_ (by first | (simp; done) | (simp; omega) | omega) _) | (refine Below.alloc ?_ (by first | (simp; done) | (simp; omega) | omega) _) | (refine below_drewN ?_ _) | (refine Below.drew ?_)))) (Nat.le_refl _)
  have hd2 := hd1.alloc (.cells #[.int .i64 p, .int .i64 m, .slice o xs.length c] 59)
  have hO2 := hO1.alloc (.cells #[.int .i64 p, .int .i64 m, .slice o xs.length c] 59)
  have hlt2 := hO1.lt
  have hO2' : ∀ k, Value.ownBlock (.slice o xs.length c) = some k → w0.heap.size ≤ k ∧ k ≠ w1.heap.size := fun k hk => by have := hlt2 k hk; omega
  clear hlt2 hO1 hR1 hd1
  generalize w1.alloc (.cells #[.int .i64 p, .int .i64 m, .slice o xs.length c] 59) = w2 at hX2 hR2 hd2 hO2 ⊢
  refine (next_d B n b _ _ hd2.src).mono ?_
  rintro e w3 ⟨t, rfl, t0, t1, t2, hd3, hz3⟩
  have hR3 := hR2.dw hd3 hlt
  have hX3 := hX2.dw hd3 (by omega)
  have hO3 := hO2.dw hd3 (by omega)
  have hd3 := hd2.trans hd3
  clear hR2 hX2 hO2 hd2 t1 t2 hz3
  have HO := Lib.hid hO2'
  clear hO2'
  have n1 : w.heap.size ≠ w1.heap.size := by omega
  have n2 : w1.heap.size ≠ w.heap.size := by omega
  by_cases h0 : t = 0
  · subst h0
    go_wp2_with fail
    refine (pick_d B n b _ _ [4, 11, 1] _ w3 hd3.src (by omega) rfl rfl (by simp) (by simp)).mono ?_
    rintro e w4 ⟨r, rfl, hr, hd4, hz4⟩
    have hR4 := hR3.dw hd4 hlt
    have hX4 := hX3.dw hd4 (by omega)
    have hO4 := hO3.dw hd4 (by omega)
    have hd4 := hd3.trans hd4
    obtain ⟨⟨x0, x1, x2⟩, xf⟩ := id hX4
    obtain ⟨⟨r0, r1, r2⟩, rf⟩ := id hR4
    go_wp2_with fail
    refine bodyPost_ret (v := .agg #[.int .i64 r, .int .i64 m, .slice o xs.length c]) (by simp [results, Try.results187, go_sem, r0, r1, r2]) rfl ⟨_, _, _, xs, rfl, ?_, by omega, ?_⟩
    · exact ((((hO4.ne (fun j hj => (HO.out j hj).2) _).low (by simp; omega) _).low (by simp; omega) _).low (by simp; omega) _).mono (by omega)
    · exact (((hd4.put (by omega) _ _).put (Nat.le_refl _) _ _).put (Nat.le_refl _) _ _).put (Nat.le_refl _) _ _
  by_cases h1 : t = 1
  · subst h1
    go_wp2_with fail
    refine (pick_d B n b _ _ [1, 10001, 2] _ w3 hd3.src (by omega) rfl rfl (by simp) (by simp)).mono ?_
    rintro e w4 ⟨r, rfl, hr, hd4, hz4⟩
    have hR4 := hR3.dw hd4 hlt
    have hX4 := hX3.dw hd4 (by omega)
    have hO4 := hO3.dw hd4 (by omega)
    have hd4 := hd3.trans hd4
    obtain ⟨⟨x0, x1, x2⟩, xf⟩ := id hX4
    obtain ⟨⟨r0, r1, r2⟩, rf⟩ := id hR4
    go_wp2_with fail
    refine bodyPost_ret (v := .agg #[.int .i64 p, .int .i64 r, .slice o xs.length c]) (by simp [results, Try.results187, go_sem, r0, r1, r2]) rfl ⟨_, _, _, xs, rfl, ?_, by omega, ?_⟩
    · exact ((((hO4.ne (fun j hj => (HO.out j hj).2) _).low (by simp; omega) _).low (by simp; omega) _).low (by simp; omega) _).mono (by omega)
    · exact (((hd4.put (by omega) _ _).put (Nat.le_refl _) _ _).put (Nat.le_refl _) _ _).put (Nat.le_refl _) _ _
  obtain ⟨⟨x0, x1, x2⟩, xf⟩ := id hX3
  obtain ⟨⟨r0, r1, r2⟩, rf⟩ := id hR3
  by_cases h2 : t = 2
  · subst h2
    have hl3 := hX3.1.lt
    have hX3a := hX3.below (w' := w3.alloc (.cells #[.int .i64 0, .int .i64 0, .int .i64 0, .int .i64 0] 2)) (by (repeat (first | exact Below.refl _ _ | (refine Below.setCell ?_ (by first | (simp; done) | (simp; omega) | omega) _) | (refine Below.alloc ?_ (by first | (simp; done) | (simp; omega) | omega) _) | (refine below_drewN ?_ _) | (refine Below.drew ?_)))) (Nat.le_refl _)
    have hR3a := hR3.below (w' := w3.alloc (.cells #[.int .i64 0, .int .i64 0, .int .i64 0, .int .i64 0] 2)) (by (repeat (first | exact Below.refl _ _ | (refine Below.setCell ?_ (by first | (simp; done) | (simp; omega) | omega) _) | (refine Below.alloc ?_ (by first | (simp; done) | (simp; omega) | omega) _) | (refine below_drewN ?_ _) | (refine Below.drew ?_)))) (Nat.le_refl _)
    have hd3a := hd3.alloc (.cells #[.int .i64 0, .int .i64 0, .int .i64 0, .int .i64 0] 2)
    have hl3r := hR3.1.lt
    go_wp2_with (at_builtin; refine apL _ rfl _ _ rfl w0.heap.size (.slice o xs.length c) xs rfl (hO3.alloc _) ⟨w3.heap.size, 0, none⟩ 4 4 [0, 0, 0, 0] rfl (OwI.lit w3 [0, 0, 0, 0] (by simp [maxLen])).rd (by simp; omega) (by simp) (by simp; omega) ?_; intro g1 c1 w4 hO4 hg4 hgl; have hX4 := hX3a.grown hg4 (fun e => (HO.out _ e.symm).2 rfl); have hR4 := hR3a.grown hg4 (fun e => by have := (HO.out _ e.symm).1; omega); have hd4 := hd3a.grown hg4 (fun k hk => by have := (HO.out _ hk).1; omega); have hgn := (show g1 ≠ w1.heap.size from by rcases hgl with e | e; exact (HO.out _ e).2; simp at e; omega); clear hgl hg4 hX3a hR3a hd3a; obtain ⟨⟨x0, x1, x2⟩, xf⟩ := id hX4; obtain ⟨⟨r0, r1, r2⟩, rf⟩ := id hR4)
    refine bodyPost_ret (v := .agg #[.int .i64 p, .int .i64 m, .slice (some ⟨g1, 0, none⟩) (xs.length + 4) c1]) (by simp [results, Try.results187, go_sem, r0, r1, r2]) rfl ⟨_, _, _, xs ++ [0, 0, 0, 0], rfl, ?_, by simp; omega, ?_⟩
    · rw [show xs.length + 4 = (xs ++ [0, 0, 0, 0]).length by simp]
      exact ((((hO4.ne (fun j hj => by cases hj; exact hgn) _).low (by simp; omega) _).low (by simp; omega) _).low (by simp; omega) _).mono (by omega)
    · exact (((hd4.put (by omega) _ _).put (Nat.le_refl _) _ _).put (Nat.le_refl _) _ _).put (Nat.le_refl _) _ _
  by_cases h3 : t = 3
  · subst h3
    go_wp2_with fail
    refine bodyPost_ret (v := .agg #[.int .i64 p, .int .i64 m, .slice none 0 0]) (by simp [results, Try.results187, go_sem, r0, r1, r2]) rfl ⟨_, _, _, [], rfl, OwI.nil _ _, by simp, ?_⟩
    exact (((hd3.put (by omega) _ _).put (Nat.le_refl _) _ _).put (Nat.le_refl _) _ _).put (Nat.le_refl _) _ _
  go_wp2_with fail
  refine bodyPost_ret (v := .agg #[.int .i64 p, .int .i64 m, .slice o xs.length c]) (by simp [results, Try.results187, go_sem, r0, r1, r2]) rfl ⟨_, _, _, xs, rfl, ?_, by omega, ?_⟩
  · exact (((hO3.low (by simp; omega) _).low (by simp; omega) _).low (by simp; omega) _).mono (by omega)
  · exact ((hd3.put (Nat.le_refl _) _ _).put (Nat.le_refl _) _ _).put (Nat.le_refl _) _ _
end Go.Proofs.Ytcjinlfgeljmkaa
