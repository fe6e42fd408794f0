/- Lemmas of SrcV. -/
import Derived.Test.YtcjinlfgeljmkaaWRSrcW
import Derived.Test.YtcjinlfgeljmkaaWRWittC
import Derived.Lib.MinMax
set_option linter.unusedSimpArgs false
set_option linter.unusedVariables false
namespace Go.Proofs.Ytcjinlfgeljmkaa
open Go.RowKit

theorem ne_own {v : Value} {r : Option Nat} (h : ∀ k, v.ownBlock = some k → r ≠ some k) : v.ownBlock = none ∨ v.ownBlock ≠ r := by
  cases e : v.ownBlock with
  | none => exact .inl rfl
  | some j => exact .inr fun e' => h j e e'.symm
theorem OwI.drew1 {w : World} {B : Nat} {v : Value} {xs : List Int} (h : OwI w B v xs) : OwI w.drew B v xs := h
def W2Dr (w w' : World) (e : Ending) : Prop := ∃ p m v xs q l u ys, e = .returned (.tuple #[.agg #[.int .i64 p, .int .i64 m, v], .agg #[.int .i64 q, .int .i64 l, u]]) ∧ OwI w' w.heap.size v xs ∧ OwI w' w.heap.size u ys ∧ Below w.heap.size w w'

set_option maxHeartbeats 1000000 in
set_option maxRecDepth 100000 in
theorem l13Two_d (B n : Nat) (v : Value) (w : World) (hv : RdB w B n v) (hB : B ≤ w.heap.size) :
    Calls Try.prog 168 #[v] w fun e w' => W2Dr w w' e := by
  obtain ⟨ov, cv, rfl, hmv, hcv⟩ := id hv
  clear hmv hcv
  go_enter Try.func168, Try.ntmps168
  go_wp2_with fail
  have hR0 := (RB3.mk1 w (.int .i64 0) (.int .i64 0) (.slice none 0 0) 59).below (w' := (w.alloc (.cells #[.int .i64 0, .int .i64 0, .slice none 0 0] 59)).alloc (.cells #[.int .i64 0, .int .i64 0, .slice none 0 0] 59)) (by (repeat (first | exact Below.refl _ _ | (refine Below.setCell ?_ (by first | (simp; done) | (simp; omega) | omega) _) | (refine Below.alloc ?_ (by first | (simp; done) | (simp; omega) | omega) _) | (refine below_drewN ?_ _) | (refine Below.drew ?_)))) (Nat.le_refl _)
  have hS0 := RB3.mk2 w (.cells #[.int .i64 0, .int .i64 0, .slice none 0 0] 59) (.int .i64 0) (.int .i64 0) (.slice none 0 0) 59
  have hb0 : Below w.heap.size w ((w.alloc (.cells #[.int .i64 0, .int .i64 0, .slice none 0 0] 59)).alloc (.cells #[.int .i64 0, .int .i64 0, .slice none 0 0] 59)) := (by (repeat (first | exact Below.refl _ _ | (refine Below.setCell ?_ (by first | (simp; done) | (simp; omega) | omega) _) | (refine Below.alloc ?_ (by first | (simp; done) | (simp; omega) | omega) _) | (refine below_drewN ?_ _) | (refine Below.drew ?_))))
  generalize (w.alloc (.cells #[.int .i64 0, .int .i64 0, .slice none 0 0] 59)).alloc (.cells #[.int .i64 0, .int .i64 0, .slice none 0 0] 59) = w0 at hR0 hS0 hb0 ⊢
  have hv0 := hv.keep (w' := w0) (fun k hk => hb0.block k (by omega))
  refine (l01From_c B n _ w0 hv0 (by have := hb0.size; omega)).mono ?_
  rintro e w1 ⟨b, rfl, hs1, hb1⟩
  have hbl := hs1.1
  have hlt := hs1.lt
  have hl0 := hS0.1.lt
  have hR1 := hR0.below hb1 (Nat.le_refl _)
  have hS1 := hS0.below hb1 (Nat.le_refl _)
  have hb1 := hb0.trans (hb1.mono hb0.size)
  clear hR0 hS0 hb0 hv0
  go_wp2_with fail
  refine (l13Spoil_d _ n b w1 hs1).mono ?_
  rintro e w2 ⟨p, m, v, xs, rfl, hO2, hx, hd2⟩
  obtain ⟨o, c, rfl⟩ := hO2.shape
  have hlt2 := hO2.lt
  have HO := Lib.hid hlt2
  clear hlt2
  have hz2 := hd2.size
  have hR2 := hR1.chg hd2.chg (.inl (by omega))
  have hS2 := hS1.chg hd2.chg (.inl (by omega))
  clear hR1 hS1
  go_wp2_with fail
  have hX2 := RB3.mk1 w2 (.int .i64 p) (.int .i64 m) (.slice o xs.length c) 59
  have hR3 := hR2.below (w' := w2.alloc (.cells #[.int .i64 p, .int .i64 m, .slice o xs.length c] 59)) (by (repeat (first | exact Below.refl _ _ | (refine Below.setCell ?_ (by first | (simp; done) | (simp; omega) | omega) _) | (refine Below.alloc ?_ (by first | (simp; done) | (simp; omega) | omega) _) | (refine below_drewN ?_ _) | (refine Below.drew ?_)))) (Nat.le_refl _)
  have hS3 := hS2.below (w' := w2.alloc (.cells #[.int .i64 p, .int .i64 m, .slice o xs.length c] 59)) (by (repeat (first | exact Below.refl _ _ | (refine Below.setCell ?_ (by first | (simp; done) | (simp; omega) | omega) _) | (refine Below.alloc ?_ (by first | (simp; done) | (simp; omega) | omega) _) | (refine below_drewN ?_ _) | (refine Below.drew ?_)))) (Nat.le_refl _)
  have hO3 := hO2.alloc (.cells #[.int .i64 p, .int .i64 m, .slice o xs.length c] 59)
  have hd3 := hd2.alloc (.cells #[.int .i64 p, .int .i64 m, .slice o xs.length c] 59)
  have hlx := hX2.1.lt
  clear hR2 hS2 hO2 hd2
  generalize w2.alloc (.cells #[.int .i64 p, .int .i64 m, .slice o xs.length c] 59) = w3 at hX2 hR3 hS3 hO3 hd3 hlx ⊢
  refine (next_d _ n b _ w3 hd3.src).mono ?_
  rintro e w4 ⟨t, rfl, t0, t1, t2, hd4, hz4⟩
  clear t1 t2 hz4
  have hX4 := hX2.dw hd4 (by omega)
  have hR4 := hR3.chg hd4.chg (.inl (by omega))
  have hS4 := hS3.chg hd4.chg (.inl (by omega))
  have hO4 := hO3.dw hd4 (by omega)
  have hd4 := hd3.trans hd4
  have hl4 := hX4.1.lt
  clear hX2 hR3 hS3 hO3 hd3
  by_cases h0 : t = 0
  · subst h0
    obtain ⟨⟨x0, x1, x2⟩, xf⟩ := id hX4
    go_wp2_with fail
    have hd0 : Below w4.heap.size w4 w4.drew := (Below.refl _ _).drew
    have hsd0 := hd0.size
    refine wp_region_K (S := fun w' => w'.cell? ⟨w2.heap.size, 0, none⟩ = some (.int .i64 p) ∧ w'.cell? ⟨w2.heap.size, 1, none⟩ = some (.int .i64 m) ∧ w'.cell? ⟨w2.heap.size, 2, none⟩ = some (.slice o xs.length c)) [3, 4] (by kernel_rfl) ?_
    have hHeld : (fun w' : World => w'.cell? ⟨w2.heap.size, 0, none⟩ = some (.int .i64 p) ∧ w'.cell? ⟨w2.heap.size, 1, none⟩ = some (.int .i64 m) ∧ w'.cell? ⟨w2.heap.size, 2, none⟩ = some (.slice o xs.length c)) w4.drew := by go_keep
    refine' wpAnyK_takeL (i := 0) (v := _) rfl (by kernel_rfl) (by kernel_rfl) (by kernel_rfl) (by kernel_rfl) (fun _ _ _ h => h) (Or.inl ⟨by rfl, ?yT1⟩) hHeld ?rT1
    case yT1 => (intro w' hSw; (try dsimp only at hSw); go_simp; try with_reducible rfl)
    try simp only [List.getElem_toArray, List.getElem_cons_zero, List.getElem_cons_succ, Act.put, List.setIfInBounds_toArray, List.set_cons_zero, List.set_cons_succ]
    refine' wpAnyK_takeL (i := 1) (v := _) rfl (by kernel_rfl) (by kernel_rfl) (by kernel_rfl) (by kernel_rfl) (fun _ _ _ h => h) (Or.inl ⟨by rfl, ?yT2⟩) hHeld ?rT2
    case yT2 => (intro w' hSw; (try dsimp only at hSw); go_simp; try with_reducible rfl)
    try simp only [List.getElem_toArray, List.getElem_cons_zero, List.getElem_cons_succ, Act.put, List.setIfInBounds_toArray, List.set_cons_zero, List.set_cons_succ]
    refine wpAnyK_oneL (i := 2) rfl (by kernel_rfl) (fun K hK => ?_)
    go_simp
    go_at_call 187
    refine (l13Spoil_d _ n b _ hd4.drew.src).mono ?_
    rintro e w5 ⟨q, l, u, ys, rfl, hO5, hy, hd5⟩
    obtain ⟨o', c', rfl⟩ := hO5.shape
    have hR5 := (show RB3 w4.drew _ _ _ _ from hR4).chg hd5.chg (.inl (by omega))
    have hS5 := (show RB3 w4.drew _ _ _ _ from hS4).chg hd5.chg (.inl (by omega))
    have hU5 := (show OwI w4.drew _ _ _ from hO4).dw hd5 (by omega)
    have hd5 := hd4.drew.trans hd5
    have hX5 := (show RB3 w4.drew _ _ _ _ from hX4).chg (by assumption : DW _ n b w4.drew w5).chg (.inr (by omega))
    obtain ⟨⟨r0, r1, r2⟩, rf⟩ := id hR5
    obtain ⟨⟨s0, s1, s2⟩, sf⟩ := id hS5
    obtain ⟨⟨z0, z1, z2⟩, zf⟩ := id hX5
    go_wp2_with fail
    clear hHeld
    have hHeld : (fun w' : World => w'.cell? ⟨w2.heap.size, 0, none⟩ = some (.int .i64 p) ∧ w'.cell? ⟨w2.heap.size, 1, none⟩ = some (.int .i64 m) ∧ w'.cell? ⟨w2.heap.size, 2, none⟩ = some (.slice o xs.length c)) w5 := by go_keep
    refine hK.out _ _ (fun _ => hHeld) ?_
    clear hK K
    try simp only [List.getElem_toArray, List.getElem_cons_zero, List.getElem_cons_succ, Act.put, List.setIfInBounds_toArray, List.set_cons_zero, List.set_cons_succ]
    refine wpAnyK_oneL (i := 3) rfl (by kernel_rfl) (fun K hK => ?_)
    go_simp
    (try go_wp2_with fail)
    refine hK.out _ _ (fun h => absurd h (by decide)) ?_
    clear hK K
    try simp only [List.getElem_toArray, List.getElem_cons_zero, List.getElem_cons_succ, Act.put, List.setIfInBounds_toArray, List.set_cons_zero, List.set_cons_succ]
    refine wpAnyK_oneL (i := 4) rfl (by kernel_rfl) (fun K hK => ?_)
    go_simp
    (try go_wp2_with fail)
    refine hK.out _ _ (fun h => absurd h (by decide)) ?_
    clear hK K
    try simp only [List.getElem_toArray, List.getElem_cons_zero, List.getElem_cons_succ, Act.put, List.setIfInBounds_toArray, List.set_cons_zero, List.set_cons_succ]
    refine wpAnyK_done (by kernel_rfl) ?_ _
    go_wp2_with fail
    refine bodyPost_ret (v := .tuple #[.agg #[.int .i64 p, .int .i64 m, .slice o xs.length c], .agg #[.int .i64 q, .int .i64 l, .slice o' ys.length c']]) (by simp [results, Try.results168, go_sem, r0, r1, r2, s0, s1, s2]) rfl ⟨_, _, _, xs, _, _, _, ys, rfl, ?_, ?_, ?_⟩
    · exact ((((((hU5.low (by simp; omega) _).low (by simp; omega) _).low (by simp; omega) _).low (by simp; omega) _).low (by simp; omega) _).low (by simp; omega) _).mono (by omega)
    · exact ((((((hO5.low (by simp; omega) _).low (by simp; omega) _).low (by simp; omega) _).low (by simp; omega) _).low (by simp; omega) _).low (by simp; omega) _).mono (by simp; omega)
    · exact below_put (below_put (below_put (below_put (below_put (below_put (hd5.out hb1 (by omega)) (by omega) _) (by omega) _) (by omega) _) (by omega) _) (by omega) _) (by omega) _
  · have h0' : ¬ t = 0 := h0
    obtain ⟨⟨x0, x1, x2⟩, xf⟩ := id hX4
    go_wp2_with fail
    refine (l13With_c p m _ _ _ _ _ _ _).mono ?_
    rintro e w5 ⟨rfl, hb5⟩
    have hX5 := hX4.below hb5 (Nat.le_refl _)
    have hR5 := hR4.below hb5 (Nat.le_refl _)
    have hS5 := hS4.below hb5 (Nat.le_refl _)
    have hO5 := hO4.below hb5
    have hd5 := hd4.below hb5
    have hz5 := hb5.size
    clear x0 x1 x2 xf hX4 hR4 hS4 hO4 hd4 hb5
    go_wp2_with fail
    have hY6 := RB3.mk1 w5 (.int .i64 p) (.int .i64 m) (.slice none 0 0) 59
    have hX6 := hX5.below (w' := w5.alloc (.cells #[.int .i64 p, .int .i64 m, .slice none 0 0] 59)) (by (repeat (first | exact Below.refl _ _ | (refine Below.setCell ?_ (by first | (simp; done) | (simp; omega) | omega) _) | (refine Below.alloc ?_ (by first | (simp; done) | (simp; omega) | omega) _) | (refine below_drewN ?_ _) | (refine Below.drew ?_)))) (Nat.le_refl _)
    have hR6 := hR5.below (w' := w5.alloc (.cells #[.int .i64 p, .int .i64 m, .slice none 0 0] 59)) (by (repeat (first | exact Below.refl _ _ | (refine Below.setCell ?_ (by first | (simp; done) | (simp; omega) | omega) _) | (refine Below.alloc ?_ (by first | (simp; done) | (simp; omega) | omega) _) | (refine below_drewN ?_ _) | (refine Below.drew ?_)))) (Nat.le_refl _)
    have hS6 := hS5.below (w' := w5.alloc (.cells #[.int .i64 p, .int .i64 m, .slice none 0 0] 59)) (by (repeat (first | exact Below.refl _ _ | (refine Below.setCell ?_ (by first | (simp; done) | (simp; omega) | omega) _) | (refine Below.alloc ?_ (by first | (simp; done) | (simp; omega) | omega) _) | (refine below_drewN ?_ _) | (refine Below.drew ?_)))) (Nat.le_refl _)
    have hO6 := hO5.alloc (.cells #[.int .i64 p, .int .i64 m, .slice none 0 0] 59)
    have hd6 := hd5.alloc (.cells #[.int .i64 p, .int .i64 m, .slice none 0 0] 59)
    have hl5 := hX5.1.lt
    clear hX5 hR5 hS5 hO5 hd5
    generalize w5.alloc (.cells #[.int .i64 p, .int .i64 m, .slice none 0 0] 59) = w6 at hX6 hY6 hR6 hS6 hO6 hd6 ⊢
    go_loopw [7] (fun i wr => ∃ (k : Nat) (ys : List Int) (o1 : Option Addr) (c1 : Nat), k ≤ xs.length ∧ ys.length = k ∧ i = .int .i64 k ∧ RB3 wr w.heap.size (.int .i64 0) (.int .i64 0) (.slice none 0 0) ∧ RB3 wr (w.heap.size + 1) (.int .i64 0) (.int .i64 0) (.slice none 0 0) ∧ RB3 wr w2.heap.size (.int .i64 p) (.int .i64 m) (.slice o xs.length c) ∧ RB3 wr w5.heap.size (.int .i64 p) (.int .i64 m) (.slice o1 k c1) ∧ OwI wr w1.heap.size (.slice o xs.length c) xs ∧ OwI wr (w5.heap.size + 1) (.slice o1 k c1) ys ∧ DW w0.heap.size n b w1 wr) (fun i _ => xs.length - (intOf i).toNat)
    case atStart => exact ⟨0, [], none, 0, by omega, rfl, by go_num, hR6, hS6, hX6, hY6, hO6, OwI.nil _ _, hd6⟩
    case round =>
      clear hR6 hS6 hX6 hY6 hO6 hd6
      obtain ⟨k, ys, o1, c1, hk, hyk, rfl, hR, hS, hX, hY, hO, hU, hD⟩ := hrel
      have hly := hY.1.lt
      have HY := Lib.hid hyk
      clear hyk
      obtain ⟨⟨x0, x1, x2⟩, xf⟩ := id hX
      obtain ⟨⟨y0, y1, y2⟩, yf⟩ := id hY
      by_cases hlt : k < xs.length
      · have i1 : (k : Int) < (xs.length : Int) := by omega
        go_wp2_with fail
        have hd0 : Below wr.heap.size wr wr.drew := (Below.refl _ _).drew
        have hsd0 := hd0.size
        refine wp_region_K (S := fun w' => w'.cell? ⟨w5.heap.size, 2, none⟩ = some (.slice o1 k c1) ∧ w'.cell? ⟨w2.heap.size, 1, none⟩ = some (.int .i64 m)) [8, 9, 10] (by kernel_rfl) ?_
        have hHeld : (fun w' : World => w'.cell? ⟨w5.heap.size, 2, none⟩ = some (.slice o1 k c1) ∧ w'.cell? ⟨w2.heap.size, 1, none⟩ = some (.int .i64 m)) wr.drew := by go_keep
        refine' wpAnyK_takeL (i := 0) (v := _) rfl (by kernel_rfl) (by kernel_rfl) (by kernel_rfl) (by kernel_rfl) (fun _ _ _ h => h) (Or.inl ⟨by rfl, ?yT3⟩) hHeld ?rT3
        case yT3 => (intro w' hSw; (try dsimp only at hSw); go_simp; try with_reducible rfl)
        try simp only [List.getElem_toArray, List.getElem_cons_zero, List.getElem_cons_succ, Act.put, List.setIfInBounds_toArray, List.set_cons_zero, List.set_cons_succ]
        refine' wpAnyK_takeL (i := 1) (v := _) rfl (by kernel_rfl) (by kernel_rfl) (by kernel_rfl) (by kernel_rfl) (fun _ _ _ h => h) (Or.inl ⟨by rfl, ?yT4⟩) hHeld ?rT4
        case yT4 => (intro w' hSw; (try dsimp only at hSw); go_simp; try with_reducible rfl)
        try simp only [List.getElem_toArray, List.getElem_cons_zero, List.getElem_cons_succ, Act.put, List.setIfInBounds_toArray, List.set_cons_zero, List.set_cons_succ]
        refine' wpAnyK_takeL (i := 2) (v := _) rfl (by kernel_rfl) (by kernel_rfl) (by kernel_rfl) (by kernel_rfl) (fun _ _ _ h => h) (Or.inl ⟨by rfl, ?yT5⟩) hHeld ?rT5
        case yT5 => (intro w' hSw; (try dsimp only at hSw); go_simp; try with_reducible rfl)
        try simp only [List.getElem_toArray, List.getElem_cons_zero, List.getElem_cons_succ, Act.put, List.setIfInBounds_toArray, List.set_cons_zero, List.set_cons_succ]
        refine' wpAnyK_takeL (i := 3) (v := _) rfl (by kernel_rfl) (by kernel_rfl) (by kernel_rfl) (by kernel_rfl) (fun _ _ _ h => h) (Or.inl ⟨by rfl, ?yT6⟩) hHeld ?rT6
        case yT6 => (intro w' hSw; (try dsimp only at hSw); go_simp; try with_reducible rfl)
        try simp only [List.getElem_toArray, List.getElem_cons_zero, List.getElem_cons_succ, Act.put, List.setIfInBounds_toArray, List.set_cons_zero, List.set_cons_succ]
        refine' wpAnyK_takeL (i := 4) (v := _) rfl (by kernel_rfl) (by kernel_rfl) (by kernel_rfl) (by kernel_rfl) (fun _ _ _ h => h) (Or.inl ⟨by rfl, ?yT7⟩) hHeld ?rT7
        case yT7 => (intro w' hSw; (try dsimp only at hSw); go_simp; try with_reducible rfl)
        try simp only [List.getElem_toArray, List.getElem_cons_zero, List.getElem_cons_succ, Act.put, List.setIfInBounds_toArray, List.set_cons_zero, List.set_cons_succ]
        refine wpAnyK_oneL (i := 5) rfl (by kernel_rfl) (fun K hK => ?_)
        go_simp
        (try go_wp2_with fail)
        refine hK.out _ _ (fun _ => hHeld) ?_
        clear hK K
        try simp only [List.getElem_toArray, List.getElem_cons_zero, List.getElem_cons_succ, Act.put, List.setIfInBounds_toArray, List.set_cons_zero, List.set_cons_succ]
        refine wpAnyK_oneL (i := 6) rfl (by kernel_rfl) (fun K hK => ?_)
        go_simp
        go_at_call 116
        refine (next_d _ n b _ _ hD.drew.src).mono ?_
        rintro e w7 ⟨y, rfl, z0, z1, z2, hd7, hz7⟩
        clear z1 z2 hz7
        have hX7 := (show RB3 wr.drew _ _ _ _ from hX).dw hd7 (by omega)
        have hY7 := (show RB3 wr.drew _ _ _ _ from hY).dw hd7 (by omega)
        have hR7 := (show RB3 wr.drew _ _ _ _ from hR).chg hd7.chg (.inl (by omega))
        have hS7 := (show RB3 wr.drew _ _ _ _ from hS).chg hd7.chg (.inl (by omega))
        have hO7 := (show OwI wr.drew _ _ _ from hO).dw hd7 (by omega)
        have hU7 := (show OwI wr.drew _ _ _ from hU).dw hd7 (by omega)
        have hD7 := hD.drew.trans hd7
        clear hd7 hHeld
        have hl7 := hY7.1.lt
        obtain ⟨⟨z0, z1, z2⟩, zf⟩ := id hY7
        obtain ⟨⟨t0', t1, t2⟩, tf⟩ := id hX7
        go_wp2_with fail
        have hHeld : (fun w' : World => w'.cell? ⟨w5.heap.size, 2, none⟩ = some (.slice o1 k c1) ∧ w'.cell? ⟨w2.heap.size, 1, none⟩ = some (.int .i64 m)) w7 := by go_keep
        refine hK.out _ _ (fun _ => hHeld) ?_
        clear hK K
        try simp only [List.getElem_toArray, List.getElem_cons_zero, List.getElem_cons_succ, Act.put, List.setIfInBounds_toArray, List.set_cons_zero, List.set_cons_succ]
        refine wpAnyK_oneL (i := 7) rfl (by kernel_rfl) (fun K hK => ?_)
        go_simp
        (try go_wp2_with fail)
        have hHeld2 : (fun w' : World => w'.cell? ⟨w5.heap.size, 2, none⟩ = some (.slice o1 k c1) ∧ w'.cell? ⟨w2.heap.size, 1, none⟩ = some (.int .i64 m)) (w7.alloc (.cells #[.int .i64 y] 2)) := by go_keep
        clear hHeld
        have hHeld := hHeld2
        clear hHeld2
        refine hK.out _ _ (fun _ => hHeld) ?_
        clear hK K
        try simp only [List.getElem_toArray, List.getElem_cons_zero, List.getElem_cons_succ, Act.put, List.setIfInBounds_toArray, List.set_cons_zero, List.set_cons_succ]
        refine wpAnyK_oneL (i := 8) rfl (by kernel_rfl) (fun K hK => ?_)
        clear hHeld
        have hX8 := (hX7.below (w' := w7.alloc (.cells #[.int .i64 y] 2)) (by (repeat (first | exact Below.refl _ _ | (refine Below.setCell ?_ (by first | (simp; done) | (simp; omega) | omega) _) | (refine Below.alloc ?_ (by first | (simp; done) | (simp; omega) | omega) _) | (refine below_drewN ?_ _) | (refine Below.drew ?_)))) (Nat.le_refl _))
        have hY8 := (hY7.below (w' := w7.alloc (.cells #[.int .i64 y] 2)) (by (repeat (first | exact Below.refl _ _ | (refine Below.setCell ?_ (by first | (simp; done) | (simp; omega) | omega) _) | (refine Below.alloc ?_ (by first | (simp; done) | (simp; omega) | omega) _) | (refine below_drewN ?_ _) | (refine Below.drew ?_)))) (Nat.le_refl _))
        have hR8 := (hR7.below (w' := w7.alloc (.cells #[.int .i64 y] 2)) (by (repeat (first | exact Below.refl _ _ | (refine Below.setCell ?_ (by first | (simp; done) | (simp; omega) | omega) _) | (refine Below.alloc ?_ (by first | (simp; done) | (simp; omega) | omega) _) | (refine below_drewN ?_ _) | (refine Below.drew ?_)))) (Nat.le_refl _))
        have hS8 := (hS7.below (w' := w7.alloc (.cells #[.int .i64 y] 2)) (by (repeat (first | exact Below.refl _ _ | (refine Below.setCell ?_ (by first | (simp; done) | (simp; omega) | omega) _) | (refine Below.alloc ?_ (by first | (simp; done) | (simp; omega) | omega) _) | (refine below_drewN ?_ _) | (refine Below.drew ?_)))) (Nat.le_refl _))
        have hO8 := hO7.alloc (.cells #[.int .i64 y] 2)
        have hD8 := hD7.alloc (.cells #[.int .i64 y] 2)
        have hUl := hU7.lt
        refine stR _ rfl _ _ rfl (w5.heap.size + 1) (.slice o1 k c1) ys rfl (hU7.alloc _) ⟨w7.heap.size, 0, none⟩ 1 1 [y] rfl (OwI.lit w7 [y] (by simp [maxLen])).rd (by have := HY.out; simp; omega) (by simp; omega) ?_
        intro o2 c2 w8 hU9 hg9 hb9
        have hX9 := hX8.grown hg9 (fun e => by have := hUl _ e.symm; omega)
        have hY9 := hY8.grown hg9 (fun e => by have := hUl _ e.symm; omega)
        have hR9 := hR8.grown hg9 (fun e => by have := hUl _ e.symm; omega)
        have hS9 := hS8.grown hg9 (fun e => by have := hUl _ e.symm; omega)
        have hO9 := hO8.kept hg9 (ne_own (fun j hj e => by have := hUl _ e; have := HO.out _ hj; omega))
        have hD9 := hD8.grown hg9 (fun k hk => by have := hUl _ hk; omega)
        clear hX7 hY7 hR7 hS7 hO7 hU7 hD7 hX8 hY8 hR8 hS8 hO8 hD8 hg9 hb9 hUl z0 z1 z2 zf t0' t1 t2 tf
        rw [show (ys ++ [y]).length = k + 1 by have := HY.out; simp; omega] at hU9 ⊢
        have hl9 := hY9.1.lt
        obtain ⟨⟨z0, z1, z2⟩, zf⟩ := id hY9
        refine hK.out _ _ (fun h => absurd h (by decide)) ?_
        clear hK K
        try simp only [List.getElem_toArray, List.getElem_cons_zero, List.getElem_cons_succ, Act.put, List.setIfInBounds_toArray, List.set_cons_zero, List.set_cons_succ]
        refine wpAnyK_oneL (i := 9) rfl (by kernel_rfl) (fun K hK => ?_)
        go_simp
        (try go_wp2_with fail)
        refine hK.out _ _ (fun h => absurd h (by decide)) ?_
        clear hK K
        try simp only [List.getElem_toArray, List.getElem_cons_zero, List.getElem_cons_succ, Act.put, List.setIfInBounds_toArray, List.set_cons_zero, List.set_cons_succ]
        refine wpAnyK_oneL (i := 10) rfl (by kernel_rfl) (fun K hK => ?_)
        go_simp
        (try go_wp2_with fail)
        refine hK.out _ _ (fun h => absurd h (by decide)) ?_
        clear hK K
        try simp only [List.getElem_toArray, List.getElem_cons_zero, List.getElem_cons_succ, Act.put, List.setIfInBounds_toArray, List.set_cons_zero, List.set_cons_succ]
        refine wpAnyK_done (by kernel_rfl) ?_ _
        go_wp2_with fail
        go_wp2
        exact ⟨⟨k + 1, ys ++ [y], o2, c2, by omega, by have := HY.out; simp; omega, by go_num, hR9.off (by omega) _, hS9.off (by omega) _, hX9.off (by omega) _, hY9.set2 _, hO9.ne (fun j hj => by have := HO.out _ hj; omega) _, hU9.low (by simp) _, hD9.put (by omega) _ _⟩, by simp [intOf]; omega⟩
      · obtain rfl : k = xs.length := by omega
        obtain ⟨⟨r0, r1, r2⟩, rf⟩ := id hR
        obtain ⟨⟨s0, s1, s2⟩, sf⟩ := id hS
        go_wp2_with fail
        go_region
        go_wp2_with fail
        refine bodyPost_ret (v := .tuple #[.agg #[.int .i64 p, .int .i64 m, .slice o xs.length c], .agg #[.int .i64 p, .int .i64 m, .slice o1 xs.length c1]]) (by simp [results, Try.results168, go_sem, r0, r1, r2, s0, s1, s2]) rfl ⟨_, _, _, xs, _, _, _, ys, rfl, ?_, ?_, ?_⟩
        · refine OwI.drew1 ?_
          exact ((((((hO.low (by simp; omega) _).low (by simp; omega) _).low (by simp; omega) _).low (by simp; omega) _).low (by simp; omega) _).low (by simp; omega) _).mono (by omega)
        · refine OwI.drew1 ?_
          exact ((((((hU.low (by simp; omega) _).low (by simp; omega) _).low (by simp; omega) _).low (by simp; omega) _).low (by simp; omega) _).low (by simp; omega) _).mono (by omega)
        · refine Below.drew ?_
          exact (below_put (below_put (below_put (below_put (below_put (below_put (hD.out hb1 (by omega)) (by omega) _) (by omega) _) (by omega) _) (by omega) _) (by omega) _) (by omega) _)
end Go.Proofs.Ytcjinlfgeljmkaa
