/- Lemmas of SrcR. -/
import Derived.Test.YtcjinlfgeljmkaaWSSrcT
set_option linter.unusedSimpArgs false
set_option linter.unusedVariables false
namespace Go.Proofs.Ytcjinlfgeljmkaa
open Go.RowKit

def S2Dr (w w' : World) (e : Ending) : Prop := ∃ m g c ys k q u zs, e = .returned (.tuple #[.agg #[.int .i64 m, .slice (some ⟨g, 0, none⟩) k c], .agg #[.int .i64 q, u]]) ∧ OwI w' w.heap.size (.slice (some ⟨g, 0, none⟩) ys.length c) ys ∧ (1 ≤ k ∧ k ≤ ys.length ∧ ys.length ≤ 30) ∧ OwI w' w.heap.size u zs ∧ zs.length ≤ 30 ∧ Below w.heap.size w w'

set_option maxHeartbeats 2000000 in
set_option maxRecDepth 100000 in
theorem l02Two_d (B n : Nat) (v : Value) (w : World) (hv : RdB w B n v) (hB : B ≤ w.heap.size) :
    Calls Try.prog 97 #[v] w fun e w' => S2Dr w w' e := by
  obtain ⟨ov, cv, rfl, hmv, hcv⟩ := id hv
  clear hmv hcv
  go_enter Try.func97, Try.ntmps97
  go_wp2_with fail
  have hR0 := (RB2.mk1 w (.int .i64 0) (.slice none 0 0) 26).below (w' := (w.alloc (.cells #[.int .i64 0, .slice none 0 0] 26)).alloc (.cells #[.int .i64 0, .slice none 0 0] 26)) (by (repeat (first | exact Below.refl _ _ | (refine Below.setCell ?_ (by first | (simp; done) | (simp; omega) | omega) _) | (refine Below.alloc ?_ (by first | (simp; done) | (simp; omega) | omega) _) | (refine below_drewN ?_ _) | (refine Below.drew ?_)))) (Nat.le_refl _)
  have hS0 := RB2.mk2 w (.cells #[.int .i64 0, .slice none 0 0] 26) (.int .i64 0) (.slice none 0 0) 26
  have hb0 : Below w.heap.size w ((w.alloc (.cells #[.int .i64 0, .slice none 0 0] 26)).alloc (.cells #[.int .i64 0, .slice none 0 0] 26)) := (by (repeat (first | exact Below.refl _ _ | (refine Below.setCell ?_ (by first | (simp; done) | (simp; omega) | omega) _) | (refine Below.alloc ?_ (by first | (simp; done) | (simp; omega) | omega) _) | (refine below_drewN ?_ _) | (refine Below.drew ?_))))
  generalize (w.alloc (.cells #[.int .i64 0, .slice none 0 0] 26)).alloc (.cells #[.int .i64 0, .slice none 0 0] 26) = w0 at hR0 hS0 hb0 ⊢
  have hv0 := hv.keep (w' := w0) (fun k hk => hb0.block k (by omega))
  refine (l01From_c B n _ w0 hv0 (by have := hb0.size; omega)).mono ?_
  rintro e w1 ⟨b, rfl, hs1, hb1⟩
  have hbl := hs1.1
  have hlt := hs1.lt
  have hl0 := hS0.1.lt
  have hR1 := hR0.below hb1 (Nat.le_refl _)
  have hS1 := hS0.below hb1 (Nat.le_refl _)
  have hb1 := hb0.trans (hb1.mono hb0.size)
  clear hR0 hS0 hb0 hv0
  go_wp2_with fail
  refine (l02Spoil_d _ n b w1 hs1).mono ?_
  rintro e w2 ⟨m, g, c, ys, k, rfl, hO2, ⟨hk1, hk2, hk3⟩, hd2⟩
  have hg : w1.heap.size ≤ g ∧ g < w2.heap.size := by
    obtain ⟨g', e, h1, h2⟩ := hO2.row (by omega)
    have : g = g' := by simpa using e
    omega
  obtain ⟨hg0, hg1⟩ := hg
  have hz2 := hd2.size
  have hR2 := hR1.chg hd2.chg (.inl (by omega))
  have hS2 := hS1.chg hd2.chg (.inl (by omega))
  clear hR1 hS1
  go_wp2_with fail
  have hX2 := RB2.mk1 w2 (.int .i64 m) (.slice (some ⟨g, 0, none⟩) k c) 26
  have hR3 := hR2.below (w' := w2.alloc (.cells #[.int .i64 m, .slice (some ⟨g, 0, none⟩) k c] 26)) (by (repeat (first | exact Below.refl _ _ | (refine Below.setCell ?_ (by first | (simp; done) | (simp; omega) | omega) _) | (refine Below.alloc ?_ (by first | (simp; done) | (simp; omega) | omega) _) | (refine below_drewN ?_ _) | (refine Below.drew ?_)))) (Nat.le_refl _)
  have hS3 := hS2.below (w' := w2.alloc (.cells #[.int .i64 m, .slice (some ⟨g, 0, none⟩) k c] 26)) (by (repeat (first | exact Below.refl _ _ | (refine Below.setCell ?_ (by first | (simp; done) | (simp; omega) | omega) _) | (refine Below.alloc ?_ (by first | (simp; done) | (simp; omega) | omega) _) | (refine below_drewN ?_ _) | (refine Below.drew ?_)))) (Nat.le_refl _)
  have hO3 := hO2.alloc (.cells #[.int .i64 m, .slice (some ⟨g, 0, none⟩) k c] 26)
  have hd3 := hd2.alloc (.cells #[.int .i64 m, .slice (some ⟨g, 0, none⟩) k c] 26)
  have hlx := hX2.1.lt
  clear hR2 hS2 hO2 hd2
  generalize w2.alloc (.cells #[.int .i64 m, .slice (some ⟨g, 0, none⟩) k c] 26) = w3 at hX2 hR3 hS3 hO3 hd3 hlx ⊢
  refine (next_d _ n b _ w3 hd3.src).mono ?_
  rintro e w4 ⟨t, rfl, t0, t1, t2, hd4, hz4⟩
  clear t1 t2 hz4
  have hX4 := hX2.dw hd4 (by omega)
  have hR4 := hR3.chg hd4.chg (.inl (by omega))
  have hS4 := hS3.chg hd4.chg (.inl (by omega))
  have hO4 := hO3.dw hd4 (by omega)
  have hd4 := hd3.trans hd4
  have hl4 := hX4.1.lt
  clear hX2 hR3 hS3 hO3 hd3
  obtain ⟨⟨x0, x1⟩, xf⟩ := id hX4
  by_cases h0 : t = 0
  · subst h0
    go_wp2_with fail
    have hd0 : Below w4.heap.size w4 w4.drew := (Below.refl _ _).drew
    have hsd0 := hd0.size
    refine wp_region_K (S := fun w' => w'.cell? ⟨w2.heap.size, 0, none⟩ = some (.int .i64 m) ∧ w'.cell? ⟨w2.heap.size, 1, none⟩ = some (.slice (some ⟨g, 0, none⟩) k c)) [3, 4] (by kernel_rfl) ?_
    have hHeld : (fun w' : World => w'.cell? ⟨w2.heap.size, 0, none⟩ = some (.int .i64 m) ∧ w'.cell? ⟨w2.heap.size, 1, none⟩ = some (.slice (some ⟨g, 0, none⟩) k c)) w4.drew := by go_keep
    refine' wpAnyK_takeL (i := 0) (v := _) rfl (by kernel_rfl) (by kernel_rfl) (by kernel_rfl) (by kernel_rfl) (fun _ _ _ h => h) (Or.inl ⟨by rfl, ?yT1⟩) hHeld ?rT1
    case yT1 => (intro w' hSw; (try dsimp only at hSw); go_simp; try with_reducible rfl)
    try simp only [List.getElem_toArray, List.getElem_cons_zero, List.getElem_cons_succ, Act.put, List.setIfInBounds_toArray, List.set_cons_zero, List.set_cons_succ]
    refine' wpAnyK_takeL (i := 1) (v := _) rfl (by kernel_rfl) (by kernel_rfl) (by kernel_rfl) (by kernel_rfl) (fun _ _ _ h => h) (Or.inl ⟨by rfl, ?yT2⟩) hHeld ?rT2
    case yT2 => (intro w' hSw; (try dsimp only at hSw); go_simp; try with_reducible rfl)
    try simp only [List.getElem_toArray, List.getElem_cons_zero, List.getElem_cons_succ, Act.put, List.setIfInBounds_toArray, List.set_cons_zero, List.set_cons_succ]
    refine wpAnyK_oneL (i := 2) rfl (by kernel_rfl) (fun K hK => ?_)
    go_simp
    go_at_call 201
    refine (l02Draw_d _ n b _ hd4.drew.src).mono ?_
    rintro e w5 ⟨q, u, zs, rfl, hO5, hy, hd5⟩
    have hy := (show zs.length ≤ 30 by omega)
    obtain ⟨o', c', rfl⟩ := hO5.shape
    have hR5 := (show RB2 w4.drew _ _ _ from hR4).chg hd5.chg (.inl (by omega))
    have hS5 := (show RB2 w4.drew _ _ _ from hS4).chg hd5.chg (.inl (by omega))
    have hU5 := (show OwI w4.drew _ _ _ from hO4).dw hd5 (by omega)
    have hX5 := (show RB2 w4.drew _ _ _ from hX4).chg hd5.chg (.inr (by omega))
    have hd5 := hd4.drew.trans hd5
    obtain ⟨⟨r0, r1⟩, rf⟩ := id hR5
    obtain ⟨⟨s0, s1⟩, sf⟩ := id hS5
    obtain ⟨⟨z0, z1⟩, zf⟩ := id hX5
    have HY := Lib.hid hy
    clear hy
    go_wp2_with fail
    clear hHeld
    have hHeld : (fun w' : World => w'.cell? ⟨w2.heap.size, 0, none⟩ = some (.int .i64 m) ∧ w'.cell? ⟨w2.heap.size, 1, none⟩ = some (.slice (some ⟨g, 0, none⟩) k c)) w5 := by go_keep
    refine hK.out _ _ (fun _ => hHeld) ?_
    clear hK K
    try simp only [List.getElem_toArray, List.getElem_cons_zero, List.getElem_cons_succ, Act.put, List.setIfInBounds_toArray, List.set_cons_zero, List.set_cons_succ]
    refine wpAnyK_oneL (i := 3) rfl (by kernel_rfl) (fun K hK => ?_)
    go_simp
    (try go_wp2_with fail)
    refine hK.out _ _ (fun h => absurd h (by decide)) ?_
    clear hK K
    try simp only [List.getElem_toArray, List.getElem_cons_zero, List.getElem_cons_succ, Act.put, List.setIfInBounds_toArray, List.set_cons_zero, List.set_cons_succ]
    refine wpAnyK_oneL (i := 4) rfl (by kernel_rfl) (fun K hK => ?_)
    go_simp
    (try go_wp2_with fail)
    refine hK.out _ _ (fun h => absurd h (by decide)) ?_
    clear hK K
    try simp only [List.getElem_toArray, List.getElem_cons_zero, List.getElem_cons_succ, Act.put, List.setIfInBounds_toArray, List.set_cons_zero, List.set_cons_succ]
    refine wpAnyK_done (by kernel_rfl) ?_ _
    go_wp2_with fail
    refine bodyPost_ret (v := .tuple #[.agg #[.int .i64 m, .slice (some ⟨g, 0, none⟩) k c], .agg #[.int .i64 q, .slice o' zs.length c']]) (by simp [results, Try.results97, go_sem, r0, r1, s0, s1]) rfl ⟨m, g, c, ys, k, _, _, zs, rfl, ?_, ⟨hk1, hk2, hk3⟩, ?_, HY.out, ?_⟩
    · exact ((((hU5.low (by simp; omega) _).low (by simp; omega) _).low (by simp; omega) _).low (by simp; omega) _).mono (by omega)
    · exact ((((hO5.low (by simp; omega) _).low (by simp; omega) _).low (by simp; omega) _).low (by simp; omega) _).mono (by simp; omega)
    · exact below_put (below_put (below_put (below_put (hd5.out hb1 (by omega)) (by omega) _) (by omega) _) (by omega) _) (by omega) _
  · have h0' : ¬ t = 0 := h0
    go_wp2_with fail
    have hd0 : Below w4.heap.size w4 w4.drew := (Below.refl _ _).drew
    have hsd0 := hd0.size
    refine wp_region_K (S := fun w' => w'.cell? ⟨w2.heap.size, 0, none⟩ = some (.int .i64 m) ∧ w'.cell? ⟨w2.heap.size, 1, none⟩ = some (.slice (some ⟨g, 0, none⟩) k c)) [4, 5] (by kernel_rfl) ?_
    have hHeld : (fun w' : World => w'.cell? ⟨w2.heap.size, 0, none⟩ = some (.int .i64 m) ∧ w'.cell? ⟨w2.heap.size, 1, none⟩ = some (.slice (some ⟨g, 0, none⟩) k c)) w4.drew := by go_keep
    refine' wpAnyK_takeL (i := 0) (v := _) rfl (by kernel_rfl) (by kernel_rfl) (by kernel_rfl) (by kernel_rfl) (fun _ _ _ h => h) (Or.inl ⟨by rfl, ?yT3⟩) hHeld ?rT3
    case yT3 => (intro w' hSw; (try dsimp only at hSw); go_simp; try with_reducible rfl)
    try simp only [List.getElem_toArray, List.getElem_cons_zero, List.getElem_cons_succ, Act.put, List.setIfInBounds_toArray, List.set_cons_zero, List.set_cons_succ]
    refine' wpAnyK_takeL (i := 1) (v := _) rfl (by kernel_rfl) (by kernel_rfl) (by kernel_rfl) (by kernel_rfl) (fun _ _ _ h => h) (Or.inl ⟨by rfl, ?yT4⟩) hHeld ?rT4
    case yT4 => (intro w' hSw; (try dsimp only at hSw); go_simp; try with_reducible rfl)
    try simp only [List.getElem_toArray, List.getElem_cons_zero, List.getElem_cons_succ, Act.put, List.setIfInBounds_toArray, List.set_cons_zero, List.set_cons_succ]
    refine' wpAnyK_takeL (i := 2) (v := _) rfl (by kernel_rfl) (by kernel_rfl) (by kernel_rfl) (by kernel_rfl) (fun _ _ _ h => h) (Or.inl ⟨by rfl, ?yT5⟩) hHeld ?rT5
    case yT5 => (intro w' hSw; (try dsimp only at hSw); go_simp; try with_reducible rfl)
    try simp only [List.getElem_toArray, List.getElem_cons_zero, List.getElem_cons_succ, Act.put, List.setIfInBounds_toArray, List.set_cons_zero, List.set_cons_succ]
    refine wpAnyK_oneL (i := 3) rfl (by kernel_rfl) (fun K hK => ?_)
    go_simp
    go_at_call 202
    refine (l02Like_d _ n b m _ k c _ hd4.drew.src (by omega)).mono ?_
    rintro e w5 ⟨u, zs, rfl, hO5, hy0, hd5⟩
    have hy := (show zs.length ≤ 30 by omega)
    clear hy0
    obtain ⟨o', c', rfl⟩ := hO5.shape
    have hR5 := (show RB2 w4.drew _ _ _ from hR4).chg hd5.chg (.inl (by omega))
    have hS5 := (show RB2 w4.drew _ _ _ from hS4).chg hd5.chg (.inl (by omega))
    have hU5 := (show OwI w4.drew _ _ _ from hO4).dw hd5 (by omega)
    have hX5 := (show RB2 w4.drew _ _ _ from hX4).chg hd5.chg (.inr (by omega))
    have hd5 := hd4.drew.trans hd5
    obtain ⟨⟨r0, r1⟩, rf⟩ := id hR5
    obtain ⟨⟨s0, s1⟩, sf⟩ := id hS5
    obtain ⟨⟨z0, z1⟩, zf⟩ := id hX5
    have HY := Lib.hid hy
    clear hy
    go_wp2_with fail
    clear hHeld
    have hHeld : (fun w' : World => w'.cell? ⟨w2.heap.size, 0, none⟩ = some (.int .i64 m) ∧ w'.cell? ⟨w2.heap.size, 1, none⟩ = some (.slice (some ⟨g, 0, none⟩) k c)) w5 := by go_keep
    refine hK.out _ _ (fun _ => hHeld) ?_
    clear hK K
    try simp only [List.getElem_toArray, List.getElem_cons_zero, List.getElem_cons_succ, Act.put, List.setIfInBounds_toArray, List.set_cons_zero, List.set_cons_succ]
    refine wpAnyK_oneL (i := 4) rfl (by kernel_rfl) (fun K hK => ?_)
    go_simp
    (try go_wp2_with fail)
    refine hK.out _ _ (fun h => absurd h (by decide)) ?_
    clear hK K
    try simp only [List.getElem_toArray, List.getElem_cons_zero, List.getElem_cons_succ, Act.put, List.setIfInBounds_toArray, List.set_cons_zero, List.set_cons_succ]
    refine wpAnyK_oneL (i := 5) rfl (by kernel_rfl) (fun K hK => ?_)
    go_simp
    (try go_wp2_with fail)
    refine hK.out _ _ (fun h => absurd h (by decide)) ?_
    clear hK K
    try simp only [List.getElem_toArray, List.getElem_cons_zero, List.getElem_cons_succ, Act.put, List.setIfInBounds_toArray, List.set_cons_zero, List.set_cons_succ]
    refine wpAnyK_done (by kernel_rfl) ?_ _
    go_wp2_with fail
    refine bodyPost_ret (v := .tuple #[.agg #[.int .i64 m, .slice (some ⟨g, 0, none⟩) k c], .agg #[.int .i64 m, .slice o' zs.length c']]) (by simp [results, Try.results97, go_sem, r0, r1, s0, s1]) rfl ⟨m, g, c, ys, k, _, _, zs, rfl, ?_, ⟨hk1, hk2, hk3⟩, ?_, HY.out, ?_⟩
    · exact ((((hU5.low (by simp; omega) _).low (by simp; omega) _).low (by simp; omega) _).low (by simp; omega) _).mono (by omega)
    · exact ((((hO5.low (by simp; omega) _).low (by simp; omega) _).low (by simp; omega) _).low (by simp; omega) _).mono (by simp; omega)
    · exact below_put (below_put (below_put (below_put (hd5.out hb1 (by omega)) (by omega) _) (by omega) _) (by omega) _) (by omega) _
end Go.Proofs.Ytcjinlfgeljmkaa
