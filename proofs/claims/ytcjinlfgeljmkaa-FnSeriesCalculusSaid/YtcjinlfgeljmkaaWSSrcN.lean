/- Lemmas of SrcN. -/
import Derived.Test.YtcjinlfgeljmkaaWSSrcQ
import Derived.Test.YtcjinlfgeljmkaaWSSrcO
set_option linter.unusedSimpArgs false
set_option linter.unusedVariables false
namespace Go.Proofs.Ytcjinlfgeljmkaa
open Go.RowKit

def SIO (w w' : World) (e : Ending) : Prop := ∃ m g c ys k t, e = .returned (.tuple #[.agg #[.int .i64 m, .slice (some ⟨g, 0, none⟩) k c], .int .i64 t]) ∧ OwI w' w.heap.size (.slice (some ⟨g, 0, none⟩) ys.length c) ys ∧ (1 ≤ k ∧ k ≤ ys.length ∧ ys.length ≤ 30) ∧ Below w.heap.size w w'

set_option maxHeartbeats 1000000 in
set_option maxRecDepth 100000 in
theorem DrawPowerOfSeries_d (B n : Nat) (v : Value) (w : World) (hv : RdB w B n v) (hB : B ≤ w.heap.size) :
    Calls Try.prog 39 #[v] w fun e w' => SIDr w w' e := by
  obtain ⟨ov, cv, rfl, hmv, hcv⟩ := id hv
  clear hmv hcv
  go_enter Try.func39, Try.ntmps39
  go_wp2_with fail
  have hR0 := RB2.mk1 w (.int .i64 0) (.slice none 0 0) 26
  have hb0 : Below w.heap.size w (w.alloc (.cells #[.int .i64 0, .slice none 0 0] 26)) := (by (repeat (first | exact Below.refl _ _ | (refine Below.setCell ?_ (by first | (simp; done) | (simp; omega) | omega) _) | (refine Below.alloc ?_ (by first | (simp; done) | (simp; omega) | omega) _) | (refine below_drewN ?_ _) | (refine Below.drew ?_))))
  generalize w.alloc (.cells #[.int .i64 0, .slice none 0 0] 26) = w0 at hR0 hb0 ⊢
  have hv0 := hv.keep (w' := w0) (fun k hk => hb0.block k (by omega))
  have hl0 := hR0.1.lt
  refine (l01From_c B n _ w0 hv0 (by omega)).mono ?_
  rintro e w1 ⟨b, rfl, hs1, hb1⟩
  have hbl := hs1.1
  have hlt := hs1.lt
  have hR1 := hR0.below hb1 (Nat.le_refl _)
  have hb1 := hb0.trans (hb1.mono hb0.size)
  clear hR0 hb0 hv0
  go_wp2_with fail
  refine (l02Spoil_d _ n b w1 hs1).mono ?_
  rintro e w2 ⟨m, g, c, ys, k, rfl, hO2, ⟨hk1, hk2, hk3⟩, hd2⟩
  have hg : w1.heap.size ≤ g ∧ g < w2.heap.size := by
    obtain ⟨g', e, h1, h2⟩ := hO2.row (by omega)
    have : g = g' := by simpa using e
    omega
  obtain ⟨hg0, hg1⟩ := hg
  have hz2 := hd2.size
  have hR2 := hR1.chg hd2.chg (.inl (by omega))
  clear hR1
  go_wp2_with fail
  refine (next_d _ n b _ w2 hd2.src).mono ?_
  rintro e w3 ⟨x, rfl, x0, x1, x2, hd3, hz3⟩
  have hR3 := hR2.chg hd3.chg (.inl (by omega))
  have hO3 := hO2.dw hd3 (by omega)
  have hd3 := hd2.trans hd3
  clear hz3 x1 x2
  go_wp2_with fail
  refine (next_d _ n b _ w3 hd3.src).mono ?_
  rintro e w4 ⟨y, rfl, y0, y1, y2, hd4, hz4⟩
  have hR4 := hR3.chg hd4.chg (.inl (by omega))
  have hO4 := hO3.dw hd4 (by omega)
  have hd4 := hd3.trans hd4
  clear hz4 y1 y2
  go_wp2_with fail
  refine (pick_d _ n b _ _ [x, y, 1000, 1001, -1] _ w4 hd4.src rfl rfl rfl (by simp) (by simp)).mono ?_
  rintro e w5 ⟨t, rfl, ht, hd5, hz5⟩
  have hR5 := hR4.chg hd5.chg (.inl (by omega))
  have hO5 := hO4.dw hd5 (by omega)
  have hd5 := hd4.trans hd5
  clear hz5 ht
  obtain ⟨⟨r0, r1⟩, rf⟩ := id hR5
  go_wp2_with fail
  refine bodyPost_ret (v := .tuple #[.agg #[.int .i64 m, .slice (some ⟨g, 0, none⟩) k c], .int .i64 t]) (by simp [results, Try.results39, go_sem, r0, r1]) rfl ⟨m, _, ys.take k, t, rfl, ((rd_put (rd_put hO5 (by omega) _) (by omega) _).rd).take k hk2, by simp; omega, ?_⟩
  exact below_put (below_put (hd5.out hb1 (by omega)) (Nat.le_refl _) _) (Nat.le_refl _) _
set_option maxHeartbeats 1000000 in
set_option maxRecDepth 100000 in
theorem DrawScaleSeries_d (B n : Nat) (v : Value) (w : World) (hv : RdB w B n v) (hB : B ≤ w.heap.size) :
    Calls Try.prog 143 #[v] w fun e w' => SIO w w' e := by
  obtain ⟨ov, cv, rfl, hmv, hcv⟩ := id hv
  clear hmv hcv
  go_enter Try.func143, Try.ntmps143
  go_wp2_with fail
  have hR0 := RB2.mk1 w (.int .i64 0) (.slice none 0 0) 26
  have hb0 : Below w.heap.size w (w.alloc (.cells #[.int .i64 0, .slice none 0 0] 26)) := (by (repeat (first | exact Below.refl _ _ | (refine Below.setCell ?_ (by first | (simp; done) | (simp; omega) | omega) _) | (refine Below.alloc ?_ (by first | (simp; done) | (simp; omega) | omega) _) | (refine below_drewN ?_ _) | (refine Below.drew ?_))))
  generalize w.alloc (.cells #[.int .i64 0, .slice none 0 0] 26) = w0 at hR0 hb0 ⊢
  have hv0 := hv.keep (w' := w0) (fun k hk => hb0.block k (by omega))
  have hl0 := hR0.1.lt
  refine (l01From_c B n _ w0 hv0 (by omega)).mono ?_
  rintro e w1 ⟨b, rfl, hs1, hb1⟩
  have hbl := hs1.1
  have hlt := hs1.lt
  have hR1 := hR0.below hb1 (Nat.le_refl _)
  have hb1 := hb0.trans (hb1.mono hb0.size)
  clear hR0 hb0 hv0
  go_wp2_with fail
  refine (l02Spoil_d _ n b w1 hs1).mono ?_
  rintro e w2 ⟨m, g, c, ys, k, rfl, hO2, ⟨hk1, hk2, hk3⟩, hd2⟩
  have hg : w1.heap.size ≤ g ∧ g < w2.heap.size := by
    obtain ⟨g', e, h1, h2⟩ := hO2.row (by omega)
    have : g = g' := by simpa using e
    omega
  obtain ⟨hg0, hg1⟩ := hg
  have hz2 := hd2.size
  have hR2 := hR1.chg hd2.chg (.inl (by omega))
  clear hR1
  go_wp2_with fail
  have hX3 := RB2.mk1 w2 (.int .i64 m) (.slice (some ⟨g, 0, none⟩) k c) 26
  have hR3 := hR2.below (w' := w2.alloc (.cells #[.int .i64 m, .slice (some ⟨g, 0, none⟩) k c] 26)) (by (repeat (first | exact Below.refl _ _ | (refine Below.setCell ?_ (by first | (simp; done) | (simp; omega) | omega) _) | (refine Below.alloc ?_ (by first | (simp; done) | (simp; omega) | omega) _) | (refine below_drewN ?_ _) | (refine Below.drew ?_)))) (Nat.le_refl _)
  have hO3 := hO2.alloc (.cells #[.int .i64 m, .slice (some ⟨g, 0, none⟩) k c] 26)
  have hd3 := hd2.alloc (.cells #[.int .i64 m, .slice (some ⟨g, 0, none⟩) k c] 26)
  have hlx := hX3.1.lt
  clear hR2 hO2 hd2
  generalize w2.alloc (.cells #[.int .i64 m, .slice (some ⟨g, 0, none⟩) k c] 26) = w3 at hX3 hR3 hO3 hd3 hlx ⊢
  obtain ⟨⟨x0, x1⟩, xf⟩ := id hX3
  have hd0 : Below w3.heap.size w3 w3.drew := (Below.refl _ _).drew
  have hsd0 := hd0.size
  refine wp_region_K (S := fun w' => w'.cell? ⟨w2.heap.size, 0, none⟩ = some (.int .i64 m) ∧ w'.cell? ⟨w2.heap.size, 1, none⟩ = some (.slice (some ⟨g, 0, none⟩) k c)) [5, 6] (by kernel_rfl) ?_
  have hHeld : (fun w' : World => w'.cell? ⟨w2.heap.size, 0, none⟩ = some (.int .i64 m) ∧ w'.cell? ⟨w2.heap.size, 1, none⟩ = some (.slice (some ⟨g, 0, none⟩) k c)) w3.drew := by go_keep
  refine' wpAnyK_takeL (i := 0) (v := _) rfl (by kernel_rfl) (by kernel_rfl) (by kernel_rfl) (by kernel_rfl) (fun _ _ _ h => h) (Or.inl ⟨by rfl, ?yT1⟩) hHeld ?rT1
  case yT1 => (intro w' hSw; (try dsimp only at hSw); go_simp; try with_reducible rfl)
  try simp only [List.getElem_toArray, List.getElem_cons_zero, List.getElem_cons_succ, Act.put, List.setIfInBounds_toArray, List.set_cons_zero, List.set_cons_succ]
  refine' wpAnyK_takeL (i := 1) (v := _) rfl (by kernel_rfl) (by kernel_rfl) (by kernel_rfl) (by kernel_rfl) (fun _ _ _ h => h) (Or.inl ⟨by rfl, ?yT2⟩) hHeld ?rT2
  case yT2 => (intro w' hSw; (try dsimp only at hSw); go_simp; try with_reducible rfl)
  try simp only [List.getElem_toArray, List.getElem_cons_zero, List.getElem_cons_succ, Act.put, List.setIfInBounds_toArray, List.set_cons_zero, List.set_cons_succ]
  refine' wpAnyK_takeL (i := 2) (v := _) rfl (by kernel_rfl) (by kernel_rfl) (by kernel_rfl) (by kernel_rfl) (fun _ _ _ h => h) (Or.inl ⟨by rfl, ?yT3⟩) hHeld ?rT3
  case yT3 => (intro w' hSw; (try dsimp only at hSw); go_simp; try with_reducible rfl)
  try simp only [List.getElem_toArray, List.getElem_cons_zero, List.getElem_cons_succ, Act.put, List.setIfInBounds_toArray, List.set_cons_zero, List.set_cons_succ]
  refine' wpAnyK_takeL (i := 3) (v := _) rfl (by kernel_rfl) (by kernel_rfl) (by kernel_rfl) (by kernel_rfl) (fun _ _ _ h => h) (Or.inl ⟨by rfl, ?yT4⟩) hHeld ?rT4
  case yT4 => (intro w' hSw; (try dsimp only at hSw); go_simp; try with_reducible rfl)
  try simp only [List.getElem_toArray, List.getElem_cons_zero, List.getElem_cons_succ, Act.put, List.setIfInBounds_toArray, List.set_cons_zero, List.set_cons_succ]
  refine wpAnyK_oneL (i := 4) rfl (by kernel_rfl) (fun K hK => ?_)
  go_simp
  go_at_call 212
  refine (l01Number_d _ n b m w3.drew hd3.drew.src).mono ?_
  rintro e w4 ⟨t, rfl, hd4⟩
  have hR4 := (show RB2 w3.drew _ _ _ from hR3).chg hd4.chg (.inl (by omega))
  have hX4 := (show RB2 w3.drew _ _ _ from hX3).dw hd4 (by omega)
  have hO4 := (show OwI w3.drew _ _ _ from hO3).dw hd4 (by omega)
  have hd4 := hd3.drew.trans hd4
  obtain ⟨⟨r0, r1⟩, rf⟩ := id hR4
  obtain ⟨⟨z0, z1⟩, zf⟩ := id hX4
  go_wp2_with fail
  clear hHeld
  have hHeld : (fun w' : World => w'.cell? ⟨w2.heap.size, 0, none⟩ = some (.int .i64 m) ∧ w'.cell? ⟨w2.heap.size, 1, none⟩ = some (.slice (some ⟨g, 0, none⟩) k c)) w4 := by go_keep
  refine hK.out _ _ (fun _ => hHeld) ?_
  clear hK K
  try simp only [List.getElem_toArray, List.getElem_cons_zero, List.getElem_cons_succ, Act.put, List.setIfInBounds_toArray, List.set_cons_zero, List.set_cons_succ]
  refine wpAnyK_oneL (i := 5) rfl (by kernel_rfl) (fun K hK => ?_)
  go_simp
  (try go_wp2_with fail)
  refine hK.out _ _ (fun h => absurd h (by decide)) ?_
  clear hK K
  try simp only [List.getElem_toArray, List.getElem_cons_zero, List.getElem_cons_succ, Act.put, List.setIfInBounds_toArray, List.set_cons_zero, List.set_cons_succ]
  refine wpAnyK_oneL (i := 6) rfl (by kernel_rfl) (fun K hK => ?_)
  go_simp
  (try go_wp2_with fail)
  refine hK.out _ _ (fun h => absurd h (by decide)) ?_
  clear hK K
  try simp only [List.getElem_toArray, List.getElem_cons_zero, List.getElem_cons_succ, Act.put, List.setIfInBounds_toArray, List.set_cons_zero, List.set_cons_succ]
  refine wpAnyK_done (by kernel_rfl) ?_ _
  go_wp2_with fail
  refine bodyPost_ret (v := .tuple #[.agg #[.int .i64 m, .slice (some ⟨g, 0, none⟩) k c], .int .i64 t]) (by simp [results, Try.results143, go_sem, r0, r1]) rfl ⟨m, g, c, ys, k, t, rfl, (rd_put (rd_put hO4 (by omega) _) (by omega) _).mono (by omega), ⟨hk1, hk2, hk3⟩, ?_⟩
  exact below_put (below_put (hd4.out hb1 (by omega)) (Nat.le_refl _) _) (Nat.le_refl _) _
set_option maxHeartbeats 1000000 in
set_option maxRecDepth 100000 in
theorem DrawChangeSeries_d (B n : Nat) (v : Value) (w : World) (hv : RdB w B n v) (hB : B ≤ w.heap.size) :
    Calls Try.prog 36 #[v] w fun e w' => SIDr w w' e := by
  obtain ⟨ov, cv, rfl, hmv, hcv⟩ := id hv
  clear hmv hcv
  go_enter Try.func36, Try.ntmps36
  go_wp2_with fail
  have hR0 := RB2.mk1 w (.int .i64 0) (.slice none 0 0) 26
  have hb0 : Below w.heap.size w (w.alloc (.cells #[.int .i64 0, .slice none 0 0] 26)) := (by (repeat (first | exact Below.refl _ _ | (refine Below.setCell ?_ (by first | (simp; done) | (simp; omega) | omega) _) | (refine Below.alloc ?_ (by first | (simp; done) | (simp; omega) | omega) _) | (refine below_drewN ?_ _) | (refine Below.drew ?_))))
  generalize w.alloc (.cells #[.int .i64 0, .slice none 0 0] 26) = w0 at hR0 hb0 ⊢
  have hv0 := hv.keep (w' := w0) (fun k hk => hb0.block k (by omega))
  have hl0 := hR0.1.lt
  refine (l01From_c B n _ w0 hv0 (by omega)).mono ?_
  rintro e w1 ⟨b, rfl, hs1, hb1⟩
  have hbl := hs1.1
  have hlt := hs1.lt
  have hR1 := hR0.below hb1 (Nat.le_refl _)
  have hb1 := hb0.trans (hb1.mono hb0.size)
  clear hR0 hb0 hv0
  go_wp2_with fail
  refine (l02Spoil_d _ n b w1 hs1).mono ?_
  rintro e w2 ⟨m, g, c, ys, k, rfl, hO2, ⟨hk1, hk2, hk3⟩, hd2⟩
  have hg : w1.heap.size ≤ g ∧ g < w2.heap.size := by
    obtain ⟨g', e, h1, h2⟩ := hO2.row (by omega)
    have : g = g' := by simpa using e
    omega
  obtain ⟨hg0, hg1⟩ := hg
  have hz2 := hd2.size
  have hR2 := hR1.chg hd2.chg (.inl (by omega))
  clear hR1
  go_wp2_with fail
  have hX3 := RB2.mk1 w2 (.int .i64 m) (.slice (some ⟨g, 0, none⟩) k c) 26
  have hR3 := hR2.below (w' := w2.alloc (.cells #[.int .i64 m, .slice (some ⟨g, 0, none⟩) k c] 26)) (by (repeat (first | exact Below.refl _ _ | (refine Below.setCell ?_ (by first | (simp; done) | (simp; omega) | omega) _) | (refine Below.alloc ?_ (by first | (simp; done) | (simp; omega) | omega) _) | (refine below_drewN ?_ _) | (refine Below.drew ?_)))) (Nat.le_refl _)
  have hO3 := hO2.alloc (.cells #[.int .i64 m, .slice (some ⟨g, 0, none⟩) k c] 26)
  have hd3 := hd2.alloc (.cells #[.int .i64 m, .slice (some ⟨g, 0, none⟩) k c] 26)
  have hlx := hX3.1.lt
  clear hR2 hO2 hd2
  generalize w2.alloc (.cells #[.int .i64 m, .slice (some ⟨g, 0, none⟩) k c] 26) = w3 at hX3 hR3 hO3 hd3 hlx ⊢
  obtain ⟨⟨x0, x1⟩, xf⟩ := id hX3
  have hd0 : Below w3.heap.size w3 w3.drew := (Below.refl _ _).drew
  have hsd0 := hd0.size
  refine wp_region_K (S := fun w' => w'.cell? ⟨w2.heap.size, 0, none⟩ = some (.int .i64 m) ∧ w'.cell? ⟨w2.heap.size, 1, none⟩ = some (.slice (some ⟨g, 0, none⟩) k c)) [5, 6] (by kernel_rfl) ?_
  have hHeld : (fun w' : World => w'.cell? ⟨w2.heap.size, 0, none⟩ = some (.int .i64 m) ∧ w'.cell? ⟨w2.heap.size, 1, none⟩ = some (.slice (some ⟨g, 0, none⟩) k c)) w3.drew := by go_keep
  refine' wpAnyK_takeL (i := 0) (v := _) rfl (by kernel_rfl) (by kernel_rfl) (by kernel_rfl) (by kernel_rfl) (fun _ _ _ h => h) (Or.inl ⟨by rfl, ?yT5⟩) hHeld ?rT5
  case yT5 => (intro w' hSw; (try dsimp only at hSw); go_simp; try with_reducible rfl)
  try simp only [List.getElem_toArray, List.getElem_cons_zero, List.getElem_cons_succ, Act.put, List.setIfInBounds_toArray, List.set_cons_zero, List.set_cons_succ]
  refine' wpAnyK_takeL (i := 1) (v := _) rfl (by kernel_rfl) (by kernel_rfl) (by kernel_rfl) (by kernel_rfl) (fun _ _ _ h => h) (Or.inl ⟨by rfl, ?yT6⟩) hHeld ?rT6
  case yT6 => (intro w' hSw; (try dsimp only at hSw); go_simp; try with_reducible rfl)
  try simp only [List.getElem_toArray, List.getElem_cons_zero, List.getElem_cons_succ, Act.put, List.setIfInBounds_toArray, List.set_cons_zero, List.set_cons_succ]
  refine' wpAnyK_takeL (i := 2) (v := _) rfl (by kernel_rfl) (by kernel_rfl) (by kernel_rfl) (by kernel_rfl) (fun _ _ _ h => h) (Or.inl ⟨by rfl, ?yT7⟩) hHeld ?rT7
  case yT7 => (intro w' hSw; (try dsimp only at hSw); go_simp; try with_reducible rfl)
  try simp only [List.getElem_toArray, List.getElem_cons_zero, List.getElem_cons_succ, Act.put, List.setIfInBounds_toArray, List.set_cons_zero, List.set_cons_succ]
  refine' wpAnyK_takeL (i := 3) (v := _) rfl (by kernel_rfl) (by kernel_rfl) (by kernel_rfl) (by kernel_rfl) (fun _ _ _ h => h) (Or.inl ⟨by rfl, ?yT8⟩) hHeld ?rT8
  case yT8 => (intro w' hSw; (try dsimp only at hSw); go_simp; try with_reducible rfl)
  try simp only [List.getElem_toArray, List.getElem_cons_zero, List.getElem_cons_succ, Act.put, List.setIfInBounds_toArray, List.set_cons_zero, List.set_cons_succ]
  refine wpAnyK_oneL (i := 4) rfl (by kernel_rfl) (fun K hK => ?_)
  go_simp
  go_at_call 136
  refine (l02Divisor_d _ n b m w3.drew hd3.drew.src).mono ?_
  rintro e w4 ⟨t, rfl, hd4⟩
  have hR4 := (show RB2 w3.drew _ _ _ from hR3).chg hd4.chg (.inl (by omega))
  have hX4 := (show RB2 w3.drew _ _ _ from hX3).dw hd4 (by omega)
  have hO4 := (show OwI w3.drew _ _ _ from hO3).dw hd4 (by omega)
  have hd4 := hd3.drew.trans hd4
  obtain ⟨⟨r0, r1⟩, rf⟩ := id hR4
  obtain ⟨⟨z0, z1⟩, zf⟩ := id hX4
  go_wp2_with fail
  clear hHeld
  have hHeld : (fun w' : World => w'.cell? ⟨w2.heap.size, 0, none⟩ = some (.int .i64 m) ∧ w'.cell? ⟨w2.heap.size, 1, none⟩ = some (.slice (some ⟨g, 0, none⟩) k c)) w4 := by go_keep
  refine hK.out _ _ (fun _ => hHeld) ?_
  clear hK K
  try simp only [List.getElem_toArray, List.getElem_cons_zero, List.getElem_cons_succ, Act.put, List.setIfInBounds_toArray, List.set_cons_zero, List.set_cons_succ]
  refine wpAnyK_oneL (i := 5) rfl (by kernel_rfl) (fun K hK => ?_)
  go_simp
  (try go_wp2_with fail)
  refine hK.out _ _ (fun h => absurd h (by decide)) ?_
  clear hK K
  try simp only [List.getElem_toArray, List.getElem_cons_zero, List.getElem_cons_succ, Act.put, List.setIfInBounds_toArray, List.set_cons_zero, List.set_cons_succ]
  refine wpAnyK_oneL (i := 6) rfl (by kernel_rfl) (fun K hK => ?_)
  go_simp
  (try go_wp2_with fail)
  refine hK.out _ _ (fun h => absurd h (by decide)) ?_
  clear hK K
  try simp only [List.getElem_toArray, List.getElem_cons_zero, List.getElem_cons_succ, Act.put, List.setIfInBounds_toArray, List.set_cons_zero, List.set_cons_succ]
  refine wpAnyK_done (by kernel_rfl) ?_ _
  go_wp2_with fail
  refine bodyPost_ret (v := .tuple #[.agg #[.int .i64 m, .slice (some ⟨g, 0, none⟩) k c], .int .i64 t]) (by simp [results, Try.results36, go_sem, r0, r1]) rfl ⟨m, _, ys.take k, t, rfl, ((rd_put (rd_put hO4 (by omega) _) (by omega) _).rd).take k hk2, by simp; omega, ?_⟩
  exact below_put (below_put (hd4.out hb1 (by omega)) (Nat.le_refl _) _) (Nat.le_refl _) _
set_option maxHeartbeats 1000000 in
set_option maxRecDepth 100000 in
theorem DrawValueOfSeries_d (B n : Nat) (v : Value) (w : World) (hv : RdB w B n v) (hB : B ≤ w.heap.size) :
    Calls Try.prog 41 #[v] w fun e w' => SIDr w w' e := by
  obtain ⟨ov, cv, rfl, hmv, hcv⟩ := id hv
  clear hmv hcv
  go_enter Try.func41, Try.ntmps41
  go_wp2_with fail
  have hR0 := RB2.mk1 w (.int .i64 0) (.slice none 0 0) 26
  have hb0 : Below w.heap.size w (w.alloc (.cells #[.int .i64 0, .slice none 0 0] 26)) := (by (repeat (first | exact Below.refl _ _ | (refine Below.setCell ?_ (by first | (simp; done) | (simp; omega) | omega) _) | (refine Below.alloc ?_ (by first | (simp; done) | (simp; omega) | omega) _) | (refine below_drewN ?_ _) | (refine Below.drew ?_))))
  generalize w.alloc (.cells #[.int .i64 0, .slice none 0 0] 26) = w0 at hR0 hb0 ⊢
  have hv0 := hv.keep (w' := w0) (fun k hk => hb0.block k (by omega))
  have hl0 := hR0.1.lt
  refine (DrawScaleSeries_d B n _ w0 hv0 (by omega)).mono ?_
  rintro e w1 ⟨m, g, c, ys, k, t, rfl, hO1, ⟨hk1, hk2, hk3⟩, hb1⟩
  have hR1 := hR0.below hb1 (Nat.le_refl _)
  have hb1 := hb0.trans (hb1.mono hb0.size)
  have hlR := hR1.1.lt
  have n1 : w.heap.size ≠ w1.heap.size := by omega
  obtain ⟨⟨r0, r1⟩, rf⟩ := id hR1
  go_wp2_with fail
  refine bodyPost_ret (v := .tuple #[.agg #[.int .i64 m, .slice (some ⟨g, 0, none⟩) k c], .int .i64 t]) (by simp [results, Try.results41, go_sem, r0, r1, n1, hlR]) rfl ⟨m, _, ys.take k, t, rfl, ((((rd_put (rd_put hO1 (by omega) _) (by omega) _).alloc _).rd).take k hk2), by simp; omega, ?_⟩
  exact (below_put (below_put hb1 (Nat.le_refl _) _) (Nat.le_refl _) _).alloc (by simp; omega) _
set_option maxHeartbeats 1000000 in
set_option maxRecDepth 100000 in
theorem DrawIntegrateSeries_d (B n : Nat) (v : Value) (w : World) (hv : RdB w B n v) (hB : B ≤ w.heap.size) :
    Calls Try.prog 33 #[v] w fun e w' => S1Dr w w' e := by
  obtain ⟨ov, cv, rfl, hmv, hcv⟩ := id hv
  clear hmv hcv
  go_enter Try.func33, Try.ntmps33
  go_wp2_with fail
  have hR0 := RB2.mk1 w (.int .i64 0) (.slice none 0 0) 26
  have hb0 : Below w.heap.size w (w.alloc (.cells #[.int .i64 0, .slice none 0 0] 26)) := (by (repeat (first | exact Below.refl _ _ | (refine Below.setCell ?_ (by first | (simp; done) | (simp; omega) | omega) _) | (refine Below.alloc ?_ (by first | (simp; done) | (simp; omega) | omega) _) | (refine below_drewN ?_ _) | (refine Below.drew ?_))))
  generalize w.alloc (.cells #[.int .i64 0, .slice none 0 0] 26) = w0 at hR0 hb0 ⊢
  have hv0 := hv.keep (w' := w0) (fun k hk => hb0.block k (by omega))
  have hl0 := hR0.1.lt
  refine (l01From_c B n _ w0 hv0 (by omega)).mono ?_
  rintro e w1 ⟨b, rfl, hs1, hb1⟩
  have hbl := hs1.1
  have hlt := hs1.lt
  have hR1 := hR0.below hb1 (Nat.le_refl _)
  have hb1 := hb0.trans (hb1.mono hb0.size)
  clear hR0 hb0 hv0
  go_wp2_with fail
  refine (l02Spoil_d _ n b w1 hs1).mono ?_
  rintro e w2 ⟨m, g, c, ys, k, rfl, hO2, ⟨hk1, hk2, hk3⟩, hd2⟩
  have hg : w1.heap.size ≤ g ∧ g < w2.heap.size := by
    obtain ⟨g', e, h1, h2⟩ := hO2.row (by omega)
    have : g = g' := by simpa using e
    omega
  obtain ⟨hg0, hg1⟩ := hg
  have hz2 := hd2.size
  have hR2 := hR1.chg hd2.chg (.inl (by omega))
  clear hR1
  go_wp2_with fail
  have hX3 := RB2.mk1 w2 (.int .i64 m) (.slice (some ⟨g, 0, none⟩) k c) 26
  have hR3 := hR2.below (w' := w2.alloc (.cells #[.int .i64 m, .slice (some ⟨g, 0, none⟩) k c] 26)) (by (repeat (first | exact Below.refl _ _ | (refine Below.setCell ?_ (by first | (simp; done) | (simp; omega) | omega) _) | (refine Below.alloc ?_ (by first | (simp; done) | (simp; omega) | omega) _) | (refine below_drewN ?_ _) | (refine Below.drew ?_)))) (Nat.le_refl _)
  have hO3 := hO2.alloc (.cells #[.int .i64 m, .slice (some ⟨g, 0, none⟩) k c] 26)
  have hd3 := hd2.alloc (.cells #[.int .i64 m, .slice (some ⟨g, 0, none⟩) k c] 26)
  have hlx := hX3.1.lt
  clear hR2 hO2 hd2
  generalize w2.alloc (.cells #[.int .i64 m, .slice (some ⟨g, 0, none⟩) k c] 26) = w3 at hX3 hR3 hO3 hd3 hlx ⊢
  refine (next_d _ n b _ w3 hd3.src).mono ?_
  rintro e w4 ⟨t, rfl, t0, t1, t2, hd4, hz4⟩
  have hR4 := hR3.chg hd4.chg (.inl (by omega))
  have hO4 := hO3.dw hd4 (by omega)
  have hX4 := hX3.dw hd4 (by omega)
  have hd4 := hd3.trans hd4
  clear t1 t2 hz4
  by_cases h0 : t = 0
  · subst h0
    go_wp2_with fail
    refine (pick_d _ n b _ _ [11, 13, 121, 5, 7, 49] _ w4 hd4.src rfl rfl rfl (by simp) (by simp)).mono ?_
    rintro e w5 ⟨q, rfl, hq, hd5, hz5⟩
    have hR5 := hR4.chg hd5.chg (.inl (by omega))
    have hd5 := hd4.trans hd5
    clear hz5 hq
    go_wp2_with fail
    refine (next_d _ n b _ w5 hd5.src).mono ?_
    rintro e w6 ⟨y, rfl, y0, y1, y2, hd6, hz6⟩
    have y1 := y1 (by omega)
    have hR6 := hR5.chg hd6.chg (.inl (by omega))
    have hd6 := hd5.trans hd6
    clear hz6 y2
    go_wp2_with fail
    refine (list_i _ n b q (2 + y) (2 + y).toNat w6 hd6.src (by omega) (by omega)).mono ?_
    rintro e w7 ⟨u, xs, rfl, hO7, hl7, hd7⟩
    obtain ⟨o7, c7, rfl⟩ := hO7.shape
    have hR7 := hR6.chg hd7.chg (.inl (by omega))
    have hz6 := hd6.size
    have hd7 := hd6.trans hd7
    have HL := Lib.hid (show 1 ≤ xs.length ∧ xs.length ≤ 30 by omega)
    clear hl7
    go_wp2_with fail
    refine (l02Make_c q o7 xs.length c7 w7).mono ?_
    rintro e w8 ⟨rfl, hb8⟩
    have hR8 := hR7.below hb8 (Nat.le_refl _)
    have hO8 := hO7.below hb8
    have hd8 := hd7.below hb8
    obtain ⟨⟨r0, r1⟩, rf⟩ := id hR8
    go_wp2_with fail
    refine bodyPost_ret (v := .agg #[.int .i64 q, .slice o7 xs.length c7]) (by simp [results, Try.results33, go_sem, r0, r1]) rfl ⟨q, _, xs, rfl, (rd_put (rd_put hO8 (by omega) _) (by omega) _).rd, HL.out, ?_⟩
    exact below_put (below_put (hd8.out hb1 (by omega)) (Nat.le_refl _) _) (Nat.le_refl _) _
  have h0' : ¬ t = 0 := h0
  obtain ⟨⟨x0, x1⟩, xf⟩ := id hX4
  obtain ⟨⟨r0, r1⟩, rf⟩ := id hR4
  go_wp2_with fail
  refine bodyPost_ret (v := .agg #[.int .i64 m, .slice (some ⟨g, 0, none⟩) k c]) (by simp [results, Try.results33, go_sem, r0, r1]) rfl ⟨m, _, _, rfl, ((rd_put (rd_put hO4 (by omega) _) (by omega) _).rd).take k hk2, by simp; omega, ?_⟩
  exact below_put (below_put (hd4.out hb1 (by omega)) (Nat.le_refl _) _) (Nat.le_refl _) _
end Go.Proofs.Ytcjinlfgeljmkaa
