/- Lemmas of SrcS. -/
import Derived.Test.YtcjinlfgeljmkaaWSSrcD
import Derived.Test.YtcjinlfgeljmkaaWSG1
import Derived.Test.YtcjinlfgeljmkaaWSG3
import Derived.Test.YtcjinlfgeljmkaaWSCopy
import Derived.Lib.MinMax
set_option linter.unusedSimpArgs false
set_option linter.unusedVariables false
namespace Go.Proofs.Ytcjinlfgeljmkaa
open Go.RowKit

def LDr (k : Nat) (w w' : World) (B n b : Nat) (e : Ending) : Prop := ∃ v xs, e = .returned v ∧ OwI w' w.heap.size v xs ∧ xs.length = k ∧ DW B n b w w'

set_option maxHeartbeats 1000000 in
set_option maxRecDepth 100000 in
theorem l01List_d (B n b : Nat) (m : Int) (K : Nat) (w : World) (hs : Src w B n b) (hK : K ≤ 1000) :
    Calls Try.prog 131 #[.pointer (some ⟨b, 0, none⟩), .int .i64 m, .int .i64 K] w fun e w' => LDr K w w' B n b e := by
  have hlt := hs.lt
  have hmx : max m 1 ≠ 0 := by omega
  have hmb : (max m 1 == 0) = false := by simp; omega
  go_enter Try.func131, Try.ntmps131
  go_wp2_with fail
  have hO0 : OwI (w.alloc (.cells #[] 2)) w.heap.size (.slice (some ⟨w.heap.size, 0, none⟩) 0 0) [] := OwI.lit w [] (Nat.zero_le _)
  have hd0 := (DW.refl hs).alloc (.cells #[] 2)
  generalize w.alloc (.cells #[] 2) = w0 at hO0 hd0 ⊢
  go_loopw [2, 7] (fun i v wr => ∃ (j : Nat) (xs : List Int) (o : Option Addr) (c : Nat), (j ≤ K ∧ j + xs.length = K) ∧ i = .int .i64 j ∧ v = .slice o xs.length c ∧ OwI wr w.heap.size (.slice o xs.length c) xs ∧ DW B n b w wr) (fun i _ _ => (intOf i).toNat)
  case atStart => exact ⟨K, [], _, 0, ⟨Nat.le_refl _, rfl⟩, by go_num, rfl, hO0, hd0⟩
  case round =>
    clear hO0 hd0
    obtain ⟨j, xs, o, c, ⟨hj, hjx⟩, rfl, rfl, hO, hD⟩ := hrel
    have HJ := Lib.hid hjx
    clear hjx
    by_cases hj0 : 0 < j
    · have i1 : (0 : Int) < (j : Int) := by omega
      go_wp2_with fail
      have hd0 : Below wr.heap.size wr wr.drew := (Below.refl _ _).drew
      have hsd0 := hd0.size
      refine wp_region_K (S := fun w' => True) [15] (by kernel_rfl) ?_
      have hHeld : (fun w' : World => True) wr.drew := by trivial
      refine' wpAnyK_takeL (i := 0) (v := _) rfl (by kernel_rfl) (by kernel_rfl) (by kernel_rfl) (by kernel_rfl) (fun _ _ _ h => h) (Or.inl ⟨by rfl, ?yT1⟩) hHeld ?rT1
      case yT1 => (intro w' hSw; (try dsimp only at hSw); go_simp; try with_reducible rfl)
      try simp only [List.getElem_toArray, List.getElem_cons_zero, List.getElem_cons_succ, Act.put, List.setIfInBounds_toArray, List.set_cons_zero, List.set_cons_succ]
      refine' wpAnyK_takeL (i := 1) (v := _) rfl (by kernel_rfl) (by kernel_rfl) (by kernel_rfl) (by kernel_rfl) (fun _ _ _ h => h) (Or.inl ⟨by rfl, ?yT2⟩) hHeld ?rT2
      case yT2 => (intro w' hSw; (try dsimp only at hSw); go_simp; try with_reducible rfl)
      try simp only [List.getElem_toArray, List.getElem_cons_zero, List.getElem_cons_succ, Act.put, List.setIfInBounds_toArray, List.set_cons_zero, List.set_cons_succ]
      refine' wpAnyK_takeL (i := 2) (v := _) rfl (by kernel_rfl) (by kernel_rfl) (by kernel_rfl) (by kernel_rfl) (fun _ _ _ h => h) (Or.inl ⟨by rfl, ?yT3⟩) hHeld ?rT3
      case yT3 => (intro w' hSw; (try dsimp only at hSw); go_simp; try with_reducible rfl)
      try simp only [List.getElem_toArray, List.getElem_cons_zero, List.getElem_cons_succ, Act.put, List.setIfInBounds_toArray, List.set_cons_zero, List.set_cons_succ]
      refine' wpAnyK_takeL (i := 3) (v := _) rfl (by kernel_rfl) (by kernel_rfl) (by kernel_rfl) (by kernel_rfl) (fun _ _ _ h => h) (Or.inl ⟨by rfl, ?yT4⟩) hHeld ?rT4
      case yT4 => (intro w' hSw; (try dsimp only at hSw); go_simp; try with_reducible rfl)
      try simp only [List.getElem_toArray, List.getElem_cons_zero, List.getElem_cons_succ, Act.put, List.setIfInBounds_toArray, List.set_cons_zero, List.set_cons_succ]
      refine' wpAnyK_takeL (i := 4) (v := _) rfl (by kernel_rfl) (by kernel_rfl) (by kernel_rfl) (by kernel_rfl) (fun _ _ _ h => h) (Or.inl ⟨by rfl, ?yT5⟩) hHeld ?rT5
      case yT5 => (intro w' hSw; (try dsimp only at hSw); go_simp; try with_reducible rfl)
      try simp only [List.getElem_toArray, List.getElem_cons_zero, List.getElem_cons_succ, Act.put, List.setIfInBounds_toArray, List.set_cons_zero, List.set_cons_succ]
      refine' wpAnyK_takeL (i := 5) (v := _) rfl (by kernel_rfl) (by kernel_rfl) (by kernel_rfl) (by kernel_rfl) (fun _ _ _ h => h) (Or.inl ⟨by rfl, ?yT6⟩) hHeld ?rT6
      case yT6 => (intro w' hSw; (try dsimp only at hSw); go_simp; try with_reducible rfl)
      try simp only [List.getElem_toArray, List.getElem_cons_zero, List.getElem_cons_succ, Act.put, List.setIfInBounds_toArray, List.set_cons_zero, List.set_cons_succ]
      refine' wpAnyK_takeL (i := 6) (v := _) rfl (by kernel_rfl) (by kernel_rfl) (by kernel_rfl) (by kernel_rfl) (fun _ _ _ h => h) (Or.inl ⟨by rfl, ?yT7⟩) hHeld ?rT7
      case yT7 => (intro w' hSw; (try dsimp only at hSw); go_simp; try with_reducible rfl)
      try simp only [List.getElem_toArray, List.getElem_cons_zero, List.getElem_cons_succ, Act.put, List.setIfInBounds_toArray, List.set_cons_zero, List.set_cons_succ]
      refine' wpAnyK_takeL (i := 8) (v := _) rfl (by kernel_rfl) (by kernel_rfl) (by kernel_rfl) (by kernel_rfl) (fun _ _ _ h => h) (Or.inl ⟨by rfl, ?yT8⟩) hHeld ?rT8
      case yT8 => (intro w' hSw; (try dsimp only at hSw); go_simp; try with_reducible rfl)
      try simp only [List.getElem_toArray, List.getElem_cons_zero, List.getElem_cons_succ, Act.put, List.setIfInBounds_toArray, List.set_cons_zero, List.set_cons_succ]
      refine' wpAnyK_takeL (i := 9) (v := _) rfl (by kernel_rfl) (by kernel_rfl) (by kernel_rfl) (by kernel_rfl) (fun _ _ _ h => h) (Or.inl ⟨by rfl, ?yT9⟩) hHeld ?rT9
      case yT9 => (intro w' hSw; (try dsimp only at hSw); go_simp; try with_reducible rfl)
      try simp only [List.getElem_toArray, List.getElem_cons_zero, List.getElem_cons_succ, Act.put, List.setIfInBounds_toArray, List.set_cons_zero, List.set_cons_succ]
      refine wpAnyK_oneL (i := 7) rfl (by kernel_rfl) (fun K hK => ?_)
      go_simp
      go_at_call 116
      refine (next_d B n b m _ hD.drew.src).mono ?_
      rintro e w1 ⟨y, rfl, y0, y1, y2, hd1, hz1⟩
      have hO1 := (show OwI wr.drew _ _ _ from hO).dw hd1 hlt
      have hD1 := hD.drew.trans hd1
      clear y1 y2 hd1 hz1
      go_wp2_with fail
      refine hK.out _ _ (fun _ => hHeld) ?_
      clear hK K
      try simp only [List.getElem_toArray, List.getElem_cons_zero, List.getElem_cons_succ, Act.put, List.setIfInBounds_toArray, List.set_cons_zero, List.set_cons_succ]
      refine wpAnyK_oneL (i := 10) rfl (by kernel_rfl) (fun K hK => ?_)
      go_simp
      go_at_call 116
      refine (next_d B n b m w1 hD1.src).mono ?_
      rintro e w2 ⟨z, rfl, z0, z1, z2, hd2, hz2⟩
      have hO2 := hO1.dw hd2 hlt
      have hD2 := hD1.trans hd2
      clear z1 z2 hd2 hz2
      go_wp2_with fail
      refine hK.out _ _ (fun _ => hHeld) ?_
      clear hK K
      try simp only [List.getElem_toArray, List.getElem_cons_zero, List.getElem_cons_succ, Act.put, List.setIfInBounds_toArray, List.set_cons_zero, List.set_cons_succ]
      refine wpAnyK_oneL (i := 11) rfl (by kernel_rfl) (fun K hK => ?_)
      go_simp
      (try go_wp2_with fail)
      refine hK.out _ _ (fun _ => hHeld) ?_
      clear hK K
      try simp only [List.getElem_toArray, List.getElem_cons_zero, List.getElem_cons_succ, Act.put, List.setIfInBounds_toArray, List.set_cons_zero, List.set_cons_succ]
      refine wpAnyK_oneL (i := 12) rfl (by kernel_rfl) (fun K hK => ?_)
      go_simp
      go_at_call 130
      refine (pick_d B n b _ _ [0, _, y, z] _ w2 hD2.src rfl rfl rfl (by simp) (by simp)).mono ?_
      rintro e w3 ⟨t, rfl, t0, hd3, hz3⟩
      have hO3 := hO2.dw hd3 hlt
      have hD3 := hD2.trans hd3
      clear t0 hd3 hz3
      go_wp2_with fail
      refine hK.out _ _ (fun _ => hHeld) ?_
      clear hK K
      try simp only [List.getElem_toArray, List.getElem_cons_zero, List.getElem_cons_succ, Act.put, List.setIfInBounds_toArray, List.set_cons_zero, List.set_cons_succ]
      refine wpAnyK_oneL (i := 13) rfl (by kernel_rfl) (fun K hK => ?_)
      go_simp
      (try go_wp2_with fail)
      refine hK.out _ _ (fun _ => hHeld) ?_
      clear hK K
      try simp only [List.getElem_toArray, List.getElem_cons_zero, List.getElem_cons_succ, Act.put, List.setIfInBounds_toArray, List.set_cons_zero, List.set_cons_succ]
      refine wpAnyK_oneL (i := 14) rfl (by kernel_rfl) (fun K hK => ?_)
      have hOl := hO3.lt
      have hD4 := hD3.alloc (.cells #[.int .i64 t] 2)
      have hz4 := hD3.size
      refine stR _ rfl _ _ rfl w.heap.size (.slice o xs.length c) xs rfl (hO3.alloc _) ⟨w3.heap.size, 0, none⟩ 1 1 [t] rfl (OwI.lit w3 [t] (by simp [maxLen])).rd (by have := HJ.out; simp; omega) (by simp; omega) ?_
      intro o4 c4 w4 hO4 hg4 hb4
      have hD4 := hD4.grown hg4 (fun k hk => (hOl _ hk).1)
      clear hO1 hO2 hO3 hD1 hD2 hD3 hg4 hb4 hOl
      refine hK.out _ _ (fun _ => hHeld) ?_
      clear hK K
      try simp only [List.getElem_toArray, List.getElem_cons_zero, List.getElem_cons_succ, Act.put, List.setIfInBounds_toArray, List.set_cons_zero, List.set_cons_succ]
      refine wpAnyK_oneL (i := 15) rfl (by kernel_rfl) (fun K hK => ?_)
      go_simp
      (try go_wp2_with fail)
      refine hK.out _ _ (fun h => absurd h (by decide)) ?_
      clear hK K
      try simp only [List.getElem_toArray, List.getElem_cons_zero, List.getElem_cons_succ, Act.put, List.setIfInBounds_toArray, List.set_cons_zero, List.set_cons_succ]
      refine wpAnyK_done (by kernel_rfl) ?_ _
      go_wp2_with fail
      go_wp2
      exact ⟨⟨j - 1, xs ++ [t], o4, c4, ⟨by omega, by have := HJ.out; simp; omega⟩, by go_num, by simp, hO4, hD4⟩, by simp [intOf]; omega⟩
    · obtain rfl : j = 0 := by omega
      go_wp2
      go_ret
      exact ⟨_, xs, rfl, hO, by have := HJ.out; omega, hD⟩
theorem list_i (B n b : Nat) (m k : Int) (K : Nat) (w : World) (hs : Src w B n b) (hK : K ≤ 1000) (hk : k = K) :
    Calls Try.prog 131 #[.pointer (some ⟨b, 0, none⟩), .int .i64 m, .int .i64 k] w fun e w' => LDr K w w' B n b e := by subst hk; exact l01List_d B n b m K w hs hK
def SDr (w w' : World) (B n b : Nat) (e : Ending) : Prop := ∃ m v xs, e = .returned (.agg #[.int .i64 m, v]) ∧ OwI w' w.heap.size v xs ∧ (2 ≤ xs.length ∧ xs.length ≤ 11) ∧ DW B n b w w'

set_option maxHeartbeats 1000000 in
set_option maxRecDepth 100000 in
theorem l02Draw_d (B n b : Nat) (w : World) (hs : Src w B n b) :
    Calls Try.prog 201 #[.pointer (some ⟨b, 0, none⟩)] w fun e w' => SDr w w' B n b e := by
  have hlt := hs.lt
  go_enter Try.func201, Try.ntmps201
  go_wp2_with fail
  have hR0 := RB2.mk1 w (.int .i64 0) (.slice none 0 0) 26
  have hd0 : DW B n b w (w.alloc (.cells #[.int .i64 0, .slice none 0 0] 26)) := (DW.refl hs).alloc _
  have hz0 := hd0.size
  generalize w.alloc (.cells #[.int .i64 0, .slice none 0 0] 26) = w0 at hR0 hd0 hz0 ⊢
  refine (l01DrawModulus_d B n b w0 hd0.src).mono ?_
  rintro e w1 ⟨m, rfl, hd1⟩
  have hR1 := hR0.dw hd1 hlt
  have hd1 := hd0.trans hd1
  go_wp2_with fail
  refine (next_d B n b _ w1 hd1.src).mono ?_
  rintro e w2 ⟨x, rfl, x0, x1, x2, hd2, hz2⟩
  have x1 := x1 (by omega)
  have hR2 := hR1.dw hd2 hlt
  have hd2 := hd1.trans hd2
  clear hz2 x2
  go_wp2_with fail
  refine (next_d B n b _ w2 hd2.src).mono ?_
  rintro e w3 ⟨y, rfl, y0, y1, y2, hd3, hz3⟩
  have y1 := y1 (by omega)
  have hR3 := hR2.dw hd3 hlt
  have hd3 := hd2.trans hd3
  clear hz3 y2
  go_wp2_with fail
  refine (next_d B n b _ w3 hd3.src).mono ?_
  rintro e w4 ⟨z, rfl, z0, z1, z2, hd4, hz4⟩
  have z1 := z1 (by omega)
  have hR4 := hR3.dw hd4 hlt
  have hd4 := hd3.trans hd4
  clear hz4 z2
  go_wp2_with fail
  refine (pick_d B n b _ _ [x, y, z] _ w4 hd4.src rfl rfl rfl (by simp) (by simp)).mono ?_
  rintro e w5 ⟨t, rfl, ht, hd5, hz5⟩
  have ht : 0 ≤ t ∧ t ≤ 9 := by simp at ht; omega
  obtain ⟨t0, t9⟩ := ht
  have hR5 := hR4.dw hd5 hlt
  have hd5 := hd4.trans hd5
  clear hz5
  go_wp2_with fail
  refine (list_i B n b m (2 + t) (2 + t).toNat w5 hd5.src (by omega) (by omega)).mono ?_
  rintro e w6 ⟨v, xs, rfl, hO6, hl6, hd6⟩
  obtain ⟨o, c, rfl⟩ := hO6.shape
  have hR6 := hR5.dw hd6 hlt
  have hz6 := hd5.size
  have hd6 := hd5.trans hd6
  have HL := Lib.hid hl6
  clear hl6
  go_wp2_with fail
  refine (l02Make_c m o xs.length c w6).mono ?_
  rintro e w7 ⟨rfl, hb7⟩
  have hR7 := hR6.below hb7 (Nat.le_refl _)
  have hO7 := hO6.below hb7
  have hd7 := hd6.below hb7
  have hl0 := hR7.1.lt
  have hlw := hR0.1.lt
  have hz5 := hd1.size
  obtain ⟨⟨r0, r1⟩, rf⟩ := id hR7
  go_wp2_with fail
  refine bodyPost_ret (v := .agg #[.int .i64 m, .slice o xs.length c]) (by simp [results, Try.results201, go_sem, r0, r1]) rfl ⟨m, _, xs, rfl, ?_, by have := HL.out; omega, ?_⟩
  · have hz15 : w.heap.size < w5.heap.size := by have := hR5.1.lt; omega
    exact ((hO7.low (by simp; omega) _).low (by simp; omega) _).mono (by omega)
  · exact (hd7.put (Nat.le_refl _) _ _).put (Nat.le_refl _) _ _

set_option maxHeartbeats 1000000 in
set_option maxRecDepth 100000 in
theorem l02Like_d (B n b : Nat) (m : Int) (o : Option Addr) (N c : Nat) (w : World) (hs : Src w B n b) (hN : N ≤ 1000) :
    Calls Try.prog 202 #[.pointer (some ⟨b, 0, none⟩), .agg #[.int .i64 m, .slice o N c]] w fun e w' => ∃ v xs, e = .returned (.agg #[.int .i64 m, v]) ∧ OwI w' w.heap.size v xs ∧ xs.length = N ∧ DW B n b w w' := by
  have hlt := hs.lt
  go_enter Try.func202, Try.ntmps202
  go_wp2_with fail
  have hX0 := Box2.mk' w (.int .i64 m) (.slice o N c) 26
  have hX0 := hX0.below (B := (w.alloc (.cells #[.int .i64 m, .slice o N c] 26)).heap.size) (w' := (w.alloc (.cells #[.int .i64 m, .slice o N c] 26)).alloc (.cells #[.int .i64 0, .slice none 0 0] 26)) (by (repeat (first | exact Below.refl _ _ | (refine Below.setCell ?_ (by first | (simp; done) | (simp; omega) | omega) _) | (refine Below.alloc ?_ (by first | (simp; done) | (simp; omega) | omega) _) | (refine below_drewN ?_ _) | (refine Below.drew ?_)))) (Nat.le_refl _)
  have hR0 := RB2.mk2 w (.cells #[.int .i64 m, .slice o N c] 26) (.int .i64 0) (.slice none 0 0) 26
  have hq0 := ((DW.refl hs).alloc (.cells #[.int .i64 m, .slice o N c] 26)).alloc (.cells #[.int .i64 0, .slice none 0 0] 26)
  generalize (w.alloc (.cells #[.int .i64 m, .slice o N c] 26)).alloc (.cells #[.int .i64 0, .slice none 0 0] 26) = w0 at hX0 hR0 hq0 ⊢
  have hlR := hR0.1.lt
  obtain ⟨x0, x1⟩ := id hX0
  have hd0 : Below w0.heap.size w0 w0.drew := (Below.refl _ _).drew
  have hsd0 := hd0.size
  refine wp_region_K (S := fun w' => w'.cell? ⟨w.heap.size, 0, none⟩ = some (.int .i64 m) ∧ w'.cell? ⟨w.heap.size, 1, none⟩ = some (.slice o N c)) [10] (by kernel_rfl) ?_
  have hHeld : (fun w' : World => w'.cell? ⟨w.heap.size, 0, none⟩ = some (.int .i64 m) ∧ w'.cell? ⟨w.heap.size, 1, none⟩ = some (.slice o N c)) w0.drew := by go_keep
  refine' wpAnyK_takeL (i := 0) (v := _) rfl (by kernel_rfl) (by kernel_rfl) (by kernel_rfl) (by kernel_rfl) (fun _ _ _ h => h) (Or.inl ⟨by rfl, ?yT10⟩) hHeld ?rT10
  case yT10 => (intro w' hSw; (try dsimp only at hSw); go_simp; try with_reducible rfl)
  try simp only [List.getElem_toArray, List.getElem_cons_zero, List.getElem_cons_succ, Act.put, List.setIfInBounds_toArray, List.set_cons_zero, List.set_cons_succ]
  refine' wpAnyK_takeL (i := 1) (v := _) rfl (by kernel_rfl) (by kernel_rfl) (by kernel_rfl) (by kernel_rfl) (fun _ _ _ h => h) (Or.inl ⟨by rfl, ?yT11⟩) hHeld ?rT11
  case yT11 => (intro w' hSw; (try dsimp only at hSw); go_simp; try with_reducible rfl)
  try simp only [List.getElem_toArray, List.getElem_cons_zero, List.getElem_cons_succ, Act.put, List.setIfInBounds_toArray, List.set_cons_zero, List.set_cons_succ]
  refine' wpAnyK_takeL (i := 2) (v := _) rfl (by kernel_rfl) (by kernel_rfl) (by kernel_rfl) (by kernel_rfl) (fun _ _ _ h => h) (Or.inl ⟨by rfl, ?yT12⟩) hHeld ?rT12
  case yT12 => (intro w' hSw; (try dsimp only at hSw); go_simp; try with_reducible rfl)
  try simp only [List.getElem_toArray, List.getElem_cons_zero, List.getElem_cons_succ, Act.put, List.setIfInBounds_toArray, List.set_cons_zero, List.set_cons_succ]
  refine' wpAnyK_takeL (i := 3) (v := _) rfl (by kernel_rfl) (by kernel_rfl) (by kernel_rfl) (by kernel_rfl) (fun _ _ _ h => h) (Or.inl ⟨by rfl, ?yT13⟩) hHeld ?rT13
  case yT13 => (intro w' hSw; (try dsimp only at hSw); go_simp; try with_reducible rfl)
  try simp only [List.getElem_toArray, List.getElem_cons_zero, List.getElem_cons_succ, Act.put, List.setIfInBounds_toArray, List.set_cons_zero, List.set_cons_succ]
  refine' wpAnyK_takeL (i := 4) (v := _) rfl (by kernel_rfl) (by kernel_rfl) (by kernel_rfl) (by kernel_rfl) (fun _ _ _ h => h) (Or.inl ⟨by rfl, ?yT14⟩) hHeld ?rT14
  case yT14 => (intro w' hSw; (try dsimp only at hSw); go_simp; try with_reducible rfl)
  try simp only [List.getElem_toArray, List.getElem_cons_zero, List.getElem_cons_succ, Act.put, List.setIfInBounds_toArray, List.set_cons_zero, List.set_cons_succ]
  refine' wpAnyK_takeL (i := 5) (v := _) rfl (by kernel_rfl) (by kernel_rfl) (by kernel_rfl) (by kernel_rfl) (fun _ _ _ h => h) (Or.inl ⟨by rfl, ?yT15⟩) hHeld ?rT15
  case yT15 => (intro w' hSw; (try dsimp only at hSw); go_simp; try with_reducible rfl)
  try simp only [List.getElem_toArray, List.getElem_cons_zero, List.getElem_cons_succ, Act.put, List.setIfInBounds_toArray, List.set_cons_zero, List.set_cons_succ]
  refine' wpAnyK_takeL (i := 6) (v := _) rfl (by kernel_rfl) (by kernel_rfl) (by kernel_rfl) (by kernel_rfl) (fun _ _ _ h => h) (Or.inl ⟨by rfl, ?yT16⟩) hHeld ?rT16
  case yT16 => (intro w' hSw; (try dsimp only at hSw); go_simp; try with_reducible rfl)
  try simp only [List.getElem_toArray, List.getElem_cons_zero, List.getElem_cons_succ, Act.put, List.setIfInBounds_toArray, List.set_cons_zero, List.set_cons_succ]
  refine' wpAnyK_takeL (i := 7) (v := _) rfl (by kernel_rfl) (by kernel_rfl) (by kernel_rfl) (by kernel_rfl) (fun _ _ _ h => h) (Or.inl ⟨by rfl, ?yT17⟩) hHeld ?rT17
  case yT17 => (intro w' hSw; (try dsimp only at hSw); go_simp; try with_reducible rfl)
  try simp only [List.getElem_toArray, List.getElem_cons_zero, List.getElem_cons_succ, Act.put, List.setIfInBounds_toArray, List.set_cons_zero, List.set_cons_succ]
  refine wpAnyK_oneL (i := 8) rfl (by kernel_rfl) (fun K hK => ?_)
  go_simp
  go_at_call 131
  refine (list_i B n b m N N w0.drew hq0.drew.src hN rfl).mono ?_
  rintro e w1 ⟨v, xs, rfl, hO1, hl1, hd1⟩
  obtain ⟨o1, c1, rfl⟩ := hO1.shape
  have hX1 := (show Box2 w0.drew _ _ _ from hX0).chg hd1.chg (.inr (by omega))
  have hR1 := (show RB2 w0.drew _ _ _ from hR0).dw hd1 (by omega)
  have hd1 := hq0.drew.trans hd1
  have HL := Lib.hid hl1
  clear hl1 hHeld
  obtain ⟨a0, a1⟩ := id hX1
  go_wp2_with fail
  have hHeld : (fun w' : World => w'.cell? ⟨w.heap.size, 0, none⟩ = some (.int .i64 m) ∧ w'.cell? ⟨w.heap.size, 1, none⟩ = some (.slice o N c)) w1 := by go_keep
  refine hK.out _ _ (fun _ => hHeld) ?_
  clear hK K
  try simp only [List.getElem_toArray, List.getElem_cons_zero, List.getElem_cons_succ, Act.put, List.setIfInBounds_toArray, List.set_cons_zero, List.set_cons_succ]
  refine wpAnyK_oneL (i := 9) rfl (by kernel_rfl) (fun K hK => ?_)
  go_simp
  go_at_call 101
  refine (l02Make_c m o1 xs.length c1 w1).mono ?_
  rintro e w2 ⟨rfl, hb2⟩
  have hX2 := hX1.below hb2 (Nat.le_refl _)
  have hR2 := hR1.below hb2 (Nat.le_refl _)
  have hO2 := hO1.below hb2
  have hd2 := hd1.below hb2
  clear hHeld a0 a1
  obtain ⟨a0, a1⟩ := id hX2
  obtain ⟨⟨r0, r1⟩, rf⟩ := id hR2
  go_wp2_with fail
  have hHeld : (fun w' : World => w'.cell? ⟨w.heap.size, 0, none⟩ = some (.int .i64 m) ∧ w'.cell? ⟨w.heap.size, 1, none⟩ = some (.slice o N c)) w2 := by go_keep
  refine hK.out _ _ (fun _ => hHeld) ?_
  clear hK K
  try simp only [List.getElem_toArray, List.getElem_cons_zero, List.getElem_cons_succ, Act.put, List.setIfInBounds_toArray, List.set_cons_zero, List.set_cons_succ]
  refine wpAnyK_oneL (i := 10) rfl (by kernel_rfl) (fun K hK => ?_)
  go_simp
  (try go_wp2_with fail)
  refine hK.out _ _ (fun h => absurd h (by decide)) ?_
  clear hK K
  try simp only [List.getElem_toArray, List.getElem_cons_zero, List.getElem_cons_succ, Act.put, List.setIfInBounds_toArray, List.set_cons_zero, List.set_cons_succ]
  refine wpAnyK_done (by kernel_rfl) ?_ _
  go_wp2_with fail
  go_wp2_with fail
  refine bodyPost_ret (v := .agg #[.int .i64 m, .slice o1 xs.length c1]) (by simp [results, Try.results202, go_sem, r0, r1]) rfl ⟨_, xs, rfl, ?_, HL.out, ?_⟩
  · exact ((hO2.low (by simp; omega) _).low (by simp; omega) _).mono (by simp; omega)
  · exact (hd2.put (by omega) _ _).put (by omega) _ _

end Go.Proofs.Ytcjinlfgeljmkaa
