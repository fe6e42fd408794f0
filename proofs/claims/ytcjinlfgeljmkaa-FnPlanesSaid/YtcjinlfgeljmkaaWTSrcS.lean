/- Lemmas of SrcS. -/
import Derived.Test.YtcjinlfgeljmkaaWTSrcD
import Derived.Test.YtcjinlfgeljmkaaWTG1
import Derived.Test.YtcjinlfgeljmkaaWTG3
import Derived.Test.YtcjinlfgeljmkaaWTG2
import Derived.Lib.MinMax
set_option linter.unusedSimpArgs false
set_option linter.unusedVariables false
namespace Go.Proofs.Ytcjinlfgeljmkaa
open Go.RowKit

def LDr (k : Nat) (w w' : World) (B n b : Nat) (e : Ending) : Prop := ∃ v xs, e = .returned v ∧ OwI w' w.heap.size v xs ∧ xs.length = k ∧ DW B n b w w'

set_option maxHeartbeats 1000000 in
set_option maxRecDepth 100000 in
theorem l01List_d (B n b : Nat) (m : Int) (K : Nat) (w : World) (hs : Src w B n b) (hK : K ≤ 1000) :
    Calls Try.prog 131 #[.pointer (some ⟨b, 0, none⟩), .int .i64 m, .int .i64 K] w fun e w' => LDr K w w' B n b e := by
  have hlt := hs.lt
  have hmx : max m 1 ≠ 0 := by omega
  have hmb : (max m 1 == 0) = false := by simp; omega
  go_enter Try.func131, Try.ntmps131
  go_wp2_with fail
  have hO0 : OwI (w.alloc (.cells #[] 2)) w.heap.size (.slice (some ⟨w.heap.size, 0, none⟩) 0 0) [] := OwI.lit w [] (Nat.zero_le _)
  have hd0 := (DW.refl hs).alloc (.cells #[] 2)
  generalize w.alloc (.cells #[] 2) = w0 at hO0 hd0 ⊢
  go_loopw [2, 7] (fun i v wr => ∃ (j : Nat) (xs : List Int) (o : Option Addr) (c : Nat), (j ≤ K ∧ j + xs.length = K) ∧ i = .int .i64 j ∧ v = .slice o xs.length c ∧ OwI wr w.heap.size (.slice o xs.length c) xs ∧ DW B n b w wr) (fun i _ _ => (intOf i).toNat)
  case atStart => exact ⟨K, [], _, 0, ⟨Nat.le_refl _, rfl⟩, by go_num, rfl, hO0, hd0⟩
  case round =>
    clear hO0 hd0
    obtain ⟨j, xs, o, c, ⟨hj, hjx⟩, rfl, rfl, hO, hD⟩ := hrel
    have HJ := Lib.hid hjx
    clear hjx
    by_cases hj0 : 0 < j
    · have i1 : (0 : Int) < (j : Int) := by omega
      go_wp2_with fail
      have hd0 : Below wr.heap.size wr wr.drew := (Below.refl _ _).drew
      have hsd0 := hd0.size
      refine wp_region_K (S := fun w' => True) [15] (by kernel_rfl) ?_
      have hHeld : (fun w' : World => True) wr.drew := by trivial
      refine' wpAnyK_takeL (i := 0) (v := _) rfl (by kernel_rfl) (by kernel_rfl) (by kernel_rfl) (by kernel_rfl) (fun _ _ _ h => h) (Or.inl ⟨by rfl, ?yT1⟩) hHeld ?rT1
      case yT1 => (intro w' hSw; (try dsimp only at hSw); go_simp; try with_reducible rfl)
      try simp only [List.getElem_toArray, List.getElem_cons_zero, List.getElem_cons_succ, Act.put, List.setIfInBounds_toArray, List.set_cons_zero, List.set_cons_succ]
      refine' wpAnyK_takeL (i := 1) (v := _) rfl (by kernel_rfl) (by kernel_rfl) (by kernel_rfl) (by kernel_rfl) (fun _ _ _ h => h) (Or.inl ⟨by rfl, ?yT2⟩) hHeld ?rT2
      case yT2 => (intro w' hSw; (try dsimp only at hSw); go_simp; try with_reducible rfl)
      try simp only [List.getElem_toArray, List.getElem_cons_zero, List.getElem_cons_succ, Act.put, List.setIfInBounds_toArray, List.set_cons_zero, List.set_cons_succ]
      refine' wpAnyK_takeL (i := 2) (v := _) rfl (by kernel_rfl) (by kernel_rfl) (by kernel_rfl) (by kernel_rfl) (fun _ _ _ h => h) (Or.inl ⟨by rfl, ?yT3⟩) hHeld ?rT3
      case yT3 => (intro w' hSw; (try dsimp only at hSw); go_simp; try with_reducible rfl)
      try simp only [List.getElem_toArray, List.getElem_cons_zero, List.getElem_cons_succ, Act.put, List.setIfInBounds_toArray, List.set_cons_zero, List.set_cons_succ]
      refine' wpAnyK_takeL (i := 3) (v := _) rfl (by kernel_rfl) (by kernel_rfl) (by kernel_rfl) (by kernel_rfl) (fun _ _ _ h => h) (Or.inl ⟨by rfl, ?yT4⟩) hHeld ?rT4
      case yT4 => (intro w' hSw; (try dsimp only at hSw); go_simp; try with_reducible rfl)
      try simp only [List.getElem_toArray, List.getElem_cons_zero, List.getElem_cons_succ, Act.put, List.setIfInBounds_toArray, List.set_cons_zero, List.set_cons_succ]
      refine' wpAnyK_takeL (i := 4) (v := _) rfl (by kernel_rfl) (by kernel_rfl) (by kernel_rfl) (by kernel_rfl) (fun _ _ _ h => h) (Or.inl ⟨by rfl, ?yT5⟩) hHeld ?rT5
      case yT5 => (intro w' hSw; (try dsimp only at hSw); go_simp; try with_reducible rfl)
      try simp only [List.getElem_toArray, List.getElem_cons_zero, List.getElem_cons_succ, Act.put, List.setIfInBounds_toArray, List.set_cons_zero, List.set_cons_succ]
      refine' wpAnyK_takeL (i := 5) (v := _) rfl (by kernel_rfl) (by kernel_rfl) (by kernel_rfl) (by kernel_rfl) (fun _ _ _ h => h) (Or.inl ⟨by rfl, ?yT6⟩) hHeld ?rT6
      case yT6 => (intro w' hSw; (try dsimp only at hSw); go_simp; try with_reducible rfl)
      try simp only [List.getElem_toArray, List.getElem_cons_zero, List.getElem_cons_succ, Act.put, List.setIfInBounds_toArray, List.set_cons_zero, List.set_cons_succ]
      refine' wpAnyK_takeL (i := 6) (v := _) rfl (by kernel_rfl) (by kernel_rfl) (by kernel_rfl) (by kernel_rfl) (fun _ _ _ h => h) (Or.inl ⟨by rfl, ?yT7⟩) hHeld ?rT7
      case yT7 => (intro w' hSw; (try dsimp only at hSw); go_simp; try with_reducible rfl)
      try simp only [List.getElem_toArray, List.getElem_cons_zero, List.getElem_cons_succ, Act.put, List.setIfInBounds_toArray, List.set_cons_zero, List.set_cons_succ]
      refine' wpAnyK_takeL (i := 8) (v := _) rfl (by kernel_rfl) (by kernel_rfl) (by kernel_rfl) (by kernel_rfl) (fun _ _ _ h => h) (Or.inl ⟨by rfl, ?yT8⟩) hHeld ?rT8
      case yT8 => (intro w' hSw; (try dsimp only at hSw); go_simp; try with_reducible rfl)
      try simp only [List.getElem_toArray, List.getElem_cons_zero, List.getElem_cons_succ, Act.put, List.setIfInBounds_toArray, List.set_cons_zero, List.set_cons_succ]
      refine' wpAnyK_takeL (i := 9) (v := _) rfl (by kernel_rfl) (by kernel_rfl) (by kernel_rfl) (by kernel_rfl) (fun _ _ _ h => h) (Or.inl ⟨by rfl, ?yT9⟩) hHeld ?rT9
      case yT9 => (intro w' hSw; (try dsimp only at hSw); go_simp; try with_reducible rfl)
      try simp only [List.getElem_toArray, List.getElem_cons_zero, List.getElem_cons_succ, Act.put, List.setIfInBounds_toArray, List.set_cons_zero, List.set_cons_succ]
      refine wpAnyK_oneL (i := 7) rfl (by kernel_rfl) (fun K hK => ?_)
      go_simp
      go_at_call 116
      refine (next_d B n b m _ hD.drew.src).mono ?_
      rintro e w1 ⟨y, rfl, y0, y1, y2, hd1, hz1⟩
      have hO1 := (show OwI wr.drew _ _ _ from hO).dw hd1 hlt
      have hD1 := hD.drew.trans hd1
      clear y1 y2 hd1 hz1
      go_wp2_with fail
      refine hK.out _ _ (fun _ => hHeld) ?_
      clear hK K
      try simp only [List.getElem_toArray, List.getElem_cons_zero, List.getElem_cons_succ, Act.put, List.setIfInBounds_toArray, List.set_cons_zero, List.set_cons_succ]
      refine wpAnyK_oneL (i := 10) rfl (by kernel_rfl) (fun K hK => ?_)
      go_simp
      go_at_call 116
      refine (next_d B n b m w1 hD1.src).mono ?_
      rintro e w2 ⟨z, rfl, z0, z1, z2, hd2, hz2⟩
      have hO2 := hO1.dw hd2 hlt
      have hD2 := hD1.trans hd2
      clear z1 z2 hd2 hz2
      go_wp2_with fail
      refine hK.out _ _ (fun _ => hHeld) ?_
      clear hK K
      try simp only [List.getElem_toArray, List.getElem_cons_zero, List.getElem_cons_succ, Act.put, List.setIfInBounds_toArray, List.set_cons_zero, List.set_cons_succ]
      refine wpAnyK_oneL (i := 11) rfl (by kernel_rfl) (fun K hK => ?_)
      go_simp
      (try go_wp2_with fail)
      refine hK.out _ _ (fun _ => hHeld) ?_
      clear hK K
      try simp only [List.getElem_toArray, List.getElem_cons_zero, List.getElem_cons_succ, Act.put, List.setIfInBounds_toArray, List.set_cons_zero, List.set_cons_succ]
      refine wpAnyK_oneL (i := 12) rfl (by kernel_rfl) (fun K hK => ?_)
      go_simp
      go_at_call 130
      refine (pick_d B n b _ _ [0, _, y, z] _ w2 hD2.src rfl rfl rfl (by simp) (by simp)).mono ?_
      rintro e w3 ⟨t, rfl, t0, hd3, hz3⟩
      have hO3 := hO2.dw hd3 hlt
      have hD3 := hD2.trans hd3
      clear t0 hd3 hz3
      go_wp2_with fail
      refine hK.out _ _ (fun _ => hHeld) ?_
      clear hK K
      try simp only [List.getElem_toArray, List.getElem_cons_zero, List.getElem_cons_succ, Act.put, List.setIfInBounds_toArray, List.set_cons_zero, List.set_cons_succ]
      refine wpAnyK_oneL (i := 13) rfl (by kernel_rfl) (fun K hK => ?_)
      go_simp
      (try go_wp2_with fail)
      refine hK.out _ _ (fun _ => hHeld) ?_
      clear hK K
      try simp only [List.getElem_toArray, List.getElem_cons_zero, List.getElem_cons_succ, Act.put, List.setIfInBounds_toArray, List.set_cons_zero, List.set_cons_succ]
      refine wpAnyK_oneL (i := 14) rfl (by kernel_rfl) (fun K hK => ?_)
      have hOl := hO3.lt
      have hD4 := hD3.alloc (.cells #[.int .i64 t] 2)
      have hz4 := hD3.size
      refine stR _ rfl _ _ rfl w.heap.size (.slice o xs.length c) xs rfl (hO3.alloc _) ⟨w3.heap.size, 0, none⟩ 1 1 [t] rfl (OwI.lit w3 [t] (by simp [maxLen])).rd (by have := HJ.out; simp; omega) (by simp; omega) ?_
      intro o4 c4 w4 hO4 hg4 hb4
      have hD4 := hD4.grown hg4 (fun k hk => (hOl _ hk).1)
      clear hO1 hO2 hO3 hD1 hD2 hD3 hg4 hb4 hOl
      refine hK.out _ _ (fun _ => hHeld) ?_
      clear hK K
      try simp only [List.getElem_toArray, List.getElem_cons_zero, List.getElem_cons_succ, Act.put, List.setIfInBounds_toArray, List.set_cons_zero, List.set_cons_succ]
      refine wpAnyK_oneL (i := 15) rfl (by kernel_rfl) (fun K hK => ?_)
      go_simp
      (try go_wp2_with fail)
      refine hK.out _ _ (fun h => absurd h (by decide)) ?_
      clear hK K
      try simp only [List.getElem_toArray, List.getElem_cons_zero, List.getElem_cons_succ, Act.put, List.setIfInBounds_toArray, List.set_cons_zero, List.set_cons_succ]
      refine wpAnyK_done (by kernel_rfl) ?_ _
      go_wp2_with fail
      go_wp2
      exact ⟨⟨j - 1, xs ++ [t], o4, c4, ⟨by omega, by have := HJ.out; simp; omega⟩, by go_num, by simp, hO4, hD4⟩, by simp [intOf]; omega⟩
    · obtain rfl : j = 0 := by omega
      go_wp2
      go_ret
      exact ⟨_, xs, rfl, hO, by have := HJ.out; omega, hD⟩
theorem list_i (B n b : Nat) (m k : Int) (K : Nat) (w : World) (hs : Src w B n b) (hK : K ≤ 1000) (hk : k = K) :
    Calls Try.prog 131 #[.pointer (some ⟨b, 0, none⟩), .int .i64 m, .int .i64 k] w fun e w' => LDr K w w' B n b e := by subst hk; exact l01List_d B n b m K w hs hK
end Go.Proofs.Ytcjinlfgeljmkaa
