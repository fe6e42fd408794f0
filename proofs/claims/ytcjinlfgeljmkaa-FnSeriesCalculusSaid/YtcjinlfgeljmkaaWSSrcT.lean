/- Lemmas of SrcT. -/
import Derived.Test.YtcjinlfgeljmkaaWSSrcS
import Derived.Test.YtcjinlfgeljmkaaWSSrcZ
set_option linter.unusedSimpArgs false
set_option linter.unusedVariables false
namespace Go.Proofs.Ytcjinlfgeljmkaa
open Go.RowKit

def SpDr (w w' : World) (B n b : Nat) (e : Ending) : Prop := ∃ m g c ys k, e = .returned (.agg #[.int .i64 m, .slice (some ⟨g, 0, none⟩) k c]) ∧ OwI w' w.heap.size (.slice (some ⟨g, 0, none⟩) ys.length c) ys ∧ (1 ≤ k ∧ k ≤ ys.length ∧ ys.length ≤ 30) ∧ DW B n b w w'

set_option maxHeartbeats 2000000 in
set_option maxRecDepth 100000 in
theorem l02Spoil_d (B n b : Nat) (w : World) (hs : Src w B n b) :
    Calls Try.prog 115 #[.pointer (some ⟨b, 0, none⟩)] w fun e w' => SpDr w w' B n b e := by
  have hlt := hs.lt
  go_enter Try.func115, Try.ntmps115
  go_wp2_with fail
  have hR0 := RB2.mk1 w (.int .i64 0) (.slice none 0 0) 26
  have hq0 : DW B n b w (w.alloc (.cells #[.int .i64 0, .slice none 0 0] 26)) := (DW.refl hs).alloc _
  have hz0 := hq0.size
  generalize w.alloc (.cells #[.int .i64 0, .slice none 0 0] 26) = w0 at hR0 hq0 hz0 ⊢
  refine (l02Draw_d B n b w0 hq0.src).mono ?_
  rintro e w1 ⟨m, v, xs, rfl, hO1, hx, hd1⟩
  obtain ⟨o, c, rfl⟩ := hO1.shape
  obtain ⟨g, rfl, hg0, hg1⟩ := hO1.row (by omega)
  have hl0 := hR0.1.lt
  have hR1 := hR0.dw hd1 hlt
  have hz1 := hd1.size
  have hq1 := hq0.trans hd1
  clear hR0 hq0 hd1
  go_wp2_with fail
  have hX2 := RB2.mk1 w1 (.int .i64 m) (.slice (some ⟨g, 0, none⟩) xs.length c) 26
  have hR2 := hR1.below (w' := w1.alloc (.cells #[.int .i64 m, .slice (some ⟨g, 0, none⟩) xs.length c] 26)) (by (repeat (first | exact Below.refl _ _ | (refine Below.setCell ?_ (by first | (simp; done) | (simp; omega) | omega) _) | (refine Below.alloc ?_ (by first | (simp; done) | (simp; omega) | omega) _) | (refine below_drewN ?_ _) | (refine Below.drew ?_)))) (Nat.le_refl _)
  have hq2 := hq1.alloc (.cells #[.int .i64 m, .slice (some ⟨g, 0, none⟩) xs.length c] 26)
  have hO2 := hO1.alloc (.cells #[.int .i64 m, .slice (some ⟨g, 0, none⟩) xs.length c] 26)
  clear hO1 hR1 hq1
  generalize w1.alloc (.cells #[.int .i64 m, .slice (some ⟨g, 0, none⟩) xs.length c] 26) = w2 at hX2 hR2 hq2 hO2 ⊢
  refine (next_d B n b _ _ hq2.src).mono ?_
  rintro e w3 ⟨t, rfl, t0, t1, t2, hd3, hz3⟩
  have hR3 := hR2.dw hd3 hlt
  have hX3 := hX2.dw hd3 (by omega)
  have hO3 := hO2.dw hd3 (by omega)
  have hq3 := hq2.trans hd3
  clear hR2 hX2 hO2 hq2 t1 t2 hz3 hd3
  have n1 : w.heap.size ≠ w1.heap.size := by omega
  have n2 : w1.heap.size ≠ w.heap.size := by omega
  have hl3 := hX3.1.lt
  have hlr3 := hR3.1.lt
  obtain ⟨hx1, hx2⟩ := hx
  by_cases h0 : t = 0
  · subst h0
    go_wp2_with fail
    refine (pick_d B n b _ _ [0, 1, 10001, 2] _ w3 hq3.src rfl rfl rfl (by simp) (by simp)).mono ?_
    rintro e w4 ⟨r, rfl, hr, hd4, hz4⟩
    have hR4 := hR3.dw hd4 hlt
    have hX4 := hX3.dw hd4 (by omega)
    have hO4 := hO3.dw hd4 (by omega)
    have hq4 := hq3.trans hd4
    clear hz4 hr
    obtain ⟨⟨x0, x1⟩, xf⟩ := id hX4
    obtain ⟨⟨r0, r1⟩, rf⟩ := id hR4
    go_wp2_with fail
    refine bodyPost_ret (v := .agg #[.int .i64 r, .slice (some ⟨g, 0, none⟩) xs.length c]) (by simp [results, Try.results115, go_sem, r0, r1]) rfl ⟨_, g, c, xs, _, rfl, ?_, by omega, ?_⟩
    · exact (((hO4.ne (fun j hj => by have e : g = j := (by simpa [Value.ownBlock] using hj); omega) _).low (by simp; omega) _).low (by simp; omega) _).mono (by omega)
    · exact ((hq4.put (by omega) _ _).put (Nat.le_refl _) _ _).put (Nat.le_refl _) _ _
  obtain ⟨⟨x0, x1⟩, xf⟩ := id hX3
  obtain ⟨⟨r0, r1⟩, rf⟩ := id hR3
  by_cases h1 : t = 1
  · subst h1
    have hcl : xs.length ≤ c := by
      obtain ⟨_, _, heq, ⟨_, h, _⟩, _⟩ := hO3.rd
      have := (Value.slice.inj heq).2.2
      omega
    have i0 : (1 : Int) ≤ (c : Int) := by omega
    go_wp2_with fail
    refine bodyPost_ret (v := .agg #[.int .i64 m, .slice (some ⟨g, 0, none⟩) 1 c]) (by simp [results, Try.results115, go_sem, r0, r1]) rfl ⟨_, g, c, xs, 1, rfl, ?_, by omega, ?_⟩
    · exact (((hO3.ne (fun j hj => by have e : g = j := (by simpa [Value.ownBlock] using hj); omega) _).low (by simp; omega) _).low (by simp; omega) _).mono (by omega)
    · exact ((hq3.put (by omega) _ _).put (Nat.le_refl _) _ _).put (Nat.le_refl _) _ _
  by_cases h2 : t = 2
  · subst h2
    go_wp2_with (at_builtin; refine apZ w3 rfl _ _ rfl w0.heap.size g xs.length c xs rfl rfl hO3 (by omega) (by omega) ?_; intro g1 c1 w4 hO4 hg4 hgl; have hX4 := hX3.grown hg4 (fun e => by cases e; omega); have hR4 := hR3.grown hg4 (fun e => by cases e; omega); have hq4 := hq3.grown hg4 (fun k hk => by cases hk; omega); have hgn := (show g1 ≠ w1.heap.size from by rcases hgl with e | e <;> omega); clear hgl hg4; obtain ⟨⟨x0, x1⟩, xf⟩ := id hX4; obtain ⟨⟨r0, r1⟩, rf⟩ := id hR4)
    refine bodyPost_ret (v := .agg #[.int .i64 m, .slice (some ⟨g1, 0, none⟩) (xs.length + 10) c1]) (by simp [results, Try.results115, go_sem, r0, r1]) rfl ⟨_, g1, c1, xs ++ List.replicate 10 0, _, rfl, ?_, by simp; omega, ?_⟩
    · rw [show (xs ++ List.replicate 10 (0 : Int)).length = xs.length + 10 by simp]
      exact (((hO4.ne (fun j hj => by cases hj; exact hgn) _).low (by simp; omega) _).low (by simp; omega) _).mono (by omega)
    · exact ((hq4.put (by omega) _ _).put (Nat.le_refl _) _ _).put (Nat.le_refl _) _ _
  by_cases h3 : t = 3
  · subst h3
    go_wp2_with fail
    have hd0 : Below w3.heap.size w3 w3.drew := (Below.refl _ _).drew
    have hsd0 := hd0.size
    refine wp_region_K (S := fun w' => w'.cell? ⟨w1.heap.size, 1, none⟩ = some (.slice (some ⟨g, 0, none⟩) xs.length c) ∧ w'.cell? ⟨w1.heap.size, 0, none⟩ = some (.int .i64 m)) [7, 8] (by kernel_rfl) ?_
    have hHeld : (fun w' : World => w'.cell? ⟨w1.heap.size, 1, none⟩ = some (.slice (some ⟨g, 0, none⟩) xs.length c) ∧ w'.cell? ⟨w1.heap.size, 0, none⟩ = some (.int .i64 m)) w3.drew := by go_keep
    refine' wpAnyK_takeL (i := 0) (v := _) rfl (by kernel_rfl) (by kernel_rfl) (by kernel_rfl) (by kernel_rfl) (fun _ _ _ h => h) (Or.inl ⟨by rfl, ?yT1⟩) hHeld ?rT1
    case yT1 => (intro w' hSw; (try dsimp only at hSw); go_simp; try with_reducible rfl)
    try simp only [List.getElem_toArray, List.getElem_cons_zero, List.getElem_cons_succ, Act.put, List.setIfInBounds_toArray, List.set_cons_zero, List.set_cons_succ]
    refine' wpAnyK_takeL (i := 1) (v := _) rfl (by kernel_rfl) (by kernel_rfl) (by kernel_rfl) (by kernel_rfl) (fun _ _ _ h => h) (Or.inl ⟨by rfl, ?yT2⟩) hHeld ?rT2
    case yT2 => (intro w' hSw; (try dsimp only at hSw); go_simp; try with_reducible rfl)
    try simp only [List.getElem_toArray, List.getElem_cons_zero, List.getElem_cons_succ, Act.put, List.setIfInBounds_toArray, List.set_cons_zero, List.set_cons_succ]
    refine' wpAnyK_takeL (i := 2) (v := _) rfl (by kernel_rfl) (by kernel_rfl) (by kernel_rfl) (by kernel_rfl) (fun _ _ _ h => h) (Or.inl ⟨by rfl, ?yT3⟩) hHeld ?rT3
    case yT3 => (intro w' hSw; (try dsimp only at hSw); go_simp; try with_reducible rfl)
    try simp only [List.getElem_toArray, List.getElem_cons_zero, List.getElem_cons_succ, Act.put, List.setIfInBounds_toArray, List.set_cons_zero, List.set_cons_succ]
    refine' wpAnyK_takeL (i := 3) (v := _) rfl (by kernel_rfl) (by kernel_rfl) (by kernel_rfl) (by kernel_rfl) (fun _ _ _ h => h) (Or.inl ⟨by rfl, ?yT4⟩) hHeld ?rT4
    case yT4 => (intro w' hSw; (try dsimp only at hSw); go_simp; try with_reducible rfl)
    try simp only [List.getElem_toArray, List.getElem_cons_zero, List.getElem_cons_succ, Act.put, List.setIfInBounds_toArray, List.set_cons_zero, List.set_cons_succ]
    refine' wpAnyK_takeL (i := 4) (v := _) rfl (by kernel_rfl) (by kernel_rfl) (by kernel_rfl) (by kernel_rfl) (fun _ _ _ h => h) (Or.inl ⟨by rfl, ?yT5⟩) hHeld ?rT5
    case yT5 => (intro w' hSw; (try dsimp only at hSw); go_simp; try with_reducible rfl)
    try simp only [List.getElem_toArray, List.getElem_cons_zero, List.getElem_cons_succ, Act.put, List.setIfInBounds_toArray, List.set_cons_zero, List.set_cons_succ]
    refine wpAnyK_oneL (i := 5) rfl (by kernel_rfl) (fun K hK => ?_)
    go_simp
    (try go_wp2_with fail)
    have hHeld2 : (fun w' : World => w'.cell? ⟨w1.heap.size, 1, none⟩ = some (.slice (some ⟨g, 0, none⟩) xs.length c) ∧ w'.cell? ⟨w1.heap.size, 0, none⟩ = some (.int .i64 m)) (w3.alloc (.cells #[.int .i64 (-1), .int .i64 m, .int .i64 1099511627776] 2)).drew := by go_keep
    clear hHeld
    have hHeld := hHeld2
    clear hHeld2
    refine hK.out _ _ (fun _ => hHeld) ?_
    clear hK K
    try simp only [List.getElem_toArray, List.getElem_cons_zero, List.getElem_cons_succ, Act.put, List.setIfInBounds_toArray, List.set_cons_zero, List.set_cons_succ]
    refine wpAnyK_oneL (i := 6) rfl (by kernel_rfl) (fun K hK => ?_)
    go_simp
    go_at_call 130
    refine (pick_d B n b _ _ [-1, m, 1099511627776] _ w3.drew hq3.drew.src rfl rfl rfl (by simp) (by simp)).mono ?_
    rintro e w4 ⟨r, rfl, hr, hd4, hz4⟩
    have hR4 := (show RB2 w3.drew _ _ _ from hR3).dw hd4 hlt
    have hX4 := (show RB2 w3.drew _ _ _ from hX3).dw hd4 (by omega)
    have hO4 := (show OwI w3.drew _ _ _ from hO3).dw hd4 (by omega)
    have hq4 := hq3.drew.trans hd4
    clear hz4 hr hd4 hHeld
    have hcg := hO4.cell (k := 0) (List.getElem?_eq_getElem (show 0 < xs.length by omega))
    have hfg := hO4.fz 0
    have i0 : (0 : Int) < (xs.length : Int) := by omega
    obtain ⟨⟨y0, y1⟩, yf⟩ := id hX4
    go_wp2_with fail
    have hHeld : (fun w' : World => w'.cell? ⟨w1.heap.size, 1, none⟩ = some (.slice (some ⟨g, 0, none⟩) xs.length c) ∧ w'.cell? ⟨w1.heap.size, 0, none⟩ = some (.int .i64 m)) w4 := by go_keep
    refine hK.out _ _ (fun _ => hHeld) ?_
    clear hK K
    try simp only [List.getElem_toArray, List.getElem_cons_zero, List.getElem_cons_succ, Act.put, List.setIfInBounds_toArray, List.set_cons_zero, List.set_cons_succ]
    refine wpAnyK_oneL (i := 7) rfl (by kernel_rfl) (fun K hK => ?_)
    go_simp
    (try go_wp2_with fail)
    refine hK.out _ _ (fun h => absurd h (by decide)) ?_
    clear hK K
    try simp only [List.getElem_toArray, List.getElem_cons_zero, List.getElem_cons_succ, Act.put, List.setIfInBounds_toArray, List.set_cons_zero, List.set_cons_succ]
    refine wpAnyK_oneL (i := 8) rfl (by kernel_rfl) (fun K hK => ?_)
    go_simp
    (try go_wp2_with fail)
    refine hK.out _ _ (fun h => absurd h (by decide)) ?_
    clear hK K
    try simp only [List.getElem_toArray, List.getElem_cons_zero, List.getElem_cons_succ, Act.put, List.setIfInBounds_toArray, List.set_cons_zero, List.set_cons_succ]
    refine wpAnyK_done (by kernel_rfl) ?_ _
    have hX5 := hX4.off (g := g) (k := 0) (by omega) (.int .i64 r)
    have hR5 := hR4.off (g := g) (k := 0) (by omega) (.int .i64 r)
    have hq5 := hq4.put (g := g) (by omega) 0 (.int .i64 r)
    have hO5 := hO4.put 0 r
    clear hX4 hR4 hq4 hO4 x0 x1 xf r0 r1 rf y0 y1 yf
    generalize w4.setCell ⟨g, 0, none⟩ (.int .i64 r) = w5 at hX5 hR5 hq5 hO5 ⊢
    obtain ⟨⟨x0, x1⟩, xf⟩ := id hX5
    obtain ⟨⟨r0, r1⟩, rf⟩ := id hR5
    go_wp2_with fail
    refine bodyPost_ret (v := .agg #[.int .i64 m, .slice (some ⟨g, 0, none⟩) xs.length c]) (by simp [results, Try.results115, go_sem, r0, r1]) rfl ⟨_, g, c, xs.set 0 r, _, rfl, ?_, by simp; omega, ?_⟩
    · rw [show (xs.set 0 r).length = xs.length by simp]
      exact ((hO5.low (by simp; omega) _).low (by simp; omega) _).mono (by omega)
    · exact (hq5.put (Nat.le_refl _) _ _).put (Nat.le_refl _) _ _
  go_wp2_with fail
  refine bodyPost_ret (v := .agg #[.int .i64 m, .slice (some ⟨g, 0, none⟩) xs.length c]) (by simp [results, Try.results115, go_sem, r0, r1]) rfl ⟨_, g, c, xs, _, rfl, ?_, by omega, ?_⟩
  · exact ((hO3.low (by simp; omega) _).low (by simp; omega) _).mono (by omega)
  · exact (hq3.put (Nat.le_refl _) _ _).put (Nat.le_refl _) _ _
end Go.Proofs.Ytcjinlfgeljmkaa
