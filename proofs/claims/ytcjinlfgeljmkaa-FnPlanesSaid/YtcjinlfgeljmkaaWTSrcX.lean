/- Lemmas of SrcX. -/
import Derived.Test.YtcjinlfgeljmkaaWTSrcL
set_option linter.unusedSimpArgs false
set_option linter.unusedVariables false
namespace Go.Proofs.Ytcjinlfgeljmkaa
open Go.RowKit

theorem RdT.take {w : World} {ad : Addr} {n c : Nat} {xss : List (List Int)} (h : RdT w (.slice (some ad) n c) xss) (k : Nat) (hk : k ≤ xss.length) : RdT w (.slice (some ad) k c) (xss.take k) := by
  obtain ⟨o, c', heq, hm, hc⟩ := h
  obtain ⟨rfl, -, rfl⟩ : some ad = o ∧ n = xss.length ∧ c = c' := by simpa using heq
  have hl : (xss.take k).length = k := by rw [List.length_take]; omega
  refine ⟨some ad, c, by rw [hl], ⟨by omega, by omega, fun e => by cases e⟩, fun j row hj => ?_⟩
  rw [List.getElem?_take] at hj
  split at hj
  · exact hc j row hj
  · cases hj
theorem RdT.tail {w : World} {b off n c : Nat} {xss : List (List Int)} (h : RdT w (.slice (some ⟨b, off, none⟩) n c) xss) (k : Nat) (hk : k = xss.length - 1) : RdT w (.slice (some ⟨b, off + 1, none⟩) k (c - 1)) (xss.drop 1) := by
  obtain ⟨o, c', heq, hm, hc⟩ := h
  obtain ⟨rfl, -, rfl⟩ : some ⟨b, off, none⟩ = o ∧ n = xss.length ∧ c = c' := by simpa using heq
  subst hk
  refine ⟨some ⟨b, off + 1, none⟩, c - 1, by rw [List.length_drop], ⟨by rw [List.length_drop]; omega, by rw [List.length_drop]; omega, fun e => by cases e⟩, fun j row hj => ?_⟩
  rw [List.getElem?_drop] at hj
  obtain ⟨b', off', u, e, hcell, hr⟩ := hc (1 + j) row hj
  obtain ⟨rfl, rfl⟩ : b = b' ∧ off = off' := by simpa using e
  exact ⟨b, off + 1, u, rfl, by rw [Nat.add_assoc]; exact hcell, hr⟩
theorem OwSU.putS {us : List Value} {lo hi : Nat} {u : World} {v : Value} {xss : List (List Int)} (h : OwSU us lo hi u v xss) {b : Nat} (hb : b < lo ∨ hi ≤ b) (k : Nat) (x : Value) : OwSU us lo hi (u.setCell ⟨b, k, none⟩ x) v xss :=
  h.stay (fun j h1 h2 => heap_setCell_other u ⟨b, k, none⟩ j x (fun e => by simp at e; omega))
theorem OwSU.dwS {us : List Value} {lo hi : Nat} {B n b : Nat} {w w' : World} {v : Value} {xss : List (List Int)} (h : OwSU us lo hi w v xss) (hd : DW B n b w w') (h1 : b < lo) (h2 : hi ≤ w.heap.size) : OwSU us lo hi w' v xss :=
  h.stay (fun j h3 h4 => hd.chg.block j (by omega) (.inr (by omega)))
theorem OwSU.rdsF {us : List Value} {lo hi l : Nat} {w : World} {v : Value} {xss : List (List Int)} (h : OwSU us lo hi w v xss) (hh : hi ≤ w.heap.size) (hl : l ≤ lo) : Rds l hi w (fun u => RdT u v xss) :=
  ⟨hh, fun u hu => (h.stay (fun k h1 h2 => hu k (by omega) h2)).r.rd⟩
theorem Rds.imp {lo hi : Nat} {w : World} {R S : World → Prop} (h : Rds lo hi w R) (e : ∀ u, R u → S u) : Rds lo hi w S := ⟨h.1, fun u hu => e u (h.2 u hu)⟩
def PSp (w w' : World) (B n b : Nat) (e : Ending) : Prop := ∃ m v xss hi, e = .returned (.agg #[.int .i64 m, v]) ∧ Rds w.heap.size hi w' (fun u => RdT u v xss) ∧ (1 ≤ xss.length ∧ xss.length ≤ 11) ∧ DW B n b w w'

set_option maxHeartbeats 2000000 in
set_option maxRecDepth 100000 in
theorem l03Spoil_d (B n b : Nat) (w : World) (hs : Src w B n b) :
    Calls Try.prog 163 #[.pointer (some ⟨b, 0, none⟩)] w fun e w' => PSp w w' B n b e := by
  have hlt := hs.lt
  go_enter Try.func163, Try.ntmps163
  go_wp2_with fail
  have hR0 := RB2.mk1 w (.int .i64 0) (.slice none 0 0) 42
  have hq0 : DW B n b w (w.alloc (.cells #[.int .i64 0, .slice none 0 0] 42)) := (DW.refl hs).alloc _
  have hz0 := hq0.size
  generalize w.alloc (.cells #[.int .i64 0, .slice none 0 0] 42) = w0 at hR0 hq0 hz0 ⊢
  refine (l03Draw_d B n b w0 hq0.src).mono ?_
  rintro e w1 ⟨N, hN, m, v, xss, rfl, hO1, hst, hd1⟩
  obtain ⟨o, c, rfl⟩ := hO1.shapeN (n := N) hst.1
  obtain ⟨g, rfl, hg0, hg1⟩ := hO1.row (by omega)
  have hcl : N ≤ c := by
    obtain ⟨_, _, heq, ⟨_, h, _⟩, _⟩ := hO1.rd
    have h3 := (Value.slice.inj heq).2.2
    have h2 := (Value.slice.inj heq).2.1
    omega
  have HS := Lib.hid hst
  clear hst
  have hl0 := hR0.1.lt
  have hR1 := hR0.dw hd1 hlt
  have hz1 := hd1.size
  have hq1 := hq0.trans hd1
  obtain ⟨us, hT1⟩ := hO1.toR.named
  clear hR0 hq0 hd1 hO1
  go_wp2_with fail
  have hX2 := RB2.mk1 w1 (.int .i64 m) (.slice (some ⟨g, 0, none⟩) N c) 42
  have hR2 := hR1.below (w' := w1.alloc (.cells #[.int .i64 m, .slice (some ⟨g, 0, none⟩) N c] 42)) (by (repeat (first | exact Below.refl _ _ | (refine Below.setCell ?_ (by first | (simp; done) | (simp; omega) | omega) _) | (refine Below.alloc ?_ (by first | (simp; done) | (simp; omega) | omega) _) | (refine below_drewN ?_ _) | (refine Below.drew ?_)))) (Nat.le_refl _)
  have hq2 := hq1.alloc (.cells #[.int .i64 m, .slice (some ⟨g, 0, none⟩) N c] 42)
  have hT2 := hT1.stay (u' := w1.alloc (.cells #[.int .i64 m, .slice (some ⟨g, 0, none⟩) N c] 42)) (fun j _ hj => Below.heap_alloc _ _ j (by omega))
  have hz2 : w1.heap.size ≤ (w1.alloc (.cells #[.int .i64 m, .slice (some ⟨g, 0, none⟩) N c] 42)).heap.size := by simp
  clear hT1 hR1 hq1
  generalize w1.alloc (.cells #[.int .i64 m, .slice (some ⟨g, 0, none⟩) N c] 42) = w2 at hX2 hR2 hq2 hT2 hz2 ⊢
  refine (next_d B n b _ _ hq2.src).mono ?_
  rintro e w3 ⟨t, rfl, t0, t1, t2, hd3, hz3⟩
  have hR3 := hR2.dw hd3 hlt
  have hX3 := hX2.dw hd3 (by omega)
  have hT3 := hT2.dwS hd3 (by omega) hz2
  have hq3 := hq2.trans hd3
  have hz3' := hd3.size
  clear hR2 hX2 hT2 hq2 t1 t2 hz3 hd3
  have n1 : w.heap.size ≠ w1.heap.size := by omega
  have n2 : w1.heap.size ≠ w.heap.size := by omega
  have hl3 := hX3.1.lt
  have hlr3 := hR3.1.lt
  obtain ⟨hN1, hN2⟩ := hN
  by_cases h0 : t = 0
  · subst h0
    go_wp2_with fail
    refine (pick_d B n b _ _ [0, 1, 10001, 2] _ w3 hq3.src rfl rfl rfl (by simp) (by simp)).mono ?_
    rintro e w4 ⟨r, rfl, hr, hd4, hz4⟩
    have hR4 := hR3.dw hd4 hlt
    have hX4 := hX3.dw hd4 (by omega)
    have hT4 := hT3.dwS hd4 (by omega) (by omega)
    have hq4 := hq3.trans hd4
    have hs4 := hd4.size
    clear hz4 hr
    obtain ⟨⟨x0, x1⟩, xf⟩ := id hX4
    obtain ⟨⟨r0, r1⟩, rf⟩ := id hR4
    go_wp2_with fail
    refine bodyPost_ret (v := .agg #[.int .i64 r, .slice (some ⟨g, 0, none⟩) N c]) (by simp [results, Try.results163, go_sem, r0, r1]) rfl ⟨_, _, xss, w1.heap.size, rfl, (((hT4.putS (.inr (by omega)) _ _).putS (.inl (by omega)) _ _).putS (.inl (by omega)) _ _).rdsF (by simp; omega) (by omega), by rw [HS.out.1]; omega, ((hq4.put (by omega) _ _).put (Nat.le_refl _) _ _).put (Nat.le_refl _) _ _⟩
  obtain ⟨⟨x0, x1⟩, xf⟩ := id hX3
  obtain ⟨⟨r0, r1⟩, rf⟩ := id hR3
  by_cases h1 : t = 1
  · subst h1
    have i0 : (1 : Int) ≤ (c : Int) := by omega
    go_wp2_with fail
    refine bodyPost_ret (v := .agg #[.int .i64 m, .slice (some ⟨g, 0, none⟩) 1 c]) (by simp [results, Try.results163, go_sem, r0, r1]) rfl ⟨_, _, xss.take 1, w1.heap.size, rfl, ((((hT3.putS (.inr (by omega)) _ _).putS (.inl (by omega)) _ _).putS (.inl (by omega)) _ _).rdsF (by simp; omega) (by omega)).imp (fun u h => h.take 1 (by rw [HS.out.1]; omega)), by rw [List.length_take, HS.out.1]; omega, ((hq3.put (by omega) _ _).put (Nat.le_refl _) _ _).put (Nat.le_refl _) _ _⟩
  by_cases h2 : t = 2
  · subst h2
    have i0 : (1 : Int) ≤ (N : Int) := by omega
    have i1 : ¬ c = 1 := by omega
    go_wp2_with fail
    refine bodyPost_ret (v := .agg #[.int .i64 m, .slice (some ⟨g, 1, none⟩) (N - 1) (c - 1)]) (by simp [results, Try.results163, go_sem, r0, r1]) rfl ⟨_, _, xss.drop 1, w1.heap.size, rfl, ((((hT3.putS (.inr (by omega)) _ _).putS (.inl (by omega)) _ _).putS (.inl (by omega)) _ _).rdsF (by simp; omega) (by omega)).imp (fun u h => RdT.tail (off := 0) h (N - 1) (by rw [HS.out.1])), by rw [List.length_drop, HS.out.1]; omega, ((hq3.put (by omega) _ _).put (Nat.le_refl _) _ _).put (Nat.le_refl _) _ _⟩
  by_cases h3 : t = 3
  · subst h3
    go_wp2_with fail
    have hd0 : Below w3.heap.size w3 w3.drew := (Below.refl _ _).drew
    have hsd0 := hd0.size
    refine wp_region_K (S := fun w' => w'.cell? ⟨w1.heap.size, 1, none⟩ = some (.slice (some ⟨g, 0, none⟩) N c)) [7, 8, 9] (by kernel_rfl) ?_
    have hHeld : (fun w' : World => w'.cell? ⟨w1.heap.size, 1, none⟩ = some (.slice (some ⟨g, 0, none⟩) N c)) w3.drew := by go_keep
    refine' wpAnyK_takeL (i := 0) (v := _) rfl (by kernel_rfl) (by kernel_rfl) (by kernel_rfl) (by kernel_rfl) (fun _ _ _ h => h) (Or.inl ⟨by rfl, ?yT1⟩) hHeld ?rT1
    case yT1 => (intro w' hSw; (try dsimp only at hSw); go_simp; try with_reducible rfl)
    try simp only [List.getElem_toArray, List.getElem_cons_zero, List.getElem_cons_succ, Act.put, List.setIfInBounds_toArray, List.set_cons_zero, List.set_cons_succ]
    refine' wpAnyK_takeL (i := 1) (v := _) rfl (by kernel_rfl) (by kernel_rfl) (by kernel_rfl) (by kernel_rfl) (fun _ _ _ h => h) (Or.inl ⟨by rfl, ?yT2⟩) hHeld ?rT2
    case yT2 => (intro w' hSw; (try dsimp only at hSw); go_simp; try with_reducible rfl)
    try simp only [List.getElem_toArray, List.getElem_cons_zero, List.getElem_cons_succ, Act.put, List.setIfInBounds_toArray, List.set_cons_zero, List.set_cons_succ]
    refine' wpAnyK_takeL (i := 2) (v := _) rfl (by kernel_rfl) (by kernel_rfl) (by kernel_rfl) (by kernel_rfl) (fun _ _ _ h => h) (Or.inl ⟨by rfl, ?yT3⟩) hHeld ?rT3
    case yT3 => (intro w' hSw; (try dsimp only at hSw); go_simp; try with_reducible rfl)
    try simp only [List.getElem_toArray, List.getElem_cons_zero, List.getElem_cons_succ, Act.put, List.setIfInBounds_toArray, List.set_cons_zero, List.set_cons_succ]
    refine' wpAnyK_takeL (i := 3) (v := _) rfl (by kernel_rfl) (by kernel_rfl) (by kernel_rfl) (by kernel_rfl) (fun _ _ _ h => h) (Or.inl ⟨by rfl, ?yT4⟩) hHeld ?rT4
    case yT4 => (intro w' hSw; (try dsimp only at hSw); go_simp; try with_reducible rfl)
    try simp only [List.getElem_toArray, List.getElem_cons_zero, List.getElem_cons_succ, Act.put, List.setIfInBounds_toArray, List.set_cons_zero, List.set_cons_succ]
    refine' wpAnyK_takeL (i := 4) (v := _) rfl (by kernel_rfl) (by kernel_rfl) (by kernel_rfl) (by kernel_rfl) (fun _ _ _ h => h) (Or.inl ⟨by rfl, ?yT5⟩) hHeld ?rT5
    case yT5 => (intro w' hSw; (try dsimp only at hSw); go_simp; try with_reducible rfl)
    try simp only [List.getElem_toArray, List.getElem_cons_zero, List.getElem_cons_succ, Act.put, List.setIfInBounds_toArray, List.set_cons_zero, List.set_cons_succ]
    refine' wpAnyK_takeL (i := 5) (v := _) rfl (by kernel_rfl) (by kernel_rfl) (by kernel_rfl) (by kernel_rfl) (fun _ _ _ h => h) (Or.inl ⟨by rfl, ?yT6⟩) hHeld ?rT6
    case yT6 => (intro w' hSw; (try dsimp only at hSw); go_simp; try with_reducible rfl)
    try simp only [List.getElem_toArray, List.getElem_cons_zero, List.getElem_cons_succ, Act.put, List.setIfInBounds_toArray, List.set_cons_zero, List.set_cons_succ]
    refine wpAnyK_oneL (i := 6) rfl (by kernel_rfl) (fun K hK => ?_)
    go_simp
    go_at_call 116
    refine (next_d B n b _ _ hq3.drew.src).mono ?_
    rintro e w4 ⟨r, rfl, y0, y1, y2, hd4, hz4⟩
    have y1 := y1 (by omega)
    have hR4 := (show RB2 w3.drew _ _ _ from hR3).dw hd4 hlt
    have hX4 := (show RB2 w3.drew _ _ _ from hX3).dw hd4 (by omega)
    have hT3d : OwSU us w0.heap.size w1.heap.size w3.drew (.slice (some ⟨g, 0, none⟩) N c) xss := hT3.stay (fun j _ _ => rfl)
    have hzd : w3.drew.heap.size = w3.heap.size := rfl
    have hT4 := hT3d.dwS hd4 (by omega) (by omega)
    have hq4 := hq3.drew.trans hd4
    have hs4 : w3.heap.size ≤ w4.heap.size := by have := hd4.size; omega
    clear hT3d hzd
    obtain ⟨r, rfl⟩ : ∃ q : Nat, r = (q : Int) := ⟨r.toNat, by omega⟩
    have hrN : r < N := by omega
    obtain ⟨row, hrow⟩ : ∃ row, xss[r]? = some row := ⟨xss[r]'(by have := HS.out.1; omega), by simp [show r < xss.length by have := HS.out.1; omega]⟩
    have HRow := Lib.hid hrow
    have HRL := Lib.hid (show row.length = N - r from HS.out.2 r row hrow)
    obtain ⟨o2, c2, hu2, cx2, how2, hbl2, hset2⟩ := hT4.at hrow
    rw [HRL.out] at hu2 cx2
    clear y2 hz4 hd4 hHeld how2 hbl2 hset2 hrow
    obtain ⟨⟨z0, z1⟩, zf⟩ := id hX4
    go_wp2_with fail
    have hHeld : (fun w' : World => w'.cell? ⟨w1.heap.size, 1, none⟩ = some (.slice (some ⟨g, 0, none⟩) N c)) w4 := by go_keep
    refine hK.out _ _ (fun _ => hHeld) ?_
    clear hK K
    try simp only [List.getElem_toArray, List.getElem_cons_zero, List.getElem_cons_succ, Act.put, List.setIfInBounds_toArray, List.set_cons_zero, List.set_cons_succ]
    refine wpAnyK_oneL (i := 7) rfl (by kernel_rfl) (fun K hK => ?_)
    go_simp
    (try go_wp2_with fail)
    refine hK.out _ _ (fun h => absurd h (by decide)) ?_
    clear hK K
    try simp only [List.getElem_toArray, List.getElem_cons_zero, List.getElem_cons_succ, Act.put, List.setIfInBounds_toArray, List.set_cons_zero, List.set_cons_succ]
    refine wpAnyK_oneL (i := 8) rfl (by kernel_rfl) (fun K hK => ?_)
    go_simp
    (try go_wp2_with fail)
    refine hK.out _ _ (fun h => absurd h (by decide)) ?_
    clear hK K
    try simp only [List.getElem_toArray, List.getElem_cons_zero, List.getElem_cons_succ, Act.put, List.setIfInBounds_toArray, List.set_cons_zero, List.set_cons_succ]
    refine wpAnyK_oneL (i := 9) rfl (by kernel_rfl) (fun K hK => ?_)
    go_simp
    (try go_wp2_with fail)
    refine hK.out _ _ (fun h => absurd h (by decide)) ?_
    clear hK K
    try simp only [List.getElem_toArray, List.getElem_cons_zero, List.getElem_cons_succ, Act.put, List.setIfInBounds_toArray, List.set_cons_zero, List.set_cons_succ]
    refine wpAnyK_done (by kernel_rfl) ?_ _
    go_wp2_with fail
    refine (pick_d B n b _ _ [-1, m, 1099511627776] _ w4 hq4.src rfl rfl rfl (by simp) (by simp)).mono ?_
    rintro e w5 ⟨y, rfl, hy, hd5, hz5⟩
    have hR5 := hR4.dw hd5 hlt
    have hX5 := hX4.dw hd5 (by omega)
    have hT5 := hT4.dwS hd5 (by omega) (by omega)
    have hq5 := hq4.trans hd5
    have hs5 := hd5.size
    clear hz5 hy hR4 hX4 hT4 hq4 hd5 z0 z1 zf hHeld cx2
    obtain ⟨o3, c3, hu3, cx3, how3, hbl3, hset3⟩ := hT5.at HRow.out
    rw [HRL.out] at hu3 cx3 how3 hbl3 hset3
    obtain ⟨rfl, rfl⟩ : o2 = o3 ∧ c2 = c3 := by rw [hu2] at hu3; simpa using hu3
    obtain ⟨gr, rfl, hgr1, hgr2⟩ := how3.row (by omega)
    have hgr3 := hbl3 gr rfl
    have hc0 := how3.cell (k := 0) (some_at0 (xs := row) (k := 0) (by have := HRL.out; omega))
    have hf0 := how3.fz 0
    have HS2 := Lib.hid hset3
    have Hn := Lib.hid how3
    clear hset3 hbl3 hu3 hu2 how3 cx3
    have j0 : (0 : Int) < ((N - r : Nat) : Int) := by omega
    have m1 : gr ≠ w1.heap.size := by omega
    have m2 : w1.heap.size ≠ gr := by omega
    have m3 : gr ≠ w.heap.size := by omega
    have m4 : w.heap.size ≠ gr := by omega
    obtain ⟨⟨z0, z1⟩, zf⟩ := id hX5
    obtain ⟨⟨r0, r1⟩, rf⟩ := id hR5
    go_wp2_with fail
    have hT6 := HS2.out _ _ (by rw [List.length_set, HRL.out]) (gr_put (World.grownBy.refl w5 (some gr)) 0 (.int .i64 y)) (Hn.out.put 0 y)
    refine bodyPost_ret (v := .agg #[.int .i64 m, .slice (some ⟨g, 0, none⟩) N c]) (by simp [results, Try.results163, go_sem, r0, r1]) rfl ⟨_, _, xss.set r (row.set 0 y), w1.heap.size, rfl, ((hT6.putS (.inl (by omega)) _ _).putS (.inl (by omega)) _ _).rdsF (by simp; omega) (by omega), by rw [List.length_set, HS.out.1]; omega, ((hq5.put (by omega) _ _).put (Nat.le_refl _) _ _).put (Nat.le_refl _) _ _⟩
  go_wp2_with fail
  refine bodyPost_ret (v := .agg #[.int .i64 m, .slice (some ⟨g, 0, none⟩) N c]) (by simp [results, Try.results163, go_sem, r0, r1]) rfl ⟨_, _, xss, w1.heap.size, rfl, ((hT3.putS (.inl (by omega)) _ _).putS (.inl (by omega)) _ _).rdsF (by simp; omega) (by omega), by rw [HS.out.1]; omega, (hq3.put (Nat.le_refl _) _ _).put (Nat.le_refl _) _ _⟩
end Go.Proofs.Ytcjinlfgeljmkaa
