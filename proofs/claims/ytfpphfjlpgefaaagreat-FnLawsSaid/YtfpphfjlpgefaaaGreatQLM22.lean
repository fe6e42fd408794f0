/- Lemmas. -/
import Derived.Test.YtfpphfjlpgefaaaGreatQLM21
import Derived.Test.YtfpphfjlpgefaaaGreatQLM7
set_option maxHeartbeats 4000000
set_option maxRecDepth 100000
set_option linter.unusedSimpArgs false
set_option linter.unusedVariables false
namespace Go.Proofs.YtfpphfjlpgefaaaGreat
open Go.RowKit

theorem PlaT.stp {m : Int} {N : Nat} {t : List (List Int)} (h : PlaT m N t) : Stp N t := ⟨h.1, fun k row hk => by
 have hk' := List.getElem?_eq_some_iff.1 hk
 rw [← hk'.2, (h.2 k hk'.1).1, h.1]⟩
theorem Stp.put {N i : Nat} {t : List (List Int)} (h : Stp N t) {row row' : List Int} (hi : t[i]? = some row) (hl : row'.length = row.length) : Stp N (t.set i row') := ⟨by rw [List.length_set]; exact h.1, fun k r hk => by
 rw [List.getElem?_set] at hk
 by_cases e : i = k
 ·subst e
  rw [if_pos rfl, if_pos (List.getElem?_eq_some_iff.1 hi).1] at hk
  cases hk
  rw [hl]; exact h.2 i row hi
 ·rw [if_neg e] at hk; exact h.2 k r hk⟩
def SpR (w w' : World) (B n b : Nat) (e : Ending) : Prop := ∃ (m : Int) (v : Value) (N g c lo hi k : Nat) (t : List (List Int)), e = .returned (.agg #[.int .i64 m, v]) ∧ OwSR lo hi w' (.slice (some ⟨g, 0, none⟩) N c) t ∧ (w.heap.size ≤ lo ∧ lo ≤ g ∧ hi ≤ w'.heap.size) ∧ Stp N t ∧ (2 ≤ N ∧ N ≤ 11 ∧ N ≤ c) ∧ (v = .slice none 0 0 ∨ (k ≤ 1 ∧ v = .slice (some ⟨g, k, none⟩) (N - k) (c - k))) ∧ DW B n b w w'

theorem l04Spoil_d (B n b : Nat) (w : World) (hs : Src w B n b) :
  Calls Tryz.prog 36 #[.pointer (some ⟨b, 0, none⟩)] w fun e w' => SpR w w' B n b e := by
 have hlt := hs.lt
 go_enter Tryz.func36, Tryz.ntmps36
 go_wp2_with fail
 have hR0 := RB2.mk1 w (.int .i64 0) (.slice none 0 0) 26
 have hq0 : DW B n b w (w.alloc (.cells #[.int .i64 0, .slice none 0 0] 26)) := (DW.refl hs).alloc _
 have hz0 := hq0.size
 generalize w.alloc (.cells #[.int .i64 0, .slice none 0 0] 26) = w0 at hR0 hq0 hz0 ⊢
 refine (l04Draw_d B n b w0 hq0.src).mono ?_
 rintro e w1 ⟨m, N, hm, hN, v, xss, rfl, hO1, hp, hd1⟩
 obtain ⟨o, c, rfl⟩ := hO1.shapeN (n := N) hp.1
 obtain ⟨g, rfl, hg0, hg1⟩ := hO1.row (by omega)
 have hcl : N ≤ c := by
  obtain ⟨_, _, heq, ⟨_, h, _⟩, _⟩ := hO1.rd
  have h3 := (Value.slice.inj heq).2.2
  have h2 := (Value.slice.inj heq).2.1
  omega
 have HS := Lib.hid hp.stp
 clear hp
 have hl0 := hR0.1.lt
 have hR1 := hR0.dw hd1 hlt
 have hz1 := hd1.size
 have hq1 := hq0.trans hd1
 obtain ⟨us, hT1⟩ := hO1.toR.named
 clear hR0 hq0 hd1 hO1
 go_wp2_with fail
 have hX2 := RB2.mk1 w1 (.int .i64 m) (.slice (some ⟨g, 0, none⟩) N c) 26
 have hR2 := hR1.below (w' := w1.alloc (.cells #[.int .i64 m, .slice (some ⟨g, 0, none⟩) N c] 26)) bZ (nl _)
 have hq2 := hq1.alloc (.cells #[.int .i64 m, .slice (some ⟨g, 0, none⟩) N c] 26)
 have hT2 := hT1.stay (u' := w1.alloc (.cells #[.int .i64 m, .slice (some ⟨g, 0, none⟩) N c] 26)) (fun j _ hj => Below.heap_alloc _ _ j (by omega))
 have hz2 : w1.heap.size ≤ (w1.alloc (.cells #[.int .i64 m, .slice (some ⟨g, 0, none⟩) N c] 26)).heap.size := by simp
 clear hT1 hR1 hq1
 generalize w1.alloc (.cells #[.int .i64 m, .slice (some ⟨g, 0, none⟩) N c] 26) = w2 at hX2 hR2 hq2 hT2 hz2 ⊢
 refine (next_d B n b _ _ hq2.src).mono ?_
 rintro e w3 ⟨r, rfl, y0, y1, y2, hd3, hz3⟩
 have y1 := y1 (by omega)
 have hR3 := hR2.dw hd3 hlt
 have hX3 := hX2.dw hd3 (by omega)
 have hT3 := hT2.dwS hd3 (by omega) hz2
 have hq3 := hq2.trans hd3
 have hz3' := hd3.size
 clear hR2 hX2 hT2 hq2 y2 hz3 hd3
 have n1 : w.heap.size ≠ w1.heap.size := by omega
 have n2 : w1.heap.size ≠ w.heap.size := by omega
 obtain ⟨hN1, hN2⟩ := hN
 obtain ⟨r, rfl⟩ : ∃ q : Nat, r = (q : Int) := ⟨r.toNat, by omega⟩
 have hrN : r < N := by omega
 obtain ⟨row, hrow⟩ : ∃ row, xss[r]? = some row := ⟨xss[r]'(by have := HS.out.1; omega), by simp [show r < xss.length by have := HS.out.1; omega]⟩
 have HRow := Lib.hid hrow
 have HRL := Lib.hid (show row.length = N - r from HS.out.2 r row hrow)
 obtain ⟨o2, c2, hu2, cx2, how2, hbl2, hset2⟩ := hT3.at hrow
 rw [HRL.out] at hu2 cx2
 clear how2 hbl2 hset2 hrow
 obtain ⟨⟨x0, x1⟩, xf⟩ := id hX3
 go_wp2_with fail
 refine (next_d B n b _ _ hq3.src).mono ?_
 rintro e w4 ⟨t, rfl, t0, t1, t2, hd4, hz4⟩
 have hR4 := hR3.dw hd4 hlt
 have hX4 := hX3.dw hd4 (by omega)
 have hT4 := hT3.dwS hd4 (by omega) (by omega)
 have hq4 := hq3.trans hd4
 have hz4' := hd4.size
 clear hR3 hX3 hT3 hq3 t1 t2 hz4 hd4 cx2 x0 x1 xf
 have hl3 := hX4.1.lt
 have hlr3 := hR4.1.lt
 by_cases h0 : t = 0
 ·subst h0
  have e1 : IntKind.i64.wrap (m + 1) = m + 1 := IntWalk.i64_in _ (by omega)
  obtain ⟨⟨x0, x1⟩, xf⟩ := id hX4
  go_wp2_with fail
  have hd0 : Below w4.heap.size w4 w4.drew := (Below.refl _ _).drew
  have hsd0 := hd0.size
  refine wp_region_K (S := fun w' => w'.cell? ⟨w1.heap.size, 0, none⟩ = some (.int .i64 m)) [11] (by kernel_rfl) ?_
  have hHeld : (fun w' : World => w'.cell? ⟨w1.heap.size, 0, none⟩ = some (.int .i64 m)) w4.drew := by go_keep
  refine' wpAnyK_takeL (i := 0) (v := _) rfl (by kernel_rfl) (by kernel_rfl) (by kernel_rfl) (by kernel_rfl) (fun _ _ _ h => h) (Or.inl ⟨by rfl, ?yT1⟩) hHeld ?rT1
  case yT1 => (intro w' hSw; (try dsimp only at hSw); go_simp; try with_reducible rfl)
  try simp only [Act.put, sL]
  refine' wpAnyK_takeL (i := 1) (v := _) rfl (by kernel_rfl) (by kernel_rfl) (by kernel_rfl) (by kernel_rfl) (fun _ _ _ h => h) (Or.inl ⟨by rfl, ?yT2⟩) hHeld ?rT2
  case yT2 => (intro w' hSw; (try dsimp only at hSw); go_simp; try with_reducible rfl)
  try simp only [Act.put, sL]
  refine' wpAnyK_takeL (i := 2) (v := _) rfl (by kernel_rfl) (by kernel_rfl) (by kernel_rfl) (by kernel_rfl) (fun _ _ _ h => h) (Or.inl ⟨by rfl, ?yT3⟩) hHeld ?rT3
  case yT3 => (intro w' hSw; (try dsimp only at hSw); go_simp; try with_reducible rfl)
  try simp only [Act.put, sL]
  refine' wpAnyK_takeL (i := 5) (v := _) rfl (by kernel_rfl) (by kernel_rfl) (by kernel_rfl) (by kernel_rfl) (fun _ _ _ h => h) (Or.inl ⟨by rfl, ?yT4⟩) hHeld ?rT4
  case yT4 => (intro w' hSw; (try dsimp only at hSw); go_simp; try with_reducible rfl)
  try simp only [Act.put, sL]
  refine' wpAnyK_takeL (i := 6) (v := _) rfl (by kernel_rfl) (by kernel_rfl) (by kernel_rfl) (by kernel_rfl) (fun _ _ _ h => h) (Or.inl ⟨by rfl, ?yT5⟩) hHeld ?rT5
  case yT5 => (intro w' hSw; (try dsimp only at hSw); go_simp; try with_reducible rfl)
  try simp only [Act.put, sL]
  refine' wpAnyK_takeL (i := 3) (v := _) rfl (by kernel_rfl) (by kernel_rfl) (by kernel_rfl) (by kernel_rfl) (fun _ _ _ h => h) (Or.inl ⟨by rfl, ?yT6⟩) hHeld ?rT6
  case yT6 => (intro w' hSw; (try dsimp only at hSw); go_simp; try with_reducible rfl)
  try simp only [Act.put, sL]
  refine' wpAnyK_takeL (i := 7) (v := _) rfl (by kernel_rfl) (by kernel_rfl) (by kernel_rfl) (by kernel_rfl) (fun _ _ _ h => h) (Or.inl ⟨by rfl, ?yT7⟩) hHeld ?rT7
  case yT7 => (intro w' hSw; (try dsimp only at hSw); go_simp; try with_reducible rfl)
  try simp only [Act.put, sL]
  refine' wpAnyK_takeL (i := 8) (v := _) rfl (by kernel_rfl) (by kernel_rfl) (by kernel_rfl) (by kernel_rfl) (fun _ _ _ h => h) (Or.inl ⟨by rfl, ?yT8⟩) hHeld ?rT8
  case yT8 => (intro w' hSw; (try dsimp only at hSw); go_simp; try with_reducible rfl)
  try simp only [Act.put, sL]
  refine wpAnyK_oneL (i := 4) rfl (by kernel_rfl) (fun K hK => ?_)
  go_simp
  go_at_call 38
  refine (next_d B n b _ _ hq4.drew.src).mono ?_
  rintro e w5 ⟨j, rfl, j0, j1, j2, hd5, hz5⟩
  have j1 := j1 (by omega)
  have hR5 := (show RB2 w4.drew _ _ _ from hR4).dw hd5 hlt
  have hX5 := (show RB2 w4.drew _ _ _ from hX4).dw hd5 (by omega)
  have hT4d : OwSU us w0.heap.size w1.heap.size w4.drew (.slice (some ⟨g, 0, none⟩) N c) xss := hT4.stay (fun j _ _ => rfl)
  have hzd : w4.drew.heap.size = w4.heap.size := rfl
  have hT5 := hT4d.dwS hd5 (by omega) (by omega)
  have hq5 := hq4.drew.trans hd5
  have hs5 : w4.heap.size ≤ w5.heap.size := by have := hd5.size; omega
  clear j2 hz5 hT4d hzd hd5 hHeld x0 x1 xf
  obtain ⟨j, rfl⟩ : ∃ q : Nat, j = (q : Int) := ⟨j.toNat, by omega⟩
  obtain ⟨⟨x0, x1⟩, xf⟩ := id hX5
  go_wp2_with fail
  have hHeld : (fun w' : World => w'.cell? ⟨w1.heap.size, 0, none⟩ = some (.int .i64 m)) w5 := by go_keep
  refine hK.out _ _ (fun _ => hHeld) ?_
  clear hK K
  try simp only [Act.put, sL]
  refine wpAnyK_oneL (i := 9) rfl (by kernel_rfl) (fun K hK => ?_)
  go_simp
  go_at_call 38
  refine (next_d B n b _ _ hq5.src).mono ?_
  rintro e w6 ⟨y, rfl, q0, q1, q2, hd6, hz6⟩
  have hR6 := hR5.dw hd6 hlt
  have hX6 := hX5.dw hd6 (by omega)
  have hT6 := hT5.dwS hd6 (by omega) (by omega)
  have hq6 := hq5.trans hd6
  have hs6 := hd6.size
  clear q1 q2 hz6 hR5 hX5 hT5 hq5 hd6 x0 x1 xf hHeld
  obtain ⟨o3, c3, hu3, cx3, how3, hbl3, hset3⟩ := hT6.at HRow.out
  rw [HRL.out] at hu3 cx3 how3 hbl3 hset3
  obtain ⟨rfl, rfl⟩ : o2 = o3 ∧ c2 = c3 := by rw [hu2] at hu3; simpa using hu3
  obtain ⟨gr, rfl, hgr1, hgr2⟩ := how3.row (by omega)
  have hgr3 := hbl3 gr rfl
  have hjl : j < row.length := by have := HRL.out; omega
  have hc0 := how3.cell (k := j) (x := row[j]) (by simp [hjl])
  have hf0 := how3.fz j
  have HS2 := Lib.hid hset3
  have Hn := Lib.hid how3
  clear hset3 hbl3 hu3 hu2 how3 cx3
  have i0 : (0 : Int) ≤ (j : Int) := by omega
  have i1 : (j : Int) < ((N - r : Nat) : Int) := by omega
  have m1 : gr ≠ w1.heap.size := by omega
  have m2 : w1.heap.size ≠ gr := by omega
  have m3 : gr ≠ w.heap.size := by omega
  have m4 : w.heap.size ≠ gr := by omega
  obtain ⟨⟨z0, z1⟩, zf⟩ := id hX6
  obtain ⟨⟨r0, r1⟩, rf⟩ := id hR6
  go_wp2_with fail
  have hHeld : (fun w' : World => w'.cell? ⟨w1.heap.size, 0, none⟩ = some (.int .i64 m)) w6 := by go_keep
  refine hK.out _ _ (fun _ => hHeld) ?_
  clear hK K
  try simp only [Act.put, sL]
  refine' wpAnyK_takeL (i := 10) (v := _) rfl (by kernel_rfl) (by kernel_rfl) (by kernel_rfl) (by kernel_rfl) (fun _ _ _ h => h) (Or.inl ⟨by rfl, ?yT9⟩) hHeld ?rT9
  case yT9 => (intro w' hSw; (try dsimp only at hSw); go_simp; try with_reducible rfl)
  try simp only [Act.put, sL]
  refine wpAnyK_oneL (i := 11) rfl (by kernel_rfl) (fun K hK => ?_)
  go_simp
  (try go_wp2_with fail)
  refine hK.out _ _ (fun h => absurd h (by decide)) ?_
  clear hK K
  try simp only [Act.put, sL]
  refine wpAnyK_done (by kernel_rfl) ?_ _
  go_wp2_with fail
  have hT7 := HS2.out _ _ (by rw [List.length_set, HRL.out]) (gr_put (World.grownBy.refl w6 (some gr)) j (.int .i64 y)) (Hn.out.put j y)
  refine bodyPost_ret (v := .agg #[.int .i64 m, .slice (some ⟨g, 0, none⟩) N c]) (by simp [results, Tryz.results36, go_sem, r0, r1]) rfl ⟨m, _, N, g, c, _, w1.heap.size, 0, xss.set r (row.set j y), rfl, ((hT7.putS (.inl (by omega)) _ _).putS (.inl (by omega)) _ _).r, ⟨by omega, by omega, by simp; omega⟩, HS.out.put HRow.out (by rw [List.length_set]), ⟨hN1, hN2, hcl⟩, .inr ⟨by omega, rfl⟩, ((hq6.put (by omega) _ _).put (nl _) _ _).put (nl _) _ _⟩
 obtain ⟨⟨x0, x1⟩, xf⟩ := id hX4
 obtain ⟨⟨r0, r1⟩, rf⟩ := id hR4
 by_cases h1 : t = 1
 ·subst h1
  clear x0 x1 xf r0 r1 rf
  go_wp2_with fail
  refine (pick_d B n b _ _ [1, 10001, 2] _ w4 hq4.src rfl rfl rfl (by simp) (by simp)).mono ?_
  rintro e w5 ⟨q, rfl, hr, hd5, hz5⟩
  have hR5 := hR4.dw hd5 hlt
  have hX5 := hX4.dw hd5 (by omega)
  have hT5 := hT4.dwS hd5 (by omega) (by omega)
  have hq5 := hq4.trans hd5
  have hs5 := hd5.size
  clear hz5 hr
  obtain ⟨⟨x0, x1⟩, xf⟩ := id hX5
  obtain ⟨⟨r0, r1⟩, rf⟩ := id hR5
  go_wp2_with fail
  refine bodyPost_ret (v := .agg #[.int .i64 q, .slice (some ⟨g, 0, none⟩) N c]) (by simp [results, Tryz.results36, go_sem, r0, r1]) rfl ⟨q, _, N, g, c, _, w1.heap.size, 0, xss, rfl, (((hT5.putS (.inr (by omega)) _ _).putS (.inl (by omega)) _ _).putS (.inl (by omega)) _ _).r, ⟨by omega, by omega, by simp; omega⟩, HS.out, ⟨hN1, hN2, hcl⟩, .inr ⟨by omega, rfl⟩, ((hq5.put (by omega) _ _).put (nl _) _ _).put (nl _) _ _⟩
 by_cases h2 : t = 2
 ·subst h2
  have i0 : (1 : Int) ≤ (N : Int) := by omega
  have i1 : ¬ c = 1 := by omega
  go_wp2_with fail
  refine bodyPost_ret (v := .agg #[.int .i64 m, .slice (some ⟨g, 1, none⟩) (N - 1) (c - 1)]) (by simp [results, Tryz.results36, go_sem, r0, r1]) rfl ⟨m, _, N, g, c, _, w1.heap.size, 1, xss, rfl, (((hT4.putS (.inr (by omega)) _ _).putS (.inl (by omega)) _ _).putS (.inl (by omega)) _ _).r, ⟨by omega, by omega, by simp; omega⟩, HS.out, ⟨hN1, hN2, hcl⟩, .inr ⟨by omega, rfl⟩, ((hq4.put (by omega) _ _).put (nl _) _ _).put (nl _) _ _⟩
 by_cases h3 : t = 3
 ·subst h3
  go_wp2_with fail
  refine bodyPost_ret (v := .agg #[.int .i64 m, .slice none 0 0]) (by simp [results, Tryz.results36, go_sem, r0, r1]) rfl ⟨m, _, N, g, c, _, w1.heap.size, 0, xss, rfl, (((hT4.putS (.inr (by omega)) _ _).putS (.inl (by omega)) _ _).putS (.inl (by omega)) _ _).r, ⟨by omega, by omega, by simp; omega⟩, HS.out, ⟨hN1, hN2, hcl⟩, .inl rfl, ((hq4.put (by omega) _ _).put (nl _) _ _).put (nl _) _ _⟩
 have h0' : (t == 0) = false := by simpa using h0
 have h1' : (t == 1) = false := by simpa using h1
 have h2' : (t == 2) = false := by simpa using h2
 have h3' : (t == 3) = false := by simpa using h3
 go_wp2_with fail
 refine bodyPost_ret (v := .agg #[.int .i64 m, .slice (some ⟨g, 0, none⟩) N c]) (by simp [results, Tryz.results36, go_sem, r0, r1]) rfl ⟨m, _, N, g, c, _, w1.heap.size, 0, xss, rfl, ((hT4.putS (.inl (by omega)) _ _).putS (.inl (by omega)) _ _).r, ⟨by omega, by omega, by simp; omega⟩, HS.out, ⟨hN1, hN2, hcl⟩, .inr ⟨by omega, rfl⟩, (hq4.put (nl _) _ _).put (nl _) _ _⟩

theorem OwSR.putS {lo hi : Nat} {u : World} {v : Value} {xss : List (List Int)} (h : OwSR lo hi u v xss) {b : Nat} (hb : b < lo ∨ hi ≤ b) (k : Nat) (x : Value) : OwSR lo hi (u.setCell ⟨b, k, none⟩ x) v xss :=
 h.stay (fun j h1 h2 => heap_setCell_other u ⟨b, k, none⟩ j x (fun e => by simp at e; omega))
theorem OwSR.dwS {lo hi : Nat} {B n b : Nat} {w w' : World} {v : Value} {xss : List (List Int)} (h : OwSR lo hi w v xss) (hd : DW B n b w w') (h1 : b < lo) (h2 : hi ≤ w.heap.size) : OwSR lo hi w' v xss :=
 h.stay (fun j h3 h4 => hd.chg.block j (by omega) (.inr (by omega)))
theorem OwSR.belS {lo hi : Nat} {w w' : World} {v : Value} {xss : List (List Int)} (h : OwSR lo hi w v xss) (hb : Below w.heap.size w w') (h2 : hi ≤ w.heap.size) : OwSR lo hi w' v xss :=
 h.stay (fun j _ h4 => hb.block j (by omega))
theorem tailR {lo hi g N c k : Nat} {w : World} {t : List (List Int)} (h : OwSR lo hi w (.slice (some ⟨g, 0, none⟩) N c) t) (hst : Stp N t) (hk : k ≤ 1) : RdT w (.slice (some ⟨g, k, none⟩) (N - k) (c - k)) (t.drop k) := by
 have hr := h.ow.rd
 obtain rfl | rfl : k = 0 ∨ k = 1 := by omega
 ·simpa using hr
 ·exact RdT.tail (off := 0) hr (N - 1) (by rw [hst.1])
theorem plaB_nil (m : Int) : plaB m [] = false := by simp [plaB, inB]

theorem DrawLawFault_d (B n : Nat) (v : Value) (w : World) (hv : RdB w B n v) (hB : B ≤ w.heap.size) :
  Calls Tryz.prog 6 #[v] w fun e w' => P1Dr w w' e := by
 obtain ⟨ov, cv, rfl, hmv, hcv⟩ := id hv
 clear hmv hcv
 go_enter Tryz.func6, Tryz.ntmps6
 go_wp2_with fail
 have hR0 := RB2.mk1 w (.int .i64 0) (.slice none 0 0) 26
 have hb0 : Below w.heap.size w (w.alloc (.cells #[.int .i64 0, .slice none 0 0] 26)) := bZ
 generalize w.alloc (.cells #[.int .i64 0, .slice none 0 0] 26) = w0 at hR0 hb0 ⊢
 have hv0 := hv.keep (w' := w0) (fun k hk => hb0.block k (by omega))
 refine (l01From_c B n _ w0 hv0 (by have := hb0.size; omega)).mono ?_
 rintro e w1 ⟨b, rfl, hs1, hb1⟩
 have hbl := hs1.1
 have hlt := hs1.lt
 have hl0 := hR0.1.lt
 have hR1 := hR0.below hb1 (nl _)
 have hb1 := hb0.trans (hb1.mono hb0.size)
 clear hR0 hb0 hv0
 go_wp2_with fail
 refine (l04Spoil_d _ n b w1 hs1).mono ?_
 rintro e w2 ⟨m, vt, N, g, c, lo, hi, k, t, rfl, hT2, ⟨hlo, hg, hhi⟩, hst, ⟨hN1, hN2, hNc⟩, hvt, hd2⟩
 have HS := Lib.hid hst
 clear hst
 have hz2 := hd2.size
 have hR2 := hR1.chg hd2.chg (.inl (by omega))
 have hw1 : w.heap.size < w1.heap.size := hR1.1.lt
 clear hR1
 rcases hvt with rfl | ⟨hk, rfl⟩
 ·go_wp2_with fail
  have hX2 := RB2.mk1 w2 (.int .i64 m) (.slice none 0 0) 26
  have hR3 := hR2.below (w' := w2.alloc (.cells #[.int .i64 m, .slice none 0 0] 26)) bZ (nl _)
  have hd3 := hd2.alloc (.cells #[.int .i64 m, .slice none 0 0] 26)
  have hlx := hX2.1.lt
  clear hR2 hd2 hT2
  generalize w2.alloc (.cells #[.int .i64 m, .slice none 0 0] 26) = w3 at hX2 hR3 hd3 hlx ⊢
  obtain ⟨⟨x0, x1⟩, xf⟩ := id hX2
  have hC := l03Is_c m _ [] w3 ⟨none, 0, rfl, ⟨Nat.zero_le _, Nat.zero_le _, fun _ => rfl⟩, fun k row hx => by simp at hx⟩
  rw [plaB_nil] at hC
  go_wp2_with fail
  refine hC.mono ?_
  rintro e w4 ⟨rfl, hb4⟩
  have hX4 := hX2.below hb4 (nl _)
  have hR4 := hR3.below hb4 (nl _)
  have hd4 := hd3.below hb4
  have hl4 := hX4.1.lt
  clear hX2 hR3 hd3 x0 x1 xf hC hb4
  obtain ⟨⟨x0, x1⟩, xf⟩ := id hX4
  obtain ⟨⟨r0, r1⟩, rf⟩ := id hR4
  go_wp2_with fail
  refine bodyPost_ret (v := .agg #[.int .i64 m, .slice none 0 0]) (by simp [results, Tryz.results6, go_sem, r0, r1]) rfl ⟨m, _, [], rfl, ⟨none, 0, rfl, ⟨Nat.zero_le _, Nat.zero_le _, fun _ => rfl⟩, fun k row hx => by simp at hx⟩, ?_⟩
  exact below_put (below_put (hd4.out hb1 (by omega)) (by omega) _) (by omega) _
 ·obtain ⟨q, hq⟩ : ∃ q, N - k = q := ⟨_, rfl⟩
  rw [hq]
  have HQ := Lib.hid hq
  have htl : (t.drop k).length = q := by rw [List.length_drop, HS.out.1, hq]
  have HTL := Lib.hid htl
  clear htl
  have hq2 : 1 ≤ q ∧ q ≤ 11 := by omega
  go_wp2_with fail
  have hX2 := RB2.mk1 w2 (.int .i64 m) (.slice (some ⟨g, k, none⟩) q (c - k)) 26
  have hba : Below w2.heap.size w2 (w2.alloc (.cells #[.int .i64 m, .slice (some ⟨g, k, none⟩) q (c - k)] 26)) := bZ
  have hR3 := hR2.below hba (nl _)
  have hd3 := hd2.below hba
  have hT3 := hT2.belS hba hhi
  have hlx := hX2.1.lt
  clear hR2 hd2 hT2 hba
  generalize w2.alloc (.cells #[.int .i64 m, .slice (some ⟨g, k, none⟩) q (c - k)] 26) = w3 at hX2 hR3 hd3 hT3 hlx ⊢
  have hrd3 := tailR hT3 HS.out hk
  rw [hq] at hrd3
  clear hq
  obtain ⟨⟨x0, x1⟩, xf⟩ := id hX2
  have hC := l03Is_c m _ (t.drop k) w3 hrd3
  go_wp2_with fail
  obtain ⟨us, hT3⟩ := hT3.named
  have hlo3 : hi ≤ w3.heap.size := by omega
  cases h1 : plaB m (t.drop k)
  ·rw [h1] at hC
   refine hC.mono ?_
   rintro e w4 ⟨rfl, hb4⟩
   have hX4 := hX2.below hb4 (nl _)
   have hR4 := hR3.below hb4 (nl _)
   have hd4 := hd3.below hb4
   have hT4 := hT3.stay (fun j _ h4 => hb4.block j (by omega))
   have hl4 := hX4.1.lt
   clear hX2 hR3 hd3 hT3 x0 x1 xf hC hb4 hrd3
   obtain ⟨⟨x0, x1⟩, xf⟩ := id hX4
   obtain ⟨⟨r0, r1⟩, rf⟩ := id hR4
   go_wp2_with fail
   refine bodyPost_ret (v := .agg #[.int .i64 m, .slice (some ⟨g, k, none⟩) q (c - k)]) (by simp [results, Tryz.results6, go_sem, r0, r1]) rfl ⟨m, _, t.drop k, rfl, ?_, ?_⟩
   ·have h := fun (u : World) hu => tailR (w := u) (lo := lo) (hi := hi) (g := g) (c := c) hu HS.out hk
    rw [HQ.out] at h
    exact h _ ((hT4.putS (.inl (by omega)) _ _).putS (.inl (by omega)) _ _).r
   ·exact below_put (below_put (hd4.out hb1 (by omega)) (by omega) _) (by omega) _
  ·rw [h1] at hC
   refine hC.mono ?_
   rintro e w4 ⟨rfl, hb4⟩
   have hX4 := hX2.below hb4 (nl _)
   have hR4 := hR3.below hb4 (nl _)
   have hd4 := hd3.below hb4
   have hT4 := hT3.stay (fun j _ h4 => hb4.block j (by omega))
   have hl4 := hX4.1.lt
   have hz4 := hb4.size
   clear hX2 hR3 hd3 hT3 x0 x1 xf hC hb4 hrd3
   by_cases h3 : 3 < q
   ·have i3 : (3 : Int) < (q : Int) := by omega
    go_wp2_with fail
    refine (next_d _ n b _ w4 hd4.src).mono ?_
    rintro e w5 ⟨x, rfl, x0, x1, x2, hd5, hz5⟩
    have hX5 := hX4.dw hd5 (by omega)
    have hR5 := hR4.chg hd5.chg (.inl (by omega))
    have hT5 := hT4.dwS hd5 (by omega) (by omega)
    have hd5 := hd4.trans hd5
    have hl5 := hX5.1.lt
    clear hX4 hR4 hd4 hT4 x1 x2 hz5
    by_cases hx : x = 0
    ·subst hx
     have e1 : IntKind.i64.wrap ((q : Int) - 3) = (q : Int) - 3 := IntWalk.i64_in _ (by omega)
     go_wp2_with fail
     refine (next_d _ n b _ w5 hd5.src).mono ?_
     rintro e w6 ⟨r, rfl, y0, y1, y2, hd6, hz6⟩
     have y1 := y1 (by omega)
     have hX6 := hX5.dw hd6 (by omega)
     have hR6 := hR5.chg hd6.chg (.inl (by omega))
     have hT6 := hT5.dwS hd6 (by omega) (by omega)
     have hd6 := hd5.trans hd6
     have hl6 := hX6.1.lt
     clear hX5 hR5 hd5 hT5 y2 hz6
     obtain ⟨i, hie⟩ : ∃ i : Nat, 1 + r = (i : Int) := ⟨(1 + r).toNat, by omega⟩
     have ewi : IntKind.i64.wrap (1 + r) = (i : Int) := by rw [IntWalk.i64_in _ (by omega)]; exact hie
     have e2 : IntKind.i64.wrap ((q : Int) - 1) = (q : Int) - 1 := IntWalk.i64_in _ (by omega)
     have e3 : IntKind.i64.wrap ((q : Int) - 1 - (i : Int)) = (q : Int) - 1 - (i : Int) := IntWalk.i64_in _ (by omega)
     go_wp2_with fail
     refine (next_d _ n b _ w6 hd6.src).mono ?_
     rintro e w7 ⟨r', rfl, z0, z1, z2, hd7, hz7⟩
     have z1 := z1 (by omega)
     have hX7 := hX6.dw hd7 (by omega)
     have hR7 := hR6.chg hd7.chg (.inl (by omega))
     have hT7 := hT6.dwS hd7 (by omega) (by omega)
     have hd7 := hd6.trans hd7
     have hl7 := hX7.1.lt
     clear hX6 hR6 hd6 hT6 z2 hz7
     obtain ⟨j, hj⟩ : ∃ j : Nat, 1 + r' = (j : Int) := ⟨(1 + r').toNat, by omega⟩
     have ewj : IntKind.i64.wrap (1 + r') = (j : Int) := by rw [IntWalk.i64_in _ (by omega)]; exact hj
     have e4 : IntKind.i64.wrap ((i : Int) + (j : Int)) = (i : Int) + (j : Int) := IntWalk.i64_in _ (by omega)
     have hij : i + j < q := by omega
     have hi1 : 1 ≤ i := by omega
     have hj1 : 1 ≤ j := by omega
     have i4 : (i : Int) + (j : Int) < (q : Int) := by omega
     have i5 : (i : Int) < (q : Int) := by omega
     have i6 : (j : Int) < (q : Int) := by omega
     have i7 : (0 : Int) ≤ (i : Int) := by omega
     have i8 : (0 : Int) ≤ (j : Int) := by omega
     have hN := HQ.out
     have hlt1 := HS.out.1
     obtain ⟨row, hrow⟩ : ∃ row, t[k + i]? = some row := ⟨t[k + i]'(by omega), by simp [show k + i < t.length by omega]⟩
     obtain ⟨rwj, hrwj⟩ : ∃ row, t[k + j]? = some row := ⟨t[k + j]'(by omega), by simp [show k + j < t.length by omega]⟩
     have HRow := Lib.hid hrow
     have HRwj := Lib.hid hrwj
     have HRL := Lib.hid (show row.length = q - i by have := HS.out.2 (k + i) row hrow; omega)
     have HRLj := Lib.hid (show rwj.length = q - j by have := HS.out.2 (k + j) rwj hrwj; omega)
     obtain ⟨o2, c2, hu2, cx2, -, -, -⟩ := hT7.at hrow
     obtain ⟨o3, c3, hu3, cx3, -, -, -⟩ := hT7.at hrwj
     rw [HRL.out] at hu2 cx2
     rw [HRLj.out] at hu3 cx3
     clear hrow hrwj hN hlt1
     obtain ⟨⟨x0, x1⟩, xf⟩ := id hX7
     go_wp2_with fail
     have hd0 : Below w7.heap.size w7 w7.drew := (Below.refl _ _).drew
     have hsd0 := hd0.size
     refine wp_region_K (S := fun w' => w'.cell? ⟨w2.heap.size, 0, none⟩ = some (.int .i64 m) ∧ w'.cell? ⟨w2.heap.size, 1, none⟩ = some (.slice (some ⟨g, k, none⟩) q (c - k)) ∧ w'.cell? ⟨g, k + i, none⟩ = some (.slice o2 (q - i) c2) ∧ w'.cell? ⟨g, k + j, none⟩ = some (.slice o3 (q - j) c3)) [16] (by kernel_rfl) ?_
     have hHeld : (fun w' : World => w'.cell? ⟨w2.heap.size, 0, none⟩ = some (.int .i64 m) ∧ w'.cell? ⟨w2.heap.size, 1, none⟩ = some (.slice (some ⟨g, k, none⟩) q (c - k)) ∧ w'.cell? ⟨g, k + i, none⟩ = some (.slice o2 (q - i) c2) ∧ w'.cell? ⟨g, k + j, none⟩ = some (.slice o3 (q - j) c3)) w7.drew := by go_keep
     refine' wpAnyK_takeL (i := 0) (v := _) rfl (by kernel_rfl) (by kernel_rfl) (by kernel_rfl) (by kernel_rfl) (fun _ _ _ h => h) (Or.inl ⟨by rfl, ?yT1⟩) hHeld ?rT1
     case yT1 => (intro w' hSw; (try dsimp only at hSw); go_simp; try with_reducible rfl)
     try simp only [Act.put, sL]
     refine' wpAnyK_takeL (i := 1) (v := _) rfl (by kernel_rfl) (by kernel_rfl) (by kernel_rfl) (by kernel_rfl) (fun _ _ _ h => h) (Or.inl ⟨by rfl, ?yT2⟩) hHeld ?rT2
     case yT2 => (intro w' hSw; (try dsimp only at hSw); go_simp; try with_reducible rfl)
     try simp only [Act.put, sL]
     refine' wpAnyK_takeL (i := 2) (v := _) rfl (by kernel_rfl) (by kernel_rfl) (by kernel_rfl) (by kernel_rfl) (fun _ _ _ h => h) (Or.inl ⟨by rfl, ?yT3⟩) hHeld ?rT3
     case yT3 => (intro w' hSw; (try dsimp only at hSw); go_simp; try with_reducible rfl)
     try simp only [Act.put, sL]
     refine' wpAnyK_takeL (i := 4) (v := _) rfl (by kernel_rfl) (by kernel_rfl) (by kernel_rfl) (by kernel_rfl) (fun _ _ _ h => h) (Or.inl ⟨by rfl, ?yT4⟩) hHeld ?rT4
     case yT4 => (intro w' hSw; (try dsimp only at hSw); go_simp; try with_reducible rfl)
     try simp only [Act.put, sL]
     refine' wpAnyK_takeL (i := 5) (v := _) rfl (by kernel_rfl) (by kernel_rfl) (by kernel_rfl) (by kernel_rfl) (fun _ _ _ h => h) (Or.inl ⟨by rfl, ?yT5⟩) hHeld ?rT5
     case yT5 => (intro w' hSw; (try dsimp only at hSw); go_simp; try with_reducible rfl)
     try simp only [Act.put, sL]
     refine' wpAnyK_takeL (i := 6) (v := _) rfl (by kernel_rfl) (by kernel_rfl) (by kernel_rfl) (by kernel_rfl) (fun _ _ _ h => h) (Or.inl ⟨by rfl, ?yT6⟩) hHeld ?rT6
     case yT6 => (intro w' hSw; (try dsimp only at hSw); go_simp; try with_reducible rfl)
     try simp only [Act.put, sL]
     refine' wpAnyK_takeL (i := 7) (v := _) rfl (by kernel_rfl) (by kernel_rfl) (by kernel_rfl) (by kernel_rfl) (fun _ _ _ h => h) (Or.inl ⟨by rfl, ?yT7⟩) hHeld ?rT7
     case yT7 => (intro w' hSw; (try dsimp only at hSw); go_simp; try with_reducible rfl)
     try simp only [Act.put, sL]
     refine' wpAnyK_takeL (i := 8) (v := _) rfl (by kernel_rfl) (by kernel_rfl) (by kernel_rfl) (by kernel_rfl) (fun _ _ _ h => h) (Or.inl ⟨by rfl, ?yT8⟩) hHeld ?rT8
     case yT8 => (intro w' hSw; (try dsimp only at hSw); go_simp; try with_reducible rfl)
     try simp only [Act.put, sL]
     refine' wpAnyK_takeL (i := 9) (v := _) rfl (by kernel_rfl) (by kernel_rfl) (by kernel_rfl) (by kernel_rfl) (fun _ _ _ h => h) (Or.inl ⟨by rfl, ?yT9⟩) hHeld ?rT9
     case yT9 => (intro w' hSw; (try dsimp only at hSw); go_simp; try with_reducible rfl)
     try simp only [Act.put, sL]
     refine' wpAnyK_takeL (i := 10) (v := _) rfl (by kernel_rfl) (by kernel_rfl) (by kernel_rfl) (by kernel_rfl) (fun _ _ _ h => h) (Or.inl ⟨by rfl, ?yT10⟩) hHeld ?rT10
     case yT10 => (intro w' hSw; (try dsimp only at hSw); go_simp; try with_reducible rfl)
     try simp only [Act.put, sL]
     refine' wpAnyK_takeL (i := 11) (v := _) rfl (by kernel_rfl) (by kernel_rfl) (by kernel_rfl) (by kernel_rfl) (fun _ _ _ h => h) (Or.inl ⟨by rfl, ?yT11⟩) hHeld ?rT11
     case yT11 => (intro w' hSw; (try dsimp only at hSw); go_simp; try with_reducible rfl)
     try simp only [Act.put, sL]
     refine' wpAnyK_takeL (i := 12) (v := _) rfl (by kernel_rfl) (by kernel_rfl) (by kernel_rfl) (by kernel_rfl) (fun _ _ _ h => h) (Or.inl ⟨by rfl, ?yT12⟩) hHeld ?rT12
     case yT12 => (intro w' hSw; (try dsimp only at hSw); go_simp; try with_reducible rfl)
     try simp only [Act.put, sL]
     refine' wpAnyK_takeL (i := 13) (v := _) rfl (by kernel_rfl) (by kernel_rfl) (by kernel_rfl) (by kernel_rfl) (fun _ _ _ h => h) (Or.inl ⟨by rfl, ?yT13⟩) hHeld ?rT13
     case yT13 => (intro w' hSw; (try dsimp only at hSw); go_simp; try with_reducible rfl)
     try simp only [Act.put, sL]
     refine wpAnyK_oneL (i := 3) rfl (by kernel_rfl) (fun K hK => ?_)
     go_simp
     go_at_call 38
     refine (next_d _ n b _ _ hd7.drew.src).mono ?_
     rintro e w8 ⟨y, rfl, q0, q1, q2, hd8, hz8⟩
     have hX8 := (show RB2 w7.drew _ _ _ from hX7).dw hd8 (by omega)
     have hR8 := (show RB2 w7.drew _ _ _ from hR7).chg hd8.chg (.inl (by omega))
     have hT7d : OwSU us lo hi w7.drew (.slice (some ⟨g, 0, none⟩) N c) t := hT7.stay (fun j _ _ => rfl)
     have hzd : w7.drew.heap.size = w7.heap.size := rfl
     have hT8 := hT7d.dwS hd8 (by omega) (by omega)
     have hd8 := hd7.drew.trans hd8
     have hl8 := hX8.1.lt
     clear q1 q2 hz8 hT7d hzd hHeld x0 x1 xf cx2 cx3 hX7 hR7 hT7 hd7
     obtain ⟨o2', c2', hu2', cx2, -, -, -⟩ := hT8.at HRow.out
     obtain ⟨o3', c3', hu3', cx3, -, -, -⟩ := hT8.at HRwj.out
     rw [HRL.out] at hu2' cx2
     rw [HRLj.out] at hu3' cx3
     obtain ⟨rfl, rfl⟩ : o2 = o2' ∧ c2 = c2' := by rw [hu2] at hu2'; simpa using hu2'
     obtain ⟨rfl, rfl⟩ : o3 = o3' ∧ c3 = c3' := by rw [hu3] at hu3'; simpa using hu3'
     clear hu2' hu3'
     obtain ⟨⟨x0, x1⟩, xf⟩ := id hX8
     go_wp2_with fail
     have hHeld : (fun w' : World => w'.cell? ⟨w2.heap.size, 0, none⟩ = some (.int .i64 m) ∧ w'.cell? ⟨w2.heap.size, 1, none⟩ = some (.slice (some ⟨g, k, none⟩) q (c - k)) ∧ w'.cell? ⟨g, k + i, none⟩ = some (.slice o2 (q - i) c2) ∧ w'.cell? ⟨g, k + j, none⟩ = some (.slice o3 (q - j) c3)) w8 := by go_keep
     refine hK.out _ _ (fun _ => hHeld) ?_
     clear hK K
     try simp only [Act.put, sL]
     refine wpAnyK_oneL (i := 14) rfl (by kernel_rfl) (fun K hK => ?_)
     go_simp
     (try go_wp2_with fail)
     refine hK.out _ _ (fun _ => hHeld) ?_
     clear hK K
     try simp only [Act.put, sL]
     refine wpAnyK_oneL (i := 15) rfl (by kernel_rfl) (fun K hK => ?_)
     go_simp
     (try go_wp2_with fail)
     refine hK.out _ _ (fun _ => hHeld) ?_
     clear hK K
     try simp only [Act.put, sL]
     refine wpAnyK_oneL (i := 16) rfl (by kernel_rfl) (fun K hK => ?_)
     go_simp
     (try go_wp2_with fail)
     refine hK.out _ _ (fun h => absurd h (by decide)) ?_
     clear hK K
     try simp only [Act.put, sL]
     refine wpAnyK_done (by kernel_rfl) ?_ _
     clear hHeld x0 x1 xf cx2 cx3
     obtain ⟨o4, c4, hu4, -, how4, hbl4, hset4⟩ := hT8.at HRow.out
     rw [HRL.out] at hu4 how4 hbl4 hset4
     obtain ⟨rfl, rfl⟩ : o2 = o4 ∧ c2 = c4 := by rw [hu2] at hu4; simpa using hu4
     obtain ⟨gi, rfl, -, -⟩ := how4.row (by omega)
     obtain ⟨gi1, gi2, gi3⟩ := hbl4 gi rfl
     have hjl : j < row.length := by have := HRL.out; omega
     have hc4 := how4.cell (k := j) (x := row[j]) (by simp [hjl])
     have hf4 := how4.fz j
     have hT9 := hset4 _ _ (by rw [List.length_set, HRL.out]) (gr_put (World.grownBy.refl w8 (some gi)) j (.int .i64 y)) (how4.put j y)
     have HS9 := Lib.hid (HS.out.put HRow.out (row' := row.set j y) (by rw [List.length_set]))
     clear hset4 hbl4 hu4 how4
     generalize t.set (k + i) (row.set j y) = t9 at hT9 HS9
     obtain ⟨rw9, hrw9⟩ : ∃ row, t9[k + j]? = some row := ⟨t9[k + j]'(by have := HS9.out.1; have := HQ.out; omega), by simp [show k + j < t9.length by have := HS9.out.1; have := HQ.out; omega]⟩
     have HRL9 := Lib.hid (show rw9.length = q - j by have := HS9.out.2 (k + j) rw9 hrw9; have := HQ.out; omega)
     have HRow9 := Lib.hid hrw9
     obtain ⟨o5, c5, hu5, -, how5, hbl5, hset5⟩ := hT9.at hrw9
     rw [HRL9.out] at hu5 how5 hbl5 hset5
     obtain ⟨rfl, rfl⟩ : o3 = o5 ∧ c3 = c5 := by rw [hu3] at hu5; simpa using hu5
     obtain ⟨gj, rfl, -, -⟩ := how5.row (by omega)
     obtain ⟨gj1, gj2, gj3⟩ := hbl5 gj rfl
     have hil : i < rw9.length := by have := HRL9.out; omega
     have hc5 := how5.cell (k := i) (x := rw9[i]) (by simp [hil])
     have hf5 := how5.fz i
     have hT10 := hset5 _ _ (by rw [List.length_set, HRL9.out]) (gr_put (World.grownBy.refl (w8.setCell ⟨gi, j, none⟩ (.int .i64 y)) (some gj)) i (.int .i64 y)) (how5.put i y)
     have HS10 := Lib.hid (HS9.out.put HRow9.out (row' := rw9.set i y) (by rw [List.length_set]))
     clear hset5 hbl5 hu5 how5 hu2 hu3 hT8 hT9
     generalize t9.set (k + j) (rw9.set i y) = t10 at hT10 HS10
     have p1 : (j : Int) < ((q - i : Nat) : Int) := by omega
     have p2 : (i : Int) < ((q - j : Nat) : Int) := by omega
     have hX10 := (hX8.off (g := gi) (k := j) (by omega) (.int .i64 y)).off (g := gj) (k := i) (by omega) (.int .i64 y)
     have hR10 := (hR8.off (g := gi) (k := j) (by omega) (.int .i64 y)).off (g := gj) (k := i) (by omega) (.int .i64 y)
     have hd10 := (hd8.put (g := gi) (by omega) j (.int .i64 y)).put (g := gj) (by omega) i (.int .i64 y)
     obtain ⟨⟨x0, x1⟩, xf⟩ := id hX10
     obtain ⟨⟨r0, r1⟩, rf⟩ := id hR10
     go_wp2_with fail
     refine bodyPost_ret (v := .agg #[.int .i64 m, .slice (some ⟨g, k, none⟩) q (c - k)]) (by simp [results, Tryz.results6, go_sem, r0, r1]) rfl ⟨m, _, t10.drop k, rfl, ?_, ?_⟩
     ·have h := fun (u : World) hu => tailR (w := u) (lo := lo) (hi := hi) (g := g) (c := c) hu HS10.out hk
      rw [HQ.out] at h
      exact h _ ((hT10.putS (.inl (by omega)) _ _).putS (.inl (by omega)) _ _).r
     ·exact below_put (below_put (hd10.out hb1 (by omega)) (by omega) _) (by omega) _
    ·have hx2 : (x == 0) = false := by simpa using hx
     obtain ⟨⟨x0, x1⟩, xf⟩ := id hX5
     obtain ⟨⟨r0, r1⟩, rf⟩ := id hR5
     go_wp2_with fail
     refine bodyPost_ret (v := .agg #[.int .i64 m, .slice (some ⟨g, k, none⟩) q (c - k)]) (by simp [results, Tryz.results6, go_sem, r0, r1]) rfl ⟨m, _, t.drop k, rfl, ?_, ?_⟩
     ·have h := fun (u : World) hu => tailR (w := u) (lo := lo) (hi := hi) (g := g) (c := c) hu HS.out hk
      rw [HQ.out] at h
      exact h _ ((hT5.putS (.inl (by omega)) _ _).putS (.inl (by omega)) _ _).r
     ·exact below_put (below_put (hd5.out hb1 (by omega)) (by omega) _) (by omega) _
   ·have i3 : ¬ (3 : Int) < (q : Int) := by omega
    obtain ⟨⟨x0, x1⟩, xf⟩ := id hX4
    obtain ⟨⟨r0, r1⟩, rf⟩ := id hR4
    go_wp2_with fail
    refine bodyPost_ret (v := .agg #[.int .i64 m, .slice (some ⟨g, k, none⟩) q (c - k)]) (by simp [results, Tryz.results6, go_sem, r0, r1]) rfl ⟨m, _, t.drop k, rfl, ?_, ?_⟩
    ·have h := fun (u : World) hu => tailR (w := u) (lo := lo) (hi := hi) (g := g) (c := c) hu HS.out hk
     rw [HQ.out] at h
     exact h _ ((hT4.putS (.inl (by omega)) _ _).putS (.inl (by omega)) _ _).r
    ·exact below_put (below_put (hd4.out hb1 (by omega)) (by omega) _) (by omega) _
end Go.Proofs.YtfpphfjlpgefaaaGreat
