/- Lemmas. -/
import Derived.Test.YtfpphfjlpgefaaaGreatQLM12
import Derived.Test.YtfpphfjlpgefaaaGreatQLG2
import Derived.Test.YtfpphfjlpgefaaaGreatQLM8
set_option maxHeartbeats 4000000
set_option maxRecDepth 100000
set_option linter.unusedSimpArgs false
set_option linter.unusedVariables false
namespace Go.Proofs.YtfpphfjlpgefaaaGreat
open Go.RowKit

theorem l04Inverse_c (m : Int) (n : Nat) (v : Value) (t : List (List Int)) (w : World) (hv : RdT w v t) (h1 : 2 ≤ n) (hn : n ≤ 1000) (hm : 2 ≤ m) (hm' : m ≤ 10000) (ht : PlaT m n t) :
  Calls Tryz.prog 101 #[.agg #[.int .i64 m, v]] w fun e w' => ∃ v', e = .returned v' ∧ OwI w' w.heap.size v' (invL m n t) ∧ Below w.heap.size w w' := by
 obtain ⟨o, c, rfl, hmt, -⟩ := id hv
 have hv' : RdT w (.slice o n c) t := by rw [ht.1] at hv; exact hv
 rw [ht.1] at hmt ⊢
 have HT := Lib.hid ht
 clear ht hv
 unfold maxLen at hmt
 have e0 : ((n : Int) - 1) + 1 = (n : Int) := by omega
 have e00 : IntKind.i64.wrap (n : Int) = (n : Int) := IntWalk.i64_in _ (by omega)
 go_enter Tryz.func101, Tryz.ntmps101
 go_wp2_with fail
 (have X0 := ((RB2.mk1 w  (.int .i64 m) (.slice o n c) 26).1).below (w' := (w.alloc (.cells #[.int .i64 m, .slice o n c] 26))) bZ (nl _); have B0 : Below w.heap.size w (w.alloc (.cells #[.int .i64 m, .slice o n c] 26)) := bZ; have hv'0 := hv'.below (w' := (w.alloc (.cells #[.int .i64 m, .slice o n c] 26))) bZ (nl _); generalize w.alloc (.cells #[.int .i64 m, .slice o n c] 26) = w0 at X0 B0 hv'0 ⊢)
 obtain ⟨x0, x1⟩ := id X0
 go_wp2_with fail
 clear x0 x1
 go_cut [4, 5] (fun so st u => ∃ (wz : World) (g gt : Nat), wz = u ∧ so = .slice (some ⟨g, 0, none⟩) n n ∧ st = .slice (some ⟨gt, 0, none⟩) n n ∧ g ≠ gt ∧ OwI u w0.heap.size (.slice (some ⟨g, 0, none⟩) n n) (List.replicate n 0) ∧ OwI u w0.heap.size (.slice (some ⟨gt, 0, none⟩) n n) (List.replicate n 0) ∧ Below w0.heap.size w0 u)
 case first =>
  have hd0 : Below w0.heap.size w0 w0.drew := (Below.refl _ _).drew
  refine wp_region_K (S := fun w' => True) [] (by kernel_rfl) ?_
  have hHeld : (fun w' : World => True) w0.drew := by trivial
  refine' wpAnyK_takeL (i := 0) (v := _) rfl (by kernel_rfl) (by kernel_rfl) (by kernel_rfl) (by kernel_rfl) (fun _ _ _ h => h) (Or.inl ⟨by rfl, ?yT1⟩) hHeld ?rT1
  case yT1 => (intro w' hSw; (try dsimp only at hSw); go_simp; try with_reducible rfl)
  try simp only [Act.put, sL]
  refine' wpAnyK_takeL (i := 1) (v := _) rfl (by kernel_rfl) (by kernel_rfl) (by kernel_rfl) (by kernel_rfl) (fun _ _ _ h => h) (Or.inl ⟨by rfl, ?yT2⟩) hHeld ?rT2
  case yT2 => (intro w' hSw; (try dsimp only at hSw); go_simp; try with_reducible rfl)
  try simp only [Act.put, sL]
  refine' wpAnyK_takeL (i := 3) (v := _) rfl (by kernel_rfl) (by kernel_rfl) (by kernel_rfl) (by kernel_rfl) (fun _ _ _ h => h) (Or.inl ⟨by rfl, ?yT3⟩) hHeld ?rT3
  case yT3 => (intro w' hSw; (try dsimp only at hSw); go_simp; try with_reducible rfl)
  try simp only [Act.put, sL]
  refine' wpAnyK_takeL (i := 4) (v := _) rfl (by kernel_rfl) (by kernel_rfl) (by kernel_rfl) (by kernel_rfl) (fun _ _ _ h => h) (Or.inl ⟨by rfl, ?yT4⟩) hHeld ?rT4
  case yT4 => (intro w' hSw; (try dsimp only at hSw); go_simp; try with_reducible rfl)
  try simp only [Act.put, sL]
  refine wpAnyK_two (i := 2) (j := 5) rfl rfl (by kernel_rfl) (fun K hK => ?_) (fun K hK => ?_)
  ·skip
   refine stMk rfl _ _ rfl _ _ _ n rfl rfl (by omega) (by omega) ?_
   intro wo hoo hbo hs0
   have hdo : Below w0.heap.size w0 wo := (by (repeat (first | exact bR _ _ | (refine bS ?_ _) | (refine bA ?_ _) | (refine bN ?_ _) | (refine bD ?_) | (refine bT ?_ hbo))))
   have hso := hdo.size
   have hro : (_ : Nat) < wo.heap.size := Nat.lt_of_lt_of_eq (Nat.lt_succ_self _) hs0.symm
   clear hs0
   refine hK.out _ _ (fun _ => hHeld) ?_
   clear hK K
   try simp only [Act.put, sL]
   refine' wpAnyK_takeL (i := 6) (v := _) rfl (by kernel_rfl) (by kernel_rfl) (by kernel_rfl) (by kernel_rfl) (fun _ _ _ h => h) (Or.inl ⟨by rfl, ?yT5⟩) hHeld ?rT5
   case yT5 => (intro w' hSw; (try dsimp only at hSw); go_simp; try with_reducible rfl)
   try simp only [Act.put, sL]
   refine wpAnyK_oneL (i := 5) rfl (by kernel_rfl) (fun K hK => ?_)
   refine stMk rfl _ _ rfl _ _ _ n rfl rfl (by omega) (by omega) ?_
   intro wt hot hbt hs0
   have hdt : Below w0.heap.size w0 wt := (by (repeat (first | exact bR _ _ | (refine bS ?_ _) | (refine bA ?_ _) | (refine bN ?_ _) | (refine bD ?_) | (refine bT ?_ hbo) | (refine bT ?_ hbt))))
   have hst := hdt.size
   have hrt : (_ : Nat) < wt.heap.size := Nat.lt_of_lt_of_eq (Nat.lt_succ_self _) hs0.symm
   clear hs0
   refine hK.out _ _ (fun _ => hHeld) ?_
   clear hK K
   try simp only [Act.put, sL]
   refine wpAnyK_oneL (i := 7) rfl (by kernel_rfl) (fun K hK => ?_)
   go_simp
   (try go_wp2_with fail)
   refine hK.out _ _ (fun _ => hHeld) ?_
   clear hK K
   try simp only [Act.put, sL]
   refine wpAnyK_done (by kernel_rfl) ?_ _
   go_wp2_with fail
   go_meet
   refine ⟨_, _, _, rfl, rfl, rfl, ?_, ?_, ?_, ?_⟩
   ·(have hdd : w0.drew.heap.size = w0.heap.size := rfl); omega
   ·exact (hoo.below (by (repeat (first | exact bR _ _ | (refine bS ?_ _) | (refine bA ?_ _) | (refine bN ?_ _) | (refine bD ?_) | (refine bT ?_ hbo) | (refine bT ?_ hbt))))).mono (by first | (simp; done) | (simp; omega) | omega)
   ·exact (hot.below (by (repeat (first | exact bR _ _ | (refine bS ?_ _) | (refine bA ?_ _) | (refine bN ?_ _) | (refine bD ?_) | (refine bT ?_ hbo) | (refine bT ?_ hbt))))).mono (by first | (simp; done) | (simp; omega) | omega)
   ·exact (by (repeat (first | exact bR _ _ | (refine bS ?_ _) | (refine bA ?_ _) | (refine bN ?_ _) | (refine bD ?_) | (refine bT ?_ hbo) | (refine bT ?_ hbt))))
  ·skip
   refine stMk rfl _ _ rfl _ _ _ n rfl rfl (by omega) (by omega) ?_
   intro wt hot hbt hs0
   have hdt : Below w0.heap.size w0 wt := (by (repeat (first | exact bR _ _ | (refine bS ?_ _) | (refine bA ?_ _) | (refine bN ?_ _) | (refine bD ?_) | (refine bT ?_ hbt))))
   have hst := hdt.size
   have hrt : (_ : Nat) < wt.heap.size := Nat.lt_of_lt_of_eq (Nat.lt_succ_self _) hs0.symm
   clear hs0
   refine hK.out _ _ (fun _ => hHeld) ?_
   clear hK K
   try simp only [Act.put, sL]
   refine wpAnyK_oneL (i := 2) rfl (by kernel_rfl) (fun K hK => ?_)
   refine stMk rfl _ _ rfl _ _ _ n rfl rfl (by omega) (by omega) ?_
   intro wo hoo hbo hs0
   have hdo : Below w0.heap.size w0 wo := (by (repeat (first | exact bR _ _ | (refine bS ?_ _) | (refine bA ?_ _) | (refine bN ?_ _) | (refine bD ?_) | (refine bT ?_ hbt) | (refine bT ?_ hbo))))
   have hso := hdo.size
   have hro : (_ : Nat) < wo.heap.size := Nat.lt_of_lt_of_eq (Nat.lt_succ_self _) hs0.symm
   clear hs0
   refine hK.out _ _ (fun _ => hHeld) ?_
   clear hK K
   try simp only [Act.put, sL]
   refine' wpAnyK_takeL (i := 6) (v := _) rfl (by kernel_rfl) (by kernel_rfl) (by kernel_rfl) (by kernel_rfl) (fun _ _ _ h => h) (Or.inl ⟨by rfl, ?yT6⟩) hHeld ?rT6
   case yT6 => (intro w' hSw; (try dsimp only at hSw); go_simp; try with_reducible rfl)
   try simp only [Act.put, sL]
   refine wpAnyK_oneL (i := 7) rfl (by kernel_rfl) (fun K hK => ?_)
   go_simp
   (try go_wp2_with fail)
   refine hK.out _ _ (fun _ => hHeld) ?_
   clear hK K
   try simp only [Act.put, sL]
   refine wpAnyK_done (by kernel_rfl) ?_ _
   go_wp2_with fail
   go_meet
   refine ⟨_, _, _, rfl, rfl, rfl, ?_, ?_, ?_, ?_⟩
   ·(have hdd : w0.drew.heap.size = w0.heap.size := rfl); omega
   ·exact (hoo.below (by (repeat (first | exact bR _ _ | (refine bS ?_ _) | (refine bA ?_ _) | (refine bN ?_ _) | (refine bD ?_) | (refine bT ?_ hbt) | (refine bT ?_ hbo))))).mono (by first | (simp; done) | (simp; omega) | omega)
   ·exact (hot.below (by (repeat (first | exact bR _ _ | (refine bS ?_ _) | (refine bA ?_ _) | (refine bN ?_ _) | (refine bD ?_) | (refine bT ?_ hbt) | (refine bT ?_ hbo))))).mono (by first | (simp; done) | (simp; omega) | omega)
   ·exact (by (repeat (first | exact bR _ _ | (refine bS ?_ _) | (refine bA ?_ _) | (refine bN ?_ _) | (refine bD ?_) | (refine bT ?_ hbt) | (refine bT ?_ hbo))))
 case rest =>
 obtain ⟨w1, g, gt, rfl, rfl, rfl, hne, hoo, hot, hb⟩ := hcut
 have B0s := B0.size
 have hgl := (hoo.lt g rfl).1
 have hgl' := (hoo.lt g rfl).2
 have htl := (hot.lt gt rfl).1
 have htl' := (hot.lt gt rfl).2
 have hc0 := hot.cell (k := 1) (rep_get n 1 0 (by omega))
 have hf0 := hot.fz 1
 have hoo2 := hoo.ne (b := gt) (k := 1) (fun j hj => by cases hj; exact hne) (.int .i64 1)
 have hot2 := hot.put 1 1
 have hb2 := below_put hb (g := gt) (k := 1) (by omega) (.int .i64 1)
 have i1 : 1 < n := by omega
 have i2 : (1 : Int) < (n : Int) := by omega
 have HO := Lib.hid hoo2
 have HT2 := Lib.hid hot2
 clear hoo hot hoo2 hot2
 go_wp2_with fail
 clear hc0 hf0
 have HO1 := HO.out
 have HT1 := HT2.out
 clear HO HT2 hb
 generalize w1.setCell ⟨gt, 1, none⟩ (.int .i64 1) = w2 at HO1 HT1 hb2 ⊢
 have hgl2 := (HO1.lt g rfl).2
 have htl2 := (HT1.lt gt rfl).2
 clear hgl' htl'
 have X2 := X0.below hb2 (nl _)
 have hv2 := hv'0.below hb2 (nl _)
 have lX := X0.lt
 go_loopw [6, 7] (fun i _ wr => ∃ k : Nat, k + 1 ≤ n ∧ i = .int .i64 ((k : Int) + 1) ∧ OwI wr w0.heap.size (.slice (some ⟨g, 0, none⟩) n n) (invTo m n t k) ∧ OwI wr w0.heap.size (.slice (some ⟨gt, 0, none⟩) n n) (varL n) ∧ Below w0.heap.size w0 wr) (fun i _ _ => n - (intOf i).toNat)
 case atStart => exact ⟨0, by omega, by go_num, HO1, HT1, hb2⟩
 case round =>
  clear HO1 HT1 hb2 X2 hv2 hgl2 htl2
  obtain ⟨k, hk, rfl, hO, hV, hbr⟩ := hrel
  have hbrs := hbr.size
  have Br := B0.trans (hbr.mono B0s)
  have Xr := X0.below hbr (nl _)
  have hvr := hv'0.below hbr (nl _)
  by_cases hlt : k + 1 < n
  ·have i0 : (0 : Int) ≤ (k : Int) + 1 := by omega
   have i1 : (k : Int) + 1 ≤ (n : Int) - 1 := by omega
   have i2 : (k : Int) + 1 < (n : Int) := by omega
   have i3 : ((k : Int) + 1).toNat = k + 1 := by omega
   obtain ⟨x0, x1⟩ := id Xr
   go_wp2_with fail
   clear x0 x1
   refine (l03Put_c m n _ _ _ t (varL n) (invTo m n t k) _ hvr hV.rd hO.rd (varL_len _) (invTo_len m n t k) (by omega) (by omega) (by omega) (by omega) HT.out (varL_range hm _) (invTo_range (by omega) n t k)).mono ?_
   rintro e w3 ⟨vp, rfl, hop, hb3⟩
   obtain ⟨pl, hpl⟩ : ∃ pl, pl = putL m n t (varL n) (invTo m n t k) := ⟨_, rfl⟩
   rw [← hpl] at hop
   have hplen : pl.length = n := by rw [hpl]; exact putTo_len _ _ _ _ _ _ _
   have hpx : 0 ≤ at0 pl (k + 1) ∧ at0 pl (k + 1) < m := at0_range (by omega) (by rw [hpl]; exact putTo_range (by omega)) _
   have HS := Lib.hid (show (invTo m n t k).set (k + 1) ((-(at0 pl (k + 1))) % m) = invTo m n t (k + 1) by rw [hpl]; rfl)
   clear hpl
   obtain ⟨op, cp, rfl⟩ := hop.shapeN (n := n) hplen
   obtain ⟨gp, rfl, hgp, hgp'⟩ := hop.row (by omega)
   have hcv := hop.cell (k := k + 1) (some_at0 (show k + 1 < pl.length by omega))
   have X3 := Xr.below hb3 (nl _)
   have hO3 := hO.below hb3
   have hV3 := hV.below hb3
   have hbr3 := hbr.trans (hb3.mono hbrs)
   have hll := invTo_len m n t k
   have hc9 := hO3.cell (k := k + 1) (some_at0 (show k + 1 < (invTo m n t k).length by omega))
   have hf9 := hO3.fz (k + 1)
   have HO3 := Lib.hid hO3
   have HV3 := Lib.hid hV3
   clear hll hop hO hV hO3 hV3 Xr
   obtain ⟨x0, x1⟩ := id X3
   have m0 : (m == 0) = false := by simp; omega
   have m1 : ¬ m = 0 := by omega
   have e1 : IntKind.i64.wrap (m - at0 pl (k + 1)) = m - at0 pl (k + 1) := IntWalk.i64_in _ (by omega)
   have e2 : (m - at0 pl (k + 1)).tmod m = (m - at0 pl (k + 1)) % m := Int.tmod_eq_emod_of_nonneg (by omega)
   have e3 : (m - at0 pl (k + 1)) % m = (-(at0 pl (k + 1))) % m := neg_mod' hpx.1 hpx.2
   have hMod := mod_lt' (a := -(at0 pl (k + 1))) (show 0 < m by omega)
   go_wp2_with fail
   go_still_tail 13, (by kernel_rfl)
   change wpList _ _ _ _ _ w3.drew
   have hOz := HO3.out.put (k + 1) ((-(at0 pl (k + 1))) % m)
   rw [HS.out] at hOz
   have hVz := HV3.out.ne (b := g) (k := k + 1) (fun j hj => by cases hj; exact fun h => hne h.symm) (.int .i64 ((-(at0 pl (k + 1))) % m))
   have hbn := below_put hbr3 (g := g) (k := k + 1) (by omega) (.int .i64 ((-(at0 pl (k + 1))) % m))
   go_wp2
   exact ⟨⟨k + 1, by omega, by go_num, hOz, hVz, hbn.drew⟩, by simp [intOf]; omega⟩
  ·obtain rfl : n = k + 1 := by omega
   have i1 : ¬ (k : Int) + 1 ≤ ((k + 1 : Nat) : Int) - 1 := by omega
   go_wp2
   go_ret
   exact ⟨_, rfl, hO.mono B0s, Br⟩

theorem opposite_c (m m' : Int) (n : Nat) (v u : Value) (t : List (List Int)) (xs : List Int) (w : World) (hv : RdT w v t) (hu : RdI w u xs) (hl : xs.length = n) (h1 : 2 ≤ n) (hn : n ≤ 1000) (hm : 2 ≤ m) (hm' : m ≤ 10000) (ht : PlaT m n t) (hx : ∀ x ∈ xs, 0 ≤ x ∧ x < m) :
  Calls Tryz.prog 49 #[.agg #[.int .i64 m, v], .agg #[.int .i64 m', u]] w fun e w' => SVEnd w w' m (horn m n xs (invL m n t)) e := by
 subst hl
 obtain ⟨o, c, rfl, -, -⟩ := id hv
 obtain ⟨o', c', rfl, -, -⟩ := id hu
 have hv' : RdT w (.slice o xs.length c) t := by rw [ht.1] at hv; exact hv
 rw [ht.1]
 have HT := Lib.hid ht
 have hIl := invL_len m xs.length t
 have hIr : ∀ x ∈ invL m xs.length t, 0 ≤ x ∧ x < m := invTo_range (m := m) (show 0 < m by omega) xs.length t (xs.length - 1)
 generalize hil : invL m xs.length t = il at hIl hIr ⊢
 have HIL := Lib.hid hil
 have HIl := Lib.hid hIl
 have HIr := Lib.hid hIr
 clear ht hv hil hIl hIr
 go_enter Tryz.func49, Tryz.ntmps49
 go_wp2_with fail
 (have X0 := ((RB2.mk1 w  (.int .i64 m) (.slice o xs.length c) 26).1).below (w' := (((w.alloc (.cells #[.int .i64 m, .slice o xs.length c] 26)).alloc (.cells #[.int .i64 m', .slice o' xs.length c'] 34)).alloc (.cells #[.int .i64 0, .slice none 0 0] 34))) bZ (nl _); have Y0 := ((RB2.mk2 w (.cells #[.int .i64 m, .slice o xs.length c] 26) (.int .i64 m') (.slice o' xs.length c') 34).1).below (w' := (((w.alloc (.cells #[.int .i64 m, .slice o xs.length c] 26)).alloc (.cells #[.int .i64 m', .slice o' xs.length c'] 34)).alloc (.cells #[.int .i64 0, .slice none 0 0] 34))) bZ (nl _); have R0 := ((RB2.mk3 w (.cells #[.int .i64 m, .slice o xs.length c] 26) (.cells #[.int .i64 m', .slice o' xs.length c'] 34) (.int .i64 0) (.slice none 0 0) 34)).below (w' := (((w.alloc (.cells #[.int .i64 m, .slice o xs.length c] 26)).alloc (.cells #[.int .i64 m', .slice o' xs.length c'] 34)).alloc (.cells #[.int .i64 0, .slice none 0 0] 34))) bZ (nl _); have B0 : Below w.heap.size w (((w.alloc (.cells #[.int .i64 m, .slice o xs.length c] 26)).alloc (.cells #[.int .i64 m', .slice o' xs.length c'] 34)).alloc (.cells #[.int .i64 0, .slice none 0 0] 34)) := bZ; have hv'0 := hv'.below (w' := (((w.alloc (.cells #[.int .i64 m, .slice o xs.length c] 26)).alloc (.cells #[.int .i64 m', .slice o' xs.length c'] 34)).alloc (.cells #[.int .i64 0, .slice none 0 0] 34))) bZ (nl _); have hu0 := hu.below (w' := (((w.alloc (.cells #[.int .i64 m, .slice o xs.length c] 26)).alloc (.cells #[.int .i64 m', .slice o' xs.length c'] 34)).alloc (.cells #[.int .i64 0, .slice none 0 0] 34))) bZ (nl _); generalize ((w.alloc (.cells #[.int .i64 m, .slice o xs.length c] 26)).alloc (.cells #[.int .i64 m', .slice o' xs.length c'] 34)).alloc (.cells #[.int .i64 0, .slice none 0 0] 34) = w0 at X0 Y0 R0 B0 hv'0 hu0 ⊢)
 have hd0 : Below w0.heap.size w0 w0.drew := (Below.refl _ _).drew
 have hsd0 := hd0.size
 have hrl := R0.1.lt
 have hneR_X0 : w.heap.size + 2 ≠ w.heap.size := by omega
 have hneR_Y0 : w.heap.size + 2 ≠ w.heap.size + 1 := by omega
 obtain ⟨⟨q0_R_0, q0_R_1⟩, qf0_R⟩ := R0.below (Below.refl w0.heap.size w0) (nl _)
 obtain ⟨q0_X0_0, q0_X0_1⟩ := X0.below (Below.refl w0.heap.size w0) (nl _)
 obtain ⟨q0_Y0_0, q0_Y0_1⟩ := Y0.below (Below.refl w0.heap.size w0) (nl _)
 go_region_held3 (fun w' => w'.cell? ⟨w.heap.size, 0, none⟩ = some (.int .i64 m) ∧ w'.cell? ⟨w.heap.size, 1, none⟩ = some (.slice o xs.length c) ∧ w'.cell? ⟨w.heap.size + 1, 0, none⟩ = some (.int .i64 m') ∧ w'.cell? ⟨w.heap.size + 1, 1, none⟩ = some (.slice o' xs.length c')) (go_keep)
  (first
   | (go_at_call 98; refine (inverseP_c m xs.length _ t _ ((hv'0).below bZ (nl _)) h1 hn hm (by omega) HT.out).mono ?_; rintro e wd1 ⟨vi, rfl, hod1, hbd1⟩; rw [HIL.out] at hod1; obtain ⟨oi, ci, rfl⟩ := hod1.shapeN (n := xs.length) HIl.out; have hd1 : Below w0.heap.size w0 wd1 := (by (repeat (first | exact bR _ _ | (refine bS ?_ _) | (refine bA ?_ _) | (refine bN ?_ _) | (refine bD ?_) | (refine bT ?_ hbd1)))); have hsd1 := hd1.size; have hsz1_ := hbd1.size; (try simp at hsz1_); obtain ⟨⟨q1_R_0, q1_R_1⟩, qf1_R⟩ := R0.below hd1 (nl _); obtain ⟨q1_X0_0, q1_X0_1⟩ := X0.below hd1 (nl _); obtain ⟨q1_Y0_0, q1_Y0_1⟩ := Y0.below hd1 (nl _))
   | (go_at_call 99; refine (compose_c m m' _ _ il xs _ (((hod1.below bZ)).rd) ((hu0).below (by (repeat (first | exact bR _ _ | (refine bS ?_ _) | (refine bA ?_ _) | (refine bN ?_ _) | (refine bD ?_) | (refine bT ?_ hbd1)))) (nl _)) (by rw [HIl.out]) (by rw [HIl.out]; omega) (by rw [HIl.out]; omega) hm (by omega) HIr.out hx).mono ?_; rintro e wd2 ⟨vk, rfl, hod2, hbd2⟩; rw [HIl.out] at hod2; obtain ⟨ok, ck, rfl⟩ := hod2.shapeN (n := xs.length) (horn_len _ _ _ _); have hd2 : Below w0.heap.size w0 wd2 := (by (repeat (first | exact bR _ _ | (refine bS ?_ _) | (refine bA ?_ _) | (refine bN ?_ _) | (refine bD ?_) | (refine bT ?_ hbd1) | (refine bT ?_ hbd2)))); have hsd2 := hd2.size; have hsz2_ := hbd2.size; (try simp at hsz2_); obtain ⟨⟨q2_R_0, q2_R_1⟩, qf2_R⟩ := R0.below hd2 (nl _); obtain ⟨q2_X0_0, q2_X0_1⟩ := X0.below hd2 (nl _); obtain ⟨q2_Y0_0, q2_Y0_1⟩ := Y0.below hd2 (nl _)))
 go_wp2
 refine bodyPost_ret (v := .agg #[.int .i64 m, .slice ok xs.length ck]) (by simp [results, Tryz.results49, go_sem, q2_R_0, q2_R_1]) rfl ⟨_, rfl, ?_, ?_⟩
 ·have hbsz := B0.size
  exact ((hod2.low (by first | (simp; done) | (simp; omega) | omega) _).low (by first | (simp; done) | (simp; omega) | omega) _).mono (by first | (simp; done) | (simp; omega) | omega)
 ·have hbsz := B0.size
  (repeat (first | exact bR _ _ | (refine bS ?_ _) | (refine bA ?_ _) | (refine bN ?_ _) | (refine bD ?_) | (refine bT ?_ hbd1) | (refine bT ?_ hbd2) | (refine bT ?_ B0)))

theorem l04Opposite_c (m : Int) (n : Nat) (v u : Value) (t : List (List Int)) (xs : List Int) (w : World) (hv : RdT w v t) (hu : RdI w u xs) (hl : xs.length = n) (h1 : 2 ≤ n) (hn : n ≤ 1000) (hm : 2 ≤ m) (hm' : m ≤ 10000) (ht : PlaT m n t) (hx : ∀ x ∈ xs, 0 ≤ x ∧ x < m) :
  Calls Tryz.prog 50 #[.agg #[.int .i64 m, v], u] w fun e w' => ∃ v', e = .returned v' ∧ OwI w' w.heap.size v' (horn m n xs (invL m n t)) ∧ Below w.heap.size w w' := by
 subst hl
 obtain ⟨o, c, rfl, -, -⟩ := id hv
 obtain ⟨o', c', rfl, hmx, -⟩ := id hu
 have hv' : RdT w (.slice o xs.length c) t := by rw [ht.1] at hv; exact hv
 rw [ht.1]
 unfold maxLen at hmx
 have HT := Lib.hid ht
 have hIl := invL_len m xs.length t
 have hIr : ∀ x ∈ invL m xs.length t, 0 ≤ x ∧ x < m := invTo_range (m := m) (show 0 < m by omega) xs.length t (xs.length - 1)
 generalize hil : invL m xs.length t = il at hIl hIr ⊢
 have HIL := Lib.hid hil
 have HIl := Lib.hid hIl
 have HIr := Lib.hid hIr
 clear ht hv hil hIl hIr
 have e00 : IntKind.i64.wrap (xs.length : Int) = (xs.length : Int) := IntWalk.i64_in _ (by omega)
 have e01 : IntKind.i64.wrap ((xs.length : Int) - 1) = (xs.length : Int) - 1 := IntWalk.i64_in _ (by omega)
 go_enter Tryz.func50, Tryz.ntmps50
 go_wp2_with fail
 (have X0 := ((RB2.mk1 w  (.int .i64 m) (.slice o xs.length c) 26).1).below (w' := (w.alloc (.cells #[.int .i64 m, .slice o xs.length c] 26))) bZ (nl _); have B0 : Below w.heap.size w (w.alloc (.cells #[.int .i64 m, .slice o xs.length c] 26)) := bZ; have hv'0 := hv'.below (w' := (w.alloc (.cells #[.int .i64 m, .slice o xs.length c] 26))) bZ (nl _); have hu0 := hu.below (w' := (w.alloc (.cells #[.int .i64 m, .slice o xs.length c] 26))) bZ (nl _); generalize w.alloc (.cells #[.int .i64 m, .slice o xs.length c] 26) = w0 at X0 B0 hv'0 hu0 ⊢)
 have B0s := B0.size
 go_wp2_with fail
 have hd0 : Below w0.heap.size w0 w0.drew := (Below.refl _ _).drew
 have hsd0 := hd0.size
 obtain ⟨f0_a, f0_b⟩ := ((X0).below (Below.refl w0.heap.size w0) (nl _))
 refine wp_region_K (S := fun w' => w'.cell? ⟨w.heap.size, 0, none⟩ = some (.int .i64 m) ∧ w'.cell? ⟨w.heap.size, 1, none⟩ = some (.slice o xs.length c)) [] (by kernel_rfl) ?_
 have hHeld : (fun w' : World => w'.cell? ⟨w.heap.size, 0, none⟩ = some (.int .i64 m) ∧ w'.cell? ⟨w.heap.size, 1, none⟩ = some (.slice o xs.length c)) w0.drew := by go_keep
 refine' wpAnyK_takeL (i := 0) (v := _) rfl (by kernel_rfl) (by kernel_rfl) (by kernel_rfl) (by kernel_rfl) (fun _ _ _ h => h) (Or.inl ⟨by rfl, ?yT7⟩) hHeld ?rT7
 case yT7 => (intro w' hSw; (try dsimp only at hSw); go_simp; try with_reducible rfl)
 try simp only [Act.put, sL]
 refine' wpAnyK_takeL (i := 1) (v := _) rfl (by kernel_rfl) (by kernel_rfl) (by kernel_rfl) (by kernel_rfl) (fun _ _ _ h => h) (Or.inl ⟨by rfl, ?yT8⟩) hHeld ?rT8
 case yT8 => (intro w' hSw; (try dsimp only at hSw); go_simp; try with_reducible rfl)
 try simp only [Act.put, sL]
 refine' wpAnyK_takeL (i := 2) (v := _) rfl (by kernel_rfl) (by kernel_rfl) (by kernel_rfl) (by kernel_rfl) (fun _ _ _ h => h) (Or.inl ⟨by rfl, ?yT9⟩) hHeld ?rT9
 case yT9 => (intro w' hSw; (try dsimp only at hSw); go_simp; try with_reducible rfl)
 try simp only [Act.put, sL]
 refine' wpAnyK_takeL (i := 4) (v := _) rfl (by kernel_rfl) (by kernel_rfl) (by kernel_rfl) (by kernel_rfl) (fun _ _ _ h => h) (Or.inl ⟨by rfl, ?yT10⟩) hHeld ?rT10
 case yT10 => (intro w' hSw; (try dsimp only at hSw); go_simp; try with_reducible rfl)
 try simp only [Act.put, sL]
 refine' wpAnyK_takeL (i := 5) (v := _) rfl (by kernel_rfl) (by kernel_rfl) (by kernel_rfl) (by kernel_rfl) (fun _ _ _ h => h) (Or.inl ⟨by rfl, ?yT11⟩) hHeld ?rT11
 case yT11 => (intro w' hSw; (try dsimp only at hSw); go_simp; try with_reducible rfl)
 try simp only [Act.put, sL]
 refine' wpAnyK_takeL (i := 6) (v := _) rfl (by kernel_rfl) (by kernel_rfl) (by kernel_rfl) (by kernel_rfl) (fun _ _ _ h => h) (Or.inl ⟨by rfl, ?yT12⟩) hHeld ?rT12
 case yT12 => (intro w' hSw; (try dsimp only at hSw); go_simp; try with_reducible rfl)
 try simp only [Act.put, sL]
 refine' wpAnyK_takeL (i := 7) (v := _) rfl (by kernel_rfl) (by kernel_rfl) (by kernel_rfl) (by kernel_rfl) (fun _ _ _ h => h) (Or.inl ⟨by rfl, ?yT13⟩) hHeld ?rT13
 case yT13 => (intro w' hSw; (try dsimp only at hSw); go_simp; try with_reducible rfl)
 try simp only [Act.put, sL]
 refine wpAnyK_oneL (i := 3) rfl (by kernel_rfl) (fun K hK => ?_)
 go_simp
 go_at_call 101
 refine (l04Inverse_c m xs.length _ t _ ((hv'0).below bZ (nl _)) h1 hn hm (by omega) HT.out).mono ?_
 rintro e wd1 ⟨vi, rfl, hod1, hbd1⟩
 rw [HIL.out] at hod1; obtain ⟨oi, ci, rfl⟩ := hod1.shapeN (n := xs.length) HIl.out
 have hd1 : Below w0.heap.size w0 wd1 := (by (repeat (first | exact bR _ _ | (refine bS ?_ _) | (refine bA ?_ _) | (refine bN ?_ _) | (refine bD ?_) | (refine bT ?_ hbd1))))
 have hsd1 := hd1.size
 have hsz1_ := hbd1.size
 (try simp at hsz1_)
 obtain ⟨f1_a, f1_b⟩ := ((X0).below hd1 (nl _))
 go_wp2_with fail
 clear hHeld
 have hHeld : (fun w' : World => w'.cell? ⟨w.heap.size, 0, none⟩ = some (.int .i64 m) ∧ w'.cell? ⟨w.heap.size, 1, none⟩ = some (.slice o xs.length c)) wd1 := by go_keep
 refine hK.out _ _ (fun _ => hHeld) ?_
 clear hK K
 try simp only [Act.put, sL]
 refine wpAnyK_oneL (i := 8) rfl (by kernel_rfl) (fun K hK => ?_)
 go_simp
 go_at_call 100
 refine (l02Compose_c m _ xs.length _ _ il xs _ rfl (((hod1.below bZ)).rd) ((hu0).below (by (repeat (first | exact bR _ _ | (refine bS ?_ _) | (refine bA ?_ _) | (refine bN ?_ _) | (refine bD ?_) | (refine bT ?_ hbd1)))) (nl _)) (by omega) (by rw [HIl.out]; omega) (by omega) hm (by omega) HIr.out hx).mono ?_
 rintro e wd2 ⟨vk, rfl, hod2, hbd2⟩
 rw [List.take_of_length_le (by rw [HIl.out]; omega)] at hod2
 have hd2 : Below w0.heap.size w0 wd2 := (by (repeat (first | exact bR _ _ | (refine bS ?_ _) | (refine bA ?_ _) | (refine bN ?_ _) | (refine bD ?_) | (refine bT ?_ hbd1) | (refine bT ?_ hbd2))))
 have hsd2 := hd2.size
 have hsz2_ := hbd2.size
 (try simp at hsz2_)
 obtain ⟨f2_a, f2_b⟩ := ((X0).below hd2 (nl _))
 go_wp2_with fail
 clear hHeld
 have hHeld : (fun w' : World => w'.cell? ⟨w.heap.size, 0, none⟩ = some (.int .i64 m) ∧ w'.cell? ⟨w.heap.size, 1, none⟩ = some (.slice o xs.length c)) wd2 := by go_keep
 refine hK.out _ _ (fun _ => hHeld) ?_
 clear hK K
 try simp only [Act.put, sL]
 refine wpAnyK_oneL (i := 9) rfl (by kernel_rfl) (fun K hK => ?_)
 go_simp
 (try go_wp2_with fail)
 refine hK.out _ _ (fun _ => hHeld) ?_
 clear hK K
 try simp only [Act.put, sL]
 refine wpAnyK_done (by kernel_rfl) ?_ _
 go_wp2_with fail
 go_wp2
 go_ret
 exact ⟨_, rfl, hod2.mono (by omega), B0.trans (hd2.mono B0s)⟩

theorem IndexFuncS_c (K : Nat) (c : Value) (q : Int × List Int → Bool) (v : Value) (l : List (Int × List Int)) (w : World) (hv : RdM w v l) (hK : Callable K)
  (hF : ∀ p ∈ l, ∀ u w1, Below w.heap.size w w1 → RdI w1 u p.2 → Calls Tryz.prog K #[.agg #[.int .i64 p.1, u], c] w1 fun e w' => e = .returned (.bool (q p)) ∧ Below w1.heap.size w1 w') :
  Calls Tryz.prog 194 #[v, .func (.func K) #[] #[c]] w fun e w' => e = .returned (.int .i64 (findI q l)) ∧ Below w.heap.size w w' := by
 obtain ⟨o, cp, rfl, hm, -⟩ := id hv
 unfold maxLen at hm
 unfold Callable at hK
 have HF := Lib.hid hF
 clear hF
 go_enter Tryz.func194, Tryz.ntmps194
 go_wp2
 go_loopw [5, 8] (fun _ i wr => ∃ k : Nat, k ≤ l.length ∧ i = .int .i64 k ∧ Hid (∀ j (hj : j < l.length), j < k → q l[j] = false) ∧ Below w.heap.size w wr) (fun _ i _ => l.length - (intOf i).toNat)
 case atStart => exact ⟨0, Nat.zero_le _, rfl, Lib.hid (fun j hj h => by omega), bZ⟩
 case round =>
  obtain ⟨k, hk, rfl, HQ, hbr⟩ := hrel
  by_cases hlt : k < l.length
  ·have hvr := hv.below hbr (nl _)
   obtain ⟨b, off, rfl⟩ := hvr.base (by omega)
   obtain ⟨o2, c2, y0, y1, hr⟩ := hvr.at hlt
   have i0 : (0 : Int) ≤ (k : Int) := by omega
   have i1 : (k : Int) < (l.length : Int) := by omega
   cases hq : q l[k]
   ·go_wp2_with fail
    refine (HF.out l[k] (List.getElem_mem _) _ _ (by (repeat (first | exact bR _ _ | (refine bS ?_ _) | (refine bA ?_ _) | (refine bN ?_ _) | (refine bD ?_) | (refine bT ?_ hbr)))) hr).mono ?_
    rw [hq]
    rintro e w2 ⟨rfl, hb2⟩
    clear y0 y1
    go_wp2
    exact ⟨⟨k + 1, by omega, by go_num, Lib.hid (fun j hj h => by
     rcases Nat.lt_or_ge j k with h1 | h1
     ·exact HQ.out j hj h1
     ·obtain rfl : j = k := by omega
      exact hq), hbr.trans (hb2.mono hbr.size)⟩, by simp [intOf]; omega⟩
   ·go_wp2_with fail
    refine (HF.out l[k] (List.getElem_mem _) _ _ (by (repeat (first | exact bR _ _ | (refine bS ?_ _) | (refine bA ?_ _) | (refine bN ?_ _) | (refine bD ?_) | (refine bT ?_ hbr)))) hr).mono ?_
    rw [hq]
    rintro e w2 ⟨rfl, hb2⟩
    clear y0 y1
    go_wp2
    go_ret
    exact ⟨by rw [findI_at q l k hlt HQ.out hq]; rfl, hbr.trans (hb2.mono hbr.size)⟩
  ·go_wp2
   go_ret
   exact ⟨by rw [findI_none q l (fun j hj => HQ.out j hj (by omega))]; rfl, hbr⟩

theorem ContainsFuncS_c (K : Nat) (c : Value) (q : Int × List Int → Bool) (v : Value) (l : List (Int × List Int)) (w : World) (hv : RdM w v l) (hK : Callable K)
  (hF : ∀ p ∈ l, ∀ u w1, Below w.heap.size w w1 → RdI w1 u p.2 → Calls Tryz.prog K #[.agg #[.int .i64 p.1, u], c] w1 fun e w' => e = .returned (.bool (q p)) ∧ Below w1.heap.size w1 w') :
  Calls Tryz.prog 159 #[v, .func (.func K) #[] #[c]] w fun e w' => e = .returned (.bool (l.any q)) ∧ Below w.heap.size w w' := by
 have HF := Lib.hid hF
 clear hF
 go_enter Tryz.func159, Tryz.ntmps159
 go_wp2_with fail
 refine (IndexFuncS_c K c q _ l _ hv hK HF.out).mono ?_
 rintro e w1 ⟨rfl, hb⟩
 go_wp2
 go_ret
 exact ⟨by rw [← findI_any]; rfl, hb⟩

theorem allS1A_c (G : Nat) (nn : Nat) (z : Int) (xs : List Int) (u : Value) (b : Bool) (ab : Nat) (w : World) (hG : Callable G) (hu : RdI w u xs) (ha : w.cell? ⟨ab, 0, none⟩ = some (.func (.func G) #[] #[]))
  (hF : ∀ w1, Below w.heap.size w w1 → Calls Tryz.prog G #[.agg #[.int .i64 z, u]] w1 fun e w' => e = .returned (.bool b) ∧ Below w1.heap.size w1 w') :
  Calls Tryz.prog 160 #[.agg #[.int .i64 z, u], .pointer (some ⟨ab, 0, none⟩)] w fun e w' => e = .returned (.bool (!b)) ∧ Below w.heap.size w w' := by
 obtain ⟨o, c, rfl, -, -⟩ := id hu
 have HF := Lib.hid hF
 clear hF
 unfold Callable at hG
 have lab := cell_lt ha
 go_enter Tryz.func160, Tryz.ntmps160
 go_wp2_with fail
 (have X0 := ((RB2.mk1 w  (.int .i64 z) (.slice o xs.length c) 34).1).below (w' := (w.alloc (.cells #[.int .i64 z, .slice o xs.length c] 34))) bZ (nl _); have B0 : Below w.heap.size w (w.alloc (.cells #[.int .i64 z, .slice o xs.length c] 34)) := bZ; have hu0 := hu.below (w' := (w.alloc (.cells #[.int .i64 z, .slice o xs.length c] 34))) bZ (nl _); generalize w.alloc (.cells #[.int .i64 z, .slice o xs.length c] 34) = w0 at X0 B0 hu0 ⊢)
 have h0 := keep_cell B0 (nl _) ha
 obtain ⟨x0, x1⟩ := id X0
 go_wp2_with fail
 refine (HF.out _ B0).mono ?_
 rintro e w1 ⟨rfl, hb⟩
 clear x0 x1 h0
 have B1 := B0.trans (hb.mono B0.size)
 go_wp2
 go_ret
 exact ⟨rfl, B1⟩
theorem allS1A_callable : Callable 160 := fun args w => Tryz.call160 args w

theorem allSA_c (G : Nat) (nn : Nat) (q : Int × List Int → Bool) (v : Value) (l : List (Int × List Int)) (w : World) (hv : RdM w v l) (hG : Callable G)
  (hF : ∀ z xs u w1, (z, xs) ∈ l → Below w.heap.size w w1 → RdI w1 u xs → Calls Tryz.prog G #[.agg #[.int .i64 z, u]] w1 fun e w' => e = .returned (.bool (q (z, xs))) ∧ Below w1.heap.size w1 w') :
  Calls Tryz.prog 85 #[v, .func (.func G) #[] #[]] w fun e w' => e = .returned (.bool (l.all q)) ∧ Below w.heap.size w w' := by
 have HF := Lib.hid hF
 clear hF
 go_enter Tryz.func85, Tryz.ntmps85
 go_wp2_with fail
 have hb0 : Below w.heap.size w (w.alloc (.cells #[.func (.func G) #[] #[]] 82)) := bZ
 have hc0 : (w.alloc (.cells #[.func (.func G) #[] #[]] 82)).cell? ⟨w.heap.size, 0, none⟩ = some (.func (.func G) #[] #[]) := by simp
 have hv0 := hv.below hb0 (nl _)
 generalize w.alloc (.cells #[.func (.func G) #[] #[]] 82) = w0 at hb0 hc0 hv0 ⊢
 refine (ContainsFuncS_c 160 _ (fun x => !(q x)) _ l _ hv0 allS1A_callable (fun p hp u w1 hb hu => ?_)).mono ?_
 ·have hq := allS1A_c G nn p.1 p.2 u (q p) w.heap.size w1 hG hu (keep_cell hb (nl _) hc0) (fun w2 hb2 => HF.out p.1 p.2 u w2 hp (hb0.trans ((hb.trans (hb2.mono hb.size)).mono hb0.size)) (hu.below hb2 (nl _)))
  exact hq
 rintro e w' ⟨rfl, hb⟩
 have hbz := hb0.trans (hb.mono hb0.size)
 go_wp2
 go_ret
 exact ⟨by simp [List.all_eq_not_any_not], hbz⟩
theorem allS1B_c (G : Nat) (pv : Value) (z : Int) (xs : List Int) (u : Value) (b : Bool) (ab : Nat) (w : World) (hG : Callable G) (hu : RdI w u xs) (ha : w.cell? ⟨ab, 0, none⟩ = some (.func (.func G) #[pv] #[]))
  (hF : ∀ w1, Below w.heap.size w w1 → Calls Tryz.prog G #[pv, .agg #[.int .i64 z, u]] w1 fun e w' => e = .returned (.bool b) ∧ Below w1.heap.size w1 w') :
  Calls Tryz.prog 160 #[.agg #[.int .i64 z, u], .pointer (some ⟨ab, 0, none⟩)] w fun e w' => e = .returned (.bool (!b)) ∧ Below w.heap.size w w' := by
 obtain ⟨o, c, rfl, -, -⟩ := id hu
 have HF := Lib.hid hF
 clear hF
 unfold Callable at hG
 have lab := cell_lt ha
 go_enter Tryz.func160, Tryz.ntmps160
 go_wp2_with fail
 (have X0 := ((RB2.mk1 w  (.int .i64 z) (.slice o xs.length c) 34).1).below (w' := (w.alloc (.cells #[.int .i64 z, .slice o xs.length c] 34))) bZ (nl _); have B0 : Below w.heap.size w (w.alloc (.cells #[.int .i64 z, .slice o xs.length c] 34)) := bZ; have hu0 := hu.below (w' := (w.alloc (.cells #[.int .i64 z, .slice o xs.length c] 34))) bZ (nl _); generalize w.alloc (.cells #[.int .i64 z, .slice o xs.length c] 34) = w0 at X0 B0 hu0 ⊢)
 have h0 := keep_cell B0 (nl _) ha
 obtain ⟨x0, x1⟩ := id X0
 go_wp2_with fail
 refine (HF.out _ B0).mono ?_
 rintro e w1 ⟨rfl, hb⟩
 clear x0 x1 h0
 have B1 := B0.trans (hb.mono B0.size)
 go_wp2
 go_ret
 exact ⟨rfl, B1⟩
theorem allS1B_callable : Callable 160 := fun args w => Tryz.call160 args w

theorem allSB_c (G : Nat) (pv : Value) (q : Int × List Int → Bool) (v : Value) (l : List (Int × List Int)) (w : World) (hv : RdM w v l) (hG : Callable G)
  (hF : ∀ z xs u w1, (z, xs) ∈ l → Below w.heap.size w w1 → RdI w1 u xs → Calls Tryz.prog G #[pv, .agg #[.int .i64 z, u]] w1 fun e w' => e = .returned (.bool (q (z, xs))) ∧ Below w1.heap.size w1 w') :
  Calls Tryz.prog 85 #[v, .func (.func G) #[pv] #[]] w fun e w' => e = .returned (.bool (l.all q)) ∧ Below w.heap.size w w' := by
 have HF := Lib.hid hF
 clear hF
 go_enter Tryz.func85, Tryz.ntmps85
 go_wp2_with fail
 have hb0 : Below w.heap.size w (w.alloc (.cells #[.func (.func G) #[pv] #[]] 82)) := bZ
 have hc0 : (w.alloc (.cells #[.func (.func G) #[pv] #[]] 82)).cell? ⟨w.heap.size, 0, none⟩ = some (.func (.func G) #[pv] #[]) := by simp
 have hv0 := hv.below hb0 (nl _)
 generalize w.alloc (.cells #[.func (.func G) #[pv] #[]] 82) = w0 at hb0 hc0 hv0 ⊢
 refine (ContainsFuncS_c 160 _ (fun x => !(q x)) _ l _ hv0 allS1B_callable (fun p hp u w1 hb hu => ?_)).mono ?_
 ·have hq := allS1B_c G pv p.1 p.2 u (q p) w.heap.size w1 hG hu (keep_cell hb (nl _) hc0) (fun w2 hb2 => HF.out p.1 p.2 u w2 hp (hb0.trans ((hb.trans (hb2.mono hb.size)).mono hb0.size)) (hu.below hb2 (nl _)))
  exact hq
 rintro e w' ⟨rfl, hb⟩
 have hbz := hb0.trans (hb.mono hb0.size)
 go_wp2
 go_ret
 exact ⟨by simp [List.all_eq_not_any_not], hbz⟩
end Go.Proofs.YtfpphfjlpgefaaaGreat
