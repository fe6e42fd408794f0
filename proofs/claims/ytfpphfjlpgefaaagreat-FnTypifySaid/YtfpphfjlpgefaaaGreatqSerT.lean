/- Lemmas. -/
import Derived.Test.YtfpphfjlpgefaaaGreatqG3
import Derived.Test.YtfpphfjlpgefaaaGreatqG6
set_option maxHeartbeats 2000000
set_option maxRecDepth 100000
set_option linter.unusedSimpArgs false
set_option linter.unusedVariables false
namespace Go.Proofs.YtfpphfjlpgefaaaGreat
open Go.RowKit

theorem qLY (m m' : Int) (v u : Value) (xs ys : Li) (w : World) (hv : RdI w v xs) (hu : RdI w u ys) (hl : ys.length = xs.length) (h1 : 1 ≤ xs.length) (hn : xs.length ≤ 1048576) (hm : 2 ≤ m) (hm' : m ≤ 1000000000000)
  (hx : ∀ x ∈ xs, 0 ≤ x ∧ x < m) (hy : ∀ x ∈ ys, 0 ≤ x ∧ x < m) :
  Calls Tryz.prog 90 #[.agg #[.int .i64 m, v], .agg #[.int .i64 m', u]] w fun e w' => qE5 w w' m (qAZ m xs.length xs ys) e := by
 obtain ⟨o, c, rfl, hmx, -⟩ := id hv
 obtain ⟨o', c', rfl, hmy, -⟩ := id hu
 have hml := hmx.1
 unfold maxLen at hmx hmy
 have HL := dd hl
 clear hl
 go_enter Tryz.func90, Tryz.ntmps90
 go_wp2_with fail
 (obtain ⟨w0, hw0⟩ : ∃ W : World, W = (((w.alloc (.cells #[.int .i64 m, .slice o xs.length c] 34)).alloc (.cells #[.int .i64 m', .slice o' ys.length c'] 34)).alloc (.cells #[.int .i64 0, .slice none 0 0] 34)) := ⟨_, rfl⟩; have X0 := (RB2.mk1 w  (.int .i64 m) (.slice o xs.length c) 34).1.below (w' := w0) (bV hw0) (nl _); have Y0 := (RB2.mk2 w (.cells #[.int .i64 m, .slice o xs.length c] 34) (.int .i64 m') (.slice o' ys.length c') 34).1.below (w' := w0) (bV hw0) (nl _); have R0 := (RB2.mk3 w (.cells #[.int .i64 m, .slice o xs.length c] 34) (.cells #[.int .i64 m', .slice o' ys.length c'] 34) (.int .i64 0) (.slice none 0 0) 34).below (w' := w0) (bV hw0) (nl _); have B0 : Below w.heap.size w w0 := (bV hw0); have hv0 := hv.below (w' := w0) (bV hw0) (nl _); have hu0 := hu.below (w' := w0) (bV hw0) (nl _); rw [← hw0]; clear hw0)
 have hzl : w.heap.size + 2 < w0.heap.size := R0.1.lt
 go_cut [5] (fun sb u => ∃ (wz : World) (b : Nat) (oz : Option Addr) (cz : Nat), wz = u ∧ sb = .pointer (some ⟨b, 0, none⟩) ∧ w0.heap.size ≤ b ∧ RB2 u b (.int .i64 m) (.slice oz xs.length cz) ∧ OwI u w0.heap.size (.slice oz xs.length cz) (List.replicate xs.length 0) ∧ (∀ k, (Value.slice oz xs.length cz).ownBlock = some k → k ≠ b) ∧ Below w0.heap.size w0 u)
 case first =>
  have hd0 : Below w0.heap.size w0 w0.drew := (Below.refl _ _).drew; have hsd0 := hd0.size; have hlb_X0 := X0.lt; obtain ⟨q0_X0_0, q0_X0_1⟩ := X0.below (Below.refl w0.heap.size w0) (nl _); have hne0_X0 : w0.heap.size ≠ w.heap.size := Oo
  go_region_held3 (fun w' => w'.cell? ⟨w.heap.size, 0, none⟩ = some (.int .i64 m) ∧ w'.cell? ⟨w.heap.size, 1, none⟩ = some (.slice o xs.length c)) (go_keep)
   (first
    | (go_at_call 128; refine (qCb m o xs.length c _ hml).mono ?_; rintro e wd1 ⟨rfl, hbd1⟩; have hd1 : Below w0.heap.size w0 wd1 := (bY1 hbd1); have hsd1 := hd1.size; have hsz1_ := hbd1.size; (try simp at hsz1_); obtain ⟨q1_X0_0, q1_X0_1⟩ := X0.below hd1; have hne1_X0 : wd1.heap.size ≠ w.heap.size := Oo; (try (have RZ := RZ.below hbd1)); (try (have RZ := (show RB2 (w0.alloc (.cells #[.int .i64 0, .slice none 0 0] 34)).drew w0.heap.size (.int .i64 0) (.slice none 0 0) from RB2.mk1 w0 (.int .i64 0) (.slice none 0 0) _).below hbd1)); (try (obtain ⟨⟨z1_0, z1_1⟩, zf1⟩ := id RZ)))
    | (go_at_call 144; refine (qEP m ((xs.length : Int) - 1) xs.length _ Oo Oo).mono ?_; rintro e wd2 ⟨vz2, rfl, hod2, hbd2⟩; obtain ⟨oz, cz, rfl⟩ := hod2.shapeN (n := xs.length) (by simp); have hd2 : Below w0.heap.size w0 wd2 := (bY2 hbd1 hbd2); have hsd2 := hd2.size; have hsz2_ := hbd2.size; (try simp at hsz2_); obtain ⟨q2_X0_0, q2_X0_1⟩ := X0.below hd2; have hne2_X0 : wd2.heap.size ≠ w.heap.size := Oo; (try (have RZ := RZ.below hbd2)); (try (have RZ := (show RB2 (wd1.alloc (.cells #[.int .i64 0, .slice none 0 0] 34)) wd1.heap.size (.int .i64 0) (.slice none 0 0) from RB2.mk1 wd1 (.int .i64 0) (.slice none 0 0) _).below hbd2)); (try (obtain ⟨⟨z2_0, z2_1⟩, zf2⟩ := id RZ))))
  all_goals
   go_wp2_with fail
   go_meet
   have hL := hod2.lt; refine ⟨_, _, oz, cz, rfl, rfl, ?_, ?_, ?_, ?_, ?_⟩
   ·first | omega | (simp; done) | (simp; omega)
   ·first | exact RB2.mk1 _ _ _ _ | exact RB2.put RZ _ _
   ·first | exact (hod2.alloc _).mono sz | exact ((hod2.low sz _).low sz _).mono sz
   ·intro k hk; have hq := hL k hk; first | omega | (simp at hq; omega)
   ·(repeat (first | exact bR _ _ | (refine bS ?_ _) | (refine bA ?_ _) | (refine bN ?_ _) | (refine bD ?_) | (refine bT ?_ hbd1) | (refine bT ?_ hbd2)))
 case rest =>
 obtain ⟨w1, b, oz, cz, rfl, rfl, hbW, O, how, hneb, hb⟩ := hcut
 (have X1 := X0.below hb; have Y1 := Y0.below hb; have R1 := R0.below hb; have hv1 := hv0.below hb; have hu1 := hu0.below hb; have B1 := B0.trans (hb.mono B0.size))
 rw [tmS_0 m _ xs ys] at how
 obtain ⟨g, cap, hsl, hgl, hgl', -, -, -⟩ := how.opn (by rw [qQq]; omega)
 obtain ⟨rfl, rfl⟩ : oz = some ⟨g, 0, none⟩ ∧ cz = cap := by simp at hsl; exact ⟨hsl.1, hsl.2.2⟩
 clear hsl
 have hgb := hneb g rfl
 clear hneb
 obtain ⟨bx, fx, rfl, hcx⟩ := hv.cells h1
 obtain ⟨by', fy, rfl, hcy⟩ := hu.cells (by have := HL.out; omega)
 have l1 := qBH (hcx 0 _ (qA5 Oo))
 have l2 := qBH (hcy 0 _ (qA5 (by have := HL.out; omega)))
 clear hcx hcy
 have n1 : g ≠ w.heap.size := Oo
 have n2 : g ≠ w.heap.size + 1 := Oo
 have n3 : g ≠ bx := Oo
 have n4 : g ≠ by' := Oo
 have B1s := B1.size
 have m0 : (m == 0) = false := by simp; omega
 have m1 : ¬ m = 0 := Oo
 obtain ⟨x0, x1⟩ := id X1
 go_wp2_with fail
 clear x0 x1
 go_loopw [18] (fun i wr => ∃ k : Nat, k ≤ xs.length ∧ i = .int .i64 k ∧ OwI wr w0.heap.size (.slice (some ⟨g, 0, none⟩) xs.length cz) (tmS m xs.length xs ys k 0) ∧ w1.grownBy wr (some g)) (fun i _ => xs.length - (intOf i).toNat)
 case atStart => exact ⟨0, Nat.zero_le _, rfl, how, World.grownBy.refl _ _⟩
 case round =>
  obtain ⟨k, hk, rfl, hO, hg⟩ := hrel; obtain ⟨wo, rfl⟩ : ∃ wo : World, wo = wr := ⟨_, rfl⟩; have Br := qDC B1 hg Oo B1s
  by_cases hlt : k < xs.length
  ·have hly : k < ys.length := by have := HL.out; omega
   obtain ⟨y0, y1⟩ := Y1.grown hg (by simp; omega); have cx := (hv.below Br).cell0 (qA5 hlt); have hxk := qAG Oo hx k; have i0 : (0 : Int) ≤ (k : Int) := Oo; have i1 : (k : Int) < (xs.length : Int) := Oo; have i2 : (0 : Int) ≤ (ys.length : Int) - (k : Int) := Oo; have i3 : (ys.length : Int) - (k : Int) ≤ (c' : Int) := Oo; have i4 : ((ys.length : Int) - (k : Int)).toNat = ys.length - k := Oo
   go_wp2_with fail
   clear y0 y1
   go_loopw [32] (fun i w2 => ∃ j : Nat, j ≤ ys.length - k ∧ i = .int .i64 j ∧ OwI w2 w0.heap.size (.slice (some ⟨g, 0, none⟩) xs.length cz) (tmS m xs.length xs ys k j) ∧ w1.grownBy w2 (some g)) (fun i _ => ys.length - k - (intOf i).toNat)
   case atStart => exact ⟨0, Nat.zero_le _, rfl, hO, hg⟩
   case round =>
    obtain ⟨j, hj, rfl, hO2, hg2⟩ := hrel; have Br2 := qDC B1 hg2 Oo B1s
    by_cases hjl : j < ys.length - k
    ·have hkj : k + j < xs.length := by have := HL.out; omega
     obtain ⟨x0, x1⟩ := X1.grown hg2 (by simp; omega); obtain ⟨⟨z0, z1⟩, zf⟩ := O.grown hg2 (by simp; omega); have cy := (hu.below Br2).cell0 (qA5 (show j < ys.length by omega)); have hyk := qAG Oo hy j; have hc0 := hO2.cell (k := k + j) (qAy hkj); have hf0 := hO2.fz (k + j); have hM := qA6 (a := at0 xs k * at0 ys j) (show 0 < m by omega); have hC := qA6 (a := qB1 (at0 xs) (at0 ys) k j (k + j)) (show 0 < m by omega); have hMod := qA6 (a := qB1 (at0 xs) (at0 ys) k j (k + j) % m + at0 xs k * at0 ys j % m) (show 0 < m by omega); have Hn := dd hO2; clear hO2; have j0 : (0 : Int) ≤ (j : Int) := Oo; have j1 : (j : Int) < (ys.length : Int) - (k : Int) := Oo; have j2 : (0 : Int) ≤ (k : Int) + (j : Int) := Oo; have j3 : (k : Int) + (j : Int) < (xs.length : Int) := Oo; have j4 : ((k : Int) + (j : Int)).toNat = k + j := Oo
     go_wp2_with fail
     have e0 : IntKind.i64.wrap ((k : Int) + (j : Int)) = (k : Int) + (j : Int) := IntWalk.i64_in _ Oo; have e1 : IntKind.i64.wrap (qB1 (at0 xs) (at0 ys) k j (k + j) % m + at0 xs k * at0 ys j % m) = qB1 (at0 xs) (at0 ys) k j (k + j) % m + at0 xs k * at0 ys j % m := IntWalk.i64_in _ Oo; have e2 : (qB1 (at0 xs) (at0 ys) k j (k + j) % m + at0 xs k * at0 ys j % m).tmod m = (qB1 (at0 xs) (at0 ys) k j (k + j) % m + at0 xs k * at0 ys j % m) % m := Int.tmod_eq_emod_of_nonneg Oo; have hd0 : Below wr.heap.size wr wr.drew := (Below.refl _ _).drew; have hsd0 := hd0.size; have f0_a := qA0 hd0 (nl _) x0; have f0_b := qA0 hd0 (nl _) z1; have f0_c := qA0 hd0 (nl _) hc0; have f0_d := (Hn.out.below hd0).fz (k + j); refine qAv (S := fun w' => w'.cell? ⟨w.heap.size, 0, none⟩ = some (.int .i64 m) ∧ w'.cell? ⟨b, 1, none⟩ = some (.slice (some ⟨g, 0, none⟩) xs.length cz) ∧ w'.cell? ⟨g, k + j, none⟩ = some (.int .i64 (qB1 (at0 xs) (at0 ys) k j (k + j) % m))) [22] kr ?_; refine wKq (by go_keep) fun hHeld => ?_
     refine' tJ 0 hHeld ?_; refine' tJ 1 hHeld ?_; refine' tJ 2 hHeld ?_; refine' tJ 3 hHeld ?_; refine' tJ 4 hHeld ?_; refine' tJ 5 hHeld ?_; refine' tJ 6 hHeld ?_; refine' tJ 7 hHeld ?_; refine' tJ 8 hHeld ?_; refine' tJ 9 hHeld ?_; refine' tJ 10 hHeld ?_; refine' tJ 11 hHeld ?_; refine' tJ 12 hHeld ?_; refine' tJ 13 hHeld ?_; refine' tJ 14 hHeld ?_; refine' tJ 15 hHeld ?_; refine' tJ 18 hHeld ?_; refine' tJ 19 hHeld ?_; refine qA1 (i := 16) rfl kr (fun K hK => ?_); go_simp
     go_at_call 145
     refine (qGv m (at0 xs k) (at0 ys j) _ Oo Oo hxk.1 hyk.1 hxk.2 hyk.2).mono ?_; rintro e wd1 ⟨rfl, hbd1⟩; have hd1 : Below wr.heap.size wr wd1 := (bY1 hbd1); have hsd1 := hd1.size; have hsz1_ := hbd1.size
     (try simp at hsz1_)
     have f1_a := qA0 hd1 (nl _) x0; have f1_b := qA0 hd1 (nl _) z1; have f1_c := qA0 hd1 (nl _) hc0; have f1_d := (Hn.out.below hd1).fz (k + j)
     go_wp2_with fail
     clear hHeld; refine oKq hK (by go_keep) fun hHeld => ?_
     clear hK K
     try simp only [Act.put, sL]
     refine' tJ 17 hHeld ?_; refine' tJ 20 hHeld ?_; refine qA1 (i := 21) rfl kr (fun K hK => ?_); go_simp
     (try go_wp2_with fail)
     refine hK.out _ _ (fun _ => hHeld) ?_; clear hK K
     try simp only [Act.put, sL]
     refine qA1 (i := 22) rfl kr (fun K hK => ?_); go_simp
     (try go_wp2_with fail)
     refine hK.out _ _ (nD ·) ?_; clear hK K
     try simp only [Act.put, sL]
     refine qAT kr ?_ _
     go_wp2_with fail
     have h2 := OwI.put (Hn.out.below hd1) (k + j) ((qB1 (at0 xs) (at0 ys) k j (k + j) + at0 xs k * at0 ys j) % m); rw [qLJ rfl rfl] at h2; have hg3 := qAw (qIK hg2 hd1) (k + j) (.int .i64 ((qB1 (at0 xs) (at0 ys) k j (k + j) + at0 xs k * at0 ys j) % m)); exact ⟨⟨j + 1, Oo, by go_num, h2, hg3⟩, by simp [intOf]; omega⟩
    ·obtain rfl : j = ys.length - k := Oo; rw [qL8 (.inl (by have := HL.out; omega))] at hO2; go_wp2; exact ⟨⟨k + 1, Oo, by go_num, hO2, hg2⟩, by simp [intOf]; omega⟩
  ·obtain rfl : k = xs.length := Oo; rw [qLj (.inl (nl _))] at hO; obtain ⟨⟨z0, z1⟩, zf⟩ := O.grown hg (by simp; omega); obtain ⟨⟨r0, r1⟩, rf⟩ := R1.grown hg (by simp; omega); go_wp2; refine bodyPost_ret (v := .agg #[.int .i64 m, .slice (some ⟨g, 0, none⟩) xs.length cz]) (by simp [results, Tryz.results90, go_sem, r0, r1]) rfl ⟨_, rfl, ?_, ?_⟩
   ·exact ((hO.low sz _).low sz _).mono sz
   ·(repeat (first | exact bR _ _ | (refine bS ?_ _) | (refine bA ?_ _) | (refine bN ?_ _) | (refine bD ?_) | (refine bT ?_ Br)))

end Go.Proofs.YtfpphfjlpgefaaaGreat
