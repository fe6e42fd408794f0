/- Lemmas. -/
import Derived.Test.YtfpphfjlpgefaaaGreatqG17
import Derived.Test.YtfpphfjlpgefaaaGreatqSerC
set_option maxHeartbeats 4000000
set_option maxRecDepth 100000
set_option linter.unusedSimpArgs false
set_option linter.unusedVariables false
namespace Go.Proofs.YtfpphfjlpgefaaaGreat
open Go.RowKit

theorem qPs {m : Int} {n : Nat} {a : Li} {k : Nat} :
  (qAD m n a (k + 1)).set (k + 2) ((-(at0 (qAH m n (qAD m n a (k + 1)) a) (k + 2) * qAI m (at0 a 1) % m)) % m) = qAD m n a (k + 1 + 1) := by
 rw [qIB]; rfl
theorem qK9 {m : Int} {n : Nat} {a : Li} : (List.replicate n (0 : Int)).set 1 (qAI m (at0 a 1)) = qAD m n a (0 + 1) := rfl
theorem qNS {m : Int} {n : Nat} {a : Li} {k : Nat} (h : n = k + 1) : invP m n a k = qCj m n a := by subst h; exact qPT
theorem qJl {m : Int} {n : Nat} {a : Li} {k : Nat} (h : n = k + 2) : qAD m n a (k + 1) = qAc m n a := by subst h; rfl

structure Cel1 (w : World) (b f : Nat) (x : Value) : Prop where
 get : w.cell? ⟨b, f, none⟩ = some x
theorem Cel1.below {B : Nat} {w w' : World} {b f : Nat} {x : Value} (h : Cel1 w b f x) (hb : Below B w w') (hB : w.heap.size ≤ B := by exact Nat.le_refl _) : Cel1 w' b f x := ⟨qA0 hb hB h.get⟩

theorem qJ0 (m : Int) (v : Value) (xs : Li) (w : World) (hv : RdI w v xs) (h1 : 2 ≤ xs.length) (hn : xs.length ≤ 1000) (hm : 2 ≤ m) (hm' : m ≤ 1000000000000) (hx : ∀ x ∈ xs, 0 ≤ x ∧ x < m) :
  Calls Tryz.prog 167 #[.agg #[.int .i64 m, v]] w fun e w' => qE5 w w' m (qAc m xs.length xs) e := by
 obtain ⟨o, c, rfl, hmx, -⟩ := id hv
 have hml := hmx.1
 unfold maxLen at hmx
 obtain ⟨bx, fx, rfl, hcx⟩ := hv.cells Oo
 have cx : w.cell? ⟨bx, fx + 1, none⟩ = some (.int .i64 (at0 xs 1)) := hcx 1 _ (qA5 Oo)
 have lx := qBH cx
 have hxr := qAG Oo hx 1
 obtain ⟨u, hu⟩ : ∃ u, u = qAI m (at0 xs 1) := ⟨_, rfl⟩
 have hur : 0 ≤ u ∧ u < m := by rw [hu]; exact qDn Oo _
 have HU := dd hu
 clear hcx hu
 go_enter Tryz.func167, Tryz.ntmps167
 go_wp2_with fail
 (obtain ⟨w0, hw0⟩ : ∃ W : World, W = ((w.alloc (.cells #[.int .i64 m, .slice (some ⟨bx, fx, none⟩) xs.length c] 34)).alloc (.cells #[.int .i64 0, .slice none 0 0] 34)) := ⟨_, rfl⟩; have X0 := (RB2.mk1 w  (.int .i64 m) (.slice (some ⟨bx, fx, none⟩) xs.length c) 34).1.below (w' := w0) (bV hw0) (nl _); have R0 := (RB2.mk2 w (.cells #[.int .i64 m, .slice (some ⟨bx, fx, none⟩) xs.length c] 34) (.int .i64 0) (.slice none 0 0) 34).below (w' := w0) (bV hw0) (nl _); have B0 : Below w.heap.size w w0 := (bV hw0); have hv0 := hv.below (w' := w0) (bV hw0) (nl _); rw [← hw0]; clear hw0)
 have hzl : w.heap.size + 1 < w0.heap.size := R0.1.lt
 have cx0 := qA0 B0 (nl _) cx
 have lx0 := qBH cx0
 have cx0c : Cel1 w0 bx (fx + 1) (.int .i64 (at0 xs 1)) := ⟨cx0⟩
 go_cut [3, 4] (fun sb su u => ∃ (wz : World) (b : Nat) (oz : Option Addr) (cz : Nat), wz = u ∧ sb = .pointer (some ⟨b, 0, none⟩) ∧ su = .int .i64 (qAI m (at0 xs 1)) ∧ w0.heap.size ≤ b ∧ RB2 u b (.int .i64 m) (.slice oz xs.length cz) ∧ OwI u w0.heap.size (.slice oz xs.length cz) (List.replicate xs.length 0) ∧ (∀ k, (Value.slice oz xs.length cz).ownBlock = some k → k ≠ b) ∧ Below w0.heap.size w0 u)
 case first =>
  have hd0 : Below w0.heap.size w0 w0.drew := (Below.refl _ _).drew; have hsd0 := hd0.size; have hlb_X0 := X0.lt; have i0 : (0 : Int) < (xs.length : Int) := Oo; have i1 : (1 : Int) < (xs.length : Int) := Oo; have i2 : 1 < xs.length := Oo; obtain ⟨q0_X0_0, q0_X0_1⟩ := X0.below (Below.refl w0.heap.size w0) (nl _); have q0_cx := (((cx0c).below (Below.refl w0.heap.size w0) (nl _))).get; have hne0_X0 : w0.heap.size ≠ w.heap.size := Oo; have hne0_bx_ : w0.heap.size ≠ bx := Oo
  go_region_held3 (fun w' => w'.cell? ⟨w.heap.size, 0, none⟩ = some (.int .i64 m) ∧ w'.cell? ⟨w.heap.size, 1, none⟩ = some (.slice (some ⟨bx, fx, none⟩) xs.length c) ∧ w'.cell? ⟨bx, fx + 1, none⟩ = some (.int .i64 (at0 xs 1))) (go_keep)
   (first
    | (go_at_call 128; refine (qCb m (some ⟨bx, fx, none⟩) xs.length c _ hml).mono ?_; rintro e wd1 ⟨rfl, hbd1⟩; have hd1 : Below w0.heap.size w0 wd1 := (bY1 hbd1); have hsd1 := hd1.size; have hsz1_ := hbd1.size; (try simp at hsz1_); obtain ⟨q1_X0_0, q1_X0_1⟩ := X0.below hd1; have q1_cx := (((cx0c).below hd1)).get; have hne1_X0 : wd1.heap.size ≠ w.heap.size := Oo; have hne1_bx_ : wd1.heap.size ≠ bx := Oo; (try (have RZ := RZ.below hbd1)); (try (have RZ := (show RB2 (w0.alloc (.cells #[.int .i64 0, .slice none 0 0] 34)).drew w0.heap.size (.int .i64 0) (.slice none 0 0) from RB2.mk1 w0 (.int .i64 0) (.slice none 0 0) _).below hbd1)); (try (obtain ⟨⟨z1_0, z1_1⟩, zf1⟩ := id RZ)))
    | (go_at_call 144; refine (qEP m ((xs.length : Int) - 1) xs.length _ Oo Oo).mono ?_; rintro e wd2 ⟨vz2, rfl, hod2, hbd2⟩; obtain ⟨oz, cz, rfl⟩ := hod2.shapeN (n := xs.length) (by simp); have hd2 : Below w0.heap.size w0 wd2 := (bY2 hbd1 hbd2); have hsd2 := hd2.size; have hsz2_ := hbd2.size; (try simp at hsz2_); obtain ⟨q2_X0_0, q2_X0_1⟩ := X0.below hd2; have q2_cx := (((cx0c).below hd2)).get; have hne2_X0 : wd2.heap.size ≠ w.heap.size := Oo; have hne2_bx_ : wd2.heap.size ≠ bx := Oo; (try (have RZ := RZ.below hbd2)); (try (have RZ := (show RB2 (wd1.alloc (.cells #[.int .i64 0, .slice none 0 0] 34)) wd1.heap.size (.int .i64 0) (.slice none 0 0) from RB2.mk1 wd1 (.int .i64 0) (.slice none 0 0) _).below hbd2)); (try (obtain ⟨⟨z2_0, z2_1⟩, zf2⟩ := id RZ)))
    | (go_at_call 111; refine (qJ_ m (at0 xs 1) _ hm Oo Oo Oo).mono ?_; rintro e w' ⟨rfl, rfl⟩))
  all_goals
   go_wp2_with fail
   go_meet
   have hL := hod2.lt; refine ⟨_, _, oz, cz, rfl, rfl, rfl, ?_, ?_, ?_, ?_, ?_⟩
   ·first | omega | (simp; done) | (simp; omega)
   ·first | exact RB2.mk1 _ _ _ _ | exact RB2.put RZ _ _
   ·first | exact (hod2.alloc _).mono sz | exact ((hod2.low sz _).low sz _).mono sz
   ·intro k hk; have hq := hL k hk; first | omega | (simp at hq; omega)
   ·(repeat (first | exact bR _ _ | (refine bS ?_ _) | (refine bA ?_ _) | (refine bN ?_ _) | (refine bD ?_) | (refine bT ?_ hbd1) | (refine bT ?_ hbd2)))
 case rest =>
 obtain ⟨w1, bo, oz, cz, rfl, rfl, rfl, hbW, O, how, hneb, hb⟩ := hcut
 obtain ⟨g, rfl, hgl, hgl'⟩ := how.row Oo
 have hgb := hneb g rfl
 clear hneb
 rw [← HU.out]
 (have X1 := X0.below hb; have R1 := R0.below hb; have hv1 := hv0.below hb; have B1 := B0.trans (hb.mono B0.size))
 have hc0 := how.cell (k := 1) (qE9 xs.length 1 0 Oo)
 have hf0 := how.fz 1
 have hOz := how.put 1 u
 rw [HU.out, qK9] at hOz
 have Oz := O.grown (qAw (World.grownBy.refl w1 (some g)) 1 (.int .i64 (qAI m (at0 xs 1)))) (by simp; omega)
 have hbz := qAL hb (g := g) (k := 1) Oo (.int .i64 (qAI m (at0 xs 1)))
 rw [← HU.out] at hOz Oz hbz
 obtain ⟨z0, z1⟩ := id O.1
 have i0 : (0 : Int) < (xs.length : Int) := Oo
 have i1 : (1 : Int) < (xs.length : Int) := Oo
 have i2 : 1 < xs.length := Oo
 have HO := dd hOz
 have OZ := dd Oz
 clear how O hOz Oz hb
 go_wp2_with fail
 clear hc0 hf0 z0 z1
 have hOz := HO.out
 have Oz := OZ.out
 clear HO OZ
 generalize w1.setCell ⟨g, 1, none⟩ (.int .i64 u) = w2 at hOz Oz hbz ⊢
 go_loopw [5, 6] (fun i _ wr => ∃ k : Nat, k + 2 ≤ xs.length ∧ i = .int .i64 ((k : Int) + 2) ∧ OwI wr w0.heap.size (.slice (some ⟨g, 0, none⟩) xs.length cz) (qAD m xs.length xs (k + 1)) ∧ RB2 wr bo (.int .i64 m) (.slice (some ⟨g, 0, none⟩) xs.length cz) ∧ Below w0.heap.size w0 wr) (fun i _ _ => xs.length - (intOf i).toNat)
 case atStart => exact ⟨0, Oo, by go_num, hOz, Oz, hbz⟩
 case round =>
  clear hOz Oz hbz X1 R1 hv1 B1; obtain ⟨k, hk, rfl, hO, OO, hbr⟩ := hrel; have B0s := B0.size; have hbrs := hbr.size; have Br := B0.trans (hbr.mono B0s); have Xr := X0.below hbr; have hvr := hv0.below hbr; have Rr := R0.below hbr; have lXr := Xr.lt; obtain ⟨x0, x1⟩ := id Xr
  go_wp2_with fail
  refine (qCb m _ _ c _ hml).mono ?_; rintro e w3 ⟨rfl, hb3⟩; clear x0 x1; have hb3s := hb3.size; have X3 := Xr.below hb3; have hv3 := hvr.below hb3; have O3 := OO.below hb3; have R3 := Rr.below hb3; have hO3 := hO.below hb3; have hbr3 := hbr.trans (hb3.mono hbrs); have B3 := B0.trans (hbr3.mono B0s); have B3s := B3.size; clear hO OO Xr hvr Rr hbr Br hb3 lXr
  by_cases hlt : k + 2 < xs.length
  ·have i3 : (0 : Int) ≤ (k : Int) + 2 := Oo; have i4 : (k : Int) + 2 ≤ (xs.length : Int) - 1 := Oo; have i5 : (k : Int) + 2 < (xs.length : Int) := Oo; have i6 : ((k : Int) + 2).toNat = k + 2 := Oo; have hQl : ((qAH m xs.length (qAD m xs.length xs (k + 1)) xs)).length = xs.length := by first | exact qBX _ _ _ _ | exact qDo _ _ _ _
   have hQr : ∀ x ∈ (qAH m xs.length (qAD m xs.length xs (k + 1)) xs), 0 ≤ x ∧ x < m := by first | exact qDi Oo | exact qEy Oo
   have HS : Hid (((qAD m xs.length xs (k + 1))).set (k + 2) ((-(at0 (qAH m xs.length (qAD m xs.length xs (k + 1)) xs) (k + 2) * qAI m (at0 xs 1) % m)) % m) = _) := dd (qPs); have HLl := dd (show ((qAD m xs.length xs (k + 1))).length = xs.length from (qFo _ _ _ _)); have HRl := dd (show ∀ x ∈ (qAD m xs.length xs (k + 1)), 0 ≤ x ∧ x < m from (qFz Oo _ _ _)); obtain ⟨q, hq⟩ : ∃ q, q = (qAH m xs.length (qAD m xs.length xs (k + 1)) xs) := ⟨_, rfl⟩; rw [← hq] at hQl hQr HS; rw [← HU.out] at HS; have HQ := dd hq; clear hq; have hqr := qAG (show 0 < m by omega) hQr (k + 2); have O3b := O3.1; obtain ⟨x0, x1⟩ := id X3; obtain ⟨z0, z1⟩ := id O3b; have HQ2 := HQ; generalize (qAD m xs.length xs (k + 1)) = l at hO3 HS HLl HRl HQ
   go_wp2_with fail
   refine (qKl m m _ _ xs l _ hv3 hO3.rd (by rw [HLl.out]) Oo Oo hm Oo hx HRl.out).mono ?_; rintro e w4 ⟨vq, rfl, hoq, hb4⟩; rw [← HQ.out] at hoq; clear x0 x1 z0 z1; obtain ⟨oq, cq, rfl⟩ := hoq.shapeN (n := xs.length) hQl; obtain ⟨gq, rfl, hgq, hgq'⟩ := hoq.row Oo; have hcq := hoq.cell (k := k + 2) (qA5 (show k + 2 < q.length by omega)); have X4 := X3.below hb4; have O4 := O3.below hb4; have hO4 := hO3.below hb4; have hbr4 := hbr3.trans (hb4.mono hbr3.size); have hc9 := hO4.cell (k := k + 2) (qA5 (show k + 2 < l.length by rw [HLl.out]; omega)); have hf9 := hO4.fz (k + 2); have Hn := dd hO4; clear hoq hO3 hO4 O3 X3; obtain ⟨x0, x1⟩ := id X4; obtain ⟨⟨z0, z1⟩, zf⟩ := id O4; have hmu := qA6 (a := at0 q (k + 2) * u) (show 0 < m by omega); have hfd : ∀ w : World, (Instr.field 34 (.agg #[.int .i64 m, .slice (some ⟨gq, 0, none⟩) xs.length cq]) 1).run Tryz.prog w = .ok (.slice (some ⟨gq, 0, none⟩) xs.length cq) w := fun _ => kr
   have hwr : IntKind.i64.wrap (-(at0 q (k + 2) * u % m)) = -(at0 q (k + 2) * u % m) := IntWalk.i64_in _ Oo
   go_wp2_with fail
   have hd0 : Below w4.heap.size w4 w4.drew := (Below.refl _ _).drew; have hsd0 := hd0.size; have f0_a := qA0 hd0 (nl _) x0; have f0_b := qA0 hd0 (nl _) z1; have f0_c := qA0 hd0 (nl _) hc9; have f0_e := (Hn.out.below hd0).fz (k + 2); refine qAv (S := fun w' => w'.cell? ⟨w.heap.size, 0, none⟩ = some (.int .i64 m) ∧ w'.cell? ⟨bo, 1, none⟩ = some (.slice (some ⟨g, 0, none⟩) xs.length cz)) [13] kr ?_; refine wKq (by go_keep) fun hHeld => ?_
   refine' tJ 0 hHeld ?_; refine' tJ 1 hHeld ?_; refine' tJ 2 hHeld ?_; refine' tJ 3 hHeld ?_; refine' tJ 4 hHeld ?_; refine' tJ 5 hHeld ?_; refine' tJ 6 hHeld ?_; refine' tJ 9 hHeld ?_; refine' tJ 10 hHeld ?_; refine qA1 (i := 7) rfl kr (fun K hK => ?_); go_simp
   go_at_call 145
   refine (qGv m (at0 q (k + 2)) u _ Oo Oo Oo Oo Oo Oo).mono ?_; rintro e wd1 ⟨rfl, hbd1⟩; have hd1 : Below w4.heap.size w4 wd1 := (bY1 hbd1); have hsd1 := hd1.size; have hsz1_ := hbd1.size
   (try simp at hsz1_)
   have f1_a := qA0 hd1 (nl _) x0; have f1_b := qA0 hd1 (nl _) z1; have f1_c := qA0 hd1 (nl _) hc9; have f1_e := (Hn.out.below hd1).fz (k + 2)
   go_wp2_with fail
   clear hHeld; refine oKq hK (by go_keep) fun hHeld => ?_
   clear hK K
   try simp only [Act.put, sL]
   refine' tJ 8 hHeld ?_; refine qA1 (i := 11) rfl kr (fun K hK => ?_); go_simp
   go_at_call 126
   refine (qBl (-(at0 q (k + 2) * u % m)) m _ Oo Oo Oo Oo).mono ?_; rintro e w' ⟨rfl, rfl⟩
   go_wp2_with fail
   refine hK.out _ _ (fun _ => hHeld) ?_; clear hK K
   try simp only [Act.put, sL]
   refine qA1 (i := 12) rfl kr (fun K hK => ?_); go_simp
   (try go_wp2_with fail)
   refine hK.out _ _ (fun _ => hHeld) ?_; clear hK K
   try simp only [Act.put, sL]
   refine qA1 (i := 13) rfl kr (fun K hK => ?_); go_simp
   (try go_wp2_with fail)
   refine hK.out _ _ (nD ·) ?_; clear hK K
   try simp only [Act.put, sL]
   refine qAT kr ?_ _
   go_wp2_with fail
   have hOn := (Hn.out.below hd1).put (k + 2) ((-(at0 q (k + 2) * u % m)) % m); rw [HS.out] at hOn; have hgx := qAw (qIK (World.grownBy.refl w4 (some g)) hd1) (k + 2) (.int .i64 ((-(at0 q (k + 2) * u % m)) % m)); have On := O4.grown hgx (by simp; omega); have hbn := qDC hbr4 hgx Oo hbr4.size; exact ⟨⟨k + 1, Oo, by go_num, hOn, On, hbn⟩, by simp [intOf]; omega⟩
  ·have hk' : xs.length = k + 2 := Oo; rw [qJl hk'] at hO3; have i1 : ¬ (k : Int) + 2 ≤ (xs.length : Int) - 1 := Oo; clear hk'; obtain ⟨⟨z0, z1⟩, zf⟩ := id O3; obtain ⟨⟨r0, r1⟩, rf⟩ := id R3; have lR3 := R3.1.lt; go_wp2; refine bodyPost_ret (v := .agg #[.int .i64 m, .slice (some ⟨g, 0, none⟩) xs.length cz]) (by simp [results, Tryz.results167, go_sem, r0, r1]) rfl ⟨_, rfl, ?_, ?_⟩
   ·exact ((hO3.low sz _).low sz _).mono sz
   ·(repeat (first | exact bR _ _ | (refine bS ?_ _) | (refine bA ?_ _) | (refine bN ?_ _) | (refine bD ?_) | (refine bT ?_ B3)))
end Go.Proofs.YtfpphfjlpgefaaaGreat
