/- Lemmas. -/
import Derived.Test.YtfpphfjlpgefaaaGreatqSerT
import Derived.Test.YtfpphfjlpgefaaaGreatqG1
import Derived.StillTailTactics
set_option maxHeartbeats 2000000
set_option maxRecDepth 100000
set_option linter.unusedSimpArgs false
set_option linter.unusedVariables false
namespace Go.Proofs.YtfpphfjlpgefaaaGreat
open Go.RowKit

def qCf (m c : Int) (n : Nat) : Li := (List.replicate n 0).set 0 (c % m)
theorem qG3 (m c : Int) (n : Nat) : (qCf m c n).length = n := by simp [qCf]
theorem qMN {m : Int} (hm : 0 < m) (c : Int) (n : Nat) : ∀ x ∈ qCf m c n, 0 ≤ x ∧ x < m := by
 intro x hx
 rcases List.mem_or_eq_of_mem_set hx with h | rfl
 ·simp at h; omega
 ·exact qA6 hm
theorem qOu (m : Int) (n : Nat) : qCf m 0 n = List.replicate n 0 := by
 unfold qCf
 cases n <;> simp [List.replicate_succ]
theorem qNa {m : Int} (hm : 0 < m) {n : Nat} (h1 : 1 ≤ n) (l : Li) (c : Int) (hc : 0 ≤ c ∧ c < m) (hl : l.length = n) (hr : ∀ x ∈ l, 0 ≤ x ∧ x < m) :
  qCi m n l (qCf m c n) = qCQ m c l := by
 have e : qCQ m c l = mk n (fun k => if k = 0 then (at0 l 0 + c) % m else at0 l k) := by
  unfold qCQ
  conv => lhs; rw [qFv l, hl]
  rw [qDu, qBN Oo]
 rw [e]
 refine qAh fun k hk => ?_
 have hk' : at0 (qCf m c n) k = if k = 0 then c else 0 := by
  unfold qCf at0 List.getD; rw [List.getElem?_set]
  by_cases h : k = 0
  ·subst h; simp; rw [if_pos Oo]; simp [Int.emod_eq_of_lt hc.1 hc.2]
  ·rw [if_neg Oo, if_neg h]; simp [hk]
 rw [hk']
 by_cases h : k = 0
 ·subst h; simp
 ·rw [if_neg h, if_neg h, Int.add_zero]; have := qAG hm hr k; exact Int.emod_eq_of_lt this.1 this.2

theorem qHX (m a : Int) (v : Value) (xs : Li) (w : World) (hv : RdI w v xs) (h1 : 1 ≤ xs.length) (hn : xs.length ≤ 1048576) (hm : 2 ≤ m) (hm' : m ≤ 1000000000000) (ha : -9000000000000000000 ≤ a) (ha' : a ≤ 9000000000000000000) :
  Calls Tryz.prog 87 #[.agg #[.int .i64 m, v], .int .i64 a] w fun e w' => qE5 w w' m (qCf m a xs.length) e := by
 obtain ⟨o, c, rfl, hmx, -⟩ := id hv
 have hml := hmx.1
 unfold maxLen at hmx
 go_enter Tryz.func87, Tryz.ntmps87
 go_wp2_with fail
 (obtain ⟨w0, hw0⟩ : ∃ W : World, W = ((w.alloc (.cells #[.int .i64 m, .slice o xs.length c] 34)).alloc (.cells #[.int .i64 0, .slice none 0 0] 34)) := ⟨_, rfl⟩; have X0 := (RB2.mk1 w  (.int .i64 m) (.slice o xs.length c) 34).1.below (w' := w0) (bV hw0) (nl _); have R0 := (RB2.mk2 w (.cells #[.int .i64 m, .slice o xs.length c] 34) (.int .i64 0) (.slice none 0 0) 34).below (w' := w0) (bV hw0) (nl _); have B0 : Below w.heap.size w w0 := (bV hw0); have hv0 := hv.below (w' := w0) (bV hw0) (nl _); rw [← hw0]; clear hw0)
 have hzl : w.heap.size + 1 < w0.heap.size := R0.1.lt
 go_cut [5] (fun sb u => ∃ (wz : World) (b : Nat) (oz : Option Addr) (cz : Nat), wz = u ∧ sb = .pointer (some ⟨b, 0, none⟩) ∧ w0.heap.size ≤ b ∧ RB2 u b (.int .i64 m) (.slice oz xs.length cz) ∧ OwI u w0.heap.size (.slice oz xs.length cz) (List.replicate xs.length 0) ∧ (∀ k, (Value.slice oz xs.length cz).ownBlock = some k → k ≠ b) ∧ Below w0.heap.size w0 u)
 case first =>
  have hd0 : Below w0.heap.size w0 w0.drew := (Below.refl _ _).drew; have hsd0 := hd0.size; have hlb_X0 := X0.lt; obtain ⟨q0_X0_0, q0_X0_1⟩ := X0.below (Below.refl w0.heap.size w0) (nl _); have hne0_X0 : w0.heap.size ≠ w.heap.size := Oo
  go_region_held3 (fun w' => w'.cell? ⟨w.heap.size, 0, none⟩ = some (.int .i64 m) ∧ w'.cell? ⟨w.heap.size, 1, none⟩ = some (.slice o xs.length c)) (go_keep)
   (first
    | (go_at_call 128; refine (qCb m o xs.length c _ hml).mono ?_; rintro e wd1 ⟨rfl, hbd1⟩; have hd1 : Below w0.heap.size w0 wd1 := (bY1 hbd1); have hsd1 := hd1.size; have hsz1_ := hbd1.size; (try simp at hsz1_); obtain ⟨q1_X0_0, q1_X0_1⟩ := X0.below hd1; have hne1_X0 : wd1.heap.size ≠ w.heap.size := Oo; (try (have RZ := RZ.below hbd1)); (try (have RZ := (show RB2 (w0.alloc (.cells #[.int .i64 0, .slice none 0 0] 34)).drew w0.heap.size (.int .i64 0) (.slice none 0 0) from RB2.mk1 w0 (.int .i64 0) (.slice none 0 0) _).below hbd1)); (try (obtain ⟨⟨z1_0, z1_1⟩, zf1⟩ := id RZ)))
    | (go_at_call 144; refine (qEP m ((xs.length : Int) - 1) xs.length _ Oo Oo).mono ?_; rintro e wd2 ⟨vz2, rfl, hod2, hbd2⟩; obtain ⟨oz, cz, rfl⟩ := hod2.shapeN (n := xs.length) (by simp); have hd2 : Below w0.heap.size w0 wd2 := (bY2 hbd1 hbd2); have hsd2 := hd2.size; have hsz2_ := hbd2.size; (try simp at hsz2_); obtain ⟨q2_X0_0, q2_X0_1⟩ := X0.below hd2; have hne2_X0 : wd2.heap.size ≠ w.heap.size := Oo; (try (have RZ := RZ.below hbd2)); (try (have RZ := (show RB2 (wd1.alloc (.cells #[.int .i64 0, .slice none 0 0] 34)) wd1.heap.size (.int .i64 0) (.slice none 0 0) from RB2.mk1 wd1 (.int .i64 0) (.slice none 0 0) _).below hbd2)); (try (obtain ⟨⟨z2_0, z2_1⟩, zf2⟩ := id RZ))))
  all_goals
   go_wp2_with fail
   go_meet
   have hL := hod2.lt; refine ⟨_, _, oz, cz, rfl, rfl, ?_, ?_, ?_, ?_, ?_⟩
   ·first | omega | (simp; done) | (simp; omega)
   ·first | exact RB2.mk1 _ _ _ _ | exact RB2.put RZ _ _
   ·first | exact (hod2.alloc _).mono sz | exact ((hod2.low sz _).low sz _).mono sz
   ·intro k hk; have hq := hL k hk; first | omega | (simp at hq; omega)
   ·(repeat (first | exact bR _ _ | (refine bS ?_ _) | (refine bA ?_ _) | (refine bN ?_ _) | (refine bD ?_) | (refine bT ?_ hbd1) | (refine bT ?_ hbd2)))
 case rest =>
 obtain ⟨w1, b, oz, cz, rfl, rfl, hbW, O, how, hneb, hb⟩ := hcut
 (have X1 := X0.below hb; have R1 := R0.below hb; have B1 := B0.trans (hb.mono B0.size))
 obtain ⟨g, rfl, hgl, hgl'⟩ := how.row h1
 have hgb := hneb g rfl
 clear hneb
 obtain ⟨x0, x1⟩ := id X1
 obtain ⟨⟨z0, z1⟩, zf⟩ := id O
 have hc0 := how.cell (k := 0) (qE9 xs.length 0 0 Oo)
 have hf0 := how.fz 0
 have B1s := B1.size
 have Hn := dd how
 clear how
 go_wp2_with fail
 have i1 : 0 < xs.length := h1
 have i2 : (0 : Int) < (xs.length : Int) := Oo
 go_still_tail 7, kr
 still_call (qFe (qBl _ _ _ Oo Oo Oo Oo))
 repeat still_step
 refine wpStill_nil ?_
 change wpList _ _ _ _ _ w1.drew
 have g0 := qAw (World.grownBy.refl w1 (some g)) 0 (.int .i64 (a % m))
 have Og := O.grown g0 (by simp; omega)
 have Rg := R1.grown g0 (by simp; omega)
 obtain ⟨⟨p0, p1⟩, pf⟩ := id Og
 obtain ⟨⟨r0, r1⟩, rf⟩ := id Rg
 go_wp2
 refine bodyPost_ret (v := .agg #[.int .i64 m, .slice (some ⟨g, 0, none⟩) xs.length cz]) (by simp [results, Tryz.results87, go_sem, r0, r1]) rfl ⟨_, rfl, ?_, ?_⟩
 ·exact (((Hn.out.put 0 (a % m)).low sz _).low sz _).mono sz
 ·(repeat (first | exact bR _ _ | (refine bS ?_ _) | (refine bA ?_ _) | (refine bN ?_ _) | (refine bD ?_) | (refine bT ?_ B1)))

theorem qKl (m m' : Int) (v u : Value) (xs fs : Li) (w : World) (hv : RdI w v xs) (hu : RdI w u fs) (hl : fs.length = xs.length) (h1 : 1 ≤ xs.length) (hn : xs.length ≤ 1048576) (hm : 2 ≤ m) (hm' : m ≤ 1000000000000)
  (hx : ∀ x ∈ xs, 0 ≤ x ∧ x < m) (hf : ∀ x ∈ fs, 0 ≤ x ∧ x < m) :
  Calls Tryz.prog 99 #[.agg #[.int .i64 m, v], .agg #[.int .i64 m', u]] w fun e w' => qE5 w w' m (qAH m xs.length fs xs) e := by
 obtain ⟨o, c, rfl, hmx, -⟩ := id hv
 obtain ⟨o', c', rfl, hmy, -⟩ := id hu
 have hml := hmx.1
 unfold maxLen at hmx hmy
 have HL := dd hl
 clear hl
 go_enter Tryz.func99, Tryz.ntmps99
 go_wp2_with fail
 (obtain ⟨w0, hw0⟩ : ∃ W : World, W = (((w.alloc (.cells #[.int .i64 m, .slice o xs.length c] 34)).alloc (.cells #[.int .i64 m', .slice o' fs.length c'] 34)).alloc (.cells #[.int .i64 0, .slice none 0 0] 34)) := ⟨_, rfl⟩; have X0 := (RB2.mk1 w  (.int .i64 m) (.slice o xs.length c) 34).1.below (w' := w0) (bV hw0) (nl _); have Y0 := (RB2.mk2 w (.cells #[.int .i64 m, .slice o xs.length c] 34) (.int .i64 m') (.slice o' fs.length c') 34).1.below (w' := w0) (bV hw0) (nl _); have R0 := (RB2.mk3 w (.cells #[.int .i64 m, .slice o xs.length c] 34) (.cells #[.int .i64 m', .slice o' fs.length c'] 34) (.int .i64 0) (.slice none 0 0) 34).below (w' := w0) (bV hw0) (nl _); have B0 : Below w.heap.size w w0 := (bV hw0); have hv0 := hv.below (w' := w0) (bV hw0) (nl _); have hu0 := hu.below (w' := w0) (bV hw0) (nl _); rw [← hw0]; clear hw0)
 obtain ⟨x0, x1⟩ := id X0
 have hzl : w.heap.size + 2 < w0.heap.size := R0.1.lt
 go_wp2_with fail
 refine (qHX m 0 _ xs _ hv0 h1 hn hm Oo Oo Oo).mono ?_
 rintro e w1 ⟨vz, rfl, how, hb⟩
 obtain ⟨oz, cz, rfl⟩ := how.shapeN (n := xs.length) (qG3 _ _ _)
 rw [qOu] at how
 (have X1 := X0.below hb; have Y1 := Y0.below hb; have R1 := R0.below hb; have hv1 := hv0.below hb; have hu1 := hu0.below hb; have B1 := B0.trans (hb.mono B0.size))
 clear x0 x1
 obtain ⟨x0, x1⟩ := id X1
 have hb1 := hb.size
 have lX := X1.lt
 have lR := R1.1.lt
 go_wp2_with fail
 clear x0 x1
 (have hb : Below w1.heap.size w1 (w1.alloc (.cells #[.int .i64 m, .slice oz xs.length cz] 34)) := bZ; have X2 := X1.below hb; have Y2 := Y1.below hb; have R2 := R1.below hb; have hv2 := hv1.below hb; have hu2 := hu1.below hb; have how := how.alloc (.cells #[.int .i64 m, .slice oz xs.length cz] 34); have B2 := B1.trans (hb.mono B1.size); have O := RB2.mk1 w1 (.int .i64 m) (.slice oz xs.length cz) 34; have hl_w2 := hb.size; clear hb; generalize w1.alloc (.cells #[.int .i64 m, .slice oz xs.length cz] 34) = w2 at O B2 hl_w2 X2 Y2 R2 hv2 hu2 how ⊢)
 refine (qCb m o xs.length c _ hml).mono ?_
 rintro e w3 ⟨rfl, hb⟩
 (have X3 := X2.below hb; have Y3 := Y2.below hb; have R3 := R2.below hb; have hv3 := hv2.below hb; have hu3 := hu2.below hb; have B3 := B2.trans (hb.mono B2.size))
 have O3 := O.below hb
 have how3 := how.below hb
 have hb3 := hb.size
 clear hb how O lX lR
 have lX := X3.lt
 have lR := R3.1.lt
 have B3s := B3.size
 obtain ⟨bx, fx, rfl, hcx⟩ := hv.cells h1
 have lx := qBH (hcx 0 _ (qA5 Oo))
 clear hcx
 go_wp2_with fail
 go_loopw [6] (fun i wr => ∃ (j : Nat) (ov : Option Addr) (cv : Nat), j ≤ xs.length ∧ i = .int .i64 ((j : Int) - 1) ∧ OwI wr w0.heap.size (.slice ov xs.length cv) (qAH m xs.length fs (xs.drop j)) ∧ RB2 wr w1.heap.size (.int .i64 m) (.slice ov xs.length cv) ∧ w3.grownBy wr (some w1.heap.size)) (fun i _ => ((intOf i) + 1).toNat)
 case atStart => exact ⟨xs.length, oz, cz, Nat.le_refl _, rfl, by rw [List.drop_length]; exact how3.mono Oo, O3, World.grownBy.refl _ _⟩
 case round =>
  obtain ⟨j, ov, cv, hj, rfl, hO, OO, hg⟩ := hrel; have Br := qDC B3 hg Oo B3s; have Xr := X3.grown hg (by simp; omega); have Yr := Y3.grown hg (by simp; omega); have hvr := hv.below Br; have hur := hu.below Br; have hgs := hg.size
  by_cases hlt : 0 < j
  ·obtain ⟨k, rfl⟩ : ∃ k, j = k + 1 := ⟨j - 1, Oo⟩; have ek : (((k + 1 : Nat) : Int)) - 1 = (k : Int) := Oo; rw [ek]; clear ek; have HS := dd (qJp (m := m) (n := xs.length) (f := fs) (qA5 (show k < xs.length by omega))); have HLl := dd (qDo m xs.length fs (xs.drop (k + 1))); have HRl := dd (qEy (m := m) (show 0 < m by omega) (n := xs.length) (f := fs) (cs := xs.drop (k + 1))); generalize qAH m xs.length fs (xs.drop (k + 1)) = l at hO HS HLl HRl; have hkx := qAG Oo hx k; have i0 : (0 : Int) ≤ (k : Int) := Oo; have i1 : (k : Int) < (xs.length : Int) := Oo
   go_wp2_with fail
   have hd0 : Below wr.heap.size wr wr.drew := (Below.refl _ _).drew; have hsd0 := hd0.size; have hlb_OO := OO.1.lt; obtain ⟨⟨q0_OO_0, q0_OO_1⟩, qf0_OO⟩ := OO.below (Below.refl wr.heap.size wr) (nl _); obtain ⟨q0_Xr_0, q0_Xr_1⟩ := Xr.below (Below.refl wr.heap.size wr) (nl _); obtain ⟨q0_Yr_0, q0_Yr_1⟩ := Yr.below (Below.refl wr.heap.size wr) (nl _); have q0_cx := (((hvr).below (Below.refl wr.heap.size wr) (nl _))).cell0 (qA5 (show k < xs.length by omega)); refine qHs (S := fun w' => w'.cell? ⟨w1.heap.size , 0, none⟩ = some (.int .i64 m) ∧ w'.cell? ⟨w1.heap.size , 1, none⟩ = some (.slice ov xs.length cv) ∧ w'.cell? ⟨w.heap.size, 0, none⟩ = some (.int .i64 m) ∧ w'.cell? ⟨w.heap.size, 1, none⟩ = some (.slice (some ⟨bx, fx, none⟩) xs.length c) ∧ w'.cell? ⟨w.heap.size + 1, 0, none⟩ = some (.int .i64 m') ∧ w'.cell? ⟨w.heap.size + 1, 1, none⟩ = some (.slice o' fs.length c') ∧ w'.cell? ⟨bx, fx + k, none⟩ = some (.int .i64 (at0 xs k))) 11 kr ?_; have hHeld : (fun w' : World => w'.cell? ⟨w1.heap.size , 0, none⟩ = some (.int .i64 m) ∧ w'.cell? ⟨w1.heap.size , 1, none⟩ = some (.slice ov xs.length cv) ∧ w'.cell? ⟨w.heap.size, 0, none⟩ = some (.int .i64 m) ∧ w'.cell? ⟨w.heap.size, 1, none⟩ = some (.slice (some ⟨bx, fx, none⟩) xs.length c) ∧ w'.cell? ⟨w.heap.size + 1, 0, none⟩ = some (.int .i64 m') ∧ w'.cell? ⟨w.heap.size + 1, 1, none⟩ = some (.slice o' fs.length c') ∧ w'.cell? ⟨bx, fx + k, none⟩ = some (.int .i64 (at0 xs k))) wr.drew := by go_keep
   refine' qBL (i := 0) (v := _) rfl kr kr kr kr (fun _ _ _ h => h) (Or.inl ⟨by rfl, ?yT1⟩) hHeld ?rT1
   case yT1 => (intro w' hSw; (try dsimp only at hSw); go_simp; try with_reducible rfl)
   try simp only [Act.put, sL]
   refine' qBL (i := 1) (v := _) rfl kr kr kr kr (fun _ _ _ h => h) (Or.inl ⟨by rfl, ?yT2⟩) hHeld ?rT2
   case yT2 => (intro w' hSw; (try dsimp only at hSw); go_simp; try with_reducible rfl)
   try simp only [Act.put, sL]
   refine' qBL (i := 3) (v := _) rfl kr kr kr kr (fun _ _ _ h => h) (Or.inl ⟨by rfl, ?yT3⟩) hHeld ?rT3
   case yT3 => (intro w' hSw; (try dsimp only at hSw); go_simp; try with_reducible rfl)
   try simp only [Act.put, sL]
   refine' qBL (i := 4) (v := _) rfl kr kr kr kr (fun _ _ _ h => h) (Or.inl ⟨by rfl, ?yT4⟩) hHeld ?rT4
   case yT4 => (intro w' hSw; (try dsimp only at hSw); go_simp; try with_reducible rfl)
   try simp only [Act.put, sL]
   refine' qBL (i := 5) (v := _) rfl kr kr kr kr (fun _ _ _ h => h) (Or.inl ⟨by rfl, ?yT5⟩) hHeld ?rT5
   case yT5 => (intro w' hSw; (try dsimp only at hSw); go_simp; try with_reducible rfl)
   try simp only [Act.put, sL]
   refine' qBL (i := 6) (v := _) rfl kr kr kr kr (fun _ _ _ h => h) (Or.inl ⟨by rfl, ?yT6⟩) hHeld ?rT6
   case yT6 => (intro w' hSw; (try dsimp only at hSw); go_simp; try with_reducible rfl)
   try simp only [Act.put, sL]
   refine' qBL (i := 7) (v := _) rfl kr kr kr kr (fun _ _ _ h => h) (Or.inl ⟨by rfl, ?yT7⟩) hHeld ?rT7
   case yT7 => (intro w' hSw; (try dsimp only at hSw); go_simp; try with_reducible rfl)
   try simp only [Act.put, sL]
   refine' qBL (i := 8) (v := _) rfl kr kr kr kr (fun _ _ _ h => h) (Or.inl ⟨by rfl, ?yT8⟩) hHeld ?rT8
   case yT8 => (intro w' hSw; (try dsimp only at hSw); go_simp; try with_reducible rfl)
   try simp only [Act.put, sL]
   refine qCR (i := 2) rfl kr (fun K hK => ?_); go_simp
   go_at_call 90
   refine (qLY m m' _ _ l fs _ ((hO.rd).below bZ (nl _)) ((hur).below bZ (nl _)) (by rw [HL.out, HLl.out]) (by rw [HLl.out]; omega) (by rw [HLl.out]; omega) hm Oo HRl.out hf).mono ?_; rintro e wd1 ⟨vt1, rfl, hod1, hbd1⟩; rw [HLl.out] at hod1; obtain ⟨ot, ct, rfl⟩ := hod1.shapeN (n := xs.length) (qBX _ _ _ _); have hd1 : Below wr.heap.size wr wd1 := (bY1 hbd1); have hsd1 := hd1.size; obtain ⟨⟨q1_OO_0, q1_OO_1⟩, qf1_OO⟩ := OO.below hd1; obtain ⟨q1_Xr_0, q1_Xr_1⟩ := Xr.below hd1; obtain ⟨q1_Yr_0, q1_Yr_1⟩ := Yr.below hd1; have q1_cx := (((hvr).below hd1)).cell0 (qA5 (show k < xs.length by omega))
   go_wp2_with fail
   clear hHeld; refine oKq hK (by go_keep) fun hHeld => ?_
   clear hK K
   try simp only [Act.put, sL]
   refine qCR (i := 9) rfl kr (fun K hK => ?_); go_simp
   go_at_call 87
   refine (qHX m (at0 xs k) _ xs _ ((hvr).below (bY1 hbd1) (nl _)) h1 hn hm Oo Oo Oo).mono ?_; rintro e wd2 ⟨vc2, rfl, hod2, hbd2⟩; obtain ⟨oc, cc, rfl⟩ := hod2.shapeN (n := xs.length) (qG3 _ _ _); have hd2 : Below wr.heap.size wr wd2 := (bY2 hbd1 hbd2); have hsd2 := hd2.size; obtain ⟨⟨q2_OO_0, q2_OO_1⟩, qf2_OO⟩ := OO.below hd2; obtain ⟨q2_Xr_0, q2_Xr_1⟩ := Xr.below hd2; obtain ⟨q2_Yr_0, q2_Yr_1⟩ := Yr.below hd2; have q2_cx := (((hvr).below hd2)).cell0 (qA5 (show k < xs.length by omega))
   go_wp2_with fail
   clear hHeld; refine oKq hK (by go_keep) fun hHeld => ?_
   clear hK K
   try simp only [Act.put, sL]
   refine qCR (i := 10) rfl kr (fun K hK => ?_); go_simp
   go_at_call 89
   refine (plus_c m m _ _ (qAZ m xs.length l fs) (qCf m (at0 xs k) xs.length) _ ((hod1.below (bY1 hbd2))).rd ((hod2.below bZ)).rd (by rw [qG3, qBX]) (by rw [qBX]; omega) (by rw [qBX]; omega) hm Oo (qDi Oo) (qMN Oo _ _)).mono ?_; rintro e wd3 ⟨vp3, rfl, hod3, hbd3⟩; rw [qBX] at hod3; obtain ⟨op, cp, rfl⟩ := hod3.shapeN (n := xs.length) (qHa _ _ _ _); have hd3 : Below wr.heap.size wr wd3 := (bY3 hbd1 hbd2 hbd3); have hsd3 := hd3.size; obtain ⟨⟨q3_OO_0, q3_OO_1⟩, qf3_OO⟩ := OO.below hd3; obtain ⟨q3_Xr_0, q3_Xr_1⟩ := Xr.below hd3; obtain ⟨q3_Yr_0, q3_Yr_1⟩ := Yr.below hd3; have q3_cx := (((hvr).below hd3)).cell0 (qA5 (show k < xs.length by omega))
   go_wp2_with fail
   clear hHeld; refine oKq hK (by go_keep) fun hHeld => ?_
   clear hK K
   try simp only [Act.put, sL]
   refine qCR (i := 11) rfl kr (fun K hK => ?_); go_simp
   (try go_wp2_with fail)
   refine hK.out _ _ (nD ·) ?_; clear hK K
   try simp only [Act.put, sL]
   refine qH5 kr ?_ _; have hOn := OO.below hd3
   go_wp2_with fail
   have hgZ : wr.grownBy ((wd3.setCell ⟨w1.heap.size , 0, none⟩ (.int .i64 m)).setCell ⟨w1.heap.size , 1, none⟩ (.slice op xs.length cp)) (some w1.heap.size ) := (qAw (qAw (show wr.grownBy wd3 (some w1.heap.size ) from World.grownBy.mk hd3.os hd3.tape hd3.output hd3.size (fun k hk _ => hd3.block k hk)) _ _) _ _); have hOZ : RB2 ((wd3.setCell ⟨w1.heap.size , 0, none⟩ (.int .i64 m)).setCell ⟨w1.heap.size , 1, none⟩ (.slice op xs.length cp)) w1.heap.size  (.int .i64 m) (.slice op xs.length cp) := RB2.put hOn _ _; have hRZ : OwI ((wd3.setCell ⟨w1.heap.size , 0, none⟩ (.int .i64 m)).setCell ⟨w1.heap.size , 1, none⟩ (.slice op xs.length cp)) wr.heap.size (.slice op xs.length cp) (qCi m xs.length (qAZ m xs.length l fs) (qCf m (at0 xs k) xs.length)) := ((hod3.low sz _).low sz _).mono sz; rw [qNa Oo h1 _ _ hkx (qBX _ _ _ _) (qDi Oo), ← HS.out] at hRZ; exact ⟨⟨k, op, cp, Oo, by go_num, hRZ.mono Oo, hOZ, hg.trans hgZ⟩, by simp [intOf]⟩
  ·obtain rfl : j = 0 := Oo; rw [List.drop_zero] at hO; obtain ⟨⟨z0, z1⟩, zf⟩ := id OO; obtain ⟨⟨r0, r1⟩, rf⟩ := R3.grown hg (by simp; omega); go_wp2; refine bodyPost_ret (v := .agg #[.int .i64 m, .slice ov xs.length cv]) (by simp [results, Tryz.results99, go_sem, r0, r1]) rfl ⟨_, rfl, ?_, ?_⟩
   ·exact ((hO.low sz _).low sz _).mono sz
   ·(repeat (first | exact bR _ _ | (refine bS ?_ _) | (refine bA ?_ _) | (refine bN ?_ _) | (refine bD ?_) | (refine bT ?_ Br)))

end Go.Proofs.YtfpphfjlpgefaaaGreat
