/- Lemmas. -/
import Derived.Test.YtoednonijmkbjaaGreatLM29
import Derived.Test.YtoednonijmkbjaaGreatLM28
set_option linter.unusedSimpArgs false
set_option linter.unusedVariables false
namespace Go.Proofs.YtoednonijmkbjaaGreat
open Go.RowKit

theorem fac_own {p n : Nat} {m : Int} {T : List (List Int)} {ls : List Int} (h : 0 ≤ ownF p m T n ls) : facP m (laz n) (at0 (topL n (subT m (n + 1) (typT2 p m n ls) (cutT (n + 1) T)) (n + 1))) (n + 1) = ownF p m T n ls := by
  rw [facP_congr (d' := fun i => (atT (typT2 p m n ls) i (n - i) - atT (cutT (n + 1) T) i (n - i)) % m) (fun i hi => by
    unfold topL
    rw [mk_at hi]
    unfold subT
    rw [atT_tri (by omega)])]
  unfold ownF at h ⊢
  exact facP_eq h
theorem tyS_step {p n N : Nat} {m : Int} {t T : List (List Int)} {ls cv : List Int} (h2 : 2 ≤ n) (h : tyS p m N t (n - 2) = (T, ls, cv)) :
    tyS p m N t (n + 1 - 2) = if isPw p n = true then (T, ls ++ [ownF p m T n ls], cv) else (cooT m N T (stpG m N n (ownF p m T n ls)), ls, horn m N cv (stpG m N n (ownF p m T n ls))) := by
  obtain ⟨k, rfl⟩ : ∃ k, n = k + 2 := ⟨n - 2, by omega⟩
  rw [show k + 2 - 2 = k by omega] at h
  show (if isPw p (k + 2) = true then ((tyS p m N t k).1, (tyS p m N t k).2.1 ++ [ownF p m (tyS p m N t k).1 (k + 2) (tyS p m N t k).2.1], (tyS p m N t k).2.2)
    else (cooT m N (tyS p m N t k).1 (stpG m N (k + 2) (ownF p m (tyS p m N t k).1 (k + 2) (tyS p m N t k).2.1)), (tyS p m N t k).2.1, horn m N (tyS p m N t k).2.2 (stpG m N (k + 2) (ownF p m (tyS p m N t k).1 (k + 2) (tyS p m N t k).2.1)))) = _
  rw [h]
theorem tyS_at {p D n : Nat} {m : Int} {t T : List (List Int)} {ls cv : List Int} {M : Nat} (hM : m = M) (hp : P4 p) (hm : 2 ≤ m) (hpw : isPw p M = true) (hD1 : 1 ≤ D) (hD : D ≤ 10) (ht : PlaT m (D + 1) t) (L : Lw m (D + 1) (atT t)) (h2 : 2 ≤ n) (hn : n ≤ D + 1) (h : tyS p m (D + 1) t (n - 2) = (T, ls, cv)) :
    PlaT m (D + 1) T ∧ ls.length ≤ 3 ∧ (∀ x ∈ ls, 0 ≤ x ∧ x < m) ∧ cv.length = D + 1 ∧ (∀ x ∈ cv, 0 ≤ x ∧ x < m) ∧ ls.length = mostOf p (n - 1) ∧ (n ≤ D → 0 ≤ ownF p m T n ls ∧ ownF p m T n ls < m) := by
  obtain ⟨e, he⟩ := isPw_p hp hpw
  have I := tyS_inv (e := e) hp hm (by rw [hM, he]) hD1 hD ht L (n - 2) (by omega)
  rw [h] at I
  have hl := I.len
  rw [show n - 2 + 1 = n - 1 by omega] at hl
  refine ⟨I.ok, ?_, I.rng, I.clen, I.crng, hl, fun hnD => ?_⟩
  · show ls.length ≤ 3
    have hl' : ls.length = mostOf p (n - 1) := hl
    rw [hl']; exact most_3 hp (by omega)
  · have hA := I.agrF hp (by omega) hD hm
    rw [show n - 2 + 2 = n by omega] at hA
    obtain ⟨h0, h1, -⟩ := own_at hp hm hD I.lw h2 hnD hA
    exact ⟨h0, h1⟩

set_option maxHeartbeats 4000000 in
set_option maxRecDepth 100000 in
theorem typify_c (p D M : Nat) (m : Int) (v : Value) (t : List (List Int)) (w : World) (hM : m = M) (hv : RdT w v t) (hp : P4 p) (hD1 : 1 ≤ D) (hD : D ≤ 10) (hm : 2 ≤ m) (hm' : m ≤ 10000) (ht : PlaT m (D + 1) t) (L : Lw m (D + 1) (atT t)) (hpw : isPw p M = true) :
    Calls Tryz.prog 32 #[.int .i64 p, .agg #[.int .i64 m, v]] w fun e w' => ∃ vc vT, e = .returned (.tuple #[.agg #[.int .i64 m, vc], .agg #[.int .i64 m, vT]]) ∧ OwI w' w.heap.size vc (tyS p m (D + 1) t (D - 1)).2.2 ∧ OwS w' w.heap.size vT (typT2 p m D (tyS p m (D + 1) t (D - 1)).2.1) ∧ Below w.heap.size w w' := by
  obtain ⟨o, c, rfl, hmx, -⟩ := id hv
  rw [ht.1] at hmx ⊢
  have hv' : RdT w (.slice o (D + 1) c) t := by rw [ht.1] at hv; exact hv
  have HA := Lib.hid (fun (n : Nat) (T : List (List Int)) (ls cv : List Int) (h2 : 2 ≤ n) (hn : n ≤ D + 1) (h : tyS p m (D + 1) t (n - 2) = (T, ls, cv)) => tyS_at hM hp hm hpw hD1 hD ht L h2 hn h)
  have hp2 := hp.pos
  clear hv ht L hpw hM
  go_enter Tryz.func32, Tryz.ntmps32
  go_wp2_with fail
  have hRds := hv'.rds
  (have RF0 := ((RB2.mk1 w  (.int .i64 m) (.slice o (D + 1) c) 31)).below (w' := (((w.alloc (.cells #[.int .i64 m, .slice o (D + 1) c] 31)).alloc (.cells #[.int .i64 0, .slice none 0 0] 28)).alloc (.cells #[.int .i64 0, .slice none 0 0] 31))) (by (repeat (first | exact bR _ _ | (refine bS ?_ _) | (refine bA ?_ _) | (refine bN ?_ _) | (refine bD ?_)))) (Nat.le_refl _); have RS0 := ((RB2.mk2 w (.cells #[.int .i64 m, .slice o (D + 1) c] 31) (.int .i64 0) (.slice none 0 0) 28)).below (w' := (((w.alloc (.cells #[.int .i64 m, .slice o (D + 1) c] 31)).alloc (.cells #[.int .i64 0, .slice none 0 0] 28)).alloc (.cells #[.int .i64 0, .slice none 0 0] 31))) (by (repeat (first | exact bR _ _ | (refine bS ?_ _) | (refine bA ?_ _) | (refine bN ?_ _) | (refine bD ?_)))) (Nat.le_refl _); have RP0 := ((RB2.mk3 w (.cells #[.int .i64 m, .slice o (D + 1) c] 31) (.cells #[.int .i64 0, .slice none 0 0] 28) (.int .i64 0) (.slice none 0 0) 31)).below (w' := (((w.alloc (.cells #[.int .i64 m, .slice o (D + 1) c] 31)).alloc (.cells #[.int .i64 0, .slice none 0 0] 28)).alloc (.cells #[.int .i64 0, .slice none 0 0] 31))) (by (repeat (first | exact bR _ _ | (refine bS ?_ _) | (refine bA ?_ _) | (refine bN ?_ _) | (refine bD ?_)))) (Nat.le_refl _); have B0 : Below w.heap.size w (((w.alloc (.cells #[.int .i64 m, .slice o (D + 1) c] 31)).alloc (.cells #[.int .i64 0, .slice none 0 0] 28)).alloc (.cells #[.int .i64 0, .slice none 0 0] 31)) := (by (repeat (first | exact bR _ _ | (refine bS ?_ _) | (refine bA ?_ _) | (refine bN ?_ _) | (refine bD ?_)))); generalize ((w.alloc (.cells #[.int .i64 m, .slice o (D + 1) c] 31)).alloc (.cells #[.int .i64 0, .slice none 0 0] 28)).alloc (.cells #[.int .i64 0, .slice none 0 0] 31) = w0 at RF0 RS0 RP0 B0  ⊢)
  have hRds0 := hRds.below B0
  clear hRds
  obtain ⟨⟨a0, a1⟩, -⟩ := id RF0
  have hz0 := RP0.1.lt
  have hd0 : Below w0.heap.size w0 w0.drew := (Below.refl _ _).drew
  have hsd0 := hd0.size
  have f0_a := keep_cell hd0 (Nat.le_refl _) a0
  have f0_b := keep_cell hd0 (Nat.le_refl _) a1
  refine wp_region_K (S := fun w' => w'.cell? ⟨w.heap.size, 0, none⟩ = some (.int .i64 m) ∧ w'.cell? ⟨w.heap.size, 1, none⟩ = some (.slice o (D + 1) c)) [] (by kernel_rfl) ?_
  have hHeld : (fun w' : World => w'.cell? ⟨w.heap.size, 0, none⟩ = some (.int .i64 m) ∧ w'.cell? ⟨w.heap.size, 1, none⟩ = some (.slice o (D + 1) c)) w0.drew := by go_keep
  refine' wpAnyK_takeL (i := 0) (v := _) rfl (by kernel_rfl) (by kernel_rfl) (by kernel_rfl) (by kernel_rfl) (fun _ _ _ h => h) (Or.inl ⟨by rfl, ?yT1⟩) hHeld ?rT1
  case yT1 => (intro w' hSw; (try dsimp only at hSw); go_simp; try with_reducible rfl)
  try simp only [List.getElem_toArray, List.getElem_cons_zero, List.getElem_cons_succ, Act.put, List.setIfInBounds_toArray, List.set_cons_zero, List.set_cons_succ]
  refine' wpAnyK_takeL (i := 1) (v := _) rfl (by kernel_rfl) (by kernel_rfl) (by kernel_rfl) (by kernel_rfl) (fun _ _ _ h => h) (Or.inl ⟨by rfl, ?yT2⟩) hHeld ?rT2
  case yT2 => (intro w' hSw; (try dsimp only at hSw); go_simp; try with_reducible rfl)
  try simp only [List.getElem_toArray, List.getElem_cons_zero, List.getElem_cons_succ, Act.put, List.setIfInBounds_toArray, List.set_cons_zero, List.set_cons_succ]
  refine' wpAnyK_takeL (i := 2) (v := _) rfl (by kernel_rfl) (by kernel_rfl) (by kernel_rfl) (by kernel_rfl) (fun _ _ _ h => h) (Or.inl ⟨by rfl, ?yT3⟩) hHeld ?rT3
  case yT3 => (intro w' hSw; (try dsimp only at hSw); go_simp; try with_reducible rfl)
  try simp only [List.getElem_toArray, List.getElem_cons_zero, List.getElem_cons_succ, Act.put, List.setIfInBounds_toArray, List.set_cons_zero, List.set_cons_succ]
  refine wpAnyK_oneL (i := 3) rfl (by kernel_rfl) (fun K hK => ?_)
  go_simp
  go_at_call 54
  refine (degreeP_c m o (D + 1) c _ hmx.1).mono ?_
  rintro e wd1 ⟨rfl, hbd1⟩
  have hd1 : Below w0.heap.size w0 wd1 := (by (repeat (first | exact bR _ _ | (refine bS ?_ _) | (refine bA ?_ _) | (refine bN ?_ _) | (refine bD ?_) | (refine bT ?_ hbd1))))
  have hsd1 := hd1.size
  have hsz1_ := hbd1.size
  (try simp at hsz1_)
  have f1_a := keep_cell hd1 (Nat.le_refl _) a0
  have f1_b := keep_cell hd1 (Nat.le_refl _) a1
  go_wp2_with fail
  clear hHeld
  have hHeld : (fun w' : World => w'.cell? ⟨w.heap.size, 0, none⟩ = some (.int .i64 m) ∧ w'.cell? ⟨w.heap.size, 1, none⟩ = some (.slice o (D + 1) c)) wd1 := by go_keep
  refine hK.out _ _ (fun _ => hHeld) ?_
  clear hK K
  try simp only [List.getElem_toArray, List.getElem_cons_zero, List.getElem_cons_succ, Act.put, List.setIfInBounds_toArray, List.set_cons_zero, List.set_cons_succ]
  refine' wpAnyK_takeL (i := 4) (v := _) rfl (by kernel_rfl) (by kernel_rfl) (by kernel_rfl) (by kernel_rfl) (fun _ _ _ h => h) (Or.inl ⟨by rfl, ?yT4⟩) hHeld ?rT4
  case yT4 => (intro w' hSw; (try dsimp only at hSw); go_simp; try with_reducible rfl)
  try simp only [List.getElem_toArray, List.getElem_cons_zero, List.getElem_cons_succ, Act.put, List.setIfInBounds_toArray, List.set_cons_zero, List.set_cons_succ]
  refine' wpAnyK_takeL (i := 5) (v := _) rfl (by kernel_rfl) (by kernel_rfl) (by kernel_rfl) (by kernel_rfl) (fun _ _ _ h => h) (Or.inl ⟨by rfl, ?yT5⟩) hHeld ?rT5
  case yT5 => (intro w' hSw; (try dsimp only at hSw); go_simp; try with_reducible rfl)
  try simp only [List.getElem_toArray, List.getElem_cons_zero, List.getElem_cons_succ, Act.put, List.setIfInBounds_toArray, List.set_cons_zero, List.set_cons_succ]
  refine wpAnyK_done (by kernel_rfl) ?_ _
  go_wp2_with fail
  have hb1 := hd1
  have hb1s := hd1.size
  refine (variable_c m D (D + 1) _ (by omega) (by omega) (by omega)).mono ?_
  rintro e w2 ⟨vc, rfl, how, hb2⟩
  obtain ⟨oc, cc, rfl⟩ := how.shapeN (n := D + 1) (varL_len _)
  obtain ⟨gc, rfl, hgc1, hgc2⟩ := how.row (by omega)
  have hb2s := hb2.size
  go_wp2_with fail
  have B2w : Below w.heap.size w w2 := B0.trans ((hb1.trans (hb2.mono hb1s)).mono (by omega))
  have hw01 : Below w0.heap.size w0 w2 := hb1.trans (hb2.mono hb1s)
  have E3 : Below w2.heap.size w2 ((w2.alloc (.cells #[] 2)).alloc (.cells #[.int .i64 m, .slice (some ⟨gc, 0, none⟩) (D + 1) cc] 28)) := (by (repeat (first | exact bR _ _ | (refine bS ?_ _) | (refine bA ?_ _) | (refine bN ?_ _) | (refine bD ?_))))
  have C3 := RB2.mk2 w2 (.cells #[] 2) (.int .i64 m) (.slice (some ⟨gc, 0, none⟩) (D + 1) cc) 28
  have O3 := (OwI.lit w2 [] (by decide)).alloc (.cells #[.int .i64 m, .slice (some ⟨gc, 0, none⟩) (D + 1) cc] 28)
  simp at O3
  have hs3 : ((w2.alloc (.cells #[] 2)).alloc (.cells #[.int .i64 m, .slice (some ⟨gc, 0, none⟩) (D + 1) cc] 28)).heap.size = w2.heap.size + 2 := by simp
  have hV3 := how.below E3
  generalize (w2.alloc (.cells #[] 2)).alloc (.cells #[.int .i64 m, .slice (some ⟨gc, 0, none⟩) (D + 1) cc] 28) = w3 at E3 C3 O3 hs3 hV3 ⊢
  have F3 := (RF0.below hw01 (Nat.le_refl _)).below E3 (Nat.le_refl _)
  have S3 := (RS0.below hw01 (Nat.le_refl _)).below E3 (Nat.le_refl _)
  have P3 := (RP0.below hw01 (Nat.le_refl _)).below E3 (Nat.le_refl _)
  have T3 := (hRds0.below hw01).below E3
  have B3 := B2w.trans (E3.mono B2w.size)
  obtain ⟨bC, hbC⟩ : ∃ bC, bC = w2.heap.size + 1 := ⟨_, rfl⟩
  obtain ⟨gL, hgL⟩ : ∃ gL, gL = w2.heap.size := ⟨_, rfl⟩
  have hM3 : TyM (w.heap.size + 3) D t [] (varL (D + 1)) o c gc cc gL 0 [w.heap.size, w.heap.size + 1, w.heap.size + 2, bC] w3 := by
    refine ⟨⟨_, _, T3, .inr (by omega), fun x hx => .inr ?_⟩, hV3.mono (by omega), (by rw [hgL]; exact O3.mono (by omega)), by omega, ?_, ?_, fun x hx => ?_⟩
    · simp at hx; omega
    · simp; omega
    · simp; omega
    · simp at hx; omega
  rw [← hbC] at C3
  rw [← hbC, ← hgL]
  have hbC3 : w.heap.size + 3 ≤ bC := by omega
  clear E3 O3 hV3 T3 RF0 RS0 RP0 hRds0 how hw01 B2w hb1 hb2 hd0 hd1 hbd1 f0_a f0_b f1_a f1_b a0 a1 hb1s hb2s hgc1 hgc2 hs3 hz0 hbC hgL
  go_loopw [9, 10] (fun s i wr => ∃ (n : Nat) (T : List (List Int)) (ls cv : List Int) (oT : Option Addr) (cT gc cc g cl : Nat), 2 ≤ n ∧ n ≤ D + 1 ∧ i = .int .i64 n ∧ s = .slice (some ⟨g, 0, none⟩) ls.length cl ∧ Hid (tyS p m (D + 1) t (n - 2) = (T, ls, cv)) ∧ RB2 wr w.heap.size (.int .i64 m) (.slice oT (D + 1) cT) ∧ RB2 wr (w.heap.size + 1) (.int .i64 0) (.slice none 0 0) ∧ RB2 wr (w.heap.size + 2) (.int .i64 0) (.slice none 0 0) ∧ RB2 wr bC (.int .i64 m) (.slice (some ⟨gc, 0, none⟩) (D + 1) cc) ∧ TyM (w.heap.size + 3) D T ls cv oT cT gc cc g cl [w.heap.size, w.heap.size + 1, w.heap.size + 2, bC] wr ∧ Below w.heap.size w wr) (fun _ i _ => D + 1 - (intOf i).toNat)
  case atStart => exact ⟨2, t, [], varL (D + 1), o, c, gc, cc, gL, 0, Nat.le_refl _, by omega, rfl, rfl, Lib.hid rfl, F3, S3, P3, C3, hM3, B3⟩
  case round =>
    clear F3 S3 P3 C3 hM3 B3
    obtain ⟨n, T, ls, cv, oT, cT, gc, cc, g, cl, n2, hn, rfl, rfl, HK, RF, RS, RP, RC, HM, B⟩ := hrel
    obtain ⟨hT, hl3, hlr, hcl, hcr, hlm, hown⟩ := HA.out n T ls cv n2 hn HK.out
    have HT := Lib.hid hT
    have HCl := Lib.hid hcl
    have HLm := Lib.hid hlm
    clear hT hcl hlm
    have Bs := B.size
    have lP := RP.1.lt
    have lC := RC.1.lt
    have hlO := HM.ls.rd
    by_cases hlt : n ≤ D
    · obtain ⟨y, hy⟩ : ∃ y, y = ownF p m T n ls := ⟨_, rfl⟩
      have hyr := hown hlt
      have HF := Lib.hid (fac_own hyr.1)
      have HSt := Lib.hid (tyS_step n2 HK.out)
      rw [← hy] at HF HSt hyr
      clear hown hy
      have i1 : (n : Int) ≤ (D : Int) := by omega
      go_wp2_with fail
      refine (typicalLaw_t p n m _ ls _ hlO hp (by omega) (by omega) hm hm' hl3 hlr).mono ?_
      rintro e w1 ⟨v1, rfl, how1, hb1⟩
      obtain ⟨o1, c1, rfl⟩ := how1.shapeN (n := n + 1) (by rw [typT2_eq]; exact tri_len _ _)
      have hb1s := hb1.size
      go_wp2_with fail
      have G2 := Box2.mk' w1 (.int .i64 m) (.slice o1 (n + 1) c1) 31
      have hbA : Below w1.heap.size w1 (w1.alloc (.cells #[.int .i64 m, .slice o1 (n + 1) c1] 31)) := (by (repeat (first | exact bR _ _ | (refine bS ?_ _) | (refine bA ?_ _) | (refine bN ?_ _) | (refine bD ?_))))
      have hh2 := how1.rd.below hbA (Nat.le_refl _)
      have E2 := hb1.trans (hbA.mono hb1s)
      have hs2 : (w1.alloc (.cells #[.int .i64 m, .slice o1 (n + 1) c1] 31)).heap.size = w1.heap.size + 1 := by simp
      generalize w1.alloc (.cells #[.int .i64 m, .slice o1 (n + 1) c1] 31) = w2 at G2 hh2 E2 hs2 hbA ⊢
      clear hbA how1 hb1
      have F2 := RF.below E2 (Nat.le_refl _)
      have hf2 := HM.rd.below E2 (Nat.le_refl _)
      obtain ⟨⟨a0, a1⟩, -⟩ := id F2
      obtain ⟨g0, g1⟩ := id G2
      have HGP := Lib.hid (show PlaT m (n + 1) (cutT (n + 1) T) from cutT_ok HT.out (by omega))
      have HHP := Lib.hid (show PlaT m (n + 1) (typT2 p m n ls) from typT2_ok (by omega) p n ls)
      have HSP := Lib.hid (show PlaT m (n + 1) (subT m (n + 1) (typT2 p m n ls) (cutT (n + 1) T)) from tri_ok fun _ _ _ => mod_lt' (by omega))
      have HTr := Lib.hid (show ∀ x ∈ topL n (subT m (n + 1) (typT2 p m n ls) (cutT (n + 1) T)) (n + 1), 0 ≤ x ∧ x < m from fun x hx => by
        unfold topL at hx
        simp only [mk, List.mem_map, List.mem_range] at hx
        obtain ⟨i, hi, rfl⟩ := hx
        exact tab_range HSP.out (by omega))
      have hd0 : Below w2.heap.size w2 w2.drew := (Below.refl _ _).drew
      have hsd0 := hd0.size
      have f0_a := keep_cell hd0 (Nat.le_refl _) a0
      have f0_b := keep_cell hd0 (Nat.le_refl _) a1
      have f0_c := keep_cell hd0 (Nat.le_refl _) g0
      have f0_d := keep_cell hd0 (Nat.le_refl _) g1
      refine wp_region_K (S := fun w' => w'.cell? ⟨w.heap.size, 0, none⟩ = some (.int .i64 m) ∧ w'.cell? ⟨w.heap.size, 1, none⟩ = some (.slice oT (D + 1) cT) ∧ w'.cell? ⟨w1.heap.size, 0, none⟩ = some (.int .i64 m) ∧ w'.cell? ⟨w1.heap.size, 1, none⟩ = some (.slice o1 (n + 1) c1)) [] (by kernel_rfl) ?_
      have hHeld : (fun w' : World => w'.cell? ⟨w.heap.size, 0, none⟩ = some (.int .i64 m) ∧ w'.cell? ⟨w.heap.size, 1, none⟩ = some (.slice oT (D + 1) cT) ∧ w'.cell? ⟨w1.heap.size, 0, none⟩ = some (.int .i64 m) ∧ w'.cell? ⟨w1.heap.size, 1, none⟩ = some (.slice o1 (n + 1) c1)) w2.drew := by go_keep
      refine' wpAnyK_takeL (i := 0) (v := _) rfl (by kernel_rfl) (by kernel_rfl) (by kernel_rfl) (by kernel_rfl) (fun _ _ _ h => h) (Or.inl ⟨by rfl, ?yT6⟩) hHeld ?rT6
      case yT6 => (intro w' hSw; (try dsimp only at hSw); go_simp; try with_reducible rfl)
      try simp only [List.getElem_toArray, List.getElem_cons_zero, List.getElem_cons_succ, Act.put, List.setIfInBounds_toArray, List.set_cons_zero, List.set_cons_succ]
      refine' wpAnyK_takeL (i := 1) (v := _) rfl (by kernel_rfl) (by kernel_rfl) (by kernel_rfl) (by kernel_rfl) (fun _ _ _ h => h) (Or.inl ⟨by rfl, ?yT7⟩) hHeld ?rT7
      case yT7 => (intro w' hSw; (try dsimp only at hSw); go_simp; try with_reducible rfl)
      try simp only [List.getElem_toArray, List.getElem_cons_zero, List.getElem_cons_succ, Act.put, List.setIfInBounds_toArray, List.set_cons_zero, List.set_cons_succ]
      refine' wpAnyK_takeL (i := 2) (v := _) rfl (by kernel_rfl) (by kernel_rfl) (by kernel_rfl) (by kernel_rfl) (fun _ _ _ h => h) (Or.inl ⟨by rfl, ?yT8⟩) hHeld ?rT8
      case yT8 => (intro w' hSw; (try dsimp only at hSw); go_simp; try with_reducible rfl)
      try simp only [List.getElem_toArray, List.getElem_cons_zero, List.getElem_cons_succ, Act.put, List.setIfInBounds_toArray, List.set_cons_zero, List.set_cons_succ]
      refine' wpAnyK_takeL (i := 3) (v := _) rfl (by kernel_rfl) (by kernel_rfl) (by kernel_rfl) (by kernel_rfl) (fun _ _ _ h => h) (Or.inl ⟨by rfl, ?yT9⟩) hHeld ?rT9
      case yT9 => (intro w' hSw; (try dsimp only at hSw); go_simp; try with_reducible rfl)
      try simp only [List.getElem_toArray, List.getElem_cons_zero, List.getElem_cons_succ, Act.put, List.setIfInBounds_toArray, List.set_cons_zero, List.set_cons_succ]
      refine wpAnyK_oneL (i := 4) rfl (by kernel_rfl) (fun K hK => ?_)
      go_simp
      go_at_call 59
      refine (cutP_c m m (D + 1) n _ T _ ((hf2).below (by (repeat (first | exact bR _ _ | (refine bS ?_ _) | (refine bA ?_ _) | (refine bN ?_ _) | (refine bD ?_)))) (Nat.le_refl _)) HT.out (by omega) (by omega) (by omega)).mono ?_
      rintro e wd1 ⟨va1, rfl, hod1, hbd1⟩
      have hd1 : Below w2.heap.size w2 wd1 := (by (repeat (first | exact bR _ _ | (refine bS ?_ _) | (refine bA ?_ _) | (refine bN ?_ _) | (refine bD ?_) | (refine bT ?_ hbd1))))
      have hsd1 := hd1.size
      have hsz1_ := hbd1.size
      (try simp at hsz1_)
      have f1_a := keep_cell hd1 (Nat.le_refl _) a0
      have f1_b := keep_cell hd1 (Nat.le_refl _) a1
      have f1_c := keep_cell hd1 (Nat.le_refl _) g0
      have f1_d := keep_cell hd1 (Nat.le_refl _) g1
      go_wp2_with fail
      clear hHeld
      have hHeld : (fun w' : World => w'.cell? ⟨w.heap.size, 0, none⟩ = some (.int .i64 m) ∧ w'.cell? ⟨w.heap.size, 1, none⟩ = some (.slice oT (D + 1) cT) ∧ w'.cell? ⟨w1.heap.size, 0, none⟩ = some (.int .i64 m) ∧ w'.cell? ⟨w1.heap.size, 1, none⟩ = some (.slice o1 (n + 1) c1)) wd1 := by go_keep
      refine hK.out _ _ (fun _ => hHeld) ?_
      clear hK K
      try simp only [List.getElem_toArray, List.getElem_cons_zero, List.getElem_cons_succ, Act.put, List.setIfInBounds_toArray, List.set_cons_zero, List.set_cons_succ]
      refine wpAnyK_oneL (i := 5) rfl (by kernel_rfl) (fun K hK => ?_)
      go_simp
      go_at_call 58
      refine (minusP_c m m _ _ (typT2 p m n ls) (cutT (n + 1) T) _ ((hh2).below (by (repeat (first | exact bR _ _ | (refine bS ?_ _) | (refine bA ?_ _) | (refine bN ?_ _) | (refine bD ?_) | (refine bT ?_ hbd1)))) (Nat.le_refl _)) ((hod1.below (by (repeat (first | exact bR _ _ | (refine bS ?_ _) | (refine bA ?_ _) | (refine bN ?_ _) | (refine bD ?_)))))).rd (by rw [HHP.out.1]; omega) (by rw [HHP.out.1]; omega) (by rw [HGP.out.1, HHP.out.1]) hm (by omega) HHP.out.2 HGP.out.2).mono ?_
      rintro e wd2 ⟨vb2, rfl, hod2, hbd2⟩
      rw [show tri (typT2 p m n ls).length (fun i j => (atT (typT2 p m n ls) i j - atT (cutT (n + 1) T) i j) % m) = subT m (n + 1) (typT2 p m n ls) (cutT (n + 1) T) by rw [HHP.out.1]; rfl] at hod2
      have hd2 : Below w2.heap.size w2 wd2 := (by (repeat (first | exact bR _ _ | (refine bS ?_ _) | (refine bA ?_ _) | (refine bN ?_ _) | (refine bD ?_) | (refine bT ?_ hbd1) | (refine bT ?_ hbd2))))
      have hsd2 := hd2.size
      have hsz2_ := hbd2.size
      (try simp at hsz2_)
      have f2_a := keep_cell hd2 (Nat.le_refl _) a0
      have f2_b := keep_cell hd2 (Nat.le_refl _) a1
      have f2_c := keep_cell hd2 (Nat.le_refl _) g0
      have f2_d := keep_cell hd2 (Nat.le_refl _) g1
      go_wp2_with fail
      clear hHeld
      have hHeld : (fun w' : World => w'.cell? ⟨w.heap.size, 0, none⟩ = some (.int .i64 m) ∧ w'.cell? ⟨w.heap.size, 1, none⟩ = some (.slice oT (D + 1) cT) ∧ w'.cell? ⟨w1.heap.size, 0, none⟩ = some (.int .i64 m) ∧ w'.cell? ⟨w1.heap.size, 1, none⟩ = some (.slice o1 (n + 1) c1)) wd2 := by go_keep
      refine hK.out _ _ (fun _ => hHeld) ?_
      clear hK K
      try simp only [List.getElem_toArray, List.getElem_cons_zero, List.getElem_cons_succ, Act.put, List.setIfInBounds_toArray, List.set_cons_zero, List.set_cons_succ]
      refine wpAnyK_oneL (i := 6) rfl (by kernel_rfl) (fun K hK => ?_)
      go_simp
      go_at_call 60
      refine (topP_c m m n _ (subT m (n + 1) (typT2 p m n ls) (cutT (n + 1) T)) _ ((hod2.below (by (repeat (first | exact bR _ _ | (refine bS ?_ _) | (refine bA ?_ _) | (refine bN ?_ _) | (refine bD ?_)))))).rd HSP.out (by omega)).mono ?_
      rintro e wd3 ⟨vc3, rfl, hod3, hbd3⟩
      have hd3 : Below w2.heap.size w2 wd3 := (by (repeat (first | exact bR _ _ | (refine bS ?_ _) | (refine bA ?_ _) | (refine bN ?_ _) | (refine bD ?_) | (refine bT ?_ hbd1) | (refine bT ?_ hbd2) | (refine bT ?_ hbd3))))
      have hsd3 := hd3.size
      have hsz3_ := hbd3.size
      (try simp at hsz3_)
      have f3_a := keep_cell hd3 (Nat.le_refl _) a0
      have f3_b := keep_cell hd3 (Nat.le_refl _) a1
      have f3_c := keep_cell hd3 (Nat.le_refl _) g0
      have f3_d := keep_cell hd3 (Nat.le_refl _) g1
      go_wp2_with fail
      clear hHeld
      have hHeld : (fun w' : World => w'.cell? ⟨w.heap.size, 0, none⟩ = some (.int .i64 m) ∧ w'.cell? ⟨w.heap.size, 1, none⟩ = some (.slice oT (D + 1) cT) ∧ w'.cell? ⟨w1.heap.size, 0, none⟩ = some (.int .i64 m) ∧ w'.cell? ⟨w1.heap.size, 1, none⟩ = some (.slice o1 (n + 1) c1)) wd3 := by go_keep
      refine hK.out _ _ (fun _ => hHeld) ?_
      clear hK K
      try simp only [List.getElem_toArray, List.getElem_cons_zero, List.getElem_cons_succ, Act.put, List.setIfInBounds_toArray, List.set_cons_zero, List.set_cons_succ]
      refine wpAnyK_oneL (i := 7) rfl (by kernel_rfl) (fun K hK => ?_)
      go_simp
      go_at_call 57
      refine (factorOf_c m n _ (topL n (subT m (n + 1) (typT2 p m n ls) (cutT (n + 1) T)) (n + 1)) _ ((hod3.below (by (repeat (first | exact bR _ _ | (refine bS ?_ _) | (refine bA ?_ _) | (refine bN ?_ _) | (refine bD ?_)))))).rd (mk_len _ _) (by omega) (by omega) hm hm' HTr.out).mono ?_
      rintro e wd4 ⟨rfl, hbd4⟩
      rw [HF.out]
      have hd4 : Below w2.heap.size w2 wd4 := (by (repeat (first | exact bR _ _ | (refine bS ?_ _) | (refine bA ?_ _) | (refine bN ?_ _) | (refine bD ?_) | (refine bT ?_ hbd1) | (refine bT ?_ hbd2) | (refine bT ?_ hbd3) | (refine bT ?_ hbd4))))
      have hsd4 := hd4.size
      have hsz4_ := hbd4.size
      (try simp at hsz4_)
      have f4_a := keep_cell hd4 (Nat.le_refl _) a0
      have f4_b := keep_cell hd4 (Nat.le_refl _) a1
      have f4_c := keep_cell hd4 (Nat.le_refl _) g0
      have f4_d := keep_cell hd4 (Nat.le_refl _) g1
      go_wp2_with fail
      clear hHeld
      have hHeld : (fun w' : World => w'.cell? ⟨w.heap.size, 0, none⟩ = some (.int .i64 m) ∧ w'.cell? ⟨w.heap.size, 1, none⟩ = some (.slice oT (D + 1) cT) ∧ w'.cell? ⟨w1.heap.size, 0, none⟩ = some (.int .i64 m) ∧ w'.cell? ⟨w1.heap.size, 1, none⟩ = some (.slice o1 (n + 1) c1)) wd4 := by go_keep
      refine hK.out _ _ (fun _ => hHeld) ?_
      clear hK K
      try simp only [List.getElem_toArray, List.getElem_cons_zero, List.getElem_cons_succ, Act.put, List.setIfInBounds_toArray, List.set_cons_zero, List.set_cons_succ]
      refine' wpAnyK_takeL (i := 8) (v := _) rfl (by kernel_rfl) (by kernel_rfl) (by kernel_rfl) (by kernel_rfl) (fun _ _ _ h => h) (Or.inl ⟨by rfl, ?yT10⟩) hHeld ?rT10
      case yT10 => (intro w' hSw; (try dsimp only at hSw); go_simp; try with_reducible rfl)
      try simp only [List.getElem_toArray, List.getElem_cons_zero, List.getElem_cons_succ, Act.put, List.setIfInBounds_toArray, List.set_cons_zero, List.set_cons_succ]
      refine wpAnyK_done (by kernel_rfl) ?_ _
      have E4 := E2.trans (hd4.mono (by omega))
      have E4s := E4.size
      have HM4 := HM.below E4
      have F4 := RF.below E4 (Nat.le_refl _)
      have S4 := RS.below E4 (Nat.le_refl _)
      have P4' := RP.below E4 (Nat.le_refl _)
      have C4 := RC.below E4 (Nat.le_refl _)
      have B4 := B.trans (E4.mono Bs)
      clear hHeld hod1 hod2 hod3 hbd1 hbd2 hbd3 hbd4 hd0 hd1 hd2 hd3 hd4 hsd0 hsd1 hsd2 hsd3 hsd4 hsz1_ hsz2_ hsz3_ hsz4_
      clear f0_a f1_a f2_a f3_a f4_a f0_b f1_b f2_b f3_b f4_b f0_c f1_c f2_c f3_c f4_c f0_d f1_d f2_d f3_d f4_d a0 a1 g0 g1 G2 hh2 hf2 F2 E2 E4 hs2 hb1s RF RS RP RC HM B hlO HGP HHP HSP HTr HF
      generalize wd4 = w4 at HM4 F4 S4 P4' C4 B4 E4s ⊢
      cases hPw : isPw p n
      · have HSt' := Lib.hid (show tyS p m (D + 1) t (n + 1 - 2) = (cooT m (D + 1) T (stpG m (D + 1) n y), ls, horn m (D + 1) cv (stpG m (D + 1) n y)) by rw [HSt.out, if_neg (by rw [hPw]; simp)])
        go_wp2_with (go_at_call 53; refine (isPowerOf_c p n _ hp (by omega) (by omega)).mono ?_; rw [hPw]; rintro e w' ⟨rfl, rfl⟩)
        refine (variable_c m D (D + 1) _ (by omega) (by omega) (by omega)).mono ?_
        rintro e w5 ⟨vg, rfl, how5, hb5⟩
        obtain ⟨og, cg, rfl⟩ := how5.shapeN (n := D + 1) (varL_len _)
        obtain ⟨gv, rfl, hgv1, hgv2⟩ := how5.row (by omega)
        have hb5s := hb5.size
        go_wp2_with fail
        have G6 := Box2.mk' w5 (.int .i64 m) (.slice (some ⟨gv, 0, none⟩) (D + 1) cg) 28
        have hbA : Below w5.heap.size w5 (w5.alloc (.cells #[.int .i64 m, .slice (some ⟨gv, 0, none⟩) (D + 1) cg] 28)) := (by (repeat (first | exact bR _ _ | (refine bS ?_ _) | (refine bA ?_ _) | (refine bN ?_ _) | (refine bD ?_))))
        have hV6 := how5.below hbA
        have E6 := hb5.trans (hbA.mono hb5s)
        have hs6 : (w5.alloc (.cells #[.int .i64 m, .slice (some ⟨gv, 0, none⟩) (D + 1) cg] 28)).heap.size = w5.heap.size + 1 := by simp
        generalize w5.alloc (.cells #[.int .i64 m, .slice (some ⟨gv, 0, none⟩) (D + 1) cg] 28) = w6 at G6 hV6 E6 hs6 hbA ⊢
        obtain ⟨bG, hbG⟩ : ∃ bG, bG = w5.heap.size := ⟨_, rfl⟩
        rw [← hbG] at G6 ⊢
        have hbG6 : bG < w6.heap.size := by omega
        have hbG4 : w4.heap.size ≤ bG := by omega
        have hgvG : gv ≠ bG := by omega
        have hgv4 : w4.heap.size ≤ gv := by omega
        clear hbA how5 hb5 hbG
        have E6s := E6.size
        obtain ⟨g0, g1⟩ := id G6
        have hlr := lam_range n n2 (by omega)
        obtain ⟨la, hla⟩ : ∃ la, la = lam n := ⟨_, rfl⟩
        have HLa := Lib.hid hla
        rw [← hla] at hlr
        clear hla
        have hlm := mod_lt' (a := la) (show 0 < m by omega)
        have hix := invM_range (m := m) (show 0 < m by omega) (la % m)
        have HX : Hid (∃ x, x = invM m (la % m)) := Lib.hid ⟨_, rfl⟩
        obtain ⟨x, hx⟩ := HX.out
        rw [← hx] at hix
        have HXe := Lib.hid hx
        clear hx HX
        have hyx : 0 ≤ y * x := Int.mul_nonneg hyr.1 hix.1
        have hyx' : y * x ≤ 10000 * 10000 := Int.mul_le_mul (by omega) (by omega) hix.1 (by omega)
        have hym := mod_lt' (a := y * x) (show 0 < m by omega)
        have t1 : la.tmod m = la % m := Int.tmod_eq_emod_of_nonneg (by omega)
        have t2 : (y * x).tmod m = y * x % m := Int.tmod_eq_emod_of_nonneg hyx
        have t3 : IntKind.i64.wrap (y * x) = y * x := IntWalk.i64_in _ (by omega)
        have m0 : (m == 0) = false := by simp; omega
        have m1 : ¬ m = 0 := by omega
        have j1 : (n : Int) < ((D + 1 : Nat) : Int) := by omega
        have j2 : (n : Int) < (D : Int) + 1 := by omega
        have hc0 := hV6.cell (k := n) (some_at0 (by rw [varL_len]; omega))
        have hf0 := hV6.fz n
        go_wp2_with fail
        have hd0 : Below w6.heap.size w6 w6.drew := (Below.refl _ _).drew
        have hsd0 := hd0.size
        have f0_a := keep_cell hd0 (Nat.le_refl _) g1
        have f0_b := (hV6.below hd0).fz n
        have f0_c := keep_cell hd0 (Nat.le_refl _) hc0
        refine wp_region_K (S := fun w' => w'.cell? ⟨bG, 1, none⟩ = some (.slice (some ⟨gv, 0, none⟩) (D + 1) cg)) [14] (by kernel_rfl) ?_
        have hHeld : (fun w' : World => w'.cell? ⟨bG, 1, none⟩ = some (.slice (some ⟨gv, 0, none⟩) (D + 1) cg)) w6.drew := by go_keep
        refine' wpAnyK_takeL (i := 0) (v := _) rfl (by kernel_rfl) (by kernel_rfl) (by kernel_rfl) (by kernel_rfl) (fun _ _ _ h => h) (Or.inl ⟨by rfl, ?yT11⟩) hHeld ?rT11
        case yT11 => (intro w' hSw; (try dsimp only at hSw); go_simp; try with_reducible rfl)
        try simp only [List.getElem_toArray, List.getElem_cons_zero, List.getElem_cons_succ, Act.put, List.setIfInBounds_toArray, List.set_cons_zero, List.set_cons_succ]
        refine' wpAnyK_takeL (i := 1) (v := _) rfl (by kernel_rfl) (by kernel_rfl) (by kernel_rfl) (by kernel_rfl) (fun _ _ _ h => h) (Or.inl ⟨by rfl, ?yT12⟩) hHeld ?rT12
        case yT12 => (intro w' hSw; (try dsimp only at hSw); go_simp; try with_reducible rfl)
        try simp only [List.getElem_toArray, List.getElem_cons_zero, List.getElem_cons_succ, Act.put, List.setIfInBounds_toArray, List.set_cons_zero, List.set_cons_succ]
        refine' wpAnyK_takeL (i := 2) (v := _) rfl (by kernel_rfl) (by kernel_rfl) (by kernel_rfl) (by kernel_rfl) (fun _ _ _ h => h) (Or.inl ⟨by rfl, ?yT13⟩) hHeld ?rT13
        case yT13 => (intro w' hSw; (try dsimp only at hSw); go_simp; try with_reducible rfl)
        try simp only [List.getElem_toArray, List.getElem_cons_zero, List.getElem_cons_succ, Act.put, List.setIfInBounds_toArray, List.set_cons_zero, List.set_cons_succ]
        refine' wpAnyK_takeL (i := 3) (v := _) rfl (by kernel_rfl) (by kernel_rfl) (by kernel_rfl) (by kernel_rfl) (fun _ _ _ h => h) (Or.inl ⟨by rfl, ?yT14⟩) hHeld ?rT14
        case yT14 => (intro w' hSw; (try dsimp only at hSw); go_simp; try with_reducible rfl)
        try simp only [List.getElem_toArray, List.getElem_cons_zero, List.getElem_cons_succ, Act.put, List.setIfInBounds_toArray, List.set_cons_zero, List.set_cons_succ]
        refine' wpAnyK_takeL (i := 4) (v := _) rfl (by kernel_rfl) (by kernel_rfl) (by kernel_rfl) (by kernel_rfl) (fun _ _ _ h => h) (Or.inl ⟨by rfl, ?yT15⟩) hHeld ?rT15
        case yT15 => (intro w' hSw; (try dsimp only at hSw); go_simp; try with_reducible rfl)
        try simp only [List.getElem_toArray, List.getElem_cons_zero, List.getElem_cons_succ, Act.put, List.setIfInBounds_toArray, List.set_cons_zero, List.set_cons_succ]
        refine' wpAnyK_takeL (i := 5) (v := _) rfl (by kernel_rfl) (by kernel_rfl) (by kernel_rfl) (by kernel_rfl) (fun _ _ _ h => h) (Or.inl ⟨by rfl, ?yT16⟩) hHeld ?rT16
        case yT16 => (intro w' hSw; (try dsimp only at hSw); go_simp; try with_reducible rfl)
        try simp only [List.getElem_toArray, List.getElem_cons_zero, List.getElem_cons_succ, Act.put, List.setIfInBounds_toArray, List.set_cons_zero, List.set_cons_succ]
        refine' wpAnyK_takeL (i := 7) (v := _) rfl (by kernel_rfl) (by kernel_rfl) (by kernel_rfl) (by kernel_rfl) (fun _ _ _ h => h) (Or.inl ⟨by rfl, ?yT17⟩) hHeld ?rT17
        case yT17 => (intro w' hSw; (try dsimp only at hSw); go_simp; try with_reducible rfl)
        try simp only [List.getElem_toArray, List.getElem_cons_zero, List.getElem_cons_succ, Act.put, List.setIfInBounds_toArray, List.set_cons_zero, List.set_cons_succ]
        refine' wpAnyK_takeL (i := 11) (v := _) rfl (by kernel_rfl) (by kernel_rfl) (by kernel_rfl) (by kernel_rfl) (fun _ _ _ h => h) (Or.inl ⟨by rfl, ?yT18⟩) hHeld ?rT18
        case yT18 => (intro w' hSw; (try dsimp only at hSw); go_simp; try with_reducible rfl)
        try simp only [List.getElem_toArray, List.getElem_cons_zero, List.getElem_cons_succ, Act.put, List.setIfInBounds_toArray, List.set_cons_zero, List.set_cons_succ]
        refine wpAnyK_oneL (i := 6) rfl (by kernel_rfl) (fun K hK => ?_)
        go_simp
        go_at_call 62
        refine (binomialDivisor_c n _ n2 (by omega)).mono ?_
        rintro e wd1 ⟨rfl, hbd1⟩
        rw [← HLa.out]
        have hd1 : Below w6.heap.size w6 wd1 := (by (repeat (first | exact bR _ _ | (refine bS ?_ _) | (refine bA ?_ _) | (refine bN ?_ _) | (refine bD ?_) | (refine bT ?_ hbd1))))
        have hsd1 := hd1.size
        have hsz1_ := hbd1.size
        (try simp at hsz1_)
        have f1_a := keep_cell hd1 (Nat.le_refl _) g1
        have f1_b := (hV6.below hd1).fz n
        have f1_c := keep_cell hd1 (Nat.le_refl _) hc0
        go_wp2_with fail
        clear hHeld
        have hHeld : (fun w' : World => w'.cell? ⟨bG, 1, none⟩ = some (.slice (some ⟨gv, 0, none⟩) (D + 1) cg)) wd1 := by go_keep
        refine hK.out _ _ (fun _ => hHeld) ?_
        clear hK K
        try simp only [List.getElem_toArray, List.getElem_cons_zero, List.getElem_cons_succ, Act.put, List.setIfInBounds_toArray, List.set_cons_zero, List.set_cons_succ]
        refine wpAnyK_oneL (i := 8) rfl (by kernel_rfl) (fun K hK => ?_)
        go_simp
        (try go_wp2_with fail)
        refine hK.out _ _ (fun _ => hHeld) ?_
        clear hK K
        try simp only [List.getElem_toArray, List.getElem_cons_zero, List.getElem_cons_succ, Act.put, List.setIfInBounds_toArray, List.set_cons_zero, List.set_cons_succ]
        refine wpAnyK_oneL (i := 9) rfl (by kernel_rfl) (fun K hK => ?_)
        go_simp
        go_at_call 61
        refine (inverse_c m (la % m) _ hm (by omega) (by omega) (by omega)).mono ?_
        rintro e w' ⟨rfl, rfl⟩
        rw [← HXe.out]
        go_wp2_with fail
        refine hK.out _ _ (fun _ => hHeld) ?_
        clear hK K
        try simp only [List.getElem_toArray, List.getElem_cons_zero, List.getElem_cons_succ, Act.put, List.setIfInBounds_toArray, List.set_cons_zero, List.set_cons_succ]
        refine wpAnyK_oneL (i := 10) rfl (by kernel_rfl) (fun K hK => ?_)
        go_simp
        (try go_wp2_with fail)
        refine hK.out _ _ (fun _ => hHeld) ?_
        clear hK K
        try simp only [List.getElem_toArray, List.getElem_cons_zero, List.getElem_cons_succ, Act.put, List.setIfInBounds_toArray, List.set_cons_zero, List.set_cons_succ]
        refine wpAnyK_oneL (i := 12) rfl (by kernel_rfl) (fun K hK => ?_)
        go_simp
        (try go_wp2_with fail)
        refine hK.out _ _ (fun _ => hHeld) ?_
        clear hK K
        try simp only [List.getElem_toArray, List.getElem_cons_zero, List.getElem_cons_succ, Act.put, List.setIfInBounds_toArray, List.set_cons_zero, List.set_cons_succ]
        refine wpAnyK_oneL (i := 13) rfl (by kernel_rfl) (fun K hK => ?_)
        go_simp
        (try go_wp2_with fail)
        refine hK.out _ _ (fun _ => hHeld) ?_
        clear hK K
        try simp only [List.getElem_toArray, List.getElem_cons_zero, List.getElem_cons_succ, Act.put, List.setIfInBounds_toArray, List.set_cons_zero, List.set_cons_succ]
        refine wpAnyK_oneL (i := 14) rfl (by kernel_rfl) (fun K hK => ?_)
        go_simp
        (try go_wp2_with fail)
        refine hK.out _ _ (fun h => absurd h (by decide)) ?_
        clear hK K
        try simp only [List.getElem_toArray, List.getElem_cons_zero, List.getElem_cons_succ, Act.put, List.setIfInBounds_toArray, List.set_cons_zero, List.set_cons_succ]
        refine wpAnyK_done (by kernel_rfl) ?_ _
        go_wp2_with fail
        have hgs : stpG m (D + 1) n y = (varL (D + 1)).set n (y * x % m) := by unfold stpG; rw [HXe.out, HLa.out]
        have HV7 := (hV6.below hd1).put n (y * x % m)
        rw [← hgs] at HV7
        have E7 := below_put (E6.trans (hd1.mono E6s)) (g := gv) (k := n) hgv4 (.int .i64 (y * x % m))
        have G7 := (G6.below hd1 (Nat.le_refl _)).put' (a := ⟨gv, n, none⟩) hgvG (.int .i64 (y * x % m))
        have hs7 : w6.heap.size ≤ (wd1.setCell ⟨gv, n, none⟩ (.int .i64 (y * x % m))).heap.size := by simp; omega
        generalize wd1.setCell ⟨gv, n, none⟩ (.int .i64 (y * x % m)) = w7 at HV7 E7 G7 hs7 ⊢
        have HGl := Lib.hid (stpG_len m (D + 1) n y)
        have HGr := Lib.hid (stpG_range (m := m) hm (D + 1) n y)
        generalize stpG m (D + 1) n y = gs at HV7 HGl HGr HSt'
        clear hHeld hbd1 hd0 hd1 hsd0 hsd1 hsz1_ f0_a f1_a f0_b f1_b f0_c f1_c hc0 hf0 g0 g1 G6 hV6 E6 hs6 hyx hyx' hym t1 t2 t3 hix HXe hlm hlr HLa hgs
        have F7 := F4.below E7 (Nat.le_refl _)
        have C7 := C4.below E7 (Nat.le_refl _)
        have HM7 := HM4.below E7
        have E7s := E7.size
        have hT7 := HM7.rd
        have hc7 := HM7.cv.rd
        have hg7 := HV7.rd
        obtain ⟨⟨a0, a1⟩, af⟩ := id F7
        obtain ⟨⟨c0, c1⟩, cf⟩ := id C7
        obtain ⟨g0, g1⟩ := id G7
        have lF7 := F7.1.lt
        have lC7 := C7.1.lt
        have lG7 := G7.lt
        have ne1 : bC ≠ w.heap.size := by omega
        have ne2 : w.heap.size ≠ bC := by omega
        go_wp2_with fail
        have hd0 : Below w7.heap.size w7 w7.drew := (Below.refl _ _).drew
        have hsd0 := hd0.size
        obtain ⟨⟨f0_a, f0_b⟩, f0_c⟩ := ((F7).below (Below.refl w7.heap.size w7) (Nat.le_refl _))
        obtain ⟨⟨f0_d, f0_e⟩, f0_f⟩ := ((C7).below (Below.refl w7.heap.size w7) (Nat.le_refl _))
        obtain ⟨f0_g, f0_h⟩ := ((G7).below (Below.refl w7.heap.size w7) (Nat.le_refl _))
        refine wp_region_K (S := fun w' => w'.cell? ⟨w.heap.size, 0, none⟩ = some (.int .i64 m) ∧ w'.cell? ⟨w.heap.size, 1, none⟩ = some (.slice oT (D + 1) cT) ∧ w'.cell? ⟨bC, 0, none⟩ = some (.int .i64 m) ∧ w'.cell? ⟨bC, 1, none⟩ = some (.slice (some ⟨gc, 0, none⟩) (D + 1) cc) ∧ w'.cell? ⟨bG, 0, none⟩ = some (.int .i64 m) ∧ w'.cell? ⟨bG, 1, none⟩ = some (.slice (some ⟨gv, 0, none⟩) (D + 1) cg)) [6, 7] (by kernel_rfl) ?_
        have hHeld : (fun w' : World => w'.cell? ⟨w.heap.size, 0, none⟩ = some (.int .i64 m) ∧ w'.cell? ⟨w.heap.size, 1, none⟩ = some (.slice oT (D + 1) cT) ∧ w'.cell? ⟨bC, 0, none⟩ = some (.int .i64 m) ∧ w'.cell? ⟨bC, 1, none⟩ = some (.slice (some ⟨gc, 0, none⟩) (D + 1) cc) ∧ w'.cell? ⟨bG, 0, none⟩ = some (.int .i64 m) ∧ w'.cell? ⟨bG, 1, none⟩ = some (.slice (some ⟨gv, 0, none⟩) (D + 1) cg)) w7.drew := by go_keep
        refine' wpAnyK_takeL (i := 0) (v := _) rfl (by kernel_rfl) (by kernel_rfl) (by kernel_rfl) (by kernel_rfl) (fun _ _ _ h => h) (Or.inl ⟨by rfl, ?yT19⟩) hHeld ?rT19
        case yT19 => (intro w' hSw; (try dsimp only at hSw); go_simp; try with_reducible rfl)
        try simp only [List.getElem_toArray, List.getElem_cons_zero, List.getElem_cons_succ, Act.put, List.setIfInBounds_toArray, List.set_cons_zero, List.set_cons_succ]
        refine' wpAnyK_takeL (i := 1) (v := _) rfl (by kernel_rfl) (by kernel_rfl) (by kernel_rfl) (by kernel_rfl) (fun _ _ _ h => h) (Or.inl ⟨by rfl, ?yT20⟩) hHeld ?rT20
        case yT20 => (intro w' hSw; (try dsimp only at hSw); go_simp; try with_reducible rfl)
        try simp only [List.getElem_toArray, List.getElem_cons_zero, List.getElem_cons_succ, Act.put, List.setIfInBounds_toArray, List.set_cons_zero, List.set_cons_succ]
        refine' wpAnyK_takeL (i := 3) (v := _) rfl (by kernel_rfl) (by kernel_rfl) (by kernel_rfl) (by kernel_rfl) (fun _ _ _ h => h) (Or.inl ⟨by rfl, ?yT21⟩) hHeld ?rT21
        case yT21 => (intro w' hSw; (try dsimp only at hSw); go_simp; try with_reducible rfl)
        try simp only [List.getElem_toArray, List.getElem_cons_zero, List.getElem_cons_succ, Act.put, List.setIfInBounds_toArray, List.set_cons_zero, List.set_cons_succ]
        refine' wpAnyK_takeL (i := 4) (v := _) rfl (by kernel_rfl) (by kernel_rfl) (by kernel_rfl) (by kernel_rfl) (fun _ _ _ h => h) (Or.inl ⟨by rfl, ?yT22⟩) hHeld ?rT22
        case yT22 => (intro w' hSw; (try dsimp only at hSw); go_simp; try with_reducible rfl)
        try simp only [List.getElem_toArray, List.getElem_cons_zero, List.getElem_cons_succ, Act.put, List.setIfInBounds_toArray, List.set_cons_zero, List.set_cons_succ]
        refine wpAnyK_oneL (i := 2) rfl (by kernel_rfl) (fun K hK => ?_)
        go_simp
        go_at_call 63
        refine (inCoordinate_c m (D + 1) _ _ T gs _ ((hT7).below (by (repeat (first | exact bR _ _ | (refine bS ?_ _) | (refine bA ?_ _) | (refine bN ?_ _) | (refine bD ?_)))) (Nat.le_refl _)) ((hg7).below (by (repeat (first | exact bR _ _ | (refine bS ?_ _) | (refine bA ?_ _) | (refine bN ?_ _) | (refine bD ?_)))) (Nat.le_refl _)) HGl.out (by omega) (by omega) hm hm' HT.out HGr.out).mono ?_
        rintro e wd1 ⟨va, rfl, hod1, hbd1⟩
        obtain ⟨oa, ca, rfl⟩ := hod1.shapeN (n := D + 1) (cooT_len _ _ _ _)
        have hd1 : Below w7.heap.size w7 wd1 := (by (repeat (first | exact bR _ _ | (refine bS ?_ _) | (refine bA ?_ _) | (refine bN ?_ _) | (refine bD ?_) | (refine bT ?_ hbd1))))
        have hsd1 := hd1.size
        have hsz1_ := hbd1.size
        (try simp at hsz1_)
        obtain ⟨⟨f1_a, f1_b⟩, f1_c⟩ := ((F7).below hd1 (Nat.le_refl _))
        obtain ⟨⟨f1_d, f1_e⟩, f1_f⟩ := ((C7).below hd1 (Nat.le_refl _))
        obtain ⟨f1_g, f1_h⟩ := ((G7).below hd1 (Nat.le_refl _))
        go_wp2_with fail
        clear hHeld
        have hHeld : (fun w' : World => w'.cell? ⟨w.heap.size, 0, none⟩ = some (.int .i64 m) ∧ w'.cell? ⟨w.heap.size, 1, none⟩ = some (.slice oT (D + 1) cT) ∧ w'.cell? ⟨bC, 0, none⟩ = some (.int .i64 m) ∧ w'.cell? ⟨bC, 1, none⟩ = some (.slice (some ⟨gc, 0, none⟩) (D + 1) cc) ∧ w'.cell? ⟨bG, 0, none⟩ = some (.int .i64 m) ∧ w'.cell? ⟨bG, 1, none⟩ = some (.slice (some ⟨gv, 0, none⟩) (D + 1) cg)) wd1 := by go_keep
        refine hK.out _ _ (fun _ => hHeld) ?_
        clear hK K
        try simp only [List.getElem_toArray, List.getElem_cons_zero, List.getElem_cons_succ, Act.put, List.setIfInBounds_toArray, List.set_cons_zero, List.set_cons_succ]
        refine wpAnyK_oneL (i := 5) rfl (by kernel_rfl) (fun K hK => ?_)
        go_simp
        go_at_call 64
        refine (compose_c m m _ _ gs cv _ ((hg7).below (by (repeat (first | exact bR _ _ | (refine bS ?_ _) | (refine bA ?_ _) | (refine bN ?_ _) | (refine bD ?_) | (refine bT ?_ hbd1)))) (Nat.le_refl _)) ((hc7).below (by (repeat (first | exact bR _ _ | (refine bS ?_ _) | (refine bA ?_ _) | (refine bN ?_ _) | (refine bD ?_) | (refine bT ?_ hbd1)))) (Nat.le_refl _)) (by rw [HGl.out]; exact HCl.out) (by rw [HGl.out]; omega) (by rw [HGl.out]; omega) hm (by omega) HGr.out hcr).mono ?_
        rintro e wd2 ⟨vb, rfl, hod2, hbd2⟩
        (rw [HGl.out] at hod2; obtain ⟨ob, cb, rfl⟩ := hod2.shapeN (n := D + 1) (horn_len _ _ _ _); obtain ⟨gb, rfl, -, -⟩ := hod2.row (by omega))
        have hd2 : Below w7.heap.size w7 wd2 := (by (repeat (first | exact bR _ _ | (refine bS ?_ _) | (refine bA ?_ _) | (refine bN ?_ _) | (refine bD ?_) | (refine bT ?_ hbd1) | (refine bT ?_ hbd2))))
        have hsd2 := hd2.size
        have hsz2_ := hbd2.size
        (try simp at hsz2_)
        obtain ⟨⟨f2_a, f2_b⟩, f2_c⟩ := ((F7).below hd2 (Nat.le_refl _))
        obtain ⟨⟨f2_d, f2_e⟩, f2_f⟩ := ((C7).below hd2 (Nat.le_refl _))
        obtain ⟨f2_g, f2_h⟩ := ((G7).below hd2 (Nat.le_refl _))
        go_wp2_with fail
        clear hHeld
        have hHeld : (fun w' : World => w'.cell? ⟨w.heap.size, 0, none⟩ = some (.int .i64 m) ∧ w'.cell? ⟨w.heap.size, 1, none⟩ = some (.slice oT (D + 1) cT) ∧ w'.cell? ⟨bC, 0, none⟩ = some (.int .i64 m) ∧ w'.cell? ⟨bC, 1, none⟩ = some (.slice (some ⟨gc, 0, none⟩) (D + 1) cc) ∧ w'.cell? ⟨bG, 0, none⟩ = some (.int .i64 m) ∧ w'.cell? ⟨bG, 1, none⟩ = some (.slice (some ⟨gv, 0, none⟩) (D + 1) cg)) wd2 := by go_keep
        refine hK.out _ _ (fun _ => hHeld) ?_
        clear hK K
        try simp only [List.getElem_toArray, List.getElem_cons_zero, List.getElem_cons_succ, Act.put, List.setIfInBounds_toArray, List.set_cons_zero, List.set_cons_succ]
        refine wpAnyK_oneL (i := 6) rfl (by kernel_rfl) (fun K hK => ?_)
        go_simp
        (try go_wp2_with fail)
        refine hK.out _ _ (fun h => absurd h (by decide)) ?_
        clear hK K
        try simp only [List.getElem_toArray, List.getElem_cons_zero, List.getElem_cons_succ, Act.put, List.setIfInBounds_toArray, List.set_cons_zero, List.set_cons_succ]
        refine wpAnyK_oneL (i := 7) rfl (by kernel_rfl) (fun K hK => ?_)
        go_simp
        (try go_wp2_with fail)
        refine hK.out _ _ (fun h => absurd h (by decide)) ?_
        clear hK K
        try simp only [List.getElem_toArray, List.getElem_cons_zero, List.getElem_cons_succ, Act.put, List.setIfInBounds_toArray, List.set_cons_zero, List.set_cons_succ]
        refine wpAnyK_done (by kernel_rfl) ?_ _
        go_wp2_with fail
        have hT8 := hod1.rds.below hbd2
        have E8 := E7.trans (hd2.mono E7s)
        have hM8 := ((((HM7.new hd2 (by omega) (Nat.le_refl _) (hT8.2 |> fun h => ⟨hT8.1, h⟩) (hod2.mono (by omega))).put (x := w.heap.size) (by simp) 0 (.int .i64 m)).put (x := w.heap.size) (by simp) 1 (.slice oa (D + 1) ca)).put (x := bC) (by simp) 0 (.int .i64 m)).put (x := bC) (by simp) 1 (.slice (some ⟨gb, 0, none⟩) (D + 1) cb)
        have F8 := (((F4.below E8 (Nat.le_refl _)).put (.int .i64 m) (.slice oa (D + 1) ca)).put' (a := ⟨bC, 0, none⟩) ne1 (.int .i64 m)).put' (a := ⟨bC, 1, none⟩) ne1 (.slice (some ⟨gb, 0, none⟩) (D + 1) cb)
        have S8 := ((((S4.below E8 (Nat.le_refl _)).put' (a := ⟨w.heap.size, 0, none⟩) (show w.heap.size ≠ w.heap.size + 1 by omega) (.int .i64 m)).put' (a := ⟨w.heap.size, 1, none⟩) (show w.heap.size ≠ w.heap.size + 1 by omega) (.slice oa (D + 1) ca)).put' (a := ⟨bC, 0, none⟩) (show bC ≠ w.heap.size + 1 by omega) (.int .i64 m)).put' (a := ⟨bC, 1, none⟩) (show bC ≠ w.heap.size + 1 by omega) (.slice (some ⟨gb, 0, none⟩) (D + 1) cb)
        have P8 := ((((P4'.below E8 (Nat.le_refl _)).put' (a := ⟨w.heap.size, 0, none⟩) (show w.heap.size ≠ w.heap.size + 2 by omega) (.int .i64 m)).put' (a := ⟨w.heap.size, 1, none⟩) (show w.heap.size ≠ w.heap.size + 2 by omega) (.slice oa (D + 1) ca)).put' (a := ⟨bC, 0, none⟩) (show bC ≠ w.heap.size + 2 by omega) (.int .i64 m)).put' (a := ⟨bC, 1, none⟩) (show bC ≠ w.heap.size + 2 by omega) (.slice (some ⟨gb, 0, none⟩) (D + 1) cb)
        have C8 := (((C4.below E8 (Nat.le_refl _)).put' (a := ⟨w.heap.size, 0, none⟩) ne2 (.int .i64 m)).put' (a := ⟨w.heap.size, 1, none⟩) ne2 (.slice oa (D + 1) ca)).put (.int .i64 m) (.slice (some ⟨gb, 0, none⟩) (D + 1) cb)
        have B8 := below_put (below_put (below_put (below_put (B4.trans (E8.mono (by omega))) (g := w.heap.size) (k := 0) (Nat.le_refl _) (.int .i64 m)) (g := w.heap.size) (k := 1) (Nat.le_refl _) (.slice oa (D + 1) ca)) (g := bC) (k := 0) (by omega) (.int .i64 m)) (g := bC) (k := 1) (by omega) (.slice (some ⟨gb, 0, none⟩) (D + 1) cb)
        exact ⟨⟨n + 1, _, ls, _, oa, ca, gb, cb, g, cl, by omega, by omega, by go_num, rfl, HSt', F8, S8, P8, C8, hM8, B8⟩, by simp [intOf]; omega⟩
      · have HSt' := Lib.hid (show tyS p m (D + 1) t (n + 1 - 2) = (T, ls ++ [y], cv) by rw [HSt.out, if_pos hPw])
        go_wp2_with (first | (go_at_call 53; refine (isPowerOf_c p n _ hp (by omega) (by omega)).mono ?_; rw [hPw]; rintro e w' ⟨rfl, rfl⟩) | (at_builtin; refine ap1 w4 rfl _ _ rfl (w.heap.size + 3) g ls.length cl ls rfl y rfl HM4.ls (by omega) (by omega) ?_; intro g' cl' w5 hO5 hgr h5))
        have hng := HM4.ng
        simp at hng
        have hglo := (HM4.ls.lt g rfl).1
        have hM5 := HM4.app hO5 hgr h5
        have bA : Below w4.heap.size w4 (w4.alloc (.cells #[.int .i64 y] 2)) := (by (repeat (first | exact bR _ _ | (refine bS ?_ _) | (refine bA ?_ _) | (refine bN ?_ _) | (refine bD ?_))))
        have F5 := (F4.below bA (Nat.le_refl _)).grown hgr (fun e => hng.1 (Option.some.inj e).symm)
        have S5 := (S4.below bA (Nat.le_refl _)).grown hgr (fun e => hng.2.1 (Option.some.inj e).symm)
        have P5 := (P4'.below bA (Nat.le_refl _)).grown hgr (fun e => hng.2.2.1 (Option.some.inj e).symm)
        have C5 := (C4.below bA (Nat.le_refl _)).grown hgr (fun e => hng.2.2.2 (Option.some.inj e).symm)
        have B5 := below_gr (B4.trans (bA.mono (by omega))) hgr (by omega) (by simp; omega)
        exact ⟨⟨n + 1, T, ls ++ [y], cv, oT, cT, gc, cc, g', cl', by omega, by omega, by go_num, by simp, HSt', F5, S5, P5, C5, hM5, B5⟩, by simp [intOf]; omega⟩
    · obtain rfl : n = D + 1 := by omega
      have i1 : ¬ (((D + 1 : Nat) : Int) ≤ (D : Int)) := by omega
      have i1' : ¬ ((D : Int) + 1 ≤ (D : Int)) := by omega
      have HKe := Lib.hid (show tyS p m (D + 1) t (D - 1) = (T, ls, cv) from by
        have := HK.out
        rwa [show D + 1 - 2 = D - 1 by omega] at this)
      clear hown
      obtain ⟨⟨c0, c1⟩, cf⟩ := id RC
      obtain ⟨⟨s0, s1⟩, sf⟩ := id RS
      obtain ⟨⟨p0, p1⟩, pf⟩ := id RP
      have lS := RS.1.lt
      go_wp2_with fail
      have hd0 : Below wr.heap.size wr wr.drew := (Below.refl _ _).drew
      have hsd0 := hd0.size
      obtain ⟨⟨f0_a, f0_b⟩, f0_c⟩ := ((RC).below (Below.refl wr.heap.size wr) (Nat.le_refl _))
      obtain ⟨⟨f0_d, f0_e⟩, f0_f⟩ := ((RS).below (Below.refl wr.heap.size wr) (Nat.le_refl _))
      obtain ⟨⟨f0_g, f0_h⟩, f0_i⟩ := ((RP).below (Below.refl wr.heap.size wr) (Nat.le_refl _))
      refine wp_region_K (S := fun w' => w'.cell? ⟨bC, 0, none⟩ = some (.int .i64 m) ∧ w'.cell? ⟨bC, 1, none⟩ = some (.slice (some ⟨gc, 0, none⟩) (D + 1) cc)) [6, 7] (by kernel_rfl) ?_
      have hHeld : (fun w' : World => w'.cell? ⟨bC, 0, none⟩ = some (.int .i64 m) ∧ w'.cell? ⟨bC, 1, none⟩ = some (.slice (some ⟨gc, 0, none⟩) (D + 1) cc)) wr.drew := by go_keep
      refine' wpAnyK_takeL (i := 0) (v := _) rfl (by kernel_rfl) (by kernel_rfl) (by kernel_rfl) (by kernel_rfl) (fun _ _ _ h => h) (Or.inl ⟨by rfl, ?yT23⟩) hHeld ?rT23
      case yT23 => (intro w' hSw; (try dsimp only at hSw); go_simp; try with_reducible rfl)
      try simp only [List.getElem_toArray, List.getElem_cons_zero, List.getElem_cons_succ, Act.put, List.setIfInBounds_toArray, List.set_cons_zero, List.set_cons_succ]
      refine' wpAnyK_takeL (i := 1) (v := _) rfl (by kernel_rfl) (by kernel_rfl) (by kernel_rfl) (by kernel_rfl) (fun _ _ _ h => h) (Or.inl ⟨by rfl, ?yT24⟩) hHeld ?rT24
      case yT24 => (intro w' hSw; (try dsimp only at hSw); go_simp; try with_reducible rfl)
      try simp only [List.getElem_toArray, List.getElem_cons_zero, List.getElem_cons_succ, Act.put, List.setIfInBounds_toArray, List.set_cons_zero, List.set_cons_succ]
      refine' wpAnyK_takeL (i := 2) (v := _) rfl (by kernel_rfl) (by kernel_rfl) (by kernel_rfl) (by kernel_rfl) (fun _ _ _ h => h) (Or.inl ⟨by rfl, ?yT25⟩) hHeld ?rT25
      case yT25 => (intro w' hSw; (try dsimp only at hSw); go_simp; try with_reducible rfl)
      try simp only [List.getElem_toArray, List.getElem_cons_zero, List.getElem_cons_succ, Act.put, List.setIfInBounds_toArray, List.set_cons_zero, List.set_cons_succ]
      refine' wpAnyK_takeL (i := 3) (v := _) rfl (by kernel_rfl) (by kernel_rfl) (by kernel_rfl) (by kernel_rfl) (fun _ _ _ h => h) (Or.inl ⟨by rfl, ?yT26⟩) hHeld ?rT26
      case yT26 => (intro w' hSw; (try dsimp only at hSw); go_simp; try with_reducible rfl)
      try simp only [List.getElem_toArray, List.getElem_cons_zero, List.getElem_cons_succ, Act.put, List.setIfInBounds_toArray, List.set_cons_zero, List.set_cons_succ]
      refine' wpAnyK_takeL (i := 4) (v := _) rfl (by kernel_rfl) (by kernel_rfl) (by kernel_rfl) (by kernel_rfl) (fun _ _ _ h => h) (Or.inl ⟨by rfl, ?yT27⟩) hHeld ?rT27
      case yT27 => (intro w' hSw; (try dsimp only at hSw); go_simp; try with_reducible rfl)
      try simp only [List.getElem_toArray, List.getElem_cons_zero, List.getElem_cons_succ, Act.put, List.setIfInBounds_toArray, List.set_cons_zero, List.set_cons_succ]
      refine wpAnyK_oneL (i := 5) rfl (by kernel_rfl) (fun K hK => ?_)
      go_simp
      go_at_call 56
      refine (typicalLaw_t p D m _ ls _ ((hlO).below (by (repeat (first | exact bR _ _ | (refine bS ?_ _) | (refine bA ?_ _) | (refine bN ?_ _) | (refine bD ?_)))) (Nat.le_refl _)) hp hD1 hD hm hm' hl3 hlr).mono ?_
      rintro e wd1 ⟨va, rfl, hod1, hbd1⟩
      obtain ⟨oa, ca, rfl⟩ := hod1.shapeN (n := D + 1) (by rw [typT2_eq]; exact tri_len _ _)
      have hd1 : Below wr.heap.size wr wd1 := (by (repeat (first | exact bR _ _ | (refine bS ?_ _) | (refine bA ?_ _) | (refine bN ?_ _) | (refine bD ?_) | (refine bT ?_ hbd1))))
      have hsd1 := hd1.size
      have hsz1_ := hbd1.size
      (try simp at hsz1_)
      obtain ⟨⟨f1_a, f1_b⟩, f1_c⟩ := ((RC).below hd1 (Nat.le_refl _))
      obtain ⟨⟨f1_d, f1_e⟩, f1_f⟩ := ((RS).below hd1 (Nat.le_refl _))
      obtain ⟨⟨f1_g, f1_h⟩, f1_i⟩ := ((RP).below hd1 (Nat.le_refl _))
      go_wp2_with fail
      clear hHeld
      have hHeld : (fun w' : World => w'.cell? ⟨bC, 0, none⟩ = some (.int .i64 m) ∧ w'.cell? ⟨bC, 1, none⟩ = some (.slice (some ⟨gc, 0, none⟩) (D + 1) cc)) wd1 := by go_keep
      refine hK.out _ _ (fun _ => hHeld) ?_
      clear hK K
      try simp only [List.getElem_toArray, List.getElem_cons_zero, List.getElem_cons_succ, Act.put, List.setIfInBounds_toArray, List.set_cons_zero, List.set_cons_succ]
      refine wpAnyK_oneL (i := 6) rfl (by kernel_rfl) (fun K hK => ?_)
      go_simp
      (try go_wp2_with fail)
      refine hK.out _ _ (fun h => absurd h (by decide)) ?_
      clear hK K
      try simp only [List.getElem_toArray, List.getElem_cons_zero, List.getElem_cons_succ, Act.put, List.setIfInBounds_toArray, List.set_cons_zero, List.set_cons_succ]
      refine wpAnyK_oneL (i := 7) rfl (by kernel_rfl) (fun K hK => ?_)
      go_simp
      (try go_wp2_with fail)
      refine hK.out _ _ (fun h => absurd h (by decide)) ?_
      clear hK K
      try simp only [List.getElem_toArray, List.getElem_cons_zero, List.getElem_cons_succ, Act.put, List.setIfInBounds_toArray, List.set_cons_zero, List.set_cons_succ]
      refine wpAnyK_done (by kernel_rfl) ?_ _
      go_wp2_with fail
      have S9 := (((RS.below hd1 (Nat.le_refl _)).put (.int .i64 m) (.slice (some ⟨gc, 0, none⟩) (D + 1) cc)).put' (a := ⟨w.heap.size + 2, 0, none⟩) (show w.heap.size + 2 ≠ w.heap.size + 1 by omega) (.int .i64 m)).put' (a := ⟨w.heap.size + 2, 1, none⟩) (show w.heap.size + 2 ≠ w.heap.size + 1 by omega) (.slice oa (D + 1) ca)
      have P9 := (((RP.below hd1 (Nat.le_refl _)).put' (a := ⟨w.heap.size + 1, 0, none⟩) (show w.heap.size + 1 ≠ w.heap.size + 2 by omega) (.int .i64 m)).put' (a := ⟨w.heap.size + 1, 1, none⟩) (show w.heap.size + 1 ≠ w.heap.size + 2 by omega) (.slice (some ⟨gc, 0, none⟩) (D + 1) cc)).put (.int .i64 m) (.slice oa (D + 1) ca)
      have B9 := below_put (below_put (below_put (below_put (B.trans (hd1.mono Bs)) (g := w.heap.size + 1) (k := 0) (by omega) (.int .i64 m)) (g := w.heap.size + 1) (k := 1) (by omega) (.slice (some ⟨gc, 0, none⟩) (D + 1) cc)) (g := w.heap.size + 2) (k := 0) (by omega) (.int .i64 m)) (g := w.heap.size + 2) (k := 1) (by omega) (.slice oa (D + 1) ca)
      have V9 := ((((HM.cv.below hd1).low (a := ⟨w.heap.size + 1, 0, none⟩) (show w.heap.size + 1 < w.heap.size + 3 by omega) (.int .i64 m)).low (a := ⟨w.heap.size + 1, 1, none⟩) (show w.heap.size + 1 < w.heap.size + 3 by omega) (.slice (some ⟨gc, 0, none⟩) (D + 1) cc)).low (a := ⟨w.heap.size + 2, 0, none⟩) (show w.heap.size + 2 < w.heap.size + 3 by omega) (.int .i64 m)).low (a := ⟨w.heap.size + 2, 1, none⟩) (show w.heap.size + 2 < w.heap.size + 3 by omega) (.slice oa (D + 1) ca)
      have T9 := ((((hod1.mono (B' := w.heap.size + 3) (by simp; omega)).low (g := w.heap.size + 1) (k := 0) (by omega) (.int .i64 m)).low (g := w.heap.size + 1) (k := 1) (by omega) (.slice (some ⟨gc, 0, none⟩) (D + 1) cc)).low (g := w.heap.size + 2) (k := 0) (by omega) (.int .i64 m)).low (g := w.heap.size + 2) (k := 1) (by omega) (.slice oa (D + 1) ca)
      generalize (((wd1.setCell ⟨w.heap.size + 1, 0, none⟩ (.int .i64 m)).setCell ⟨w.heap.size + 1, 1, none⟩ (.slice (some ⟨gc, 0, none⟩) (D + 1) cc)).setCell ⟨w.heap.size + 2, 0, none⟩ (.int .i64 m)).setCell ⟨w.heap.size + 2, 1, none⟩ (.slice oa (D + 1) ca) = wE at S9 P9 B9 V9 T9 ⊢
      obtain ⟨⟨x0, x1⟩, -⟩ := id S9
      obtain ⟨⟨y0, y1⟩, -⟩ := id P9
      refine bodyPost_ret (v := .tuple #[.agg #[.int .i64 m, .slice (some ⟨gc, 0, none⟩) (D + 1) cc], .agg #[.int .i64 m, .slice oa (D + 1) ca]]) (by simp [results, Tryz.results32, go_sem, x0, x1, y0, y1]) rfl ⟨_, _, rfl, ?_, ?_, B9⟩
      · rw [HKe.out]; exact V9.mono (by omega)
      · rw [HKe.out]; exact T9.mono (by omega)
end Go.Proofs.YtoednonijmkbjaaGreat
