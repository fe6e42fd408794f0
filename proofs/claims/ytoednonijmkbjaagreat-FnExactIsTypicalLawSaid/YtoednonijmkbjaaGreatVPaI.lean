/- Lemmas of PaI. -/
import Derived.Test.YtoednonijmkbjaaGreatVPar
import Derived.Test.YtoednonijmkbjaaGreatVG23
import Derived.Test.YtoednonijmkbjaaGreatVLzF
import Derived.Test.YtoednonijmkbjaaGreatVG5
import Derived.Test.YtoednonijmkbjaaGreatVSame
import Derived.Test.YtoednonijmkbjaaGreatVTyP
set_option linter.unusedSimpArgs false
set_option linter.unusedVariables false
namespace Go.Proofs.YtoednonijmkbjaaGreat
open Go.RowKit

theorem typicalLaw_t (p n : Nat) (m : Int) (v : Value) (ls : List Int) (w : World) (hv : RdI w v ls) (hp : P4 p) (n1 : 1 ≤ n) (hn : n ≤ 10) (hm : 2 ≤ m) (hm' : m ≤ 10000) (hl : ls.length ≤ 3) (hx : ∀ x ∈ ls, 0 ≤ x ∧ x < m) :
    Calls Tryz.prog 56 #[.int .i64 p, .int .i64 m, .int .i64 n, v] w fun e w' => PVEnd w w' m (typT2 p m n ls) e := by
  have hp2 := hp.pos
  have hpw := (hp.pow9 (show n - 1 ≤ 10 by omega))
  have hp9 : p ^ (n - 1) ≤ 40353607 := Nat.le_trans (Nat.pow_le_pow_left hp2.2 _) (Nat.pow_le_pow_right (by omega) (show n - 1 ≤ 9 by omega))
  have hWm : m * ((p ^ (n - 1) : Nat) : Int) ≤ 10000 * 40353607 := Int.mul_le_mul (by omega) (by omega) (by omega) (by omega)
  have h := typicalLaw_c p n m v ls w hv hp n1 hn hm hm' hl (fun x hx' => ⟨(hx x hx').1, by have := (hx x hx').2; omega⟩) _ rfl (by omega)
  rw [prog_tab hp n1 hn _ (m := m) (by omega) rfl (by
    have := Int.mul_le_mul hm (show (1 : Int) ≤ ((p ^ (n - 1) : Nat) : Int) by omega) (by omega) (by omega)
    omega)] at h
  exact h
theorem eqTB_iff (xs ys : List (List Int)) : eqTB xs ys = decide (xs = ys) := by
  by_cases h : xs = ys
  · subst h; rw [eqTB_self]; simp
  · rw [eqTB_ne h]; simp [h]
theorem own_range {p : Nat} {m : Int} {t : List (List Int)} {n : Nat} {ls : List Int} (h : 0 ≤ ownF p m t n ls) : 0 ≤ ownF p m t n ls ∧ ownF p m t n ls < m := by
  refine ⟨h, ?_⟩
  unfold ownF at h ⊢
  rcases facTo_cases m (laz n) (fun i => (atT (typT2 p m n ls) i (n - i) - atT (cutT (n + 1) t) i (n - i)) % m) (n + 1) m.toNat with e | ⟨k, hk, e, _⟩
  · omega
  · rw [e]; omega
theorem facP_range {m : Int} {c d : Nat → Int} {n : Nat} (hm : 0 < m) : 0 ≤ facP m c d n ∧ facP m c d n < m := by
  unfold facP
  rcases facTo_cases m c d n m.toNat with e | ⟨k, hk, e, _⟩
  · rw [e, if_neg (by omega)]; omega
  · rw [e, if_pos (by omega)]; omega
theorem parL_succ {p : Nat} {m : Int} {t : List (List Int)} {k : Nat} {ls : List Int} (h : parL p m t k = some ls) (ha : agrF p m t (p ^ (k + 1)) ls) : parL p m t (k + 1) = some (ls ++ [ownF p m t (p ^ (k + 1)) ls]) := by
  unfold parL; rw [h]; simp only; rw [if_pos ha]
theorem parL_fail {p : Nat} {m : Int} {t : List (List Int)} {k : Nat} {ls : List Int} (h : parL p m t k = some ls) (ha : ¬ agrF p m t (p ^ (k + 1)) ls) : ∀ j, parL p m t (k + 1 + j) = none
  | 0 => by
    show parL p m t (k + 1) = none
    unfold parL; rw [h]; simp only; rw [if_neg ha]
  | j + 1 => by
    show parL p m t (k + 1 + j + 1) = none
    unfold parL; rw [parL_fail h ha j]
theorem set_pad (ls : List Int) (y : Int) {M : Nat} (h : ls.length < M) : (ls ++ List.replicate (M - ls.length) 0).set ls.length y = (ls ++ [y]) ++ List.replicate (M - (ls.length + 1)) 0 := by
  rw [List.set_append_right _ _ (Nat.le_refl _), Nat.sub_self, show M - ls.length = (M - (ls.length + 1)) + 1 by omega, List.replicate_succ, List.set_cons_zero, List.append_assoc]
  rfl

set_option maxHeartbeats 4000000 in
set_option maxRecDepth 100000 in
theorem typicalParameters_c (p D : Nat) (m : Int) (v : Value) (t : List (List Int)) (w : World) (hv : RdT w v t) (hp : P4 p) (hD1 : 1 ≤ D) (hD : D ≤ 10) (hm : 2 ≤ m) (hm' : m ≤ 10000) (ht : PlaT m (D + 1) t) (L : Lw m (D + 1) (atT t)) :
    Calls Tryz.prog 38 #[.int .i64 p, .agg #[.int .i64 m, v]] w fun e w' => ∃ v', e = .returned (.tuple #[v', .bool (parO p m t D).isSome]) ∧ (∀ ls, parO p m t D = some ls → OwI w' w.heap.size v' ls) ∧ Below w.heap.size w w' := by
  obtain ⟨o, c, rfl, hmx, -⟩ := id hv
  rw [ht.1] at hmx ⊢
  have hv' : RdT w (.slice o (D + 1) c) t := by rw [ht.1] at hv; exact hv
  have HT := Lib.hid ht
  have HL := Lib.hid L
  have hp2 := hp.pos
  clear hv ht L
  obtain ⟨M, hM⟩ : ∃ M, M = mostOf p D := ⟨_, rfl⟩
  have HM := Lib.hid hM
  have hM3 : M ≤ 3 := by rw [hM]; exact most_3 hp hD
  clear hM
  go_enter Tryz.func38, Tryz.ntmps38
  go_wp2_with fail
  (have X0 := ((RB2.mk1 w  (.int .i64 m) (.slice o (D + 1) c) 31).1).below (w' := (w.alloc (.cells #[.int .i64 m, .slice o (D + 1) c] 31))) (by (repeat (first | exact Below.refl _ _ | (refine Below.setCell ?_ (by first | (simp; done) | (simp; omega) | omega) _) | (refine Below.alloc ?_ (by first | (simp; done) | (simp; omega) | omega) _) | (refine below_drewN ?_ _) | (refine Below.drew ?_)))) (Nat.le_refl _); have B0 : Below w.heap.size w (w.alloc (.cells #[.int .i64 m, .slice o (D + 1) c] 31)) := (by (repeat (first | exact Below.refl _ _ | (refine Below.setCell ?_ (by first | (simp; done) | (simp; omega) | omega) _) | (refine Below.alloc ?_ (by first | (simp; done) | (simp; omega) | omega) _) | (refine below_drewN ?_ _) | (refine Below.drew ?_)))); have hv'0 := hv'.below (w' := (w.alloc (.cells #[.int .i64 m, .slice o (D + 1) c] 31))) (by (repeat (first | exact Below.refl _ _ | (refine Below.setCell ?_ (by first | (simp; done) | (simp; omega) | omega) _) | (refine Below.alloc ?_ (by first | (simp; done) | (simp; omega) | omega) _) | (refine below_drewN ?_ _) | (refine Below.drew ?_)))) (Nat.le_refl _); generalize w.alloc (.cells #[.int .i64 m, .slice o (D + 1) c] 31) = w0 at X0 B0 hv'0 ⊢)
  refine (degreeP_c m o (D + 1) c _ hmx.1).mono ?_
  rintro e w1 ⟨rfl, hb⟩
  (have X1 := X0.below hb (Nat.le_refl _); have hv'1 := hv'0.below hb (Nat.le_refl _); have B1 := B0.trans (hb.mono B0.size))
  clear hb
  go_wp2_with fail
  refine (powersUpTo_c p D _ hp hD).mono ?_
  rintro e w2 ⟨vp, rfl, hP, hb⟩
  (have X2 := X1.below hb (Nat.le_refl _); have hv'2 := hv'1.below hb (Nat.le_refl _); have B2 := B1.trans (hb.mono B1.size))
  clear hb
  rw [← HM.out] at hP
  obtain ⟨op, cp, ep, -, -⟩ := id hP
  rw [mk_len] at ep
  subst ep
  have B2s := B2.size
  have X2l := X2.lt
  go_wp2_with (at_make; go_loud (refine mkI _ rfl _ _ rfl _ _ _ M rfl rfl rfl (by omega) ?_; intro w3 hO3 hb3 hs3))
  obtain ⟨gL, hgL⟩ : ∃ gL, gL = w2.heap.size := ⟨_, rfl⟩
  have hB3 : Below gL w2 w3 := by rw [hgL]; exact hb3
  rw [← hgL] at hO3 hs3 X2l B2s ⊢
  have hgle : w2.heap.size ≤ gL := by omega
  clear hb3 hgL
  go_loopw [21] (fun i wr => ∃ (k : Nat) (ls : List Int), k ≤ M ∧ i = .int .i64 k ∧ ls.length = k ∧ Hid (parL p m t k = some ls) ∧ (∀ x ∈ ls, 0 ≤ x ∧ x < m) ∧ OwI wr gL (.slice (some ⟨gL, 0, none⟩) M M) (ls ++ List.replicate (M - ls.length) 0) ∧ Below gL w2 wr ∧ gL < wr.heap.size) (fun i _ => M - (intOf i).toNat)
  case atStart => exact ⟨0, [], Nat.zero_le _, rfl, rfl, Lib.hid rfl, by simp, by simpa using hO3, hB3, by omega⟩
  case round =>
    clear hO3 hB3 hs3
    obtain ⟨k, ls, hk, rfl, hlk, HK, hlr, hO, hB, hgw⟩ := hrel
    have Xw := X2.below hB hgle
    have hvw := hv'2.below hB hgle
    have Bw := B2.trans (hB.mono B2s)
    have hPw := hP.below hB hgle
    have hBs := hB.size
    obtain ⟨x0, x1⟩ := id Xw
    by_cases hlt : k < M
    · have hkn : p ^ (k + 1) ≤ D := (most_key hp hD (show k ≤ mostOf p D by rw [← HM.out]; omega)).2.2.1.2 (by rw [← HM.out]; exact hlt)
      have hgt := pow_gt hp2.1 (k + 1)
      have HN : Hid (∃ n, n = p ^ (k + 1)) := Lib.hid ⟨_, rfl⟩
      obtain ⟨n, hn⟩ := HN.out
      rw [← hn] at hkn hgt
      have hRk := HK.out
      obtain ⟨bp, fp, rfl, -⟩ := hPw.cells (by rw [mk_len]; omega)
      have cP := hPw.cell0 (mk_get (f := fun k => ((p ^ (k + 1) : Nat) : Int)) hlt)
      rw [← hn] at cP
      have i1 : (k : Int) < (M : Int) := by omega
      have i0 : (0 : Int) ≤ (k : Int) := by omega
      have HKs : Hid (∀ (ha : agrF p m t n ls), parL p m t (k + 1) = some (ls ++ [ownF p m t n ls]) ∧ 0 ≤ ownF p m t n ls) := Lib.hid (fun ha => by
        rw [hn] at ha ⊢
        exact ⟨parL_succ hRk ha, own_ex hp hm hD HL.out (by omega) (by omega) ha⟩)
      have HKf : Hid (¬ agrF p m t n ls → parO p m t D = none) := Lib.hid (fun ha => by
        unfold parO
        have := parL_fail hRk (by rw [hn] at ha; exact ha) (M - (k + 1))
        rw [show k + 1 + (M - (k + 1)) = M by omega, HM.out] at this
        rw [this])
      clear hn HN hRk
      have hOr := hO.rd
      have hpadl : (ls ++ List.replicate (M - ls.length) (0 : Int)).length ≤ 3 := by simp; omega
      have hpadr : ∀ x ∈ ls ++ List.replicate (M - ls.length) (0 : Int), 0 ≤ x ∧ x < m := by
        intro x hx
        rcases List.mem_append.1 hx with h | h
        · exact hlr x h
        · rw [(List.mem_replicate.1 h).2]; omega
      go_wp2_with fail
      refine (typicalLaw_t p n m _ (ls ++ List.replicate (M - ls.length) 0) _ hOr hp (by omega) (by omega) hm hm' hpadl hpadr).mono ?_
      rintro e w4 ⟨v4, rfl, how4, hb4⟩
      rw [typT2_pad] at how4
      obtain ⟨o4, c4, rfl⟩ := how4.shapeN (n := n + 1) (by rw [typT2_eq]; exact tri_len _ _)
      have hb4s := hb4.size
      have X4 := Xw.below hb4 (Nat.le_refl _)
      clear x0 x1
      obtain ⟨x0, x1⟩ := id X4
      have x4l := X4.lt
      have x4n : w.heap.size ≠ w4.heap.size := by omega
      go_wp2_with fail
      have H5 := Box2.mk' w4 (.int .i64 m) (.slice o4 (n + 1) c4) 31
      have hbA : Below w4.heap.size w4 (w4.alloc (.cells #[.int .i64 m, .slice o4 (n + 1) c4] 31)) := (by (repeat (first | exact Below.refl _ _ | (refine Below.setCell ?_ (by first | (simp; done) | (simp; omega) | omega) _) | (refine Below.alloc ?_ (by first | (simp; done) | (simp; omega) | omega) _) | (refine below_drewN ?_ _) | (refine Below.drew ?_))))
      have hh5 := how4.rd.below hbA (Nat.le_refl _)
      have B5 := hb4.trans (hbA.mono hb4s)
      have hs5 : (w4.alloc (.cells #[.int .i64 m, .slice o4 (n + 1) c4] 31)).heap.size = w4.heap.size + 1 := by simp
      generalize w4.alloc (.cells #[.int .i64 m, .slice o4 (n + 1) c4] 31) = w5 at H5 hh5 B5 hs5 ⊢
      obtain ⟨bH, hbH⟩ : ∃ bH, bH = w4.heap.size := ⟨_, rfl⟩
      rw [← hbH] at H5 hs5 hb4s ⊢
      have B5s := B5.size
      clear x0 x1 hbA how4 hbH hb4 X4 x4n x4l
      refine (cutP_c m m (D + 1) n _ t _ (hvw.below B5 (Nat.le_refl _)) HT.out (by omega) (by omega) (by omega)).mono ?_
      rintro e w6 ⟨v6, rfl, how6, hb6⟩
      obtain ⟨o6, c6, rfl⟩ := how6.shapeN (n := n + 1) (cutT_len _ _)
      have hb6s := hb6.size
      have H6 := H5.below hb6 (Nat.le_refl _)
      have hh6 := hh5.below hb6 (Nat.le_refl _)
      have G7 := Box2.mk' w6 (.int .i64 m) (.slice o6 (n + 1) c6) 31
      have hbA : Below w6.heap.size w6 (w6.alloc (.cells #[.int .i64 m, .slice o6 (n + 1) c6] 31)) := (by (repeat (first | exact Below.refl _ _ | (refine Below.setCell ?_ (by first | (simp; done) | (simp; omega) | omega) _) | (refine Below.alloc ?_ (by first | (simp; done) | (simp; omega) | omega) _) | (refine below_drewN ?_ _) | (refine Below.drew ?_))))
      have hg7 := how6.rd.below hbA (Nat.le_refl _)
      have hh7 := hh6.below hbA (Nat.le_refl _)
      have H7 := H6.below hbA (Nat.le_refl _)
      have B7 := B5.trans ((hb6.trans (hbA.mono hb6s)).mono B5s)
      have hs7 : (w6.alloc (.cells #[.int .i64 m, .slice o6 (n + 1) c6] 31)).heap.size = w6.heap.size + 1 := by simp
      obtain ⟨h0, h1⟩ := id H6
      have h6l := H6.lt
      have h6n : bH ≠ w6.heap.size := by omega
      go_wp2_with fail
      generalize w6.alloc (.cells #[.int .i64 m, .slice o6 (n + 1) c6] 31) = w7 at G7 hg7 hh7 H7 B7 hs7 ⊢
      obtain ⟨bG, hbG⟩ : ∃ bG, bG = w6.heap.size := ⟨_, rfl⟩
      rw [← hbG] at G7 hs7 hb6s ⊢
      clear h0 h1 hbA how6 H6 hh6 H5 hh5 B5 hb6 h6l h6n hbG
      have HGP := Lib.hid (show PlaT m (n + 1) (cutT (n + 1) t) from cutT_ok HT.out (by omega))
      have HHP := Lib.hid (show PlaT m (n + 1) (typT2 p m n ls) from typT2_ok (by omega) p n ls)
      have HZ := Lib.hid (show agrA (cutT (n + 1) t) (typT2 p m n ls) 0 = true from agrA_t fun i hi => by
        obtain rfl : i = 0 := by omega
        rw [cutT_at (by omega), HL.out.zer, (typT2_lw hp (show 1 ≤ n by omega) (by omega) hm ls).zer])
      refine (agreement_c m m m (n + 1) _ _ (cutT (n + 1) t) (typT2 p m n ls) _ hg7 hh7 (by omega) (by omega) HGP.out HHP.out HZ.out).mono ?_
      rintro e w8 ⟨rfl, hb8⟩
      have hK : agrF p m t n ls ↔ n ≤ agrK (cutT (n + 1) t) (typT2 p m n ls) (n + 1) := Iff.rfl
      have hKl := agrK_le (cutT (n + 1) t) (typT2 p m n ls) (n + 1)
      generalize agrK (cutT (n + 1) t) (typT2 p m n ls) (n + 1) = K at hK hKl ⊢
      have e8 : IntKind.i64.wrap ((n : Int) - 1) = (n : Int) - 1 := IntWalk.i64_in _ (by omega)
      have B7s := B7.size
      have G8 := G7.below hb8 (Nat.le_refl _)
      have H8 := H7.below hb8 (Nat.le_refl _)
      have hg8 := hg7.below hb8 (Nat.le_refl _)
      have hh8 := hh7.below hb8 (Nat.le_refl _)
      have B8 := B7.trans (hb8.mono B7s)
      have hb8s := hb8.size
      clear G7 H7 hg7 hh7 B7 hb8
      have B8s := B8.size
      by_cases ha : agrF p m t n ls
      · have k1 : ¬ (K : Int) - 1 < (n : Int) - 1 := by have := hK.1 ha; omega
        have k2 : ¬ (K : Int) < (n : Int) := by have := hK.1 ha; omega
        have X8 := Xw.below B8 (Nat.le_refl _)
        obtain ⟨x0, x1⟩ := id X8
        obtain ⟨h0, h1⟩ := id H8
        obtain ⟨g0, g1⟩ := id G8
        have hO8 := hO.below B8
        have hc0 := hO8.cell (k := k) (some_at0 (by simp; omega))
        have hf0 := hO8.fz k
        have hNg := (HKs.out ha).2
        have HR := Lib.hid (HKs.out ha).1
        have hOr := own_range hNg
        have HF := Lib.hid (show (-(facP m (laz n) (at0 (topL n (subT m (n + 1) (cutT (n + 1) t) (typT2 p m n ls)) (n + 1))) (n + 1))) % m = ownF p m t n ls by
          rw [facP_congr (d' := fun i => (atT (cutT (n + 1) t) i (n - i) - atT (typT2 p m n ls) i (n - i)) % m) (fun i hi => by
            unfold topL
            rw [mk_at hi]
            unfold subT
            rw [atT_tri (by omega)])]
          exact own_neg hp hm hD HL.out (by omega) (by omega) ha)
        have HSP := Lib.hid (show PlaT m (n + 1) (subT m (n + 1) (cutT (n + 1) t) (typT2 p m n ls)) from tri_ok fun _ _ _ => mod_lt' (by omega))
        have HTr := Lib.hid (show ∀ x ∈ topL n (subT m (n + 1) (cutT (n + 1) t) (typT2 p m n ls)) (n + 1), 0 ≤ x ∧ x < m from fun x hx => by
          unfold topL at hx
          simp only [mk, List.mem_map, List.mem_range] at hx
          obtain ⟨i, hi, rfl⟩ := hx
          exact tab_range HSP.out (by omega))
        have hfr : 0 ≤ facP m (laz n) (at0 (topL n (subT m (n + 1) (cutT (n + 1) t) (typT2 p m n ls)) (n + 1))) (n + 1) ∧ facP m (laz n) (at0 (topL n (subT m (n + 1) (cutT (n + 1) t) (typT2 p m n ls)) (n + 1))) (n + 1) < m := facP_range (by omega)
        have HFx : Hid (∃ x, x = facP m (laz n) (at0 (topL n (subT m (n + 1) (cutT (n + 1) t) (typT2 p m n ls)) (n + 1))) (n + 1)) := Lib.hid ⟨_, rfl⟩
        obtain ⟨x, hx⟩ := HFx.out
        rw [← hx] at hfr HF
        have HX := Lib.hid hx
        clear hx HFx hNg
        have e9 : IntKind.i64.wrap (-x) = -x := IntWalk.i64_in _ (by omega)
        generalize ownF p m t n ls = y at HF HR hOr
        go_wp2_with fail
        have hd0 : Below w8.heap.size w8 w8.drew := (Below.refl _ _).drew
        have hsd0 := hd0.size
        have f0_a := keep_cell hd0 (Nat.le_refl _) x0
        have f0_b := keep_cell hd0 (Nat.le_refl _) g0
        have f0_c := keep_cell hd0 (Nat.le_refl _) g1
        have f0_d := keep_cell hd0 (Nat.le_refl _) h0
        have f0_e := keep_cell hd0 (Nat.le_refl _) h1
        have f0_f := keep_cell hd0 (Nat.le_refl _) hc0
        have f0_g := (hO8.below hd0).fz k
        refine wp_region_K (S := fun w' => w'.cell? ⟨w.heap.size, 0, none⟩ = some (.int .i64 m) ∧ w'.cell? ⟨bG, 0, none⟩ = some (.int .i64 m) ∧ w'.cell? ⟨bG, 1, none⟩ = some (.slice o6 (n + 1) c6) ∧ w'.cell? ⟨bH, 0, none⟩ = some (.int .i64 m) ∧ w'.cell? ⟨bH, 1, none⟩ = some (.slice o4 (n + 1) c4)) [14] (by kernel_rfl) ?_
        have hHeld : (fun w' : World => w'.cell? ⟨w.heap.size, 0, none⟩ = some (.int .i64 m) ∧ w'.cell? ⟨bG, 0, none⟩ = some (.int .i64 m) ∧ w'.cell? ⟨bG, 1, none⟩ = some (.slice o6 (n + 1) c6) ∧ w'.cell? ⟨bH, 0, none⟩ = some (.int .i64 m) ∧ w'.cell? ⟨bH, 1, none⟩ = some (.slice o4 (n + 1) c4)) w8.drew := by go_keep
        refine' wpAnyK_takeL (i := 0) (v := _) rfl (by kernel_rfl) (by kernel_rfl) (by kernel_rfl) (by kernel_rfl) (fun _ _ _ h => h) (Or.inl ⟨by rfl, ?yT1⟩) hHeld ?rT1
        case yT1 => (intro w' hSw; (try dsimp only at hSw); go_simp; try with_reducible rfl)
        try simp only [List.getElem_toArray, List.getElem_cons_zero, List.getElem_cons_succ, Act.put, List.setIfInBounds_toArray, List.set_cons_zero, List.set_cons_succ]
        refine' wpAnyK_takeL (i := 1) (v := _) rfl (by kernel_rfl) (by kernel_rfl) (by kernel_rfl) (by kernel_rfl) (fun _ _ _ h => h) (Or.inl ⟨by rfl, ?yT2⟩) hHeld ?rT2
        case yT2 => (intro w' hSw; (try dsimp only at hSw); go_simp; try with_reducible rfl)
        try simp only [List.getElem_toArray, List.getElem_cons_zero, List.getElem_cons_succ, Act.put, List.setIfInBounds_toArray, List.set_cons_zero, List.set_cons_succ]
        refine' wpAnyK_takeL (i := 2) (v := _) rfl (by kernel_rfl) (by kernel_rfl) (by kernel_rfl) (by kernel_rfl) (fun _ _ _ h => h) (Or.inl ⟨by rfl, ?yT3⟩) hHeld ?rT3
        case yT3 => (intro w' hSw; (try dsimp only at hSw); go_simp; try with_reducible rfl)
        try simp only [List.getElem_toArray, List.getElem_cons_zero, List.getElem_cons_succ, Act.put, List.setIfInBounds_toArray, List.set_cons_zero, List.set_cons_succ]
        refine' wpAnyK_takeL (i := 3) (v := _) rfl (by kernel_rfl) (by kernel_rfl) (by kernel_rfl) (by kernel_rfl) (fun _ _ _ h => h) (Or.inl ⟨by rfl, ?yT4⟩) hHeld ?rT4
        case yT4 => (intro w' hSw; (try dsimp only at hSw); go_simp; try with_reducible rfl)
        try simp only [List.getElem_toArray, List.getElem_cons_zero, List.getElem_cons_succ, Act.put, List.setIfInBounds_toArray, List.set_cons_zero, List.set_cons_succ]
        refine' wpAnyK_takeL (i := 4) (v := _) rfl (by kernel_rfl) (by kernel_rfl) (by kernel_rfl) (by kernel_rfl) (fun _ _ _ h => h) (Or.inl ⟨by rfl, ?yT5⟩) hHeld ?rT5
        case yT5 => (intro w' hSw; (try dsimp only at hSw); go_simp; try with_reducible rfl)
        try simp only [List.getElem_toArray, List.getElem_cons_zero, List.getElem_cons_succ, Act.put, List.setIfInBounds_toArray, List.set_cons_zero, List.set_cons_succ]
        refine' wpAnyK_takeL (i := 5) (v := _) rfl (by kernel_rfl) (by kernel_rfl) (by kernel_rfl) (by kernel_rfl) (fun _ _ _ h => h) (Or.inl ⟨by rfl, ?yT6⟩) hHeld ?rT6
        case yT6 => (intro w' hSw; (try dsimp only at hSw); go_simp; try with_reducible rfl)
        try simp only [List.getElem_toArray, List.getElem_cons_zero, List.getElem_cons_succ, Act.put, List.setIfInBounds_toArray, List.set_cons_zero, List.set_cons_succ]
        refine' wpAnyK_takeL (i := 10) (v := _) rfl (by kernel_rfl) (by kernel_rfl) (by kernel_rfl) (by kernel_rfl) (fun _ _ _ h => h) (Or.inl ⟨by rfl, ?yT7⟩) hHeld ?rT7
        case yT7 => (intro w' hSw; (try dsimp only at hSw); go_simp; try with_reducible rfl)
        try simp only [List.getElem_toArray, List.getElem_cons_zero, List.getElem_cons_succ, Act.put, List.setIfInBounds_toArray, List.set_cons_zero, List.set_cons_succ]
        refine' wpAnyK_takeL (i := 11) (v := _) rfl (by kernel_rfl) (by kernel_rfl) (by kernel_rfl) (by kernel_rfl) (fun _ _ _ h => h) (Or.inl ⟨by rfl, ?yT8⟩) hHeld ?rT8
        case yT8 => (intro w' hSw; (try dsimp only at hSw); go_simp; try with_reducible rfl)
        try simp only [List.getElem_toArray, List.getElem_cons_zero, List.getElem_cons_succ, Act.put, List.setIfInBounds_toArray, List.set_cons_zero, List.set_cons_succ]
        refine wpAnyK_oneL (i := 6) rfl (by kernel_rfl) (fun K hK => ?_)
        go_simp
        go_at_call 58
        refine (minusP_c m m _ _ (cutT (n + 1) t) (typT2 p m n ls) _ ((hg8).below (by (repeat (first | exact Below.refl _ _ | (refine Below.setCell ?_ (by first | (simp; done) | (simp; omega) | omega) _) | (refine Below.alloc ?_ (by first | (simp; done) | (simp; omega) | omega) _) | (refine below_drewN ?_ _) | (refine Below.drew ?_)))) (Nat.le_refl _)) ((hh8).below (by (repeat (first | exact Below.refl _ _ | (refine Below.setCell ?_ (by first | (simp; done) | (simp; omega) | omega) _) | (refine Below.alloc ?_ (by first | (simp; done) | (simp; omega) | omega) _) | (refine below_drewN ?_ _) | (refine Below.drew ?_)))) (Nat.le_refl _)) (by rw [HGP.out.1]; omega) (by rw [HGP.out.1]; omega) (by rw [HGP.out.1, HHP.out.1]) hm (by omega) HGP.out.2 HHP.out.2).mono ?_
        rintro e wd1 ⟨va1, rfl, hod1, hbd1⟩
        rw [show tri (cutT (n + 1) t).length (fun i j => (atT (cutT (n + 1) t) i j - atT (typT2 p m n ls) i j) % m) = subT m (n + 1) (cutT (n + 1) t) (typT2 p m n ls) by rw [HGP.out.1]; rfl] at hod1
        have hd1 : Below w8.heap.size w8 wd1 := (by (repeat (first | exact Below.refl _ _ | (refine Below.setCell ?_ (by first | (simp; done) | (simp; omega) | omega) _) | (refine Below.alloc ?_ (by first | (simp; done) | (simp; omega) | omega) _) | (refine below_drewN ?_ _) | (refine Below.drew ?_) | (refine Below.trans ?_ (Below.mono hbd1 (by first | (simp; done) | (simp; omega) | omega))))))
        have hsd1 := hd1.size
        have hsz1_ := hbd1.size
        (try simp at hsz1_)
        have f1_a := keep_cell hd1 (Nat.le_refl _) x0
        have f1_b := keep_cell hd1 (Nat.le_refl _) g0
        have f1_c := keep_cell hd1 (Nat.le_refl _) g1
        have f1_d := keep_cell hd1 (Nat.le_refl _) h0
        have f1_e := keep_cell hd1 (Nat.le_refl _) h1
        have f1_f := keep_cell hd1 (Nat.le_refl _) hc0
        have f1_g := (hO8.below hd1).fz k
        go_wp2_with fail
        clear hHeld
        have hHeld : (fun w' : World => w'.cell? ⟨w.heap.size, 0, none⟩ = some (.int .i64 m) ∧ w'.cell? ⟨bG, 0, none⟩ = some (.int .i64 m) ∧ w'.cell? ⟨bG, 1, none⟩ = some (.slice o6 (n + 1) c6) ∧ w'.cell? ⟨bH, 0, none⟩ = some (.int .i64 m) ∧ w'.cell? ⟨bH, 1, none⟩ = some (.slice o4 (n + 1) c4)) wd1 := by go_keep
        refine hK.out _ _ (fun _ => hHeld) ?_
        clear hK K
        try simp only [List.getElem_toArray, List.getElem_cons_zero, List.getElem_cons_succ, Act.put, List.setIfInBounds_toArray, List.set_cons_zero, List.set_cons_succ]
        refine wpAnyK_oneL (i := 7) rfl (by kernel_rfl) (fun K hK => ?_)
        go_simp
        go_at_call 60
        refine (topP_c m m n _ (subT m (n + 1) (cutT (n + 1) t) (typT2 p m n ls)) _ ((hod1.below (by (repeat (first | exact Below.refl _ _ | (refine Below.setCell ?_ (by first | (simp; done) | (simp; omega) | omega) _) | (refine Below.alloc ?_ (by first | (simp; done) | (simp; omega) | omega) _) | (refine below_drewN ?_ _) | (refine Below.drew ?_)))))).rd HSP.out (by omega)).mono ?_
        rintro e wd2 ⟨vb2, rfl, hod2, hbd2⟩
        have hd2 : Below w8.heap.size w8 wd2 := (by (repeat (first | exact Below.refl _ _ | (refine Below.setCell ?_ (by first | (simp; done) | (simp; omega) | omega) _) | (refine Below.alloc ?_ (by first | (simp; done) | (simp; omega) | omega) _) | (refine below_drewN ?_ _) | (refine Below.drew ?_) | (refine Below.trans ?_ (Below.mono hbd1 (by first | (simp; done) | (simp; omega) | omega))) | (refine Below.trans ?_ (Below.mono hbd2 (by first | (simp; done) | (simp; omega) | omega))))))
        have hsd2 := hd2.size
        have hsz2_ := hbd2.size
        (try simp at hsz2_)
        have f2_a := keep_cell hd2 (Nat.le_refl _) x0
        have f2_b := keep_cell hd2 (Nat.le_refl _) g0
        have f2_c := keep_cell hd2 (Nat.le_refl _) g1
        have f2_d := keep_cell hd2 (Nat.le_refl _) h0
        have f2_e := keep_cell hd2 (Nat.le_refl _) h1
        have f2_f := keep_cell hd2 (Nat.le_refl _) hc0
        have f2_g := (hO8.below hd2).fz k
        go_wp2_with fail
        clear hHeld
        have hHeld : (fun w' : World => w'.cell? ⟨w.heap.size, 0, none⟩ = some (.int .i64 m) ∧ w'.cell? ⟨bG, 0, none⟩ = some (.int .i64 m) ∧ w'.cell? ⟨bG, 1, none⟩ = some (.slice o6 (n + 1) c6) ∧ w'.cell? ⟨bH, 0, none⟩ = some (.int .i64 m) ∧ w'.cell? ⟨bH, 1, none⟩ = some (.slice o4 (n + 1) c4)) wd2 := by go_keep
        refine hK.out _ _ (fun _ => hHeld) ?_
        clear hK K
        try simp only [List.getElem_toArray, List.getElem_cons_zero, List.getElem_cons_succ, Act.put, List.setIfInBounds_toArray, List.set_cons_zero, List.set_cons_succ]
        refine wpAnyK_oneL (i := 8) rfl (by kernel_rfl) (fun K hK => ?_)
        go_simp
        go_at_call 57
        refine (factorOf_c m n _ (topL n (subT m (n + 1) (cutT (n + 1) t) (typT2 p m n ls)) (n + 1)) _ ((hod2.below (by (repeat (first | exact Below.refl _ _ | (refine Below.setCell ?_ (by first | (simp; done) | (simp; omega) | omega) _) | (refine Below.alloc ?_ (by first | (simp; done) | (simp; omega) | omega) _) | (refine below_drewN ?_ _) | (refine Below.drew ?_)))))).rd (mk_len _ _) (by omega) (by omega) hm hm' HTr.out).mono ?_
        rintro e wd3 ⟨rfl, hbd3⟩
        rw [← HX.out]
        have hd3 : Below w8.heap.size w8 wd3 := (by (repeat (first | exact Below.refl _ _ | (refine Below.setCell ?_ (by first | (simp; done) | (simp; omega) | omega) _) | (refine Below.alloc ?_ (by first | (simp; done) | (simp; omega) | omega) _) | (refine below_drewN ?_ _) | (refine Below.drew ?_) | (refine Below.trans ?_ (Below.mono hbd1 (by first | (simp; done) | (simp; omega) | omega))) | (refine Below.trans ?_ (Below.mono hbd2 (by first | (simp; done) | (simp; omega) | omega))) | (refine Below.trans ?_ (Below.mono hbd3 (by first | (simp; done) | (simp; omega) | omega))))))
        have hsd3 := hd3.size
        have hsz3_ := hbd3.size
        (try simp at hsz3_)
        have f3_a := keep_cell hd3 (Nat.le_refl _) x0
        have f3_b := keep_cell hd3 (Nat.le_refl _) g0
        have f3_c := keep_cell hd3 (Nat.le_refl _) g1
        have f3_d := keep_cell hd3 (Nat.le_refl _) h0
        have f3_e := keep_cell hd3 (Nat.le_refl _) h1
        have f3_f := keep_cell hd3 (Nat.le_refl _) hc0
        have f3_g := (hO8.below hd3).fz k
        go_wp2_with fail
        clear hHeld
        have hHeld : (fun w' : World => w'.cell? ⟨w.heap.size, 0, none⟩ = some (.int .i64 m) ∧ w'.cell? ⟨bG, 0, none⟩ = some (.int .i64 m) ∧ w'.cell? ⟨bG, 1, none⟩ = some (.slice o6 (n + 1) c6) ∧ w'.cell? ⟨bH, 0, none⟩ = some (.int .i64 m) ∧ w'.cell? ⟨bH, 1, none⟩ = some (.slice o4 (n + 1) c4)) wd3 := by go_keep
        refine hK.out _ _ (fun _ => hHeld) ?_
        clear hK K
        try simp only [List.getElem_toArray, List.getElem_cons_zero, List.getElem_cons_succ, Act.put, List.setIfInBounds_toArray, List.set_cons_zero, List.set_cons_succ]
        refine' wpAnyK_takeL (i := 9) (v := _) rfl (by kernel_rfl) (by kernel_rfl) (by kernel_rfl) (by kernel_rfl) (fun _ _ _ h => h) (Or.inl ⟨by rfl, ?yT9⟩) hHeld ?rT9
        case yT9 => (intro w' hSw; (try dsimp only at hSw); go_simp; try with_reducible rfl)
        try simp only [List.getElem_toArray, List.getElem_cons_zero, List.getElem_cons_succ, Act.put, List.setIfInBounds_toArray, List.set_cons_zero, List.set_cons_succ]
        refine wpAnyK_oneL (i := 12) rfl (by kernel_rfl) (fun K hK => ?_)
        go_simp
        go_at_call 75
        refine (mod_c (-x) m _ (by omega) (by omega) (by omega) (by omega)).mono ?_
        rintro e w' ⟨rfl, rfl⟩
        rw [HF.out]
        go_wp2_with fail
        refine hK.out _ _ (fun _ => hHeld) ?_
        clear hK K
        try simp only [List.getElem_toArray, List.getElem_cons_zero, List.getElem_cons_succ, Act.put, List.setIfInBounds_toArray, List.set_cons_zero, List.set_cons_succ]
        refine wpAnyK_oneL (i := 13) rfl (by kernel_rfl) (fun K hK => ?_)
        go_simp
        (try go_wp2_with fail)
        refine hK.out _ _ (fun _ => hHeld) ?_
        clear hK K
        try simp only [List.getElem_toArray, List.getElem_cons_zero, List.getElem_cons_succ, Act.put, List.setIfInBounds_toArray, List.set_cons_zero, List.set_cons_succ]
        refine wpAnyK_oneL (i := 14) rfl (by kernel_rfl) (fun K hK => ?_)
        go_simp
        (try go_wp2_with fail)
        refine hK.out _ _ (fun h => absurd h (by decide)) ?_
        clear hK K
        try simp only [List.getElem_toArray, List.getElem_cons_zero, List.getElem_cons_succ, Act.put, List.setIfInBounds_toArray, List.set_cons_zero, List.set_cons_succ]
        refine wpAnyK_done (by kernel_rfl) ?_ _
        go_wp2_with fail
        have hO9 := (hO8.below hd3).put k y
        have hset : (ls ++ List.replicate (M - ls.length) 0).set k y = (ls ++ [y]) ++ List.replicate (M - (ls ++ [y]).length) 0 := by
          have := set_pad ls y (M := M) (by omega)
          rw [hlk] at this
          rw [hlk, this]
          congr 2
          simp; omega
        rw [hset] at hO9
        have B9 := B8.trans (hd3.mono B8s)
        have hB9 := below_put (hB.trans (B9.mono (by omega))) (g := gL) (k := k) (Nat.le_refl _) (.int .i64 y)
        have hsz9 := hd3.size
        refine ⟨⟨k + 1, ls ++ [y], by omega, by go_num, by simp; omega, HR, ?_, hO9, hB9, by simp; omega⟩, by simp [intOf]; omega⟩
        intro z hz
        rcases List.mem_append.1 hz with h | h
        · exact hlr z h
        · rw [List.mem_singleton.1 h]; exact ⟨hOr.1, hOr.2⟩
      · have k1 : (K : Int) - 1 < (n : Int) - 1 := by have hx : ¬ n ≤ K := fun h => ha (hK.2 h); omega
        have k2 : (K : Int) < (n : Int) := by omega
        have HR := Lib.hid (HKf.out ha)
        have B9 := Bw.trans (B8.mono (by have := Bw.size; omega))
        go_wp2
        go_ret2
        rw [HR.out]
        exact ⟨_, rfl, fun ls h => by simp at h, B9⟩
    · obtain rfl : k = M := by omega
      have i1 : ¬ (k : Int) < (k : Int) := by omega
      rw [hlk, Nat.sub_self, List.replicate_zero, List.append_nil] at hO
      have hOr := hO.rd
      have HPO := Lib.hid (show parO p m t D = if typT2 p m D ls = t then some ls else none by
        unfold parO
        rw [← HM.out, HK.out])
      have HE := Lib.hid (show eqPB m (typT2 p m D ls) m t = (parO p m t D).isSome by
        rw [HPO.out]
        show (m == m && eqTB _ _) = _
        rw [eqTB_iff]
        by_cases h : typT2 p m D ls = t
        · rw [if_pos h]; simp [h]
        · rw [if_neg h]; simp [h])
      obtain ⟨b, hb⟩ : ∃ b, b = (parO p m t D).isSome := ⟨_, rfl⟩
      have HB := Lib.hid hb
      rw [← hb] at HE
      clear hb
      have hll : ls.length ≤ 3 := by omega
      have Bws := Bw.size
      go_wp2_with fail
      have hd0 : Below wr.heap.size wr wr.drew := (Below.refl _ _).drew
      have hsd0 := hd0.size
      have f0_a := keep_cell hd0 (Nat.le_refl _) x0
      have f0_b := keep_cell hd0 (Nat.le_refl _) x1
      refine wp_region_K (S := fun w' => w'.cell? ⟨w.heap.size, 0, none⟩ = some (.int .i64 m) ∧ w'.cell? ⟨w.heap.size, 1, none⟩ = some (.slice o (D + 1) c)) [] (by kernel_rfl) ?_
      have hHeld : (fun w' : World => w'.cell? ⟨w.heap.size, 0, none⟩ = some (.int .i64 m) ∧ w'.cell? ⟨w.heap.size, 1, none⟩ = some (.slice o (D + 1) c)) wr.drew := by go_keep
      refine' wpAnyK_takeL (i := 0) (v := _) rfl (by kernel_rfl) (by kernel_rfl) (by kernel_rfl) (by kernel_rfl) (fun _ _ _ h => h) (Or.inl ⟨by rfl, ?yT10⟩) hHeld ?rT10
      case yT10 => (intro w' hSw; (try dsimp only at hSw); go_simp; try with_reducible rfl)
      try simp only [List.getElem_toArray, List.getElem_cons_zero, List.getElem_cons_succ, Act.put, List.setIfInBounds_toArray, List.set_cons_zero, List.set_cons_succ]
      refine' wpAnyK_takeL (i := 1) (v := _) rfl (by kernel_rfl) (by kernel_rfl) (by kernel_rfl) (by kernel_rfl) (fun _ _ _ h => h) (Or.inl ⟨by rfl, ?yT11⟩) hHeld ?rT11
      case yT11 => (intro w' hSw; (try dsimp only at hSw); go_simp; try with_reducible rfl)
      try simp only [List.getElem_toArray, List.getElem_cons_zero, List.getElem_cons_succ, Act.put, List.setIfInBounds_toArray, List.set_cons_zero, List.set_cons_succ]
      refine' wpAnyK_takeL (i := 2) (v := _) rfl (by kernel_rfl) (by kernel_rfl) (by kernel_rfl) (by kernel_rfl) (fun _ _ _ h => h) (Or.inl ⟨by rfl, ?yT12⟩) hHeld ?rT12
      case yT12 => (intro w' hSw; (try dsimp only at hSw); go_simp; try with_reducible rfl)
      try simp only [List.getElem_toArray, List.getElem_cons_zero, List.getElem_cons_succ, Act.put, List.setIfInBounds_toArray, List.set_cons_zero, List.set_cons_succ]
      refine' wpAnyK_takeL (i := 3) (v := _) rfl (by kernel_rfl) (by kernel_rfl) (by kernel_rfl) (by kernel_rfl) (fun _ _ _ h => h) (Or.inl ⟨by rfl, ?yT13⟩) hHeld ?rT13
      case yT13 => (intro w' hSw; (try dsimp only at hSw); go_simp; try with_reducible rfl)
      try simp only [List.getElem_toArray, List.getElem_cons_zero, List.getElem_cons_succ, Act.put, List.setIfInBounds_toArray, List.set_cons_zero, List.set_cons_succ]
      refine' wpAnyK_takeL (i := 4) (v := _) rfl (by kernel_rfl) (by kernel_rfl) (by kernel_rfl) (by kernel_rfl) (fun _ _ _ h => h) (Or.inl ⟨by rfl, ?yT14⟩) hHeld ?rT14
      case yT14 => (intro w' hSw; (try dsimp only at hSw); go_simp; try with_reducible rfl)
      try simp only [List.getElem_toArray, List.getElem_cons_zero, List.getElem_cons_succ, Act.put, List.setIfInBounds_toArray, List.set_cons_zero, List.set_cons_succ]
      refine' wpAnyK_takeL (i := 6) (v := _) rfl (by kernel_rfl) (by kernel_rfl) (by kernel_rfl) (by kernel_rfl) (fun _ _ _ h => h) (Or.inl ⟨by rfl, ?yT15⟩) hHeld ?rT15
      case yT15 => (intro w' hSw; (try dsimp only at hSw); go_simp; try with_reducible rfl)
      try simp only [List.getElem_toArray, List.getElem_cons_zero, List.getElem_cons_succ, Act.put, List.setIfInBounds_toArray, List.set_cons_zero, List.set_cons_succ]
      refine' wpAnyK_takeL (i := 8) (v := _) rfl (by kernel_rfl) (by kernel_rfl) (by kernel_rfl) (by kernel_rfl) (fun _ _ _ h => h) (Or.inl ⟨by rfl, ?yT16⟩) hHeld ?rT16
      case yT16 => (intro w' hSw; (try dsimp only at hSw); go_simp; try with_reducible rfl)
      try simp only [List.getElem_toArray, List.getElem_cons_zero, List.getElem_cons_succ, Act.put, List.setIfInBounds_toArray, List.set_cons_zero, List.set_cons_succ]
      refine wpAnyK_oneL (i := 5) rfl (by kernel_rfl) (fun K hK => ?_)
      go_simp
      go_at_call 54
      refine (degreeP_c m o (D + 1) c _ hmx.1).mono ?_
      rintro e wd1 ⟨rfl, hbd1⟩
      have hd1 : Below wr.heap.size wr wd1 := (by (repeat (first | exact Below.refl _ _ | (refine Below.setCell ?_ (by first | (simp; done) | (simp; omega) | omega) _) | (refine Below.alloc ?_ (by first | (simp; done) | (simp; omega) | omega) _) | (refine below_drewN ?_ _) | (refine Below.drew ?_) | (refine Below.trans ?_ (Below.mono hbd1 (by first | (simp; done) | (simp; omega) | omega))))))
      have hsd1 := hd1.size
      have hsz1_ := hbd1.size
      (try simp at hsz1_)
      have f1_a := keep_cell hd1 (Nat.le_refl _) x0
      have f1_b := keep_cell hd1 (Nat.le_refl _) x1
      go_wp2_with fail
      clear hHeld
      have hHeld : (fun w' : World => w'.cell? ⟨w.heap.size, 0, none⟩ = some (.int .i64 m) ∧ w'.cell? ⟨w.heap.size, 1, none⟩ = some (.slice o (D + 1) c)) wd1 := by go_keep
      refine hK.out _ _ (fun _ => hHeld) ?_
      clear hK K
      try simp only [List.getElem_toArray, List.getElem_cons_zero, List.getElem_cons_succ, Act.put, List.setIfInBounds_toArray, List.set_cons_zero, List.set_cons_succ]
      refine wpAnyK_oneL (i := 7) rfl (by kernel_rfl) (fun K hK => ?_)
      go_simp
      go_at_call 56
      refine (typicalLaw_t p D m _ ls _ ((hOr).below (by (repeat (first | exact Below.refl _ _ | (refine Below.setCell ?_ (by first | (simp; done) | (simp; omega) | omega) _) | (refine Below.alloc ?_ (by first | (simp; done) | (simp; omega) | omega) _) | (refine below_drewN ?_ _) | (refine Below.drew ?_) | (refine Below.trans ?_ (Below.mono hbd1 (by first | (simp; done) | (simp; omega) | omega)))))) (Nat.le_refl _)) hp hD1 hD hm hm' hll hlr).mono ?_
      rintro e wd2 ⟨va2, rfl, hod2, hbd2⟩
      have hd2 : Below wr.heap.size wr wd2 := (by (repeat (first | exact Below.refl _ _ | (refine Below.setCell ?_ (by first | (simp; done) | (simp; omega) | omega) _) | (refine Below.alloc ?_ (by first | (simp; done) | (simp; omega) | omega) _) | (refine below_drewN ?_ _) | (refine Below.drew ?_) | (refine Below.trans ?_ (Below.mono hbd1 (by first | (simp; done) | (simp; omega) | omega))) | (refine Below.trans ?_ (Below.mono hbd2 (by first | (simp; done) | (simp; omega) | omega))))))
      have hsd2 := hd2.size
      have hsz2_ := hbd2.size
      (try simp at hsz2_)
      have f2_a := keep_cell hd2 (Nat.le_refl _) x0
      have f2_b := keep_cell hd2 (Nat.le_refl _) x1
      go_wp2_with fail
      clear hHeld
      have hHeld : (fun w' : World => w'.cell? ⟨w.heap.size, 0, none⟩ = some (.int .i64 m) ∧ w'.cell? ⟨w.heap.size, 1, none⟩ = some (.slice o (D + 1) c)) wd2 := by go_keep
      refine hK.out _ _ (fun _ => hHeld) ?_
      clear hK K
      try simp only [List.getElem_toArray, List.getElem_cons_zero, List.getElem_cons_succ, Act.put, List.setIfInBounds_toArray, List.set_cons_zero, List.set_cons_succ]
      refine wpAnyK_oneL (i := 9) rfl (by kernel_rfl) (fun K hK => ?_)
      go_simp
      go_at_call 76
      refine (sameP_c m m _ _ (typT2 p m D ls) t _ ((hod2.below (by (repeat (first | exact Below.refl _ _ | (refine Below.setCell ?_ (by first | (simp; done) | (simp; omega) | omega) _) | (refine Below.alloc ?_ (by first | (simp; done) | (simp; omega) | omega) _) | (refine below_drewN ?_ _) | (refine Below.drew ?_)))))).rd ((hvw).below (by (repeat (first | exact Below.refl _ _ | (refine Below.setCell ?_ (by first | (simp; done) | (simp; omega) | omega) _) | (refine Below.alloc ?_ (by first | (simp; done) | (simp; omega) | omega) _) | (refine below_drewN ?_ _) | (refine Below.drew ?_) | (refine Below.trans ?_ (Below.mono hbd1 (by first | (simp; done) | (simp; omega) | omega))) | (refine Below.trans ?_ (Below.mono hbd2 (by first | (simp; done) | (simp; omega) | omega)))))) (Nat.le_refl _))).mono ?_
      rintro e wd3 ⟨rfl, hbd3⟩
      rw [HE.out]
      have hd3 : Below wr.heap.size wr wd3 := (by (repeat (first | exact Below.refl _ _ | (refine Below.setCell ?_ (by first | (simp; done) | (simp; omega) | omega) _) | (refine Below.alloc ?_ (by first | (simp; done) | (simp; omega) | omega) _) | (refine below_drewN ?_ _) | (refine Below.drew ?_) | (refine Below.trans ?_ (Below.mono hbd1 (by first | (simp; done) | (simp; omega) | omega))) | (refine Below.trans ?_ (Below.mono hbd2 (by first | (simp; done) | (simp; omega) | omega))) | (refine Below.trans ?_ (Below.mono hbd3 (by first | (simp; done) | (simp; omega) | omega))))))
      have hsd3 := hd3.size
      have hsz3_ := hbd3.size
      (try simp at hsz3_)
      have f3_a := keep_cell hd3 (Nat.le_refl _) x0
      have f3_b := keep_cell hd3 (Nat.le_refl _) x1
      go_wp2_with fail
      clear hHeld
      have hHeld : (fun w' : World => w'.cell? ⟨w.heap.size, 0, none⟩ = some (.int .i64 m) ∧ w'.cell? ⟨w.heap.size, 1, none⟩ = some (.slice o (D + 1) c)) wd3 := by go_keep
      refine hK.out _ _ (fun _ => hHeld) ?_
      clear hK K
      try simp only [List.getElem_toArray, List.getElem_cons_zero, List.getElem_cons_succ, Act.put, List.setIfInBounds_toArray, List.set_cons_zero, List.set_cons_succ]
      refine' wpAnyK_takeL (i := 10) (v := _) rfl (by kernel_rfl) (by kernel_rfl) (by kernel_rfl) (by kernel_rfl) (fun _ _ _ h => h) (Or.inl ⟨by rfl, ?yT17⟩) hHeld ?rT17
      case yT17 => (intro w' hSw; (try dsimp only at hSw); go_simp; try with_reducible rfl)
      try simp only [List.getElem_toArray, List.getElem_cons_zero, List.getElem_cons_succ, Act.put, List.setIfInBounds_toArray, List.set_cons_zero, List.set_cons_succ]
      refine' wpAnyK_takeL (i := 11) (v := _) rfl (by kernel_rfl) (by kernel_rfl) (by kernel_rfl) (by kernel_rfl) (fun _ _ _ h => h) (Or.inl ⟨by rfl, ?yT18⟩) hHeld ?rT18
      case yT18 => (intro w' hSw; (try dsimp only at hSw); go_simp; try with_reducible rfl)
      try simp only [List.getElem_toArray, List.getElem_cons_zero, List.getElem_cons_succ, Act.put, List.setIfInBounds_toArray, List.set_cons_zero, List.set_cons_succ]
      refine wpAnyK_done (by kernel_rfl) ?_ _
      go_wp2_with fail
      have B9 := Bw.trans (hd3.mono Bws)
      have hO9 := hO.below hd3
      go_wp2
      go_ret2
      refine ⟨.slice (some ⟨gL, 0, none⟩) k k, by rw [HB.out]; rfl, fun ls' h => ?_, B9⟩
      rw [HPO.out] at h
      split at h
      · rw [← Option.some.inj h]; exact hO9.mono (by omega)
      · simp at h
end Go.Proofs.YtoednonijmkbjaaGreat
