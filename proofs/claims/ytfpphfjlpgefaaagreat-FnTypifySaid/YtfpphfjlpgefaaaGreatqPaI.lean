/- Lemmas. -/
import Derived.Test.YtfpphfjlpgefaaaGreatqM31
import Derived.Test.YtfpphfjlpgefaaaGreatqM35
import Derived.Test.YtfpphfjlpgefaaaGreatqG5
import Derived.Test.YtfpphfjlpgefaaaGreatqM1
import Derived.Test.YtfpphfjlpgefaaaGreatqM29
set_option maxHeartbeats 4000000
set_option maxRecDepth 100000
set_option linter.unusedSimpArgs false
set_option linter.unusedVariables false
namespace Go.Proofs.YtfpphfjlpgefaaaGreat
open Go.RowKit

theorem qGV (p n : Nat) (m : Int) (v : Value) (ls : Li) (w : World) (hv : RdI w v ls) (hp : P4 p) (n1 : 1 ≤ n) (hn : n ≤ 10) (hm : 2 ≤ m) (hm' : m ≤ 10000) (hl : ls.length ≤ 3) (hx : ∀ x ∈ ls, 0 ≤ x ∧ x < m) :
  Calls Tryz.prog 72 #[.int .i64 p, .int .i64 m, .int .i64 n, v] w fun e w' => qC9 w w' m (qA7 p m n ls) e := by
 have hp2 := hp.pos
 have hpw := (hp.pow9 (show n - 1 ≤ 10 by omega))
 have hp9 : p ^ (n - 1) ≤ 40353607 := Nat.le_trans (Nat.pow_le_pow_left hp2.2 _) (Nat.pow_le_pow_right Oo (show n - 1 ≤ 9 by omega))
 have hWm : m * ((p ^ (n - 1) : Nat) : Int) ≤ 10000 * 40353607 := Int.mul_le_mul Oo Oo Oo Oo
 have h := qKi p n m v ls w hv hp n1 hn hm hm' hl (fun x hx' => ⟨(hx x hx').1, by have := (hx x hx').2; omega⟩) _ rfl Oo
 rw [qJV hp n1 hn _ (m := m) Oo rfl (by
  have := Int.mul_le_mul hm (show (1 : Int) ≤ ((p ^ (n - 1) : Nat) : Int) by omega) Oo Oo; omega)] at h
 exact h
theorem qKV (xs ys : Tb) : qC3 xs ys = decide (xs = ys) := by
 by_cases h : xs = ys
 ·subst h; rw [qIq]; simp
 ·rw [qGo h]; simp [h]
theorem qLg {p : Nat} {m : Int} {t : Tb} {n : Nat} {ls : Li} (h : 0 ≤ qAB p m t n ls) : 0 ≤ qAB p m t n ls ∧ qAB p m t n ls < m := by
 refine ⟨h, ?_⟩
 unfold qAB at h ⊢
 rcases qEL m (laz n) (fun i => (atT (qA7 p m n ls) i (n - i) - atT (qA_ (n + 1) t) i (n - i)) % m) (n + 1) m.toNat with e | ⟨k, hk, e, _⟩
 ·omega
 ·rw [e]; omega
theorem qNU {m : Int} {c d : Nat → Int} {n : Nat} (hm : 0 < m) : 0 ≤ qBZ m c d n ∧ qBZ m c d n < m := by
 unfold qBZ
 rcases qEL m c d n m.toNat with e | ⟨k, hk, e, _⟩
 ·rw [e, if_neg Oo]; omega
 ·rw [e, if_pos Oo]; omega
theorem qMI {p : Nat} {m : Int} {t : Tb} {k : Nat} {ls : Li} (h : qB5 p m t k = some ls) (ha : agrF p m t (p ^ (k + 1)) ls) : qB5 p m t (k + 1) = some (ls ++ [qAB p m t (p ^ (k + 1)) ls]) := by
 unfold qB5; rw [h]; simp only; rw [if_pos ha]
theorem qJS {p : Nat} {m : Int} {t : Tb} {k : Nat} {ls : Li} (h : qB5 p m t k = some ls) (ha : ¬ agrF p m t (p ^ (k + 1)) ls) : ∀ j, qB5 p m t (k + 1 + j) = none
 | 0 => by
   show qB5 p m t (k + 1) = none
   unfold qB5; rw [h]; simp only; rw [if_neg ha]
 | j + 1 => by
   show qB5 p m t (k + 1 + j + 1) = none
   unfold qB5; rw [qJS h ha j]
theorem qPk (ls : Li) (y : Int) {M : Nat} (h : ls.length < M) : (ls ++ List.replicate (M - ls.length) 0).set ls.length y = (ls ++ [y]) ++ List.replicate (M - (ls.length + 1)) 0 := by
 rw [List.set_append_right _ _ (nl _), Nat.sub_self, show M - ls.length = (M - (ls.length + 1)) + 1 by omega, List.replicate_succ, List.set_cons_zero, List.append_assoc]
 rfl

theorem qGz (p D : Nat) (m : Int) (v : Value) (t : Tb) (w : World) (hv : RdT w v t) (hp : P4 p) (hD1 : 1 ≤ D) (hD : D ≤ 10) (hm : 2 ≤ m) (hm' : m ≤ 10000) (ht : PlaT m (D + 1) t) (L : Lw m (D + 1) (atT t)) :
  Calls Tryz.prog 61 #[.int .i64 p, .agg #[.int .i64 m, v]] w fun e w' => ∃ v', e = .returned (.tuple #[v', .bool (qBr p m t D).isSome]) ∧ (∀ ls, qBr p m t D = some ls → OwI w' w.heap.size v' ls) ∧ Below w.heap.size w w' := by
 obtain ⟨o, c, rfl, hmx, -⟩ := id hv
 rw [ht.1] at hmx ⊢
 have hv' : RdT w (.slice o (D + 1) c) t := by rw [ht.1] at hv; exact hv
 have HT := dd ht
 have HL := dd L
 have hp2 := hp.pos
 clear hv ht L
 obtain ⟨M, hM⟩ : ∃ M, M = qA4 p D := ⟨_, rfl⟩
 have HM := dd hM
 have hM3 : M ≤ 3 := by rw [hM]; exact qEb hp hD
 clear hM
 go_enter Tryz.func61, Tryz.ntmps61
 go_wp2_with fail
 (obtain ⟨w0, hw0⟩ : ∃ W : World, W = (w.alloc (.cells #[.int .i64 m, .slice o (D + 1) c] 26)) := ⟨_, rfl⟩; have X0 := (RB2.mk1 w  (.int .i64 m) (.slice o (D + 1) c) 26).1.below (w' := w0) (bV hw0) (nl _); have B0 : Below w.heap.size w w0 := (bV hw0); have hv'0 := hv'.below (w' := w0) (bV hw0) (nl _); rw [← hw0]; clear hw0)
 refine (qB9 m o (D + 1) c _ hmx.1).mono ?_
 rintro e w1 ⟨rfl, hb⟩
 (have X1 := X0.below hb; have hv'1 := hv'0.below hb; have B1 := B0.trans (hb.mono B0.size))
 clear hb
 go_wp2_with fail
 refine (qPC p D _ hp hD).mono ?_
 rintro e w2 ⟨vp, rfl, hP, hb⟩
 (have X2 := X1.below hb; have hv'2 := hv'1.below hb; have B2 := B1.trans (hb.mono B1.size))
 clear hb
 rw [← HM.out] at hP
 obtain ⟨op, cp, ep, -, -⟩ := id hP
 rw [qA8] at ep
 subst ep
 have B2s := B2.size
 have X2l := X2.lt
 go_wp2_with (at_make; go_loud (refine mkI _ rfl _ _ rfl _ _ _ M rfl rfl rfl Oo ?_; intro w3 hO3 hb3 hs3))
 obtain ⟨gL, hgL⟩ : ∃ gL, gL = w2.heap.size := ⟨_, rfl⟩
 have hB3 : Below gL w2 w3 := by rw [hgL]; exact hb3
 rw [← hgL] at hO3 hs3 X2l B2s ⊢
 have hgle : w2.heap.size ≤ gL := Oo
 clear hb3 hgL
 go_loopw [21] (fun i wr => ∃ (k : Nat) (ls : Li), k ≤ M ∧ i = .int .i64 k ∧ ls.length = k ∧ Hid (qB5 p m t k = some ls) ∧ (∀ x ∈ ls, 0 ≤ x ∧ x < m) ∧ OwI wr gL (.slice (some ⟨gL, 0, none⟩) M M) (ls ++ List.replicate (M - ls.length) 0) ∧ Below gL w2 wr ∧ gL < wr.heap.size) (fun i _ => M - (intOf i).toNat)
 case atStart => exact ⟨0, [], Nat.zero_le _, rfl, rfl, dd rfl, by simp, by simpa using hO3, hB3, Oo⟩
 case round =>
  clear hO3 hB3 hs3; obtain ⟨k, ls, hk, rfl, hlk, HK, hlr, hO, hB, hgw⟩ := hrel; have Xw := X2.below hB hgle; have hvw := hv'2.below hB hgle; have Bw := B2.trans (hB.mono B2s); have hPw := hP.below hB hgle; have hBs := hB.size; obtain ⟨x0, x1⟩ := id Xw
  by_cases hlt : k < M
  ·have hkn : p ^ (k + 1) ≤ D := (qBq hp hD (show k ≤ qA4 p D by rw [← HM.out]; omega)).2.2.1.2 (by rw [← HM.out]; exact hlt); have hgt := qCG hp2.1 (k + 1); have HN : Hid (∃ n, n = p ^ (k + 1)) := dd ⟨_, rfl⟩; obtain ⟨n, hn⟩ := HN.out; rw [← hn] at hkn hgt; have hRk := HK.out; obtain ⟨bp, fp, rfl, -⟩ := hPw.cells (by rw [qA8]; omega); have cP := hPw.cell0 (qAy (f := fun k => ((p ^ (k + 1) : Nat) : Int)) hlt); rw [← hn] at cP; have i1 : (k : Int) < (M : Int) := Oo; have i0 : (0 : Int) ≤ (k : Int) := Oo
   have HKs : Hid (∀ (ha : agrF p m t n ls), qB5 p m t (k + 1) = some (ls ++ [qAB p m t n ls]) ∧ 0 ≤ qAB p m t n ls) := dd (fun ha => by
    rw [hn] at ha ⊢; exact ⟨qMI hRk ha, qGf hp hm hD HL.out Oo Oo ha⟩)
   have HKf : Hid (¬ agrF p m t n ls → qBr p m t D = none) := dd (fun ha => by
    unfold qBr; have := qJS hRk (by rw [hn] at ha; exact ha) (M - (k + 1)); rw [show k + 1 + (M - (k + 1)) = M by omega, HM.out] at this; rw [this])
   clear hn HN hRk; have hOr := hO.rd; have hpadl : (ls ++ List.replicate (M - ls.length) (0 : Int)).length ≤ 3 := by simp; omega
   have hpadr : ∀ x ∈ ls ++ List.replicate (M - ls.length) (0 : Int), 0 ≤ x ∧ x < m := by
    intro x hx; rcases List.mem_append.1 hx with h | h
    ·exact hlr x h
    ·rw [(List.mem_replicate.1 h).2]; omega
   go_wp2_with fail
   refine (qGV p n m _ (ls ++ List.replicate (M - ls.length) 0) _ hOr hp Oo Oo hm hm' hpadl hpadr).mono ?_; rintro e w4 ⟨v4, rfl, how4, hb4⟩; rw [qIN] at how4; obtain ⟨o4, c4, rfl⟩ := how4.shapeN (n := n + 1) (by rw [qBD]; exact qA9 _ _); have hb4s := hb4.size; have X4 := Xw.below hb4; clear x0 x1; obtain ⟨x0, x1⟩ := id X4; have x4l := X4.lt; have x4n : w.heap.size ≠ w4.heap.size := Oo
   go_wp2_with fail
   have H5 := Box2.mk' w4 (.int .i64 m) (.slice o4 (n + 1) c4) 26; have hbA : Below w4.heap.size w4 (w4.alloc (.cells #[.int .i64 m, .slice o4 (n + 1) c4] 26)) := bZ; have hh5 := how4.rd.below hbA; have B5 := hb4.trans (hbA.mono hb4s); have hs5 : (w4.alloc (.cells #[.int .i64 m, .slice o4 (n + 1) c4] 26)).heap.size = w4.heap.size + 1 := by simp
   generalize w4.alloc (.cells #[.int .i64 m, .slice o4 (n + 1) c4] 26) = w5 at H5 hh5 B5 hs5 ⊢; obtain ⟨bH, hbH⟩ : ∃ bH, bH = w4.heap.size := ⟨_, rfl⟩; rw [← hbH] at H5 hs5 hb4s ⊢; have B5s := B5.size; clear x0 x1 hbA how4 hbH hb4 X4 x4n x4l; refine (qLO m m (D + 1) n _ t _ (hvw.below B5) HT.out Oo Oo Oo).mono ?_; rintro e w6 ⟨v6, rfl, how6, hb6⟩; obtain ⟨o6, c6, rfl⟩ := how6.shapeN (n := n + 1) (qKU _ _); have hb6s := hb6.size; have H6 := H5.below hb6; have hh6 := hh5.below hb6; have G7 := Box2.mk' w6 (.int .i64 m) (.slice o6 (n + 1) c6) 26; have hbA : Below w6.heap.size w6 (w6.alloc (.cells #[.int .i64 m, .slice o6 (n + 1) c6] 26)) := bZ; have hg7 := how6.rd.below hbA; have hh7 := hh6.below hbA; have H7 := H6.below hbA; have B7 := B5.trans ((hb6.trans (hbA.mono hb6s)).mono B5s); have hs7 : (w6.alloc (.cells #[.int .i64 m, .slice o6 (n + 1) c6] 26)).heap.size = w6.heap.size + 1 := by simp
   obtain ⟨h0, h1⟩ := id H6; have h6l := H6.lt; have h6n : bH ≠ w6.heap.size := Oo
   go_wp2_with fail
   generalize w6.alloc (.cells #[.int .i64 m, .slice o6 (n + 1) c6] 26) = w7 at G7 hg7 hh7 H7 B7 hs7 ⊢; obtain ⟨bG, hbG⟩ : ∃ bG, bG = w6.heap.size := ⟨_, rfl⟩; rw [← hbG] at G7 hs7 hb6s ⊢; clear h0 h1 hbA how6 H6 hh6 H5 hh5 B5 hb6 h6l h6n hbG; have HGP := dd (show PlaT m (n + 1) (qA_ (n + 1) t) from qF7 HT.out Oo); have HHP := dd (show PlaT m (n + 1) (qA7 p m n ls) from qDz Oo p n ls)
   have HZ := dd (show qB8 (qA_ (n + 1) t) (qA7 p m n ls) 0 = true from qFN fun i hi => by
    obtain rfl : i = 0 := Oo; rw [qEQ Oo, HL.out.zer, (qEt hp (show 1 ≤ n by omega) Oo hm ls).zer])
   refine (qOb m m m (n + 1) _ _ (qA_ (n + 1) t) (qA7 p m n ls) _ hg7 hh7 Oo Oo HGP.out HHP.out HZ.out).mono ?_; rintro e w8 ⟨rfl, hb8⟩; have hK : agrF p m t n ls ↔ n ≤ agrK (qA_ (n + 1) t) (qA7 p m n ls) (n + 1) := Iff.rfl; have hKl := qJe (qA_ (n + 1) t) (qA7 p m n ls) (n + 1); generalize agrK (qA_ (n + 1) t) (qA7 p m n ls) (n + 1) = K at hK hKl ⊢; have e8 : IntKind.i64.wrap ((n : Int) - 1) = (n : Int) - 1 := IntWalk.i64_in _ Oo; have B7s := B7.size; have G8 := G7.below hb8; have H8 := H7.below hb8; have hg8 := hg7.below hb8; have hh8 := hh7.below hb8; have B8 := B7.trans (hb8.mono B7s); have hb8s := hb8.size; clear G7 H7 hg7 hh7 B7 hb8; have B8s := B8.size
   by_cases ha : agrF p m t n ls
   ·have k1 : ¬ (K : Int) - 1 < (n : Int) - 1 := by have := hK.1 ha; omega
    have k2 : ¬ (K : Int) < (n : Int) := by have := hK.1 ha; omega
    have X8 := Xw.below B8; obtain ⟨x0, x1⟩ := id X8; obtain ⟨h0, h1⟩ := id H8; obtain ⟨g0, g1⟩ := id G8; have hO8 := hO.below B8; have hc0 := hO8.cell (k := k) (qA5 (by simp; omega)); have hf0 := hO8.fz k; have hNg := (HKs.out ha).2; have HR := dd (HKs.out ha).1; have hOr := qLg hNg
    have HF := dd (show (-(qBZ m (laz n) (at0 (qBc n (qBb m (n + 1) (qA_ (n + 1) t) (qA7 p m n ls)) (n + 1))) (n + 1))) % m = qAB p m t n ls by
     rw [qJy (d' := fun i => (atT (qA_ (n + 1) t) i (n - i) - atT (qA7 p m n ls) i (n - i)) % m) (fun i hi => by
      unfold qBc; rw [qBN hi]; unfold qBb; rw [qAi Oo])]
     exact qQ7 hp hm hD HL.out Oo Oo ha)
    have HSP := dd (show PlaT m (n + 1) (qBb m (n + 1) (qA_ (n + 1) t) (qA7 p m n ls)) from qB2 fun _ _ _ => qA6 Oo)
    have HTr := dd (show ∀ x ∈ qBc n (qBb m (n + 1) (qA_ (n + 1) t) (qA7 p m n ls)) (n + 1), 0 ≤ x ∧ x < m from fun x hx => by
     unfold qBc at hx; simp only [mk, List.mem_map, List.mem_range] at hx; obtain ⟨i, hi, rfl⟩ := hx; exact qBT HSP.out Oo)
    have hfr : 0 ≤ qBZ m (laz n) (at0 (qBc n (qBb m (n + 1) (qA_ (n + 1) t) (qA7 p m n ls)) (n + 1))) (n + 1) ∧ qBZ m (laz n) (at0 (qBc n (qBb m (n + 1) (qA_ (n + 1) t) (qA7 p m n ls)) (n + 1))) (n + 1) < m := qNU Oo; have HFx : Hid (∃ x, x = qBZ m (laz n) (at0 (qBc n (qBb m (n + 1) (qA_ (n + 1) t) (qA7 p m n ls)) (n + 1))) (n + 1)) := dd ⟨_, rfl⟩; obtain ⟨x, hx⟩ := HFx.out; rw [← hx] at hfr HF; have HX := dd hx; clear hx HFx hNg; have e9 : IntKind.i64.wrap (-x) = -x := IntWalk.i64_in _ Oo; generalize qAB p m t n ls = y at HF HR hOr
    go_wp2_with fail
    have hd0 : Below w8.heap.size w8 w8.drew := (Below.refl _ _).drew; have hsd0 := hd0.size; have f0_a := qA0 hd0 (nl _) x0; have f0_b := qA0 hd0 (nl _) g0; have f0_c := qA0 hd0 (nl _) g1; have f0_d := qA0 hd0 (nl _) h0; have f0_e := qA0 hd0 (nl _) h1; have f0_f := qA0 hd0 (nl _) hc0; have f0_g := (hO8.below hd0).fz k; refine qAv (S := fun w' => w'.cell? ⟨w.heap.size, 0, none⟩ = some (.int .i64 m) ∧ w'.cell? ⟨bG, 0, none⟩ = some (.int .i64 m) ∧ w'.cell? ⟨bG, 1, none⟩ = some (.slice o6 (n + 1) c6) ∧ w'.cell? ⟨bH, 0, none⟩ = some (.int .i64 m) ∧ w'.cell? ⟨bH, 1, none⟩ = some (.slice o4 (n + 1) c4)) [14] kr ?_; refine wKq (by go_keep) fun hHeld => ?_
    refine' tJ 0 hHeld ?_; refine' tJ 1 hHeld ?_; refine' tJ 2 hHeld ?_; refine' tJ 3 hHeld ?_; refine' tJ 4 hHeld ?_; refine' tJ 5 hHeld ?_; refine' tJ 10 hHeld ?_; refine' tJ 11 hHeld ?_; refine qA1 (i := 6) rfl kr (fun K hK => ?_); go_simp
    go_at_call 108
    refine (qK2 m m _ _ (qA_ (n + 1) t) (qA7 p m n ls) _ ((hg8).below bZ (nl _)) ((hh8).below bZ (nl _)) (by rw [HGP.out.1]; omega) (by rw [HGP.out.1]; omega) (by rw [HGP.out.1, HHP.out.1]) hm Oo HGP.out.2 HHP.out.2).mono ?_; rintro e wd1 ⟨va1, rfl, hod1, hbd1⟩; rw [show tri (qA_ (n + 1) t).length (fun i j => (atT (qA_ (n + 1) t) i j - atT (qA7 p m n ls) i j) % m) = qBb m (n + 1) (qA_ (n + 1) t) (qA7 p m n ls) by rw [HGP.out.1]; rfl] at hod1; have hd1 : Below w8.heap.size w8 wd1 := (bY1 hbd1); have hsd1 := hd1.size; have hsz1_ := hbd1.size
    (try simp at hsz1_)
    have f1_a := qA0 hd1 (nl _) x0; have f1_b := qA0 hd1 (nl _) g0; have f1_c := qA0 hd1 (nl _) g1; have f1_d := qA0 hd1 (nl _) h0; have f1_e := qA0 hd1 (nl _) h1; have f1_f := qA0 hd1 (nl _) hc0; have f1_g := (hO8.below hd1).fz k
    go_wp2_with fail
    clear hHeld; refine oKq hK (by go_keep) fun hHeld => ?_
    clear hK K
    try simp only [Act.put, sL]
    refine qA1 (i := 7) rfl kr (fun K hK => ?_); go_simp
    go_at_call 110
    refine (qL4 m m n _ (qBb m (n + 1) (qA_ (n + 1) t) (qA7 p m n ls)) _ ((hod1.below bZ)).rd HSP.out Oo).mono ?_; rintro e wd2 ⟨vb2, rfl, hod2, hbd2⟩; have hd2 : Below w8.heap.size w8 wd2 := (bY2 hbd1 hbd2); have hsd2 := hd2.size; have hsz2_ := hbd2.size
    (try simp at hsz2_)
    have f2_a := qA0 hd2 (nl _) x0; have f2_b := qA0 hd2 (nl _) g0; have f2_c := qA0 hd2 (nl _) g1; have f2_d := qA0 hd2 (nl _) h0; have f2_e := qA0 hd2 (nl _) h1; have f2_f := qA0 hd2 (nl _) hc0; have f2_g := (hO8.below hd2).fz k
    go_wp2_with fail
    clear hHeld; refine oKq hK (by go_keep) fun hHeld => ?_
    clear hK K
    try simp only [Act.put, sL]
    refine qA1 (i := 8) rfl kr (fun K hK => ?_); go_simp
    go_at_call 107
    refine (qKZ m n _ (qBc n (qBb m (n + 1) (qA_ (n + 1) t) (qA7 p m n ls)) (n + 1)) _ ((hod2.below bZ)).rd (qA8 _ _) Oo Oo hm hm' HTr.out).mono ?_; rintro e wd3 ⟨rfl, hbd3⟩; rw [← HX.out]; have hd3 : Below w8.heap.size w8 wd3 := (bY3 hbd1 hbd2 hbd3); have hsd3 := hd3.size; have hsz3_ := hbd3.size
    (try simp at hsz3_)
    have f3_a := qA0 hd3 (nl _) x0; have f3_b := qA0 hd3 (nl _) g0; have f3_c := qA0 hd3 (nl _) g1; have f3_d := qA0 hd3 (nl _) h0; have f3_e := qA0 hd3 (nl _) h1; have f3_f := qA0 hd3 (nl _) hc0; have f3_g := (hO8.below hd3).fz k
    go_wp2_with fail
    clear hHeld; refine oKq hK (by go_keep) fun hHeld => ?_
    clear hK K
    try simp only [Act.put, sL]
    refine' tJ 9 hHeld ?_; refine qA1 (i := 12) rfl kr (fun K hK => ?_); go_simp
    go_at_call 126
    refine (qBl (-x) m _ Oo Oo Oo Oo).mono ?_; rintro e w' ⟨rfl, rfl⟩; rw [HF.out]
    go_wp2_with fail
    refine hK.out _ _ (fun _ => hHeld) ?_; clear hK K
    try simp only [Act.put, sL]
    refine qA1 (i := 13) rfl kr (fun K hK => ?_); go_simp
    (try go_wp2_with fail)
    refine hK.out _ _ (fun _ => hHeld) ?_; clear hK K
    try simp only [Act.put, sL]
    refine qA1 (i := 14) rfl kr (fun K hK => ?_); go_simp
    (try go_wp2_with fail)
    refine hK.out _ _ (nD ·) ?_; clear hK K
    try simp only [Act.put, sL]
    refine qAT kr ?_ _
    go_wp2_with fail
    have hO9 := (hO8.below hd3).put k y
    have hset : (ls ++ List.replicate (M - ls.length) 0).set k y = (ls ++ [y]) ++ List.replicate (M - (ls ++ [y]).length) 0 := by
     have := qPk ls y (M := M) Oo; rw [hlk] at this; rw [hlk, this]
     congr 2
     simp; omega
    rw [hset] at hO9; have B9 := B8.trans (hd3.mono B8s); have hB9 := qAL (hB.trans (B9.mono Oo)) (g := gL) (k := k) (nl _) (.int .i64 y); have hsz9 := hd3.size; refine ⟨⟨k + 1, ls ++ [y], Oo, by go_num, by simp; omega, HR, ?_, hO9, hB9, by simp; omega⟩, by simp [intOf]; omega⟩; intro z hz; rcases List.mem_append.1 hz with h | h
    ·exact hlr z h
    ·rw [List.mem_singleton.1 h]; exact ⟨hOr.1, hOr.2⟩
   ·have k1 : (K : Int) - 1 < (n : Int) - 1 := by have hx : ¬ n ≤ K := fun h => ha (hK.2 h); omega
    have k2 : (K : Int) < (n : Int) := Oo; have HR := dd (HKf.out ha); have B9 := Bw.trans (B8.mono (by have := Bw.size; omega)); go_wp2
    go_ret2
    rw [HR.out]; exact ⟨_, rfl, fun ls h => by simp at h, B9⟩
  ·obtain rfl : k = M := Oo; have i1 : ¬ (k : Int) < (k : Int) := Oo; rw [hlk, Nat.sub_self, List.replicate_zero, List.append_nil] at hO; have hOr := hO.rd
   have HPO := dd (show qBr p m t D = if qA7 p m D ls = t then some ls else none by
    unfold qBr; rw [← HM.out, HK.out])
   have HE := dd (show eqPB m (qA7 p m D ls) m t = (qBr p m t D).isSome by
    rw [HPO.out]
    show (m == m && qC3 _ _) = _
    rw [qKV]
    by_cases h : qA7 p m D ls = t
    ·rw [if_pos h]; simp [h]
    ·rw [if_neg h]; simp [h])
   obtain ⟨b, hb⟩ : ∃ b, b = (qBr p m t D).isSome := ⟨_, rfl⟩; have HB := dd hb; rw [← hb] at HE; clear hb; have hll : ls.length ≤ 3 := Oo; have Bws := Bw.size
   go_wp2_with fail
   have hd0 : Below wr.heap.size wr wr.drew := (Below.refl _ _).drew; have hsd0 := hd0.size; have f0_a := qA0 hd0 (nl _) x0; have f0_b := qA0 hd0 (nl _) x1; refine qAv (S := fun w' => w'.cell? ⟨w.heap.size, 0, none⟩ = some (.int .i64 m) ∧ w'.cell? ⟨w.heap.size, 1, none⟩ = some (.slice o (D + 1) c)) [] kr ?_; refine wKq (by go_keep) fun hHeld => ?_
   refine' tJ 0 hHeld ?_; refine' tJ 1 hHeld ?_; refine' tJ 2 hHeld ?_; refine' tJ 3 hHeld ?_; refine' tJ 4 hHeld ?_; refine' tJ 6 hHeld ?_; refine' tJ 8 hHeld ?_; refine qA1 (i := 5) rfl kr (fun K hK => ?_); go_simp
   go_at_call 78
   refine (qB9 m o (D + 1) c _ hmx.1).mono ?_; rintro e wd1 ⟨rfl, hbd1⟩; have hd1 : Below wr.heap.size wr wd1 := (bY1 hbd1); have hsd1 := hd1.size; have hsz1_ := hbd1.size
   (try simp at hsz1_)
   have f1_a := qA0 hd1 (nl _) x0; have f1_b := qA0 hd1 (nl _) x1
   go_wp2_with fail
   clear hHeld; refine oKq hK (by go_keep) fun hHeld => ?_
   clear hK K
   try simp only [Act.put, sL]
   refine qA1 (i := 7) rfl kr (fun K hK => ?_); go_simp
   go_at_call 72
   refine (qGV p D m _ ls _ ((hOr).below (bY1 hbd1) (nl _)) hp hD1 hD hm hm' hll hlr).mono ?_; rintro e wd2 ⟨va2, rfl, hod2, hbd2⟩; have hd2 : Below wr.heap.size wr wd2 := (bY2 hbd1 hbd2); have hsd2 := hd2.size; have hsz2_ := hbd2.size
   (try simp at hsz2_)
   have f2_a := qA0 hd2 (nl _) x0; have f2_b := qA0 hd2 (nl _) x1
   go_wp2_with fail
   clear hHeld; refine oKq hK (by go_keep) fun hHeld => ?_
   clear hK K
   try simp only [Act.put, sL]
   refine qA1 (i := 9) rfl kr (fun K hK => ?_); go_simp
   go_at_call 127
   refine (qN0 m m _ _ (qA7 p m D ls) t _ ((hod2.below bZ)).rd ((hvw).below (bY2 hbd1 hbd2) (nl _))).mono ?_; rintro e wd3 ⟨rfl, hbd3⟩; rw [HE.out]; have hd3 : Below wr.heap.size wr wd3 := (bY3 hbd1 hbd2 hbd3); have hsd3 := hd3.size; have hsz3_ := hbd3.size
   (try simp at hsz3_)
   have f3_a := qA0 hd3 (nl _) x0; have f3_b := qA0 hd3 (nl _) x1
   go_wp2_with fail
   clear hHeld; refine oKq hK (by go_keep) fun hHeld => ?_
   clear hK K
   try simp only [Act.put, sL]
   refine' tJ 10 hHeld ?_; refine' tJ 11 hHeld ?_; refine qAT kr ?_ _
   go_wp2_with fail
   have B9 := Bw.trans (hd3.mono Bws); have hO9 := hO.below hd3; go_wp2
   go_ret2
   refine ⟨.slice (some ⟨gL, 0, none⟩) k k, by rw [HB.out]; rfl, fun ls' h => ?_, B9⟩; rw [HPO.out] at h
   split at h
   ·rw [← Option.some.inj h]; exact hO9.mono Oo
   ·simp at h
end Go.Proofs.YtfpphfjlpgefaaaGreat
