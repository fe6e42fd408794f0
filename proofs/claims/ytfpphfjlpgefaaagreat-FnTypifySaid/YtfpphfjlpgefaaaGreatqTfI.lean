/- Lemmas. -/
import Derived.Test.YtfpphfjlpgefaaaGreatqM38
import Derived.Test.YtfpphfjlpgefaaaGreatqM34
set_option maxHeartbeats 4000000
set_option maxRecDepth 100000
set_option linter.unusedSimpArgs false
set_option linter.unusedVariables false
namespace Go.Proofs.YtfpphfjlpgefaaaGreat
open Go.RowKit

theorem qPm {p n : Nat} {m : Int} {T : Tb} {ls : Li} (h : 0 ≤ qAB p m T n ls) : qBZ m (laz n) (at0 (qBc n (qBb m (n + 1) (qA7 p m n ls) (qA_ (n + 1) T)) (n + 1))) (n + 1) = qAB p m T n ls := by
 rw [qJy (d' := fun i => (atT (qA7 p m n ls) i (n - i) - atT (qA_ (n + 1) T) i (n - i)) % m) (fun i hi => by
  unfold qBc; rw [qBN hi]; unfold qBb; rw [qAi Oo])]
 unfold qAB at h ⊢
 exact qJh h
theorem qJA {p n N : Nat} {m : Int} {t T : Tb} {ls cv : Li} (h2 : 2 ≤ n) (h : tyS p m N t (n - 2) = (T, ls, cv)) :
  tyS p m N t (n + 1 - 2) = if qAS p n = true then (T, ls ++ [qAB p m T n ls], cv) else (qB7 m N T (qAe m N n (qAB p m T n ls)), ls, qAH m N cv (qAe m N n (qAB p m T n ls))) := by
 obtain ⟨k, rfl⟩ : ∃ k, n = k + 2 := ⟨n - 2, Oo⟩
 rw [show k + 2 - 2 = k by omega] at h
 show (if qAS p (k + 2) = true then ((tyS p m N t k).1, (tyS p m N t k).2.1 ++ [qAB p m (tyS p m N t k).1 (k + 2) (tyS p m N t k).2.1], (tyS p m N t k).2.2)
  else (qB7 m N (tyS p m N t k).1 (qAe m N (k + 2) (qAB p m (tyS p m N t k).1 (k + 2) (tyS p m N t k).2.1)), (tyS p m N t k).2.1, qAH m N (tyS p m N t k).2.2 (qAe m N (k + 2) (qAB p m (tyS p m N t k).1 (k + 2) (tyS p m N t k).2.1)))) = _
 rw [h]
theorem qIW {p D n : Nat} {m : Int} {t T : Tb} {ls cv : Li} {M : Nat} (hM : m = M) (hp : P4 p) (hm : 2 ≤ m) (hpw : qAS p M = true) (hD1 : 1 ≤ D) (hD : D ≤ 10) (ht : PlaT m (D + 1) t) (L : Lw m (D + 1) (atT t)) (h2 : 2 ≤ n) (hn : n ≤ D + 1) (h : tyS p m (D + 1) t (n - 2) = (T, ls, cv)) :
  PlaT m (D + 1) T ∧ ls.length ≤ 3 ∧ (∀ x ∈ ls, 0 ≤ x ∧ x < m) ∧ cv.length = D + 1 ∧ (∀ x ∈ cv, 0 ≤ x ∧ x < m) ∧ ls.length = qA4 p (n - 1) ∧ (n ≤ D → 0 ≤ qAB p m T n ls ∧ qAB p m T n ls < m) := by
 obtain ⟨e, he⟩ := qKI hp hpw
 have I := qG4 (e := e) hp hm (by rw [hM, he]) hD1 hD ht L (n - 2) Oo
 rw [h] at I
 have hl := I.len
 rw [show n - 2 + 1 = n - 1 by omega] at hl
 refine ⟨I.ok, ?_, I.rng, I.clen, I.crng, hl, fun hnD => ?_⟩
 ·show ls.length ≤ 3
  have hl' : ls.length = qA4 p (n - 1) := hl; rw [hl']; exact qEb hp Oo
 ·have hA := I.agrF hp Oo hD hm; rw [show n - 2 + 2 = n by omega] at hA; obtain ⟨h0, h1, -⟩ := qHm hp hm hD I.lw h2 hnD hA; exact ⟨h0, h1⟩

theorem qLp (p D M : Nat) (m : Int) (v : Value) (t : Tb) (w : World) (hM : m = M) (hv : RdT w v t) (hp : P4 p) (hD1 : 1 ≤ D) (hD : D ≤ 10) (hm : 2 ≤ m) (hm' : m ≤ 10000) (ht : PlaT m (D + 1) t) (L : Lw m (D + 1) (atT t)) (hpw : qAS p M = true) :
  Calls Tryz.prog 55 #[.int .i64 p, .agg #[.int .i64 m, v]] w fun e w' => ∃ vc vT, e = .returned (.tuple #[.agg #[.int .i64 m, vc], .agg #[.int .i64 m, vT]]) ∧ OwI w' w.heap.size vc (tyS p m (D + 1) t (D - 1)).2.2 ∧ OwS w' w.heap.size vT (qA7 p m D (tyS p m (D + 1) t (D - 1)).2.1) ∧ Below w.heap.size w w' := by
 obtain ⟨o, c, rfl, hmx, -⟩ := id hv
 rw [ht.1] at hmx ⊢
 have hv' : RdT w (.slice o (D + 1) c) t := by rw [ht.1] at hv; exact hv
 have HA := dd (fun (n : Nat) (T : Tb) (ls cv : Li) (h2 : 2 ≤ n) (hn : n ≤ D + 1) (h : tyS p m (D + 1) t (n - 2) = (T, ls, cv)) => qIW hM hp hm hpw hD1 hD ht L h2 hn h)
 have hp2 := hp.pos
 clear hv ht L hpw hM
 go_enter Tryz.func55, Tryz.ntmps55
 go_wp2_with fail
 have hRds := hv'.rds
 (obtain ⟨w0, hw0⟩ : ∃ W : World, W = (((w.alloc (.cells #[.int .i64 m, .slice o (D + 1) c] 26)).alloc (.cells #[.int .i64 0, .slice none 0 0] 34)).alloc (.cells #[.int .i64 0, .slice none 0 0] 26)) := ⟨_, rfl⟩; have RF0 := (RB2.mk1 w  (.int .i64 m) (.slice o (D + 1) c) 26).below (w' := w0) (bV hw0) (nl _); have RS0 := (RB2.mk2 w (.cells #[.int .i64 m, .slice o (D + 1) c] 26) (.int .i64 0) (.slice none 0 0) 34).below (w' := w0) (bV hw0) (nl _); have RP0 := (RB2.mk3 w (.cells #[.int .i64 m, .slice o (D + 1) c] 26) (.cells #[.int .i64 0, .slice none 0 0] 34) (.int .i64 0) (.slice none 0 0) 26).below (w' := w0) (bV hw0) (nl _); have B0 : Below w.heap.size w w0 := (bV hw0); rw [← hw0]; clear hw0)
 have hRds0 := hRds.below B0
 clear hRds
 obtain ⟨⟨a0, a1⟩, -⟩ := id RF0
 have hz0 := RP0.1.lt
 have hd0 : Below w0.heap.size w0 w0.drew := (Below.refl _ _).drew
 have hsd0 := hd0.size
 have f0_a := qA0 hd0 (nl _) a0
 have f0_b := qA0 hd0 (nl _) a1
 refine qAv (S := fun w' => w'.cell? ⟨w.heap.size, 0, none⟩ = some (.int .i64 m) ∧ w'.cell? ⟨w.heap.size, 1, none⟩ = some (.slice o (D + 1) c)) [] kr ?_
 refine wKq (by go_keep) fun hHeld => ?_
 refine' tJ 0 hHeld ?_
 refine' tJ 1 hHeld ?_
 refine' tJ 2 hHeld ?_
 refine qA1 (i := 3) rfl kr (fun K hK => ?_)
 go_simp
 go_at_call 78
 refine (qB9 m o (D + 1) c _ hmx.1).mono ?_
 rintro e wd1 ⟨rfl, hbd1⟩
 have hd1 : Below w0.heap.size w0 wd1 := (bY1 hbd1)
 have hsd1 := hd1.size
 have hsz1_ := hbd1.size
 (try simp at hsz1_)
 have f1_a := qA0 hd1 (nl _) a0
 have f1_b := qA0 hd1 (nl _) a1
 go_wp2_with fail
 clear hHeld
 refine oKq hK (by go_keep) fun hHeld => ?_
 clear hK K
 try simp only [Act.put, sL]
 refine' tJ 4 hHeld ?_
 refine' tJ 5 hHeld ?_
 refine qAT kr ?_ _
 go_wp2_with fail
 have hb1 := hd1
 have hb1s := hd1.size
 refine (qKp m D (D + 1) _ Oo Oo Oo).mono ?_
 rintro e w2 ⟨vc, rfl, how, hb2⟩
 obtain ⟨oc, cc, rfl⟩ := how.shapeN (n := D + 1) (qD8 _)
 obtain ⟨gc, rfl, hgc1, hgc2⟩ := how.row Oo
 have hb2s := hb2.size
 go_wp2_with fail
 have B2w : Below w.heap.size w w2 := B0.trans ((hb1.trans (hb2.mono hb1s)).mono Oo)
 have hw01 : Below w0.heap.size w0 w2 := hb1.trans (hb2.mono hb1s)
 have E3 : Below w2.heap.size w2 ((w2.alloc (.cells #[] 2)).alloc (.cells #[.int .i64 m, .slice (some ⟨gc, 0, none⟩) (D + 1) cc] 34)) := bZ
 have C3 := RB2.mk2 w2 (.cells #[] 2) (.int .i64 m) (.slice (some ⟨gc, 0, none⟩) (D + 1) cc) 34
 have O3 := (OwI.lit w2 [] (by decide)).alloc (.cells #[.int .i64 m, .slice (some ⟨gc, 0, none⟩) (D + 1) cc] 34)
 simp at O3
 have hs3 : ((w2.alloc (.cells #[] 2)).alloc (.cells #[.int .i64 m, .slice (some ⟨gc, 0, none⟩) (D + 1) cc] 34)).heap.size = w2.heap.size + 2 := by simp
 have hV3 := how.below E3
 generalize (w2.alloc (.cells #[] 2)).alloc (.cells #[.int .i64 m, .slice (some ⟨gc, 0, none⟩) (D + 1) cc] 34) = w3 at E3 C3 O3 hs3 hV3 ⊢
 have F3 := (RF0.below hw01).below E3
 have S3 := (RS0.below hw01).below E3
 have P3 := (RP0.below hw01).below E3
 have T3 := (hRds0.below hw01).below E3
 have B3 := B2w.trans (E3.mono B2w.size)
 obtain ⟨bC, hbC⟩ : ∃ bC, bC = w2.heap.size + 1 := ⟨_, rfl⟩
 obtain ⟨gL, hgL⟩ : ∃ gL, gL = w2.heap.size := ⟨_, rfl⟩
 have hM3 : TyM (w.heap.size + 3) D t [] (qAk (D + 1)) o c gc cc gL 0 [w.heap.size, w.heap.size + 1, w.heap.size + 2, bC] w3 := by
  refine ⟨⟨_, _, T3, .inr Oo, fun x hx => .inr ?_⟩, hV3.mono Oo, (by rw [hgL]; exact O3.mono Oo), Oo, ?_, ?_, fun x hx => ?_⟩
  ·simp at hx; omega
  ·simp; omega
  ·simp; omega
  ·simp at hx; omega
 rw [← hbC] at C3
 rw [← hbC, ← hgL]
 have hbC3 : w.heap.size + 3 ≤ bC := Oo
 clear E3 O3 hV3 T3 RF0 RS0 RP0 hRds0 how hw01 B2w hb1 hb2 hd0 hd1 hbd1 f0_a f0_b f1_a f1_b a0 a1 hb1s hb2s hgc1 hgc2 hs3 hz0 hbC hgL
 go_loopw [9, 10] (fun s i wr => ∃ (n : Nat) (T : Tb) (ls cv : Li) (oT : Option Addr) (cT gc cc g cl : Nat), 2 ≤ n ∧ n ≤ D + 1 ∧ i = .int .i64 n ∧ s = .slice (some ⟨g, 0, none⟩) ls.length cl ∧ Hid (tyS p m (D + 1) t (n - 2) = (T, ls, cv)) ∧ RB2 wr w.heap.size (.int .i64 m) (.slice oT (D + 1) cT) ∧ RB2 wr (w.heap.size + 1) (.int .i64 0) (.slice none 0 0) ∧ RB2 wr (w.heap.size + 2) (.int .i64 0) (.slice none 0 0) ∧ RB2 wr bC (.int .i64 m) (.slice (some ⟨gc, 0, none⟩) (D + 1) cc) ∧ TyM (w.heap.size + 3) D T ls cv oT cT gc cc g cl [w.heap.size, w.heap.size + 1, w.heap.size + 2, bC] wr ∧ Below w.heap.size w wr) (fun _ i _ => D + 1 - (intOf i).toNat)
 case atStart => exact ⟨2, t, [], qAk (D + 1), o, c, gc, cc, gL, 0, Nat.le_refl _, Oo, rfl, rfl, dd rfl, F3, S3, P3, C3, hM3, B3⟩
 case round =>
  clear F3 S3 P3 C3 hM3 B3; obtain ⟨n, T, ls, cv, oT, cT, gc, cc, g, cl, n2, hn, rfl, rfl, HK, RF, RS, RP, RC, HM, B⟩ := hrel; obtain ⟨hT, hl3, hlr, hcl, hcr, hlm, hown⟩ := HA.out n T ls cv n2 hn HK.out; have HT := dd hT; have HCl := dd hcl; have HLm := dd hlm; clear hT hcl hlm; have Bs := B.size; have lP := RP.1.lt; have lC := RC.1.lt; have hlO := HM.ls.rd
  by_cases hlt : n ≤ D
  ·obtain ⟨y, hy⟩ : ∃ y, y = qAB p m T n ls := ⟨_, rfl⟩; have hyr := hown hlt; have HF := dd (qPm hyr.1); have HSt := dd (qJA n2 HK.out); rw [← hy] at HF HSt hyr; clear hown hy; have i1 : (n : Int) ≤ (D : Int) := Oo
   go_wp2_with fail
   refine (qGV p n m _ ls _ hlO hp Oo Oo hm hm' hl3 hlr).mono ?_; rintro e w1 ⟨v1, rfl, how1, hb1⟩; obtain ⟨o1, c1, rfl⟩ := how1.shapeN (n := n + 1) (by rw [qBD]; exact qA9 _ _); have hb1s := hb1.size
   go_wp2_with fail
   have G2 := Box2.mk' w1 (.int .i64 m) (.slice o1 (n + 1) c1) 26; have hbA : Below w1.heap.size w1 (w1.alloc (.cells #[.int .i64 m, .slice o1 (n + 1) c1] 26)) := bZ; have hh2 := how1.rd.below hbA; have E2 := hb1.trans (hbA.mono hb1s); have hs2 : (w1.alloc (.cells #[.int .i64 m, .slice o1 (n + 1) c1] 26)).heap.size = w1.heap.size + 1 := by simp
   generalize w1.alloc (.cells #[.int .i64 m, .slice o1 (n + 1) c1] 26) = w2 at G2 hh2 E2 hs2 hbA ⊢; clear hbA how1 hb1; have F2 := RF.below E2; have hf2 := HM.rd.below E2; obtain ⟨⟨a0, a1⟩, -⟩ := id F2; obtain ⟨g0, g1⟩ := id G2; have HGP := dd (show PlaT m (n + 1) (qA_ (n + 1) T) from qF7 HT.out Oo); have HHP := dd (show PlaT m (n + 1) (qA7 p m n ls) from qDz Oo p n ls); have HSP := dd (show PlaT m (n + 1) (qBb m (n + 1) (qA7 p m n ls) (qA_ (n + 1) T)) from qB2 fun _ _ _ => qA6 Oo)
   have HTr := dd (show ∀ x ∈ qBc n (qBb m (n + 1) (qA7 p m n ls) (qA_ (n + 1) T)) (n + 1), 0 ≤ x ∧ x < m from fun x hx => by
    unfold qBc at hx; simp only [mk, List.mem_map, List.mem_range] at hx; obtain ⟨i, hi, rfl⟩ := hx; exact qBT HSP.out Oo)
   have hd0 : Below w2.heap.size w2 w2.drew := (Below.refl _ _).drew; have hsd0 := hd0.size; have f0_a := qA0 hd0 (nl _) a0; have f0_b := qA0 hd0 (nl _) a1; have f0_c := qA0 hd0 (nl _) g0; have f0_d := qA0 hd0 (nl _) g1; refine qAv (S := fun w' => w'.cell? ⟨w.heap.size, 0, none⟩ = some (.int .i64 m) ∧ w'.cell? ⟨w.heap.size, 1, none⟩ = some (.slice oT (D + 1) cT) ∧ w'.cell? ⟨w1.heap.size, 0, none⟩ = some (.int .i64 m) ∧ w'.cell? ⟨w1.heap.size, 1, none⟩ = some (.slice o1 (n + 1) c1)) [] kr ?_; refine wKq (by go_keep) fun hHeld => ?_
   refine' tJ 0 hHeld ?_; refine' tJ 1 hHeld ?_; refine' tJ 2 hHeld ?_; refine' tJ 3 hHeld ?_; refine qA1 (i := 4) rfl kr (fun K hK => ?_); go_simp
   go_at_call 109
   refine (qLO m m (D + 1) n _ T _ ((hf2).below bZ (nl _)) HT.out Oo Oo Oo).mono ?_; rintro e wd1 ⟨va1, rfl, hod1, hbd1⟩; have hd1 : Below w2.heap.size w2 wd1 := (bY1 hbd1); have hsd1 := hd1.size; have hsz1_ := hbd1.size
   (try simp at hsz1_)
   have f1_a := qA0 hd1 (nl _) a0; have f1_b := qA0 hd1 (nl _) a1; have f1_c := qA0 hd1 (nl _) g0; have f1_d := qA0 hd1 (nl _) g1
   go_wp2_with fail
   clear hHeld; refine oKq hK (by go_keep) fun hHeld => ?_
   clear hK K
   try simp only [Act.put, sL]
   refine qA1 (i := 5) rfl kr (fun K hK => ?_); go_simp
   go_at_call 108
   refine (qK2 m m _ _ (qA7 p m n ls) (qA_ (n + 1) T) _ ((hh2).below (bY1 hbd1) (nl _)) ((hod1.below bZ)).rd (by rw [HHP.out.1]; omega) (by rw [HHP.out.1]; omega) (by rw [HGP.out.1, HHP.out.1]) hm Oo HHP.out.2 HGP.out.2).mono ?_; rintro e wd2 ⟨vb2, rfl, hod2, hbd2⟩; rw [show tri (qA7 p m n ls).length (fun i j => (atT (qA7 p m n ls) i j - atT (qA_ (n + 1) T) i j) % m) = qBb m (n + 1) (qA7 p m n ls) (qA_ (n + 1) T) by rw [HHP.out.1]; rfl] at hod2; have hd2 : Below w2.heap.size w2 wd2 := (bY2 hbd1 hbd2); have hsd2 := hd2.size; have hsz2_ := hbd2.size
   (try simp at hsz2_)
   have f2_a := qA0 hd2 (nl _) a0; have f2_b := qA0 hd2 (nl _) a1; have f2_c := qA0 hd2 (nl _) g0; have f2_d := qA0 hd2 (nl _) g1
   go_wp2_with fail
   clear hHeld; refine oKq hK (by go_keep) fun hHeld => ?_
   clear hK K
   try simp only [Act.put, sL]
   refine qA1 (i := 6) rfl kr (fun K hK => ?_); go_simp
   go_at_call 110
   refine (qL4 m m n _ (qBb m (n + 1) (qA7 p m n ls) (qA_ (n + 1) T)) _ ((hod2.below bZ)).rd HSP.out Oo).mono ?_; rintro e wd3 ⟨vc3, rfl, hod3, hbd3⟩; have hd3 : Below w2.heap.size w2 wd3 := (bY3 hbd1 hbd2 hbd3); have hsd3 := hd3.size; have hsz3_ := hbd3.size
   (try simp at hsz3_)
   have f3_a := qA0 hd3 (nl _) a0; have f3_b := qA0 hd3 (nl _) a1; have f3_c := qA0 hd3 (nl _) g0; have f3_d := qA0 hd3 (nl _) g1
   go_wp2_with fail
   clear hHeld; refine oKq hK (by go_keep) fun hHeld => ?_
   clear hK K
   try simp only [Act.put, sL]
   refine qA1 (i := 7) rfl kr (fun K hK => ?_); go_simp
   go_at_call 107
   refine (qKZ m n _ (qBc n (qBb m (n + 1) (qA7 p m n ls) (qA_ (n + 1) T)) (n + 1)) _ ((hod3.below bZ)).rd (qA8 _ _) Oo Oo hm hm' HTr.out).mono ?_; rintro e wd4 ⟨rfl, hbd4⟩; rw [HF.out]; have hd4 : Below w2.heap.size w2 wd4 := (bY4 hbd1 hbd2 hbd3 hbd4); have hsd4 := hd4.size; have hsz4_ := hbd4.size
   (try simp at hsz4_)
   have f4_a := qA0 hd4 (nl _) a0; have f4_b := qA0 hd4 (nl _) a1; have f4_c := qA0 hd4 (nl _) g0; have f4_d := qA0 hd4 (nl _) g1
   go_wp2_with fail
   clear hHeld; refine oKq hK (by go_keep) fun hHeld => ?_
   clear hK K
   try simp only [Act.put, sL]
   refine' tJ 8 hHeld ?_; refine qAT kr ?_ _; have E4 := E2.trans (hd4.mono Oo); have E4s := E4.size; have HM4 := HM.below E4; have F4 := RF.below E4; have S4 := RS.below E4; have P4' := RP.below E4; have C4 := RC.below E4; have B4 := B.trans (E4.mono Bs); clear hHeld hod1 hod2 hod3 hbd1 hbd2 hbd3 hbd4 hd0 hd1 hd2 hd3 hd4 hsd0 hsd1 hsd2 hsd3 hsd4 hsz1_ hsz2_ hsz3_ hsz4_; clear f0_a f1_a f2_a f3_a f4_a f0_b f1_b f2_b f3_b f4_b f0_c f1_c f2_c f3_c f4_c f0_d f1_d f2_d f3_d f4_d a0 a1 g0 g1 G2 hh2 hf2 F2 E2 E4 hs2 hb1s RF RS RP RC HM B hlO HGP HHP HSP HTr HF; generalize wd4 = w4 at HM4 F4 S4 P4' C4 B4 E4s ⊢; cases hPw : qAS p n
   ·have HSt' := dd (show tyS p m (D + 1) t (n + 1 - 2) = (qB7 m (D + 1) T (qAe m (D + 1) n y), ls, qAH m (D + 1) cv (qAe m (D + 1) n y)) by rw [HSt.out, if_neg (by rw [hPw]; simp)])
    go_wp2_with (go_at_call 105; refine (qIR p n _ hp Oo Oo).mono ?_; rw [hPw]; rintro e w' ⟨rfl, rfl⟩)
    refine (qKp m D (D + 1) _ Oo Oo Oo).mono ?_; rintro e w5 ⟨vg, rfl, how5, hb5⟩; obtain ⟨og, cg, rfl⟩ := how5.shapeN (n := D + 1) (qD8 _); obtain ⟨gv, rfl, hgv1, hgv2⟩ := how5.row Oo; have hb5s := hb5.size
    go_wp2_with fail
    have G6 := Box2.mk' w5 (.int .i64 m) (.slice (some ⟨gv, 0, none⟩) (D + 1) cg) 34; have hbA : Below w5.heap.size w5 (w5.alloc (.cells #[.int .i64 m, .slice (some ⟨gv, 0, none⟩) (D + 1) cg] 34)) := bZ; have hV6 := how5.below hbA; have E6 := hb5.trans (hbA.mono hb5s); have hs6 : (w5.alloc (.cells #[.int .i64 m, .slice (some ⟨gv, 0, none⟩) (D + 1) cg] 34)).heap.size = w5.heap.size + 1 := by simp
    generalize w5.alloc (.cells #[.int .i64 m, .slice (some ⟨gv, 0, none⟩) (D + 1) cg] 34) = w6 at G6 hV6 E6 hs6 hbA ⊢; obtain ⟨bG, hbG⟩ : ∃ bG, bG = w5.heap.size := ⟨_, rfl⟩; rw [← hbG] at G6 ⊢; have hbG6 : bG < w6.heap.size := Oo; have hbG4 : w4.heap.size ≤ bG := Oo; have hgvG : gv ≠ bG := Oo; have hgv4 : w4.heap.size ≤ gv := Oo; clear hbA how5 hb5 hbG; have E6s := E6.size; obtain ⟨g0, g1⟩ := id G6; have hlr := qF2 n n2 Oo; obtain ⟨la, hla⟩ : ∃ la, la = lam n := ⟨_, rfl⟩; have HLa := dd hla; rw [← hla] at hlr; clear hla; have hlm := qA6 (a := la) (show 0 < m by omega); have hix := qDn (m := m) (show 0 < m by omega) (la % m); have HX : Hid (∃ x, x = qAI m (la % m)) := dd ⟨_, rfl⟩; obtain ⟨x, hx⟩ := HX.out; rw [← hx] at hix; have HXe := dd hx; clear hx HX; have hyx : 0 ≤ y * x := Int.mul_nonneg hyr.1 hix.1; have hyx' : y * x ≤ 10000 * 10000 := Int.mul_le_mul Oo Oo hix.1 Oo; have hym := qA6 (a := y * x) (show 0 < m by omega); have t1 : la.tmod m = la % m := Int.tmod_eq_emod_of_nonneg Oo; have t2 : (y * x).tmod m = y * x % m := Int.tmod_eq_emod_of_nonneg hyx; have t3 : IntKind.i64.wrap (y * x) = y * x := IntWalk.i64_in _ Oo; have m0 : (m == 0) = false := by simp; omega
    have m1 : ¬ m = 0 := Oo; have j1 : (n : Int) < ((D + 1 : Nat) : Int) := Oo; have j2 : (n : Int) < (D : Int) + 1 := Oo; have hc0 := hV6.cell (k := n) (qA5 (by rw [qD8]; omega)); have hf0 := hV6.fz n
    go_wp2_with fail
    have hd0 : Below w6.heap.size w6 w6.drew := (Below.refl _ _).drew; have hsd0 := hd0.size; have f0_a := qA0 hd0 (nl _) g1; have f0_b := (hV6.below hd0).fz n; have f0_c := qA0 hd0 (nl _) hc0; refine qAv (S := fun w' => w'.cell? ⟨bG, 1, none⟩ = some (.slice (some ⟨gv, 0, none⟩) (D + 1) cg)) [14] kr ?_; refine wKq (by go_keep) fun hHeld => ?_
    refine' tJ 0 hHeld ?_; refine' tJ 1 hHeld ?_; refine' tJ 2 hHeld ?_; refine' tJ 3 hHeld ?_; refine' tJ 4 hHeld ?_; refine' tJ 5 hHeld ?_; refine' tJ 7 hHeld ?_; refine' tJ 11 hHeld ?_; refine qA1 (i := 6) rfl kr (fun K hK => ?_); go_simp
    go_at_call 112
    refine (qKr n _ n2 Oo).mono ?_; rintro e wd1 ⟨rfl, hbd1⟩; rw [← HLa.out]; have hd1 : Below w6.heap.size w6 wd1 := (bY1 hbd1); have hsd1 := hd1.size; have hsz1_ := hbd1.size
    (try simp at hsz1_)
    have f1_a := qA0 hd1 (nl _) g1; have f1_b := (hV6.below hd1).fz n; have f1_c := qA0 hd1 (nl _) hc0
    go_wp2_with fail
    clear hHeld; refine oKq hK (by go_keep) fun hHeld => ?_
    clear hK K
    try simp only [Act.put, sL]
    refine qA1 (i := 8) rfl kr (fun K hK => ?_); go_simp
    (try go_wp2_with fail)
    refine hK.out _ _ (fun _ => hHeld) ?_; clear hK K
    try simp only [Act.put, sL]
    refine qA1 (i := 9) rfl kr (fun K hK => ?_); go_simp
    go_at_call 111
    refine (qJ_ m (la % m) _ hm Oo Oo Oo).mono ?_; rintro e w' ⟨rfl, rfl⟩; rw [← HXe.out]
    go_wp2_with fail
    refine hK.out _ _ (fun _ => hHeld) ?_; clear hK K
    try simp only [Act.put, sL]
    refine qA1 (i := 10) rfl kr (fun K hK => ?_); go_simp
    (try go_wp2_with fail)
    refine hK.out _ _ (fun _ => hHeld) ?_; clear hK K
    try simp only [Act.put, sL]
    refine qA1 (i := 12) rfl kr (fun K hK => ?_); go_simp
    (try go_wp2_with fail)
    refine hK.out _ _ (fun _ => hHeld) ?_; clear hK K
    try simp only [Act.put, sL]
    refine qA1 (i := 13) rfl kr (fun K hK => ?_); go_simp
    (try go_wp2_with fail)
    refine hK.out _ _ (fun _ => hHeld) ?_; clear hK K
    try simp only [Act.put, sL]
    refine qA1 (i := 14) rfl kr (fun K hK => ?_); go_simp
    (try go_wp2_with fail)
    refine hK.out _ _ (nD ·) ?_; clear hK K
    try simp only [Act.put, sL]
    refine qAT kr ?_ _
    go_wp2_with fail
    have hgs : qAe m (D + 1) n y = (qAk (D + 1)).set n (y * x % m) := by unfold qAe; rw [HXe.out, HLa.out]
    have HV7 := (hV6.below hd1).put n (y * x % m); rw [← hgs] at HV7; have E7 := qAL (E6.trans (hd1.mono E6s)) (g := gv) (k := n) hgv4 (.int .i64 (y * x % m)); have G7 := (G6.below hd1).put' (a := ⟨gv, n, none⟩) hgvG (.int .i64 (y * x % m)); have hs7 : w6.heap.size ≤ (wd1.setCell ⟨gv, n, none⟩ (.int .i64 (y * x % m))).heap.size := by simp; omega
    generalize wd1.setCell ⟨gv, n, none⟩ (.int .i64 (y * x % m)) = w7 at HV7 E7 G7 hs7 ⊢; have HGl := dd (qF6 m (D + 1) n y); have HGr := dd (qL6 (m := m) hm (D + 1) n y); generalize qAe m (D + 1) n y = gs at HV7 HGl HGr HSt'; clear hHeld hbd1 hd0 hd1 hsd0 hsd1 hsz1_ f0_a f1_a f0_b f1_b f0_c f1_c hc0 hf0 g0 g1 G6 hV6 E6 hs6 hyx hyx' hym t1 t2 t3 hix HXe hlm hlr HLa hgs; have F7 := F4.below E7; have C7 := C4.below E7; have HM7 := HM4.below E7; have E7s := E7.size; have hT7 := HM7.rd; have hc7 := HM7.cv.rd; have hg7 := HV7.rd; obtain ⟨⟨a0, a1⟩, af⟩ := id F7; obtain ⟨⟨c0, c1⟩, cf⟩ := id C7; obtain ⟨g0, g1⟩ := id G7; have lF7 := F7.1.lt; have lC7 := C7.1.lt; have lG7 := G7.lt; have ne1 : bC ≠ w.heap.size := Oo; have ne2 : w.heap.size ≠ bC := Oo
    go_wp2_with fail
    have hd0 : Below w7.heap.size w7 w7.drew := (Below.refl _ _).drew; have hsd0 := hd0.size; obtain ⟨⟨f0_a, f0_b⟩, f0_c⟩ := ((F7).below (Below.refl w7.heap.size w7) (nl _)); obtain ⟨⟨f0_d, f0_e⟩, f0_f⟩ := ((C7).below (Below.refl w7.heap.size w7) (nl _)); obtain ⟨f0_g, f0_h⟩ := ((G7).below (Below.refl w7.heap.size w7) (nl _)); refine qAv (S := fun w' => w'.cell? ⟨w.heap.size, 0, none⟩ = some (.int .i64 m) ∧ w'.cell? ⟨w.heap.size, 1, none⟩ = some (.slice oT (D + 1) cT) ∧ w'.cell? ⟨bC, 0, none⟩ = some (.int .i64 m) ∧ w'.cell? ⟨bC, 1, none⟩ = some (.slice (some ⟨gc, 0, none⟩) (D + 1) cc) ∧ w'.cell? ⟨bG, 0, none⟩ = some (.int .i64 m) ∧ w'.cell? ⟨bG, 1, none⟩ = some (.slice (some ⟨gv, 0, none⟩) (D + 1) cg)) [6, 7] kr ?_; refine wKq (by go_keep) fun hHeld => ?_
    refine' tJ 0 hHeld ?_; refine' tJ 1 hHeld ?_; refine' tJ 3 hHeld ?_; refine' tJ 4 hHeld ?_; refine qA1 (i := 2) rfl kr (fun K hK => ?_); go_simp
    go_at_call 113
    refine (qPi m (D + 1) _ _ T gs _ ((hT7).below bZ (nl _)) ((hg7).below bZ (nl _)) HGl.out Oo Oo hm hm' HT.out HGr.out).mono ?_; rintro e wd1 ⟨va, rfl, hod1, hbd1⟩; obtain ⟨oa, ca, rfl⟩ := hod1.shapeN (n := D + 1) (qGQ _ _ _ _); have hd1 : Below w7.heap.size w7 wd1 := (bY1 hbd1); have hsd1 := hd1.size; have hsz1_ := hbd1.size
    (try simp at hsz1_)
    obtain ⟨⟨f1_a, f1_b⟩, f1_c⟩ := ((F7).below hd1); obtain ⟨⟨f1_d, f1_e⟩, f1_f⟩ := ((C7).below hd1); obtain ⟨f1_g, f1_h⟩ := ((G7).below hd1)
    go_wp2_with fail
    clear hHeld; refine oKq hK (by go_keep) fun hHeld => ?_
    clear hK K
    try simp only [Act.put, sL]
    refine qA1 (i := 5) rfl kr (fun K hK => ?_); go_simp
    go_at_call 99
    refine (qKl m m _ _ gs cv _ ((hg7).below (bY1 hbd1) (nl _)) ((hc7).below (bY1 hbd1) (nl _)) (by rw [HGl.out]; exact HCl.out) (by rw [HGl.out]; omega) (by rw [HGl.out]; omega) hm Oo HGr.out hcr).mono ?_; rintro e wd2 ⟨vb, rfl, hod2, hbd2⟩
    (rw [HGl.out] at hod2; obtain ⟨ob, cb, rfl⟩ := hod2.shapeN (n := D + 1) (qDo _ _ _ _); obtain ⟨gb, rfl, -, -⟩ := hod2.row Oo)
    have hd2 : Below w7.heap.size w7 wd2 := (bY2 hbd1 hbd2); have hsd2 := hd2.size; have hsz2_ := hbd2.size
    (try simp at hsz2_)
    obtain ⟨⟨f2_a, f2_b⟩, f2_c⟩ := ((F7).below hd2); obtain ⟨⟨f2_d, f2_e⟩, f2_f⟩ := ((C7).below hd2); obtain ⟨f2_g, f2_h⟩ := ((G7).below hd2)
    go_wp2_with fail
    clear hHeld; refine oKq hK (by go_keep) fun hHeld => ?_
    clear hK K
    try simp only [Act.put, sL]
    refine qA1 (i := 6) rfl kr (fun K hK => ?_); go_simp
    (try go_wp2_with fail)
    refine hK.out _ _ (nD ·) ?_; clear hK K
    try simp only [Act.put, sL]
    refine qA1 (i := 7) rfl kr (fun K hK => ?_); go_simp
    (try go_wp2_with fail)
    refine hK.out _ _ (nD ·) ?_; clear hK K
    try simp only [Act.put, sL]
    refine qAT kr ?_ _
    go_wp2_with fail
    have hT8 := hod1.rds.below hbd2; have E8 := E7.trans (hd2.mono E7s); have hM8 := ((((HM7.new hd2 Oo (nl _) (hT8.2 |> fun h => ⟨hT8.1, h⟩) (hod2.mono Oo)).put (x := w.heap.size) (by simp) 0 (.int .i64 m)).put (x := w.heap.size) (by simp) 1 (.slice oa (D + 1) ca)).put (x := bC) (by simp) 0 (.int .i64 m)).put (x := bC) (by simp) 1 (.slice (some ⟨gb, 0, none⟩) (D + 1) cb); have F8 := (((F4.below E8).put (.int .i64 m) (.slice oa (D + 1) ca)).put' (a := ⟨bC, 0, none⟩) ne1 (.int .i64 m)).put' (a := ⟨bC, 1, none⟩) ne1 (.slice (some ⟨gb, 0, none⟩) (D + 1) cb); have S8 := ((((S4.below E8).put' (a := ⟨w.heap.size, 0, none⟩) (show w.heap.size ≠ w.heap.size + 1 by omega) (.int .i64 m)).put' (a := ⟨w.heap.size, 1, none⟩) (show w.heap.size ≠ w.heap.size + 1 by omega) (.slice oa (D + 1) ca)).put' (a := ⟨bC, 0, none⟩) (show bC ≠ w.heap.size + 1 by omega) (.int .i64 m)).put' (a := ⟨bC, 1, none⟩) (show bC ≠ w.heap.size + 1 by omega) (.slice (some ⟨gb, 0, none⟩) (D + 1) cb); have P8 := ((((P4'.below E8).put' (a := ⟨w.heap.size, 0, none⟩) (show w.heap.size ≠ w.heap.size + 2 by omega) (.int .i64 m)).put' (a := ⟨w.heap.size, 1, none⟩) (show w.heap.size ≠ w.heap.size + 2 by omega) (.slice oa (D + 1) ca)).put' (a := ⟨bC, 0, none⟩) (show bC ≠ w.heap.size + 2 by omega) (.int .i64 m)).put' (a := ⟨bC, 1, none⟩) (show bC ≠ w.heap.size + 2 by omega) (.slice (some ⟨gb, 0, none⟩) (D + 1) cb); have C8 := (((C4.below E8).put' (a := ⟨w.heap.size, 0, none⟩) ne2 (.int .i64 m)).put' (a := ⟨w.heap.size, 1, none⟩) ne2 (.slice oa (D + 1) ca)).put (.int .i64 m) (.slice (some ⟨gb, 0, none⟩) (D + 1) cb); have B8 := qAL (qAL (qAL (qAL (B4.trans (E8.mono Oo)) (g := w.heap.size) (k := 0) (nl _) (.int .i64 m)) (g := w.heap.size) (k := 1) (nl _) (.slice oa (D + 1) ca)) (g := bC) (k := 0) Oo (.int .i64 m)) (g := bC) (k := 1) Oo (.slice (some ⟨gb, 0, none⟩) (D + 1) cb); exact ⟨⟨n + 1, _, ls, _, oa, ca, gb, cb, g, cl, Oo, Oo, by go_num, rfl, HSt', F8, S8, P8, C8, hM8, B8⟩, by simp [intOf]; omega⟩
   ·have HSt' := dd (show tyS p m (D + 1) t (n + 1 - 2) = (T, ls ++ [y], cv) by rw [HSt.out, if_pos hPw])
    go_wp2_with (first | (go_at_call 105; refine (qIR p n _ hp Oo Oo).mono ?_; rw [hPw]; rintro e w' ⟨rfl, rfl⟩) | (at_builtin; refine ap1 w4 rfl _ _ rfl (w.heap.size + 3) g ls.length cl ls rfl y rfl HM4.ls Oo Oo ?_; intro g' cl' w5 hO5 hgr h5))
    have hng := HM4.ng; simp at hng; have hglo := (HM4.ls.lt g rfl).1; have hM5 := HM4.app hO5 hgr h5; have bA : Below w4.heap.size w4 (w4.alloc (.cells #[.int .i64 y] 2)) := bZ; have F5 := (F4.below bA).grown hgr (fun e => hng.1 (Option.some.inj e).symm); have S5 := (S4.below bA).grown hgr (fun e => hng.2.1 (Option.some.inj e).symm); have P5 := (P4'.below bA).grown hgr (fun e => hng.2.2.1 (Option.some.inj e).symm); have C5 := (C4.below bA).grown hgr (fun e => hng.2.2.2 (Option.some.inj e).symm); have B5 := qDC (B4.trans (bA.mono Oo)) hgr Oo (by simp; omega); exact ⟨⟨n + 1, T, ls ++ [y], cv, oT, cT, gc, cc, g', cl', Oo, Oo, by go_num, by simp, HSt', F5, S5, P5, C5, hM5, B5⟩, by simp [intOf]; omega⟩
  ·obtain rfl : n = D + 1 := Oo; have i1 : ¬ (((D + 1 : Nat) : Int) ≤ (D : Int)) := Oo; have i1' : ¬ ((D : Int) + 1 ≤ (D : Int)) := Oo
   have HKe := dd (show tyS p m (D + 1) t (D - 1) = (T, ls, cv) from by
    have := HK.out
    rwa [show D + 1 - 2 = D - 1 by omega] at this)
   clear hown; obtain ⟨⟨c0, c1⟩, cf⟩ := id RC; obtain ⟨⟨s0, s1⟩, sf⟩ := id RS; obtain ⟨⟨p0, p1⟩, pf⟩ := id RP; have lS := RS.1.lt
   go_wp2_with fail
   have hd0 : Below wr.heap.size wr wr.drew := (Below.refl _ _).drew; have hsd0 := hd0.size; obtain ⟨⟨f0_a, f0_b⟩, f0_c⟩ := ((RC).below (Below.refl wr.heap.size wr) (nl _)); obtain ⟨⟨f0_d, f0_e⟩, f0_f⟩ := ((RS).below (Below.refl wr.heap.size wr) (nl _)); obtain ⟨⟨f0_g, f0_h⟩, f0_i⟩ := ((RP).below (Below.refl wr.heap.size wr) (nl _)); refine qAv (S := fun w' => w'.cell? ⟨bC, 0, none⟩ = some (.int .i64 m) ∧ w'.cell? ⟨bC, 1, none⟩ = some (.slice (some ⟨gc, 0, none⟩) (D + 1) cc)) [6, 7] kr ?_; refine wKq (by go_keep) fun hHeld => ?_
   refine' tJ 0 hHeld ?_; refine' tJ 1 hHeld ?_; refine' tJ 2 hHeld ?_; refine' tJ 3 hHeld ?_; refine' tJ 4 hHeld ?_; refine qA1 (i := 5) rfl kr (fun K hK => ?_); go_simp
   go_at_call 72
   refine (qGV p D m _ ls _ ((hlO).below bZ (nl _)) hp hD1 hD hm hm' hl3 hlr).mono ?_; rintro e wd1 ⟨va, rfl, hod1, hbd1⟩; obtain ⟨oa, ca, rfl⟩ := hod1.shapeN (n := D + 1) (by rw [qBD]; exact qA9 _ _); have hd1 : Below wr.heap.size wr wd1 := (bY1 hbd1); have hsd1 := hd1.size; have hsz1_ := hbd1.size
   (try simp at hsz1_)
   obtain ⟨⟨f1_a, f1_b⟩, f1_c⟩ := ((RC).below hd1); obtain ⟨⟨f1_d, f1_e⟩, f1_f⟩ := ((RS).below hd1); obtain ⟨⟨f1_g, f1_h⟩, f1_i⟩ := ((RP).below hd1)
   go_wp2_with fail
   clear hHeld; refine oKq hK (by go_keep) fun hHeld => ?_
   clear hK K
   try simp only [Act.put, sL]
   refine qA1 (i := 6) rfl kr (fun K hK => ?_); go_simp
   (try go_wp2_with fail)
   refine hK.out _ _ (nD ·) ?_; clear hK K
   try simp only [Act.put, sL]
   refine qA1 (i := 7) rfl kr (fun K hK => ?_); go_simp
   (try go_wp2_with fail)
   refine hK.out _ _ (nD ·) ?_; clear hK K
   try simp only [Act.put, sL]
   refine qAT kr ?_ _
   go_wp2_with fail
   have S9 := (((RS.below hd1).put (.int .i64 m) (.slice (some ⟨gc, 0, none⟩) (D + 1) cc)).put' (a := ⟨w.heap.size + 2, 0, none⟩) (show w.heap.size + 2 ≠ w.heap.size + 1 by omega) (.int .i64 m)).put' (a := ⟨w.heap.size + 2, 1, none⟩) (show w.heap.size + 2 ≠ w.heap.size + 1 by omega) (.slice oa (D + 1) ca); have P9 := (((RP.below hd1).put' (a := ⟨w.heap.size + 1, 0, none⟩) (show w.heap.size + 1 ≠ w.heap.size + 2 by omega) (.int .i64 m)).put' (a := ⟨w.heap.size + 1, 1, none⟩) (show w.heap.size + 1 ≠ w.heap.size + 2 by omega) (.slice (some ⟨gc, 0, none⟩) (D + 1) cc)).put (.int .i64 m) (.slice oa (D + 1) ca); have B9 := qAL (qAL (qAL (qAL (B.trans (hd1.mono Bs)) (g := w.heap.size + 1) (k := 0) Oo (.int .i64 m)) (g := w.heap.size + 1) (k := 1) Oo (.slice (some ⟨gc, 0, none⟩) (D + 1) cc)) (g := w.heap.size + 2) (k := 0) Oo (.int .i64 m)) (g := w.heap.size + 2) (k := 1) Oo (.slice oa (D + 1) ca); have V9 := ((((HM.cv.below hd1).low (a := ⟨w.heap.size + 1, 0, none⟩) (show w.heap.size + 1 < w.heap.size + 3 by omega) (.int .i64 m)).low (a := ⟨w.heap.size + 1, 1, none⟩) (show w.heap.size + 1 < w.heap.size + 3 by omega) (.slice (some ⟨gc, 0, none⟩) (D + 1) cc)).low (a := ⟨w.heap.size + 2, 0, none⟩) (show w.heap.size + 2 < w.heap.size + 3 by omega) (.int .i64 m)).low (a := ⟨w.heap.size + 2, 1, none⟩) (show w.heap.size + 2 < w.heap.size + 3 by omega) (.slice oa (D + 1) ca); have T9 := ((((hod1.mono (B' := w.heap.size + 3) (by simp; omega)).low (g := w.heap.size + 1) (k := 0) Oo (.int .i64 m)).low (g := w.heap.size + 1) (k := 1) Oo (.slice (some ⟨gc, 0, none⟩) (D + 1) cc)).low (g := w.heap.size + 2) (k := 0) Oo (.int .i64 m)).low (g := w.heap.size + 2) (k := 1) Oo (.slice oa (D + 1) ca); generalize (((wd1.setCell ⟨w.heap.size + 1, 0, none⟩ (.int .i64 m)).setCell ⟨w.heap.size + 1, 1, none⟩ (.slice (some ⟨gc, 0, none⟩) (D + 1) cc)).setCell ⟨w.heap.size + 2, 0, none⟩ (.int .i64 m)).setCell ⟨w.heap.size + 2, 1, none⟩ (.slice oa (D + 1) ca) = wE at S9 P9 B9 V9 T9 ⊢; obtain ⟨⟨x0, x1⟩, -⟩ := id S9; obtain ⟨⟨y0, y1⟩, -⟩ := id P9; refine bodyPost_ret (v := .tuple #[.agg #[.int .i64 m, .slice (some ⟨gc, 0, none⟩) (D + 1) cc], .agg #[.int .i64 m, .slice oa (D + 1) ca]]) (by simp [results, Tryz.results55, go_sem, x0, x1, y0, y1]) rfl ⟨_, _, rfl, ?_, ?_, B9⟩
   ·rw [HKe.out]; exact V9.mono Oo
   ·rw [HKe.out]; exact T9.mono Oo
end Go.Proofs.YtfpphfjlpgefaaaGreat
