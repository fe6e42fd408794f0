/- Lemmas. -/
import Derived.Test.YtfpphfjlpgefaaaGreatqTfI
import Derived.Test.YtfpphfjlpgefaaaGreatqG22
import Derived.Test.YtfpphfjlpgefaaaGreatqM27
set_option maxHeartbeats 4000000
set_option maxRecDepth 100000
set_option linter.unusedSimpArgs false
set_option linter.unusedVariables false
namespace Go.Proofs.YtfpphfjlpgefaaaGreat
open Go.RowKit

theorem pw_key {p n P : Nat} (hp : P4 p) (h2 : 2 ≤ n) (hn : n ≤ 10) (hP : P = p ^ (qA4 p (n - 1) + 1)) : (qAS p n = true → n = P ∧ P * p = p ^ (qA4 p n + 1)) ∧ (qAS p n = false → n ≠ P ∧ P = p ^ (qA4 p n + 1)) := by
 have h := qGB hp h2 hn
 constructor
 ·intro hb; obtain ⟨h1, h3⟩ := h.1 hb; exact ⟨by rw [hP]; exact h1, by rw [hP, h3]; exact (Nat.pow_succ p (qA4 p (n - 1) + 1)).symm⟩
 ·intro hb; obtain ⟨h1, -⟩ := h.2 hb; refine ⟨fun e => ?_, by rw [hP, h1]⟩; have := (qGE hp (show n ≤ 10000 by omega)).2 ⟨qA4 p (n - 1) + 1, by rw [← hP, e]⟩; rw [this] at hb; exact absurd hb (by decide)
theorem qNk {p n : Nat} (hp : P4 p) (hn : n ≤ 10) : p ^ (qA4 p n + 1) ≤ 5764801 ∧ 1 ≤ p ^ (qA4 p n + 1) := by
 have h3 := qEb hp hn
 have hp2 := hp.pos
 have h1 : p ^ (qA4 p n + 1) ≤ 7 ^ (qA4 p n + 1) := Nat.pow_le_pow_left hp2.2 _
 have h2 : 7 ^ (qA4 p n + 1) ≤ 7 ^ 4 := Nat.pow_le_pow_right Oo Oo
 have h4 : 1 ≤ p ^ (qA4 p n + 1) := Nat.pow_pos Oo
 omega

theorem qJ2 (p D M : Nat) (m : Int) (v : Value) (t : Tb) (w : World) (hM : m = M) (hv : RdT w v t) (hp : P4 p) (hD1 : 1 ≤ D) (hD : D ≤ 10) (hm : 2 ≤ m) (hm' : m ≤ 10000) (ht : PlaT m (D + 1) t) (L : Lw m (D + 1) (atT t)) (hpw : qAS p M = true) :
  Calls Tryz.prog 57 #[.int .i64 p, .agg #[.int .i64 m, v]] w fun e w' => ∃ vc vT, e = .returned (.tuple #[vc, vT]) ∧ OwI w' w.heap.size vc (tyS p m (D + 1) t (D - 1)).2.2 ∧ OwS w' w.heap.size vT (qA7 p m D (tyS p m (D + 1) t (D - 1)).2.1) ∧ Below w.heap.size w w' := by
 obtain ⟨o, c, rfl, hmx, -⟩ := id hv
 rw [ht.1] at hmx ⊢
 have hv' : RdT w (.slice o (D + 1) c) t := by rw [ht.1] at hv; exact hv
 have HA := dd (fun (n : Nat) (T : Tb) (ls cv : Li) (h2 : 2 ≤ n) (hn : n ≤ D + 1) (h : tyS p m (D + 1) t (n - 2) = (T, ls, cv)) => qIW hM hp hm hpw hD1 hD ht L h2 hn h)
 have HT := dd ht
 have hp2 := hp.pos
 clear hv ht L hpw hM
 unfold maxLen at hmx
 go_enter Tryz.func57, Tryz.ntmps57
 go_wp2_with fail
 (obtain ⟨w0, hw0⟩ : ∃ W : World, W = (w.alloc (.cells #[.int .i64 m, .slice o (D + 1) c] 26)) := ⟨_, rfl⟩; have X0 := (RB2.mk1 w  (.int .i64 m) (.slice o (D + 1) c) 26).1.below (w' := w0) (bV hw0) (nl _); have B0 : Below w.heap.size w w0 := (bV hw0); have hv'0 := hv'.below (w' := w0) (bV hw0) (nl _); rw [← hw0]; clear hw0)
 obtain ⟨x0, x1⟩ := id X0
 have lX := X0.lt
 go_wp2_with fail
 go_quiet (fail)
 have e1 : IntKind.i64.wrap (((D + 1 : Nat) : Int) - 1) = (D : Int) := by rw [IntWalk.i64_in _ Oo]; omega
 have e2 : IntKind.i64.wrap ((D : Int) + 1) = ((D + 1 : Nat) : Int) := by rw [IntWalk.i64_in _ Oo]; omega
 have bq : Below w0.heap.size w0 (w0.drewN nq) := bZ
 have X1 := X0.below bq
 have hv1 := hv'0.below bq
 have B1 := B0.trans (bq.mono Oo)
 have hq1 : w0.heap.size = (w0.drewN nq).heap.size := by simp
 generalize w0.drewN nq = w1 at bq X1 hv1 B1 hq1 ⊢
 have i1 : 1 < D + 1 := Oo
 have i2 : (1 : Int) < ((D + 1 : Nat) : Int) := Oo
 go_wp2_with (at_make; go_loud (refine mkI _ rfl _ _ rfl _ _ _ (D + 1) rfl rfl rfl Oo ?_; intro w2 hO2 hb2 hs2; have hc0 := hO2.cell (k := 1) (qE9 (D + 1) 1 0 Oo); have hf0 := hO2.fz 1; obtain ⟨y0, y1⟩ := X1.below hb2; have hne1 : w1.heap.size ≠ w.heap.size := Oo; have hne2 : w.heap.size ≠ w1.heap.size := Oo; have hlt1 : w1.heap.size < w2.heap.size := Oo; have hlt2 : w.heap.size < w2.heap.size := Oo; have HO2 := dd hO2; have HS2 := dd hs2; clear hO2 hs2))
 have hcv := ((HO2.out).put 1 1).alloc (.cells #[] 2)
 have hls := OwI.lit (w2.setCell ⟨w1.heap.size, 1, none⟩ (.int .i64 1)) [] (by decide)
 simp at hls
 have hb3 : Below w1.heap.size w1 ((w2.setCell ⟨w1.heap.size, 1, none⟩ (.int .i64 1)).alloc (.cells #[] 2)) := (bY1 hb2)
 have hs3 : ((w2.setCell ⟨w1.heap.size, 1, none⟩ (.int .i64 1)).alloc (.cells #[] 2)).heap.size = w2.heap.size + 1 := by simp
 generalize (w2.setCell ⟨w1.heap.size, 1, none⟩ (.int .i64 1)).alloc (.cells #[] 2) = w3 at hcv hls hb3 hs3 ⊢
 refine (qLM m (D + 1) _ t _ (hv1.below hb3) HT.out Oo Oo).mono ?_
 rintro e w4 ⟨vT, rfl, howT, hb4⟩
 obtain ⟨oT, cT, rfl⟩ := howT.shapeN (n := D + 1) HT.out.1
 have hM4 : TyM (w.heap.size + 1) D t [] (qAk (D + 1)) oT cT w1.heap.size (D + 1) w2.heap.size 0 [] w4 :=
  ⟨⟨_, _, howT.rds, .inl Oo, fun x hx => by cases hx⟩, (hcv.below hb4).mono Oo, (hls.below hb4).mono Oo, Oo, by simp, by simp, fun x hx => by cases hx⟩
 have B4 := (B1.trans (hb3.mono Oo)).trans (hb4.mono Oo)
 obtain ⟨g0, hg0⟩ : ∃ g0, g0 = w2.heap.size := ⟨_, rfl⟩
 obtain ⟨c0, hc0'⟩ : ∃ c0, c0 = w1.heap.size := ⟨_, rfl⟩
 rw [← hg0, ← hc0'] at hM4 ⊢
 clear hg0 hc0' howT hb4 hb3 hs3 hcv hls hc0 hf0 y0 y1 hne1 hne2 hlt1 hlt2 HO2 HS2 hb2 bq X1 hv1 B1 hq1 i1 i2 X0 B0 hv'0 x0 x1 lX
 go_wp2_with fail
 go_loopw [8, 9, 10, 11, 12] (fun sc sl sp st i wr => ∃ (n P : Nat) (T : Tb) (ls cv : Li) (oT : Option Addr) (cT gc cc g cl : Nat), 2 ≤ n ∧ n ≤ D + 1 ∧ i = .int .i64 n ∧ sc = .slice (some ⟨gc, 0, none⟩) (D + 1) cc ∧ sl = .slice (some ⟨g, 0, none⟩) ls.length cl ∧ sp = .int .i64 P ∧ st = .slice oT (D + 1) cT ∧ Hid (tyS p m (D + 1) t (n - 2) = (T, ls, cv)) ∧ Hid (P = p ^ (qA4 p (n - 1) + 1)) ∧ 1 ≤ P ∧ P ≤ 5764801 ∧ TyM (w.heap.size + 1) D T ls cv oT cT gc cc g cl [] wr ∧ Below w.heap.size w wr) (fun _ _ _ _ i _ => D + 1 - (intOf i).toNat)
 case atStart => exact ⟨2, p, t, [], qAk (D + 1), oT, cT, c0, D + 1, g0, 0, Nat.le_refl _, Oo, rfl, rfl, rfl, rfl, rfl, dd rfl, dd (by rcases hp with rfl | rfl | rfl | rfl <;> decide), Oo, Oo, hM4, B4⟩
 case round =>
  clear hM4 B4; obtain ⟨n, P, T, ls, cv, oT, cT, gc, cc, g, cl, n2, hn, rfl, rfl, rfl, rfl, rfl, HK, HP, hP1, hP2, HM, B⟩ := hrel; obtain ⟨hT, hl3, hlr, hcl, hcr, hlm, hown⟩ := HA.out n T ls cv n2 hn HK.out; have HTk := dd hT; have HCl := dd hcl; clear hT hcl hlm; have Bs := B.size; have hlO := HM.ls.rd
  by_cases hlt : n ≤ D
  ·obtain ⟨y, hy⟩ : ∃ y, y = qAB p m T n ls := ⟨_, rfl⟩; have hyr := hown hlt
   have HF := dd (show qAR m (laz n) (fun i => atT (tri (n + 1) (fun i j => (atT (qA7 p m n ls) i j - atT (qA_ (n + 1) T) i j) % m)) i (n - i)) (n + 1) m.toNat = qAB p m T n ls from
    qG_ (fun i hi => by rw [qAi Oo]) _)
   have HSt := dd (qJA n2 HK.out); rw [← hy] at HF HSt hyr; clear hown hy; have i1 : (n : Int) ≤ (D : Int) := Oo
   go_wp2_with fail
   refine (qEi p n m _ ls _ hlO hp Oo Oo hm hm' hl3 hlr).mono ?_; rintro e w1 ⟨v1, rfl, how1, hb1⟩; obtain ⟨o1, c1, rfl⟩ := how1.shapeN (n := n + 1) (by rw [qBD]; exact qA9 _ _); have hb1s := hb1.size; have HGP := dd (show PlaT m (n + 1) (qA_ (n + 1) T) from qF7 HTk.out Oo); have HHP := dd (show PlaT m (n + 1) (qA7 p m n ls) from qDz Oo p n ls); have HSP := dd (show PlaT m (n + 1) (tri (n + 1) (fun i j => (atT (qA7 p m n ls) i j - atT (qA_ (n + 1) T) i j) % m)) from qB2 fun _ _ _ => qA6 Oo)
   go_wp2_with fail
   refine (qHf m (n : Int) (D + 1) (n + 1) _ T _ (HM.rd.below hb1) HTk.out Oo Oo Oo Oo).mono ?_; rintro e w2 ⟨v2, rfl, how2, hb2⟩; obtain ⟨o2, c2, rfl⟩ := how2.shapeN (n := n + 1) (qKU _ _); have hb2s := hb2.size
   go_wp2_with fail
   refine (qJ4 m (n + 1) _ _ (qA_ (n + 1) T) (qA7 p m n ls) _ how2.rd (how1.rd.below hb2) Oo hm hm' HGP.out HHP.out).mono ?_; rintro e w3 ⟨v3, rfl, how3, hb3⟩; obtain ⟨o3, c3, rfl⟩ := how3.shapeN (n := n + 1) (qA9 _ _); have hb3s := hb3.size
   go_wp2_with fail
   refine (qJY m n _ (tri (n + 1) (fun i j => (atT (qA7 p m n ls) i j - atT (qA_ (n + 1) T) i j) % m)) _ how3.rd HSP.out Oo Oo hm hm').mono ?_; rw [HF.out]; rintro e w4 ⟨rfl, hb4⟩; have hb4s := hb4.size; have E4 := hb1.trans (((hb2.trans (hb3.mono hb2s)).trans (hb4.mono Oo)).mono hb1s); have E4s := E4.size; have HM4 := HM.below E4; have hglo := (HM4.ls.lt g rfl).1; have hgl4 := (HM4.ls.lt g rfl).2; have B4 := B.trans (E4.mono Bs); obtain ⟨hk1, hk2⟩ := pw_key hp n2 Oo HP.out; have hsm := qNk hp (show n ≤ 10 by omega); clear how1 how2 how3 hb1 hb2 hb3 hb4 hb1s hb2s hb3s hb4s HM B hlO HGP HHP HSP HF E4; cases hPw : qAS p n
   ·obtain ⟨hne, hPn⟩ := hk2 hPw; have hb : ((n : Int) == (P : Int)) = false := by simp; omega
    have HPn := dd (show P = p ^ (qA4 p (n + 1 - 1) + 1) from hPn); have HSt' := dd (show tyS p m (D + 1) t (n + 1 - 2) = (qB7 m (D + 1) T (qAe m (D + 1) n y), ls, qAH m (D + 1) cv (qAe m (D + 1) n y)) by rw [HSt.out, if_neg (by rw [hPw]; simp)]); clear hk1 hk2 hPn hsm HP; have e4 : IntKind.i64.wrap ((D : Int) + 1) = ((D + 1 : Nat) : Int) := e2; have i2 : (1 : Nat) < D + 1 := Oo; have i3 : (1 : Int) < ((D + 1 : Nat) : Int) := Oo; have i3' : (1 : Int) < (D : Int) + 1 := Oo
    go_wp2_with (at_make; go_loud (refine mkI _ rfl _ _ rfl _ _ _ (D + 1) rfl rfl rfl Oo ?_; intro w5 hO5 hb5 hs5; have hc0 := hO5.cell (k := 1) (qE9 (D + 1) 1 0 Oo); have hf0 := hO5.fz 1; have hlt1 : w4.heap.size < w5.heap.size := Oo; have HO5 := dd hO5; have HS5 := dd hs5; clear hO5 hs5))
    have HV6 := (HO5.out).put 1 1; have E6 := qAL hb5 (g := w4.heap.size) (k := 1) (nl _) (.int .i64 1); generalize w5.setCell ⟨w4.heap.size, 1, none⟩ (.int .i64 1) = w6 at HV6 E6 ⊢; obtain ⟨gv, hgv⟩ : ∃ gv, gv = w4.heap.size := ⟨_, rfl⟩; rw [← hgv] at HV6 ⊢; have hgv4 : w4.heap.size ≤ gv := Oo; clear hc0 hf0 hlt1 HO5 HS5 hb5 hgv; have hlr := qF2 n n2 Oo; obtain ⟨la, hla⟩ : ∃ la, la = lam n := ⟨_, rfl⟩; have HLa := dd hla; rw [← hla] at hlr; clear hla; have hlm := qA6 (a := la) (show 0 < m by omega); have hix := qDn (m := m) (show 0 < m by omega) (la % m); have HX : Hid (∃ x, x = qAI m (la % m)) := dd ⟨_, rfl⟩; obtain ⟨x, hx⟩ := HX.out; rw [← hx] at hix; have HXe := dd hx; clear hx HX; have hyx : 0 ≤ y * x := Int.mul_nonneg hyr.1 hix.1; have hyx' : y * x ≤ 10000 * 10000 := Int.mul_le_mul Oo Oo hix.1 Oo; have hym := qA6 (a := y * x) (show 0 < m by omega); have t1 : la.tmod m = la % m := Int.tmod_eq_emod_of_nonneg Oo; have t2 : (y * x).tmod m = y * x % m := Int.tmod_eq_emod_of_nonneg hyx; have t3 : IntKind.i64.wrap (y * x) = y * x := IntWalk.i64_in _ Oo; have m0 : (m == 0) = false := by simp; omega
    have m1 : ¬ m = 0 := Oo; have j1 : (n : Int) < ((D + 1 : Nat) : Int) := Oo; have j2 : (n : Int) < (D : Int) + 1 := Oo; refine (qJK n _ n2 Oo).mono ?_; rw [← HLa.out]; rintro e w7 ⟨rfl, hb7⟩; have HV7 := HV6.below hb7; have E7 := E6.trans (hb7.mono E6.size); have hc0 := HV7.cell (k := n) (qA5 (by show n < (qAk (D + 1)).length; rw [qD8]; omega)); have hf0 := HV7.fz n
    go_wp2_with (go_at_call 120; refine (qFp m (la % m) _ hm Oo Oo Oo).mono ?_; rw [← HXe.out]; rintro e w' ⟨rfl, rfl⟩)
    have hgs : qAe m (D + 1) n y = (qAk (D + 1)).set n (y * x % m) := by unfold qAe; rw [HXe.out, HLa.out]
    have HV8 := HV7.put n (y * x % m); rw [show ((List.replicate (D + 1) 0).set 1 1).set n (y * x % m) = qAe m (D + 1) n y from hgs.symm] at HV8; have E8 := qAL E7 (g := gv) (k := n) hgv4 (.int .i64 (y * x % m)); generalize w7.setCell ⟨gv, n, none⟩ (.int .i64 (y * x % m)) = w8 at HV8 E8 ⊢; have HGl := dd (qF6 m (D + 1) n y); have HGr := dd (qL6 (m := m) hm (D + 1) n y); generalize qAe m (D + 1) n y = gs at HV8 HGl HGr HSt' hgs; clear hc0 hf0 HV6 HV7 E6 E7 hb7 hyx hyx' hym t1 t2 t3 hix HXe hlm hlr HLa hgs; have HM8 := HM4.below E8; have E8s := E8.size; have hg8 := HV8.rd; refine (qLU m (D + 1) _ _ T gs _ HM8.rd hg8 HGl.out Oo Oo hm hm' HTk.out HGr.out).mono ?_; rintro e w9 ⟨va, rfl, how9, hb9⟩; obtain ⟨oa, ca, rfl⟩ := how9.shapeN (n := D + 1) (qGQ _ _ _ _); have hb9s := hb9.size; have HM9 := HM8.below hb9
    go_wp2_with fail
    refine (qK4 m D (D + 1) _ _ gs cv _ Oo (hg8.below hb9) HM9.cv.rd Oo (by rw [HGl.out]; omega) Oo hm hm' HGr.out hcr).mono ?_; rintro e w10 ⟨vb, rfl, how10, hb10⟩; rw [List.take_of_length_le (show gs.length ≤ D + 1 by rw [HGl.out]; omega)] at how10; obtain ⟨ob, cb, rfl⟩ := how10.shapeN (n := D + 1) (qDo _ _ _ _); obtain ⟨gb, rfl, -, -⟩ := how10.row Oo; have hT10 := how9.rds.below hb10; have hM10 := HM8.new (hb9.trans (hb10.mono hb9s)) Oo (nl _) hT10 (how10.mono hb9s); have B10 := B4.trans ((E8.trans ((hb9.trans (hb10.mono hb9s)).mono E8s)).mono Oo)
    go_wp2_with fail
    exact ⟨⟨n + 1, P, _, ls, _, oa, ca, gb, cb, g, cl, Oo, Oo, by go_num, rfl, rfl, rfl, rfl, HSt', HPn, hP1, hP2, hM10, B10⟩, by simp [intOf]; omega⟩
   ·obtain ⟨rfl, hPn⟩ := hk1 hPw; have hb : ((n : Int) == (n : Int)) = true := by simp
    have HPn := dd (show n * p = p ^ (qA4 p (n + 1 - 1) + 1) from hPn)
    have e3 : IntKind.i64.wrap ((n : Int) * (p : Int)) = ((n * p : Nat) : Int) := by
     rw [show (n : Int) * (p : Int) = ((n * p : Nat) : Int) by simp]; exact IntWalk.i64_in _ Oo
    have hnp : 1 ≤ n * p ∧ n * p ≤ 5764801 := by rw [hPn]; exact ⟨hsm.2, hsm.1⟩
    have HSt' := dd (show tyS p m (D + 1) t (n + 1 - 2) = (T, ls ++ [y], cv) by rw [HSt.out, if_pos hPw]); clear hk1 hk2 hPn hsm HP; generalize n * p = Q at e3 HPn hnp
    go_wp2_with (at_builtin; refine ap1 w4 rfl _ _ rfl (w.heap.size + 1) g ls.length cl ls rfl y rfl HM4.ls Oo Oo ?_; intro g' cl' w5 hO5 hgr h5)
    have hM5 := HM4.app hO5 hgr h5; have bA : Below w4.heap.size w4 (w4.alloc (.cells #[.int .i64 y] 2)) := bZ; have B5 := qDC (B4.trans (bA.mono Oo)) hgr Oo (by simp; omega); exact ⟨⟨n + 1, Q, T, ls ++ [y], cv, oT, cT, gc, cc, g', cl', Oo, Oo, by go_num, rfl, by simp, rfl, rfl, HSt', HPn, hnp.1, hnp.2, hM5, B5⟩, by simp [intOf]; omega⟩
  ·obtain rfl : n = D + 1 := Oo; have i1 : ¬ (((D + 1 : Nat) : Int) ≤ (D : Int)) := Oo; have i1' : ¬ ((D : Int) + 1 ≤ (D : Int)) := Oo
   have HKe := dd (show tyS p m (D + 1) t (D - 1) = (T, ls, cv) from by
    have := HK.out
    rwa [show D + 1 - 2 = D - 1 by omega] at this)
   clear hown
   go_wp2_with fail
   refine (qEi p D m _ ls _ hlO hp hD1 hD hm hm' hl3 hlr).mono ?_; rintro e w1 ⟨v1, rfl, how1, hb1⟩; have V9 := HM.cv.below hb1; have B9 := B.trans (hb1.mono Bs); go_wp2
   go_ret2
   refine ⟨_, _, rfl, ?_, ?_, B9⟩
   ·rw [HKe.out]; exact V9.mono Oo
   ·rw [HKe.out]; exact how1.mono Oo

def qC0 (p m : Int) (t : Tb) : PR := if qAs p m t = 0 then ⟨m, qA7 p.toNat m (t.length - 1) (tyS p.toNat m t.length t (t.length - 2)).2.1, 0⟩ else ⟨0, [], qAs p m t⟩
def qCZ (p m : Int) (t : Tb) : SR := if qAs p m t = 0 then ⟨m, (tyS p.toNat m t.length t (t.length - 2)).2.2, 0⟩ else ⟨0, [], qAs p m t⟩
theorem qGC {p D M : Nat} {m : Int} {t : Tb} (hM : m = M) (hp : P4 p) (hm : 2 ≤ m) (hpw : qAS p M = true) (hD1 : 1 ≤ D) (hD : D ≤ 10) (ht : PlaT m (D + 1) t) (L : Lw m (D + 1) (atT t)) : (tyS p m (D + 1) t (D - 1)).2.2.length = D + 1 := by
 obtain ⟨-, -, -, h, -⟩ := qIW (n := D + 1) hM hp hm hpw hD1 hD ht L Oo (nl _) (T := (tyS p m (D + 1) t (D + 1 - 2)).1) (ls := (tyS p m (D + 1) t (D + 1 - 2)).2.1) (cv := (tyS p m (D + 1) t (D + 1 - 2)).2.2) rfl
 exact h

theorem qJs (p m : Int) (v : Value) (t : Tb) (w : World) (hv : RdT w v t) :
  Calls Tryz.prog 21 #[.int .i64 p, .agg #[.int .i64 m, v]] w fun e w' => qE4 w w' (qC0 p m t) e := by
 obtain ⟨o, c, rfl, -, -⟩ := id hv
 by_cases h0 : qAs p m t = 0
 ·obtain ⟨h1, hpw0⟩ := qFr h0; obtain ⟨P, D, rfl, hl, hP, hD1, hD, hm, hm', HT, L, -, -⟩ := qCe h1; obtain ⟨M, hM⟩ : ∃ M : Nat, m = M := ⟨m.toNat, Oo⟩; have hpw : qAS P M = true := by rw [hM] at hpw0; exact hpw0
  have HCL := dd (qGC hM hP hm hpw hD1 hD HT L); have HRt := dd (show qC0 P m t = ⟨m, qA7 P m D (tyS P m (D + 1) t (D - 1)).2.1, 0⟩ by unfold qC0; rw [if_pos h0, hl]; rfl); have HC := dd h0; have HTh := dd HT; have HLh := dd L; have HMh := dd hM; have HPw := dd hpw; rw [hl]; have hv' : RdT w (.slice o (D + 1) c) t := by rw [hl] at hv; exact hv
  clear h0 h1 hpw0 hl HT L hM hpw hv
  go_enter Tryz.func21, Tryz.ntmps21
  go_wp2_with fail
  (obtain ⟨w0, hw0⟩ : ∃ W : World, W = ((w.alloc (.cells #[.int .i64 m, .slice o (D + 1) c] 26)).alloc (.cells #[.int .i64 0, .slice none 0 0] 26)) := ⟨_, rfl⟩; have X0 := (RB2.mk1 w  (.int .i64 m) (.slice o (D + 1) c) 26).1.below (w' := w0) (bV hw0) (nl _); have R0 := (RB2.mk2 w (.cells #[.int .i64 m, .slice o (D + 1) c] 26) (.int .i64 0) (.slice none 0 0) 26).below (w' := w0) (bV hw0) (nl _); have B0 : Below w.heap.size w w0 := (bV hw0); have hv'0 := hv'.below (w' := w0) (bV hw0) (nl _); rw [← hw0]; clear hw0)
  (obtain ⟨gqX0, gqX1⟩ := id X0; go_wp2_with fail; refine (qGZ P m _ t _ hv'0).mono ?_; rw [HC.out]; rintro e w1 ⟨rfl, hb⟩; (have X1 := X0.below hb; have R1 := R0.below hb; have hv'1 := hv'0.below hb; have B1 := B0.trans (hb.mono B0.size)); clear gqX0 gqX1; clear hb)
  obtain ⟨x0, x1⟩ := id X1; have B1s := B1.size; have hz := R1.1.lt
  go_wp2_with fail
  refine (qLp P D M m _ t _ HMh.out hv'1 hP hD1 hD hm hm' HTh.out HLh.out HPw.out).mono ?_; rintro e w2 ⟨vc, vT, rfl, hc, hT, hb⟩; obtain ⟨oc, cc, rfl⟩ := hc.shapeN (n := D + 1) HCL.out; obtain ⟨oT, cT, rfl⟩ := hT.shapeN (n := D + 1) (by rw [qBD]; exact qA9 _ _); clear x0 x1
  (have R2 := R1.below hb; have B2 := B1.trans (hb.mono B1.size))
  have hb2s := hb.size; have R3 := R2.below (w' := (w2.alloc (.cells #[.int .i64 m, .slice oc (D + 1) cc] 34)).alloc (.cells #[.int .i64 m, .slice oT (D + 1) cT] 26)) bZ (nl _); obtain ⟨⟨r0, r1⟩, rf⟩ := id R3; have lR := R2.1.lt; go_wp2; refine bodyPost_ret (v := .tuple #[.agg #[.int .i64 m, .slice oT (D + 1) cT], .int .i64 0]) (by simp [results, Tryz.results21, go_sem, r0, r1, lR]) rfl ?_; rw [HRt.out]; refine ⟨_, rfl, ?_, (bY1 B2), ?_⟩
  ·exact ((((hT.alloc _).alloc _).low hz _).low hz _).mono B1s
  ·show _ ≤ 1048576
   exact (by rw [qBD]; exact qFO Oo _)
 ·have HR := dd (show qC0 p m t = ⟨0, [], qAs p m t⟩ by unfold qC0; rw [if_neg h0]); obtain ⟨q, hq⟩ : ∃ q, q = qAs p m t := ⟨_, rfl⟩; rw [← hq] at h0 HR; have HC := dd hq; clear hq; have hne : (q != 0) = true := by simpa using h0
  have hne' : (q == 0) = false := by simpa using h0
  go_enter Tryz.func21, Tryz.ntmps21
  go_wp2_with fail
  (obtain ⟨w0, hw0⟩ : ∃ W : World, W = ((w.alloc (.cells #[.int .i64 m, .slice o t.length c] 26)).alloc (.cells #[.int .i64 0, .slice none 0 0] 26)) := ⟨_, rfl⟩; have X0 := (RB2.mk1 w  (.int .i64 m) (.slice o t.length c) 26).1.below (w' := w0) (bV hw0) (nl _); have R0 := (RB2.mk2 w (.cells #[.int .i64 m, .slice o t.length c] 26) (.int .i64 0) (.slice none 0 0) 26).below (w' := w0) (bV hw0) (nl _); have B0 : Below w.heap.size w w0 := (bV hw0); have hv0 := hv.below (w' := w0) (bV hw0) (nl _); rw [← hw0]; clear hw0)
  (obtain ⟨gqX0, gqX1⟩ := id X0; go_wp2_with fail; refine (qGZ p m _ t _ hv0).mono ?_; rw [← HC.out]; rintro e w1 ⟨rfl, hb⟩; (have R1 := R0.below hb; have B1 := B0.trans (hb.mono B0.size)); clear gqX0 gqX1; clear hb)
  obtain ⟨⟨r0, r1⟩, rf⟩ := id R1; go_wp2; refine bodyPost_ret (v := .tuple #[.agg #[.int .i64 0, .slice none 0 0], .int .i64 q]) (by simp [results, Tryz.results21, go_sem, r0, r1]) rfl ?_; rw [HR.out]; exact ⟨_, rfl, OwS.nil _ _, (bY1 B1), by simp [qBu, qBW]⟩
theorem qPh (p m : Int) (v : Value) (t : Tb) (w : World) (hv : RdT w v t) :
  Calls Tryz.prog 23 #[.int .i64 p, .agg #[.int .i64 m, v]] w fun e w' => SEnd w w' (qCZ p m t) e := by
 obtain ⟨o, c, rfl, -, -⟩ := id hv
 by_cases h0 : qAs p m t = 0
 ·obtain ⟨h1, hpw0⟩ := qFr h0; obtain ⟨P, D, rfl, hl, hP, hD1, hD, hm, hm', HT, L, -, -⟩ := qCe h1; obtain ⟨M, hM⟩ : ∃ M : Nat, m = M := ⟨m.toNat, Oo⟩; have hpw : qAS P M = true := by rw [hM] at hpw0; exact hpw0
  have HCL := dd (qGC hM hP hm hpw hD1 hD HT L); have HRt := dd (show qCZ P m t = ⟨m, (tyS P m (D + 1) t (D - 1)).2.2, 0⟩ by unfold qCZ; rw [if_pos h0, hl]; rfl); have HC := dd h0; have HTh := dd HT; have HLh := dd L; have HMh := dd hM; have HPw := dd hpw; rw [hl]; have hv' : RdT w (.slice o (D + 1) c) t := by rw [hl] at hv; exact hv
  clear h0 h1 hpw0 hl HT L hM hpw hv
  go_enter Tryz.func23, Tryz.ntmps23
  go_wp2_with fail
  (obtain ⟨w0, hw0⟩ : ∃ W : World, W = ((w.alloc (.cells #[.int .i64 m, .slice o (D + 1) c] 26)).alloc (.cells #[.int .i64 0, .slice none 0 0] 34)) := ⟨_, rfl⟩; have X0 := (RB2.mk1 w  (.int .i64 m) (.slice o (D + 1) c) 26).1.below (w' := w0) (bV hw0) (nl _); have R0 := (RB2.mk2 w (.cells #[.int .i64 m, .slice o (D + 1) c] 26) (.int .i64 0) (.slice none 0 0) 34).below (w' := w0) (bV hw0) (nl _); have B0 : Below w.heap.size w w0 := (bV hw0); have hv'0 := hv'.below (w' := w0) (bV hw0) (nl _); rw [← hw0]; clear hw0)
  (obtain ⟨gqX0, gqX1⟩ := id X0; go_wp2_with fail; refine (qGZ P m _ t _ hv'0).mono ?_; rw [HC.out]; rintro e w1 ⟨rfl, hb⟩; (have X1 := X0.below hb; have R1 := R0.below hb; have hv'1 := hv'0.below hb; have B1 := B0.trans (hb.mono B0.size)); clear gqX0 gqX1; clear hb)
  obtain ⟨x0, x1⟩ := id X1; have B1s := B1.size; have hz := R1.1.lt
  go_wp2_with fail
  refine (qLp P D M m _ t _ HMh.out hv'1 hP hD1 hD hm hm' HTh.out HLh.out HPw.out).mono ?_; rintro e w2 ⟨vc, vT, rfl, hc, hT, hb⟩; obtain ⟨oc, cc, rfl⟩ := hc.shapeN (n := D + 1) HCL.out; obtain ⟨oT, cT, rfl⟩ := hT.shapeN (n := D + 1) (by rw [qBD]; exact qA9 _ _); clear x0 x1
  (have R2 := R1.below hb; have B2 := B1.trans (hb.mono B1.size))
  have hb2s := hb.size; have R3 := R2.below (w' := (w2.alloc (.cells #[.int .i64 m, .slice oc (D + 1) cc] 34)).alloc (.cells #[.int .i64 m, .slice oT (D + 1) cT] 26)) bZ (nl _); obtain ⟨⟨r0, r1⟩, rf⟩ := id R3; have lR := R2.1.lt; go_wp2; refine bodyPost_ret (v := .tuple #[.agg #[.int .i64 m, .slice oc (D + 1) cc], .int .i64 0]) (by simp [results, Tryz.results23, go_sem, r0, r1, lR]) rfl ?_; rw [HRt.out]; refine ⟨_, rfl, ?_, (bY1 B2), ?_⟩
  ·exact ((((hc.alloc _).alloc _).low hz _).low hz _).mono B1s
  ·show _ ≤ 1048576
   exact (by rw [HCL.out]; omega)
 ·have HR := dd (show qCZ p m t = ⟨0, [], qAs p m t⟩ by unfold qCZ; rw [if_neg h0]); obtain ⟨q, hq⟩ : ∃ q, q = qAs p m t := ⟨_, rfl⟩; rw [← hq] at h0 HR; have HC := dd hq; clear hq; have hne : (q != 0) = true := by simpa using h0
  have hne' : (q == 0) = false := by simpa using h0
  go_enter Tryz.func23, Tryz.ntmps23
  go_wp2_with fail
  (obtain ⟨w0, hw0⟩ : ∃ W : World, W = ((w.alloc (.cells #[.int .i64 m, .slice o t.length c] 26)).alloc (.cells #[.int .i64 0, .slice none 0 0] 34)) := ⟨_, rfl⟩; have X0 := (RB2.mk1 w  (.int .i64 m) (.slice o t.length c) 26).1.below (w' := w0) (bV hw0) (nl _); have R0 := (RB2.mk2 w (.cells #[.int .i64 m, .slice o t.length c] 26) (.int .i64 0) (.slice none 0 0) 34).below (w' := w0) (bV hw0) (nl _); have B0 : Below w.heap.size w w0 := (bV hw0); have hv0 := hv.below (w' := w0) (bV hw0) (nl _); rw [← hw0]; clear hw0)
  (obtain ⟨gqX0, gqX1⟩ := id X0; go_wp2_with fail; refine (qGZ p m _ t _ hv0).mono ?_; rw [← HC.out]; rintro e w1 ⟨rfl, hb⟩; (have R1 := R0.below hb; have B1 := B0.trans (hb.mono B0.size)); clear gqX0 gqX1; clear hb)
  obtain ⟨⟨r0, r1⟩, rf⟩ := id R1; go_wp2; refine bodyPost_ret (v := .tuple #[.agg #[.int .i64 0, .slice none 0 0], .int .i64 q]) (by simp [results, Tryz.results23, go_sem, r0, r1]) rfl ?_; rw [HR.out]; exact ⟨_, rfl, OwI.nil _ _, (bY1 B1), by simp⟩

theorem qNR (p m : Int) (v : Value) (t : Tb) (w : World) (hv : RdT w v t) :
  Calls Tryz.prog 22 #[.int .i64 p, .agg #[.int .i64 m, v]] w fun e w' => qE4 w w' (qC0 p m t) e := by
 obtain ⟨o, c, rfl, -, -⟩ := id hv
 by_cases h0 : qAs p m t = 0
 ·obtain ⟨h1, hpw0⟩ := qFr h0; obtain ⟨P, D, rfl, hl, hP, hD1, hD, hm, hm', HT, L, -, -⟩ := qCe h1; obtain ⟨M, hM⟩ : ∃ M : Nat, m = M := ⟨m.toNat, Oo⟩; have hpw : qAS P M = true := by rw [hM] at hpw0; exact hpw0
  have HCL := dd (qGC hM hP hm hpw hD1 hD HT L); have HRt := dd (show qC0 P m t = ⟨m, qA7 P m D (tyS P m (D + 1) t (D - 1)).2.1, 0⟩ by unfold qC0; rw [if_pos h0, hl]; rfl); have HC := dd h0; have HTh := dd HT; have HLh := dd L; have HMh := dd hM; have HPw := dd hpw; rw [hl]; have hv' : RdT w (.slice o (D + 1) c) t := by rw [hl] at hv; exact hv
  clear h0 h1 hpw0 hl HT L hM hpw hv
  go_enter Tryz.func22, Tryz.ntmps22
  go_wp2_with fail
  (obtain ⟨w0, hw0⟩ : ∃ W : World, W = ((w.alloc (.cells #[.int .i64 m, .slice o (D + 1) c] 26)).alloc (.cells #[.int .i64 0, .slice none 0 0] 26)) := ⟨_, rfl⟩; have X0 := (RB2.mk1 w  (.int .i64 m) (.slice o (D + 1) c) 26).1.below (w' := w0) (bV hw0) (nl _); have R0 := (RB2.mk2 w (.cells #[.int .i64 m, .slice o (D + 1) c] 26) (.int .i64 0) (.slice none 0 0) 26).below (w' := w0) (bV hw0) (nl _); have B0 : Below w.heap.size w w0 := (bV hw0); have hv'0 := hv'.below (w' := w0) (bV hw0) (nl _); rw [← hw0]; clear hw0)
  (obtain ⟨gqX0, gqX1⟩ := id X0; go_wp2_with fail; refine (qGK P m _ t _ hv'0).mono ?_; rw [HC.out]; rintro e w1 ⟨rfl, hb⟩; (have X1 := X0.below hb; have R1 := R0.below hb; have hv'1 := hv'0.below hb; have B1 := B0.trans (hb.mono B0.size)); clear gqX0 gqX1; clear hb)
  obtain ⟨x0, x1⟩ := id X1; have B1s := B1.size; have hz := R1.1.lt
  go_wp2_with fail
  refine (qJ2 P D M m _ t _ HMh.out hv'1 hP hD1 hD hm hm' HTh.out HLh.out HPw.out).mono ?_; rintro e w2 ⟨vc, vT, rfl, hc, hT, hb⟩; obtain ⟨oc, cc, rfl⟩ := hc.shapeN (n := D + 1) HCL.out; obtain ⟨oT, cT, rfl⟩ := hT.shapeN (n := D + 1) (by rw [qBD]; exact qA9 _ _); clear x0 x1
  (have X2 := X1.below hb; have R2 := R1.below hb; have B2 := B1.trans (hb.mono B1.size))
  have hb2s := hb.size; obtain ⟨x0, x1⟩ := id X2
  go_wp2_with fail
  refine (qGP m _ (D + 1) _ _).mono ?_; rintro e w3 ⟨rfl, hb3⟩; have hT3 := hT.below hb3; clear x0 x1; have hb := hb3
  (have R3 := R2.below hb; have B3 := B2.trans (hb.mono B2.size))
  obtain ⟨⟨r0, r1⟩, rf⟩ := id R3; have lR := R3.1.lt; go_wp2; refine bodyPost_ret (v := .tuple #[.agg #[.int .i64 m, .slice oT (D + 1) cT], .int .i64 0]) (by simp [results, Tryz.results22, go_sem, r0, r1, lR]) rfl ?_; rw [HRt.out]; refine ⟨_, rfl, ?_, (bY1 B3), ?_⟩
  ·exact ((hT3.low hz _).low hz _).mono B1s
  ·show _ ≤ 1048576
   exact (by rw [qBD]; exact qFO Oo _)
 ·have HR := dd (show qC0 p m t = ⟨0, [], qAs p m t⟩ by unfold qC0; rw [if_neg h0]); obtain ⟨q, hq⟩ : ∃ q, q = qAs p m t := ⟨_, rfl⟩; rw [← hq] at h0 HR; have HC := dd hq; clear hq; have hne : (q != 0) = true := by simpa using h0
  have hne' : (q == 0) = false := by simpa using h0
  go_enter Tryz.func22, Tryz.ntmps22
  go_wp2_with fail
  (obtain ⟨w0, hw0⟩ : ∃ W : World, W = ((w.alloc (.cells #[.int .i64 m, .slice o t.length c] 26)).alloc (.cells #[.int .i64 0, .slice none 0 0] 26)) := ⟨_, rfl⟩; have X0 := (RB2.mk1 w  (.int .i64 m) (.slice o t.length c) 26).1.below (w' := w0) (bV hw0) (nl _); have R0 := (RB2.mk2 w (.cells #[.int .i64 m, .slice o t.length c] 26) (.int .i64 0) (.slice none 0 0) 26).below (w' := w0) (bV hw0) (nl _); have B0 : Below w.heap.size w w0 := (bV hw0); have hv0 := hv.below (w' := w0) (bV hw0) (nl _); rw [← hw0]; clear hw0)
  (obtain ⟨gqX0, gqX1⟩ := id X0; go_wp2_with fail; refine (qGK p m _ t _ hv0).mono ?_; rw [← HC.out]; rintro e w1 ⟨rfl, hb⟩; (have R1 := R0.below hb; have B1 := B0.trans (hb.mono B0.size)); clear gqX0 gqX1; clear hb)
  obtain ⟨⟨r0, r1⟩, rf⟩ := id R1; go_wp2; refine bodyPost_ret (v := .tuple #[.agg #[.int .i64 0, .slice none 0 0], .int .i64 q]) (by simp [results, Tryz.results22, go_sem, r0, r1]) rfl ?_; rw [HR.out]; exact ⟨_, rfl, OwS.nil _ _, (bY1 B1), by simp [qBu, qBW]⟩
theorem qOq (p m : Int) (v : Value) (t : Tb) (w : World) (hv : RdT w v t) :
  Calls Tryz.prog 24 #[.int .i64 p, .agg #[.int .i64 m, v]] w fun e w' => SEnd w w' (qCZ p m t) e := by
 obtain ⟨o, c, rfl, -, -⟩ := id hv
 by_cases h0 : qAs p m t = 0
 ·obtain ⟨h1, hpw0⟩ := qFr h0; obtain ⟨P, D, rfl, hl, hP, hD1, hD, hm, hm', HT, L, -, -⟩ := qCe h1; obtain ⟨M, hM⟩ : ∃ M : Nat, m = M := ⟨m.toNat, Oo⟩; have hpw : qAS P M = true := by rw [hM] at hpw0; exact hpw0
  have HCL := dd (qGC hM hP hm hpw hD1 hD HT L); have HRt := dd (show qCZ P m t = ⟨m, (tyS P m (D + 1) t (D - 1)).2.2, 0⟩ by unfold qCZ; rw [if_pos h0, hl]; rfl); have HC := dd h0; have HTh := dd HT; have HLh := dd L; have HMh := dd hM; have HPw := dd hpw; rw [hl]; have hv' : RdT w (.slice o (D + 1) c) t := by rw [hl] at hv; exact hv
  clear h0 h1 hpw0 hl HT L hM hpw hv
  go_enter Tryz.func24, Tryz.ntmps24
  go_wp2_with fail
  (obtain ⟨w0, hw0⟩ : ∃ W : World, W = ((w.alloc (.cells #[.int .i64 m, .slice o (D + 1) c] 26)).alloc (.cells #[.int .i64 0, .slice none 0 0] 34)) := ⟨_, rfl⟩; have X0 := (RB2.mk1 w  (.int .i64 m) (.slice o (D + 1) c) 26).1.below (w' := w0) (bV hw0) (nl _); have R0 := (RB2.mk2 w (.cells #[.int .i64 m, .slice o (D + 1) c] 26) (.int .i64 0) (.slice none 0 0) 34).below (w' := w0) (bV hw0) (nl _); have B0 : Below w.heap.size w w0 := (bV hw0); have hv'0 := hv'.below (w' := w0) (bV hw0) (nl _); rw [← hw0]; clear hw0)
  (obtain ⟨gqX0, gqX1⟩ := id X0; go_wp2_with fail; refine (qGK P m _ t _ hv'0).mono ?_; rw [HC.out]; rintro e w1 ⟨rfl, hb⟩; (have X1 := X0.below hb; have R1 := R0.below hb; have hv'1 := hv'0.below hb; have B1 := B0.trans (hb.mono B0.size)); clear gqX0 gqX1; clear hb)
  obtain ⟨x0, x1⟩ := id X1; have B1s := B1.size; have hz := R1.1.lt
  go_wp2_with fail
  refine (qJ2 P D M m _ t _ HMh.out hv'1 hP hD1 hD hm hm' HTh.out HLh.out HPw.out).mono ?_; rintro e w2 ⟨vc, vT, rfl, hc, hT, hb⟩; obtain ⟨oc, cc, rfl⟩ := hc.shapeN (n := D + 1) HCL.out; obtain ⟨oT, cT, rfl⟩ := hT.shapeN (n := D + 1) (by rw [qBD]; exact qA9 _ _); clear x0 x1
  (have X2 := X1.below hb; have R2 := R1.below hb; have B2 := B1.trans (hb.mono B1.size))
  have hb2s := hb.size; obtain ⟨x0, x1⟩ := id X2
  go_wp2_with fail
  refine (qQC m _ (D + 1) _ _).mono ?_; rintro e w3 ⟨rfl, hb3⟩; have hT3 := hc.below hb3; clear x0 x1; have hb := hb3
  (have R3 := R2.below hb; have B3 := B2.trans (hb.mono B2.size))
  obtain ⟨⟨r0, r1⟩, rf⟩ := id R3; have lR := R3.1.lt; go_wp2; refine bodyPost_ret (v := .tuple #[.agg #[.int .i64 m, .slice oc (D + 1) cc], .int .i64 0]) (by simp [results, Tryz.results24, go_sem, r0, r1, lR]) rfl ?_; rw [HRt.out]; refine ⟨_, rfl, ?_, (bY1 B3), ?_⟩
  ·exact ((hT3.low hz _).low hz _).mono B1s
  ·show _ ≤ 1048576
   exact (by rw [HCL.out]; omega)
 ·have HR := dd (show qCZ p m t = ⟨0, [], qAs p m t⟩ by unfold qCZ; rw [if_neg h0]); obtain ⟨q, hq⟩ : ∃ q, q = qAs p m t := ⟨_, rfl⟩; rw [← hq] at h0 HR; have HC := dd hq; clear hq; have hne : (q != 0) = true := by simpa using h0
  have hne' : (q == 0) = false := by simpa using h0
  go_enter Tryz.func24, Tryz.ntmps24
  go_wp2_with fail
  (obtain ⟨w0, hw0⟩ : ∃ W : World, W = ((w.alloc (.cells #[.int .i64 m, .slice o t.length c] 26)).alloc (.cells #[.int .i64 0, .slice none 0 0] 34)) := ⟨_, rfl⟩; have X0 := (RB2.mk1 w  (.int .i64 m) (.slice o t.length c) 26).1.below (w' := w0) (bV hw0) (nl _); have R0 := (RB2.mk2 w (.cells #[.int .i64 m, .slice o t.length c] 26) (.int .i64 0) (.slice none 0 0) 34).below (w' := w0) (bV hw0) (nl _); have B0 : Below w.heap.size w w0 := (bV hw0); have hv0 := hv.below (w' := w0) (bV hw0) (nl _); rw [← hw0]; clear hw0)
  (obtain ⟨gqX0, gqX1⟩ := id X0; go_wp2_with fail; refine (qGK p m _ t _ hv0).mono ?_; rw [← HC.out]; rintro e w1 ⟨rfl, hb⟩; (have R1 := R0.below hb; have B1 := B0.trans (hb.mono B0.size)); clear gqX0 gqX1; clear hb)
  obtain ⟨⟨r0, r1⟩, rf⟩ := id R1; go_wp2; refine bodyPost_ret (v := .tuple #[.agg #[.int .i64 0, .slice none 0 0], .int .i64 q]) (by simp [results, Tryz.results24, go_sem, r0, r1]) rfl ?_; rw [HR.out]; exact ⟨_, rfl, OwI.nil _ _, (bY1 B1), by simp⟩
end Go.Proofs.YtfpphfjlpgefaaaGreat
