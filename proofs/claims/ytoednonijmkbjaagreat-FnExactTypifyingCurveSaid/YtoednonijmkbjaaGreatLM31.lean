/- Lemmas. -/
import Derived.Test.YtoednonijmkbjaaGreatLTfI
import Derived.Test.YtoednonijmkbjaaGreatLM25
import Derived.Test.YtoednonijmkbjaaGreatLM18
import Derived.Test.YtoednonijmkbjaaGreatLG2
import Derived.ProofKit
import Derived.Lib.SmallJoins
import Derived.Deep.Matrix
set_option linter.unusedSimpArgs false
set_option linter.unusedVariables false
namespace Go.Proofs.YtoednonijmkbjaaGreat
open Go.RowKit

theorem pw_key {p n P : Nat} (hp : P4 p) (h2 : 2 ≤ n) (hn : n ≤ 10) (hP : P = p ^ (mostOf p (n - 1) + 1)) : (isPw p n = true → n = P ∧ P * p = p ^ (mostOf p n + 1)) ∧ (isPw p n = false → n ≠ P ∧ P = p ^ (mostOf p n + 1)) := by
  have h := pw_most hp h2 hn
  constructor
  · intro hb
    obtain ⟨h1, h3⟩ := h.1 hb
    exact ⟨by rw [hP]; exact h1, by rw [hP, h3]; exact (Nat.pow_succ p (mostOf p (n - 1) + 1)).symm⟩
  · intro hb
    obtain ⟨h1, -⟩ := h.2 hb
    refine ⟨fun e => ?_, by rw [hP, h1]⟩
    have := (isPw_iff hp (show n ≤ 10000 by omega)).2 ⟨mostOf p (n - 1) + 1, by rw [← hP, e]⟩
    rw [this] at hb
    exact absurd hb (by decide)
theorem pw_small {p n : Nat} (hp : P4 p) (hn : n ≤ 10) : p ^ (mostOf p n + 1) ≤ 5764801 ∧ 1 ≤ p ^ (mostOf p n + 1) := by
  have h3 := most_3 hp hn
  have hp2 := hp.pos
  have h1 : p ^ (mostOf p n + 1) ≤ 7 ^ (mostOf p n + 1) := Nat.pow_le_pow_left hp2.2 _
  have h2 : 7 ^ (mostOf p n + 1) ≤ 7 ^ 4 := Nat.pow_le_pow_right (by omega) (by omega)
  have h4 : 1 ≤ p ^ (mostOf p n + 1) := Nat.pow_pos (by omega)
  omega

set_option maxHeartbeats 4000000 in
set_option maxRecDepth 100000 in
theorem l09Typify_c (p D M : Nat) (m : Int) (v : Value) (t : List (List Int)) (w : World) (hM : m = M) (hv : RdT w v t) (hp : P4 p) (hD1 : 1 ≤ D) (hD : D ≤ 10) (hm : 2 ≤ m) (hm' : m ≤ 10000) (ht : PlaT m (D + 1) t) (L : Lw m (D + 1) (atT t)) (hpw : isPw p M = true) :
    Calls Tryz.prog 28 #[.int .i64 p, .agg #[.int .i64 m, v]] w fun e w' => ∃ vc vT, e = .returned (.tuple #[vc, vT]) ∧ OwI w' w.heap.size vc (tyS p m (D + 1) t (D - 1)).2.2 ∧ OwS w' w.heap.size vT (typT2 p m D (tyS p m (D + 1) t (D - 1)).2.1) ∧ Below w.heap.size w w' := by
  obtain ⟨o, c, rfl, hmx, -⟩ := id hv
  rw [ht.1] at hmx ⊢
  have hv' : RdT w (.slice o (D + 1) c) t := by rw [ht.1] at hv; exact hv
  have HA := Lib.hid (fun (n : Nat) (T : List (List Int)) (ls cv : List Int) (h2 : 2 ≤ n) (hn : n ≤ D + 1) (h : tyS p m (D + 1) t (n - 2) = (T, ls, cv)) => tyS_at hM hp hm hpw hD1 hD ht L h2 hn h)
  have HT := Lib.hid ht
  have hp2 := hp.pos
  clear hv ht L hpw hM
  unfold maxLen at hmx
  go_enter Tryz.func28, Tryz.ntmps28
  go_wp2_with fail
  (have X0 := ((RB2.mk1 w  (.int .i64 m) (.slice o (D + 1) c) 31).1).below (w' := (w.alloc (.cells #[.int .i64 m, .slice o (D + 1) c] 31))) (by (repeat (first | exact bR _ _ | (refine bS ?_ _) | (refine bA ?_ _) | (refine bN ?_ _) | (refine bD ?_)))) (Nat.le_refl _); have B0 : Below w.heap.size w (w.alloc (.cells #[.int .i64 m, .slice o (D + 1) c] 31)) := (by (repeat (first | exact bR _ _ | (refine bS ?_ _) | (refine bA ?_ _) | (refine bN ?_ _) | (refine bD ?_)))); have hv'0 := hv'.below (w' := (w.alloc (.cells #[.int .i64 m, .slice o (D + 1) c] 31))) (by (repeat (first | exact bR _ _ | (refine bS ?_ _) | (refine bA ?_ _) | (refine bN ?_ _) | (refine bD ?_)))) (Nat.le_refl _); generalize w.alloc (.cells #[.int .i64 m, .slice o (D + 1) c] 31) = w0 at X0 B0 hv'0 ⊢)
  obtain ⟨x0, x1⟩ := id X0
  have lX := X0.lt
  go_wp2_with fail
  go_quiet (fail)
  have e1 : IntKind.i64.wrap (((D + 1 : Nat) : Int) - 1) = (D : Int) := by rw [IntWalk.i64_in _ (by omega)]; omega
  have e2 : IntKind.i64.wrap ((D : Int) + 1) = ((D + 1 : Nat) : Int) := by rw [IntWalk.i64_in _ (by omega)]; omega
  have bq : Below w0.heap.size w0 (w0.drewN nq) := (by (repeat (first | exact bR _ _ | (refine bS ?_ _) | (refine bA ?_ _) | (refine bN ?_ _) | (refine bD ?_))))
  have X1 := X0.below bq (Nat.le_refl _)
  have hv1 := hv'0.below bq (Nat.le_refl _)
  have B1 := B0.trans (bq.mono (by omega))
  have hq1 : w0.heap.size = (w0.drewN nq).heap.size := by simp
  generalize w0.drewN nq = w1 at bq X1 hv1 B1 hq1 ⊢
  have i1 : 1 < D + 1 := by omega
  have i2 : (1 : Int) < ((D + 1 : Nat) : Int) := by omega
  go_wp2_with (at_make; go_loud (refine mkI _ rfl _ _ rfl _ _ _ (D + 1) rfl rfl rfl (by omega) ?_; intro w2 hO2 hb2 hs2; have hc0 := hO2.cell (k := 1) (rep_get (D + 1) 1 0 (by omega)); have hf0 := hO2.fz 1; obtain ⟨y0, y1⟩ := X1.below hb2 (Nat.le_refl _); have hne1 : w1.heap.size ≠ w.heap.size := (by omega); have hne2 : w.heap.size ≠ w1.heap.size := (by omega); have hlt1 : w1.heap.size < w2.heap.size := (by omega); have hlt2 : w.heap.size < w2.heap.size := (by omega); have HO2 := Lib.hid hO2; have HS2 := Lib.hid hs2; clear hO2 hs2))
  have hcv := ((HO2.out).put 1 1).alloc (.cells #[] 2)
  have hls := OwI.lit (w2.setCell ⟨w1.heap.size, 1, none⟩ (.int .i64 1)) [] (by decide)
  simp at hls
  have hb3 : Below w1.heap.size w1 ((w2.setCell ⟨w1.heap.size, 1, none⟩ (.int .i64 1)).alloc (.cells #[] 2)) := (by (repeat (first | exact bR _ _ | (refine bS ?_ _) | (refine bA ?_ _) | (refine bN ?_ _) | (refine bD ?_) | (refine bT ?_ hb2))))
  have hs3 : ((w2.setCell ⟨w1.heap.size, 1, none⟩ (.int .i64 1)).alloc (.cells #[] 2)).heap.size = w2.heap.size + 1 := by simp
  generalize (w2.setCell ⟨w1.heap.size, 1, none⟩ (.int .i64 1)).alloc (.cells #[] 2) = w3 at hcv hls hb3 hs3 ⊢
  refine (l01Own2_c m (D + 1) _ t _ (hv1.below hb3 (Nat.le_refl _)) HT.out (by omega) (by omega)).mono ?_
  rintro e w4 ⟨vT, rfl, howT, hb4⟩
  obtain ⟨oT, cT, rfl⟩ := howT.shapeN (n := D + 1) HT.out.1
  have hM4 : TyM (w.heap.size + 1) D t [] (varL (D + 1)) oT cT w1.heap.size (D + 1) w2.heap.size 0 [] w4 :=
    ⟨⟨_, _, howT.rds, .inl (by omega), fun x hx => by cases hx⟩, (hcv.below hb4).mono (by omega), (hls.below hb4).mono (by omega), by omega, by simp, by simp, fun x hx => by cases hx⟩
  have B4 := (B1.trans (hb3.mono (by omega))).trans (hb4.mono (by omega))
  obtain ⟨g0, hg0⟩ : ∃ g0, g0 = w2.heap.size := ⟨_, rfl⟩
  obtain ⟨c0, hc0'⟩ : ∃ c0, c0 = w1.heap.size := ⟨_, rfl⟩
  rw [← hg0, ← hc0'] at hM4 ⊢
  clear hg0 hc0' howT hb4 hb3 hs3 hcv hls hc0 hf0 y0 y1 hne1 hne2 hlt1 hlt2 HO2 HS2 hb2 bq X1 hv1 B1 hq1 i1 i2 X0 B0 hv'0 x0 x1 lX
  go_wp2_with fail
  go_loopw [8, 9, 10, 11, 12] (fun sc sl sp st i wr => ∃ (n P : Nat) (T : List (List Int)) (ls cv : List Int) (oT : Option Addr) (cT gc cc g cl : Nat), 2 ≤ n ∧ n ≤ D + 1 ∧ i = .int .i64 n ∧ sc = .slice (some ⟨gc, 0, none⟩) (D + 1) cc ∧ sl = .slice (some ⟨g, 0, none⟩) ls.length cl ∧ sp = .int .i64 P ∧ st = .slice oT (D + 1) cT ∧ Hid (tyS p m (D + 1) t (n - 2) = (T, ls, cv)) ∧ Hid (P = p ^ (mostOf p (n - 1) + 1)) ∧ 1 ≤ P ∧ P ≤ 5764801 ∧ TyM (w.heap.size + 1) D T ls cv oT cT gc cc g cl [] wr ∧ Below w.heap.size w wr) (fun _ _ _ _ i _ => D + 1 - (intOf i).toNat)
  case atStart => exact ⟨2, p, t, [], varL (D + 1), oT, cT, c0, D + 1, g0, 0, Nat.le_refl _, by omega, rfl, rfl, rfl, rfl, rfl, Lib.hid rfl, Lib.hid (by rcases hp with rfl | rfl | rfl | rfl <;> decide), by omega, by omega, hM4, B4⟩
  case round =>
    clear hM4 B4
    obtain ⟨n, P, T, ls, cv, oT, cT, gc, cc, g, cl, n2, hn, rfl, rfl, rfl, rfl, rfl, HK, HP, hP1, hP2, HM, B⟩ := hrel
    obtain ⟨hT, hl3, hlr, hcl, hcr, hlm, hown⟩ := HA.out n T ls cv n2 hn HK.out
    have HTk := Lib.hid hT
    have HCl := Lib.hid hcl
    clear hT hcl hlm
    have Bs := B.size
    have hlO := HM.ls.rd
    by_cases hlt : n ≤ D
    · obtain ⟨y, hy⟩ : ∃ y, y = ownF p m T n ls := ⟨_, rfl⟩
      have hyr := hown hlt
      have HF := Lib.hid (show facTo m (laz n) (fun i => atT (tri (n + 1) (fun i j => (atT (typT2 p m n ls) i j - atT (cutT (n + 1) T) i j) % m)) i (n - i)) (n + 1) m.toNat = ownF p m T n ls from
        facTo_congr (fun i hi => by rw [atT_tri (by omega)]) _)
      have HSt := Lib.hid (tyS_step n2 HK.out)
      rw [← hy] at HF HSt hyr
      clear hown hy
      have i1 : (n : Int) ≤ (D : Int) := by omega
      go_wp2_with fail
      refine (l09Law_t p n m _ ls _ hlO hp (by omega) (by omega) hm hm' hl3 hlr).mono ?_
      rintro e w1 ⟨v1, rfl, how1, hb1⟩
      obtain ⟨o1, c1, rfl⟩ := how1.shapeN (n := n + 1) (by rw [typT2_eq]; exact tri_len _ _)
      have hb1s := hb1.size
      have HGP := Lib.hid (show PlaT m (n + 1) (cutT (n + 1) T) from cutT_ok HTk.out (by omega))
      have HHP := Lib.hid (show PlaT m (n + 1) (typT2 p m n ls) from typT2_ok (by omega) p n ls)
      have HSP := Lib.hid (show PlaT m (n + 1) (tri (n + 1) (fun i j => (atT (typT2 p m n ls) i j - atT (cutT (n + 1) T) i j) % m)) from tri_ok fun _ _ _ => mod_lt' (by omega))
      go_wp2_with fail
      refine (l03Cut_c m (n : Int) (D + 1) (n + 1) _ T _ (HM.rd.below hb1 (Nat.le_refl _)) HTk.out (by omega) (by omega) (by omega) (by omega)).mono ?_
      rintro e w2 ⟨v2, rfl, how2, hb2⟩
      obtain ⟨o2, c2, rfl⟩ := how2.shapeN (n := n + 1) (cutT_len _ _)
      have hb2s := hb2.size
      go_wp2_with fail
      refine (l07Gap_c m (n + 1) _ _ (cutT (n + 1) T) (typT2 p m n ls) _ how2.rd (how1.rd.below hb2 (Nat.le_refl _)) (by omega) hm hm' HGP.out HHP.out).mono ?_
      rintro e w3 ⟨v3, rfl, how3, hb3⟩
      obtain ⟨o3, c3, rfl⟩ := how3.shapeN (n := n + 1) (tri_len _ _)
      have hb3s := hb3.size
      go_wp2_with fail
      refine (l07Factor_c m n _ (tri (n + 1) (fun i j => (atT (typT2 p m n ls) i j - atT (cutT (n + 1) T) i j) % m)) _ how3.rd HSP.out (by omega) (by omega) hm hm').mono ?_
      rw [HF.out]
      rintro e w4 ⟨rfl, hb4⟩
      have hb4s := hb4.size
      have E4 := hb1.trans (((hb2.trans (hb3.mono hb2s)).trans (hb4.mono (by omega))).mono hb1s)
      have E4s := E4.size
      have HM4 := HM.below E4
      have hglo := (HM4.ls.lt g rfl).1
      have hgl4 := (HM4.ls.lt g rfl).2
      have B4 := B.trans (E4.mono Bs)
      obtain ⟨hk1, hk2⟩ := pw_key hp n2 (by omega) HP.out
      have hsm := pw_small hp (show n ≤ 10 by omega)
      clear how1 how2 how3 hb1 hb2 hb3 hb4 hb1s hb2s hb3s hb4s HM B hlO HGP HHP HSP HF E4
      cases hPw : isPw p n
      · obtain ⟨hne, hPn⟩ := hk2 hPw
        have hb : ((n : Int) == (P : Int)) = false := by simp; omega
        have HPn := Lib.hid (show P = p ^ (mostOf p (n + 1 - 1) + 1) from hPn)
        have HSt' := Lib.hid (show tyS p m (D + 1) t (n + 1 - 2) = (cooT m (D + 1) T (stpG m (D + 1) n y), ls, horn m (D + 1) cv (stpG m (D + 1) n y)) by rw [HSt.out, if_neg (by rw [hPw]; simp)])
        clear hk1 hk2 hPn hsm HP
        have e4 : IntKind.i64.wrap ((D : Int) + 1) = ((D + 1 : Nat) : Int) := e2
        have i2 : (1 : Nat) < D + 1 := by omega
        have i3 : (1 : Int) < ((D + 1 : Nat) : Int) := by omega
        have i3' : (1 : Int) < (D : Int) + 1 := by omega
        go_wp2_with (at_make; go_loud (refine mkI _ rfl _ _ rfl _ _ _ (D + 1) rfl rfl rfl (by omega) ?_; intro w5 hO5 hb5 hs5; have hc0 := hO5.cell (k := 1) (rep_get (D + 1) 1 0 (by omega)); have hf0 := hO5.fz 1; have hlt1 : w4.heap.size < w5.heap.size := (by omega); have HO5 := Lib.hid hO5; have HS5 := Lib.hid hs5; clear hO5 hs5))
        have HV6 := (HO5.out).put 1 1
        have E6 := below_put hb5 (g := w4.heap.size) (k := 1) (Nat.le_refl _) (.int .i64 1)
        generalize w5.setCell ⟨w4.heap.size, 1, none⟩ (.int .i64 1) = w6 at HV6 E6 ⊢
        obtain ⟨gv, hgv⟩ : ∃ gv, gv = w4.heap.size := ⟨_, rfl⟩
        rw [← hgv] at HV6 ⊢
        have hgv4 : w4.heap.size ≤ gv := by omega
        clear hc0 hf0 hlt1 HO5 HS5 hb5 hgv
        have hlr := lam_range n n2 (by omega)
        obtain ⟨la, hla⟩ : ∃ la, la = lam n := ⟨_, rfl⟩
        have HLa := Lib.hid hla
        rw [← hla] at hlr
        clear hla
        have hlm := mod_lt' (a := la) (show 0 < m by omega)
        have hix := invM_range (m := m) (show 0 < m by omega) (la % m)
        have HX : Hid (∃ x, x = invM m (la % m)) := Lib.hid ⟨_, rfl⟩
        obtain ⟨x, hx⟩ := HX.out
        rw [← hx] at hix
        have HXe := Lib.hid hx
        clear hx HX
        have hyx : 0 ≤ y * x := Int.mul_nonneg hyr.1 hix.1
        have hyx' : y * x ≤ 10000 * 10000 := Int.mul_le_mul (by omega) (by omega) hix.1 (by omega)
        have hym := mod_lt' (a := y * x) (show 0 < m by omega)
        have t1 : la.tmod m = la % m := Int.tmod_eq_emod_of_nonneg (by omega)
        have t2 : (y * x).tmod m = y * x % m := Int.tmod_eq_emod_of_nonneg hyx
        have t3 : IntKind.i64.wrap (y * x) = y * x := IntWalk.i64_in _ (by omega)
        have m0 : (m == 0) = false := by simp; omega
        have m1 : ¬ m = 0 := by omega
        have j1 : (n : Int) < ((D + 1 : Nat) : Int) := by omega
        have j2 : (n : Int) < (D : Int) + 1 := by omega
        refine (l01Lazard_c n _ n2 (by omega)).mono ?_
        rw [← HLa.out]
        rintro e w7 ⟨rfl, hb7⟩
        have HV7 := HV6.below hb7
        have E7 := E6.trans (hb7.mono E6.size)
        have hc0 := HV7.cell (k := n) (some_at0 (by show n < (varL (D + 1)).length; rw [varL_len]; omega))
        have hf0 := HV7.fz n
        go_wp2_with (go_at_call 48; refine (l01Inv_c m (la % m) _ hm (by omega) (by omega) (by omega)).mono ?_; rw [← HXe.out]; rintro e w' ⟨rfl, rfl⟩)
        have hgs : stpG m (D + 1) n y = (varL (D + 1)).set n (y * x % m) := by unfold stpG; rw [HXe.out, HLa.out]
        have HV8 := HV7.put n (y * x % m)
        rw [show ((List.replicate (D + 1) 0).set 1 1).set n (y * x % m) = stpG m (D + 1) n y from hgs.symm] at HV8
        have E8 := below_put E7 (g := gv) (k := n) hgv4 (.int .i64 (y * x % m))
        generalize w7.setCell ⟨gv, n, none⟩ (.int .i64 (y * x % m)) = w8 at HV8 E8 ⊢
        have HGl := Lib.hid (stpG_len m (D + 1) n y)
        have HGr := Lib.hid (stpG_range (m := m) hm (D + 1) n y)
        generalize stpG m (D + 1) n y = gs at HV8 HGl HGr HSt' hgs
        clear hc0 hf0 HV6 HV7 E6 E7 hb7 hyx hyx' hym t1 t2 t3 hix HXe hlm hlr HLa hgs
        have HM8 := HM4.below E8
        have E8s := E8.size
        have hg8 := HV8.rd
        refine (l06Conjugate_c m (D + 1) _ _ T gs _ HM8.rd hg8 HGl.out (by omega) (by omega) hm hm' HTk.out HGr.out).mono ?_
        rintro e w9 ⟨va, rfl, how9, hb9⟩
        obtain ⟨oa, ca, rfl⟩ := how9.shapeN (n := D + 1) (cooT_len _ _ _ _)
        have hb9s := hb9.size
        have HM9 := HM8.below hb9
        go_wp2_with fail
        refine (l02Compose_c m D (D + 1) _ _ gs cv _ (by omega) (hg8.below hb9 (Nat.le_refl _)) HM9.cv.rd (by omega) (by rw [HGl.out]; omega) (by omega) hm hm' HGr.out hcr).mono ?_
        rintro e w10 ⟨vb, rfl, how10, hb10⟩
        rw [List.take_of_length_le (show gs.length ≤ D + 1 by rw [HGl.out]; omega)] at how10
        obtain ⟨ob, cb, rfl⟩ := how10.shapeN (n := D + 1) (horn_len _ _ _ _)
        obtain ⟨gb, rfl, -, -⟩ := how10.row (by omega)
        have hT10 := how9.rds.below hb10
        have hM10 := HM8.new (hb9.trans (hb10.mono hb9s)) (by omega) (Nat.le_refl _) hT10 (how10.mono hb9s)
        have B10 := B4.trans ((E8.trans ((hb9.trans (hb10.mono hb9s)).mono E8s)).mono (by omega))
        go_wp2_with fail
        exact ⟨⟨n + 1, P, _, ls, _, oa, ca, gb, cb, g, cl, by omega, by omega, by go_num, rfl, rfl, rfl, rfl, HSt', HPn, hP1, hP2, hM10, B10⟩, by simp [intOf]; omega⟩
      · obtain ⟨rfl, hPn⟩ := hk1 hPw
        have hb : ((n : Int) == (n : Int)) = true := by simp
        have HPn := Lib.hid (show n * p = p ^ (mostOf p (n + 1 - 1) + 1) from hPn)
        have e3 : IntKind.i64.wrap ((n : Int) * (p : Int)) = ((n * p : Nat) : Int) := by
          rw [show (n : Int) * (p : Int) = ((n * p : Nat) : Int) by simp]
          exact IntWalk.i64_in _ (by omega)
        have hnp : 1 ≤ n * p ∧ n * p ≤ 5764801 := by rw [hPn]; exact ⟨hsm.2, hsm.1⟩
        have HSt' := Lib.hid (show tyS p m (D + 1) t (n + 1 - 2) = (T, ls ++ [y], cv) by rw [HSt.out, if_pos hPw])
        clear hk1 hk2 hPn hsm HP
        generalize n * p = Q at e3 HPn hnp
        go_wp2_with (at_builtin; refine ap1 w4 rfl _ _ rfl (w.heap.size + 1) g ls.length cl ls rfl y rfl HM4.ls (by omega) (by omega) ?_; intro g' cl' w5 hO5 hgr h5)
        have hM5 := HM4.app hO5 hgr h5
        have bA : Below w4.heap.size w4 (w4.alloc (.cells #[.int .i64 y] 2)) := (by (repeat (first | exact bR _ _ | (refine bS ?_ _) | (refine bA ?_ _) | (refine bN ?_ _) | (refine bD ?_))))
        have B5 := below_gr (B4.trans (bA.mono (by omega))) hgr (by omega) (by simp; omega)
        exact ⟨⟨n + 1, Q, T, ls ++ [y], cv, oT, cT, gc, cc, g', cl', by omega, by omega, by go_num, rfl, by simp, rfl, rfl, HSt', HPn, hnp.1, hnp.2, hM5, B5⟩, by simp [intOf]; omega⟩
    · obtain rfl : n = D + 1 := by omega
      have i1 : ¬ (((D + 1 : Nat) : Int) ≤ (D : Int)) := by omega
      have i1' : ¬ ((D : Int) + 1 ≤ (D : Int)) := by omega
      have HKe := Lib.hid (show tyS p m (D + 1) t (D - 1) = (T, ls, cv) from by
        have := HK.out
        rwa [show D + 1 - 2 = D - 1 by omega] at this)
      clear hown
      go_wp2_with fail
      refine (l09Law_t p D m _ ls _ hlO hp hD1 hD hm hm' hl3 hlr).mono ?_
      rintro e w1 ⟨v1, rfl, how1, hb1⟩
      have V9 := HM.cv.below hb1
      have B9 := B.trans (hb1.mono Bs)
      go_wp2
      go_ret2
      refine ⟨_, _, rfl, ?_, ?_, B9⟩
      · rw [HKe.out]; exact V9.mono (by omega)
      · rw [HKe.out]; exact how1.mono (by omega)
end Go.Proofs.YtoednonijmkbjaaGreat
set_option linter.unusedSimpArgs false
set_option linter.unusedVariables false
namespace Go.Proofs.YtoednonijmkbjaaGreat
open Go.RowKit

def tfSR (p m : Int) (t : List (List Int)) : SR := if tyfC p m t = 0 then ⟨m, (tyS p.toNat m t.length t (t.length - 2)).2.2, 0⟩ else ⟨0, [], tyfC p m t⟩
theorem tyS_clen {p D M : Nat} {m : Int} {t : List (List Int)} (hM : m = M) (hp : P4 p) (hm : 2 ≤ m) (hpw : isPw p M = true) (hD1 : 1 ≤ D) (hD : D ≤ 10) (ht : PlaT m (D + 1) t) (L : Lw m (D + 1) (atT t)) : (tyS p m (D + 1) t (D - 1)).2.2.length = D + 1 := by
  obtain ⟨-, -, -, h, -⟩ := tyS_at (n := D + 1) hM hp hm hpw hD1 hD ht L (by omega) (Nat.le_refl _) (T := (tyS p m (D + 1) t (D + 1 - 2)).1) (ls := (tyS p m (D + 1) t (D + 1 - 2)).2.1) (cv := (tyS p m (D + 1) t (D + 1 - 2)).2.2) rfl
  exact h

set_option maxHeartbeats 1000000 in
set_option maxRecDepth 100000 in
theorem TypifyingCurve_c (p m : Int) (v : Value) (t : List (List Int)) (w : World) (hv : RdT w v t) :
    Calls Tryz.prog 10 #[.int .i64 p, .agg #[.int .i64 m, v]] w fun e w' => SEnd w w' (tfSR p m t) e := by
  obtain ⟨o, c, rfl, -, -⟩ := id hv
  by_cases h0 : tyfC p m t = 0
  · obtain ⟨h1, hpw0⟩ := tyfC_0 h0
    obtain ⟨P, D, rfl, hl, hP, hD1, hD, hm, hm', HT, L, -, -⟩ := law_typ h1
    obtain ⟨M, hM⟩ : ∃ M : Nat, m = M := ⟨m.toNat, by omega⟩
    have hpw : isPw P M = true := by rw [hM] at hpw0; exact hpw0
    have HCL := Lib.hid (tyS_clen hM hP hm hpw hD1 hD HT L)
    have HRt := Lib.hid (show tfSR P m t = ⟨m, (tyS P m (D + 1) t (D - 1)).2.2, 0⟩ by unfold tfSR; rw [if_pos h0, hl]; rfl)
    have HC := Lib.hid h0
    have HTh := Lib.hid HT
    have HLh := Lib.hid L
    have HMh := Lib.hid hM
    have HPw := Lib.hid hpw
    rw [hl]
    have hv' : RdT w (.slice o (D + 1) c) t := by rw [hl] at hv; exact hv
    clear h0 h1 hpw0 hl HT L hM hpw hv
    go_enter Tryz.func10, Tryz.ntmps10
    go_wp2_with fail
    (have X0 := ((RB2.mk1 w  (.int .i64 m) (.slice o (D + 1) c) 31).1).below (w' := ((w.alloc (.cells #[.int .i64 m, .slice o (D + 1) c] 31)).alloc (.cells #[.int .i64 0, .slice none 0 0] 28))) (by (repeat (first | exact bR _ _ | (refine bS ?_ _) | (refine bA ?_ _) | (refine bN ?_ _) | (refine bD ?_)))) (Nat.le_refl _); have R0 := ((RB2.mk2 w (.cells #[.int .i64 m, .slice o (D + 1) c] 31) (.int .i64 0) (.slice none 0 0) 28)).below (w' := ((w.alloc (.cells #[.int .i64 m, .slice o (D + 1) c] 31)).alloc (.cells #[.int .i64 0, .slice none 0 0] 28))) (by (repeat (first | exact bR _ _ | (refine bS ?_ _) | (refine bA ?_ _) | (refine bN ?_ _) | (refine bD ?_)))) (Nat.le_refl _); have B0 : Below w.heap.size w ((w.alloc (.cells #[.int .i64 m, .slice o (D + 1) c] 31)).alloc (.cells #[.int .i64 0, .slice none 0 0] 28)) := (by (repeat (first | exact bR _ _ | (refine bS ?_ _) | (refine bA ?_ _) | (refine bN ?_ _) | (refine bD ?_)))); have hv'0 := hv'.below (w' := ((w.alloc (.cells #[.int .i64 m, .slice o (D + 1) c] 31)).alloc (.cells #[.int .i64 0, .slice none 0 0] 28))) (by (repeat (first | exact bR _ _ | (refine bS ?_ _) | (refine bA ?_ _) | (refine bN ?_ _) | (refine bD ?_)))) (Nat.le_refl _); generalize (w.alloc (.cells #[.int .i64 m, .slice o (D + 1) c] 31)).alloc (.cells #[.int .i64 0, .slice none 0 0] 28) = w0 at X0 R0 B0 hv'0 ⊢)
    (obtain ⟨gqX0, gqX1⟩ := id X0; go_wp2_with fail; refine (typifiable_c P m _ t _ hv'0).mono ?_; rw [HC.out]; rintro e w1 ⟨rfl, hb⟩; (have X1 := X0.below hb (Nat.le_refl _); have R1 := R0.below hb (Nat.le_refl _); have hv'1 := hv'0.below hb (Nat.le_refl _); have B1 := B0.trans (hb.mono B0.size)); clear gqX0 gqX1; clear hb)
    obtain ⟨x0, x1⟩ := id X1
    have B1s := B1.size
    have hz := R1.1.lt
    go_wp2_with fail
    refine (typify_c P D M m _ t _ HMh.out hv'1 hP hD1 hD hm hm' HTh.out HLh.out HPw.out).mono ?_
    rintro e w2 ⟨vc, vT, rfl, hc, hT, hb⟩
    obtain ⟨oc, cc, rfl⟩ := hc.shapeN (n := D + 1) HCL.out
    obtain ⟨oT, cT, rfl⟩ := hT.shapeN (n := D + 1) (by rw [typT2_eq]; exact tri_len _ _)
    clear x0 x1
    (have R2 := R1.below hb (Nat.le_refl _); have B2 := B1.trans (hb.mono B1.size))
    have hb2s := hb.size
    have R3 := R2.below (w' := (w2.alloc (.cells #[.int .i64 m, .slice oc (D + 1) cc] 28)).alloc (.cells #[.int .i64 m, .slice oT (D + 1) cT] 31)) (by (repeat (first | exact bR _ _ | (refine bS ?_ _) | (refine bA ?_ _) | (refine bN ?_ _) | (refine bD ?_)))) (Nat.le_refl _)
    obtain ⟨⟨r0, r1⟩, rf⟩ := id R3
    have lR := R2.1.lt
    go_wp2
    refine bodyPost_ret (v := .tuple #[.agg #[.int .i64 m, .slice oc (D + 1) cc], .int .i64 0]) (by simp [results, Tryz.results10, go_sem, r0, r1, lR]) rfl ?_
    rw [HRt.out]
    refine ⟨_, rfl, ?_, (by (repeat (first | exact bR _ _ | (refine bS ?_ _) | (refine bA ?_ _) | (refine bN ?_ _) | (refine bD ?_) | (refine bT ?_ B2)))), ?_⟩
    · exact ((((hc.alloc _).alloc _).low hz _).low hz _).mono B1s
    · show _ ≤ 1048576
      exact (by rw [HCL.out]; omega)
  · have HR := Lib.hid (show tfSR p m t = ⟨0, [], tyfC p m t⟩ by unfold tfSR; rw [if_neg h0])
    obtain ⟨q, hq⟩ : ∃ q, q = tyfC p m t := ⟨_, rfl⟩
    rw [← hq] at h0 HR
    have HC := Lib.hid hq
    clear hq
    have hne : (q != 0) = true := by simpa using h0
    have hne' : (q == 0) = false := by simpa using h0
    go_enter Tryz.func10, Tryz.ntmps10
    go_wp2_with fail
    (have X0 := ((RB2.mk1 w  (.int .i64 m) (.slice o t.length c) 31).1).below (w' := ((w.alloc (.cells #[.int .i64 m, .slice o t.length c] 31)).alloc (.cells #[.int .i64 0, .slice none 0 0] 28))) (by (repeat (first | exact bR _ _ | (refine bS ?_ _) | (refine bA ?_ _) | (refine bN ?_ _) | (refine bD ?_)))) (Nat.le_refl _); have R0 := ((RB2.mk2 w (.cells #[.int .i64 m, .slice o t.length c] 31) (.int .i64 0) (.slice none 0 0) 28)).below (w' := ((w.alloc (.cells #[.int .i64 m, .slice o t.length c] 31)).alloc (.cells #[.int .i64 0, .slice none 0 0] 28))) (by (repeat (first | exact bR _ _ | (refine bS ?_ _) | (refine bA ?_ _) | (refine bN ?_ _) | (refine bD ?_)))) (Nat.le_refl _); have B0 : Below w.heap.size w ((w.alloc (.cells #[.int .i64 m, .slice o t.length c] 31)).alloc (.cells #[.int .i64 0, .slice none 0 0] 28)) := (by (repeat (first | exact bR _ _ | (refine bS ?_ _) | (refine bA ?_ _) | (refine bN ?_ _) | (refine bD ?_)))); have hv0 := hv.below (w' := ((w.alloc (.cells #[.int .i64 m, .slice o t.length c] 31)).alloc (.cells #[.int .i64 0, .slice none 0 0] 28))) (by (repeat (first | exact bR _ _ | (refine bS ?_ _) | (refine bA ?_ _) | (refine bN ?_ _) | (refine bD ?_)))) (Nat.le_refl _); generalize (w.alloc (.cells #[.int .i64 m, .slice o t.length c] 31)).alloc (.cells #[.int .i64 0, .slice none 0 0] 28) = w0 at X0 R0 B0 hv0 ⊢)
    (obtain ⟨gqX0, gqX1⟩ := id X0; go_wp2_with fail; refine (typifiable_c p m _ t _ hv0).mono ?_; rw [← HC.out]; rintro e w1 ⟨rfl, hb⟩; (have R1 := R0.below hb (Nat.le_refl _); have B1 := B0.trans (hb.mono B0.size)); clear gqX0 gqX1; clear hb)
    obtain ⟨⟨r0, r1⟩, rf⟩ := id R1
    go_wp2
    refine bodyPost_ret (v := .tuple #[.agg #[.int .i64 0, .slice none 0 0], .int .i64 q]) (by simp [results, Tryz.results10, go_sem, r0, r1]) rfl ?_
    rw [HR.out]
    exact ⟨_, rfl, OwI.nil _ _, (by (repeat (first | exact bR _ _ | (refine bS ?_ _) | (refine bA ?_ _) | (refine bN ?_ _) | (refine bD ?_) | (refine bT ?_ B1)))), by simp⟩

set_option maxHeartbeats 1000000 in
set_option maxRecDepth 100000 in
theorem sTypifyingCurve_c (p m : Int) (v : Value) (t : List (List Int)) (w : World) (hv : RdT w v t) :
    Calls Tryz.prog 8 #[.int .i64 p, .agg #[.int .i64 m, v]] w fun e w' => SEnd w w' (tfSR p m t) e := by
  obtain ⟨o, c, rfl, -, -⟩ := id hv
  by_cases h0 : tyfC p m t = 0
  · obtain ⟨h1, hpw0⟩ := tyfC_0 h0
    obtain ⟨P, D, rfl, hl, hP, hD1, hD, hm, hm', HT, L, -, -⟩ := law_typ h1
    obtain ⟨M, hM⟩ : ∃ M : Nat, m = M := ⟨m.toNat, by omega⟩
    have hpw : isPw P M = true := by rw [hM] at hpw0; exact hpw0
    have HCL := Lib.hid (tyS_clen hM hP hm hpw hD1 hD HT L)
    have HRt := Lib.hid (show tfSR P m t = ⟨m, (tyS P m (D + 1) t (D - 1)).2.2, 0⟩ by unfold tfSR; rw [if_pos h0, hl]; rfl)
    have HC := Lib.hid h0
    have HTh := Lib.hid HT
    have HLh := Lib.hid L
    have HMh := Lib.hid hM
    have HPw := Lib.hid hpw
    rw [hl]
    have hv' : RdT w (.slice o (D + 1) c) t := by rw [hl] at hv; exact hv
    clear h0 h1 hpw0 hl HT L hM hpw hv
    go_enter Tryz.func8, Tryz.ntmps8
    go_wp2_with fail
    (have X0 := ((RB2.mk1 w  (.int .i64 m) (.slice o (D + 1) c) 31).1).below (w' := ((w.alloc (.cells #[.int .i64 m, .slice o (D + 1) c] 31)).alloc (.cells #[.int .i64 0, .slice none 0 0] 28))) (by (repeat (first | exact bR _ _ | (refine bS ?_ _) | (refine bA ?_ _) | (refine bN ?_ _) | (refine bD ?_)))) (Nat.le_refl _); have R0 := ((RB2.mk2 w (.cells #[.int .i64 m, .slice o (D + 1) c] 31) (.int .i64 0) (.slice none 0 0) 28)).below (w' := ((w.alloc (.cells #[.int .i64 m, .slice o (D + 1) c] 31)).alloc (.cells #[.int .i64 0, .slice none 0 0] 28))) (by (repeat (first | exact bR _ _ | (refine bS ?_ _) | (refine bA ?_ _) | (refine bN ?_ _) | (refine bD ?_)))) (Nat.le_refl _); have B0 : Below w.heap.size w ((w.alloc (.cells #[.int .i64 m, .slice o (D + 1) c] 31)).alloc (.cells #[.int .i64 0, .slice none 0 0] 28)) := (by (repeat (first | exact bR _ _ | (refine bS ?_ _) | (refine bA ?_ _) | (refine bN ?_ _) | (refine bD ?_)))); have hv'0 := hv'.below (w' := ((w.alloc (.cells #[.int .i64 m, .slice o (D + 1) c] 31)).alloc (.cells #[.int .i64 0, .slice none 0 0] 28))) (by (repeat (first | exact bR _ _ | (refine bS ?_ _) | (refine bA ?_ _) | (refine bN ?_ _) | (refine bD ?_)))) (Nat.le_refl _); generalize (w.alloc (.cells #[.int .i64 m, .slice o (D + 1) c] 31)).alloc (.cells #[.int .i64 0, .slice none 0 0] 28) = w0 at X0 R0 B0 hv'0 ⊢)
    (obtain ⟨gqX0, gqX1⟩ := id X0; go_wp2_with fail; refine (l09Good_c P m _ t _ hv'0).mono ?_; rw [HC.out]; rintro e w1 ⟨rfl, hb⟩; (have X1 := X0.below hb (Nat.le_refl _); have R1 := R0.below hb (Nat.le_refl _); have hv'1 := hv'0.below hb (Nat.le_refl _); have B1 := B0.trans (hb.mono B0.size)); clear gqX0 gqX1; clear hb)
    obtain ⟨x0, x1⟩ := id X1
    have B1s := B1.size
    have hz := R1.1.lt
    go_wp2_with fail
    refine (l09Typify_c P D M m _ t _ HMh.out hv'1 hP hD1 hD hm hm' HTh.out HLh.out HPw.out).mono ?_
    rintro e w2 ⟨vc, vT, rfl, hc, hT, hb⟩
    obtain ⟨oc, cc, rfl⟩ := hc.shapeN (n := D + 1) HCL.out
    obtain ⟨oT, cT, rfl⟩ := hT.shapeN (n := D + 1) (by rw [typT2_eq]; exact tri_len _ _)
    clear x0 x1
    (have X2 := X1.below hb (Nat.le_refl _); have R2 := R1.below hb (Nat.le_refl _); have B2 := B1.trans (hb.mono B1.size))
    have hb2s := hb.size
    obtain ⟨x0, x1⟩ := id X2
    go_wp2_with fail
    refine (l02Make_c m _ (D + 1) _ _).mono ?_
    rintro e w3 ⟨rfl, hb3⟩
    have hT3 := hc.below hb3
    clear x0 x1
    have hb := hb3
    (have R3 := R2.below hb (Nat.le_refl _); have B3 := B2.trans (hb.mono B2.size))
    obtain ⟨⟨r0, r1⟩, rf⟩ := id R3
    have lR := R3.1.lt
    go_wp2
    refine bodyPost_ret (v := .tuple #[.agg #[.int .i64 m, .slice oc (D + 1) cc], .int .i64 0]) (by simp [results, Tryz.results8, go_sem, r0, r1, lR]) rfl ?_
    rw [HRt.out]
    refine ⟨_, rfl, ?_, (by (repeat (first | exact bR _ _ | (refine bS ?_ _) | (refine bA ?_ _) | (refine bN ?_ _) | (refine bD ?_) | (refine bT ?_ B3)))), ?_⟩
    · exact ((hT3.low hz _).low hz _).mono B1s
    · show _ ≤ 1048576
      exact (by rw [HCL.out]; omega)
  · have HR := Lib.hid (show tfSR p m t = ⟨0, [], tyfC p m t⟩ by unfold tfSR; rw [if_neg h0])
    obtain ⟨q, hq⟩ : ∃ q, q = tyfC p m t := ⟨_, rfl⟩
    rw [← hq] at h0 HR
    have HC := Lib.hid hq
    clear hq
    have hne : (q != 0) = true := by simpa using h0
    have hne' : (q == 0) = false := by simpa using h0
    go_enter Tryz.func8, Tryz.ntmps8
    go_wp2_with fail
    (have X0 := ((RB2.mk1 w  (.int .i64 m) (.slice o t.length c) 31).1).below (w' := ((w.alloc (.cells #[.int .i64 m, .slice o t.length c] 31)).alloc (.cells #[.int .i64 0, .slice none 0 0] 28))) (by (repeat (first | exact bR _ _ | (refine bS ?_ _) | (refine bA ?_ _) | (refine bN ?_ _) | (refine bD ?_)))) (Nat.le_refl _); have R0 := ((RB2.mk2 w (.cells #[.int .i64 m, .slice o t.length c] 31) (.int .i64 0) (.slice none 0 0) 28)).below (w' := ((w.alloc (.cells #[.int .i64 m, .slice o t.length c] 31)).alloc (.cells #[.int .i64 0, .slice none 0 0] 28))) (by (repeat (first | exact bR _ _ | (refine bS ?_ _) | (refine bA ?_ _) | (refine bN ?_ _) | (refine bD ?_)))) (Nat.le_refl _); have B0 : Below w.heap.size w ((w.alloc (.cells #[.int .i64 m, .slice o t.length c] 31)).alloc (.cells #[.int .i64 0, .slice none 0 0] 28)) := (by (repeat (first | exact bR _ _ | (refine bS ?_ _) | (refine bA ?_ _) | (refine bN ?_ _) | (refine bD ?_)))); have hv0 := hv.below (w' := ((w.alloc (.cells #[.int .i64 m, .slice o t.length c] 31)).alloc (.cells #[.int .i64 0, .slice none 0 0] 28))) (by (repeat (first | exact bR _ _ | (refine bS ?_ _) | (refine bA ?_ _) | (refine bN ?_ _) | (refine bD ?_)))) (Nat.le_refl _); generalize (w.alloc (.cells #[.int .i64 m, .slice o t.length c] 31)).alloc (.cells #[.int .i64 0, .slice none 0 0] 28) = w0 at X0 R0 B0 hv0 ⊢)
    (obtain ⟨gqX0, gqX1⟩ := id X0; go_wp2_with fail; refine (l09Good_c p m _ t _ hv0).mono ?_; rw [← HC.out]; rintro e w1 ⟨rfl, hb⟩; (have R1 := R0.below hb (Nat.le_refl _); have B1 := B0.trans (hb.mono B0.size)); clear gqX0 gqX1; clear hb)
    obtain ⟨⟨r0, r1⟩, rf⟩ := id R1
    go_wp2
    refine bodyPost_ret (v := .tuple #[.agg #[.int .i64 0, .slice none 0 0], .int .i64 q]) (by simp [results, Tryz.results8, go_sem, r0, r1]) rfl ?_
    rw [HR.out]
    exact ⟨_, rfl, OwI.nil _ _, (by (repeat (first | exact bR _ _ | (refine bS ?_ _) | (refine bA ?_ _) | (refine bN ?_ _) | (refine bD ?_) | (refine bT ?_ B1)))), by simp⟩
end Go.Proofs.YtoednonijmkbjaaGreat
set_option linter.unusedSimpArgs false
set_option linter.unusedVariables false
namespace Go.Proofs.YtoednonijmkbjaaGreat
open Go.RowKit
open Go.ChangeShapes Go.WideShapes Go.ChangeAt Go.Joins

theorem Tryz.own : ownKnob Tryz.prog.godebug = none := by kernel_rfl
theorem Tryz.laidOut : laidOutB Tryz.prog = true := by kernel_rfl
theorem Tryz.cellsI : Tryz.prog.cellsOf 2 = 1 := by kernel_rfl

theorem trodAll_below {H : Type} {enc : TypeId × Value → H} {P : Program} {W W' : World} (hl : laidOutB P = true) :
    ∀ {ts : List TypeId} {vs : List Value} {ds : List (DataW H)} {ps : List MemPlace}, (ts.all fun t => P.readableRec t && decide (t < P.types.size)) = true →
      DataW.TrodAll enc P W 0 (fun _ => true) true ts vs ds ps → Below W.heap.size W W' → (∀ x ∈ ps, x.block < W.heap.size) → DataW.TrodAll enc P W' 0 (fun b => decide (b < W.heap.size)) true ts vs ds ps
  | [], [], [], _, _, h, _, _ => h
  | t :: ts, _ :: _, _ :: _, _, hT, ⟨p, q, h1, h2, e⟩, hb, hs => by
    simp only [List.all_cons, Bool.and_eq_true, decide_eq_true_eq] at hT
    exact ⟨p, q, Below.trod hl hT.1.1 hT.1.2 h1 hb (fun x hx => hs x (by rw [e]; exact List.mem_append_left _ hx)), trodAll_below hl hT.2 h2 hb (fun x hx => hs x (by rw [e]; exact List.mem_append_right _ hx)), e⟩

theorem Tryz.cellsL : Tryz.prog.cellsOf 26 = 1 := by kernel_rfl
theorem Tryz.cellsP : Tryz.prog.cellsOf 24 = 2 := by kernel_rfl
theorem cells_plain {w : World} {a : Addr} {n : Nat} {f : Nat → Value} (h : ∀ i, i < n → w.cell? (a.add i) = some (f i)) (hp : 0 < n) :
    ∃ b off, a = ⟨b, off, none⟩ ∧ ∀ j, j < n → w.cell? ⟨b, off + j, none⟩ = some (f j) := by
  obtain ⟨b, off, spot⟩ := a
  have hspot : spot = none := by simpa [Addr.add] using World.cell?_spot (h 0 hp)
  subst hspot
  exact ⟨b, off, rfl, fun j hj => by rw [← Go.WideShapes.add_plain]; exact h j hj⟩
theorem rdT_of_trod {H : Type} {enc : TypeId × Value → H} {W : World} {fuel : Nat} {v : Value} {y : DataW H × List MemPlace}
    (h : DataW.trod enc Tryz.prog W 0 (fun _ => true) true fuel 22 [v] = some y) : ∃ xss : List (List Int), RdT W v xss := by
  rcases Deep.open_int_rows Tryz.underlying22 Tryz.underlying26 Tryz.underlying2 Tryz.cellsL Tryz.cellsI h with ⟨hcs, hx⟩ | ⟨a, len, cap, A, L, C, Z, hcs, _, hl, hm, hx, hrow⟩
  · simp only [List.cons.injEq, and_true] at hcs
    subst hcs
    exact ⟨[], none, 0, rfl, ⟨Nat.zero_le _, Nat.zero_le _, fun _ => rfl⟩, fun k row hx => by simp at hx⟩
  · simp only [List.cons.injEq, and_true] at hcs
    subst hcs
    refine ⟨(List.range len).map (fun r => (Z r).take (L r)), some a, cap, by simp, ⟨by simp; omega, by simp; omega, fun h => by cases h⟩, fun k row hk => ?_⟩
    have hkl : k < len := by have := (List.getElem?_eq_some_iff.1 hk).1; simpa using this
    have hrk : row = (Z k).take (L k) := by simp [hkl] at hk; exact hk.symm
    obtain ⟨b, off, rfl, hc⟩ := cells_plain (fun i hi => (hrow i hi).1) (show 0 < cap by omega)
    obtain ⟨-, h1, h2, h3, -, h4, h5⟩ := hrow k (by omega)
    refine ⟨b, off, .slice (A k) (L k) (C k), rfl, hc k (by omega), A k, C k, by rw [hrk]; simp; omega, ⟨by rw [hrk]; simp; omega, by rw [hrk]; simp; omega, h4⟩, fun j x hx => ?_⟩
    rw [hrk] at hx
    have hj : j < L k := by have := (List.getElem?_eq_some_iff.1 hx).1; simp at this; omega
    cases hA : A k with
    | none => have := h4 hA; omega
    | some a' =>
      obtain ⟨-, h6⟩ := h5 a' hA
      obtain ⟨b', off', rfl, hc'⟩ := cells_plain (fun i hi => h6 i hi) (show 0 < C k by omega)
      refine ⟨b', off', rfl, ?_⟩
      rw [hc' j (by omega)]
      rw [List.getElem?_take, if_pos hj] at hx
      simp [List.getD, hx]
set_option maxRecDepth 100000 in
theorem open_plane {H : Type} {enc : TypeId × Value → H} {W : World} {r : Reach} {b0 : Nat} {v : Value} {d : DataW H} {ps : List MemPlace}
    (hv : Value.okWide Tryz.prog W r b0 24 v) (h : DataW.Trod enc Tryz.prog W 0 (fun _ => true) true 24 v d ps) :
    ∃ (m : Int) (u : Value) (xss : List (List Int)), v = .agg #[.int .i64 m, u] ∧ RdT W u xss := by
  obtain ⟨c0, c1, y0, y1, n, rfl, rfl, rfl, hy0, hy1⟩ := open_agg2 Tryz.underlying24 (by kernel_rfl) Tryz.cellsP hv h
  obtain ⟨a, e0, rfl, wa⟩ := DataW.trod_int Tryz.underlying2 hy0
  simp at e0
  subst e0
  obtain ⟨xss, hrd⟩ := rdT_of_trod hy1
  exact ⟨a, c1, xss, rfl, hrd⟩

end Go.Proofs.YtoednonijmkbjaaGreat
