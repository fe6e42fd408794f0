/- Lemmas. -/
import Derived.Test.YtfpphfjlpgefaaaGreatqPaI
import Derived.Test.YtfpphfjlpgefaaaGreatqG9
set_option maxHeartbeats 1000000
set_option maxRecDepth 100000
set_option linter.unusedSimpArgs false
set_option linter.unusedVariables false
namespace Go.Proofs.YtfpphfjlpgefaaaGreat
open Go.RowKit
section

theorem qKo {w : World} {y : Int} {P : World → Prop} (h : ∀ w', RdI w' (.slice (some ⟨w.heap.size, 0, none⟩) 1 1) [y] → Below w.heap.size w w' → w.heap.size < w'.heap.size → P w') : P (w.alloc (.cells #[.int .i64 y] 2)) := by
 refine h _ ?_ bZ (by simp)
 have := OwI.lit w [y] (by show 1 ≤ maxLen; decide)
 simp at this
 exact this.rd
theorem qP_ {p : Nat} {m : Int} {t : Tb} {n : Nat} {ls : Li} : qAB p m t n ls = -1 ∨ (0 ≤ qAB p m t n ls ∧ qAB p m t n ls < m) := by
 unfold qAB
 rcases qEL m (laz n) (fun i => (atT (qA7 p m n ls) i (n - i) - atT (qA_ (n + 1) t) i (n - i)) % m) (n + 1) m.toNat with e | ⟨k, hk, e, _⟩
 ·exact .inl e
 ·exact .inr (by rw [e]; omega)
theorem qK7 {w : World} {y : Int} {P : World → Prop} (h : ∀ w', RdI w' (.slice (some ⟨w.heap.size, 0, none⟩) 1 1) [y] → Below w.heap.size w w' → w.heap.size < w'.heap.size → P w') : P (w.alloc (.cells #[.int .i64 y] 2)).drew := by
 refine h _ ?_ bZ (by simp)
 have := OwI.lit w [y] (by show 1 ≤ maxLen; decide)
 simp at this
 exact (this.drewN 1).rd
theorem qQG {p : Nat} {m : Int} {t : Tb} {k : Nat} {ls : Li} (h : qB0 p m t k = some ls) (ha : 0 ≤ qAB p m t (p ^ (k + 1)) ls) : qB0 p m t (k + 1) = some (ls ++ [qAB p m t (p ^ (k + 1)) ls]) := by
 unfold qB0; rw [h]; simp only; rw [if_pos ha]
theorem qKY {p : Nat} {m : Int} {t : Tb} {k : Nat} {ls : Li} (h : qB0 p m t k = some ls) (ha : ¬ 0 ≤ qAB p m t (p ^ (k + 1)) ls) : ∀ j, qB0 p m t (k + 1 + j) = none
 | 0 => by
   show qB0 p m t (k + 1) = none
   unfold qB0; rw [h]; simp only; rw [if_neg ha]
 | j + 1 => by
   show qB0 p m t (k + 1 + j + 1) = none
   unfold qB0; rw [qKY h ha j]
theorem qEi (p n : Nat) (m : Int) (v : Value) (ls : Li) (w : World) (hv : RdI w v ls) (hp : P4 p) (n1 : 1 ≤ n) (hn : n ≤ 10) (hm : 2 ≤ m) (hm' : m ≤ 10000) (hl : ls.length ≤ 3) (hx : ∀ x ∈ ls, 0 ≤ x ∧ x < m) :
  Calls Tryz.prog 116 #[.int .i64 p, .int .i64 m, .int .i64 n, v] w fun e w' => ∃ v', e = .returned v' ∧ OwS w' w.heap.size v' (qA7 p m n ls) ∧ Below w.heap.size w w' := by
 have hp2 := hp.pos
 obtain ⟨-, k2, -, -⟩ := qBq hp hn (Nat.le_refl (qA4 p n))
 have hW2 : 2 ≤ m * ((p ^ qA4 p n : Nat) : Int) * p := by
  have hpw := (hp.pow9 (show qA4 p n ≤ 10 by omega)).1; have h1 := Int.mul_le_mul hm (show (1 : Int) ≤ ((p ^ qA4 p n : Nat) : Int) by omega) Oo Oo; have h2 := Int.mul_le_mul h1 (show (1 : Int) ≤ p by omega) Oo Oo; omega
 have h := qOG p n m v ls w hv hp n1 hn hm hm' hl (fun x hx' => ⟨(hx x hx').1, by have := (hx x hx').2; omega⟩) _ rfl _ rfl _ rfl
 rw [qQs hp n1 hn (m := m) (v := at0 (ls ++ List.replicate (3 - ls.length) (0 : Int))) Oo rfl hW2 (fun i hi => by rw [qBN Oo, qAW])] at h
 exact h
theorem qNK (v u : Value) (xss yss : Tb) (w : World) (hv : RdT w v xss) (hu : RdT w u yss) :
  Calls Tryz.prog 140 #[v, u] w fun e w' => e = .returned (.bool (qC3 xss yss)) ∧ Below w.heap.size w w' :=
 (qNn v u xss yss w hv hu).mono fun e w' ⟨h1, d, h2⟩ => ⟨h1, bV h2⟩

theorem qI4 (p D : Nat) (m : Int) (v : Value) (t : Tb) (w : World) (hv : RdT w v t) (hp : P4 p) (hD1 : 1 ≤ D) (hD : D ≤ 10) (hm : 2 ≤ m) (hm' : m ≤ 10000) (ht : PlaT m (D + 1) t) :
  Calls Tryz.prog 69 #[.int .i64 p, .agg #[.int .i64 m, v]] w fun e w' => ∃ v', e = .returned (.tuple #[v', .bool (qCv p m t D).isSome]) ∧ (∀ ls, qCv p m t D = some ls → OwI w' w.heap.size v' ls) ∧ Below w.heap.size w w' := by
 obtain ⟨o, c, rfl, hmx, -⟩ := id hv
 rw [ht.1] at hmx ⊢
 have hv' : RdT w (.slice o (D + 1) c) t := by rw [ht.1] at hv; exact hv
 have HT := dd ht
 have hp2 := hp.pos
 clear hv ht
 obtain ⟨M, hM⟩ : ∃ M, M = qA4 p D := ⟨_, rfl⟩
 have HM := dd hM
 have hM3 : M ≤ 3 := by rw [hM]; exact qEb hp hD
 clear hM
 go_enter Tryz.func69, Tryz.ntmps69
 go_wp2_with fail
 (obtain ⟨w0, hw0⟩ : ∃ W : World, W = (w.alloc (.cells #[.int .i64 m, .slice o (D + 1) c] 26)) := ⟨_, rfl⟩; have X0 := (RB2.mk1 w  (.int .i64 m) (.slice o (D + 1) c) 26).1.below (w' := w0) (bV hw0) (nl _); have B0 : Below w.heap.size w w0 := (bV hw0); have hv'0 := hv'.below (w' := w0) (bV hw0) (nl _); rw [← hw0]; clear hw0)
 refine (qOH m o (D + 1) c _ hmx.1).mono ?_
 rintro e w1 ⟨rfl, hb⟩
 (have X1 := X0.below hb; have hv'1 := hv'0.below hb; have B1 := B0.trans (hb.mono B0.size))
 clear hb
 go_wp2_with fail
 refine (qLV p D _ hp hD).mono ?_
 rintro e w2 ⟨rfl, rfl⟩
 rw [← HM.out]
 go_wp2_with fail
 have O2 := OwI.lit w1 [] (by decide)
 simp at O2
 have hbA : Below w1.heap.size w1 (w1.alloc (.cells #[] 2)) := bZ
 generalize w1.alloc (.cells #[] 2) = w2 at O2 hbA ⊢
 have B1s := B1.size
 have X1l := X1.lt
 go_loopw [9, 10, 11] (fun s pw i wr => ∃ (q : Nat) (ls : Li), q ≤ M ∧ pw = .int .i64 ((p ^ q : Nat) : Int) ∧ i = .int .i64 ((q : Int) + 1) ∧ ls.length = q ∧ Hid (qB0 p m t q = some ls) ∧ (∀ x ∈ ls, 0 ≤ x ∧ x < m) ∧ OwI wr w1.heap.size s ls ∧ Below w1.heap.size w1 wr) (fun _ _ i _ => M + 1 - (intOf i).toNat)
 case atStart => exact ⟨0, [], Nat.zero_le _, by simp, rfl, rfl, dd rfl, by simp, O2, hbA⟩
 case round =>
  clear O2 hbA; obtain ⟨q, ls, hq, rfl, rfl, hlq, HK, hlr, hO, hB⟩ := hrel; obtain ⟨ov, cv, rfl⟩ := hO.shapeN (n := q) hlq; have Xw := X1.below hB; have hvw := hv'1.below hB; have Bw := B1.trans (hB.mono B1s); have hBs := hB.size; obtain ⟨x0, x1⟩ := id Xw
  by_cases hlt : q < M
  ·have i1 : (q : Int) + 1 ≤ (M : Int) := Oo; have hkn : p ^ (q + 1) ≤ D := (qBq hp hD (show q ≤ qA4 p D by rw [← HM.out]; omega)).2.2.1.2 (by rw [← HM.out]; exact hlt); have hgt := qCG hp2.1 (q + 1); have hpp : p ^ q * p = p ^ (q + 1) := (Nat.pow_succ ..).symm
   have e1 : IntKind.i64.wrap (((p ^ q : Nat) : Int) * (p : Int)) = ((p ^ (q + 1) : Nat) : Int) := by
    have h : ((p ^ q : Nat) : Int) * (p : Int) = ((p ^ q * p : Nat) : Int) := by simp
    rw [h, hpp]; exact IntWalk.i64_in _ Oo
   have HN : Hid (∃ n, n = p ^ (q + 1)) := dd ⟨_, rfl⟩; obtain ⟨n, hn⟩ := HN.out; rw [← hn] at hkn hgt e1; have hRk := HK.out
   have HKs : Hid (0 ≤ qAB p m t n ls → qB0 p m t (q + 1) = some (ls ++ [qAB p m t n ls])) := dd (fun ha => by
    rw [hn] at ha ⊢; exact qQG hRk ha)
   have HKf : Hid (¬ 0 ≤ qAB p m t n ls → qCv p m t D = none) := dd (fun ha => by
    unfold qCv; have := qKY hRk (by rw [hn] at ha; exact ha) (M - (q + 1)); rw [show q + 1 + (M - (q + 1)) = M by omega, HM.out] at this; rw [this])
   have HNn := dd hn; clear hn HN hRk hpp; generalize p ^ q = P0 at e1 ⊢; have hOr := hO.rd; have x0l : w.heap.size < wr.heap.size := Xw.lt
   go_wp2_with fail
   have hpadl : (ls ++ [(0 : Int)]).length ≤ 3 := by simp; omega
   have hpadr : ∀ x ∈ ls ++ [(0 : Int)], 0 ≤ x ∧ x < m := by
    intro x hx; rcases List.mem_append.1 hx with h | h
    ·exact hlr x h
    ·rw [List.mem_singleton.1 h]; omega
   have HLn := dd (show (ls ++ [(0 : Int)]).length = q + 1 by simp; omega)
   go_cut [12] from 31 to 39 (fun s u => ∃ (wz : World) (oc : Option Addr) (cc : Nat), wz = u ∧ s = .slice oc (n + 1) cc ∧ RdT u (.slice oc (n + 1) cc) (qA7 p m n ls) ∧ Below wr.heap.size wr u)
   case first =>
    have hd0 : Below wr.heap.size wr wr.drew := (Below.refl _ _).drew; refine qAv (S := fun w' => w'.cell? ⟨w.heap.size, 0, none⟩ = some (.int .i64 m)) [8, 9] kr ?_; refine wKq (by go_keep) fun hHeld => ?_
    refine' tJ 0 hHeld ?_; refine' tJ 1 hHeld ?_; refine' tJ 2 hHeld ?_; refine' tJ 3 hHeld ?_; refine' tJ 4 hHeld ?_; refine qDU (i := 5) (j := 6) rfl rfl kr (fun K hK => ?_) (fun K hK => ?_)
    ·skip
     go_simp
     go_at_call 139
     refine (qIA _ ls _ (hOr.below bZ (nl _)) Oo).mono ?_; rintro e wo ⟨go, co, rfl, hoo, hbo⟩; rw [hlq] at hoo ⊢; have hdo : Below wr.heap.size wr wo := (bY1 hbo); have hso := hbo.size
     (try simp at hso)
     have hxo := qA0 hdo (nl _) x0
     go_wp2_with fail
     clear hHeld; refine oKq hK (by go_keep) fun hHeld => ?_
     clear hK K
     try simp only [Act.put, sL]
     refine qA1 (i := 6) rfl kr (fun K hK => ?_); go_simp
     (try go_wp2_with fail)
     (first | refine qKo ?_ | refine qK7 ?_)
     intro wl hrl hbl hsl
     (try simp at hsl)
     have hdl : Below wr.heap.size wr wl := (bY2 hbo hbl); have hxl := qA0 hdl (nl _) x0; clear hHeld; refine oKq hK (by go_keep) fun hHeld => ?_
     clear hK K
     try simp only [Act.put, sL]
     refine qA1 (i := 7) rfl kr (fun K hK => ?_); refine stR _ rfl _ _ rfl wr.heap.size (.slice (some ⟨go, 0, none⟩) q co) ls rfl ((hoo.below (bY2 hbo hbl)).mono sz) ⟨_, 0, none⟩ 1 1 [0] rfl (hrl.below (bY2 hbo hbl) (nl _)) (by simp; omega) (by first | omega | (simp; omega)) ?_; intro o7 c7 w7 how7 hgr7 hb7; rw [HLn.out] at how7 ⊢; have hd7 : Below wr.heap.size wr w7 := (bY3 hbo hbl hb7); have hx7 := qA0 hd7 (nl _) x0; clear hHeld; refine oKq hK (by go_keep) fun hHeld => ?_
     clear hK K
     try simp only [Act.put, sL]
     refine qA1 (i := 8) rfl kr (fun K hK => ?_); go_simp
     go_at_call 116
     refine (qEi p n m _ (ls ++ [0]) _ how7.rd hp Oo Oo hm hm' hpadl hpadr).mono ?_; rintro e w8 ⟨v8, rfl, how8, hb8⟩
     go_wp2_with fail
     refine hK.out _ _ (nD ·) ?_; clear hK K
     try simp only [Act.put, sL]
     refine qA1 (i := 9) rfl kr (fun K hK => ?_); go_simp
     (try go_wp2_with fail)
     refine hK.out _ _ (nD ·) ?_; clear hK K
     try simp only [Act.put, sL]
     refine qAT kr ?_ _
     go_wp2_with fail
     go_meet
     rw [show ls ++ [(0 : Int)] = ls ++ List.replicate 1 0 from rfl, qIN] at how8; obtain ⟨oc, cc, rfl⟩ := how8.shapeN (n := n + 1) (by rw [qBD]; exact qA9 _ _); exact ⟨_, oc, cc, rfl, rfl, how8.rd, hd7.trans (hb8.mono hd7.size)⟩
    ·skip
     go_simp
     (try go_wp2_with fail)
     (first | refine qKo ?_ | refine qK7 ?_)
     intro wl hrl hbl hsl
     (try simp at hsl)
     have hdl : Below wr.heap.size wr wl := (bY1 hbl); have hxl := qA0 hdl (nl _) x0; clear hHeld; refine oKq hK (by go_keep) fun hHeld => ?_
     clear hK K
     try simp only [Act.put, sL]
     refine qA1 (i := 5) rfl kr (fun K hK => ?_); go_simp
     go_at_call 139
     refine (qIA _ ls _ (hOr.below (bY1 hbl) (nl _)) Oo).mono ?_; rintro e wo ⟨go, co, rfl, hoo, hbo⟩; rw [hlq] at hoo ⊢; have hdo : Below wr.heap.size wr wo := (bY2 hbl hbo); have hso := hbo.size
     (try simp at hso)
     have hxo := qA0 hdo (nl _) x0
     go_wp2_with fail
     clear hHeld; refine oKq hK (by go_keep) fun hHeld => ?_
     clear hK K
     try simp only [Act.put, sL]
     refine qA1 (i := 7) rfl kr (fun K hK => ?_); refine stR _ rfl _ _ rfl wr.heap.size (.slice (some ⟨go, 0, none⟩) q co) ls rfl ((hoo.below (bY2 hbl hbo)).mono sz) ⟨_, 0, none⟩ 1 1 [0] rfl (hrl.below (bY2 hbl hbo) (nl _)) (by simp; omega) (by first | omega | (simp; omega)) ?_; intro o7 c7 w7 how7 hgr7 hb7; rw [HLn.out] at how7 ⊢; have hd7 : Below wr.heap.size wr w7 := (bY3 hbl hbo hb7); have hx7 := qA0 hd7 (nl _) x0; clear hHeld; refine oKq hK (by go_keep) fun hHeld => ?_
     clear hK K
     try simp only [Act.put, sL]
     refine qA1 (i := 8) rfl kr (fun K hK => ?_); go_simp
     go_at_call 116
     refine (qEi p n m _ (ls ++ [0]) _ how7.rd hp Oo Oo hm hm' hpadl hpadr).mono ?_; rintro e w8 ⟨v8, rfl, how8, hb8⟩
     go_wp2_with fail
     refine hK.out _ _ (nD ·) ?_; clear hK K
     try simp only [Act.put, sL]
     refine qA1 (i := 9) rfl kr (fun K hK => ?_); go_simp
     (try go_wp2_with fail)
     refine hK.out _ _ (nD ·) ?_; clear hK K
     try simp only [Act.put, sL]
     refine qAT kr ?_ _
     go_wp2_with fail
     go_meet
     rw [show ls ++ [(0 : Int)] = ls ++ List.replicate 1 0 from rfl, qIN] at how8; obtain ⟨oc, cc, rfl⟩ := how8.shapeN (n := n + 1) (by rw [qBD]; exact qA9 _ _); exact ⟨_, oc, cc, rfl, rfl, how8.rd, hd7.trans (hb8.mono hd7.size)⟩
   case rest =>
   obtain ⟨w3, oc, cc, rfl, rfl, hT, hb3⟩ := hcut; have X3 := Xw.below hb3; have hv3 := hvw.below hb3; have hO3 := hO.below hb3; have B3 := hB.trans (hb3.mono hBs); have hb3s := hb3.size; obtain ⟨y0, y1⟩ := id X3; have HGP := dd (show PlaT m (n + 1) (qA_ (n + 1) t) from qF7 HT.out Oo); have HHP := dd (show PlaT m (n + 1) (qA7 p m n ls) from qDz Oo p n ls)
   have HF := dd (show qAR m (laz n) (fun i => atT (tri (n + 1) (fun i j => (atT (qA7 p m n ls) i j - atT (qA_ (n + 1) t) i j) % m)) i (n - i)) (n + 1) m.toNat = qAB p m t n ls from
    qG_ (fun i hi => by rw [qAi Oo]) _)
   have HSP := dd (show PlaT m (n + 1) (tri (n + 1) (fun i j => (atT (qA7 p m n ls) i j - atT (qA_ (n + 1) t) i j) % m)) from qB2 fun _ _ _ => qA6 Oo); clear x0 x1 x0l; have hdc : qAB p m t n ls = -1 ∨ (0 ≤ qAB p m t n ls ∧ qAB p m t n ls < m) := qP_; generalize qAB p m t n ls = y at HKs HKf HF hdc; have B3s := B3.size
   go_wp2_with fail
   have hd0 : Below w3.heap.size w3 w3.drew := (Below.refl _ _).drew; have hsd0 := hd0.size; have f0_a := qA0 hd0 (nl _) y0; have f0_b := qA0 hd0 (nl _) y1; refine qAv (S := fun w' => w'.cell? ⟨w.heap.size, 0, none⟩ = some (.int .i64 m) ∧ w'.cell? ⟨w.heap.size, 1, none⟩ = some (.slice o (D + 1) c)) [] kr ?_; refine wKq (by go_keep) fun hHeld => ?_
   refine' tJ 0 hHeld ?_; refine' tJ 1 hHeld ?_; refine' tJ 2 hHeld ?_; refine' tJ 3 hHeld ?_; refine' tJ 4 hHeld ?_; refine' tJ 5 hHeld ?_; refine' tJ 6 hHeld ?_; refine' tJ 8 hHeld ?_; refine qA1 (i := 7) rfl kr (fun K hK => ?_); go_simp
   go_at_call 119
   refine (qHf m (n : Int) (D + 1) (n + 1) _ t _ ((hv3).below bZ (nl _)) HT.out Oo Oo Oo Oo).mono ?_; rintro e wd1 ⟨va1, rfl, hod1, hbd1⟩; have hd1 : Below w3.heap.size w3 wd1 := (bY1 hbd1); have hsd1 := hd1.size; have hsz1_ := hbd1.size
   (try simp at hsz1_)
   have f1_a := qA0 hd1 (nl _) y0; have f1_b := qA0 hd1 (nl _) y1
   go_wp2_with fail
   clear hHeld; refine oKq hK (by go_keep) fun hHeld => ?_
   clear hK K
   try simp only [Act.put, sL]
   refine qA1 (i := 9) rfl kr (fun K hK => ?_); go_simp
   go_at_call 118
   refine (qJ4 m (n + 1) _ _ (qA_ (n + 1) t) (qA7 p m n ls) _ ((hod1.below bZ)).rd ((hT).below (bY1 hbd1) (nl _)) Oo hm hm' HGP.out HHP.out).mono ?_; rintro e wd2 ⟨vb2, rfl, hod2, hbd2⟩; have hd2 : Below w3.heap.size w3 wd2 := (bY2 hbd1 hbd2); have hsd2 := hd2.size; have hsz2_ := hbd2.size
   (try simp at hsz2_)
   have f2_a := qA0 hd2 (nl _) y0; have f2_b := qA0 hd2 (nl _) y1
   go_wp2_with fail
   clear hHeld; refine oKq hK (by go_keep) fun hHeld => ?_
   clear hK K
   try simp only [Act.put, sL]
   refine qA1 (i := 10) rfl kr (fun K hK => ?_); go_simp
   go_at_call 117
   refine (qJY m n _ (tri (n + 1) (fun i j => (atT (qA7 p m n ls) i j - atT (qA_ (n + 1) t) i j) % m)) _ ((hod2.below bZ)).rd HSP.out Oo Oo hm hm').mono ?_; rintro e wd3 ⟨rfl, hbd3⟩; rw [HF.out]; have hd3 : Below w3.heap.size w3 wd3 := (bY3 hbd1 hbd2 hbd3); have hsd3 := hd3.size; have hsz3_ := hbd3.size
   (try simp at hsz3_)
   have f3_a := qA0 hd3 (nl _) y0; have f3_b := qA0 hd3 (nl _) y1
   go_wp2_with fail
   clear hHeld; refine oKq hK (by go_keep) fun hHeld => ?_
   clear hK K
   try simp only [Act.put, sL]
   refine' tJ 11 hHeld ?_; refine qAT kr ?_ _; have hO9 := hO3.below hd3; have B9 := B3.trans (hd3.mono B3s); have hd3s := hd3.size; rcases hdc with hy | hy
   ·have i1 : y < 0 := Oo; have HR := dd (HKf.out Oo); have B10 := B1.trans (B9.mono B1s); go_wp2
    go_ret2
    rw [HR.out]; exact ⟨_, rfl, fun ls h => by simp at h, B10⟩
   ·have i1 : ¬ y < 0 := Oo; have HR := dd (HKs.out hy.1)
    go_wp2_with (at_builtin; go_loud (refine apI wd3 rfl _ _ rfl w1.heap.size (.slice ov q cv) _ rfl hO9 _ rfl Oo Oo ?_; intro v' w4 hO4 hgr hb4 hlt4; clear hgr))
    refine ⟨⟨q + 1, ls ++ [y], Oo, by rw [HNn.out], by go_num, by simp; omega, HR, ?_, hO4, B9.trans hb4⟩, by simp [intOf]; omega⟩; intro z hz; rcases List.mem_append.1 hz with h | h
    ·exact hlr z h
    ·rw [List.mem_singleton.1 h]; exact hy
  ·obtain rfl : q = M := Oo; have i1 : ¬ (q : Int) + 1 ≤ (q : Int) := Oo; have hOr := hO.rd
   have HPO := dd (show qCv p m t D = if qA7 p m D ls = t then some ls else none by
    unfold qCv; rw [← HM.out, HK.out])
   have HE := dd (show qC3 (qA7 p m D ls) t = (qCv p m t D).isSome by
    rw [HPO.out, qKV]
    by_cases h : qA7 p m D ls = t
    ·rw [if_pos h]; simp [h]
    ·rw [if_neg h]; simp [h])
   obtain ⟨b, hb⟩ : ∃ b, b = (qCv p m t D).isSome := ⟨_, rfl⟩; have HB := dd hb; rw [← hb] at HE; clear hb; have hll : ls.length ≤ 3 := Oo; have Bws := Bw.size; generalize p ^ q = P0 at *
   go_wp2_with fail
   have hd0 : Below wr.heap.size wr wr.drew := (Below.refl _ _).drew; have hsd0 := hd0.size; have f0_a := qA0 hd0 (nl _) x0; have f0_b := qA0 hd0 (nl _) x1; refine qAv (S := fun w' => w'.cell? ⟨w.heap.size, 0, none⟩ = some (.int .i64 m) ∧ w'.cell? ⟨w.heap.size, 1, none⟩ = some (.slice o (D + 1) c)) [] kr ?_; refine wKq (by go_keep) fun hHeld => ?_
   refine' tJ 0 hHeld ?_; refine' tJ 1 hHeld ?_; refine' tJ 2 hHeld ?_; refine' tJ 3 hHeld ?_; refine' tJ 4 hHeld ?_; refine' tJ 5 hHeld ?_; refine' tJ 7 hHeld ?_; refine' tJ 8 hHeld ?_; refine qA1 (i := 6) rfl kr (fun K hK => ?_); go_simp
   go_at_call 116
   refine (qEi p D m _ ls _ ((hOr).below bZ (nl _)) hp hD1 hD hm hm' hll hlr).mono ?_; rintro e wd1 ⟨va1, rfl, hod1, hbd1⟩; have hd1 : Below wr.heap.size wr wd1 := (bY1 hbd1); have hsd1 := hd1.size; have hsz1_ := hbd1.size
   (try simp at hsz1_)
   have f1_a := qA0 hd1 (nl _) x0; have f1_b := qA0 hd1 (nl _) x1
   go_wp2_with fail
   clear hHeld; refine oKq hK (by go_keep) fun hHeld => ?_
   clear hK K
   try simp only [Act.put, sL]
   refine qA1 (i := 9) rfl kr (fun K hK => ?_); go_simp
   go_at_call 140
   refine (qNK _ _ (qA7 p m D ls) t _ ((hod1.below bZ)).rd ((hvw).below (bY1 hbd1) (nl _))).mono ?_; rintro e wd2 ⟨rfl, hbd2⟩; rw [HE.out]; have hd2 : Below wr.heap.size wr wd2 := (bY2 hbd1 hbd2); have hsd2 := hd2.size; have hsz2_ := hbd2.size
   (try simp at hsz2_)
   have f2_a := qA0 hd2 (nl _) x0; have f2_b := qA0 hd2 (nl _) x1
   go_wp2_with fail
   clear hHeld; refine oKq hK (by go_keep) fun hHeld => ?_
   clear hK K
   try simp only [Act.put, sL]
   refine' tJ 10 hHeld ?_; refine' tJ 11 hHeld ?_; refine qAT kr ?_ _; have B9 := Bw.trans (hd2.mono Bws); have hO9 := hO.below hd2; go_wp2
   go_ret2
   refine ⟨.slice ov q cv, by rw [HB.out]; rfl, fun ls' h => ?_, B9⟩; rw [HPO.out] at h
   split at h
   ·rw [← Option.some.inj h]; exact hO9.mono Oo
   ·simp at h
end
section

def qAj (p m : Int) (t : Tb) : Int := if qBE m t = true then (if qBK p = true then 0 else 2) else 1
theorem qEX (p m : Int) (v : Value) (t : Tb) (w : World) (hv : RdT w v t) :
  Calls Tryz.prog 60 #[.int .i64 p, .agg #[.int .i64 m, v]] w fun e w' => e = .returned (.int .i64 (qAj p m t)) ∧ Below w.heap.size w w' := by
 obtain ⟨o, c, rfl, -, -⟩ := id hv
 unfold qAj
 cases h1 : qBE m t
 ·go_enter Tryz.func60, Tryz.ntmps60
  go_wp2_with fail
  (obtain ⟨w0, hw0⟩ : ∃ W : World, W = (w.alloc (.cells #[.int .i64 m, .slice o t.length c] 26)) := ⟨_, rfl⟩; have X0 := (RB2.mk1 w  (.int .i64 m) (.slice o t.length c) 26).1.below (w' := w0) (bV hw0) (nl _); have B0 : Below w.heap.size w w0 := (bV hw0); have hv0 := hv.below (w' := w0) (bV hw0) (nl _); rw [← hw0]; clear hw0)
  (obtain ⟨gqX0, gqX1⟩ := id X0; go_wp2_with fail; refine (qKz m _ t _ hv0).mono ?_; rw [h1]; rintro e w1 ⟨rfl, hb⟩; (have X1 := X0.below hb; have hv1 := hv0.below hb; have B1 := B0.trans (hb.mono B0.size)); clear gqX0 gqX1; clear hb)
  go_wp2; go_ret; exact ⟨rfl, B1⟩
 ·cases h2 : qBK p
  all_goals
   go_enter Tryz.func60, Tryz.ntmps60
   go_wp2_with fail
   (obtain ⟨w0, hw0⟩ : ∃ W : World, W = (w.alloc (.cells #[.int .i64 m, .slice o t.length c] 26)) := ⟨_, rfl⟩; have X0 := (RB2.mk1 w  (.int .i64 m) (.slice o t.length c) 26).1.below (w' := w0) (bV hw0) (nl _); have B0 : Below w.heap.size w w0 := (bV hw0); have hv0 := hv.below (w' := w0) (bV hw0) (nl _); rw [← hw0]; clear hw0)
   (obtain ⟨gqX0, gqX1⟩ := id X0; go_wp2_with fail; refine (qKz m _ t _ hv0).mono ?_; rw [h1]; rintro e w1 ⟨rfl, hb⟩; (have X1 := X0.below hb; have hv1 := hv0.below hb; have B1 := B0.trans (hb.mono B0.size)); clear gqX0 gqX1; clear hb)
   go_wp2_with (go_at_call 123; refine (qFW _ _).mono ?_; rw [h2]; rintro e w' ⟨rfl, rfl⟩)
   go_ret; exact ⟨rfl, B1⟩
theorem qEC (p m : Int) (v : Value) (t : Tb) (w : World) (hv : RdT w v t) :
  Calls Tryz.prog 68 #[.int .i64 p, .agg #[.int .i64 m, v]] w fun e w' => e = .returned (.int .i64 (qAj p m t)) ∧ Below w.heap.size w w' := by
 obtain ⟨o, c, rfl, -, -⟩ := id hv
 unfold qAj
 cases h1 : qBE m t
 ·go_enter Tryz.func68, Tryz.ntmps68
  go_wp2_with fail
  (obtain ⟨w0, hw0⟩ : ∃ W : World, W = (w.alloc (.cells #[.int .i64 m, .slice o t.length c] 26)) := ⟨_, rfl⟩; have X0 := (RB2.mk1 w  (.int .i64 m) (.slice o t.length c) 26).1.below (w' := w0) (bV hw0) (nl _); have B0 : Below w.heap.size w w0 := (bV hw0); have hv0 := hv.below (w' := w0) (bV hw0) (nl _); rw [← hw0]; clear hw0)
  (obtain ⟨gqX0, gqX1⟩ := id X0; go_wp2_with fail; refine (qKO m _ t _ hv0).mono ?_; rw [h1]; rintro e w1 ⟨rfl, hb⟩; (have X1 := X0.below hb; have hv1 := hv0.below hb; have B1 := B0.trans (hb.mono B0.size)); clear gqX0 gqX1; clear hb)
  go_wp2; go_ret; exact ⟨rfl, B1⟩
 ·cases h2 : qBK p
  all_goals
   go_enter Tryz.func68, Tryz.ntmps68
   go_wp2_with fail
   (obtain ⟨w0, hw0⟩ : ∃ W : World, W = (w.alloc (.cells #[.int .i64 m, .slice o t.length c] 26)) := ⟨_, rfl⟩; have X0 := (RB2.mk1 w  (.int .i64 m) (.slice o t.length c) 26).1.below (w' := w0) (bV hw0) (nl _); have B0 : Below w.heap.size w w0 := (bV hw0); have hv0 := hv.below (w' := w0) (bV hw0) (nl _); rw [← hw0]; clear hw0)
   (obtain ⟨gqX0, gqX1⟩ := id X0; go_wp2_with fail; refine (qKO m _ t _ hv0).mono ?_; rw [h1]; rintro e w1 ⟨rfl, hb⟩; (have X1 := X0.below hb; have hv1 := hv0.below hb; have B1 := B0.trans (hb.mono B0.size)); clear gqX0 gqX1; clear hb)
   go_wp2_with (go_at_call 103; refine (qDx _ _).mono ?_; rw [h2]; rintro e w' ⟨rfl, rfl⟩)
   go_ret; exact ⟨rfl, B1⟩
theorem qH9 {p m : Int} {t : Tb} (h : qAj p m t = 0) : qBE m t = true ∧ qBK p = true := by
 unfold qAj at h
 split at h
 ·split at h
  ·exact ⟨by assumption, by assumption⟩
  ·omega
 ·omega
structure BR where
 val : Bool
 code : Int
def BEnd (w w' : World) (r : BR) (e : Ending) : Prop := e = .returned (.tuple #[.bool r.val, .int .i64 r.code]) ∧ Below w.heap.size w w'
def qC6 (p m : Int) (t : Tb) : Option Li := qBr p.toNat m t (t.length - 1)
def qCV (p m : Int) (t : Tb) : LR := if qAj p m t = 0 then (match qC6 p m t with | some ls => ⟨ls, 0⟩ | none => ⟨[], 4⟩) else ⟨[], qAj p m t⟩
def qCA (p m : Int) (t : Tb) : BR := if qAj p m t = 0 then ⟨(qC6 p m t).isSome, 0⟩ else ⟨false, qAj p m t⟩
theorem qCe {p m : Int} {t : Tb} (h : qAj p m t = 0) : ∃ P D : Nat, p = P ∧ t.length = D + 1 ∧ P4 P ∧ 1 ≤ D ∧ D ≤ 10 ∧ 2 ≤ m ∧ m ≤ 10000 ∧ PlaT m (D + 1) t ∧ Lw m (D + 1) (atT t) ∧ qC6 p m t = qBr P m t D ∧ qC6 p m t = qCv P m t D := by
 obtain ⟨h1, h2⟩ := qH9 h
 have hn := qFq (qEu h1).1
 have hm := qFD (qEu h1).1
 obtain ⟨D, hD⟩ : ∃ D, t.length = D + 1 := ⟨t.length - 1, Oo⟩
 have HT : PlaT m t.length t := ⟨rfl, qF9 (qEu h1).1⟩
 rw [hD] at HT
 have L : Lw m (D + 1) (atT t) := lw_of Oo HT (by have := (qEu h1).2; rwa [hD] at this)
 have hp := qFn h2
 obtain ⟨P, rfl⟩ : ∃ P : Nat, p = P := ⟨p.toNat, Oo⟩
 have hP : P4 P := by unfold P4; omega
 have e : qC6 (P : Int) m t = qBr P m t D := by unfold qC6; rw [hD]; rfl
 exact ⟨P, D, rfl, hD, hP, Oo, Oo, hm.1, hm.2, HT, L, e, by rw [e, par_eq hP hm.1 Oo Oo L]⟩
theorem qJ1 {p D : Nat} {m : Int} {t : Tb} {ls : Li} (hp : P4 p) (hD : D ≤ 10) (h : qBr p m t D = some ls) : ls.length ≤ 3 := by
 unfold qBr at h
 cases e : qB5 p m t (qA4 p D) with
 | none => rw [e] at h; simp at h
 | some l =>
   rw [e] at h; simp only at h
   split at h
   ·rw [← Option.some.inj h, qKQ e]; exact qEb hp hD
   ·simp at h

theorem qMD (p m : Int) (v : Value) (t : Tb) (w : World) (hv : RdT w v t) :
  Calls Tryz.prog 31 #[.int .i64 p, .agg #[.int .i64 m, v]] w fun e w' => LEnd w w' (qCV p m t) e := by
 obtain ⟨o, c, rfl, -, -⟩ := id hv
 by_cases h0 : qAj p m t = 0
 ·obtain ⟨P, D, rfl, hl, hP, hD1, hD, hm, hm', HT, L, e1, e2⟩ := qCe h0; have HC := dd h0; have HTh := dd HT; have HLh := dd L; have hR : qCV P m t = match qC6 P m t with | some ls => ⟨ls, 0⟩ | none => ⟨[], 4⟩ := by unfold qCV; rw [if_pos h0]
  rw [hl]; have hv' : RdT w (.slice o (D + 1) c) t := by rw [hl] at hv; exact hv
  have HQ := dd e1; have HOl := dd e1; clear h0 hv HT L e1 e2; cases ho : qC6 P m t with
  | none =>
    rw [ho] at hR; rw [ho] at HQ; have HR := dd hR; clear hR ho HOl
    go_enter Tryz.func31, Tryz.ntmps31
    go_wp2_with fail
    (obtain ⟨w0, hw0⟩ : ∃ W : World, W = (w.alloc (.cells #[.int .i64 m, .slice o (D + 1) c] 26)) := ⟨_, rfl⟩; have X0 := (RB2.mk1 w  (.int .i64 m) (.slice o (D + 1) c) 26).1.below (w' := w0) (bV hw0) (nl _); have B0 : Below w.heap.size w w0 := (bV hw0); have hv'0 := hv'.below (w' := w0) (bV hw0) (nl _); rw [← hw0]; clear hw0)
    (obtain ⟨gqX0, gqX1⟩ := id X0; go_wp2_with fail; refine (qEX P m _ t _ hv'0).mono ?_; rw [HC.out]; rintro e w1 ⟨rfl, hb⟩; (have X1 := X0.below hb; have hv'1 := hv'0.below hb; have B1 := B0.trans (hb.mono B0.size)); clear gqX0 gqX1; clear hb)
    obtain ⟨x0, x1⟩ := id X1
    go_wp2_with fail
    refine (qGz P D m _ t _ hv'1 hP hD1 hD hm hm' HTh.out HLh.out).mono ?_; rintro e w2 ⟨v2, rfl, -, hb2⟩; rw [← HQ.out]; have B2 := B1.trans (hb2.mono B1.size); go_wp2
    go_ret2
    rw [HR.out]; exact ⟨_, rfl, OwI.nil _ _, B2, by simp⟩
  | some ls =>
    have hll : ls.length ≤ 1048576 := by
     have := qJ1 hP hD (HOl.out.symm.trans ho); omega
    rw [ho] at hR; rw [ho] at HQ; have HR := dd hR; clear hR ho HOl
    go_enter Tryz.func31, Tryz.ntmps31
    go_wp2_with fail
    (obtain ⟨w0, hw0⟩ : ∃ W : World, W = (w.alloc (.cells #[.int .i64 m, .slice o (D + 1) c] 26)) := ⟨_, rfl⟩; have X0 := (RB2.mk1 w  (.int .i64 m) (.slice o (D + 1) c) 26).1.below (w' := w0) (bV hw0) (nl _); have B0 : Below w.heap.size w w0 := (bV hw0); have hv'0 := hv'.below (w' := w0) (bV hw0) (nl _); rw [← hw0]; clear hw0)
    (obtain ⟨gqX0, gqX1⟩ := id X0; go_wp2_with fail; refine (qEX P m _ t _ hv'0).mono ?_; rw [HC.out]; rintro e w1 ⟨rfl, hb⟩; (have X1 := X0.below hb; have hv'1 := hv'0.below hb; have B1 := B0.trans (hb.mono B0.size)); clear gqX0 gqX1; clear hb)
    obtain ⟨x0, x1⟩ := id X1
    go_wp2_with fail
    refine (qGz P D m _ t _ hv'1 hP hD1 hD hm hm' HTh.out HLh.out).mono ?_; rintro e w2 ⟨v2, rfl, how, hb2⟩; have how2 := how ls HQ.out.symm; rw [← HQ.out]; have B1s := B1.size; have B2 := B1.trans (hb2.mono B1s); clear how; go_wp2
    go_ret2
    rw [HR.out]; exact ⟨_, rfl, how2.mono B1s, B2, hll⟩
 ·have hR : qCV p m t = ⟨[], qAj p m t⟩ := by unfold qCV; rw [if_neg h0]
  have HR := dd hR; obtain ⟨cc, hcc⟩ : ∃ cc, cc = qAj p m t := ⟨_, rfl⟩; rw [← hcc] at h0 HR; have HC := dd hcc; clear hcc hR; have hne : (cc != 0) = true := by simpa using h0
  have hne' : (cc == 0) = false := by simpa using h0
  go_enter Tryz.func31, Tryz.ntmps31
  go_wp2_with fail
  (obtain ⟨w0, hw0⟩ : ∃ W : World, W = (w.alloc (.cells #[.int .i64 m, .slice o t.length c] 26)) := ⟨_, rfl⟩; have X0 := (RB2.mk1 w  (.int .i64 m) (.slice o t.length c) 26).1.below (w' := w0) (bV hw0) (nl _); have B0 : Below w.heap.size w w0 := (bV hw0); have hv0 := hv.below (w' := w0) (bV hw0) (nl _); rw [← hw0]; clear hw0)
  (obtain ⟨gqX0, gqX1⟩ := id X0; go_wp2_with fail; refine (qEX p m _ t _ hv0).mono ?_; rw [← HC.out]; rintro e w1 ⟨rfl, hb⟩; (have X1 := X0.below hb; have hv1 := hv0.below hb; have B1 := B0.trans (hb.mono B0.size)); clear gqX0 gqX1; clear hb)
  go_wp2
  go_ret2
  rw [HR.out]; exact ⟨_, rfl, OwI.nil _ _, B1, by simp⟩
theorem qQI (p m : Int) (v : Value) (t : Tb) (w : World) (hv : RdT w v t) :
  Calls Tryz.prog 32 #[.int .i64 p, .agg #[.int .i64 m, v]] w fun e w' => LEnd w w' (qCV p m t) e := by
 obtain ⟨o, c, rfl, -, -⟩ := id hv
 by_cases h0 : qAj p m t = 0
 ·obtain ⟨P, D, rfl, hl, hP, hD1, hD, hm, hm', HT, L, e1, e2⟩ := qCe h0; have HC := dd h0; have HTh := dd HT; have HLh := dd L; have hR : qCV P m t = match qC6 P m t with | some ls => ⟨ls, 0⟩ | none => ⟨[], 4⟩ := by unfold qCV; rw [if_pos h0]
  rw [hl]; have hv' : RdT w (.slice o (D + 1) c) t := by rw [hl] at hv; exact hv
  have HQ := dd e2; have HOl := dd e1; clear h0 hv HT L e1 e2; cases ho : qC6 P m t with
  | none =>
    rw [ho] at hR; rw [ho] at HQ; have HR := dd hR; clear hR ho HOl
    go_enter Tryz.func32, Tryz.ntmps32
    go_wp2_with fail
    (obtain ⟨w0, hw0⟩ : ∃ W : World, W = (w.alloc (.cells #[.int .i64 m, .slice o (D + 1) c] 26)) := ⟨_, rfl⟩; have X0 := (RB2.mk1 w  (.int .i64 m) (.slice o (D + 1) c) 26).1.below (w' := w0) (bV hw0) (nl _); have B0 : Below w.heap.size w w0 := (bV hw0); have hv'0 := hv'.below (w' := w0) (bV hw0) (nl _); rw [← hw0]; clear hw0)
    (obtain ⟨gqX0, gqX1⟩ := id X0; go_wp2_with fail; refine (qEC P m _ t _ hv'0).mono ?_; rw [HC.out]; rintro e w1 ⟨rfl, hb⟩; (have X1 := X0.below hb; have hv'1 := hv'0.below hb; have B1 := B0.trans (hb.mono B0.size)); clear gqX0 gqX1; clear hb)
    obtain ⟨x0, x1⟩ := id X1
    go_wp2_with fail
    refine (qI4 P D m _ t _ hv'1 hP hD1 hD hm hm' HTh.out).mono ?_; rintro e w2 ⟨v2, rfl, -, hb2⟩; rw [← HQ.out]; have B2 := B1.trans (hb2.mono B1.size); go_wp2
    go_ret2
    rw [HR.out]; exact ⟨_, rfl, OwI.nil _ _, B2, by simp⟩
  | some ls =>
    have hll : ls.length ≤ 1048576 := by
     have := qJ1 hP hD (HOl.out.symm.trans ho); omega
    rw [ho] at hR; rw [ho] at HQ; have HR := dd hR; clear hR ho HOl
    go_enter Tryz.func32, Tryz.ntmps32
    go_wp2_with fail
    (obtain ⟨w0, hw0⟩ : ∃ W : World, W = (w.alloc (.cells #[.int .i64 m, .slice o (D + 1) c] 26)) := ⟨_, rfl⟩; have X0 := (RB2.mk1 w  (.int .i64 m) (.slice o (D + 1) c) 26).1.below (w' := w0) (bV hw0) (nl _); have B0 : Below w.heap.size w w0 := (bV hw0); have hv'0 := hv'.below (w' := w0) (bV hw0) (nl _); rw [← hw0]; clear hw0)
    (obtain ⟨gqX0, gqX1⟩ := id X0; go_wp2_with fail; refine (qEC P m _ t _ hv'0).mono ?_; rw [HC.out]; rintro e w1 ⟨rfl, hb⟩; (have X1 := X0.below hb; have hv'1 := hv'0.below hb; have B1 := B0.trans (hb.mono B0.size)); clear gqX0 gqX1; clear hb)
    obtain ⟨x0, x1⟩ := id X1
    go_wp2_with fail
    refine (qI4 P D m _ t _ hv'1 hP hD1 hD hm hm' HTh.out).mono ?_; rintro e w2 ⟨v2, rfl, how, hb2⟩; have how2 := how ls HQ.out.symm; rw [← HQ.out]; have B1s := B1.size; have B2 := B1.trans (hb2.mono B1s); clear how; go_wp2
    go_ret2
    rw [HR.out]; exact ⟨_, rfl, how2.mono B1s, B2, hll⟩
 ·have hR : qCV p m t = ⟨[], qAj p m t⟩ := by unfold qCV; rw [if_neg h0]
  have HR := dd hR; obtain ⟨cc, hcc⟩ : ∃ cc, cc = qAj p m t := ⟨_, rfl⟩; rw [← hcc] at h0 HR; have HC := dd hcc; clear hcc hR; have hne : (cc != 0) = true := by simpa using h0
  have hne' : (cc == 0) = false := by simpa using h0
  go_enter Tryz.func32, Tryz.ntmps32
  go_wp2_with fail
  (obtain ⟨w0, hw0⟩ : ∃ W : World, W = (w.alloc (.cells #[.int .i64 m, .slice o t.length c] 26)) := ⟨_, rfl⟩; have X0 := (RB2.mk1 w  (.int .i64 m) (.slice o t.length c) 26).1.below (w' := w0) (bV hw0) (nl _); have B0 : Below w.heap.size w w0 := (bV hw0); have hv0 := hv.below (w' := w0) (bV hw0) (nl _); rw [← hw0]; clear hw0)
  (obtain ⟨gqX0, gqX1⟩ := id X0; go_wp2_with fail; refine (qEC p m _ t _ hv0).mono ?_; rw [← HC.out]; rintro e w1 ⟨rfl, hb⟩; (have X1 := X0.below hb; have hv1 := hv0.below hb; have B1 := B0.trans (hb.mono B0.size)); clear gqX0 gqX1; clear hb)
  go_wp2
  go_ret2
  rw [HR.out]; exact ⟨_, rfl, OwI.nil _ _, B1, by simp⟩
theorem qL_ (p m : Int) (v : Value) (t : Tb) (w : World) (hv : RdT w v t) :
  Calls Tryz.prog 27 #[.int .i64 p, .agg #[.int .i64 m, v]] w fun e w' => BEnd w w' (qCA p m t) e := by
 obtain ⟨o, c, rfl, -, -⟩ := id hv
 by_cases h0 : qAj p m t = 0
 ·obtain ⟨P, D, rfl, hl, hP, hD1, hD, hm, hm', HT, L, e1, e2⟩ := qCe h0; have HC := dd h0; have HTh := dd HT; have HLh := dd L; have HR := dd (show qCA P m t = ⟨(qC6 P m t).isSome, 0⟩ by unfold qCA; rw [if_pos h0]); rw [hl]; have hv' : RdT w (.slice o (D + 1) c) t := by rw [hl] at hv; exact hv
  have HQ := dd e1; clear h0 hv HT L e1 e2
  go_enter Tryz.func27, Tryz.ntmps27
  go_wp2_with fail
  (obtain ⟨w0, hw0⟩ : ∃ W : World, W = (w.alloc (.cells #[.int .i64 m, .slice o (D + 1) c] 26)) := ⟨_, rfl⟩; have X0 := (RB2.mk1 w  (.int .i64 m) (.slice o (D + 1) c) 26).1.below (w' := w0) (bV hw0) (nl _); have B0 : Below w.heap.size w w0 := (bV hw0); have hv'0 := hv'.below (w' := w0) (bV hw0) (nl _); rw [← hw0]; clear hw0)
  (obtain ⟨gqX0, gqX1⟩ := id X0; go_wp2_with fail; refine (qEX P m _ t _ hv'0).mono ?_; rw [HC.out]; rintro e w1 ⟨rfl, hb⟩; (have X1 := X0.below hb; have hv'1 := hv'0.below hb; have B1 := B0.trans (hb.mono B0.size)); clear gqX0 gqX1; clear hb)
  obtain ⟨x0, x1⟩ := id X1
  go_wp2_with fail
  refine (qGz P D m _ t _ hv'1 hP hD1 hD hm hm' HTh.out HLh.out).mono ?_; rintro e w2 ⟨v2, rfl, -, hb2⟩; rw [← HQ.out]; have B2 := B1.trans (hb2.mono B1.size); go_wp2
  go_ret2
  rw [HR.out]; exact ⟨rfl, B2⟩
 ·have HR := dd (show qCA p m t = ⟨false, qAj p m t⟩ by unfold qCA; rw [if_neg h0]); obtain ⟨cc, hcc⟩ : ∃ cc, cc = qAj p m t := ⟨_, rfl⟩; rw [← hcc] at h0 HR; have HC := dd hcc; clear hcc; have hne : (cc != 0) = true := by simpa using h0
  have hne' : (cc == 0) = false := by simpa using h0
  go_enter Tryz.func27, Tryz.ntmps27
  go_wp2_with fail
  (obtain ⟨w0, hw0⟩ : ∃ W : World, W = (w.alloc (.cells #[.int .i64 m, .slice o t.length c] 26)) := ⟨_, rfl⟩; have X0 := (RB2.mk1 w  (.int .i64 m) (.slice o t.length c) 26).1.below (w' := w0) (bV hw0) (nl _); have B0 : Below w.heap.size w w0 := (bV hw0); have hv0 := hv.below (w' := w0) (bV hw0) (nl _); rw [← hw0]; clear hw0)
  (obtain ⟨gqX0, gqX1⟩ := id X0; go_wp2_with fail; refine (qEX p m _ t _ hv0).mono ?_; rw [← HC.out]; rintro e w1 ⟨rfl, hb⟩; (have X1 := X0.below hb; have hv1 := hv0.below hb; have B1 := B0.trans (hb.mono B0.size)); clear gqX0 gqX1; clear hb)
  go_wp2
  go_ret2
  rw [HR.out]; exact ⟨rfl, B1⟩
theorem qOD (p m : Int) (v : Value) (t : Tb) (w : World) (hv : RdT w v t) :
  Calls Tryz.prog 33 #[.int .i64 p, .agg #[.int .i64 m, v]] w fun e w' => BEnd w w' (qCA p m t) e := by
 obtain ⟨o, c, rfl, -, -⟩ := id hv
 by_cases h0 : qAj p m t = 0
 ·obtain ⟨P, D, rfl, hl, hP, hD1, hD, hm, hm', HT, L, e1, e2⟩ := qCe h0; have HC := dd h0; have HTh := dd HT; have HLh := dd L; have HR := dd (show qCA P m t = ⟨(qC6 P m t).isSome, 0⟩ by unfold qCA; rw [if_pos h0]); rw [hl]; have hv' : RdT w (.slice o (D + 1) c) t := by rw [hl] at hv; exact hv
  have HQ := dd e2; clear h0 hv HT L e1 e2
  go_enter Tryz.func33, Tryz.ntmps33
  go_wp2_with fail
  (obtain ⟨w0, hw0⟩ : ∃ W : World, W = (w.alloc (.cells #[.int .i64 m, .slice o (D + 1) c] 26)) := ⟨_, rfl⟩; have X0 := (RB2.mk1 w  (.int .i64 m) (.slice o (D + 1) c) 26).1.below (w' := w0) (bV hw0) (nl _); have B0 : Below w.heap.size w w0 := (bV hw0); have hv'0 := hv'.below (w' := w0) (bV hw0) (nl _); rw [← hw0]; clear hw0)
  (obtain ⟨gqX0, gqX1⟩ := id X0; go_wp2_with fail; refine (qEC P m _ t _ hv'0).mono ?_; rw [HC.out]; rintro e w1 ⟨rfl, hb⟩; (have X1 := X0.below hb; have hv'1 := hv'0.below hb; have B1 := B0.trans (hb.mono B0.size)); clear gqX0 gqX1; clear hb)
  obtain ⟨x0, x1⟩ := id X1
  go_wp2_with fail
  refine (qI4 P D m _ t _ hv'1 hP hD1 hD hm hm' HTh.out).mono ?_; rintro e w2 ⟨v2, rfl, -, hb2⟩; rw [← HQ.out]; have B2 := B1.trans (hb2.mono B1.size); go_wp2
  go_ret2
  rw [HR.out]; exact ⟨rfl, B2⟩
 ·have HR := dd (show qCA p m t = ⟨false, qAj p m t⟩ by unfold qCA; rw [if_neg h0]); obtain ⟨cc, hcc⟩ : ∃ cc, cc = qAj p m t := ⟨_, rfl⟩; rw [← hcc] at h0 HR; have HC := dd hcc; clear hcc; have hne : (cc != 0) = true := by simpa using h0
  have hne' : (cc == 0) = false := by simpa using h0
  go_enter Tryz.func33, Tryz.ntmps33
  go_wp2_with fail
  (obtain ⟨w0, hw0⟩ : ∃ W : World, W = (w.alloc (.cells #[.int .i64 m, .slice o t.length c] 26)) := ⟨_, rfl⟩; have X0 := (RB2.mk1 w  (.int .i64 m) (.slice o t.length c) 26).1.below (w' := w0) (bV hw0) (nl _); have B0 : Below w.heap.size w w0 := (bV hw0); have hv0 := hv.below (w' := w0) (bV hw0) (nl _); rw [← hw0]; clear hw0)
  (obtain ⟨gqX0, gqX1⟩ := id X0; go_wp2_with fail; refine (qEC p m _ t _ hv0).mono ?_; rw [← HC.out]; rintro e w1 ⟨rfl, hb⟩; (have X1 := X0.below hb; have hv1 := hv0.below hb; have B1 := B0.trans (hb.mono B0.size)); clear gqX0 gqX1; clear hb)
  go_wp2
  go_ret2
  rw [HR.out]; exact ⟨rfl, B1⟩
end
end Go.Proofs.YtfpphfjlpgefaaaGreat
