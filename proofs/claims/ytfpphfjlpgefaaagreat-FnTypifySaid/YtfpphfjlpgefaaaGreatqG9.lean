/- Lemmas. -/
import Derived.Test.YtfpphfjlpgefaaaGreatqM22
set_option maxHeartbeats 2000000
set_option maxRecDepth 100000
set_option linter.unusedSimpArgs false
set_option linter.unusedVariables false
namespace Go.Proofs.YtfpphfjlpgefaaaGreat
open Go.RowKit
section

def qF5 (m : Int) (P : Nat) (f : Nat → Nat → Int) : Nat → Nat → Int := fun i j => if i = P ∧ j = 0 then (f i j - 1) % m else f i j
def qEw (m : Int) (P : Nat) (f : Nat → Nat → Int) : Nat → Nat → Int := fun i j => if i = 0 ∧ j = P then (f i j - 1) % m else f i j
def qCn (m : Int) (n P : Nat) (t : Tb) : Tb := if P < n then tri n (qEw m P (qF5 m P (atT t))) else t
theorem qOr {m : Int} (hm : 0 < m) {n P : Nat} {t : Tb} (ht : PlaT m n t) : PlaT m n (qCn m n P t) := by
 unfold qCn
 split
 ·refine qB2 fun i j h => ?_
  have h0 := qBT ht h; have a1 := qA6 (a := atT t i j - 1) hm; unfold qEw qF5
  split
  ·exact qA6 hm
  ·split
   ·exact a1
   ·exact h0
 ·exact ht
theorem qNZ {m : Int} {n P : Nat} (hPn : P < n) (hP1 : 1 ≤ P) {t : Tb} (ht : PlaT m n t) {rP r0 : Li} (hrP : t[P]? = some rP) (hr0 : t[0]? = some r0) :
  ((t.set P (rP.set 0 ((atT t P 0 - 1) % m))).set 0 (r0.set P ((atT t 0 P - 1) % m))) = qCn m n P t := by
 have e : t = tri n (atT t) := qEm ht.1 (fun i hi => by rw [(ht.2 i hi).1, ht.1])
 have eP : rP = mk (n - P) (atT t P) := by
  rw [e, qAp hPn] at hrP; exact (Option.some.inj hrP).symm
 have e0 : r0 = mk (n - 0) (atT t 0) := by
  rw [e, qAp Oo] at hr0; exact (Option.some.inj hr0).symm
 generalize atT t = f at e eP e0 ⊢
 have eg : r0 = mk (n - 0) ((fun a b => if a = P ∧ b = 0 then (f P 0 - 1) % m else f a b) 0) := by
  rw [e0]
  exact qAh fun j _ => by
   show _ = if 0 = P ∧ j = 0 then _ else _
   rw [if_neg Oo]
 rw [show qCn m n P t = tri n (qEw m P (qF5 m P f)) by unfold qCn; rw [if_pos hPn, e]; exact qAE fun i j h => by simp only [qEw, qF5, qAi h]]
 rw [e, eP, qBp Oo, eg, qBp Oo]
 refine qAE fun i j h => ?_
 simp only [qEw, qF5]
 by_cases h1 : i = 0 ∧ j = P
 ·obtain ⟨rfl, rfl⟩ := h1; rw [if_pos ⟨rfl, rfl⟩, if_pos ⟨rfl, rfl⟩, if_neg Oo]
 ·rw [if_neg h1, if_neg h1]
  by_cases h2 : i = P ∧ j = 0
  ·obtain ⟨rfl, rfl⟩ := h2; simp
  ·rw [if_neg h2, if_neg h2]
def qCE (m : Int) (n p M : Nat) (ns : Li) (t : Tb) : Nat → Tb
 | 0 => qAb n
 | k + 1 => qAr m n (qCE m n p M ns t k) (qAP m n ((p : Int) ^ (M - k) % m * at0 ns k % m) (qCn m n (p ^ k) (pwT m n t (p ^ k - 1))))
theorem qHc {m : Int} (hm : 2 ≤ m) (n p M : Nat) (ns : Li) (t : Tb) : ∀ k, PlaT m n (qCE m n p M ns t k)
 | 0 => qB2 fun _ _ _ => Oo
 | k + 1 => qAX Oo _ _ _
theorem qKt {ls : Li} {k : Nat} (h : k < ls.length) : at0 ls k ∈ ls := by
 rw [qDT h]; exact List.getElem_mem _

theorem qMp (p M n : Nat) (m : Int) (vn vt : Value) (ns : Li) (t : Tb) (w : World) (hvn : RdI w vn ns) (hvt : RdT w vt t) (hp : P4 p) (hM : M ≤ 3) (hpM : p ^ M ≤ 10) (hm : 2 ≤ m) (hm' : m ≤ 1000000) (hn1 : 1 ≤ n) (hn : n ≤ 11)
  (hnl : ns.length = 4) (hnr : ∀ x ∈ ns, 0 ≤ x ∧ x < m) (ht : PlaT m n t) :
  Calls Tryz.prog 170 #[.int .i64 p, .int .i64 m, .int .i64 M, vn, vt] w fun e w' => ∃ v', e = .returned v' ∧ OwS w' w.heap.size v' (qCE m n p M ns t (M + 1)) ∧ Below w.heap.size w w' := by
 obtain ⟨ot, ct, rfl, hmt, -⟩ := id hvt
 obtain ⟨on, cn, rfl, hmn, -⟩ := id hvn
 have hp2 := hp.pos
 have HT := dd ht
 have HL := dd hnl
 have htl := ht.1
 clear hmt hmn
 rw [htl] at hvt ⊢
 rw [hnl] at hvn ⊢
 clear ht htl hnl
 have hvt' : RdT w (.slice ot n ct) t := hvt
 have e0 : IntKind.i64.wrap ((n : Int) - 1) = ((n - 1 : Nat) : Int) := by rw [IntWalk.i64_in _ Oo]; omega
 go_enter Tryz.func170, Tryz.ntmps170
 go_wp2_with fail
 refine (qCL _ n _ Oo Oo).mono ?_
 rintro e w1 ⟨vz, rfl, how, B1⟩
 have hZ := how
 clear how
 go_wp2_with fail
 go_loopw [12, 13, 14, 15, 16, 17, 18] (fun so sP sk _ _ _ _ wr => ∃ k : Nat, k ≤ M + 1 ∧ sk = .int .i64 k ∧ sP = .int .i64 ((p ^ k : Nat) : Int) ∧ OwS wr w.heap.size so (qCE m n p M ns t k) ∧ Below w.heap.size w wr) (fun _ _ i _ _ _ _ _ => M + 1 - (intOf i).toNat)
 case atStart => exact ⟨0, Nat.zero_le _, rfl, rfl, hZ, B1⟩
 case round =>
  clear hZ B1; obtain ⟨k, hk, rfl, rfl, hO, hB⟩ := hrel
  by_cases hlt : k ≤ M
  ·have i1 : (k : Int) ≤ (M : Int) := Oo; have hv0 := hvt.below hB; have hu0 := hvn.below hB; obtain ⟨P, hP⟩ : ∃ P, P = p ^ k := ⟨_, rfl⟩; have hP1 : 1 ≤ P := by rw [hP]; exact Nat.pos_of_ne_zero (by simp; omega)
   have hP10 : P ≤ 10 := by rw [hP]; exact Nat.le_trans (Nat.pow_le_pow_right Oo hlt) hpM
   have eP : IntKind.i64.wrap ((P : Int) * (p : Int)) = ((p ^ (k + 1) : Nat) : Int) := by
    have h1 : P * p ≤ 10 * 7 := Nat.mul_le_mul hP10 hp2.2; have h2 : (P : Int) * (p : Int) = ((p ^ (k + 1) : Nat) : Int) := by rw [Nat.pow_succ, ← hP]; simp
    rw [h2, Nat.pow_succ, ← hP]; exact IntWalk.i64_in _ Oo
   have HS := dd (show qCE m n p M ns t (k + 1) = qAr m n (qCE m n p M ns t k) (qAP m n ((p : Int) ^ (M - k) % m * at0 ns k % m) (qCn m n P (pwT m n t (P - 1)))) by rw [hP]; rfl); have HRT := dd (qHc hm n p M ns t k); rw [← hP]; generalize qCE m n p M ns t k = R at hO HS HRT; have HPp := dd (qIt (show 0 < m by omega) HT.out (P - 1)); clear hP
   go_wp2_with fail
   refine (qNH m (P : Int) n (P - 1) _ t _ hv0 Oo Oo hn1 Oo hm Oo HT.out).mono ?_; rintro e w2 ⟨v2, rfl, hA, hb1⟩; clear hv0 hu0
   go_wp2_with fail
   refine (qLM m n _ (pwT m n t (P - 1)) _ hA HPp.out hn1 Oo).mono ?_; rintro e w3 ⟨v3, rfl, how, hb2⟩; have hbA := hb1.trans (hb2.mono hb1.size); clear hA; have hb2s := hb2.size; have hb1s := hb1.size; have hBs := hB.size; generalize hTT : pwT m n t (P - 1) = T at HPp how HS; clear hTT; obtain ⟨oT, cT, rfl⟩ := how.shapeN (n := n) HPp.out.1; have how := how.toR; obtain ⟨us, how⟩ := how.named; obtain ⟨gT, rfl, hg1, hg2⟩ := how.row hn1
   by_cases hPn : P < n
   ·have i2 : (P : Int) ≤ ((n - 1 : Nat) : Int) := Oo; have i3 : (P : Int) < (n : Int) := Oo; have i4 : (0 : Int) ≤ (P : Int) := Oo; have i5 : (0 : Int) < (n : Int) := Oo; obtain ⟨rP, hrP, hrPl, hrPj⟩ := HPp.out.row hPn; obtain ⟨r0, hr0, hr0l, hr0j⟩ := HPp.out.row (show 0 < n by omega); obtain ⟨oP, cP, huP, cxP, howP, hblP, hsetP⟩ := how.at hrP; obtain ⟨oQ, cQ, huQ, cxQ, howQ, hblQ, hsetQ⟩ := how.at hr0; rw [hrPl] at huP cxP howP hblP hsetP; rw [hr0l, Nat.sub_zero] at huQ cxQ howQ hblQ hsetQ; obtain ⟨gP, rfl, hgP1, hgP2⟩ := howP.row Oo; obtain ⟨gQ, rfl, hgQ1, hgQ2⟩ := howQ.row Oo; have hgP3 := hblP gP rfl; have hgQ3 := hblQ gQ rfl; have HSP := dd hsetP; have hP0 := howP.cell (k := 0) (hrPj 0 Oo); have hfP := howP.fz 0; have hq0 := howQ.cell (k := P) (hr0j P Oo)
    have hne : gQ ≠ gP := fun e => by
     have h := how.2.2.2.1 0 P _ _ gQ huQ huP rfl (by rw [e]; rfl); omega
    have hne' : gP ≠ gQ := fun e => hne e.symm
    have HownP := dd howP; have HuQ := dd huQ; have Hlen := dd (And.intro hrPl hr0l); have Hr0 := dd hr0; have HrQ := dd (hr0j P Oo); have rg1 := qBT HPp.out (show P + 0 < n by omega); have rg2 := qBT HPp.out (show 0 + P < n by omega); have mg1 := qA6 (a := atT T P 0 - 1) (show 0 < m by omega); have mg2 := qA6 (a := atT T 0 P - 1) (show 0 < m by omega); have HF := dd (show ((T.set P (rP.set 0 ((atT T P 0 - 1) % m))).set 0 (r0.set P ((atT T 0 P - 1) % m))) = qCn m n P T from qNZ hPn hP1 HPp.out hrP hr0); clear hsetP hsetQ howP howQ huP huQ hrPl hr0l hr0 hrP hrPj hr0j hblP hblQ; generalize atT T P 0 = x at hP0 rg1 mg1 HF; generalize atT T 0 P = y at HrQ rg2 mg2 HF hq0
    go_wp2_with fail
    go_quiet (fail)
    have e1 : IntKind.i64.wrap (x - 1) = x - 1 := IntWalk.i64_in _ Oo; have e2 : IntKind.i64.wrap (y - 1) = y - 1 := IntWalk.i64_in _ Oo; have i6 : ((0 : Nat) : Int) < ((n - P : Nat) : Int) := Oo; have i7 : (0 : Int) < ((n - P : Nat) : Int) := Oo
    go_wp2_with fail
    refine (qEg (x - 1) m _ Oo Oo Oo Oo).mono ?_; rintro e w5 ⟨rfl, rfl⟩
    go_wp2_with fail
    have hg0 := qAw (qE0 (World.grownBy.refl w3 (some gP)) nq) 0 (.int .i64 ((x - 1) % m)); have hOn := HSP.out _ _ (by rw [List.length_set, Hlen.out.1]) hg0 ((HownP.out.drewN nq).put 0 ((x - 1) % m)); have hCn := (Chg.refl w2.heap.size w3.heap.size w3).grown hg0 hgP3.1 hgP3.2.1; clear HSP HownP hg0 hP0 hfP hq0; generalize (w3.drewN nq).setCell ⟨gP, 0, none⟩ (.int .i64 ((x - 1) % m)) = w6 at hOn hCn ⊢; obtain ⟨o7, c7, hu7, cx7, how7, hbl7, hset7⟩ := hOn.at (k := 0) (row := r0) (by rw [List.getElem?_set_ne Oo]; exact Hr0.out); rw [Hlen.out.2, Nat.sub_zero] at hu7 cx7 how7 hbl7 hset7
    obtain ⟨rfl, rfl⟩ : o7 = some ⟨gQ, 0, none⟩ ∧ c7 = cQ := by
     have h := hu7.symm.trans HuQ.out; have h := Value.slice.inj (Option.some.inj h); exact ⟨h.1, h.2.2⟩
    have hQ0 := how7.cell (k := P) HrQ.out; have hfQ := how7.fz P; have HSQ := dd hset7; have HownQ := dd how7; clear hset7 how7 hbl7 cx7 hu7 HuQ; refine (qEg (y - 1) m _ Oo Oo Oo Oo).mono ?_; rintro e w7 ⟨rfl, rfl⟩
    go_wp2_with fail
    have hg1 := qAw (World.grownBy.refl w6 (some gQ)) P (.int .i64 ((y - 1) % m)); have hOm := HSQ.out _ _ (by rw [List.length_set, Hlen.out.2]; omega) hg1 (HownQ.out.put P ((y - 1) % m)); have hCm := hCn.grown hg1 hgQ3.1 hgQ3.2.1; rw [HF.out] at hOm; clear HSQ HownQ hg1 hQ0 hfQ hOn hCn; generalize w6.setCell ⟨gQ, P, none⟩ (.int .i64 ((y - 1) % m)) = W at hOm hCm ⊢; have hbW : Below wr.heap.size wr W := Chg.below hbA hCm hb1s Oo; have hTW := hOm.r.rd; have HTW := dd (qOr (show 0 < m by omega) (P := P) HPp.out); clear hOm hCm HF hbA; generalize qCn m n P T = T' at hTW HTW HS; have hvW := hvn.below (hB.trans (hbW.mono hBs)) (nl _); have hRW := hO.rd.below hbW; obtain ⟨bn, fn, rfl, -⟩ := hvW.cells (by rw [HL.out]; omega); have cn1 := hvW.cell0 (qA5 (show k < ns.length by rw [HL.out]; omega)); have rn := hnr _ (qKt (show k < ns.length by rw [HL.out]; omega)); generalize at0 ns k = z at cn1 rn HS; have k4 : (k : Int) < 4 := Oo; have k5 : (0 : Int) ≤ (k : Int) := Oo; have e5 : (M : Int) - (k : Int) = ((M - k : Nat) : Int) := Oo; have r3 := qA6 (a := (p : Int) ^ (M - k)) (show 0 < m by omega); have r4 := qCY (m := m) r3.1 rn.1 r3.2 rn.2 Oo; have r5 := qA6 (a := (p : Int) ^ (M - k) % m * z) (show 0 < m by omega); have e6 : IntKind.i64.wrap ((p : Int) ^ (M - k) % m * z) = (p : Int) ^ (M - k) % m * z := IntWalk.i64_in _ Oo; have t6 : ((p : Int) ^ (M - k) % m * z).tmod m = (p : Int) ^ (M - k) % m * z % m := Int.tmod_eq_emod_of_nonneg Oo; have m1 : ¬ m = 0 := Oo; have m0 : (m == 0) = false := by simp; omega
    have hNk := dd (show M - k ≤ 3 by omega); generalize M - k = q at e5 r3 r4 r5 e6 t6 HS hNk; refine (qEG m p ((M : Int) - (k : Int)) q _ e5 Oo Oo Oo Oo (by have := hNk.out; omega)).mono ?_; rintro e w8 ⟨rfl, rfl⟩; generalize (p : Int) ^ q % m = y9 at r3 r4 r5 e6 t6 HS; clear e5
    go_wp2_with fail
    refine (qGk m (y9 * z % m) _ _ _ hTW hm Oo r5.1 r5.2 (by rw [HTW.out.1]; omega) HTW.out.2).mono ?_; rintro e w9 ⟨v9, rfl, how9, hb9⟩; rw [HTW.out.1] at how9; have hR9 := hRW.below hb9
    go_wp2_with fail
    refine (qGh m _ _ R _ _ hR9 how9.rd hm Oo (by rw [HRT.out.1]; omega) (by rw [HRT.out.1]; exact qA9 _ _) HRT.out.2 (qB2 (m := m) (n := n) (fun _ _ _ => qA6 (show 0 < m by omega))).2).mono ?_; rintro e w10 ⟨v10, rfl, how10, hb10⟩; rw [HRT.out.1, ← HS.out] at how10; have hBW := hB.trans (hbW.mono hBs); have hB9 := hBW.trans (hb9.mono hBW.size); have hBX := hB9.trans (hb10.mono hB9.size); have hrd := how10.mono hB9.size; clear how10 how9
    go_wp2_with fail
    exact ⟨⟨k + 1, Oo, by go_num, by first | rfl | (rw [eP]; done), hrd, hBX⟩, by simp [intOf]; omega⟩
   ·have i2 : ¬ (P : Int) ≤ ((n - 1 : Nat) : Int) := Oo; have hTW := how.r.rd; rw [show qCn m n P T = T from if_neg hPn] at HS; have HTW := HPp; obtain ⟨W, rfl⟩ : ∃ W, W = w3 := ⟨_, rfl⟩; have hbW := hbA; clear how hbA; have hvW := hvn.below (hB.trans (hbW.mono hBs)) (nl _); have hRW := hO.rd.below hbW; obtain ⟨bn, fn, rfl, -⟩ := hvW.cells (by rw [HL.out]; omega); have cn1 := hvW.cell0 (qA5 (show k < ns.length by rw [HL.out]; omega)); have rn := hnr _ (qKt (show k < ns.length by rw [HL.out]; omega)); generalize at0 ns k = z at cn1 rn HS; have k4 : (k : Int) < 4 := Oo; have k5 : (0 : Int) ≤ (k : Int) := Oo; have e5 : IntKind.i64.wrap ((M : Int) - (k : Int)) = ((M - k : Nat) : Int) := by rw [IntWalk.i64_in _ Oo]; omega
    have r3 := qA6 (a := (p : Int) ^ (M - k)) (show 0 < m by omega); have r4 := qCY (m := m) r3.1 rn.1 r3.2 rn.2 Oo; have r5 := qA6 (a := (p : Int) ^ (M - k) % m * z) (show 0 < m by omega); have e6 : IntKind.i64.wrap ((p : Int) ^ (M - k) % m * z) = (p : Int) ^ (M - k) % m * z := IntWalk.i64_in _ Oo; have t6 : ((p : Int) ^ (M - k) % m * z).tmod m = (p : Int) ^ (M - k) % m * z % m := Int.tmod_eq_emod_of_nonneg Oo; have m1 : ¬ m = 0 := Oo; have m0 : (m == 0) = false := by simp; omega
    have hNk := dd (show M - k ≤ 3 by omega); generalize M - k = q at e5 r3 r4 r5 e6 t6 HS hNk
    go_wp2_with fail
    refine (qEG m p (q : Int) q _ rfl Oo Oo Oo Oo (by have := hNk.out; omega)).mono ?_; rintro e w8 ⟨rfl, rfl⟩; generalize (p : Int) ^ q % m = y9 at r3 r4 r5 e6 t6 HS; clear e5
    go_wp2_with fail
    refine (qGk m (y9 * z % m) _ _ _ hTW hm Oo r5.1 r5.2 (by rw [HTW.out.1]; omega) HTW.out.2).mono ?_; rintro e w9 ⟨v9, rfl, how9, hb9⟩; rw [HTW.out.1] at how9; have hR9 := hRW.below hb9
    go_wp2_with fail
    refine (qGh m _ _ R _ _ hR9 how9.rd hm Oo (by rw [HRT.out.1]; omega) (by rw [HRT.out.1]; exact qA9 _ _) HRT.out.2 (qB2 (m := m) (n := n) (fun _ _ _ => qA6 (show 0 < m by omega))).2).mono ?_; rintro e w10 ⟨v10, rfl, how10, hb10⟩; rw [HRT.out.1, ← HS.out] at how10; have hBW := hB.trans (hbW.mono hBs); have hB9 := hBW.trans (hb9.mono hBW.size); have hBX := hB9.trans (hb10.mono hB9.size); have hrd := how10.mono hB9.size; clear how10 how9
    go_wp2_with fail
    exact ⟨⟨k + 1, Oo, by go_num, by first | rfl | (rw [eP]; done), hrd, hBX⟩, by simp [intOf]; omega⟩
  ·obtain rfl : k = M + 1 := Oo; have i1 : ¬ (((M + 1 : Nat) : Int) ≤ (M : Int)) := Oo; go_wp2; go_ret; exact ⟨_, rfl, hO, hB⟩
end
section

theorem qPd (m : Int) (v : Value) (xs : Li) (w : World) (hv : RdI w v xs) (hm : 2 ≤ m) (hn : xs.length ≤ 1048576) (hx : ∀ x ∈ xs, 0 ≤ x ∧ x ≤ 9000000000000000000) :
  Calls Tryz.prog 172 #[.int .i64 m, v] w fun e w' => ∃ v', e = .returned v' ∧ OwI w' w.heap.size v' (xs.map (· % m)) ∧ Below w.heap.size w w' := by
 obtain ⟨o, c, rfl, hmx, hh⟩ := id hv
 clear hh
 have m1 : ¬ m = 0 := Oo
 have m0 : (m == 0) = false := by simp; omega
 go_enter Tryz.func172, Tryz.ntmps172
 go_wp2
 have O1 := OwI.lit w [] (by decide)
 have B1 : Below w.heap.size w (w.alloc (.cells #[] 2)) := bZ
 simp at O1
 generalize w.alloc (.cells #[] 2) = w1 at O1 B1 ⊢
 go_loopw [5, 6] (fun s i wr => ∃ n : Nat, n ≤ xs.length ∧ i = .int .i64 n ∧ OwI wr w.heap.size s ((xs.take n).map (· % m)) ∧ Below w.heap.size w wr) (fun _ i _ => xs.length - (intOf i).toNat)
 case atStart => exact ⟨0, Nat.zero_le _, rfl, by simpa using O1, B1⟩
 case round =>
  obtain ⟨n, hn', rfl, hO, hB⟩ := hrel; obtain ⟨ov, cv, rfl⟩ := hO.shapeN (n := n) (by simp; omega)
  by_cases hlt : n < xs.length
  ·have hvr := hv.below hB; obtain ⟨o', c', heq, -, hc⟩ := hvr; obtain ⟨rfl, rfl⟩ : o = o' ∧ c = c' := by simpa using heq
   obtain ⟨b, off, rfl, hxc⟩ := hc n (xs[n]) (by simp [hlt]); clear hc heq; have hxn := hx xs[n] (List.getElem_mem _); have hBs := hB.size; have t1 : xs[n].tmod m = xs[n] % m := Int.tmod_eq_emod_of_nonneg hxn.1
   go_wp2_with (at_builtin; refine apI wr rfl _ _ rfl w.heap.size (.slice ov n cv) _ rfl hO _ rfl (by simp; omega) Oo ?_; intro v' w4 hO3 hgr hb3 hlt3; clear hgr)
   have hT : (xs.take n).map (· % m) ++ [xs[n] % m] = (xs.take (n + 1)).map (· % m) := by rw [List.take_succ_eq_append_getElem hlt, List.map_append]; rfl
   rw [hT] at hO3; exact ⟨⟨n + 1, Oo, by go_num, hO3, hB.trans hb3⟩, by simp [intOf]; omega⟩
  ·obtain rfl : n = xs.length := Oo; rw [List.take_length] at hO; go_wp2; go_ret; exact ⟨_, rfl, hO, hB⟩
end
section

def lwF (W : Int) (n p M : Nat) (ns : Li) : Nat → Nat → Nat → Int
 | 0 => fun i j => if i + j = 1 then 1 else 0
 | d + 1 => fun i j => if i + j = d + 2 ∧ 1 ≤ i ∧ i < d + 2 then (-(atT (qCE W (d + 3) p M ns (qA_ (d + 3) (tri (n + 1) (lwF W n p M ns d))) (M + 1)) i j / ((p ^ M : Nat) : Int))) % W else lwF W n p M ns d i j
theorem qGa {W : Int} (hW : 2 ≤ W) (n p M : Nat) (ns : Li) : ∀ d i j, 0 ≤ lwF W n p M ns d i j ∧ lwF W n p M ns d i j < W
 | 0, i, j => by show 0 ≤ (if i + j = 1 then (1 : Int) else 0) ∧ (if i + j = 1 then (1 : Int) else 0) < W; split <;> omega
 | d + 1, i, j => by
   unfold lwF
   split
   ·exact qA6 Oo
   ·exact qGa hW n p M ns d i j
theorem qQT {n : Nat} (hn : 1 ≤ n) {r0 r1 : Li} (h0 : (qAb (n + 1))[0]? = some r0) (h1 : (qAb (n + 1))[1]? = some r1) (W : Int) (p M : Nat) (ns : Li) :
  (((qAb (n + 1)).set 0 (r0.set 1 1)).set 1 (r1.set 0 1)) = tri (n + 1) (lwF W n p M ns 0) := by
 unfold qAb at *
 rw [qAp Oo] at h0 h1
 obtain rfl := Option.some.inj h0
 obtain rfl := Option.some.inj h1
 rw [qBp Oo]
 have e1 : mk (n + 1 - 1) ((fun _ _ => (0 : Int)) 1) = mk (n + 1 - 1) ((fun a b => if a = 0 ∧ b = 1 then (1 : Int) else 0) 1) := qAh fun j _ => by
  show (0 : Int) = if 1 = 0 ∧ j = 1 then 1 else 0
  rw [if_neg Oo]
 rw [e1, qBp Oo]
 refine qAE fun i j h => ?_
 show (if i = 1 ∧ j = 0 then (1 : Int) else if i = 0 ∧ j = 1 then 1 else 0) = if i + j = 1 then 1 else 0
 by_cases a : i + j = 1
 ·rw [if_pos a]
  by_cases b : i = 1 ∧ j = 0
  ·rw [if_pos b]
  ·rw [if_neg b, if_pos Oo]
 ·rw [if_neg a, if_neg Oo, if_neg Oo]

def lwP (W : Int) (n p M : Nat) (ns : Li) (d i : Nat) : Nat → Nat → Int := fun a b => if a + b = d + 2 ∧ 1 ≤ a ∧ a < i then (-(atT (qCE W (d + 3) p M ns (qA_ (d + 3) (tri (n + 1) (lwF W n p M ns d))) (M + 1)) a b / ((p ^ M : Nat) : Int))) % W else lwF W n p M ns d a b
theorem lwP_ok {W : Int} (hW : 2 ≤ W) (n p M : Nat) (ns : Li) (d i : Nat) (a b : Nat) : 0 ≤ lwP W n p M ns d i a b ∧ lwP W n p M ns d i a b < W := by
 unfold lwP
 split
 ·exact qA6 Oo
 ·exact qGa hW n p M ns d a b
theorem lwP_1 (W : Int) (n p M : Nat) (ns : Li) (d : Nat) : lwP W n p M ns d 1 = lwF W n p M ns d := by
 funext a b
 unfold lwP
 rw [if_neg Oo]
theorem qPe (W : Int) (n p M : Nat) (ns : Li) (d : Nat) : lwP W n p M ns d (d + 2) = lwF W n p M ns (d + 1) := rfl
theorem qPM (W : Int) (n p M : Nat) (ns : Li) {d i : Nat} (h1 : 1 ≤ i) (hi : i < d + 2) (hd : d + 2 ≤ n) :
  (tri (n + 1) (lwP W n p M ns d i)).set i ((mk (n + 1 - i) (lwP W n p M ns d i i)).set (d + 2 - i) ((-(atT (qCE W (d + 3) p M ns (qA_ (d + 3) (tri (n + 1) (lwF W n p M ns d))) (M + 1)) i (d + 2 - i) / ((p ^ M : Nat) : Int))) % W)) = tri (n + 1) (lwP W n p M ns d (i + 1)) := by
 rw [qBp Oo]
 refine qAE fun a b h => ?_
 unfold lwP
 by_cases e : a = i ∧ b = d + 2 - i
 ·obtain ⟨rfl, rfl⟩ := e; rw [if_pos ⟨rfl, rfl⟩, if_pos Oo]
 ·rw [if_neg e]
  by_cases e2 : a + b = d + 2 ∧ 1 ≤ a ∧ a < i
  ·rw [if_pos e2, if_pos Oo]
  ·rw [if_neg e2, if_neg Oo]
def qDG (m : Int) (n k : Nat) (F : Nat → Nat → Int) : Tb := tri n (fun i j => if i < k then F i j % m else F i j)
theorem mixT_0 (m : Int) (n : Nat) (F : Nat → Nat → Int) : qDG m n 0 F = tri n F := qAE fun i j _ => by rw [if_neg Oo]
theorem qMh (m : Int) (n : Nat) (F : Nat → Nat → Int) : qDG m n n F = tri n (fun i j => F i j % m) := qAE fun i j _ => by rw [if_pos Oo]
theorem qMe (m : Int) {n k : Nat} (F : Nat → Nat → Int) (h : k < n) : (qDG m n k F)[k]? = some (mk (n - k) (F k)) := by
 unfold qDG
 rw [qAp h]
 refine congrArg some (qAh fun j _ => ?_)
 show (if k < k then _ else _) = _
 rw [if_neg Oo]
theorem qMR (m : Int) {n k : Nat} (F : Nat → Nat → Int) (h : k < n) : (qDG m n k F).set k ((mk (n - k) (F k)).map (· % m)) = qDG m n (k + 1) F := by
 apply List.ext_getElem?
 intro a
 rw [List.getElem?_set]
 by_cases e : k = a
 ·subst e; rw [if_pos rfl]; unfold qDG; rw [if_pos (by rw [qA9]; exact h), qAp h]; refine congrArg some ?_; simp only [mk, List.map_map]; refine List.map_congr_left fun j _ => ?_
  show F k j % m = if k < k + 1 then _ else _
  rw [if_pos Oo]
 ·rw [if_neg e]; unfold qDG
  by_cases ha : a < n
  ·rw [qAp ha, qAp ha]; refine congrArg some (qAh fun j _ => ?_)
   show (if a < k then _ else _) = if a < k + 1 then _ else _
   by_cases e2 : a < k
   ·rw [if_pos e2, if_pos Oo]
   ·rw [if_neg e2, if_neg Oo]
  ·rw [List.getElem?_eq_none (by rw [qA9]; omega), List.getElem?_eq_none (by rw [qA9]; omega)]

theorem qOG (p n : Nat) (m : Int) (v : Value) (ls : Li) (w : World) (hv : RdI w v ls) (hp : P4 p) (hn1 : 1 ≤ n) (hn : n ≤ 10) (hm : 2 ≤ m) (hm' : m ≤ 10000) (hl : ls.length ≤ 3) (hx : ∀ x ∈ ls, 0 ≤ x ∧ x ≤ 10000)
  (M : Nat) (hM : M = qA4 p n) (W : Int) (hW : W = m * ((p ^ M : Nat) : Int) * p) (ns : Li) (hns : ns = mk 4 (fun k => num p (at0 (ls ++ List.replicate (3 - ls.length) 0)) k % W)) :
  Calls Tryz.prog 116 #[.int .i64 p, .int .i64 m, .int .i64 n, v] w fun e w' => ∃ v', e = .returned v' ∧ OwS w' w.heap.size v' (tri (n + 1) (fun i j => lwF W n p M ns (n - 1) i j % m)) ∧ Below w.heap.size w w' := by
 have hp2 := hp.pos
 obtain ⟨k1, k2, -, -⟩ := qBq hp hn (show M ≤ qA4 p n by omega)
 have kp : 1 ≤ p ^ M := Nat.pos_of_ne_zero (by simp; omega)
 have b1 : m * 1 ≤ m * ((p ^ M : Nat) : Int) ∧ m * ((p ^ M : Nat) : Int) ≤ 10000 * 10 := ⟨Int.mul_le_mul_of_nonneg_left Oo Oo, Int.mul_le_mul hm' Oo Oo Oo⟩
 have b2 : m * ((p ^ M : Nat) : Int) * 2 ≤ m * ((p ^ M : Nat) : Int) * p ∧ m * ((p ^ M : Nat) : Int) * p ≤ 100000 * 7 := ⟨Int.mul_le_mul_of_nonneg_left Oo Oo, Int.mul_le_mul b1.2 Oo Oo Oo⟩
 rw [← hW] at b2
 have hW2 : 4 ≤ W := Oo
 have hW1 : W ≤ 700000 := b2.2
 have e1 : IntKind.i64.wrap (m * ((p ^ M : Nat) : Int)) = m * ((p ^ M : Nat) : Int) := IntWalk.i64_in _ Oo
 have e2 : IntKind.i64.wrap (m * ((p ^ M : Nat) : Int) * p) = W := by rw [← hW]; exact IntWalk.i64_in _ Oo
 have HM := dd hM
 have HN := dd hns
 clear hM hns hW b1 b2
 go_enter Tryz.func116, Tryz.ntmps116
 go_wp2_with fail
 refine (qLV p n _ hp hn).mono ?_
 rintro e w' ⟨rfl, rfl⟩
 rw [← HM.out]
 have hP := dd (show p ^ M = p ^ M from rfl)
 obtain ⟨P, hPe⟩ : ∃ P, P = p ^ M := ⟨_, rfl⟩
 rw [← hPe] at e1 e2 k1 kp ⊢
 have HP := dd hPe
 clear hPe hP
 go_wp2_with fail
 refine (qP1 _ ls _ hv hl).mono ?_
 rintro e w1 ⟨v1, rfl, hA, hb1⟩
 have hll : (ls ++ List.replicate (3 - ls.length) (0 : Int)).length = 3 := by simp; omega
 have hlx : ∀ x ∈ ls ++ List.replicate (3 - ls.length) (0 : Int), 0 ≤ x ∧ x ≤ 10000 := by
  intro x hx'; rcases List.mem_append.1 hx' with h | h
  ·exact hx x h
  ·rw [(List.mem_replicate.1 h).2]; omega
 go_wp2_with fail
 refine (qOs p W v1 _ _ hA.rd hp Oo Oo Oo hlx).mono ?_
 rintro e w2 ⟨v2, rfl, how, hb2⟩
 rw [hll, ← HN.out] at how
 have hNs := how.rd
 have HNl := dd (show ns.length = 4 by rw [HN.out, qA8])
 have HNr := dd (show ∀ x ∈ ns, 0 ≤ x ∧ x < W by
  rw [HN.out]; intro x hx'; simp only [mk, List.mem_map] at hx'; obtain ⟨a, _, rfl⟩ := hx'; exact qA6 Oo)
 have B2 := hb1.trans (hb2.mono hb1.size)
 clear hlx hll hx hA how
 have B2s := B2.size
 go_wp2_with fail
 refine (qCL _ (n + 1) _ Oo Oo).mono ?_
 rintro e w3 ⟨v3, rfl, how, hb3⟩
 have hb3s := hb3.size
 have B3 := B2.trans (hb3.mono B2s)
 obtain ⟨oT, cT, rfl⟩ := how.shapeN (n := n + 1) (qBm _)
 have how := how.toR
 obtain ⟨us, how⟩ := how.named
 obtain ⟨gT, rfl, hg1, hg2⟩ := how.row Oo
 obtain ⟨r0, hr0⟩ : ∃ r, (qAb (n + 1))[0]? = some r := ⟨_, qAp Oo⟩
 obtain ⟨r1, hr1⟩ : ∃ r, (qAb (n + 1))[1]? = some r := ⟨_, qAp Oo⟩
 have HST := dd (qQT hn1 hr0 hr1 W p M ns)
 have hr0l : r0.length = n + 1 := by
  have h := hr0; unfold qAb at h; rw [qAp Oo] at h; rw [← Option.some.inj h, qA8]; rfl
 have hr1l : r1.length = n := by
  have h := hr1; unfold qAb at h; rw [qAp Oo] at h; rw [← Option.some.inj h, qA8]; rfl
 obtain ⟨oP, cP, huP, cxP, howP, hblP, hsetP⟩ := how.at hr0
 obtain ⟨oQ, cQ, huQ, cxQ, howQ, hblQ, hsetQ⟩ := how.at hr1
 rw [hr0l] at huP cxP howP hblP hsetP
 rw [hr1l] at huQ cxQ howQ hblQ hsetQ
 obtain ⟨gP, rfl, hgP1, hgP2⟩ := howP.row Oo
 obtain ⟨gQ, rfl, hgQ1, hgQ2⟩ := howQ.row Oo
 have hgP3 := hblP gP rfl
 have hgQ3 := hblQ gQ rfl
 have HSP := dd hsetP
 have hfP := howP.fz 1
 have hfQ := howQ.fz 0
 have hne : gQ ≠ gP := fun e => by
  have h := how.2.2.2.1 1 0 _ _ gQ huQ huP rfl (by rw [e]; rfl); omega
 have hne' : gP ≠ gQ := fun e => hne e.symm
 have hcP := howP.cell (k := 1) (qA5 Oo)
 have hcQ := howQ.cell (k := 0) (qA5 Oo)
 have HownP := dd howP
 have HuQ := dd huQ
 have Hlen := dd (And.intro hr0l hr1l)
 have Hr1 := dd hr1
 have i6 : (1 : Int) < ((n + 1 : Nat) : Int) := Oo
 have i7 : (0 : Int) < (n : Int) := Oo
 have i8 : (0 : Int) < ((n + 1 : Nat) : Int) := Oo
 clear hsetP hsetQ howP howQ huP huQ hr0l hr1l hr0 hr1 hblP hblQ
 go_wp2_with fail
 go_quiet (fail)
 go_wp2_with fail
 have hg0 := qAw (qE0 (World.grownBy.refl w3 (some gP)) nq) 1 (.int .i64 1)
 have hOn := HSP.out _ _ (by rw [List.length_set, Hlen.out.1]) hg0 ((HownP.out.drewN nq).put 1 1)
 have hCn := (Chg.refl w2.heap.size w3.heap.size w3).grown hg0 hgP3.1 hgP3.2.1
 clear HSP HownP hg0
 generalize (w3.drewN nq).setCell ⟨gP, 1, none⟩ (.int .i64 1) = w5 at hOn hCn ⊢
 obtain ⟨o7, c7, hu7, cx7, how7, hbl7, hset7⟩ := hOn.at (k := 1) (row := r1) (by rw [List.getElem?_set_ne Oo]; exact Hr1.out)
 rw [Hlen.out.2] at hu7 cx7 how7 hbl7 hset7
 obtain ⟨rfl, rfl⟩ : o7 = some ⟨gQ, 0, none⟩ ∧ c7 = cQ := by
  have h := hu7.symm.trans HuQ.out; have h := Value.slice.inj (Option.some.inj h); exact ⟨h.1, h.2.2⟩
 have hg1' := qAw (World.grownBy.refl w5 (some gQ)) 0 (.int .i64 1)
 have hOm := hset7 _ _ (by rw [List.length_set, Hlen.out.2]) hg1' (how7.put 0 1)
 have hCm := hCn.grown hg1' hgQ3.1 hgQ3.2.1
 rw [HST.out] at hOm
 clear hset7 how7 hbl7 cx7 hu7 HuQ hg1' hOn hCn HST Hlen Hr1 hcP hcQ hfP hfQ cxP cxQ hne hne' hgP1 hgP2 hgQ1 hgQ2 hgP3 hgQ3 i6 i7 i8
 generalize w5.setCell ⟨gQ, 0, none⟩ (.int .i64 1) = w6 at hOm hCm ⊢
 go_loopw [16, 17, 18, 19] (fun sD _ _ _ wr => ∃ d : Nat, d ≤ n - 1 ∧ sD = .int .i64 ((d + 2 : Nat) : Int) ∧ OwSU us w2.heap.size w3.heap.size wr (.slice (some ⟨gT, 0, none⟩) (n + 1) cT) (tri (n + 1) (lwF W n p M ns d)) ∧ Chg w2.heap.size w3.heap.size w3 wr) (fun sD _ _ _ _ => n + 1 - (intOf sD).toNat)
 case atStart => exact ⟨0, Oo, rfl, hOm, hCm⟩
 case round =>
  clear hOm hCm; obtain ⟨d, hd, rfl, hO, hC⟩ := hrel
  by_cases hlt : d + 2 ≤ n
  ·have i1 : ((d + 2 : Nat) : Int) ≤ (n : Int) := Oo; have B3n := hb3; have Bw := Chg.below hb3 hC (nl _) hb3s; have hvn := hNs.below Bw; have hCs := hC.size; have HTok := dd (show PlaT W (n + 1) (tri (n + 1) (lwF W n p M ns d)) from qB2 fun _ _ _ => qGa Oo _ _ _ _ _ _ _); have HSET := dd (fun (i : Nat) (a : 1 ≤ i) (b : i < d + 2) => qPM W n p M ns a b hlt); have HST := dd (lwP_1 W n p M ns d); have HEN := dd (qPe W n p M ns d); have HPO := dd (fun i => lwP_ok (show 2 ≤ W by omega) n p M ns d i); have e5 : IntKind.i64.wrap ((d + 2 : Nat) : Int) = ((d + 2 : Nat) : Int) := IntWalk.i64_in _ Oo
   go_wp2_with fail
   refine (qHf W ((d + 2 : Nat) : Int) (n + 1) (d + 3) _ (tri (n + 1) (lwF W n p M ns d)) _ hO.r.rd HTok.out Oo Oo Oo Oo).mono ?_; rintro e w7 ⟨v7, rfl, how7, hb7⟩; have hcut := dd (qF7 (k := d + 3) HTok.out Oo); have hvn7 := hvn.below hb7; have hb7s := hb7.size
   go_wp2_with fail
   refine (qMp p M (d + 3) W _ v7 ns (qA_ (d + 3) (tri (n + 1) (lwF W n p M ns d))) _ hvn7 how7.rd hp k2 (by rw [← HP.out]; omega) Oo Oo Oo Oo HNl.out HNr.out hcut.out).mono ?_; rintro e w8 ⟨v8, rfl, how8, hb8⟩; have hb8s := hb8.size; have hRok := dd (qHc (show 2 ≤ W by omega) (d + 3) p M ns (qA_ (d + 3) (tri (n + 1) (lwF W n p M ns d))) (M + 1)); have hC8 : Chg w2.heap.size w3.heap.size w3 w8 := (hC.trans (Chg.of_below hb7)).trans (Chg.of_below hb8); have hO8 := hO.stay (u' := w8) (fun k _ h2 => (hb8.block k Oo).trans (hb7.block k Oo)); rw [← HST.out] at hO8; simp only [← HP.out] at HSET; generalize qCE W (d + 3) p M ns (qA_ (d + 3) (tri (n + 1) (lwF W n p M ns d))) (M + 1) = R at how8 hRok HSET; clear hO hC how7 hvn7 hvn Bw HTok hcut HST hb7 hb8; obtain ⟨oR, cR, rfl⟩ := how8.shapeN (n := d + 3) hRok.out.1; obtain ⟨gR, rfl, hgR1, hgR2⟩ := how8.row Oo; have hRds := how8.rds; clear how8
   go_wp2_with fail
   go_loopw [18, 19] (fun si _ wz => ∃ i : Nat, 1 ≤ i ∧ i ≤ d + 2 ∧ si = .int .i64 i ∧ OwSU us w2.heap.size w3.heap.size wz (.slice (some ⟨gT, 0, none⟩) (n + 1) cT) (tri (n + 1) (lwP W n p M ns d i)) ∧ Chg w2.heap.size w3.heap.size w8 wz) (fun si _ _ => d + 2 - (intOf si).toNat)
   case atStart => exact ⟨1, Nat.le_refl _, Oo, rfl, hO8, Chg.refl _ _ _⟩
   case round =>
    clear hO8; obtain ⟨i, hi1, hi, rfl, hO, hC⟩ := hrel
    by_cases hil : i < d + 2
    ·have j1 : (i : Int) < ((d + 2 : Nat) : Int) := Oo; have j0 : (0 : Int) ≤ (i : Int) := Oo; have j2 : (i : Int) < ((n + 1 : Nat) : Int) := Oo; have j3 : (i : Int) < ((d + 3 : Nat) : Int) := Oo; have hR := hRds.2 wr (fun k h1 h2 => hC.block k h2 (.inr Oo)); have hS := dd (HSET.out i hi1 hil); obtain ⟨rP, hrP, hrPl, hrPj⟩ := PlaT.row (m := W) (qB2 fun a b _ => HPO.out i a b) (show i < n + 1 by omega)
     have erP : rP = mk (n + 1 - i) (lwP W n p M ns d i i) := by
      rw [qAp Oo] at hrP; exact (Option.some.inj hrP).symm
     obtain ⟨oP, cP, huP, cxP, howP, hblP, hsetP⟩ := hO.at hrP; rw [hrPl] at cxP howP hblP hsetP; obtain ⟨gP, rfl, hgP1, hgP2⟩ := howP.row Oo; have hgP3 := hblP gP rfl; have hfP := howP.fz (d + 2 - i); have hcP := howP.cell (k := d + 2 - i) (qA5 Oo); obtain ⟨rR, hrR, hrRl, hrRj⟩ := hRok.out.row (show i < d + 3 by omega); obtain ⟨oR2, cR2, cxR, rxR⟩ := hR.row hrR; rw [hrRl, Nat.zero_add] at cxR; rw [hrRl] at rxR; obtain ⟨gR2, fR2, rfl, -⟩ := rxR.cells Oo; have hcR := rxR.cell0 (hrRj (d + 2 - i) Oo); have rg := qBT hRok.out (show i + (d + 2 - i) < d + 3 by omega); rw [← erP] at hS; have HSP := dd hsetP; have HownP := dd howP; have Hlen := dd hrPl; clear hsetP howP huP hblP hrP hrPj erP hrR hrRj hrRl hrPl; generalize atT R i (d + 2 - i) = x at hcR rg hS; have e6 : IntKind.i64.wrap (((d + 2 : Nat) : Int) - (i : Int)) = ((d + 2 - i : Nat) : Int) := by rw [IntWalk.i64_in _ Oo]; omega
     have q1 : 0 ≤ x / (P : Int) := Int.ediv_nonneg rg.1 Oo; have q2 : x / (P : Int) ≤ x := Int.ediv_le_self _ rg.1; have t6 : x.tdiv (P : Int) = x / (P : Int) := Int.tdiv_eq_ediv_of_nonneg rg.1; have kk1 : ((P : Int) == 0) = false := by simp only [beq_eq_false_iff_ne]; omega
     have kk2 : ¬ (P : Int) = 0 := Oo; have kk3 : ¬ (P : Int) = -1 := Oo; generalize x / (P : Int) = q at q1 q2 t6 hS; have e7 : IntKind.i64.wrap q = q := IntWalk.i64_in _ Oo; have e8 : IntKind.i64.wrap (-q) = -q := IntWalk.i64_in _ Oo; have mg := qA6 (a := -q) (show 0 < W by omega); have j4 : ((d + 2 - i : Nat) : Int) < ((d + 3 - i : Nat) : Int) := Oo; have j5 : ((d + 2 - i : Nat) : Int) < ((n + 1 - i : Nat) : Int) := Oo
     go_wp2_with fail
     refine (qEg (-q) W _ Oo Oo Oo Oo).mono ?_; rintro e w9 ⟨rfl, rfl⟩
     go_wp2_with fail
     have hg0 := qAw (World.grownBy.refl wr (some gP)) (d + 2 - i) (.int .i64 (-q % W)); have hOn := HSP.out _ _ (by rw [List.length_set, Hlen.out]) hg0 (HownP.out.put (d + 2 - i) (-q % W)); have hCn := hC.grown hg0 hgP3.1 hgP3.2.1; rw [hS.out] at hOn; exact ⟨⟨i + 1, Oo, Oo, by go_num, hOn, hCn⟩, by simp [intOf]; omega⟩
    ·obtain rfl : i = d + 2 := Oo; rw [HEN.out] at hO; have hC9 := hC8.trans hC
     go_wp2_with fail
     exact ⟨⟨d + 1, Oo, by go_num, hO, hC9⟩, by simp [intOf]; omega⟩
  ·obtain rfl : d = n - 1 := Oo; have i1 : ¬ ((n - 1 + 2 : Nat) : Int) ≤ (n : Int) := Oo; have hOs := hO.r.ow.mono B2s; have hBw := Chg.below B3 hC B2s Oo; have hFr := dd (fun i j => qGa (show 2 ≤ W by omega) n p M ns (n - 1) i j); have hg1w : gT < wr.heap.size := by have := hC.size; omega
   have hgl : w.heap.size ≤ gT := Oo; clear hO hC hb3 hNs how; obtain ⟨F, hF⟩ : ∃ F, F = lwF W n p M ns (n - 1) := ⟨_, rfl⟩; rw [← hF] at hOs; have hFr2 := dd (show ∀ i j, 0 ≤ F i j ∧ F i j < W by rw [hF]; exact hFr.out); have HFI := dd (show qDG m (n + 1) (n + 1) F = tri (n + 1) (fun i j => lwF W n p M ns (n - 1) i j % m) by rw [qMh, hF]); clear hF hFr; rw [← mixT_0 m (n + 1) F] at hOs
   go_wp2_with fail
   go_loopw [20] (fun sk wr => ∃ k : Nat, k ≤ n + 1 ∧ sk = .int .i64 k ∧ OwS wr w.heap.size (.slice (some ⟨gT, 0, none⟩) (n + 1) cT) (qDG m (n + 1) k F) ∧ Below w.heap.size w wr ∧ gT < wr.heap.size) (fun sk _ => n + 1 - (intOf sk).toNat)
   case atStart => exact ⟨0, Oo, rfl, hOs, hBw, hg1w⟩
   case round =>
    clear hOs hBw hg1w; obtain ⟨k, hk, rfl, hO, hB, hg⟩ := hrel
    by_cases hkn : k < n + 1
    ·have j1 : (k : Int) < ((n + 1 : Nat) : Int) := Oo; have j0 : (0 : Int) ≤ (k : Int) := Oo; obtain ⟨o1, c1, cx, rx⟩ := hO.rd.row (qMe m F hkn); rw [qA8, Nat.zero_add] at cx; rw [qA8] at rx; have hS := dd (qMR m F hkn); have hfT := hO.fz k; have hBs := hB.size
     go_wp2_with fail
     refine (qPd m _ (mk (n + 1 - k) (F k)) _ rx hm (by rw [qA8]; omega) (by
      intro x hx'; simp only [mk, List.mem_map] at hx'; obtain ⟨a, _, rfl⟩ := hx'; have := hFr2.out k a; omega)).mono ?_
     rintro e w9 ⟨v9, rfl, how9, hb9⟩; obtain ⟨o9, c9, rfl⟩ := how9.shapeN (n := n + 1 - k) (by rw [List.length_map, qA8]); have hcx9 := qA0 hb9 (nl _) cx; have HOW := dd how9; have HB9 := dd hb9; have hfT9 : w9.frozen? ⟨gT, k, none⟩ = false := (hO.below hb9).fz k; clear how9
     go_wp2_with fail
     have hN := hO.putNew' hg hb9 k HOW.out hBs; have hb9s := hb9.size; rw [hS.out] at hN; have hBn : Below w.heap.size w (w9.setCell ⟨gT, k, none⟩ (.slice o9 (n + 1 - k) c9)) := qDC (hB.trans (hb9.mono hBs)) (qAw (World.grownBy.refl w9 (some gT)) k _) Oo Oo; exact ⟨⟨k + 1, Oo, by go_num, hN, hBn, by simp; omega⟩, by simp [intOf]; omega⟩
    ·obtain rfl : k = n + 1 := Oo; have j1 : ¬ ((n + 1 : Nat) : Int) < ((n + 1 : Nat) : Int) := Oo; go_wp2; go_ret; exact ⟨_, rfl, by rw [HFI.out] at hO; exact hO, hB⟩
end
end Go.Proofs.YtfpphfjlpgefaaaGreat
