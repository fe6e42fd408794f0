/- Lemmas of TyK. -/
import Derived.Test.YtoednonijmkbjaaQTyJ
import Derived.Test.YtoednonijmkbjaaQWeiB
set_option linter.unusedSimpArgs false
set_option linter.unusedVariables false
namespace Go.Proofs.Ytoednonijmkbjaa
open Go.RowKit

def dec1 (m : Int) (P : Nat) (f : Nat → Nat → Int) : Nat → Nat → Int := fun i j => if i = P ∧ j = 0 then (f i j - 1) % m else f i j
def dec2 (m : Int) (P : Nat) (f : Nat → Nat → Int) : Nat → Nat → Int := fun i j => if i = 0 ∧ j = P then (f i j - 1) % m else f i j
def subA (m : Int) (n P : Nat) (t : List (List Int)) : List (List Int) := if P < n then tri n (dec2 m P (dec1 m P (atT t))) else t
theorem subA_ok {m : Int} (hm : 0 < m) {n P : Nat} {t : List (List Int)} (ht : PlaT m n t) : PlaT m n (subA m n P t) := by
  unfold subA
  split
  · refine tri_ok fun i j h => ?_
    have h0 := tab_range ht h
    have a1 := mod_lt' (a := atT t i j - 1) hm
    unfold dec2 dec1
    split
    · exact mod_lt' hm
    · split
      · exact a1
      · exact h0
  · exact ht
theorem subA_set {m : Int} {n P : Nat} (hPn : P < n) (hP1 : 1 ≤ P) {t : List (List Int)} (ht : PlaT m n t) {rP r0 : List Int} (hrP : t[P]? = some rP) (hr0 : t[0]? = some r0) :
    ((t.set P (rP.set 0 ((atT t P 0 - 1) % m))).set 0 (r0.set P ((atT t 0 P - 1) % m))) = subA m n P t := by
  have e : t = tri n (atT t) := tri_eq ht.1 (fun i hi => by rw [(ht.2 i hi).1, ht.1])
  have eP : rP = mk (n - P) (atT t P) := by
    rw [e, tri_get hPn] at hrP
    exact (Option.some.inj hrP).symm
  have e0 : r0 = mk (n - 0) (atT t 0) := by
    rw [e, tri_get (by omega)] at hr0
    exact (Option.some.inj hr0).symm
  generalize atT t = f at e eP e0 ⊢
  have eg : r0 = mk (n - 0) ((fun a b => if a = P ∧ b = 0 then (f P 0 - 1) % m else f a b) 0) := by
    rw [e0]
    exact mk_ext fun j _ => by
      show _ = if 0 = P ∧ j = 0 then _ else _
      rw [if_neg (by omega)]
  rw [show subA m n P t = tri n (dec2 m P (dec1 m P f)) by unfold subA; rw [if_pos hPn, e]; exact tri_ext fun i j h => by simp only [dec2, dec1, atT_tri h]]
  rw [e, eP, tri_set (by omega), eg, tri_set (by omega)]
  refine tri_ext fun i j h => ?_
  simp only [dec2, dec1]
  by_cases h1 : i = 0 ∧ j = P
  · obtain ⟨rfl, rfl⟩ := h1
    rw [if_pos ⟨rfl, rfl⟩, if_pos ⟨rfl, rfl⟩, if_neg (by omega)]
  · rw [if_neg h1, if_neg h1]
    by_cases h2 : i = P ∧ j = 0
    · obtain ⟨rfl, rfl⟩ := h2
      simp
    · rw [if_neg h2, if_neg h2]
def resT (m : Int) (n p M : Nat) (ns : List Int) (t : List (List Int)) : Nat → List (List Int)
  | 0 => zeroT n
  | k + 1 => addT m n (resT m n p M ns t k) (scaT m n ((p : Int) ^ (M - k) % m * at0 ns k % m) (subA m n (p ^ k) (pwT m n t (p ^ k - 1))))
theorem resT_ok {m : Int} (hm : 2 ≤ m) (n p M : Nat) (ns : List Int) (t : List (List Int)) : ∀ k, PlaT m n (resT m n p M ns t k)
  | 0 => tri_ok fun _ _ _ => by omega
  | k + 1 => addT_ok (by omega) _ _ _
theorem at0_mem {ls : List Int} {k : Nat} (h : k < ls.length) : at0 ls k ∈ ls := by
  rw [at0_get h]; exact List.getElem_mem _

set_option maxHeartbeats 2000000 in
set_option maxRecDepth 100000 in
theorem l09Rest_c (p M n : Nat) (m : Int) (vn vt : Value) (ns : List Int) (t : List (List Int)) (w : World) (hvn : RdI w vn ns) (hvt : RdT w vt t) (hp : P4 p) (hM : M ≤ 3) (hpM : p ^ M ≤ 10) (hm : 2 ≤ m) (hm' : m ≤ 1000000) (hn1 : 1 ≤ n) (hn : n ≤ 11)
    (hnl : ns.length = 4) (hnr : ∀ x ∈ ns, 0 ≤ x ∧ x < m) (ht : PlaT m n t) :
    Calls Try.prog 49 #[.int .i64 p, .int .i64 m, .int .i64 M, vn, vt] w fun e w' => ∃ v', e = .returned v' ∧ OwS w' w.heap.size v' (resT m n p M ns t (M + 1)) ∧ Below w.heap.size w w' := by
  obtain ⟨ot, ct, rfl, hmt, -⟩ := id hvt
  obtain ⟨on, cn, rfl, hmn, -⟩ := id hvn
  have hp2 := hp.pos
  have HT := Lib.hid ht
  have HL := Lib.hid hnl
  have htl := ht.1
  clear hmt hmn
  rw [htl] at hvt ⊢
  rw [hnl] at hvn ⊢
  clear ht htl hnl
  have hvt' : RdT w (.slice ot n ct) t := hvt
  have e0 : IntKind.i64.wrap ((n : Int) - 1) = ((n - 1 : Nat) : Int) := by rw [IntWalk.i64_in _ (by omega)]; omega
  go_enter Try.func49, Try.ntmps49
  go_wp2_with fail
  refine (l03Zero_c _ n _ (by omega) (by omega)).mono ?_
  rintro e w1 ⟨vz, rfl, how, B1⟩
  have hZ := how
  clear how
  go_wp2_with fail
  go_loopw [12, 13, 14, 15, 16, 17, 18] (fun so sP sk _ _ _ _ wr => ∃ k : Nat, k ≤ M + 1 ∧ sk = .int .i64 k ∧ sP = .int .i64 ((p ^ k : Nat) : Int) ∧ OwS wr w.heap.size so (resT m n p M ns t k) ∧ Below w.heap.size w wr) (fun _ _ i _ _ _ _ _ => M + 1 - (intOf i).toNat)
  case atStart => exact ⟨0, Nat.zero_le _, rfl, rfl, hZ, B1⟩
  case round =>
    clear hZ B1
    obtain ⟨k, hk, rfl, rfl, hO, hB⟩ := hrel
    by_cases hlt : k ≤ M
    · have i1 : (k : Int) ≤ (M : Int) := by omega
      have hv0 := hvt.below hB (Nat.le_refl _)
      have hu0 := hvn.below hB (Nat.le_refl _)
      obtain ⟨P, hP⟩ : ∃ P, P = p ^ k := ⟨_, rfl⟩
      have hP1 : 1 ≤ P := by rw [hP]; exact Nat.pos_of_ne_zero (by simp; omega)
      have hP10 : P ≤ 10 := by rw [hP]; exact Nat.le_trans (Nat.pow_le_pow_right (by omega) hlt) hpM
      have eP : IntKind.i64.wrap ((P : Int) * (p : Int)) = ((p ^ (k + 1) : Nat) : Int) := by
        have h1 : P * p ≤ 10 * 7 := Nat.mul_le_mul hP10 hp2.2
        have h2 : (P : Int) * (p : Int) = ((p ^ (k + 1) : Nat) : Int) := by rw [Nat.pow_succ, ← hP]; simp
        rw [h2, Nat.pow_succ, ← hP]
        exact IntWalk.i64_in _ (by omega)
      have HS := Lib.hid (show resT m n p M ns t (k + 1) = addT m n (resT m n p M ns t k) (scaT m n ((p : Int) ^ (M - k) % m * at0 ns k % m) (subA m n P (pwT m n t (P - 1)))) by rw [hP]; rfl)
      have HRT := Lib.hid (resT_ok hm n p M ns t k)
      rw [← hP]
      generalize resT m n p M ns t k = R at hO HS HRT
      have HPp := Lib.hid (pwT_ok (show 0 < m by omega) HT.out (P - 1))
      clear hP
      go_wp2_with fail
      refine (l09Power_c m (P : Int) n (P - 1) _ t _ hv0 (by omega) (by omega) hn1 (by omega) hm (by omega) HT.out).mono ?_
      rintro e w2 ⟨v2, rfl, hA, hb1⟩
      clear hv0 hu0
      go_wp2_with fail
      refine (l01Own2_c m n _ (pwT m n t (P - 1)) _ hA HPp.out hn1 (by omega)).mono ?_
      rintro e w3 ⟨v3, rfl, how, hb2⟩
      have hbA := hb1.trans (hb2.mono hb1.size)
      clear hA
      have hb2s := hb2.size
      have hb1s := hb1.size
      have hBs := hB.size
      generalize hTT : pwT m n t (P - 1) = T at HPp how HS
      clear hTT
      obtain ⟨oT, cT, rfl⟩ := how.shapeN (n := n) HPp.out.1
      have how := how.toR
      obtain ⟨us, how⟩ := how.named
      obtain ⟨gT, rfl, hg1, hg2⟩ := how.row hn1
      by_cases hPn : P < n
      · have i2 : (P : Int) ≤ ((n - 1 : Nat) : Int) := by omega
        have i3 : (P : Int) < (n : Int) := by omega
        have i4 : (0 : Int) ≤ (P : Int) := by omega
        have i5 : (0 : Int) < (n : Int) := by omega
        obtain ⟨rP, hrP, hrPl, hrPj⟩ := HPp.out.row hPn
        obtain ⟨r0, hr0, hr0l, hr0j⟩ := HPp.out.row (show 0 < n by omega)
        obtain ⟨oP, cP, huP, cxP, howP, hblP, hsetP⟩ := how.at hrP
        obtain ⟨oQ, cQ, huQ, cxQ, howQ, hblQ, hsetQ⟩ := how.at hr0
        rw [hrPl] at huP cxP howP hblP hsetP
        rw [hr0l, Nat.sub_zero] at huQ cxQ howQ hblQ hsetQ
        obtain ⟨gP, rfl, hgP1, hgP2⟩ := howP.row (by omega)
        obtain ⟨gQ, rfl, hgQ1, hgQ2⟩ := howQ.row (by omega)
        have hgP3 := hblP gP rfl
        have hgQ3 := hblQ gQ rfl
        have HSP := Lib.hid hsetP
        have hP0 := howP.cell (k := 0) (hrPj 0 (by omega))
        have hfP := howP.fz 0
        have hq0 := howQ.cell (k := P) (hr0j P (by omega))
        have hne : gQ ≠ gP := fun e => by
          have h := how.2.2.2.1 0 P _ _ gQ huQ huP rfl (by rw [e]; rfl)
          omega
        have hne' : gP ≠ gQ := fun e => hne e.symm
        have HownP := Lib.hid howP
        have HuQ := Lib.hid huQ
        have Hlen := Lib.hid (And.intro hrPl hr0l)
        have Hr0 := Lib.hid hr0
        have HrQ := Lib.hid (hr0j P (by omega))
        have rg1 := tab_range HPp.out (show P + 0 < n by omega)
        have rg2 := tab_range HPp.out (show 0 + P < n by omega)
        have mg1 := mod_lt' (a := atT T P 0 - 1) (show 0 < m by omega)
        have mg2 := mod_lt' (a := atT T 0 P - 1) (show 0 < m by omega)
        have HF := Lib.hid (show ((T.set P (rP.set 0 ((atT T P 0 - 1) % m))).set 0 (r0.set P ((atT T 0 P - 1) % m))) = subA m n P T from subA_set hPn hP1 HPp.out hrP hr0)
        clear hsetP hsetQ howP howQ huP huQ hrPl hr0l hr0 hrP hrPj hr0j hblP hblQ
        generalize atT T P 0 = x at hP0 rg1 mg1 HF
        generalize atT T 0 P = y at HrQ rg2 mg2 HF hq0
        go_wp2_with fail
        go_quiet (fail)
        have e1 : IntKind.i64.wrap (x - 1) = x - 1 := IntWalk.i64_in _ (by omega)
        have e2 : IntKind.i64.wrap (y - 1) = y - 1 := IntWalk.i64_in _ (by omega)
        have i6 : ((0 : Nat) : Int) < ((n - P : Nat) : Int) := by omega
        have i7 : (0 : Int) < ((n - P : Nat) : Int) := by omega
        go_wp2_with fail
        refine (l01Mod_c (x - 1) m _ (by omega) (by omega) (by omega) (by omega)).mono ?_
        rintro e w5 ⟨rfl, rfl⟩
        go_wp2_with fail
        have hg0 := gr_put (gr_drewN (World.grownBy.refl w3 (some gP)) nq) 0 (.int .i64 ((x - 1) % m))
        have hOn := HSP.out _ _ (by rw [List.length_set, Hlen.out.1]) hg0 ((HownP.out.drewN nq).put 0 ((x - 1) % m))
        have hCn := (Chg.refl w2.heap.size w3.heap.size w3).grown hg0 hgP3.1 hgP3.2.1
        clear HSP HownP hg0 hP0 hfP hq0
        generalize (w3.drewN nq).setCell ⟨gP, 0, none⟩ (.int .i64 ((x - 1) % m)) = w6 at hOn hCn ⊢
        obtain ⟨o7, c7, hu7, cx7, how7, hbl7, hset7⟩ := hOn.at (k := 0) (row := r0) (by rw [List.getElem?_set_ne (by omega)]; exact Hr0.out)
        rw [Hlen.out.2, Nat.sub_zero] at hu7 cx7 how7 hbl7 hset7
        obtain ⟨rfl, rfl⟩ : o7 = some ⟨gQ, 0, none⟩ ∧ c7 = cQ := by
          have h := hu7.symm.trans HuQ.out
          have h := Value.slice.inj (Option.some.inj h)
          exact ⟨h.1, h.2.2⟩
        have hQ0 := how7.cell (k := P) HrQ.out
        have hfQ := how7.fz P
        have HSQ := Lib.hid hset7
        have HownQ := Lib.hid how7
        clear hset7 how7 hbl7 cx7 hu7 HuQ
        refine (l01Mod_c (y - 1) m _ (by omega) (by omega) (by omega) (by omega)).mono ?_
        rintro e w7 ⟨rfl, rfl⟩
        go_wp2_with fail
        have hg1 := gr_put (World.grownBy.refl w6 (some gQ)) P (.int .i64 ((y - 1) % m))
        have hOm := HSQ.out _ _ (by rw [List.length_set, Hlen.out.2]; omega) hg1 (HownQ.out.put P ((y - 1) % m))
        have hCm := hCn.grown hg1 hgQ3.1 hgQ3.2.1
        rw [HF.out] at hOm
        clear HSQ HownQ hg1 hQ0 hfQ hOn hCn
        generalize w6.setCell ⟨gQ, P, none⟩ (.int .i64 ((y - 1) % m)) = W at hOm hCm ⊢
        have hbW : Below wr.heap.size wr W := Chg.below hbA hCm hb1s (by omega)
        have hTW := hOm.r.rd
        have HTW := Lib.hid (subA_ok (show 0 < m by omega) (P := P) HPp.out)
        clear hOm hCm HF hbA
        generalize subA m n P T = T' at hTW HTW HS
        have hvW := hvn.below (hB.trans (hbW.mono hBs)) (Nat.le_refl _)
        have hRW := hO.rd.below hbW (Nat.le_refl _)
        obtain ⟨bn, fn, rfl, -⟩ := hvW.cells (by rw [HL.out]; omega)
        have cn1 := hvW.cell0 (some_at0 (show k < ns.length by rw [HL.out]; omega))
        have rn := hnr _ (at0_mem (show k < ns.length by rw [HL.out]; omega))
        generalize at0 ns k = z at cn1 rn HS
        have k4 : (k : Int) < 4 := by omega
        have k5 : (0 : Int) ≤ (k : Int) := by omega
        have e5 : (M : Int) - (k : Int) = ((M - k : Nat) : Int) := by omega
        have r3 := mod_lt' (a := (p : Int) ^ (M - k)) (show 0 < m by omega)
        have r4 := prod_fits (m := m) r3.1 rn.1 r3.2 rn.2 (by omega)
        have r5 := mod_lt' (a := (p : Int) ^ (M - k) % m * z) (show 0 < m by omega)
        have e6 : IntKind.i64.wrap ((p : Int) ^ (M - k) % m * z) = (p : Int) ^ (M - k) % m * z := IntWalk.i64_in _ (by omega)
        have t6 : ((p : Int) ^ (M - k) % m * z).tmod m = (p : Int) ^ (M - k) % m * z % m := Int.tmod_eq_emod_of_nonneg (by omega)
        have m1 : ¬ m = 0 := by omega
        have m0 : (m == 0) = false := by simp; omega
        have hNk := Lib.hid (show M - k ≤ 3 by omega)
        generalize M - k = q at e5 r3 r4 r5 e6 t6 HS hNk
        refine (l01Pow_c m p ((M : Int) - (k : Int)) q _ e5 (by omega) (by omega) (by omega) (by omega) (by have := hNk.out; omega)).mono ?_
        rintro e w8 ⟨rfl, rfl⟩
        generalize (p : Int) ^ q % m = y9 at r3 r4 r5 e6 t6 HS
        clear e5
        go_wp2_with fail
        refine (l03Scale_c m (y9 * z % m) _ _ _ hTW hm (by omega) r5.1 r5.2 (by rw [HTW.out.1]; omega) HTW.out.2).mono ?_
        rintro e w9 ⟨v9, rfl, how9, hb9⟩
        rw [HTW.out.1] at how9
        have hR9 := hRW.below hb9 (Nat.le_refl _)
        go_wp2_with fail
        refine (l03Add_c m _ _ R _ _ hR9 how9.rd hm (by omega) (by rw [HRT.out.1]; omega) (by rw [HRT.out.1]; exact tri_len _ _) HRT.out.2 (tri_ok (m := m) (n := n) (fun _ _ _ => mod_lt' (show 0 < m by omega))).2).mono ?_
        rintro e w10 ⟨v10, rfl, how10, hb10⟩
        rw [HRT.out.1, ← HS.out] at how10
        have hBW := hB.trans (hbW.mono hBs)
        have hB9 := hBW.trans (hb9.mono hBW.size)
        have hBX := hB9.trans (hb10.mono hB9.size)
        have hrd := how10.mono hB9.size
        clear how10 how9
        go_wp2_with fail
        exact ⟨⟨k + 1, by omega, by go_num, by first | rfl | (rw [eP]; done), hrd, hBX⟩, by simp [intOf]; omega⟩
      · have i2 : ¬ (P : Int) ≤ ((n - 1 : Nat) : Int) := by omega
        have hTW := how.r.rd
        rw [show subA m n P T = T from if_neg hPn] at HS
        have HTW := HPp
        obtain ⟨W, rfl⟩ : ∃ W, W = w3 := ⟨_, rfl⟩
        have hbW := hbA
        clear how hbA
        have hvW := hvn.below (hB.trans (hbW.mono hBs)) (Nat.le_refl _)
        have hRW := hO.rd.below hbW (Nat.le_refl _)
        obtain ⟨bn, fn, rfl, -⟩ := hvW.cells (by rw [HL.out]; omega)
        have cn1 := hvW.cell0 (some_at0 (show k < ns.length by rw [HL.out]; omega))
        have rn := hnr _ (at0_mem (show k < ns.length by rw [HL.out]; omega))
        generalize at0 ns k = z at cn1 rn HS
        have k4 : (k : Int) < 4 := by omega
        have k5 : (0 : Int) ≤ (k : Int) := by omega
        have e5 : IntKind.i64.wrap ((M : Int) - (k : Int)) = ((M - k : Nat) : Int) := by rw [IntWalk.i64_in _ (by omega)]; omega
        have r3 := mod_lt' (a := (p : Int) ^ (M - k)) (show 0 < m by omega)
        have r4 := prod_fits (m := m) r3.1 rn.1 r3.2 rn.2 (by omega)
        have r5 := mod_lt' (a := (p : Int) ^ (M - k) % m * z) (show 0 < m by omega)
        have e6 : IntKind.i64.wrap ((p : Int) ^ (M - k) % m * z) = (p : Int) ^ (M - k) % m * z := IntWalk.i64_in _ (by omega)
        have t6 : ((p : Int) ^ (M - k) % m * z).tmod m = (p : Int) ^ (M - k) % m * z % m := Int.tmod_eq_emod_of_nonneg (by omega)
        have m1 : ¬ m = 0 := by omega
        have m0 : (m == 0) = false := by simp; omega
        have hNk := Lib.hid (show M - k ≤ 3 by omega)
        generalize M - k = q at e5 r3 r4 r5 e6 t6 HS hNk
        go_wp2_with fail
        refine (l01Pow_c m p (q : Int) q _ rfl (by omega) (by omega) (by omega) (by omega) (by have := hNk.out; omega)).mono ?_
        rintro e w8 ⟨rfl, rfl⟩
        generalize (p : Int) ^ q % m = y9 at r3 r4 r5 e6 t6 HS
        clear e5
        go_wp2_with fail
        refine (l03Scale_c m (y9 * z % m) _ _ _ hTW hm (by omega) r5.1 r5.2 (by rw [HTW.out.1]; omega) HTW.out.2).mono ?_
        rintro e w9 ⟨v9, rfl, how9, hb9⟩
        rw [HTW.out.1] at how9
        have hR9 := hRW.below hb9 (Nat.le_refl _)
        go_wp2_with fail
        refine (l03Add_c m _ _ R _ _ hR9 how9.rd hm (by omega) (by rw [HRT.out.1]; omega) (by rw [HRT.out.1]; exact tri_len _ _) HRT.out.2 (tri_ok (m := m) (n := n) (fun _ _ _ => mod_lt' (show 0 < m by omega))).2).mono ?_
        rintro e w10 ⟨v10, rfl, how10, hb10⟩
        rw [HRT.out.1, ← HS.out] at how10
        have hBW := hB.trans (hbW.mono hBs)
        have hB9 := hBW.trans (hb9.mono hBW.size)
        have hBX := hB9.trans (hb10.mono hB9.size)
        have hrd := how10.mono hB9.size
        clear how10 how9
        go_wp2_with fail
        exact ⟨⟨k + 1, by omega, by go_num, by first | rfl | (rw [eP]; done), hrd, hBX⟩, by simp [intOf]; omega⟩
    · obtain rfl : k = M + 1 := by omega
      have i1 : ¬ (((M + 1 : Nat) : Int) ≤ (M : Int)) := by omega
      go_wp2
      go_ret
      exact ⟨_, rfl, hO, hB⟩
end Go.Proofs.Ytoednonijmkbjaa
