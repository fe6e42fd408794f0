/- Lemmas. -/
import Derived.Test.YtfpphfjlpgefaaaGreatqM45
set_option maxHeartbeats 8000000
set_option maxRecDepth 100000
set_option linter.unusedSimpArgs false
set_option linter.unusedVariables false
namespace Go.Proofs.YtfpphfjlpgefaaaGreat
open Go.RowKit

theorem qKw (m d : Int) (n : Nat) (v : Value) (ls : Li) (w : World) (hd : d + 1 = (n : Int)) (hv : RdI w v ls) (hl : ls.length = 5) (h2 : 2 ≤ n) (hn : n ≤ 900) (hm : 2 ≤ m) (hm' : m ≤ 10000) (hx : ∀ x ∈ ls, 0 ≤ x ∧ x < m) :
  Calls Tryz.prog 198 #[.int .i64 m, .int .i64 d, v] w fun e w' => ∃ v', e = .returned v' ∧ OwS w' w.heap.size v' (wrLaw m n (at0 ls) (qBS m (n + 1) (at0 ls) (n - 2))) ∧ Below w.heap.size w w' := by
 obtain ⟨o, c, rfl, hmx, -⟩ := id hv
 obtain ⟨bl, fl, rfl, -⟩ := hv.cells Oo
 have r0 := qAG (show 0 < m by omega) hx 0
 have r1 := qAG (show 0 < m by omega) hx 1
 have r2 := qAG (show 0 < m by omega) hx 2
 have r3 := qAG (show 0 < m by omega) hx 3
 have r4 := qAG (show 0 < m by omega) hx 4
 have HL := dd hl
 have HX := dd hx
 rw [hl] at hv ⊢
 clear hl hmx hx
 have hd1 : d = (n : Int) - 1 := Oo
 subst hd1
 clear hd
 have e0 : ((n : Int) - 1) + 1 = (n : Int) := Oo
 have e00 : IntKind.i64.wrap (n : Int) = (n : Int) := IntWalk.i64_in _ Oo
 have em : IntKind.i64.wrap (m - 1) = m - 1 := IntWalk.i64_in _ Oo
 have hv0 := hv
 have B0 := Below.refl w.heap.size w
 go_enter Tryz.func198, Tryz.ntmps198
 go_wp2_with fail
 refine (qOx m _ (n + 1) _ ls _ Oo hv HL.out Oo Oo hm hm' HX.out).mono ?_
 rintro e w1 ⟨v1, rfl, h1, hb⟩
 obtain ⟨W, hW⟩ : ∃ W, W = qBS m (n + 1) (at0 ls) (n - 2) := ⟨_, rfl⟩
 have HW : LisN m (n + 1) W := by rw [hW]; exact ⟨qHr _ _ _ _, qHV Oo _ _ _⟩
 rw [show n + 1 - 3 = n - 2 by omega, ← hW] at h1
 have HWd := dd hW
 clear hW
 obtain ⟨oW, cW, rfl⟩ := h1.shapeN (n := n + 1) HW.1
 obtain ⟨gW, rfl, -, -⟩ := h1.row Oo
 (have hv1 := hv0.below hb; have B1 := B0.trans (hb.mono B0.size))
 have W1 := h1.rd
 clear h1 hb B0 hv0
 go_wp2_with fail
 refine (qCL _ n _ rfl Oo).mono ?_
 rintro e w2 ⟨v2, rfl, how, hb2⟩
 obtain ⟨oL, cL, rfl⟩ := how.shapeN (n := n) (qBm n)
 have how := how.toR
 obtain ⟨us, how⟩ := how.named
 obtain ⟨gL, rfl, hgl, hgl'⟩ := how.row Oo
 rw [lnTo_0 n W] at how
 have hb2s := hb2.size
 have B1s := B1.size
 go_wp2_with fail
 go_loopw [9, 10] (fun s s' wr => ∃ k : Nat, 1 ≤ k ∧ k ≤ n + 1 ∧ s = .int .i64 k ∧ OwSU us w1.heap.size w2.heap.size wr (.slice (some ⟨gL, 0, none⟩) n cL) (qDR n W k 0) ∧ Chg w1.heap.size w2.heap.size w2 wr) (fun i _ _ => n + 1 - (intOf i).toNat)
 case atStart => exact ⟨1, Nat.le_refl _, Oo, rfl, how, Chg.refl _ _ _⟩
 case round =>
  obtain ⟨k, hk1, hk, rfl, hO, hC⟩ := hrel; clear how
  by_cases hlt : k ≤ n
  ·have i1 : (k : Int) ≤ (n : Int) := Oo
   go_wp2_with fail
   go_loopw [10] (fun s wr => ∃ i : Nat, i ≤ k ∧ s = .int .i64 i ∧ OwSU us w1.heap.size w2.heap.size wr (.slice (some ⟨gL, 0, none⟩) n cL) (qDR n W k i) ∧ Chg w1.heap.size w2.heap.size w2 wr) (fun i _ => k - (intOf i).toNat)
   case atStart => exact ⟨0, Nat.zero_le _, rfl, hO, hC⟩
   case round =>
    clear hO hC; obtain ⟨i, hi, rfl, hO, hC⟩ := hrel
    by_cases hil : i < k
    ·have Br := hC.below hb2 (nl _) hb2s; have cx := (W1.below Br).cell0 (qA5 (show k < W.length by rw [HW.1]; omega)); rw [Nat.zero_add] at cx; obtain ⟨o2, c2', hu2, cx2, how2, hbl2, hset2⟩ := hO.at (qM6 (show i < n by omega)); rw [qHu] at hu2 cx2 how2 hbl2 hset2; obtain ⟨gr, rfl, hgr1, hgr2⟩ := how2.row Oo; have hgr3 := hbl2 gr rfl; have HS2 := dd hset2; clear hu2 hbl2 hset2; have hc0 := how2.cell (k := k - 1 - i) (qA5 (by rw [qHu]; omega)); have hf0 := how2.fz (k - 1 - i); have Hn := dd how2; clear how2; have e1 : IntKind.i64.wrap ((k : Int) - 1) = (k : Int) - 1 := IntWalk.i64_in _ Oo; have e2 : IntKind.i64.wrap ((k : Int) - 1 - (i : Int)) = ((k - 1 - i : Nat) : Int) := by rw [IntWalk.i64_in _ Oo]; omega
     have j0 : (0 : Int) ≤ (i : Int) := Oo; have j1 : (i : Int) < (k : Int) := Oo; have j2 : (i : Int) < (n : Int) := Oo; have j3 : ((k - 1 - i : Nat) : Int) < ((n - i : Nat) : Int) := Oo; have j4 : (k : Int) < ((n + 1 : Nat) : Int) := Oo; have j5 : (0 : Int) ≤ (k : Int) := Oo; have j6 : i < n := Oo; have j7 : k - 1 - i < n - i := Oo; have j8 : k < n + 1 := Oo; have j9 : (k : Int) < (n : Int) + 1 := Oo
     go_wp2_with fail
     go_still_tail 13, kr
     change wpList _ _ _ _ _ wr.drew
     have hg0 := qAw (qE0 (World.grownBy.refl wr (some gr)) 1) (k - 1 - i) (.int .i64 (at0 W k)); have hOn := HS2.out _ _ (by rw [List.length_set, qHu]) hg0 ((Hn.out.drewN 1).put (k - 1 - i) (at0 W k)); rw [qQX hk1 hil Oo] at hOn; have hCn := hC.grown hg0 hgr3.1 hgr3.2.1; have HON := dd hOn; have HCN := dd hCn; clear hOn hCn hg0; go_wp2; exact ⟨⟨i + 1, Oo, by go_num, HON.out, HCN.out⟩, by simp [intOf]; omega⟩
    ·obtain rfl : i = k := Oo; rw [qOa] at hO; go_wp2; exact ⟨⟨i + 1, Oo, Oo, by go_num, hO, hC⟩, by simp [intOf]; omega⟩
  ·obtain rfl : k = n + 1 := Oo; have i1 : ¬ ((n + 1 : Nat) : Int) ≤ (n : Int) := Oo
   go_wp2_with fail
   rw [qNb (show 0 < m by omega) HW.2] at hO; have Br := hC.below hb2 (nl _) hb2s; have hs3 := Br.size; have Wr := W1.below Br; have hvr := hv1.below Br; have Lr := hO.r.ow.rd; have B3 := B1.trans (Br.mono B1s); clear hO hC Br hb2; refine (qCL _ n _ rfl Oo).mono ?_; rintro e w3 ⟨v3, rfl, hoX, hb3⟩; obtain ⟨oX, cX, rfl⟩ := hoX.shapeN (n := n) (qBm n); have hb3s := hb3.size
   go_wp2_with fail
   refine (qCL _ n _ rfl Oo).mono ?_; rintro e w4 ⟨v4, rfl, hoF, hb4⟩; obtain ⟨oF, cF, rfl⟩ := hoF.shapeN (n := n) (qBm n); have hb4s := hb4.size; have hoX := hoX.toR.bel2 hb4; obtain ⟨ux, hoX⟩ := hoX.named; obtain ⟨gX, rfl, hgl, hgl'⟩ := hoX.row Oo; obtain ⟨gF, rfl, -, -⟩ := hoF.row Oo; obtain ⟨o2, c2', hu2, cx2, how2, hbl2, hset2⟩ := hoX.at (qJN (show 1 < n by omega)); rw [qA8] at hu2 cx2 how2 hbl2 hset2; obtain ⟨gr, rfl, hgr1, hgr2⟩ := how2.row Oo; have hgr3 := hbl2 gr rfl; have hc0 := how2.cell (k := 0) (qA5 (by rw [qA8]; omega)); have hf0 := how2.fz 0; have hOn := hset2 _ _ (by rw [List.length_set, qA8]) (qAw (World.grownBy.refl w4 (some gr)) 0 (.int .i64 1)) (how2.put 0 1); rw [xT_set n h2] at hOn; have hX5 := hOn.r; have hF5 := hoF.low (k := 0) hgr3.2.1 (.int .i64 1); have hb5 := (hb3.trans (hb4.mono hb3s)).setCell (p := ⟨gr, 0, none⟩) hgr3.1 (.int .i64 1); have j1 : (1 : Int) < (n : Int) := Oo; have j2 : (0 : Int) < ((n - 1 : Nat) : Int) := Oo; have j3 : 0 < n - 1 := Oo; have j4 : 1 < n := Oo; clear hu2 how2 hbl2 hset2 hoX hoF
   go_wp2_with fail
   clear cx2 hc0 hf0; have h35 : w3.heap.size ≤ (w4.setCell ⟨gr, 0, none⟩ (.int .i64 1)).heap.size := by simp; omega
   generalize w4.setCell ⟨gr, 0, none⟩ (.int .i64 1) = w5 at hX5 hF5 hb5 h35 ⊢; have hb5s := hb5.size; have B5 := B3.trans (hb5.mono B3.size); have hv5 := hvr.below hb5; have W5 := Wr.below hb5; have L5 := Lr.below hb5; have hF5 := hF5.toR; clear hb3 hb4; obtain ⟨wA, rfl⟩ : ∃ u, u = wr := ⟨_, rfl⟩; have hAs := hb5.size; have hF5 := hF5; obtain ⟨uf, hF5⟩ := hF5.named; rw [qHS n W 0] at hF5; obtain ⟨hi5, hhi5⟩ : ∃ hi, w5.heap.size = hi := ⟨_, rfl⟩; rw [hhi5] at hF5
   go_loopw [13] (fun s wr => ∃ k : Nat, k ≤ n ∧ s = .int .i64 k ∧ OwSU uf w3.heap.size hi5 wr (.slice (some ⟨gF, 0, none⟩) n cF) (qCo n W 0 k) ∧ Chg w3.heap.size hi5 w5 wr) (fun i _ => n - (intOf i).toNat)
   case atStart => exact ⟨0, Nat.zero_le _, rfl, hF5, Chg.refl _ _ _⟩
   case round =>
    obtain ⟨k, hk, rfl, hO, hC⟩ := hrel; clear hF5; have Bq := hC.below (Below.refl w3.heap.size w5) (nl _) h35
    by_cases hlt : k < n
    ·have i1 : (k : Int) ≤ (n : Int) - 1 := Oo; have hBA : Below wA.heap.size wA wr := hb5.trans (Bq.mono hb3s); have cx := (Wr.below hBA).cell0 (qA5 (show k < W.length by rw [HW.1]; omega)); rw [Nat.zero_add] at cx; obtain ⟨o3, c3', hu3, cx3, how3, hbl3, hset3⟩ := hO.at (qHn hlt); rw [qA8] at hu3 cx3 how3 hbl3 hset3; obtain ⟨gq, rfl, hgq1, hgq2⟩ := how3.row Oo; have hgq3 := hbl3 gq rfl; have hc0 := how3.cell (k := 0) (qA5 (by rw [qA8]; omega)); have hf0 := how3.fz 0; have hN := dd how3; have hS := dd hset3; clear how3 hset3 hbl3 hu3; have i0 : (0 : Int) ≤ (k : Int) := Oo; have i2 : (k : Int) < (n : Int) := Oo; have i3 : (0 : Int) < ((n - k : Nat) : Int) := Oo; have i4 : (k : Int) < (n : Int) + 1 := Oo; have i5 : k < n + 1 := Oo; have i6 : 0 < n - k := Oo
     go_wp2_with fail
     go_still_tail 9, kr
     change wpList _ _ _ _ _ wr.drew
     have hg0 := qAw (qE0 (World.grownBy.refl wr (some gq)) 1) 0 (.int .i64 (at0 W k)); have hOn := hS.out _ _ (by rw [List.length_set, qA8]) hg0 ((hN.out.drewN 1).put 0 (at0 W k)); rw [qIa hlt] at hOn; have hCn := hC.grown hg0 hgq3.1 hgq3.2.1; have HON := dd hOn; have HCN := dd hCn; clear hOn hCn hg0; go_wp2; exact ⟨⟨k + 1, Oo, by go_num, HON.out, HCN.out⟩, by simp [intOf]; omega⟩
    ·obtain rfl : n = k := Oo; have i1 : ¬ (n : Int) ≤ (n : Int) - 1 := Oo; rw [qHN, qNL (show 0 < m by omega) HW.2] at hO; obtain ⟨w6, rfl⟩ : ∃ u, u = wr := ⟨_, rfl⟩; have hb6 : Below wA.heap.size wA w6 := hb5.trans (Bq.mono hb3s); have hb6s := hb6.size; have B6 := B3.trans (hb6.mono B3.size); have hv6 := hvr.below hb6; have W6 := Wr.below hb6; have L6 := Lr.below hb6; have X6 := (hX5.bel2 Bq).rd; have F6 := hO.r.ow.rd; clear hO hX5 Bq hb6 hb5 Wr Lr hvr B3 B5 hv5 W5 L5 hC
     go_wp2_with fail
     have m0 : (m == 0) = false := by simp; omega
     have m1 : ¬ m = 0 := Oo; obtain ⟨L, hL_⟩ : ∃ L, L = linT m n W := ⟨_, rfl⟩; have HLi : PlaT m n L := by rw [hL_]; exact PlaT.lin Oo n W
     rw [← hL_] at L6; have HLd := dd hL_; obtain ⟨X, hX_⟩ : ∃ X, X = xT n := ⟨_, rfl⟩; have HXi : PlaT m n X := by rw [hX_]; exact PlaT.xT hm n
     rw [← hX_] at X6; have HXd := dd hX_; obtain ⟨F, hF_⟩ : ∃ F, F = clnT m n (W.take n) := ⟨_, rfl⟩; have HFi : PlaT m n F := by rw [hF_]; exact PlaT.cln Oo n _
     rw [← hF_] at F6; have HFd := dd hF_; clear hL_ hX_ hF_; refine (qDX m n _ _ L X _ L6 X6 Oo Oo hm Oo HLi HXi).mono ?_; rintro e w7 ⟨v_, rfl, h_, hb⟩; obtain ⟨oA, cA, rfl⟩ := h_.shapeN (n := n) (qA9 _ _)
     (have hv7 := hv6.below hb; have W7 := W6.below hb; have L7 := L6.below hb; have X7 := X6.below hb; have F7 := F6.below hb; have B7 := B6.trans (hb.mono B6.size); clear hv6 W6 L6 X6 F6 B6)
     have A7 := h_.rd; clear hb h_
     go_wp2_with fail
     refine (qDK m (m - 1) n _ (qAO m n L X) _ A7 Oo hm hm' Oo Oo (by first | assumption | exact qAU Oo _ _ _ | exact qAX Oo _ _ _ | exact PlaT.sub Oo _ _ _ | exact PlaT.sca Oo _ _ _ | exact PlaT.one Oo _ | exact PlaT.inv Oo _ _ | exact qAF Oo _ _ _ | exact PlaT.cln Oo _ _)).mono ?_; rintro e w8 ⟨v_, rfl, h_, hb⟩; obtain ⟨oC, cC, rfl⟩ := h_.shapeN (n := n) (qA9 _ _)
     (have hv8 := hv7.below hb; have W8 := W7.below hb; have L8 := L7.below hb; have X8 := X7.below hb; have F8 := F7.below hb; have A8 := A7.below hb; have B8 := B7.trans (hb.mono B7.size); clear hv7 W7 L7 X7 F7 A7 B7)
     have C8 := h_.rd; clear hb h_
     go_wp2_with fail
     refine (qDk m n _ _ F (qAP m n (m - 1) (qAO m n L X)) _ F8 C8 Oo hm hm' HFi (by first | assumption | exact qAU Oo _ _ _ | exact qAX Oo _ _ _ | exact PlaT.sub Oo _ _ _ | exact PlaT.sca Oo _ _ _ | exact PlaT.one Oo _ | exact PlaT.inv Oo _ _ | exact qAF Oo _ _ _ | exact PlaT.cln Oo _ _)).mono ?_; rintro e w9 ⟨v_, rfl, h_, hb⟩; obtain ⟨oV, cV, rfl⟩ := h_.shapeN (n := n) (qA9 _ _)
     (have hv9 := hv8.below hb; have W9 := W8.below hb; have L9 := L8.below hb; have X9 := X8.below hb; have F9 := F8.below hb; have A9 := A8.below hb; have C9 := C8.below hb; have B9 := B8.trans (hb.mono B8.size); clear hv8 W8 L8 X8 F8 A8 C8 B8)
     have V9 := h_.rd; clear hb h_; obtain ⟨V, hV_⟩ : ∃ V, V = qAr m n F (qAP m n (m - 1) (qAO m n L X)) := ⟨_, rfl⟩; have HVi : PlaT m n V := by rw [hV_]; exact (by first | assumption | exact qAU Oo _ _ _ | exact qAX Oo _ _ _ | exact PlaT.sub Oo _ _ _ | exact PlaT.sca Oo _ _ _ | exact PlaT.one Oo _ | exact PlaT.inv Oo _ _ | exact qAF Oo _ _ _ | exact PlaT.cln Oo _ _)
     rw [← hV_] at V9; have HVd := dd hV_; clear hV_; clear A9 C9 F9
     go_wp2_with fail
     refine (qDX m n _ _ L L _ L9 L9 Oo Oo hm Oo HLi HLi).mono ?_; rintro e w10 ⟨v_, rfl, h_, hb⟩; obtain ⟨oQ, cQ, rfl⟩ := h_.shapeN (n := n) (qA9 _ _)
     (have hv10 := hv9.below hb; have W10 := W9.below hb; have L10 := L9.below hb; have X10 := X9.below hb; have V10 := V9.below hb; have B10 := B9.trans (hb.mono B9.size); clear hv9 W9 L9 X9 V9 B9)
     have Q10 := h_.rd; clear hb h_; obtain ⟨Q, hQ_⟩ : ∃ Q, Q = qAO m n L L := ⟨_, rfl⟩; have HQi : PlaT m n Q := by rw [hQ_]; exact (by first | assumption | exact qAU Oo _ _ _ | exact qAX Oo _ _ _ | exact PlaT.sub Oo _ _ _ | exact PlaT.sca Oo _ _ _ | exact PlaT.one Oo _ | exact PlaT.inv Oo _ _ | exact qAF Oo _ _ _ | exact PlaT.cln Oo _ _)
     rw [← hQ_] at Q10; have HQd := dd hQ_; clear hQ_
     go_wp2_with fail
     go_cut [16] from 94 to 107 (fun s u => ∃ (o : Option Addr) (c : Nat), s = .slice o n c ∧ RdT u (.slice o n c) (qAr m n (qAP m n (at0 ls 0) L) (qAP m n (at0 ls 1) V)) ∧ Below w10.heap.size w10 u)
     case first =>
      as_aux_lemma =>
      have hd0 : Below w10.heap.size w10 w10.drew := (Below.refl _ _).drew; have hsd0 := hd0.size; have q0_0 := (((hv10).below (Below.refl w10.heap.size w10) (nl _))).cellz (qA5 (show 0 < ls.length by have := HL.out; omega)); have q0_1 := (((hv10).below (Below.refl w10.heap.size w10) (nl _))).cell0 (qA5 (show 1 < ls.length by have := HL.out; omega)); refine qAv (S := fun w' => w'.cell? ⟨bl, fl, none⟩ = some (.int .i64 (at0 ls 0)) ∧ w'.cell? ⟨bl, fl + 1, none⟩ = some (.int .i64 (at0 ls 1))) [14] kr ?_; refine wKq (by go_keep) fun hHeld => ?_
      refine' tJ 0 hHeld ?_; refine' tJ 1 hHeld ?_; refine' tJ 2 hHeld ?_; refine' tJ 3 hHeld ?_; refine' tJ 4 hHeld ?_; refine' tJ 5 hHeld ?_; refine' tJ 7 hHeld ?_; refine' tJ 8 hHeld ?_; refine' tJ 9 hHeld ?_; refine' tJ 10 hHeld ?_; refine' tJ 11 hHeld ?_; refine qA1 (i := 6) rfl kr (fun K hK => ?_); go_simp
      go_at_call 175
      refine (qDK m (at0 ls 0) n _ L _ ((L10).below bZ (nl _)) Oo hm hm' Oo Oo (by first | assumption | exact qAU Oo _ _ _ | exact qAX Oo _ _ _ | exact PlaT.sub Oo _ _ _ | exact PlaT.sca Oo _ _ _ | exact PlaT.one Oo _ | exact PlaT.inv Oo _ _ | exact qAF Oo _ _ _ | exact PlaT.cln Oo _ _)).mono ?_; rintro e wd1 ⟨_, rfl, hod1, hbd1⟩; have hsq1 := hbd1.size; obtain ⟨oA, cA, rfl⟩ := hod1.shapeN (n := n) (qA9 _ _); have hd1 : Below w10.heap.size w10 wd1 := (bY1 hbd1); have hsd1 := hd1.size; have hsz1_ := hbd1.size
      (try simp at hsz1_)
      have q1_0 := (((hv10).below hd1)).cellz (qA5 (show 0 < ls.length by have := HL.out; omega)); have q1_1 := (((hv10).below hd1)).cell0 (qA5 (show 1 < ls.length by have := HL.out; omega))
      go_wp2_with fail
      clear hHeld; refine oKq hK (by go_keep) fun hHeld => ?_
      clear hK K
      try simp only [Act.put, sL]
      refine qA1 (i := 12) rfl kr (fun K hK => ?_); go_simp
      go_at_call 175
      refine (qDK m (at0 ls 1) n _ V _ ((V10).below (bY1 hbd1) (nl _)) Oo hm hm' Oo Oo (by first | assumption | exact qAU Oo _ _ _ | exact qAX Oo _ _ _ | exact PlaT.sub Oo _ _ _ | exact PlaT.sca Oo _ _ _ | exact PlaT.one Oo _ | exact PlaT.inv Oo _ _ | exact qAF Oo _ _ _ | exact PlaT.cln Oo _ _)).mono ?_; rintro e wd2 ⟨_, rfl, hod2, hbd2⟩; have hsq2 := hbd2.size; obtain ⟨oC, cC, rfl⟩ := hod2.shapeN (n := n) (qA9 _ _); have hd2 : Below w10.heap.size w10 wd2 := (bY2 hbd1 hbd2); have hsd2 := hd2.size; have hsz2_ := hbd2.size
      (try simp at hsz2_)
      have q2_0 := (((hv10).below hd2)).cellz (qA5 (show 0 < ls.length by have := HL.out; omega)); have q2_1 := (((hv10).below hd2)).cell0 (qA5 (show 1 < ls.length by have := HL.out; omega))
      go_wp2_with fail
      clear hHeld; refine oKq hK (by go_keep) fun hHeld => ?_
      clear hK K
      try simp only [Act.put, sL]
      refine qA1 (i := 13) rfl kr (fun K hK => ?_); go_simp
      go_at_call 174
      refine (qDk m n _ _ (qAP m n (at0 ls 0) L) (qAP m n (at0 ls 1) V) _ ((hod1.below (bY1 hbd2))).rd ((hod2.below bZ)).rd Oo hm hm' (by first | assumption | exact qAU Oo _ _ _ | exact qAX Oo _ _ _ | exact PlaT.sub Oo _ _ _ | exact PlaT.sca Oo _ _ _ | exact PlaT.one Oo _ | exact PlaT.inv Oo _ _ | exact qAF Oo _ _ _ | exact PlaT.cln Oo _ _) (by first | assumption | exact qAU Oo _ _ _ | exact qAX Oo _ _ _ | exact PlaT.sub Oo _ _ _ | exact PlaT.sca Oo _ _ _ | exact PlaT.one Oo _ | exact PlaT.inv Oo _ _ | exact qAF Oo _ _ _ | exact PlaT.cln Oo _ _)).mono ?_; rintro e wd3 ⟨_, rfl, hod3, hbd3⟩; have hsq3 := hbd3.size; obtain ⟨oD, cD, rfl⟩ := hod3.shapeN (n := n) (qA9 _ _); have hd3 : Below w10.heap.size w10 wd3 := (bY3 hbd1 hbd2 hbd3); have hsd3 := hd3.size; have hsz3_ := hbd3.size
      (try simp at hsz3_)
      have q3_0 := (((hv10).below hd3)).cellz (qA5 (show 0 < ls.length by have := HL.out; omega)); have q3_1 := (((hv10).below hd3)).cell0 (qA5 (show 1 < ls.length by have := HL.out; omega))
      go_wp2_with fail
      clear hHeld; refine oKq hK (by go_keep) fun hHeld => ?_
      clear hK K
      try simp only [Act.put, sL]
      refine qA1 (i := 14) rfl kr (fun K hK => ?_); go_simp
      (try go_wp2_with fail)
      refine hK.out _ _ (nD ·) ?_; clear hK K
      try simp only [Act.put, sL]
      refine qAT kr ?_ _
      go_wp2_with fail
      go_meet
      exact ⟨oD, cD, rfl, hod3.rd, hd3⟩
     case rest =>
     obtain ⟨w11, rfl⟩ : ∃ u, u = wc := ⟨_, rfl⟩; obtain ⟨oT, cT, rfl, h_, hb⟩ := hcut
     (have hv11 := hv10.below hb; have W11 := W10.below hb; have L11 := L10.below hb; have X11 := X10.below hb; have V11 := V10.below hb; have Q11 := Q10.below hb; have B11 := B10.trans (hb.mono B10.size); clear hv10 W10 L10 X10 V10 Q10 B10)
     have T11 := h_; clear hb h_; obtain ⟨T, hT_⟩ : ∃ T, T = (qAr m n (qAP m n (at0 ls 0) L) (qAP m n (at0 ls 1) V)) := ⟨_, rfl⟩; have HTi : PlaT m n T := by rw [hT_]; exact (by first | assumption | exact qAU Oo _ _ _ | exact qAX Oo _ _ _ | exact PlaT.sub Oo _ _ _ | exact PlaT.sca Oo _ _ _ | exact PlaT.one Oo _ | exact PlaT.inv Oo _ _ | exact qAF Oo _ _ _ | exact PlaT.cln Oo _ _)
     rw [← hT_] at T11; have HTd := dd hT_; clear hT_; have q2_ := hv11.cell0 (qA5 (show 2 < ls.length by have := HL.out; omega))
     go_wp2_with fail
     clear q2_; refine (qDK m (at0 ls 2) n _ Q _ Q11 Oo hm hm' Oo Oo HQi).mono ?_; rintro e w12 ⟨v_, rfl, h_, hb⟩; obtain ⟨oA, cA, rfl⟩ := h_.shapeN (n := n) (qA9 _ _)
     (have hv12 := hv11.below hb; have W12 := W11.below hb; have L12 := L11.below hb; have X12 := X11.below hb; have V12 := V11.below hb; have Q12 := Q11.below hb; have T12 := T11.below hb; have B12 := B11.trans (hb.mono B11.size); clear hv11 W11 L11 X11 V11 Q11 T11 B11)
     have A12 := h_.rd; clear hb h_
     go_wp2_with fail
     refine (qDk m n _ _ T (qAP m n (at0 ls 2) Q) _ T12 A12 Oo hm hm' HTi (by first | assumption | exact qAU Oo _ _ _ | exact qAX Oo _ _ _ | exact PlaT.sub Oo _ _ _ | exact PlaT.sca Oo _ _ _ | exact PlaT.one Oo _ | exact PlaT.inv Oo _ _ | exact qAF Oo _ _ _ | exact PlaT.cln Oo _ _)).mono ?_; rintro e w13 ⟨v_, rfl, h_, hb⟩; obtain ⟨oU, cU, rfl⟩ := h_.shapeN (n := n) (qA9 _ _)
     (have hv13 := hv12.below hb; have W13 := W12.below hb; have L13 := L12.below hb; have X13 := X12.below hb; have V13 := V12.below hb; have Q13 := Q12.below hb; have T13 := T12.below hb; have A13 := A12.below hb; have B13 := B12.trans (hb.mono B12.size); clear hv12 W12 L12 X12 V12 Q12 T12 A12 B12)
     have U13 := h_.rd; clear hb h_; obtain ⟨U, hU_⟩ : ∃ U, U = qAr m n T (qAP m n (at0 ls 2) Q) := ⟨_, rfl⟩; have HUi : PlaT m n U := by rw [hU_]; exact (by first | assumption | exact qAU Oo _ _ _ | exact qAX Oo _ _ _ | exact PlaT.sub Oo _ _ _ | exact PlaT.sca Oo _ _ _ | exact PlaT.one Oo _ | exact PlaT.inv Oo _ _ | exact qAF Oo _ _ _ | exact PlaT.cln Oo _ _)
     rw [← hU_] at U13; have HU0 := dd hU_; clear hU_; clear T13 A13; have e3 : IntKind.i64.wrap (2 * at0 ls 3) = 2 * at0 ls 3 := IntWalk.i64_in _ Oo; have e4 : IntKind.i64.wrap (3 * at0 ls 4) = 3 * at0 ls 4 := IntWalk.i64_in _ Oo; have t3 : (2 * at0 ls 3).tmod m = 2 * at0 ls 3 % m := Int.tmod_eq_emod_of_nonneg Oo; have t4 : (3 * at0 ls 4).tmod m = 3 * at0 ls 4 % m := Int.tmod_eq_emod_of_nonneg Oo; have k3 := qA6 (a := 2 * at0 ls 3) (show 0 < m by omega); have k4 := qA6 (a := 3 * at0 ls 4) (show 0 < m by omega)
     go_wp2_with fail
     go_cut [16] from 117 to 131 (fun s u => ∃ (o : Option Addr) (c : Nat), s = .slice o n c ∧ RdT u (.slice o n c) (qAr m n U (qAP m n (2 * at0 ls 3 % m) (qAO m n L V))) ∧ Below w13.heap.size w13 u)
     case first =>
      as_aux_lemma =>
      have hd0 : Below w13.heap.size w13 w13.drew := (Below.refl _ _).drew; have hsd0 := hd0.size; have q0_3 := (((hv13).below (Below.refl w13.heap.size w13) (nl _))).cell0 (qA5 (show 3 < ls.length by have := HL.out; omega)); refine qAv (S := fun w' => w'.cell? ⟨bl, fl + 3, none⟩ = some (.int .i64 (at0 ls 3))) [15] kr ?_; refine wKq (by go_keep) fun hHeld => ?_
      refine' tJ 0 hHeld ?_; refine' tJ 1 hHeld ?_; refine' tJ 2 hHeld ?_; refine' tJ 3 hHeld ?_; refine' tJ 4 hHeld ?_; refine' tJ 5 hHeld ?_; refine' tJ 6 hHeld ?_; refine' tJ 7 hHeld ?_; refine' tJ 8 hHeld ?_; refine' tJ 9 hHeld ?_; refine' tJ 10 hHeld ?_; refine' tJ 11 hHeld ?_; refine qA1 (i := 12) rfl kr (fun K hK => ?_); go_simp
      go_at_call 158
      refine (qDX m n _ _ L V _ ((L13).below bZ (nl _)) ((V13).below bZ (nl _)) Oo Oo hm Oo (by first | assumption | exact qAU Oo _ _ _ | exact qAX Oo _ _ _ | exact PlaT.sub Oo _ _ _ | exact PlaT.sca Oo _ _ _ | exact PlaT.one Oo _ | exact PlaT.inv Oo _ _ | exact qAF Oo _ _ _ | exact PlaT.cln Oo _ _) (by first | assumption | exact qAU Oo _ _ _ | exact qAX Oo _ _ _ | exact PlaT.sub Oo _ _ _ | exact PlaT.sca Oo _ _ _ | exact PlaT.one Oo _ | exact PlaT.inv Oo _ _ | exact qAF Oo _ _ _ | exact PlaT.cln Oo _ _)).mono ?_; rintro e wd1 ⟨_, rfl, hod1, hbd1⟩; have hsq1 := hbd1.size; obtain ⟨oA, cA, rfl⟩ := hod1.shapeN (n := n) (qA9 _ _); have hd1 : Below w13.heap.size w13 wd1 := (bY1 hbd1); have hsd1 := hd1.size; have hsz1_ := hbd1.size
      (try simp at hsz1_)
      have q1_3 := (((hv13).below hd1)).cell0 (qA5 (show 3 < ls.length by have := HL.out; omega))
      go_wp2_with fail
      clear hHeld; refine oKq hK (by go_keep) fun hHeld => ?_
      clear hK K
      try simp only [Act.put, sL]
      refine qA1 (i := 13) rfl kr (fun K hK => ?_); go_simp
      go_at_call 175
      refine (qDK m (2 * at0 ls 3 % m) n _ (qAO m n L V) _ ((hod1.below bZ)).rd Oo hm hm' Oo Oo (by first | assumption | exact qAU Oo _ _ _ | exact qAX Oo _ _ _ | exact PlaT.sub Oo _ _ _ | exact PlaT.sca Oo _ _ _ | exact PlaT.one Oo _ | exact PlaT.inv Oo _ _ | exact qAF Oo _ _ _ | exact PlaT.cln Oo _ _)).mono ?_; rintro e wd2 ⟨_, rfl, hod2, hbd2⟩; have hsq2 := hbd2.size; obtain ⟨oC, cC, rfl⟩ := hod2.shapeN (n := n) (qA9 _ _); have hd2 : Below w13.heap.size w13 wd2 := (bY2 hbd1 hbd2); have hsd2 := hd2.size; have hsz2_ := hbd2.size
      (try simp at hsz2_)
      have q2_3 := (((hv13).below hd2)).cell0 (qA5 (show 3 < ls.length by have := HL.out; omega))
      go_wp2_with fail
      clear hHeld; refine oKq hK (by go_keep) fun hHeld => ?_
      clear hK K
      try simp only [Act.put, sL]
      refine qA1 (i := 14) rfl kr (fun K hK => ?_); go_simp
      go_at_call 174
      refine (qDk m n _ _ U (qAP m n (2 * at0 ls 3 % m) (qAO m n L V)) _ ((U13).below (bY2 hbd1 hbd2) (nl _)) ((hod2.below bZ)).rd Oo hm hm' (by first | assumption | exact qAU Oo _ _ _ | exact qAX Oo _ _ _ | exact PlaT.sub Oo _ _ _ | exact PlaT.sca Oo _ _ _ | exact PlaT.one Oo _ | exact PlaT.inv Oo _ _ | exact qAF Oo _ _ _ | exact PlaT.cln Oo _ _) (by first | assumption | exact qAU Oo _ _ _ | exact qAX Oo _ _ _ | exact PlaT.sub Oo _ _ _ | exact PlaT.sca Oo _ _ _ | exact PlaT.one Oo _ | exact PlaT.inv Oo _ _ | exact qAF Oo _ _ _ | exact PlaT.cln Oo _ _)).mono ?_; rintro e wd3 ⟨_, rfl, hod3, hbd3⟩; have hsq3 := hbd3.size; obtain ⟨oD, cD, rfl⟩ := hod3.shapeN (n := n) (qA9 _ _); have hd3 : Below w13.heap.size w13 wd3 := (bY3 hbd1 hbd2 hbd3); have hsd3 := hd3.size; have hsz3_ := hbd3.size
      (try simp at hsz3_)
      have q3_3 := (((hv13).below hd3)).cell0 (qA5 (show 3 < ls.length by have := HL.out; omega))
      go_wp2_with fail
      clear hHeld; refine oKq hK (by go_keep) fun hHeld => ?_
      clear hK K
      try simp only [Act.put, sL]
      refine qA1 (i := 15) rfl kr (fun K hK => ?_); go_simp
      (try go_wp2_with fail)
      refine hK.out _ _ (nD ·) ?_; clear hK K
      try simp only [Act.put, sL]
      refine qAT kr ?_ _
      go_wp2_with fail
      go_meet
      exact ⟨oD, cD, rfl, hod3.rd, hd3⟩
     case rest =>
     obtain ⟨w14, rfl⟩ : ∃ u, u = wc := ⟨_, rfl⟩; obtain ⟨oG, cG, rfl, h_, hb⟩ := hcut
     (have hv14 := hv13.below hb; have W14 := W13.below hb; have L14 := L13.below hb; have X14 := X13.below hb; have V14 := V13.below hb; have Q14 := Q13.below hb; have U14 := U13.below hb; have B14 := B13.trans (hb.mono B13.size); clear hv13 W13 L13 X13 V13 Q13 U13 B13)
     have G14 := h_; clear hb h_; obtain ⟨G, hG_⟩ : ∃ G, G = (qAr m n U (qAP m n (2 * at0 ls 3 % m) (qAO m n L V))) := ⟨_, rfl⟩; have HGi : PlaT m n G := by rw [hG_]; exact (by first | assumption | exact qAU Oo _ _ _ | exact qAX Oo _ _ _ | exact PlaT.sub Oo _ _ _ | exact PlaT.sca Oo _ _ _ | exact PlaT.one Oo _ | exact PlaT.inv Oo _ _ | exact qAF Oo _ _ _ | exact PlaT.cln Oo _ _)
     rw [← hG_] at G14; have HGd := dd hG_; clear hG_; clear U14
     go_wp2_with fail
     go_cut [16] from 132 to 146 (fun s u => ∃ (o : Option Addr) (c : Nat), s = .slice o n c ∧ RdT u (.slice o n c) (qAr m n G (qAP m n (3 * at0 ls 4 % m) (qAO m n Q V))) ∧ Below w14.heap.size w14 u)
     case first =>
      as_aux_lemma =>
      have hd0 : Below w14.heap.size w14 w14.drew := (Below.refl _ _).drew; have hsd0 := hd0.size; have q0_4 := (((hv14).below (Below.refl w14.heap.size w14) (nl _))).cell0 (qA5 (show 4 < ls.length by have := HL.out; omega)); refine qAv (S := fun w' => w'.cell? ⟨bl, fl + 4, none⟩ = some (.int .i64 (at0 ls 4))) [15] kr ?_; refine wKq (by go_keep) fun hHeld => ?_
      refine' tJ 0 hHeld ?_; refine' tJ 1 hHeld ?_; refine' tJ 2 hHeld ?_; refine' tJ 3 hHeld ?_; refine' tJ 4 hHeld ?_; refine' tJ 5 hHeld ?_; refine' tJ 6 hHeld ?_; refine' tJ 7 hHeld ?_; refine' tJ 8 hHeld ?_; refine' tJ 9 hHeld ?_; refine' tJ 10 hHeld ?_; refine' tJ 11 hHeld ?_; refine qA1 (i := 12) rfl kr (fun K hK => ?_); go_simp
      go_at_call 158
      refine (qDX m n _ _ Q V _ ((Q14).below bZ (nl _)) ((V14).below bZ (nl _)) Oo Oo hm Oo (by first | assumption | exact qAU Oo _ _ _ | exact qAX Oo _ _ _ | exact PlaT.sub Oo _ _ _ | exact PlaT.sca Oo _ _ _ | exact PlaT.one Oo _ | exact PlaT.inv Oo _ _ | exact qAF Oo _ _ _ | exact PlaT.cln Oo _ _) (by first | assumption | exact qAU Oo _ _ _ | exact qAX Oo _ _ _ | exact PlaT.sub Oo _ _ _ | exact PlaT.sca Oo _ _ _ | exact PlaT.one Oo _ | exact PlaT.inv Oo _ _ | exact qAF Oo _ _ _ | exact PlaT.cln Oo _ _)).mono ?_; rintro e wd1 ⟨_, rfl, hod1, hbd1⟩; have hsq1 := hbd1.size; obtain ⟨oA, cA, rfl⟩ := hod1.shapeN (n := n) (qA9 _ _); have hd1 : Below w14.heap.size w14 wd1 := (bY1 hbd1); have hsd1 := hd1.size; have hsz1_ := hbd1.size
      (try simp at hsz1_)
      have q1_4 := (((hv14).below hd1)).cell0 (qA5 (show 4 < ls.length by have := HL.out; omega))
      go_wp2_with fail
      clear hHeld; refine oKq hK (by go_keep) fun hHeld => ?_
      clear hK K
      try simp only [Act.put, sL]
      refine qA1 (i := 13) rfl kr (fun K hK => ?_); go_simp
      go_at_call 175
      refine (qDK m (3 * at0 ls 4 % m) n _ (qAO m n Q V) _ ((hod1.below bZ)).rd Oo hm hm' Oo Oo (by first | assumption | exact qAU Oo _ _ _ | exact qAX Oo _ _ _ | exact PlaT.sub Oo _ _ _ | exact PlaT.sca Oo _ _ _ | exact PlaT.one Oo _ | exact PlaT.inv Oo _ _ | exact qAF Oo _ _ _ | exact PlaT.cln Oo _ _)).mono ?_; rintro e wd2 ⟨_, rfl, hod2, hbd2⟩; have hsq2 := hbd2.size; obtain ⟨oC, cC, rfl⟩ := hod2.shapeN (n := n) (qA9 _ _); have hd2 : Below w14.heap.size w14 wd2 := (bY2 hbd1 hbd2); have hsd2 := hd2.size; have hsz2_ := hbd2.size
      (try simp at hsz2_)
      have q2_4 := (((hv14).below hd2)).cell0 (qA5 (show 4 < ls.length by have := HL.out; omega))
      go_wp2_with fail
      clear hHeld; refine oKq hK (by go_keep) fun hHeld => ?_
      clear hK K
      try simp only [Act.put, sL]
      refine qA1 (i := 14) rfl kr (fun K hK => ?_); go_simp
      go_at_call 174
      refine (qDk m n _ _ G (qAP m n (3 * at0 ls 4 % m) (qAO m n Q V)) _ ((G14).below (bY2 hbd1 hbd2) (nl _)) ((hod2.below bZ)).rd Oo hm hm' (by first | assumption | exact qAU Oo _ _ _ | exact qAX Oo _ _ _ | exact PlaT.sub Oo _ _ _ | exact PlaT.sca Oo _ _ _ | exact PlaT.one Oo _ | exact PlaT.inv Oo _ _ | exact qAF Oo _ _ _ | exact PlaT.cln Oo _ _) (by first | assumption | exact qAU Oo _ _ _ | exact qAX Oo _ _ _ | exact PlaT.sub Oo _ _ _ | exact PlaT.sca Oo _ _ _ | exact PlaT.one Oo _ | exact PlaT.inv Oo _ _ | exact qAF Oo _ _ _ | exact PlaT.cln Oo _ _)).mono ?_; rintro e wd3 ⟨_, rfl, hod3, hbd3⟩; have hsq3 := hbd3.size; obtain ⟨oD, cD, rfl⟩ := hod3.shapeN (n := n) (qA9 _ _); have hd3 : Below w14.heap.size w14 wd3 := (bY3 hbd1 hbd2 hbd3); have hsd3 := hd3.size; have hsz3_ := hbd3.size
      (try simp at hsz3_)
      have q3_4 := (((hv14).below hd3)).cell0 (qA5 (show 4 < ls.length by have := HL.out; omega))
      go_wp2_with fail
      clear hHeld; refine oKq hK (by go_keep) fun hHeld => ?_
      clear hK K
      try simp only [Act.put, sL]
      refine qA1 (i := 15) rfl kr (fun K hK => ?_); go_simp
      (try go_wp2_with fail)
      refine hK.out _ _ (nD ·) ?_; clear hK K
      try simp only [Act.put, sL]
      refine qAT kr ?_ _
      go_wp2_with fail
      go_meet
      exact ⟨oD, cD, rfl, hod3.rd, hd3⟩
     case rest =>
     obtain ⟨w15, rfl⟩ : ∃ u, u = wc := ⟨_, rfl⟩; obtain ⟨oH, cH, rfl, h_, hb⟩ := hcut
     (have hv15 := hv14.below hb; have W15 := W14.below hb; have L15 := L14.below hb; have X15 := X14.below hb; have V15 := V14.below hb; have Q15 := Q14.below hb; have G15 := G14.below hb; have B15 := B14.trans (hb.mono B14.size); clear hv14 W14 L14 X14 V14 Q14 G14 B14)
     have H15 := h_; clear hb h_; obtain ⟨H, hH_⟩ : ∃ H, H = (qAr m n G (qAP m n (3 * at0 ls 4 % m) (qAO m n Q V))) := ⟨_, rfl⟩; have HHi : PlaT m n H := by rw [hH_]; exact (by first | assumption | exact qAU Oo _ _ _ | exact qAX Oo _ _ _ | exact PlaT.sub Oo _ _ _ | exact PlaT.sca Oo _ _ _ | exact PlaT.one Oo _ | exact PlaT.inv Oo _ _ | exact qAF Oo _ _ _ | exact PlaT.cln Oo _ _)
     rw [← hH_] at H15; have HHd := dd hH_; clear hH_; clear G15 V15
     go_wp2_with fail
     go_cut [17] from 147 to 160 (fun s u => ∃ (o : Option Addr) (c : Nat), s = .slice o n c ∧ RdT u (.slice o n c) (qAr m n (qAP m n (at0 ls 1) L) (qAP m n (at0 ls 3) Q)) ∧ Below w15.heap.size w15 u)
     case first =>
      as_aux_lemma =>
      have hd0 : Below w15.heap.size w15 w15.drew := (Below.refl _ _).drew; have hsd0 := hd0.size; have q0_1 := (((hv15).below (Below.refl w15.heap.size w15) (nl _))).cell0 (qA5 (show 1 < ls.length by have := HL.out; omega)); have q0_3 := (((hv15).below (Below.refl w15.heap.size w15) (nl _))).cell0 (qA5 (show 3 < ls.length by have := HL.out; omega)); refine qAv (S := fun w' => w'.cell? ⟨bl, fl + 1, none⟩ = some (.int .i64 (at0 ls 1)) ∧ w'.cell? ⟨bl, fl + 3, none⟩ = some (.int .i64 (at0 ls 3))) [14] kr ?_; refine wKq (by go_keep) fun hHeld => ?_
      refine' tJ 0 hHeld ?_; refine' tJ 1 hHeld ?_; refine' tJ 2 hHeld ?_; refine' tJ 3 hHeld ?_; refine' tJ 4 hHeld ?_; refine' tJ 5 hHeld ?_; refine' tJ 7 hHeld ?_; refine' tJ 8 hHeld ?_; refine' tJ 9 hHeld ?_; refine' tJ 10 hHeld ?_; refine' tJ 11 hHeld ?_; refine qA1 (i := 6) rfl kr (fun K hK => ?_); go_simp
      go_at_call 175
      refine (qDK m (at0 ls 1) n _ L _ ((L15).below bZ (nl _)) Oo hm hm' Oo Oo (by first | assumption | exact qAU Oo _ _ _ | exact qAX Oo _ _ _ | exact PlaT.sub Oo _ _ _ | exact PlaT.sca Oo _ _ _ | exact PlaT.one Oo _ | exact PlaT.inv Oo _ _ | exact qAF Oo _ _ _ | exact PlaT.cln Oo _ _)).mono ?_; rintro e wd1 ⟨_, rfl, hod1, hbd1⟩; have hsq1 := hbd1.size; obtain ⟨oA, cA, rfl⟩ := hod1.shapeN (n := n) (qA9 _ _); have hd1 : Below w15.heap.size w15 wd1 := (bY1 hbd1); have hsd1 := hd1.size; have hsz1_ := hbd1.size
      (try simp at hsz1_)
      have q1_1 := (((hv15).below hd1)).cell0 (qA5 (show 1 < ls.length by have := HL.out; omega)); have q1_3 := (((hv15).below hd1)).cell0 (qA5 (show 3 < ls.length by have := HL.out; omega))
      go_wp2_with fail
      clear hHeld; refine oKq hK (by go_keep) fun hHeld => ?_
      clear hK K
      try simp only [Act.put, sL]
      refine qA1 (i := 12) rfl kr (fun K hK => ?_); go_simp
      go_at_call 175
      refine (qDK m (at0 ls 3) n _ Q _ ((Q15).below (bY1 hbd1) (nl _)) Oo hm hm' Oo Oo (by first | assumption | exact qAU Oo _ _ _ | exact qAX Oo _ _ _ | exact PlaT.sub Oo _ _ _ | exact PlaT.sca Oo _ _ _ | exact PlaT.one Oo _ | exact PlaT.inv Oo _ _ | exact qAF Oo _ _ _ | exact PlaT.cln Oo _ _)).mono ?_; rintro e wd2 ⟨_, rfl, hod2, hbd2⟩; have hsq2 := hbd2.size; obtain ⟨oC, cC, rfl⟩ := hod2.shapeN (n := n) (qA9 _ _); have hd2 : Below w15.heap.size w15 wd2 := (bY2 hbd1 hbd2); have hsd2 := hd2.size; have hsz2_ := hbd2.size
      (try simp at hsz2_)
      have q2_1 := (((hv15).below hd2)).cell0 (qA5 (show 1 < ls.length by have := HL.out; omega)); have q2_3 := (((hv15).below hd2)).cell0 (qA5 (show 3 < ls.length by have := HL.out; omega))
      go_wp2_with fail
      clear hHeld; refine oKq hK (by go_keep) fun hHeld => ?_
      clear hK K
      try simp only [Act.put, sL]
      refine qA1 (i := 13) rfl kr (fun K hK => ?_); go_simp
      go_at_call 174
      refine (qDk m n _ _ (qAP m n (at0 ls 1) L) (qAP m n (at0 ls 3) Q) _ ((hod1.below (bY1 hbd2))).rd ((hod2.below bZ)).rd Oo hm hm' (by first | assumption | exact qAU Oo _ _ _ | exact qAX Oo _ _ _ | exact PlaT.sub Oo _ _ _ | exact PlaT.sca Oo _ _ _ | exact PlaT.one Oo _ | exact PlaT.inv Oo _ _ | exact qAF Oo _ _ _ | exact PlaT.cln Oo _ _) (by first | assumption | exact qAU Oo _ _ _ | exact qAX Oo _ _ _ | exact PlaT.sub Oo _ _ _ | exact PlaT.sca Oo _ _ _ | exact PlaT.one Oo _ | exact PlaT.inv Oo _ _ | exact qAF Oo _ _ _ | exact PlaT.cln Oo _ _)).mono ?_; rintro e wd3 ⟨_, rfl, hod3, hbd3⟩; have hsq3 := hbd3.size; obtain ⟨oD, cD, rfl⟩ := hod3.shapeN (n := n) (qA9 _ _); have hd3 : Below w15.heap.size w15 wd3 := (bY3 hbd1 hbd2 hbd3); have hsd3 := hd3.size; have hsz3_ := hbd3.size
      (try simp at hsz3_)
      have q3_1 := (((hv15).below hd3)).cell0 (qA5 (show 1 < ls.length by have := HL.out; omega)); have q3_3 := (((hv15).below hd3)).cell0 (qA5 (show 3 < ls.length by have := HL.out; omega))
      go_wp2_with fail
      clear hHeld; refine oKq hK (by go_keep) fun hHeld => ?_
      clear hK K
      try simp only [Act.put, sL]
      refine qA1 (i := 14) rfl kr (fun K hK => ?_); go_simp
      (try go_wp2_with fail)
      refine hK.out _ _ (nD ·) ?_; clear hK K
      try simp only [Act.put, sL]
      refine qAT kr ?_ _
      go_wp2_with fail
      go_meet
      exact ⟨oD, cD, rfl, hod3.rd, hd3⟩
     case rest =>
     obtain ⟨w16, rfl⟩ : ∃ u, u = wc := ⟨_, rfl⟩; obtain ⟨oI, cI, rfl, h_, hb⟩ := hcut
     (have hv16 := hv15.below hb; have W16 := W15.below hb; have L16 := L15.below hb; have X16 := X15.below hb; have Q16 := Q15.below hb; have H16 := H15.below hb; have B16 := B15.trans (hb.mono B15.size); clear hv15 W15 L15 X15 Q15 H15 B15)
     have I16 := h_; clear hb h_; obtain ⟨I, hI_⟩ : ∃ I, I = (qAr m n (qAP m n (at0 ls 1) L) (qAP m n (at0 ls 3) Q)) := ⟨_, rfl⟩; have HIi : PlaT m n I := by rw [hI_]; exact (by first | assumption | exact qAU Oo _ _ _ | exact qAX Oo _ _ _ | exact PlaT.sub Oo _ _ _ | exact PlaT.sca Oo _ _ _ | exact PlaT.one Oo _ | exact PlaT.inv Oo _ _ | exact qAF Oo _ _ _ | exact PlaT.cln Oo _ _)
     rw [← hI_] at I16; have HId := dd hI_; clear hI_
     go_wp2_with fail
     go_cut [17] from 161 to 172 (fun s u => ∃ (o : Option Addr) (c : Nat), s = .slice o n c ∧ RdT u (.slice o n c) (qAr m n I (qAP m n (at0 ls 4) (qAO m n Q L))) ∧ Below w16.heap.size w16 u)
     case first =>
      as_aux_lemma =>
      have hd0 : Below w16.heap.size w16 w16.drew := (Below.refl _ _).drew; have hsd0 := hd0.size; have q0_4 := (((hv16).below (Below.refl w16.heap.size w16) (nl _))).cell0 (qA5 (show 4 < ls.length by have := HL.out; omega)); refine qAv (S := fun w' => w'.cell? ⟨bl, fl + 4, none⟩ = some (.int .i64 (at0 ls 4))) [12] kr ?_; refine wKq (by go_keep) fun hHeld => ?_
      refine' tJ 0 hHeld ?_; refine' tJ 1 hHeld ?_; refine' tJ 2 hHeld ?_; refine' tJ 3 hHeld ?_; refine' tJ 4 hHeld ?_; refine' tJ 5 hHeld ?_; refine' tJ 6 hHeld ?_; refine' tJ 7 hHeld ?_; refine' tJ 8 hHeld ?_; refine qA1 (i := 9) rfl kr (fun K hK => ?_); go_simp
      go_at_call 158
      refine (qDX m n _ _ Q L _ ((Q16).below bZ (nl _)) ((L16).below bZ (nl _)) Oo Oo hm Oo (by first | assumption | exact qAU Oo _ _ _ | exact qAX Oo _ _ _ | exact PlaT.sub Oo _ _ _ | exact PlaT.sca Oo _ _ _ | exact PlaT.one Oo _ | exact PlaT.inv Oo _ _ | exact qAF Oo _ _ _ | exact PlaT.cln Oo _ _) (by first | assumption | exact qAU Oo _ _ _ | exact qAX Oo _ _ _ | exact PlaT.sub Oo _ _ _ | exact PlaT.sca Oo _ _ _ | exact PlaT.one Oo _ | exact PlaT.inv Oo _ _ | exact qAF Oo _ _ _ | exact PlaT.cln Oo _ _)).mono ?_; rintro e wd1 ⟨_, rfl, hod1, hbd1⟩; have hsq1 := hbd1.size; obtain ⟨oA, cA, rfl⟩ := hod1.shapeN (n := n) (qA9 _ _); have hd1 : Below w16.heap.size w16 wd1 := (bY1 hbd1); have hsd1 := hd1.size; have hsz1_ := hbd1.size
      (try simp at hsz1_)
      have q1_4 := (((hv16).below hd1)).cell0 (qA5 (show 4 < ls.length by have := HL.out; omega))
      go_wp2_with fail
      clear hHeld; refine oKq hK (by go_keep) fun hHeld => ?_
      clear hK K
      try simp only [Act.put, sL]
      refine qA1 (i := 10) rfl kr (fun K hK => ?_); go_simp
      go_at_call 175
      refine (qDK m (at0 ls 4) n _ (qAO m n Q L) _ ((hod1.below bZ)).rd Oo hm hm' Oo Oo (by first | assumption | exact qAU Oo _ _ _ | exact qAX Oo _ _ _ | exact PlaT.sub Oo _ _ _ | exact PlaT.sca Oo _ _ _ | exact PlaT.one Oo _ | exact PlaT.inv Oo _ _ | exact qAF Oo _ _ _ | exact PlaT.cln Oo _ _)).mono ?_; rintro e wd2 ⟨_, rfl, hod2, hbd2⟩; have hsq2 := hbd2.size; obtain ⟨oC, cC, rfl⟩ := hod2.shapeN (n := n) (qA9 _ _); have hd2 : Below w16.heap.size w16 wd2 := (bY2 hbd1 hbd2); have hsd2 := hd2.size; have hsz2_ := hbd2.size
      (try simp at hsz2_)
      have q2_4 := (((hv16).below hd2)).cell0 (qA5 (show 4 < ls.length by have := HL.out; omega))
      go_wp2_with fail
      clear hHeld; refine oKq hK (by go_keep) fun hHeld => ?_
      clear hK K
      try simp only [Act.put, sL]
      refine qA1 (i := 11) rfl kr (fun K hK => ?_); go_simp
      go_at_call 174
      refine (qDk m n _ _ I (qAP m n (at0 ls 4) (qAO m n Q L)) _ ((I16).below (bY2 hbd1 hbd2) (nl _)) ((hod2.below bZ)).rd Oo hm hm' (by first | assumption | exact qAU Oo _ _ _ | exact qAX Oo _ _ _ | exact PlaT.sub Oo _ _ _ | exact PlaT.sca Oo _ _ _ | exact PlaT.one Oo _ | exact PlaT.inv Oo _ _ | exact qAF Oo _ _ _ | exact PlaT.cln Oo _ _) (by first | assumption | exact qAU Oo _ _ _ | exact qAX Oo _ _ _ | exact PlaT.sub Oo _ _ _ | exact PlaT.sca Oo _ _ _ | exact PlaT.one Oo _ | exact PlaT.inv Oo _ _ | exact qAF Oo _ _ _ | exact PlaT.cln Oo _ _)).mono ?_; rintro e wd3 ⟨_, rfl, hod3, hbd3⟩; have hsq3 := hbd3.size; obtain ⟨oD, cD, rfl⟩ := hod3.shapeN (n := n) (qA9 _ _); have hd3 : Below w16.heap.size w16 wd3 := (bY3 hbd1 hbd2 hbd3); have hsd3 := hd3.size; have hsz3_ := hbd3.size
      (try simp at hsz3_)
      have q3_4 := (((hv16).below hd3)).cell0 (qA5 (show 4 < ls.length by have := HL.out; omega))
      go_wp2_with fail
      clear hHeld; refine oKq hK (by go_keep) fun hHeld => ?_
      clear hK K
      try simp only [Act.put, sL]
      refine qA1 (i := 12) rfl kr (fun K hK => ?_); go_simp
      (try go_wp2_with fail)
      refine hK.out _ _ (nD ·) ?_; clear hK K
      try simp only [Act.put, sL]
      refine qAT kr ?_ _
      go_wp2_with fail
      go_meet
      exact ⟨oD, cD, rfl, hod3.rd, hd3⟩
     case rest =>
     obtain ⟨w17, rfl⟩ : ∃ u, u = wc := ⟨_, rfl⟩; obtain ⟨oJ, cJ, rfl, h_, hb⟩ := hcut
     (have hv17 := hv16.below hb; have W17 := W16.below hb; have L17 := L16.below hb; have X17 := X16.below hb; have Q17 := Q16.below hb; have H17 := H16.below hb; have I17 := I16.below hb; have B17 := B16.trans (hb.mono B16.size); clear hv16 W16 L16 X16 Q16 H16 I16 B16)
     have J17 := h_; clear hb h_; obtain ⟨J, hJ_⟩ : ∃ J, J = (qAr m n I (qAP m n (at0 ls 4) (qAO m n Q L))) := ⟨_, rfl⟩; have HJi : PlaT m n J := by rw [hJ_]; exact (by first | assumption | exact qAU Oo _ _ _ | exact qAX Oo _ _ _ | exact PlaT.sub Oo _ _ _ | exact PlaT.sca Oo _ _ _ | exact PlaT.one Oo _ | exact PlaT.inv Oo _ _ | exact qAF Oo _ _ _ | exact PlaT.cln Oo _ _)
     rw [← hJ_] at J17; have HJd := dd hJ_; clear hJ_; clear I17 Q17 L17
     go_wp2_with fail
     have O1 := OwI.lit w17 [] (by decide); have hBb := (Bel.refl w17).alloc (.cells #[] 2); simp at O1; generalize w17.alloc (.cells #[] 2) = w18 at O1 hBb ⊢
     go_loopw [18, 19] (fun s i wr => ∃ k : Nat, k ≤ n ∧ i = .int .i64 k ∧ OwI wr w17.heap.size s (mk k (fun k => if k % 2 = 0 then 1 else m - 1)) ∧ Bel w17 wr) (fun _ i _ => n - (intOf i).toNat)
     case atStart => exact ⟨0, Nat.zero_le _, rfl, O1, hBb⟩
     case round =>
      clear O1 hBb; obtain ⟨k, hk, rfl, hO, hB⟩ := hrel; obtain ⟨ov, cv, rfl⟩ := hO.shapeN (n := k) (qA8 _ _)
      by_cases hlt : k < n
      ·have i1 : (k : Int) ≤ (n : Int) - 1 := Oo; have hBs := Below.size hB; have HS := dd (qO9 (m := m) (k := k)); have hO2 := hO.alloc (.cells #[.int .i64 1, .int .i64 (m - 1)] 2); have hB2 := hB.alloc (.cells #[.int .i64 1, .int .i64 (m - 1)] 2); have hkm : (k : Int).tmod 2 = ((k % 2 : Nat) : Int) := by rw [Int.tmod_eq_emod_of_nonneg Oo]; omega
       have hE : ∃ y, (if k % 2 = 0 then 1 else m - 1) = y ∧ ((k % 2 = 0 ∧ y = 1) ∨ (k % 2 = 1 ∧ y = m - 1)) := by
        rcases Nat.mod_two_eq_zero_or_one k with hp | hp
        ·exact ⟨1, by rw [hp]; rfl, .inl ⟨hp, rfl⟩⟩
        ·exact ⟨m - 1, by rw [hp]; rfl, .inr ⟨hp, rfl⟩⟩
       obtain ⟨y, hy, hp⟩ := hE; rw [hy] at HS; clear hy; rcases hp with ⟨hp, rfl⟩ | ⟨hp, rfl⟩
       all_goals
        rw [hp] at hkm; clear hp
        go_wp2_with (at_builtin; refine apI (wr.alloc (.cells #[.int .i64 1, .int .i64 (m - 1)] 2)) rfl _ _ rfl w17.heap.size (.slice ov k cv) _ rfl hO2 _ (by go_simp) (by rw [qA8]; omega) (by simp; omega) ?_; intro v' w4 hO3 hgr hb3 hlt3; clear hgr)
        rw [← HS.out] at hO3; go_wp2; exact ⟨⟨k + 1, Oo, by go_num, hO3, hB2.trans hb3⟩, by simp [intOf]; omega⟩
      ·obtain rfl : n = k := Oo; have i1 : ¬ (n : Int) ≤ (n : Int) - 1 := Oo; obtain ⟨w19, rfl⟩ : ∃ u, u = wr := ⟨_, rfl⟩; have hb : Below w17.heap.size w17 w19 := hB; have hS_ := hO.rd; rw [show mk n (fun k => if k % 2 = 0 then 1 else m - 1) = sgnL m n from rfl] at hS_; clear hO hB; have hv19 := hv17.below hb; have W19 := W17.below hb; have X19 := X17.below hb; have H19 := H17.below hb; have J19 := J17.below hb; have B19 := B17.trans (hb.mono B17.size); clear hb hv17 W17 X17 H17 J17 B17; have S19 := hS_; clear hS_; obtain ⟨sg, hsg⟩ : ∃ s, s = sgnL m n := ⟨_, rfl⟩
       have HSg : LisN m n sg := by rw [hsg]; exact ⟨qA8 _ _, fun x hx => by unfold sgnL mk at hx; rw [List.mem_map] at hx; obtain ⟨j, hj, rfl⟩ := hx; split <;> omega⟩
       rw [← hsg] at S19; have HSd := dd hsg; clear hsg
       go_wp2_with fail
       refine (qFK m n _ _ sg J _ S19 J19 Oo Oo hm Oo (by rw [HSg.1]; omega) HSg.2 HJi).mono ?_; rintro e w20 ⟨v_, rfl, h_, hb⟩; obtain ⟨oK, cK, rfl⟩ := h_.shapeN (n := n) ((qAF (show 0 < m by omega) n _ _).1)
       (have hv20 := hv19.below hb; have W20 := W19.below hb; have X20 := X19.below hb; have H20 := H19.below hb; have J20 := J19.below hb; have S20 := S19.below hb; have B20 := B19.trans (hb.mono B19.size); clear hv19 W19 X19 H19 J19 S19 B19)
       have K20 := h_.rd; clear hb h_; obtain ⟨K, hK_⟩ : ∃ K, K = qAK m n J sg := ⟨_, rfl⟩; have HKi : PlaT m n K := by rw [hK_]; exact (by first | assumption | exact qAU Oo _ _ _ | exact qAX Oo _ _ _ | exact PlaT.sub Oo _ _ _ | exact PlaT.sca Oo _ _ _ | exact PlaT.one Oo _ | exact PlaT.inv Oo _ _ | exact qAF Oo _ _ _ | exact PlaT.cln Oo _ _)
       rw [← hK_] at K20; have HKd := dd hK_; clear hK_; clear S20 J20
       go_wp2_with fail
       refine (qDX m n _ _ H K _ H20 K20 Oo Oo hm Oo HHi HKi).mono ?_; rintro e w21 ⟨v_, rfl, h_, hb⟩; obtain ⟨oP, cP, rfl⟩ := h_.shapeN (n := n) (qA9 _ _)
       (have hv21 := hv20.below hb; have W21 := W20.below hb; have X21 := X20.below hb; have H21 := H20.below hb; have K21 := K20.below hb; have B21 := B20.trans (hb.mono B20.size); clear hv20 W20 X20 H20 K20 B20)
       have P21 := h_.rd; clear hb h_; obtain ⟨P, hP_⟩ : ∃ P, P = qAO m n H K := ⟨_, rfl⟩; have HPi : PlaT m n P := by rw [hP_]; exact (by first | assumption | exact qAU Oo _ _ _ | exact qAX Oo _ _ _ | exact PlaT.sub Oo _ _ _ | exact PlaT.sca Oo _ _ _ | exact PlaT.one Oo _ | exact PlaT.inv Oo _ _ | exact qAF Oo _ _ _ | exact PlaT.cln Oo _ _)
       rw [← hP_] at P21; have HPd := dd hP_; clear hP_; clear H21 K21
       go_wp2_with fail
       refine (qQB m n _ X _ X21 Oo Oo HXi).mono ?_; rintro e w22 ⟨v_, rfl, h_, hb⟩; rw [HXd.out, turn_x hm] at h_; obtain ⟨oY, cY, rfl⟩ := h_.shapeN (n := n) (qA9 _ _)
       (have hv22 := hv21.below hb; have W22 := W21.below hb; have X22 := X21.below hb; have P22 := P21.below hb; have B22 := B21.trans (hb.mono B21.size); clear hv21 W21 X21 P21 B21)
       have Y22 := h_.rd; clear hb h_; have HYi : PlaT m n (yT n) := PlaT.yT hm n
       go_wp2_with fail
       refine (qDk m n _ _ X (yT n) _ X22 Y22 Oo hm hm' HXi HYi).mono ?_; rintro e w23 ⟨v_, rfl, h_, hb⟩; obtain ⟨oA, cA, rfl⟩ := h_.shapeN (n := n) (qA9 _ _)
       (have hv23 := hv22.below hb; have W23 := W22.below hb; have X23 := X22.below hb; have P23 := P22.below hb; have Y23 := Y22.below hb; have B23 := B22.trans (hb.mono B22.size); clear hv22 W22 X22 P22 Y22 B22)
       have A23 := h_.rd; clear hb h_
       go_wp2_with fail
       refine (qDk m n _ _ (qAr m n X (yT n)) P _ A23 P23 Oo hm hm' (by first | assumption | exact qAU Oo _ _ _ | exact qAX Oo _ _ _ | exact PlaT.sub Oo _ _ _ | exact PlaT.sca Oo _ _ _ | exact PlaT.one Oo _ | exact PlaT.inv Oo _ _ | exact qAF Oo _ _ _ | exact PlaT.cln Oo _ _) HPi).mono ?_; rintro e w24 ⟨v_, rfl, h_, hb⟩; obtain ⟨oM, cM, rfl⟩ := h_.shapeN (n := n) (qA9 _ _)
       (have hv24 := hv23.below hb; have W24 := W23.below hb; have X24 := X23.below hb; have P24 := P23.below hb; have Y24 := Y23.below hb; have A24 := A23.below hb; have B24 := B23.trans (hb.mono B23.size); clear hv23 W23 X23 P23 Y23 A23 B23)
       have M24 := h_.rd; clear hb h_; obtain ⟨M, hM_⟩ : ∃ M, M = qAr m n (qAr m n X (yT n)) P := ⟨_, rfl⟩; have HMi : PlaT m n M := by rw [hM_]; exact (by first | assumption | exact qAU Oo _ _ _ | exact qAX Oo _ _ _ | exact PlaT.sub Oo _ _ _ | exact PlaT.sca Oo _ _ _ | exact PlaT.one Oo _ | exact PlaT.inv Oo _ _ | exact qAF Oo _ _ _ | exact PlaT.cln Oo _ _)
       rw [← hM_] at M24; have HMd := dd hM_; clear hM_; clear A24 P24 X24 Y24
       go_wp2_with fail
       refine (qDK m (m - 1) n _ M _ M24 Oo hm hm' Oo Oo HMi).mono ?_; rintro e w25 ⟨v_, rfl, h_, hb⟩; obtain ⟨oU, cU, rfl⟩ := h_.shapeN (n := n) (qA9 _ _)
       (have hv25 := hv24.below hb; have W25 := W24.below hb; have M25 := M24.below hb; have B25 := B24.trans (hb.mono B24.size); clear hv24 W24 M24 B24)
       have U25 := h_.rd; clear hb h_; obtain ⟨U, hU_⟩ : ∃ U, U = qAP m n (m - 1) M := ⟨_, rfl⟩; have HUi : PlaT m n U := by rw [hU_]; exact (by first | assumption | exact qAU Oo _ _ _ | exact qAX Oo _ _ _ | exact PlaT.sub Oo _ _ _ | exact PlaT.sca Oo _ _ _ | exact PlaT.one Oo _ | exact PlaT.inv Oo _ _ | exact qAF Oo _ _ _ | exact PlaT.cln Oo _ _)
       rw [← hU_] at U25; have HUd := dd hU_; clear hU_; clear M25
       go_wp2_with fail
       have O1 := OwI.lit w25 [1] (by decide); have hBb := (Bel.refl w25).alloc (.cells #[.int .i64 1] 2); simp at O1; generalize w25.alloc (.cells #[.int .i64 1] 2) = w26 at O1 hBb ⊢; obtain ⟨Bf, hBf⟩ : ∃ f : Nat → Int, f = (fun k => if k = 0 then 1 else (m - (at0 ls 2 * at0 W k + (if k = 1 then at0 ls 0 else 0)) % m) % m) := ⟨_, rfl⟩; have HBf := dd hBf; have HB0 : mk 1 Bf = [1] := by rw [hBf]; rfl
       rw [← HB0] at O1; clear hBf HB0
       go_loopw [22, 23, 24] (fun s i _ wr => ∃ k : Nat, 1 ≤ k ∧ k ≤ n ∧ i = .int .i64 k ∧ OwI wr w25.heap.size s (mk k Bf) ∧ Bel w25 wr) (fun _ i _ _ => n - (intOf i).toNat)
       case atStart => exact ⟨1, Nat.le_refl _, Oo, rfl, O1, hBb⟩
       case round =>
        clear O1 hBb; obtain ⟨k, hk1, hk, rfl, hO, hB⟩ := hrel; obtain ⟨ov, cv, rfl⟩ := hO.shapeN (n := k) (qA8 _ _)
        by_cases hlt : k < n
        ·have i1 : (k : Int) ≤ (n : Int) - 1 := Oo; have i0 : (0 : Int) ≤ (k : Int) := Oo; have i2 : (k : Int) < (n : Int) + 1 := Oo; have i3 : k < n + 1 := Oo; have hBs := Below.size hB; have HS := dd (show mk (k + 1) Bf = mk k Bf ++ [Bf k] from qCN _ _); have sW := qAG (show 0 < m by omega) HW.2 k; have hvr := hv25.below hB; have q2_ := hvr.cell0 (qA5 (show 2 < ls.length by have := HL.out; omega)); have q0_ := hvr.cellz (qA5 (show 0 < ls.length by have := HL.out; omega)); have cx := (W25.below hB).cell0 (qA5 (show k < W.length by rw [HW.1]; omega)); rw [Nat.zero_add] at cx; clear hvr; have P1 := Int.mul_nonneg r2.1 sW.1; have U1 : at0 ls 2 * at0 W k ≤ 10000 * 10000 := Int.mul_le_mul Oo Oo sW.1 Oo; have HV := dd (show Bf k = (m - (at0 ls 2 * at0 W k + (if k = 1 then at0 ls 0 else 0)) % m) % m by rw [HBf.out]; exact if_neg Oo); generalize at0 W k = x at cx sW P1 U1 HV; generalize at0 ls 2 = l2 at q2_ P1 U1 HV; generalize at0 ls 0 = l0 at q0_ HV r0; have e1 : IntKind.i64.wrap (l2 * x) = l2 * x := IntWalk.i64_in _ Oo
         go_wp2_with fail
         go_quiet (fail)
         obtain ⟨w9, hw9⟩ : ∃ u : World, u = wr.drewN nq := ⟨_, rfl⟩; have hO9 : OwI w9 w25.heap.size (.slice ov k cv) (mk k Bf) := by rw [hw9]; exact hO.drewN nq
         have hB9 : Bel w25 w9 := by rw [hw9]; exact below_drewN hB nq
         have q09 : w9.cell? ⟨bl, fl, none⟩ = some (.int .i64 l0) := by rw [hw9]; exact q0_
         rw [← hw9]; clear hw9 hO hB q0_ q2_ cx
         by_cases hkk : k = 1
         ·have c1 : ((k : Int) == 1) = true := by simp; omega
          have e2 : IntKind.i64.wrap (l2 * x + l0) = l2 * x + l0 := IntWalk.i64_in _ Oo; have t1 : (l2 * x + l0).tmod m = (l2 * x + l0) % m := Int.tmod_eq_emod_of_nonneg Oo; have hr := qA6 (a := l2 * x + l0) (show 0 < m by omega); have e3' : IntKind.i64.wrap (m - (l2 * x + l0) % m) = m - (l2 * x + l0) % m := IntWalk.i64_in _ Oo; have t2 : (m - (l2 * x + l0) % m).tmod m = (m - (l2 * x + l0) % m) % m := Int.tmod_eq_emod_of_nonneg Oo; have HV2 := dd (show Bf k = -((l2 * x + l0) % m) % m by rw [HV.out, if_pos hkk, Int.sub_eq_add_neg, Int.add_emod_left]); clear hkk
          go_wp2_with (at_builtin; refine apI w9 rfl _ _ rfl w25.heap.size (.slice ov k cv) _ rfl hO9 (-((l2 * x + l0) % m) % m) (by go_simp) (by rw [qA8]; omega) (by have := Below.size hB9; omega) ?_; intro v' w4 hO3 hgr hb3 hlt3; clear hgr)
          rw [← HV2.out, ← HS.out] at hO3; go_wp2; exact ⟨⟨k + 1, Oo, Oo, by go_num, hO3, hB9.trans hb3⟩, by simp [intOf]; omega⟩
         ·have c1 : ((k : Int) == 1) = false := by simp; omega
          have t1 : (l2 * x).tmod m = (l2 * x) % m := Int.tmod_eq_emod_of_nonneg Oo; have hr := qA6 (a := l2 * x) (show 0 < m by omega); have e3' : IntKind.i64.wrap (m - (l2 * x) % m) = m - (l2 * x) % m := IntWalk.i64_in _ Oo; have t2 : (m - (l2 * x) % m).tmod m = (m - (l2 * x) % m) % m := Int.tmod_eq_emod_of_nonneg Oo; have HV2 := dd (show Bf k = -((l2 * x) % m) % m by rw [HV.out, if_neg hkk, Int.add_zero, Int.sub_eq_add_neg, Int.add_emod_left]); clear hkk
          go_wp2_with (at_builtin; refine apI w9 rfl _ _ rfl w25.heap.size (.slice ov k cv) _ rfl hO9 (-((l2 * x) % m) % m) (by go_simp) (by rw [qA8]; omega) (by have := Below.size hB9; omega) ?_; intro v' w4 hO3 hgr hb3 hlt3; clear hgr)
          rw [← HV2.out, ← HS.out] at hO3; go_wp2; exact ⟨⟨k + 1, Oo, Oo, by go_num, hO3, hB9.trans hb3⟩, by simp [intOf]; omega⟩
        ·obtain rfl : n = k := Oo; have i1 : ¬ (n : Int) ≤ (n : Int) - 1 := Oo; obtain ⟨w27, rfl⟩ : ∃ u, u = wr := ⟨_, rfl⟩; have hb : Below w25.heap.size w25 w27 := hB; have hS_ := hO.rd; rw [show mk n Bf = wrB m n (at0 ls) W by rw [HBf.out]; rfl] at hS_; clear hO hB; have hv27 := hv25.below hb; have W27 := W25.below hb; have U27 := U25.below hb; have B27 := B25.trans (hb.mono B25.size); clear hb hv25 W25 U25 B25; have S27 := hS_; clear hS_; obtain ⟨be, hbe⟩ : ∃ s, s = wrB m n (at0 ls) W := ⟨_, rfl⟩; have HBe : LisN m n be := by rw [hbe]; exact ⟨qA8 _ _, fun x hx => by unfold wrB mk at hx; rw [List.mem_map] at hx; obtain ⟨j, hj, rfl⟩ := hx; split; omega; exact qA6 Oo⟩
         rw [← hbe] at S27; have HBd := dd hbe; clear hbe
         go_wp2_with (at_make; go_loud (refine mkI _ rfl _ _ rfl _ _ _ n rfl (by first | rfl | omega) (by first | rfl | omega) Oo ?_; intro w28 hO1 hb hz1; clear hz1; have hl_ := hb.size; have hc0 := hO1.cell (k := 1) (qE9 n 1 0 Oo); have hf0 := hO1.fz 1; have hO2 := hO1.put 1 (m - 1); have HO2 := dd hO2; clear hO2; have j1 : (1 : Int) < (n : Int) := Oo; have j2 : 1 < n := Oo; clear hO1))
         have hO2 := HO2.out; clear HO2; have hb := hb.setCell (p := ⟨w27.heap.size, 1, none⟩) (nl _) (.int .i64 (m - 1)); clear hc0 hf0; generalize w28.setCell ⟨w27.heap.size, 1, none⟩ (.int .i64 (m - 1)) = w29 at hO2 hb ⊢; clear hl_; have hv29 := hv27.below hb; have W29 := W27.below hb; have U29 := U27.below hb; have S29 := S27.below hb; have B29 := B27.trans (hb.mono B27.size); clear hb hv27 W27 U27 S27 B27; have T29 := hO2.rd; clear hO2; have HT0 : LisN m n ((List.replicate n 0).set 1 (m - 1)) := ⟨by simp, fun x hx => by rcases List.mem_or_eq_of_mem_set hx with h | rfl; simp at h; omega; omega⟩; refine (qPR m _ n _ be _ Oo S29 HBe.1 Oo Oo hm hm' HBe.2).mono ?_; rintro e w30 ⟨v_, rfl, h_, hb⟩; obtain ⟨oI, cI, rfl⟩ := h_.shapeN (n := n) (qOB _ Oo)
         (have hv30 := hv29.below hb; have W30 := W29.below hb; have U30 := U29.below hb; have S30 := S29.below hb; have T30 := T29.below hb; have B30 := B29.trans (hb.mono B29.size); clear hv29 W29 U29 S29 T29 B29)
         have I30 := h_.rd; clear hb h_
         go_wp2_with fail
         refine (qFj m _ n _ _ ((List.replicate n 0).set 1 (m - 1)) (qCj m n be) _ Oo T30 I30 Oo Oo hm Oo HT0.2 (qNw Oo Oo be)).mono ?_; rintro e w31 ⟨v_, rfl, h_, hb⟩; obtain ⟨oD, cD, rfl⟩ := h_.shapeN (n := n) (qBX _ _ _ _)
         (have hv31 := hv30.below hb; have W31 := W30.below hb; have U31 := U30.below hb; have S31 := S30.below hb; have T31 := T30.below hb; have I31 := I30.below hb; have B31 := B30.trans (hb.mono B30.size); clear hv30 W30 U30 S30 T30 I30 B30)
         have D31 := h_.rd; clear hb h_
         go_wp2_with fail
         refine (qFK m n _ _ (qAZ m n ((List.replicate n 0).set 1 (m - 1)) (qCj m n be)) U _ D31 U31 Oo Oo hm Oo (by rw [qBX]; omega) (qDi Oo) HUi).mono ?_; rintro e wZ ⟨vZ, rfl, hZ, hb⟩
         have hT : qAK m n U (qAZ m n ((List.replicate n 0).set 1 (m - 1)) (qCj m n be)) = wrLaw m n (at0 ls) (qBS m (n + 1) (at0 ls) (n - 2)) := by
          rw [HBd.out, HUd.out, HMd.out, HPd.out, HKd.out, HSd.out, HJd.out, HId.out, HHd.out, HGd.out, HU0.out, HTd.out, HQd.out, HVd.out, HFd.out, HXd.out, HLd.out, HWd.out]
          rfl
         rw [hT] at hZ; obtain ⟨oZ, cZ, rfl⟩ := hZ.shape; go_wp2; go_ret; exact ⟨_, rfl, hZ.mono B31.size, B31.trans (hb.mono B31.size)⟩
end Go.Proofs.YtfpphfjlpgefaaaGreat
