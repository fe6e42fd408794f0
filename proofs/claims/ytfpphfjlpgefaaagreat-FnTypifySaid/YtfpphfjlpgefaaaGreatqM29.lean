/- Lemmas. -/
import Derived.Test.YtfpphfjlpgefaaaGreatqM28
import Derived.Test.YtfpphfjlpgefaaaGreatqM24
set_option maxHeartbeats 2000000
set_option maxRecDepth 100000
set_option linter.unusedSimpArgs false
set_option linter.unusedVariables false
namespace Go.Proofs.YtfpphfjlpgefaaaGreat
open Go.RowKit
section

def qB3 (p : Nat) (v : Nat → Int) (k i : Nat) : Int := qA3 k (fun j => if i = p ^ j then cK p v j else 0)
theorem qIn {p : Nat} (hp : 2 ≤ p) (v : Nat → Int) {k : Nat} : ∀ j, j ≤ k → qB3 p v j (p ^ k) = 0
 | 0, _ => rfl
 | j + 1, h => by
   show qB3 p v j (p ^ k) + (if p ^ k = p ^ j then cK p v j else 0) = 0
   rw [qIn hp v j Oo, if_neg (fun e => by have := Nat.pow_lt_pow_right (a := p) Oo (show j < k by omega); omega)]
   rfl
theorem qPo {p : Nat} (hp : 2 ≤ p) (v : Nat → Int) (W : Int) (n k : Nat) :
  (mk n (fun i => qB3 p v k i % W)).set (p ^ k) (num p v k % W * (((p : Int) % W) ^ (p ^ k - 1 - k) % W) % W) = mk n (fun i => qB3 p v (k + 1) i % W) := by
 rw [qDu]
 refine qAh fun j _ => ?_
 show _ = (qB3 p v k j + (if j = p ^ k then cK p v k else 0)) % W
 by_cases e : j = p ^ k
 ·subst e; rw [if_pos rfl, if_pos rfl, qIn hp v k (nl _), Int.zero_add]; exact qAd (qAW _ _) (by rw [qAW]; exact qEE _ _ _)
 ·rw [if_neg e, if_neg e, Int.add_zero]
theorem qGU {p : Nat} (hp : 2 ≤ p) (v : Nat → Int) : ∀ k, qB3 p v k 0 = 0
 | 0 => rfl
 | k + 1 => by
   show qB3 p v k 0 + (if 0 = p ^ k then cK p v k else 0) = 0
   rw [qGU hp v k, if_neg (fun e => by have := Nat.pow_pos (n := k) (show 0 < p by omega); omega)]
   rfl
theorem serK_0 (W : Int) (p : Nat) (v : Nat → Int) (n : Nat) : List.replicate n (0 : Int) = mk n (fun i => qB3 p v 0 i % W) := by
 rw [qDD]
 exact qAh fun i _ => by show 0 = (0 : Int) % W; rw [Int.zero_emod]

theorem RdI.len4 {w : World} {v : Value} {xs : Li} {n : Nat} (h : RdI w v xs) (hn : xs.length = n) : ∃ o c, v = .slice o n c := by
 obtain ⟨o, c, rfl, -, -⟩ := h
 exact ⟨o, c, by rw [hn]⟩

theorem qKi (p n : Nat) (m : Int) (v : Value) (ls : Li) (w : World) (hv : RdI w v ls) (hp : P4 p) (hn1 : 1 ≤ n) (hn : n ≤ 10) (hm : 2 ≤ m) (hm' : m ≤ 10000) (hl : ls.length ≤ 3) (hx : ∀ x ∈ ls, 0 ≤ x ∧ x ≤ 10000)
  (W : Int) (hW : W = m * ((p ^ (n - 1) : Nat) : Int)) (hWm : W ≤ 1000000000000) :
  Calls Tryz.prog 72 #[.int .i64 p, .int .i64 m, .int .i64 n, v] w fun e w' => qC9 w w' m (tri (n + 1) (fun i j => atT (qCB W (n + 1) (mk (n + 1) (fun i => qB3 p (at0 (ls ++ List.replicate (3 - ls.length) (0 : Int))) (qA4 p n + 1) i % W))) i j / ((p ^ (i + j - 1) : Nat) : Int) % m)) e := by
 have hp2 := hp.pos
 have e1 : IntKind.i64.wrap ((n : Int) - 1) = (n : Int) - 1 := IntWalk.i64_in _ Oo
 have HW := dd hW
 clear hW
 go_enter Tryz.func72, Tryz.ntmps72
 go_wp2_with fail
 have hbp : ((w.alloc (.cells #[.int .i64 p] 2)).alloc (.cells #[.int .i64 0, .slice none 0 0] 26)).cell? ⟨w.heap.size, 0, none⟩ = some (.int .i64 p) := by simp
 have R0 := RB2.mk2 w (.cells #[.int .i64 p] 2) (.int .i64 0) (.slice none 0 0) 26
 have B0 : Below w.heap.size w ((w.alloc (.cells #[.int .i64 p] 2)).alloc (.cells #[.int .i64 0, .slice none 0 0] 26)) := bZ
 have hv0 := hv.below (w' := (w.alloc (.cells #[.int .i64 p] 2)).alloc (.cells #[.int .i64 0, .slice none 0 0] 26)) bZ (nl _)
 have hs0 : w.heap.size + 1 < ((w.alloc (.cells #[.int .i64 p] 2)).alloc (.cells #[.int .i64 0, .slice none 0 0] 26)).heap.size := R0.1.lt
 generalize (w.alloc (.cells #[.int .i64 p] 2)).alloc (.cells #[.int .i64 0, .slice none 0 0] 26) = w0 at hbp R0 B0 hv0 hs0 ⊢
 go_loop [9, 18] (fun sw sk => ∃ k : Nat, k ≤ n - 1 ∧ sk = .int .i64 k ∧ sw = .int .i64 (m * ((p ^ k : Nat) : Int))) (fun _ sk => n - 1 - (intOf sk).toNat)
 case atStart => exact ⟨0, Nat.zero_le _, rfl, by rw [Nat.pow_zero]; simp⟩
 case round =>
  obtain ⟨k, hk, rfl, rfl⟩ := hrel
  by_cases hlt : k < n - 1
  ·have i1 : (k : Int) < (n : Int) - 1 := Oo; have hb : m * ((p ^ (k + 1) : Nat) : Int) ≤ 10000 * 282475249 := Int.mul_le_mul hm' (by have := (hp.pow9 (show k + 1 ≤ 10 by omega)).2; omega) Oo Oo; have hb0 : 0 ≤ m * ((p ^ (k + 1) : Nat) : Int) := Int.mul_nonneg Oo Oo
   have e3 : IntKind.i64.wrap (m * ((p ^ k : Nat) : Int) * (p : Int)) = m * ((p ^ (k + 1) : Nat) : Int) := by
    have h : m * ((p ^ k : Nat) : Int) * (p : Int) = m * ((p ^ (k + 1) : Nat) : Int) := by rw [Nat.pow_succ, Int.mul_assoc]; simp
    rw [h]; exact IntWalk.i64_in _ Oo
   generalize hA : p ^ k = A at e3 ⊢; generalize hB : p ^ (k + 1) = B at e3 hb hb0; have HB := dd hB; clear hA hB
   go_wp2_with fail
   exact ⟨⟨k + 1, Oo, by go_num, by rw [HB.out]⟩, by simp [intOf]; omega⟩
  ·obtain rfl : k = n - 1 := Oo; have i1 : ¬ (((n - 1 : Nat) : Int) < (n : Int) - 1) := Oo; rw [← HW.out]
   have hW2 : 2 ≤ W := by
    rw [HW.out]; have h := Int.mul_le_mul (show (2 : Int) ≤ m by omega) (show (1 : Int) ≤ ((p ^ (n - 1) : Nat) : Int) by have := (hp.pow9 (show n - 1 ≤ 10 by omega)).1; omega) Oo Oo; omega
   have hll : (ls ++ List.replicate (3 - ls.length) (0 : Int)).length = 3 := by simp; omega
   have hlx : ∀ x ∈ ls ++ List.replicate (3 - ls.length) (0 : Int), 0 ≤ x ∧ x ≤ 10000 := by
    intro x hx'; rcases List.mem_append.1 hx' with h | h
    ·exact hx x h
    ·rw [(List.mem_replicate.1 h).2]; omega
   obtain ⟨ns, hns⟩ : ∃ ns, ns = mk 4 (fun k => num p (at0 (ls ++ List.replicate (3 - ls.length) 0)) k % W) := ⟨_, rfl⟩; have HN := dd hns; have HNl := dd (show ns.length = 4 by rw [hns, qA8]); have HLL := dd hll; have HLX := dd hlx; clear hns hll hlx
   go_wp2_with fail
   have hd0 : Below w0.heap.size w0 w0.drew := (Below.refl _ _).drew; have hsd0 := hd0.size; have f0_a := qA0 hd0 (nl _) hbp; refine qAv (S := fun w' => w'.cell? ⟨w.heap.size, 0, none⟩ = some (.int .i64 p)) [] kr ?_; refine wKq (by go_keep) fun hHeld => ?_
   refine' tJ 0 hHeld ?_; refine' tJ 1 hHeld ?_; refine' tJ 2 hHeld ?_; refine qA1 (i := 3) rfl kr (fun K hK => ?_); go_simp
   go_at_call 143
   refine (qOy _ ls _ ((hv0).below bZ (nl _)) hl).mono ?_; rintro e wd1 ⟨va, rfl, hod1, hbd1⟩; have hd1 : Below w0.heap.size w0 wd1 := (bY1 hbd1); have hsd1 := hd1.size; have hsz1_ := hbd1.size
   (try simp at hsz1_)
   have f1_a := qA0 hd1 (nl _) hbp
   go_wp2_with fail
   clear hHeld; refine oKq hK (by go_keep) fun hHeld => ?_
   clear hK K
   try simp only [Act.put, sL]
   refine qA1 (i := 4) rfl kr (fun K hK => ?_); go_simp
   go_at_call 142
   refine (qPq p W _ (ls ++ List.replicate (3 - ls.length) (0 : Int)) _ ((hod1.below bZ)).rd hp (by rw [HLL.out]; omega) hW2 Oo HLX.out).mono ?_; rintro e wd2 ⟨vb, rfl, hod2, hbd2⟩; rw [HLL.out, ← HN.out] at hod2; have hd2 : Below w0.heap.size w0 wd2 := (bY2 hbd1 hbd2); have hsd2 := hd2.size; have hsz2_ := hbd2.size
   (try simp at hsz2_)
   have f2_a := qA0 hd2 (nl _) hbp
   go_wp2_with fail
   clear hHeld; refine oKq hK (by go_keep) fun hHeld => ?_
   clear hK K
   try simp only [Act.put, sL]
   refine' tJ 5 hHeld ?_; refine qAT kr ?_ _
   go_wp2_with fail
   have hodA := hod2; have hdA := hd2; obtain ⟨wA, hwA⟩ : ∃ wA, wA = wd2 := ⟨_, rfl⟩; rw [← hwA] at hodA hdA ⊢; clear hHeld hod1 hod2 hbd1 hbd2 hd0 hd1 hd2 hsd0 hsd1 hsd2 hsz1_ hsz2_ f0_a f1_a f2_a; clear hwA; refine (qEP W (n : Int) (n + 1) _ Oo Oo).mono ?_; rintro e w3 ⟨vz, rfl, how, hb3⟩; obtain ⟨oS, cS, rfl⟩ := how.shapeN (n := n + 1) (by simp); obtain ⟨gS, rfl, hgS1, hgS2⟩ := how.row Oo; have hb3s := hb3.size; have hdAs := hdA.size
   go_wp2_with fail
   obtain ⟨M, hM⟩ : ∃ M, M = qA4 p n := ⟨_, rfl⟩; obtain ⟨vf, hvf⟩ : ∃ vf, vf = at0 (ls ++ List.replicate (3 - ls.length) (0 : Int)) := ⟨_, rfl⟩; rw [serK_0 W p vf] at how; have Bw3 : Below wA.heap.size wA (w3.alloc (.cells #[.int .i64 W, .slice (some ⟨gS, 0, none⟩) (n + 1) cS] 34)) := (bY1 hb3); have X3 := Box2.mk' w3 (.int .i64 W) (.slice (some ⟨gS, 0, none⟩) (n + 1) cS) 34; have hO4 := how.alloc (.cells #[.int .i64 W, .slice (some ⟨gS, 0, none⟩) (n + 1) cS] 34); have hs4 : (w3.alloc (.cells #[.int .i64 W, .slice (some ⟨gS, 0, none⟩) (n + 1) cS] 34)).heap.size = w3.heap.size + 1 := by simp
   generalize w3.alloc (.cells #[.int .i64 W, .slice (some ⟨gS, 0, none⟩) (n + 1) cS] 34) = w4 at Bw3 X3 hO4 hs4 ⊢; have HVF := dd hvf; have HMo := dd hM; clear hvf hM how
   go_loopw [12, 13] (fun sk sd wr => ∃ k : Nat, k ≤ M + 1 ∧ sk = .int .i64 k ∧ sd = .int .i64 ((p ^ k : Nat) : Int) ∧ OwI wr wA.heap.size (.slice (some ⟨gS, 0, none⟩) (n + 1) cS) (mk (n + 1) (fun i => qB3 p vf k i % W)) ∧ Chg wA.heap.size w3.heap.size w4 wr) (fun sk _ _ => M + 1 - (intOf sk).toNat)
   case atStart => exact ⟨0, Nat.zero_le _, rfl, rfl, hO4, Chg.refl _ _ _⟩
   case round =>
    obtain ⟨k, hk, rfl, rfl, hO, hC⟩ := hrel; have Bw := Chg.below Bw3 hC (nl _) Oo; have X4 := X3.chg hC (.inr (nl _)); have hcp := qA0 (hdA.trans (Bw.mono hdAs)) (nl _) hbp; have hNs := hodA.rd.below Bw
    by_cases hlt : k ≤ M
    ·obtain ⟨k1, k2, -, -⟩ := qBq hp hn (show k ≤ qA4 p n by rw [← HMo.out]; exact hlt)
     have kn : p ^ k ≤ n := by
      by_cases k0 : k = 0
      ·subst k0; rw [Nat.pow_zero]; exact hn1
      ·obtain ⟨j, rfl⟩ : ∃ j, k = j + 1 := ⟨k - 1, Oo⟩; obtain ⟨-, -, k3, -⟩ := qBq hp hn (show j ≤ qA4 p n by rw [← HMo.out]; omega); exact k3.2 (by rw [← HMo.out]; omega)
     have kg := qCG hp2.1 k; obtain ⟨oN, cN, e⟩ := hNs.len4 HNl.out; subst e; obtain ⟨gN, fN, rfl, -⟩ := hNs.cells (by rw [HNl.out]; omega); have cc := hNs.cell0 (qA5 (show k < ns.length by rw [HNl.out]; omega))
     have rn : 0 ≤ at0 ns k ∧ at0 ns k < W := by
      rw [HN.out, qBN Oo]; exact qA6 Oo
     obtain ⟨z, hz⟩ : ∃ z, z = at0 ns k := ⟨_, rfl⟩; rw [← hz] at cc rn; have HZ := dd hz; obtain ⟨D, hD⟩ : ∃ D, D = p ^ k := ⟨_, rfl⟩; rw [← hD] at k1 kn kg ⊢; have HD := dd hD; clear hz hD; have rp := qA6 (a := (p : Int)) (show 0 < W by omega); have rq := qA6 (a := ((p : Int) % W) ^ (D - 1 - k)) (show 0 < W by omega); have tp : (p : Int).tmod W = (p : Int) % W := Int.tmod_eq_emod_of_nonneg Oo; have w1 : ¬ W = 0 := Oo; have w0' : (W == 0) = false := by simp; omega
     have i1 : (k : Int) < 4 := Oo; have i2 : (D : Int) ≤ (n : Int) := Oo; have i3 : (D : Int) < ((n + 1 : Nat) : Int) := Oo; have i4 : (0 : Int) ≤ (k : Int) := Oo; have i5 : (D : Int) < (n : Int) + 1 := Oo; have e3 : IntKind.i64.wrap ((D : Int) - 1) = (D : Int) - 1 := IntWalk.i64_in _ Oo; have e4 : IntKind.i64.wrap ((D : Int) - 1 - (k : Int)) = ((D - 1 - k : Nat) : Int) := by rw [IntWalk.i64_in _ Oo]; omega
     have hfS := hO.fz D; have hcS := hO.cell (k := D) (qA5 (by rw [qA8]; omega)); obtain ⟨x0, x1⟩ := id X4; have rm := qA6 (a := z * (((p : Int) % W) ^ (D - 1 - k) % W)) (show 0 < W by omega); have HR := dd (show D - 1 - k ≤ 10 by omega); generalize hq : D - 1 - k = q at e4 rq rm HR; have HQ := dd hq; clear hq
     go_wp2_with fail
     have hd0 : Below wr.heap.size wr wr.drew := (Below.refl _ _).drew; have hsd0 := hd0.size; have f0_a := qA0 hd0 (nl _) hcp; have f0_b := qA0 hd0 (nl _) x1; have f0_c := qA0 hd0 (nl _) cc; have f0_d := (hO.below hd0).fz D; have f0_e := qA0 hd0 (nl _) hcS; refine qAv (S := fun w' => w'.cell? ⟨w.heap.size, 0, none⟩ = some (.int .i64 p) ∧ w'.cell? ⟨w3.heap.size, 1, none⟩ = some (.slice (some ⟨gS, 0, none⟩) (n + 1) cS) ∧ w'.cell? ⟨gN, fN + k, none⟩ = some (.int .i64 z)) [19] kr ?_; refine wKq (by go_keep) fun hHeld => ?_
     refine' tJ 0 hHeld ?_; refine' tJ 1 hHeld ?_; refine' tJ 2 hHeld ?_; refine' tJ 3 hHeld ?_; refine' tJ 4 hHeld ?_; refine' tJ 5 hHeld ?_; refine' tJ 6 hHeld ?_; refine' tJ 7 hHeld ?_; refine' tJ 8 hHeld ?_; refine' tJ 9 hHeld ?_; refine' tJ 10 hHeld ?_; refine' tJ 11 hHeld ?_; refine' tJ 12 hHeld ?_; refine' tJ 13 hHeld ?_; refine' tJ 14 hHeld ?_; refine' tJ 15 hHeld ?_; refine qA1 (i := 16) rfl kr (fun K hK => ?_); go_simp
     go_at_call 146
     refine (qQb W ((p : Int) % W) q q _ rfl Oo Oo rp.1 rp.2 (by have := HR.out; omega) (.inl Oo)).mono ?_; rintro e wd1 ⟨rfl, hbd1⟩; have hd1 : Below wr.heap.size wr wd1 := (bY1 hbd1); have hsd1 := hd1.size; have hsz1_ := hbd1.size
     (try simp at hsz1_)
     have f1_a := qA0 hd1 (nl _) hcp; have f1_b := qA0 hd1 (nl _) x1; have f1_c := qA0 hd1 (nl _) cc; have f1_d := (hO.below hd1).fz D; have f1_e := qA0 hd1 (nl _) hcS
     go_wp2_with fail
     clear hHeld; refine oKq hK (by go_keep) fun hHeld => ?_
     clear hK K
     try simp only [Act.put, sL]
     refine qA1 (i := 17) rfl kr (fun K hK => ?_); go_simp
     go_at_call 145
     refine (qGv W z (((p : Int) % W) ^ q % W) _ Oo Oo rn.1 rq.1 rn.2 rq.2).mono ?_; rintro e wd2 ⟨rfl, hbd2⟩; have hd2 : Below wr.heap.size wr wd2 := (bY2 hbd1 hbd2); have hsd2 := hd2.size; have hsz2_ := hbd2.size
     (try simp at hsz2_)
     have f2_a := qA0 hd2 (nl _) hcp; have f2_b := qA0 hd2 (nl _) x1; have f2_c := qA0 hd2 (nl _) cc; have f2_d := (hO.below hd2).fz D; have f2_e := qA0 hd2 (nl _) hcS
     go_wp2_with fail
     clear hHeld; refine oKq hK (by go_keep) fun hHeld => ?_
     clear hK K
     try simp only [Act.put, sL]
     refine qA1 (i := 18) rfl kr (fun K hK => ?_); go_simp
     (try go_wp2_with fail)
     refine hK.out _ _ (fun _ => hHeld) ?_; clear hK K
     try simp only [Act.put, sL]
     refine qA1 (i := 19) rfl kr (fun K hK => ?_); go_simp
     (try go_wp2_with fail)
     refine hK.out _ _ (nD ·) ?_; clear hK K
     try simp only [Act.put, sL]
     refine qAT kr ?_ _
     go_wp2_with fail
     have hO2 := (hO.below hd2).put D (z * (((p : Int) % W) ^ q % W) % W); have hC2 := (hC.trans (Chg.of_below hd2)).grown (qBx wd2 gS D (.int .i64 (z * (((p : Int) % W) ^ q % W) % W))) Oo Oo; have HST := dd (qPo hp2.1 vf W (n + 1) k)
     have hcp2 : (wd2.setCell ⟨gS, D, none⟩ (.int .i64 (z * (((p : Int) % W) ^ q % W) % W))).cell? ⟨w.heap.size, 0, none⟩ = some (.int .i64 p) := by
      rw [World.cell?_setCell_far _ _ _ _ (show gS ≠ w.heap.size by omega)]; exact f2_a
     generalize hV : z * (((p : Int) % W) ^ q % W) % W = V at hO2 hC2 hcp2 ⊢; have HV := dd hV; clear hV; generalize wd2.setCell ⟨gS, D, none⟩ (.int .i64 V) = wE at hO2 hC2 hcp2 ⊢
     have e5 : IntKind.i64.wrap ((D : Int) * (p : Int)) = ((p ^ (k + 1) : Nat) : Int) := by
      have h1 : D * p ≤ 10 * 7 := Nat.mul_le_mul k1 hp2.2; have h2 : (D : Int) * (p : Int) = ((p ^ (k + 1) : Nat) : Int) := by rw [Nat.pow_succ, ← HD.out]; simp
      rw [h2, Nat.pow_succ, ← HD.out]; exact IntWalk.i64_in _ Oo
     generalize hE : p ^ (k + 1) = E at e5; have HE := dd hE; clear hE
     go_wp2_with fail
     go_quiet (fail)
     have hO3 : OwI (wE.drewN nq) wA.heap.size (.slice (some ⟨gS, 0, none⟩) (n + 1) cS) (mk (n + 1) (fun i => qB3 p vf (k + 1) i % W)) := by
      have h := HST.out; have ez : num p vf k % W = z := by rw [HZ.out, HN.out, qBN Oo, HVF.out]
      rw [← HD.out, HQ.out, ez, HV.out] at h; rw [← h]; exact hO2.drewN nq
     have hC3 := hC2.drewN nq
     go_wp2_with fail
     exact ⟨⟨k + 1, Oo, by go_num, by rw [HE.out], hO3, hC3⟩, by simp [intOf]; omega⟩
    ·obtain rfl : k = M + 1 := Oo; obtain ⟨-, kM, k3, -⟩ := qBq hp hn (show M ≤ qA4 p n by rw [← HMo.out]; exact Nat.le_refl _); have k4 : ¬ p ^ (M + 1) ≤ n := fun h => by have := k3.1 h; rw [← HMo.out] at this; omega
     obtain ⟨oN, cN, e⟩ := hNs.len4 HNl.out; subst e; obtain ⟨x0, x1⟩ := id X4; have hO := dd hO
     by_cases hM3 : M = 3
     ·have i1 : ¬ (((M + 1 : Nat) : Int) < 4) := Oo; have i1' : ¬ ((M : Int) + 1 < 4) := Oo
      go_wp2_with fail
      refine (qIx W (n + 1) _ (mk (n + 1) (fun i => qB3 p vf (M + 1) i % W)) _ (qA8 _ _) hO.out.rd Oo Oo hW2 hWm (by
       intro x hx'; simp only [mk, List.mem_map] at hx'; obtain ⟨a, _, rfl⟩ := hx'; exact qA6 Oo) (by rw [qBN Oo, qGU hp2.1, Int.zero_emod])).mono ?_
      rintro e w7 ⟨vl, rfl, howL, hbL⟩; obtain ⟨oL, cL, rfl⟩ := howL.shapeN (n := n + 1) (qH0 _ _ _)
      go_wp2_with fail
      have HFF := dd (show qCB W (n + 1) (mk (n + 1) (fun i => qB3 p vf (M + 1) i % W)) = qCB W (n + 1) (mk (n + 1) (fun i => qB3 p (at0 (ls ++ List.replicate (3 - ls.length) (0 : Int))) (qA4 p n + 1) i % W)) by rw [← HVF.out, ← HMo.out]); have BwL := Bw.trans (hbL.mono Bw.size); have HLok := dd (show PlaT W (n + 1) (qCB W (n + 1) (mk (n + 1) (fun i => qB3 p vf (M + 1) i % W))) from qAF Oo _ _ _); generalize qCB W (n + 1) (mk (n + 1) (fun i => qB3 p vf (M + 1) i % W)) = L at howL HFF HLok; have X7 := Box2.mk' w7 (.int .i64 W) (.slice oL (n + 1) cL) 26; have hL7 := howL.rd.below (w' := w7.alloc (.cells #[.int .i64 W, .slice oL (n + 1) cL] 26)) bZ (nl _); have Bw7 : Below wA.heap.size wA (w7.alloc (.cells #[.int .i64 W, .slice oL (n + 1) cL] 26)) := BwL.trans ((show Below w7.heap.size w7 (w7.alloc (.cells #[.int .i64 W, .slice oL (n + 1) cL] 26)) from bZ).mono BwL.size); generalize w7.alloc (.cells #[.int .i64 W, .slice oL (n + 1) cL] 26) = w8 at X7 hL7 Bw7 ⊢; refine (qDy m (n : Int) (n + 1) _ Oo Oo).mono ?_; rintro e w9 ⟨vz9, rfl, how9, hb9⟩; obtain ⟨oz, cz, rfl⟩ := how9.shapeN (n := n + 1) (qBm _); have X9 := X7.below hb9; have hL9 := hL7.below hb9; have Bw9 := Bw7.trans (hb9.mono Bw7.size); have hcp9 := qA0 (hdA.trans (Bw9.mono hdAs)) (nl _) hbp
      go_wp2_with fail
      refine (qGp 150 _ _ (fun i j => atT L i j / ((p ^ (i + j - 1) : Nat) : Int)) m oz (n + 1) cz _ Oo Oo Oo Oo qLu
       (fun i j h => by
        have a := qBT HLok.out h; have b := (hp.pow9 (show i + j - 1 ≤ 10 by omega)).1; have c := Int.ediv_nonneg a.1 (show (0 : Int) ≤ ((p ^ (i + j - 1) : Nat) : Int) by omega); have d := Int.ediv_le_self ((p ^ (i + j - 1) : Nat) : Int) a.1; omega)
       (fun i j w1 h hb => (qL7 p i j (n + 1) cL _ _ W oL L w1 hp h Oo Oo Oo HLok.out (qA0 hb (nl _) hcp9) (X9.below hb) (hL9.below hb)).mono fun e w' ⟨a, b⟩ => ⟨a, 0, b.symm⟩)).mono ?_
      rintro e wB ⟨vy, rfl, howY, hbY⟩; obtain ⟨oy, cy, rfl⟩ := howY.shapeN (n := n + 1) (qA9 _ _); have R9 := R0.below ((hdA.trans (Bw9.mono hdAs)).trans (hbY.mono (by have := Bw9.size; omega))) (nl _); have BY := B0.trans (((hdA.trans (Bw9.mono hdAs)).trans (hbY.mono (by have := Bw9.size; omega))).mono Oo); have hRl := R9.1.lt; have hR0 : w.heap.size + 1 < w9.heap.size := by have := Bw9.size; omega
      obtain ⟨⟨r0, r1⟩, rf⟩ := id R9; rw [HFF.out] at howY; have HY := dd howY; clear howY; go_wp2; refine bodyPost_ret (v := .agg #[.int .i64 m, .slice oy (n + 1) cy]) (by simp [results, Tryz.results72, go_sem, r0, r1]) rfl ⟨_, rfl, ?_, ?_⟩
      ·exact ((HY.out.low hR0 _).low hR0 _).mono Oo
      ·(repeat (first | exact bR _ _ | (refine bS ?_ _) | (refine bA ?_ _) | (refine bN ?_ _) | (refine bD ?_) | (refine bT ?_ BY)))
     ·have i1 : (((M + 1 : Nat) : Int) < 4) := Oo; have i1' : ((M : Int) + 1 < 4) := Oo; generalize p ^ (M + 1) = E at k4 ⊢; have i2 : ¬ ((E : Int) ≤ (n : Int)) := Oo
      go_wp2_with fail
      refine (qIx W (n + 1) _ (mk (n + 1) (fun i => qB3 p vf (M + 1) i % W)) _ (qA8 _ _) hO.out.rd Oo Oo hW2 hWm (by
       intro x hx'; simp only [mk, List.mem_map] at hx'; obtain ⟨a, _, rfl⟩ := hx'; exact qA6 Oo) (by rw [qBN Oo, qGU hp2.1, Int.zero_emod])).mono ?_
      rintro e w7 ⟨vl, rfl, howL, hbL⟩; obtain ⟨oL, cL, rfl⟩ := howL.shapeN (n := n + 1) (qH0 _ _ _)
      go_wp2_with fail
      have HFF := dd (show qCB W (n + 1) (mk (n + 1) (fun i => qB3 p vf (M + 1) i % W)) = qCB W (n + 1) (mk (n + 1) (fun i => qB3 p (at0 (ls ++ List.replicate (3 - ls.length) (0 : Int))) (qA4 p n + 1) i % W)) by rw [← HVF.out, ← HMo.out]); have BwL := Bw.trans (hbL.mono Bw.size); have HLok := dd (show PlaT W (n + 1) (qCB W (n + 1) (mk (n + 1) (fun i => qB3 p vf (M + 1) i % W))) from qAF Oo _ _ _); generalize qCB W (n + 1) (mk (n + 1) (fun i => qB3 p vf (M + 1) i % W)) = L at howL HFF HLok; have X7 := Box2.mk' w7 (.int .i64 W) (.slice oL (n + 1) cL) 26; have hL7 := howL.rd.below (w' := w7.alloc (.cells #[.int .i64 W, .slice oL (n + 1) cL] 26)) bZ (nl _); have Bw7 : Below wA.heap.size wA (w7.alloc (.cells #[.int .i64 W, .slice oL (n + 1) cL] 26)) := BwL.trans ((show Below w7.heap.size w7 (w7.alloc (.cells #[.int .i64 W, .slice oL (n + 1) cL] 26)) from bZ).mono BwL.size); generalize w7.alloc (.cells #[.int .i64 W, .slice oL (n + 1) cL] 26) = w8 at X7 hL7 Bw7 ⊢; refine (qDy m (n : Int) (n + 1) _ Oo Oo).mono ?_; rintro e w9 ⟨vz9, rfl, how9, hb9⟩; obtain ⟨oz, cz, rfl⟩ := how9.shapeN (n := n + 1) (qBm _); have X9 := X7.below hb9; have hL9 := hL7.below hb9; have Bw9 := Bw7.trans (hb9.mono Bw7.size); have hcp9 := qA0 (hdA.trans (Bw9.mono hdAs)) (nl _) hbp
      go_wp2_with fail
      refine (qGp 150 _ _ (fun i j => atT L i j / ((p ^ (i + j - 1) : Nat) : Int)) m oz (n + 1) cz _ Oo Oo Oo Oo qLu
       (fun i j h => by
        have a := qBT HLok.out h; have b := (hp.pow9 (show i + j - 1 ≤ 10 by omega)).1; have c := Int.ediv_nonneg a.1 (show (0 : Int) ≤ ((p ^ (i + j - 1) : Nat) : Int) by omega); have d := Int.ediv_le_self ((p ^ (i + j - 1) : Nat) : Int) a.1; omega)
       (fun i j w1 h hb => (qL7 p i j (n + 1) cL _ _ W oL L w1 hp h Oo Oo Oo HLok.out (qA0 hb (nl _) hcp9) (X9.below hb) (hL9.below hb)).mono fun e w' ⟨a, b⟩ => ⟨a, 0, b.symm⟩)).mono ?_
      rintro e wB ⟨vy, rfl, howY, hbY⟩; obtain ⟨oy, cy, rfl⟩ := howY.shapeN (n := n + 1) (qA9 _ _); have R9 := R0.below ((hdA.trans (Bw9.mono hdAs)).trans (hbY.mono (by have := Bw9.size; omega))) (nl _); have BY := B0.trans (((hdA.trans (Bw9.mono hdAs)).trans (hbY.mono (by have := Bw9.size; omega))).mono Oo); have hRl := R9.1.lt; have hR0 : w.heap.size + 1 < w9.heap.size := by have := Bw9.size; omega
      obtain ⟨⟨r0, r1⟩, rf⟩ := id R9; rw [HFF.out] at howY; have HY := dd howY; clear howY; go_wp2; refine bodyPost_ret (v := .agg #[.int .i64 m, .slice oy (n + 1) cy]) (by simp [results, Tryz.results72, go_sem, r0, r1]) rfl ⟨_, rfl, ?_, ?_⟩
      ·exact ((HY.out.low hR0 _).low hR0 _).mono Oo
      ·(repeat (first | exact bR _ _ | (refine bS ?_ _) | (refine bA ?_ _) | (refine bN ?_ _) | (refine bD ?_) | (refine bT ?_ BY)))
end
section
open Rg

theorem qGA {p n : Nat} (hp : P4 p) (hn : n ≤ 10) : Most p (qA4 p n) := by
 have hnn : n = 0 ∨ n = 1 ∨ n = 2 ∨ n = 3 ∨ n = 4 ∨ n = 5 ∨ n = 6 ∨ n = 7 ∨ n = 8 ∨ n = 9 ∨ n = 10 := Oo
 refine ⟨hp, ?_⟩
 rcases hp with rfl | rfl | rfl | rfl <;>
  rcases hnn with rfl | rfl | rfl | rfl | rfl | rfl | rfl | rfl | rfl | rfl | rfl <;> decide
theorem qQs {p n : Nat} (hp : P4 p) (n1 : 1 ≤ n) (hn : n ≤ 10) {v : Nat → Int} {m W : Int} (hm : 2 ≤ m) (hW : W = m * ((p ^ qA4 p n : Nat) : Int) * p) (hW2 : 2 ≤ W) {ns : Li} (hns : ∀ i, i ≤ qA4 p n → at0 ns i % W = num p v i % W) :
  tri (n + 1) (fun i j => lwF W n p (qA4 p n) ns (n - 1) i j % m) = tri (n + 1) (fun i j => tyF p (qA4 p n) (tyl p (qA4 p n) v) (n - 1) i j % m) := by
 obtain ⟨ν, H⟩ := qKb (qGA hp hn) v
 have k := (qBq hp hn (Nat.le_refl (qA4 p n))).2.2.1
 refine qAE fun i j _ => ?_
 have h := lw_ty H hm hW hW2 hns (Nat.lt_of_not_le fun h => Nat.lt_irrefl _ (k.1 h)) (n - 1) Oo i j
 have h2 := congrArg (· % m) h
 simp only [Int.emod_emod_of_dvd _ (Int.dvd_mul_right m p)] at h2
 exact h2
theorem qIk {p : Nat} (hp : 2 ≤ p) (v : Nat → Int) : ∀ k, qB3 p v (k + 1) 1 = 1
 | 0 => by
   show 0 + (if 1 = p ^ 0 then cK p v 0 else 0) = 1
   rw [if_pos (by rw [Nat.pow_zero])]; unfold cK; rw [qCu, Nat.pow_zero]; rfl
 | k + 1 => by
   show qB3 p v (k + 1) 1 + (if 1 = p ^ (k + 1) then cK p v (k + 1) else 0) = 1
   rw [qIk hp v k, if_neg (by have := qCG hp (k + 1); omega)]; rfl
theorem qJV {p n : Nat} (hp : P4 p) (n1 : 1 ≤ n) (hn : n ≤ 10) (v : Nat → Int) {m W : Int} (hm : 2 ≤ m) (hW : W = m * ((p ^ (n - 1) : Nat) : Int)) (hW2 : 2 ≤ W) :
  tri (n + 1) (fun i j => atT (qCB W (n + 1) (mk (n + 1) (fun i => qB3 p v (qA4 p n + 1) i % W))) i j / ((p ^ (i + j - 1) : Nat) : Int) % m) = tri (n + 1) (fun i j => tyF p (qA4 p n) (tyl p (qA4 p n) v) (n - 1) i j % m) := by
 have hp2 := hp.pos
 have k := (qBq hp hn (Nat.le_refl (qA4 p n))).2.2.1
 have hM : p ^ qA4 p n < n + 1 := by
  by_cases k0 : qA4 p n = 0
  ·rw [k0, Nat.pow_zero]; omega
  ·have h := (qBq hp hn (show qA4 p n - 1 ≤ qA4 p n by omega)).2.2.1.2 Oo; rw [show qA4 p n - 1 + 1 = qA4 p n by omega] at h; omega
 obtain ⟨F, hFe, h0, hL⟩ := ty_ex (qGA hp hn) v (n := n + 1) Oo (Nat.lt_of_not_le fun h => Nat.lt_irrefl _ (k.1 h))
 rw [show n + 1 - 2 = n - 1 by omega] at hFe
 have hl := ty_law hp v Oo hM hW2 h0 hL (xs := mk (n + 1) (fun i => qB3 p v (qA4 p n + 1) i % W)) (qA8 _ _) (by
  intro x hx'; simp only [mk, List.mem_map] at hx'; obtain ⟨a, _, rfl⟩ := hx'; exact qA6 Oo) (fun i hi => by rw [qBN hi, qAW]; rfl) (by rw [qBN Oo, qGU hp2.1, Int.zero_emod]) (by rw [qBN Oo, qIk hp2.1, Int.emod_eq_of_lt Oo Oo])
 refine qAE fun i j h => ?_
 have e := qAJ.1 hl i j h
 have r := qBT (qAF (show 0 < W by omega) (n + 1) (qDZ (n + 1) (mk (n + 1) (fun i => qB3 p v (qA4 p n + 1) i % W))) (qAc W (n + 1) (mk (n + 1) (fun i => qB3 p v (qA4 p n + 1) i % W)))) h
 rw [Int.emod_eq_of_lt r.1 r.2] at e
 unfold qCB
 rw [e, ← hFe]
 unfold hF
 rw [hW, Int.natCast_pow, Int.natCast_pow]
 exact qOc hp2.1 Oo Oo _
end
end Go.Proofs.YtfpphfjlpgefaaaGreat
