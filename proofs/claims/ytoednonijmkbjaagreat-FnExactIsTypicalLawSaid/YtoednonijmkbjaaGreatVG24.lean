/- Lemmas of G24. -/
import Derived.Test.YtoednonijmkbjaaGreatVG20
import Derived.Test.YtoednonijmkbjaaGreatVG2
import Derived.Test.YtoednonijmkbjaaGreatVPlaR
import Derived.Test.YtoednonijmkbjaaGreatVG15
import Derived.Test.YtoednonijmkbjaaGreatVPlaT
/- Lazard's cocycle as a table: the reference. -/
set_option linter.unusedSimpArgs false
set_option linter.unusedVariables false
namespace Go.Proofs.YtoednonijmkbjaaGreat
open Go.RowKit

def cocTo (m : Int) (n k : Nat) : List (List Int) := tri (n + 1) (fun i j => if i + j = n ∧ i < k then laz n i % m else 0)
def cocT (m : Int) (n : Nat) : List (List Int) := tri (n + 1) (fun i j => if i + j = n then laz n i % m else 0)
theorem laz_0 (n : Nat) : laz n 0 = 0 := by unfold laz; rw [if_neg (by omega)]
theorem cocTo_1 (m : Int) (n : Nat) : zeroT (n + 1) = cocTo m n 1 := tri_ext fun i j _ => by
  by_cases h : i + j = n ∧ i < 1
  · rw [if_pos h, show i = 0 by omega, laz_0, Int.zero_emod]
  · rw [if_neg h]
theorem cocTo_n (m : Int) (n : Nat) : cocTo m n n = cocT m n := tri_ext fun i j _ => by
  by_cases h : i + j = n
  · rw [if_pos h]
    by_cases h' : i < n
    · rw [if_pos ⟨h, h'⟩]
    · rw [if_neg (fun e => h' e.2), laz_out (by omega), Int.zero_emod]
  · rw [if_neg (fun e => h e.1), if_neg h]
theorem cocTo_set {m : Int} {n k : Nat} (hk : k < n) : (cocTo m n k).set k ((mk (n + 1 - k) (fun j => if k + j = n ∧ k < k then laz n k % m else 0)).set (n - k) (laz n k % m)) = cocTo m n (k + 1) := by
  unfold cocTo
  rw [tri_set (f := fun i j => if i + j = n ∧ i < k then laz n i % m else 0) (by omega)]
  refine tri_ext fun a b h => ?_
  by_cases e : a = k ∧ b = n - k
  · obtain ⟨rfl, rfl⟩ := e
    rw [if_pos ⟨rfl, rfl⟩, if_pos (by omega)]
  · rw [if_neg e]
    by_cases e2 : a + b = n ∧ a < k
    · rw [if_pos e2, if_pos (by omega)]
    · rw [if_neg e2, if_neg (by omega)]

set_option maxHeartbeats 1000000 in
set_option maxRecDepth 100000 in
theorem l07Cocycle_c (m : Int) (n : Nat) (w : World) (h2 : 2 ≤ n) (hn : n ≤ 10) (hm : 2 ≤ m) (hm' : m ≤ 10000) :
    Calls Tryz.prog 83 #[.int .i64 m, .int .i64 n] w fun e w' => ∃ v', e = .returned v' ∧ OwS w' w.heap.size v' (cocT m n) ∧ Below w.heap.size w w' := by
  go_enter Tryz.func83, Tryz.ntmps83
  go_wp2_with fail
  refine (l03Zero_c _ (n + 1) _ (by omega) (by omega)).mono ?_
  rintro e w1 ⟨v1, rfl, how, hb1⟩
  obtain ⟨oT, cT, rfl⟩ := how.shapeN (n := n + 1) (zeroT_len _)
  have hb1s := hb1.size
  go_wp2_with fail
  refine (l01Lazard_c n _ h2 hn).mono ?_
  rintro e w2 ⟨rfl, hb2⟩
  have hb2s := hb2.size
  have B2 := hb1.trans (hb2.mono hb1s)
  have how := how.toR
  obtain ⟨us, how⟩ := how.named
  have how := how.stay (u' := w2) (fun k _ hk => hb2.block k (by omega))
  obtain ⟨gT, rfl, hg1, hg2⟩ := how.row (by omega)
  rw [cocTo_1 m] at how
  obtain ⟨hi, hhi⟩ : ∃ hi, hi = w1.heap.size := ⟨_, rfl⟩
  rw [← hhi] at how hg2 hb2s hb1s
  obtain ⟨la1, la2⟩ := lam_range n h2 hn
  obtain ⟨L, hL⟩ : ∃ L, L = lam n := ⟨_, rfl⟩
  rw [← hL] at la1 la2 ⊢
  have HL := Lib.hid hL
  clear hL hb1 hb2 hhi
  have l1 : ¬ L = 0 := by omega
  have l2 : (L == 0) = false := by simp; omega
  have l3 : ¬ m = 0 := by omega
  have l4 : (m == 0) = false := by simp; omega
  go_wp2_with fail
  go_loopw [7] (fun i wr => ∃ k : Nat, 1 ≤ k ∧ k ≤ n ∧ i = .int .i64 k ∧ OwSU us w.heap.size hi wr (.slice (some ⟨gT, 0, none⟩) (n + 1) cT) (cocTo m n k) ∧ Below w.heap.size w wr ∧ hi ≤ wr.heap.size) (fun i _ => n - (intOf i).toNat)
  case atStart => exact ⟨1, Nat.le_refl _, by omega, rfl, how, B2, hb2s⟩
  case round =>
    clear how B2 hb2s
    obtain ⟨k, hk1, hk, rfl, hO, hB, hhw⟩ := hrel
    have hBs := hB.size
    by_cases hlt : k < n
    · have i1 : (k : Int) < (n : Int) := by omega
      have i2 : (0 : Int) ≤ (k : Int) := by omega
      have i3 : (k : Int) < (n : Int) + 1 := by omega
      have i4 : (k : Int) < ((n + 1 : Nat) : Int) := by omega
      have r2 := bin_r10 hn k
      have hq := laz_quo h2 hn hk1 hlt
      rw [← HL.out] at hq
      have q0 : 0 ≤ laz n k ∧ laz n k ≤ 1024 := laz_range h2 hn k
      have rq := mod_lt' (a := laz n k) (show 0 < m by omega)
      have e3 : IntKind.i64.wrap (laz n k) = laz n k := IntWalk.i64_in _ (by omega)
      have e4 : (laz n k).tmod m = laz n k % m := Int.tmod_eq_emod_of_nonneg q0.1
      have e5 : IntKind.i64.wrap ((n : Int) - (k : Int)) = ((n - k : Nat) : Int) := by rw [IntWalk.i64_in _ (by omega)]; omega
      have HS := Lib.hid (cocTo_set (m := m) hlt)
      have hrP : (cocTo m n k)[k]? = some (mk (n + 1 - k) (fun j => if k + j = n ∧ k < k then laz n k % m else 0)) := tri_get (by omega)
      obtain ⟨rP, hrPe⟩ : ∃ rP, rP = mk (n + 1 - k) (fun j => if k + j = n ∧ k < k then laz n k % m else 0) := ⟨_, rfl⟩
      rw [← hrPe] at HS hrP
      have hrPl : rP.length = n + 1 - k := by rw [hrPe, mk_len]
      have Hlen := Lib.hid hrPl
      clear hrPe
      obtain ⟨oP, cP, huP, cxP, -, hblP, -⟩ := hO.at hrP
      rw [hrPl] at cxP
      go_wp2_with fail
      refine (l01Binomial_c n k _ (by omega) hn).mono ?_
      rintro e w4 ⟨rfl, hb4⟩
      have hO4 := hO.stay (u' := w4) (fun k _ hk => hb4.block k (by omega))
      have hb4s := hb4.size
      have B4 := hB.trans (hb4.mono hBs)
      obtain ⟨oQ, cQ, huQ, cxQ, howP, hblQ, hsetP⟩ := hO4.at hrP
      obtain ⟨rfl, rfl⟩ : oP = oQ ∧ cP = cQ := by rw [huP] at huQ; simp at huQ; exact huQ
      rw [hrPl] at howP hblQ hsetP cxQ
      obtain ⟨gP, rfl, hgP1, hgP2⟩ := howP.row (by omega)
      have hgP3 := hblQ gP rfl
      have hfP := howP.fz (n - k)
      have hcP := howP.cell (k := n - k) (some_at0 (by omega))
      have HSP := Lib.hid hsetP
      have HownP := Lib.hid howP
      clear hsetP howP huP hblP hrP hrPl huQ hO hO4 cxP
      have j5 : ((n - k : Nat) : Int) < ((n + 1 - k : Nat) : Int) := by omega
      have j6 : n - k < n + 1 - k := by omega
      go_wp2_with fail
      have hg0 := gr_put (World.grownBy.refl w4 (some gP)) (n - k) (.int .i64 (laz n k % m))
      have hOn := HSP.out _ _ (by rw [List.length_set, Hlen.out]) hg0 (HownP.out.put (n - k) (laz n k % m))
      rw [HS.out] at hOn
      have hBn := below_put B4 (g := gP) (k := n - k) (by omega) (.int .i64 (laz n k % m))
      exact ⟨⟨k + 1, by omega, by omega, by go_num, hOn, hBn, by simp; omega⟩, by simp [intOf]; omega⟩
    · obtain rfl : k = n := by omega
      rw [cocTo_n] at hO
      have hOs := hO.r.ow
      have i1 : ¬ (k : Int) < (k : Int) := by omega
      go_wp2
      go_ret
      exact ⟨_, rfl, hOs, hB⟩
end Go.Proofs.YtoednonijmkbjaaGreat

/- The factor of a cocycle: the reference's search. -/
set_option linter.unusedSimpArgs false
set_option linter.unusedVariables false
namespace Go.Proofs.YtoednonijmkbjaaGreat
open Go.RowKit

theorem int_beq_comm (a b : Int) : (a == b) = (b == a) := by rw [Bool.eq_iff_iff]; simp only [beq_iff_eq]; exact eq_comm

set_option maxHeartbeats 2000000 in
set_option maxRecDepth 100000 in
theorem l07Factor_c (m : Int) (n : Nat) (v : Value) (t : List (List Int)) (w : World) (hv : RdT w v t) (ht : PlaT m (n + 1) t) (h2 : 2 ≤ n) (hn : n ≤ 10) (hm : 2 ≤ m) (hm' : m ≤ 10000) :
    Calls Tryz.prog 45 #[.int .i64 m, v] w fun e w' => e = .returned (.int .i64 (facTo m (laz n) (fun i => atT t i (n - i)) (n + 1) m.toNat)) ∧ Below w.heap.size w w' := by
  obtain ⟨M, rfl⟩ : ∃ M : Nat, m = M := ⟨m.toNat, by omega⟩
  obtain ⟨o, cv, rfl, hmx, -⟩ := id hv
  have hl := ht.1
  rw [hl] at hmx ⊢
  have hv' : RdT w (.slice o (n + 1) cv) t := by rw [hl] at hv; exact hv
  obtain ⟨bv, fv, rfl, -⟩ := hv'.rows (by omega)
  have HT := Lib.hid ht
  clear hv hl ht
  obtain ⟨D, hD⟩ : ∃ D, D = fun i => atT t i (n - i) := ⟨_, rfl⟩
  have HD := Lib.hid hD
  rw [← hD]
  clear hD
  go_enter Tryz.func45, Tryz.ntmps45
  go_wp2_with fail
  refine (l07Cocycle_c M n w h2 hn hm hm').mono ?_
  rintro e w1 ⟨vc, rfl, hO, hb1⟩
  obtain ⟨oc, cc, rfl⟩ := hO.shapeN (n := n + 1) (tri_len _ _)
  obtain ⟨gc, rfl, -, -⟩ := hO.row (by omega)
  have hC := hO.rd
  have hV := hv'.below hb1 (Nat.le_refl _)
  clear hv' hO
  go_wp2_with fail
  go_loopw [7] (fun i wr => ∃ (k : Nat) (d : Nat), k ≤ M ∧ i = .int .i64 k ∧ wr = w1.drewN d ∧ Hid (facTo M (laz n) D (n + 1) k = -1)) (fun i _ => M - (intOf i).toNat)
  case atStart => exact ⟨0, 0, Nat.zero_le _, rfl, rfl, Lib.hid rfl⟩
  case round =>
    obtain ⟨k, dr, hk, rfl, rfl, HK⟩ := hrel
    by_cases hlt : k < M
    · have i0 : (k : Int) < (M : Int) := by omega
      go_wp2_with fail
      go_loopw [8, 9] (fun f i wr => ∃ (q : Nat) (d : Nat), q ≤ n + 1 ∧ i = .int .i64 q ∧ f = .bool (fitTo M (laz n) D k q) ∧ wr = w1.drewN d) (fun _ i _ => n + 1 - (intOf i).toNat)
      case atStart => exact ⟨0, dr, Nat.zero_le _, rfl, rfl, rfl⟩
      case round =>
        obtain ⟨q, dq, hq, rfl, rfl, rfl⟩ := hrel
        by_cases hql : q < n + 1
        · have i1 : (q : Int) ≤ (n : Int) := by omega
          cases hB : fitTo M (laz n) D k q
          · have hF : fitTo M (laz n) D k (n + 1) = false := by
              have := fitTo_f hB (n + 1 - q)
              rwa [show q + (n + 1 - q) = n + 1 by omega] at this
            have HB := Lib.hid (facTo_f HK.out hF)
            go_wp2
            exact ⟨⟨k + 1, _, by omega, by go_num, rfl, HB⟩, by simp [intOf]; omega⟩
          · have i2 : (0 : Int) ≤ (q : Int) := by omega
            have i3 : (q : Int) < ((n + 1 : Nat) : Int) := by omega
            have i4 : (q : Int) < (n : Int) + 1 := by omega
            have i5 : ((n - q : Nat) : Int) < ((n + 1 - q : Nat) : Int) := by omega
            have i6 : (0 : Int) ≤ ((n - q : Nat) : Int) := by omega
            obtain ⟨o1, c1, cx, rx⟩ := hC.row (tri_get (f := fun i j => if i + j = n then laz n i % (M : Int) else 0) hql)
            rw [mk_len, Nat.zero_add] at cx
            rw [mk_len] at rx
            obtain ⟨b1, f1, rfl, -⟩ := rx.cells (by rw [mk_len]; omega)
            have ex := rx.cell0 (mk_get (f := fun j => if q + j = n then laz n q % (M : Int) else 0) (show n - q < n + 1 - q by omega))
            rw [if_pos (by omega)] at ex
            obtain ⟨rT, hrT, hrTl, hrTj⟩ := HT.out.row hql
            obtain ⟨o2, c2, cy, ry⟩ := hV.row hrT
            rw [hrTl] at cy ry
            obtain ⟨b2, f2, rfl, -⟩ := ry.cells (by omega)
            have ey := ry.cell0 (hrTj (n - q) (by omega))
            have rt := tab_range HT.out (show q + (n - q) < n + 1 by omega)
            have hDq : D q = atT t q (n - q) := by rw [HD.out]
            rw [← hDq] at ey rt
            have rl := laz_range h2 hn q
            have rm := mod_lt' (a := laz n q) (show 0 < (M : Int) by omega)
            have m0 : ((M : Int) == 0) = false := by simp; omega
            have m1 : ¬ (M : Int) = 0 := by omega
            have hp : 0 ≤ (k : Int) * (laz n q % (M : Int)) ∧ (k : Int) * (laz n q % (M : Int)) ≤ 10000 * 10000 := ⟨Int.mul_nonneg (by omega) rm.1, Int.mul_le_mul (by omega) (by omega) rm.1 (by omega)⟩
            have e2 : IntKind.i64.wrap ((k : Int) * (laz n q % (M : Int))) = (k : Int) * (laz n q % (M : Int)) := IntWalk.i64_in _ (by omega)
            have e3 : ((k : Int) * (laz n q % (M : Int))).tmod (M : Int) = (k : Int) * (laz n q % (M : Int)) % (M : Int) := Int.tmod_eq_emod_of_nonneg hp.1
            have e5 : IntKind.i64.wrap ((n : Int) - (q : Int)) = ((n - q : Nat) : Int) := by rw [IntWalk.i64_in _ (by omega)]; omega
            have HF : Hid (fitTo M (laz n) D k (q + 1) = ((k : Int) * (laz n q % (M : Int)) % (M : Int) == D q)) := Lib.hid (by
              show (fitTo M (laz n) D k q && (D q % (M : Int) == (k : Int) * (laz n q % (M : Int)) % (M : Int))) = _
              rw [hB, Int.emod_eq_of_lt rt.1 rt.2, int_beq_comm]; rfl)
            clear hrT hrTl hrTj hDq
            generalize D q = x at ey rt HF
            generalize laz n q = y at ex rl rm hp e2 e3 HF
            generalize hY : y % (M : Int) = Y at ex rm hp e2 e3 HF
            clear hY
            go_wp2_with fail
            go_quiet (fail)
            go_wp2
            exact ⟨⟨q + 1, _, by omega, by go_num, by rw [HF.out], (by first | rfl | (simp [World.drewN_drewN]; done))⟩, by simp [intOf]; omega⟩
        · obtain rfl : q = n + 1 := by omega
          have i1 : ¬ ((n + 1 : Nat) : Int) ≤ (n : Int) := by omega
          have i1' : ¬ ((n : Int) + 1) ≤ (n : Int) := by omega
          cases hB : fitTo M (laz n) D k (n + 1)
          · have HB := Lib.hid (facTo_f HK.out hB)
            go_wp2
            exact ⟨⟨k + 1, _, by omega, by go_num, rfl, HB⟩, by simp [intOf]; omega⟩
          · have HB := Lib.hid (facTo_end (M := M) HK.out hB (by omega))
            go_wp2
            go_ret
            exact ⟨by rw [HB.out]; rfl, (by (repeat (first | exact Below.refl _ _ | (refine Below.setCell ?_ (by first | (simp; done) | (simp; omega) | omega) _) | (refine Below.alloc ?_ (by first | (simp; done) | (simp; omega) | omega) _) | (refine below_drewN ?_ _) | (refine Below.drew ?_) | (refine Below.trans ?_ (Below.mono hb1 (by first | (simp; done) | (simp; omega) | omega))))))⟩
    · obtain rfl : k = M := by omega
      have i1 : ¬ (k : Int) < (k : Int) := by omega
      go_wp2
      go_ret
      exact ⟨by rw [HK.out]; rfl, (by (repeat (first | exact Below.refl _ _ | (refine Below.setCell ?_ (by first | (simp; done) | (simp; omega) | omega) _) | (refine Below.alloc ?_ (by first | (simp; done) | (simp; omega) | omega) _) | (refine below_drewN ?_ _) | (refine Below.drew ?_) | (refine Below.trans ?_ (Below.mono hb1 (by first | (simp; done) | (simp; omega) | omega))))))⟩
end Go.Proofs.YtoednonijmkbjaaGreat
