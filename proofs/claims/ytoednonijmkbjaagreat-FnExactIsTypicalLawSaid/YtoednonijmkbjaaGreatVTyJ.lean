/- Lemmas of TyJ. -/
import Derived.Test.YtoednonijmkbjaaGreatVG8
import Derived.Test.YtoednonijmkbjaaGreatVCutP
import Derived.Test.YtoednonijmkbjaaGreatVPlaV
set_option linter.unusedSimpArgs false
set_option linter.unusedVariables false
namespace Go.Proofs.YtoednonijmkbjaaGreat
open Go.RowKit

set_option maxHeartbeats 1000000 in
theorem l09Three_c (v : Value) (ls : List Int) (w : World) (hv : RdI w v ls) (hl : ls.length ≤ 3) :
    Calls Tryz.prog 78 #[v] w fun e w' => ∃ v', e = .returned v' ∧ OwI w' w.heap.size v' (ls ++ List.replicate (3 - ls.length) 0) ∧ Below w.heap.size w w' := by
  obtain ⟨o, c, rfl, hmx, -⟩ := id hv
  go_enter Tryz.func78, Tryz.ntmps78
  go_wp2_with fail
  refine (l01OwnA_c _ ls _ hv (by omega)).mono ?_
  rintro e w1 ⟨gc, cc, rfl, hO, hB⟩
  go_wp2_with fail
  go_loopw [3] (fun s wr => ∃ k : Nat, ls.length + k ≤ 3 ∧ OwI wr w.heap.size s (ls ++ List.replicate k 0) ∧ Below w.heap.size w wr) (fun s _ => 3 - (match s with | .slice _ n _ => n | _ => 0))
  case atStart => exact ⟨0, by omega, by simpa using hO, hB⟩
  case round =>
    clear hO hB
    obtain ⟨k, hk, hO, hB⟩ := hrel
    obtain ⟨ov, cv, rfl⟩ := hO.shapeN (n := ls.length + k) (by simp)
    have hBs := hB.size
    have HS := Lib.hid (show ls ++ List.replicate (k + 1) (0 : Int) = ls ++ List.replicate k 0 ++ [0] by rw [List.replicate_succ', List.append_assoc])
    have HL := Lib.hid (show (ls ++ List.replicate k (0 : Int)).length = ls.length + k by simp)
    have HE := Lib.hid (show ls.length + k = 3 → ls ++ List.replicate k (0 : Int) = ls ++ List.replicate (3 - ls.length) 0 from fun h => by rw [show 3 - ls.length = k by omega])
    generalize ls ++ List.replicate k (0 : Int) = l at hO HS HL HE
    have HK := Lib.hid hk
    generalize hN : ls.length + k = N at HK HL HE hk hO ⊢
    by_cases hlt : N < 3
    · have i1 : (N : Int) < 3 := by omega
      go_wp2_with (at_builtin; refine apI wr rfl _ _ rfl w.heap.size (.slice ov N cv) _ rfl hO _ rfl (by rw [HL.out]; omega) (by omega) ?_; intro v' w4 hO3 hgr hb3 hlt3; clear hgr)
      rw [← HS.out] at hO3
      obtain ⟨o5, c5, rfl⟩ := hO3.shapeN (n := N + 1) (by rw [HS.out, List.length_append, HL.out]; rfl)
      exact ⟨⟨k + 1, by omega, hO3, hB.trans hb3⟩, by simp; omega⟩
    · have i1 : ¬ (N : Int) < 3 := by omega
      rw [HE.out (by omega)] at hO
      go_wp2
      go_ret
      exact ⟨_, rfl, hO, hB⟩

def pwT (m : Int) (n : Nat) (t : List (List Int)) : Nat → List (List Int)
  | 0 => t
  | k + 1 => timesT m n (pwT m n t k) t
theorem pwT_ok {m : Int} (hm : 0 < m) {n : Nat} {t : List (List Int)} (ht : PlaT m n t) : ∀ k, PlaT m n (pwT m n t k)
  | 0 => ht
  | k + 1 => timesT_ok hm _ _ _

set_option maxHeartbeats 1000000 in
theorem l09Power_c (m q : Int) (n k : Nat) (v : Value) (t : List (List Int)) (w : World) (hv : RdT w v t) (hq : q = (k : Int) + 1) (hk : k ≤ 1000) (h1 : 1 ≤ n) (hn : n ≤ 1000) (hm : 2 ≤ m) (hm' : m ≤ 3000000000) (ht : PlaT m n t) :
    Calls Tryz.prog 121 #[.int .i64 m, v, .int .i64 q] w fun e w' => ∃ v', e = .returned v' ∧ RdT w' v' (pwT m n t k) ∧ Below w.heap.size w w' := by
  subst hq
  have HT := Lib.hid ht
  clear ht
  go_enter Tryz.func121, Tryz.ntmps121
  go_wp2
  go_loopw [2, 7] (fun i s wr => ∃ j : Nat, j ≤ k ∧ i = .int .i64 ((k - j : Nat) + 1 : Int) ∧ RdT wr s (pwT m n t j) ∧ Below w.heap.size w wr) (fun i _ _ => (intOf i).toNat)
  case atStart => exact ⟨0, Nat.zero_le _, rfl, hv, Below.refl _ _⟩
  case round =>
    obtain ⟨j, hj, rfl, hR, hB⟩ := hrel
    by_cases hlt : j < k
    · have i1 : (1 : Int) < ((k - j : Nat) : Int) + 1 := by omega
      have e1 : IntKind.i64.wrap ((k - j : Nat) : Int) = ((k - (j + 1) : Nat) : Int) + 1 := by rw [IntWalk.i64_in _ (by omega)]; omega
      have hvr := hv.below hB (Nat.le_refl _)
      have HP := Lib.hid (pwT_ok (show 0 < m by omega) HT.out j)
      have HS := Lib.hid (show pwT m n t (j + 1) = timesT m n (pwT m n t j) t from rfl)
      generalize pwT m n t j = l at hR HP HS
      have HN := Lib.hid (show k - (j + 1) < k - j by omega)
      generalize hz : k - (j + 1) = z at e1 HN
      have HZ := Lib.hid hz
      clear hz
      generalize k - j = y at i1 e1 HN ⊢
      go_wp2_with fail
      refine (l03Times_c m n _ v l t _ hR hvr h1 hn hm hm' HP.out HT.out).mono ?_
      rintro e w2 ⟨v2, rfl, how, hb⟩
      rw [← HS.out] at how
      have B2 := hB.trans (hb.mono hB.size)
      go_wp2_with fail
      exact ⟨⟨j + 1, by omega, by rw [HZ.out], how.rd, B2⟩, by simp [intOf]; have := HN.out; omega⟩
    · obtain rfl : j = k := by omega
      have i1 : ¬ (1 : Int) < ((j - j : Nat) : Int) + 1 := by omega
      go_wp2
      go_ret
      exact ⟨_, rfl, hR, hB⟩

set_option maxHeartbeats 1000000 in
set_option maxRecDepth 100000 in
theorem l01Own2_c (m : Int) (n : Nat) (v : Value) (t : List (List Int)) (w : World) (hv : RdT w v t) (ht : PlaT m n t) (h1 : 1 ≤ n) (hn : n ≤ 1000) :
    Calls Tryz.prog 43 #[v] w fun e w' => ∃ v', e = .returned v' ∧ OwS w' w.heap.size v' t ∧ Below w.heap.size w w' := by
  obtain ⟨k, rfl⟩ : ∃ k, k = n := ⟨_, rfl⟩
  have hk : k ≤ k := Nat.le_refl _
  rw [show t = cutT k t from tri_eq ht.1 (fun i hi => by rw [(ht.2 i hi).1, ht.1])]
  obtain ⟨o, c, rfl, hmt, -⟩ := id hv
  have hv' : RdT w (.slice o k c) t := by rw [ht.1] at hv; exact hv
  rw [ht.1]
  have HT := Lib.hid ht
  clear ht hv hmt
  go_enter Tryz.func43, Tryz.ntmps43
  go_wp2_with fail
  have O1 := OwS.lit0 w
  have hb1 : Below w.heap.size w (w.alloc (.cells #[] 26)) := (by (repeat (first | exact Below.refl _ _ | (refine Below.setCell ?_ (by first | (simp; done) | (simp; omega) | omega) _) | (refine Below.alloc ?_ (by first | (simp; done) | (simp; omega) | omega) _) | (refine below_drewN ?_ _) | (refine Below.drew ?_))))
  generalize w.alloc (.cells #[] 26) = w1 at O1 hb1 ⊢
  go_loopw [3, 4] (fun l i wr => ∃ r : Nat, r ≤ k ∧ i = .int .i64 r ∧ OwS wr w.heap.size l (cutRows k r t) ∧ Below w.heap.size w wr) (fun _ i _ => k - (intOf i).toNat)
  case atStart => exact ⟨0, Nat.zero_le _, rfl, O1, hb1⟩
  case round =>
    clear O1 hb1
    obtain ⟨r, hr, rfl, hO, hB⟩ := hrel
    have hBs := hB.size
    obtain ⟨ol, cl, rfl⟩ := hO.shapeN (n := r) (cutRows_len _ _ _)
    by_cases hlt : r < k
    · obtain ⟨row, hr1, hl1, hj1⟩ := HT.out.row (show r < k by omega)
      have hvr := hv'.below hB (Nat.le_refl _)
      obtain ⟨bt, ft, rfl, -⟩ := hvr.rows (by have := HT.out.1; omega)
      obtain ⟨o1, c1, cx, rx⟩ := hvr.row hr1
      obtain ⟨b1, f1, rfl, -⟩ := rx.cells (by omega)
      have hcap := rx.len
      have hrow := take_row HT.out hlt hk hr1
      rw [List.take_of_length_le (by omega)] at hrow
      have rt := rx
      rw [hl1, hrow] at rt
      rw [hl1] at cx
      clear hrow
      have HS := Lib.hid (cutRows_snoc k r t)
      have HL := Lib.hid (cutRows_len k r t)
      generalize cutRows k r t = l at hO HS HL
      have i0 : (0 : Int) ≤ (r : Int) := by omega
      have i1 : (r : Int) < (k : Int) := by omega
      have i2 : (r : Int) ≤ (k : Int) - 1 := by omega
      have e1 : IntKind.i64.wrap ((k : Int) - 1 - (r : Int)) = (k : Int) - 1 - (r : Int) := IntWalk.i64_in _ (by omega)
      have e2 : (k : Int) - 1 - (r : Int) + 1 = ((k - r : Nat) : Int) := by omega
      have e3 : IntKind.i64.wrap ((k - r : Nat) : Int) = ((k - r : Nat) : Int) := IntWalk.i64_in _ (by omega)
      have e4 : (((k - r : Nat) : Int)).toNat = k - r := by omega
      have e5 : ((k - r : Nat) : Int) ≤ (c1 : Int) := by omega
      have e6 : (0 : Int) ≤ ((k - r : Nat) : Int) := by omega
      clear hr1 hj1
      have hrk : k - r ≤ 1048576 := by omega
      go_wp2_with (first
        | (go_at_call 69; go_loud (refine (l01Own_c ⟨b1, f1, none⟩ (k - r) c1 (mk (k - r) (atT t r)) _ rt (by rw [mk_len]; exact hrk)).mono ?_; rintro e w3 ⟨vo, rfl, how, hb3⟩; obtain ⟨oa, ca, rfl⟩ := how.shapeN (n := k - r) (mk_len _ _); have hz3 := hb3.size))
        | (at_builtin; obtain ⟨W, hW⟩ : ∃ W : World, W = w3.alloc (.cells #[.slice oa (k - r) ca] 26) := ⟨_, rfl⟩; have hWb : Below wr.heap.size wr W := (by rw [hW]; exact (by (repeat (first | exact Below.refl _ _ | (refine Below.setCell ?_ (by first | (simp; done) | (simp; omega) | omega) _) | (refine Below.alloc ?_ (by first | (simp; done) | (simp; omega) | omega) _) | (refine below_drewN ?_ _) | (refine Below.drew ?_) | (refine Below.trans ?_ (Below.mono hb3 (by first | (simp; done) | (simp; omega) | omega))))))); have hT : OwSR w.heap.size wr.heap.size W (.slice ol r cl) l := hO.toR.stay (fun j _ hj => hWb.block j hj); have hU : OwI W wr.heap.size (.slice oa (k - r) ca) (mk (k - r) (atT t r)) := (by rw [hW]; exact how.alloc _); have hC : W.cell? ⟨w3.heap.size, 0, none⟩ = some (.slice oa (k - r) ca) := (by rw [hW]; simp); have B3 := hB.trans (hWb.mono hBs); have hWs := hWb.size; rw [← hW]; have HW := Lib.hid hW; clear hW; go_loud (refine apT W rfl _ _ rfl w.heap.size wr.heap.size _ _ rfl hT (by omega) hBs _ _ w3.heap.size rfl hC hU (by rw [HL.out]; omega) ?_; intro g2 cap w4 hO4 hgr hb4; clear hgr; have B4 := B3.trans hb4)))
      rw [← HS.out] at hO4
      exact ⟨⟨r + 1, by omega, by go_num, hO4, B4⟩, by simp [intOf]; omega⟩
    · obtain rfl : r = k := by omega
      have i2 : ¬ (r : Int) ≤ (r : Int) - 1 := by omega
      go_wp2
      go_ret
      exact ⟨_, rfl, hO, hB⟩
end Go.Proofs.YtoednonijmkbjaaGreat
