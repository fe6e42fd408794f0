/- Lemmas of LzF. -/
import Derived.Test.YtoednonijmkbjaaGreatVG24
import Derived.Test.YtoednonijmkbjaaGreatVG15
import Derived.Test.YtoednonijmkbjaaGreatVPlaR
import Derived.Test.YtoednonijmkbjaaGreatVWeiB
set_option linter.unusedSimpArgs false
set_option linter.unusedVariables false
namespace Go.Proofs.YtoednonijmkbjaaGreat
open Go.RowKit

set_option maxHeartbeats 400000 in
theorem l03Degree_c (m : Int) (o : Option Addr) (n c : Nat) (w : World) (hn : n ≤ maxLen) :
    Calls Tryz.prog 67 #[.agg #[.int .i64 m, .slice o n c]] w fun e w' => e = .returned (.int .i64 ((n : Int) - 1)) ∧ Below w.heap.size w w' := by
  unfold maxLen at hn
  go_enter Tryz.func67, Tryz.ntmps67
  go_wp2
  go_ret
  exact ⟨rfl, (by (repeat (first | exact Below.refl _ _ | (refine Below.setCell ?_ (by first | (simp; done) | (simp; omega) | omega) _) | (refine Below.alloc ?_ (by first | (simp; done) | (simp; omega) | omega) _) | (refine below_drewN ?_ _) | (refine Below.drew ?_))))⟩

def topL (n : Nat) (t : List (List Int)) (k : Nat) : List Int := mk k (fun i => atT t i (n - i))
set_option maxHeartbeats 1000000 in
set_option maxRecDepth 100000 in
theorem topP_c (m M : Int) (n : Nat) (v : Value) (t : List (List Int)) (w : World) (hv : RdT w v t) (ht : PlaT M (n + 1) t) (hn : n ≤ 100) :
    Calls Tryz.prog 60 #[.agg #[.int .i64 m, v]] w fun e w' => ∃ v', e = .returned v' ∧ OwI w' w.heap.size v' (topL n t (n + 1)) ∧ Below w.heap.size w w' := by
  obtain ⟨o, c, rfl, hmx, -⟩ := id hv
  rw [ht.1] at hmx ⊢
  have hv' : RdT w (.slice o (n + 1) c) t := by rw [ht.1] at hv; exact hv
  obtain ⟨bx, fx, rfl, -⟩ := hv'.rows (by rw [ht.1]; omega)
  have HT := Lib.hid ht
  clear hv ht
  go_enter Tryz.func60, Tryz.ntmps60
  go_wp2_with fail
  have X0 := Box2.mk' w (.int .i64 m) (.slice (some ⟨bx, fx, none⟩) (n + 1) c) 31
  have B0 : Below w.heap.size w (w.alloc (.cells #[.int .i64 m, .slice (some ⟨bx, fx, none⟩) (n + 1) c] 31)) := (by (repeat (first | exact Below.refl _ _ | (refine Below.setCell ?_ (by first | (simp; done) | (simp; omega) | omega) _) | (refine Below.alloc ?_ (by first | (simp; done) | (simp; omega) | omega) _) | (refine below_drewN ?_ _) | (refine Below.drew ?_))))
  have hsz : (w.alloc (.cells #[.int .i64 m, .slice (some ⟨bx, fx, none⟩) (n + 1) c] 31)).heap.size = w.heap.size + 1 := by simp
  have hv0 := hv'.below B0 (Nat.le_refl _)
  generalize w.alloc (.cells #[.int .i64 m, .slice (some ⟨bx, fx, none⟩) (n + 1) c] 31) = w0 at X0 B0 hsz hv0 ⊢
  rw [← hsz]
  have HSZ := Lib.hid hsz
  clear hsz
  refine (degreeP_c m (some ⟨bx, fx, none⟩) (n + 1) c _ hmx.1).mono ?_
  rintro e w2 ⟨rfl, hb2⟩
  have hbA : Below w0.heap.size w0 (w0.alloc (.cells #[] 2)) := (by (repeat (first | exact Below.refl _ _ | (refine Below.setCell ?_ (by first | (simp; done) | (simp; omega) | omega) _) | (refine Below.alloc ?_ (by first | (simp; done) | (simp; omega) | omega) _) | (refine below_drewN ?_ _) | (refine Below.drew ?_))))
  have O1 := OwI.lit w0 [] (by decide)
  have O2 := O1.below hb2
  simp at O2
  have hB2 := hbA.trans (hb2.mono hbA.size)
  rw [show ([] : List Int) = topL n t 0 from rfl] at O2
  have hs0 := B0.size
  clear O1 hbA hb2 hv'
  have e0 : IntKind.i64.wrap ((n : Int) + 1) = (n : Int) + 1 := IntWalk.i64_in _ (by omega)
  skip
  go_wp2_with fail
  go_loopw [3, 11] (fun s i wr => ∃ k : Nat, k ≤ n + 1 ∧ i = .int .i64 k ∧ OwI wr w0.heap.size s (topL n t k) ∧ Below w0.heap.size w0 wr) (fun _ i _ => n + 1 - (intOf i).toNat)
  case atStart => exact ⟨0, Nat.zero_le _, rfl, O2, hB2⟩
  case round =>
    clear O2 hB2
    obtain ⟨k, hk, rfl, hO, hB⟩ := hrel
    obtain ⟨ov, cv, rfl⟩ := hO.shapeN (n := k) (mk_len _ _)
    have hBs := hB.size
    by_cases hlt : k < n + 1
    · have i1 : (k : Int) < (n : Int) + 1 := by omega
      have i2 : (0 : Int) ≤ (k : Int) := by omega
      have i3 : (k : Int) < ((n + 1 : Nat) : Int) := by omega
      have i5 : ((n - k : Nat) : Int) < ((n + 1 - k : Nat) : Int) := by omega
      have Xr := X0.below hB (Nat.le_refl _)
      obtain ⟨x0, x1⟩ := id Xr
      have hvr := hv0.below hB (Nat.le_refl _)
      obtain ⟨rT, hrT, hrTl, hrTj⟩ := HT.out.row hlt
      obtain ⟨o2, c2, cy, ry⟩ := hvr.row hrT
      rw [hrTl] at cy ry
      obtain ⟨b2, f2, rfl, -⟩ := ry.cells (by omega)
      have ey := ry.cell0 (hrTj (n - k) (by omega))
      have e5 : IntKind.i64.wrap ((n : Int) - (k : Int)) = ((n - k : Nat) : Int) := by rw [IntWalk.i64_in _ (by omega)]; omega
      have HS := Lib.hid (show topL n t (k + 1) = topL n t k ++ [atT t k (n - k)] from mk_snoc _ _)
      clear hrT hrTl hrTj
      go_wp2_with (at_builtin; refine apI wr rfl _ _ rfl w0.heap.size (.slice ov k cv) _ rfl hO _ rfl (by unfold topL; rw [mk_len]; omega) (by omega) ?_; intro v' w4 hO3 hgr hb3 hlt3; clear hgr)
      rw [← HS.out] at hO3
      exact ⟨⟨k + 1, by omega, by go_num, hO3, hB.trans hb3⟩, by simp [intOf]; omega⟩
    · obtain rfl : k = n + 1 := by omega
      have i1 : ¬ (((n + 1 : Nat) : Int) < (n : Int) + 1) := by omega
      go_wp2
      go_ret
      exact ⟨_, rfl, hO.mono (by omega), B0.trans (hB.mono hs0)⟩

set_option maxHeartbeats 1000000 in
set_option maxRecDepth 100000 in
theorem l07Gap_c (m : Int) (n : Nat) (v u : Value) (t s : List (List Int)) (w : World) (hv : RdT w v t) (hu : RdT w u s) (hn : n ≤ 100) (hm : 2 ≤ m) (hm' : m ≤ 10000) (ht : PlaT m n t) (hs : PlaT m n s) :
    Calls Tryz.prog 46 #[.int .i64 m, v, u] w fun e w' => ∃ v', e = .returned v' ∧ OwS w' w.heap.size v' (tri n (fun i j => (atT s i j - atT t i j) % m)) ∧ Below w.heap.size w w' := by
  have e1 : IntKind.i64.wrap (m - 1) = m - 1 := IntWalk.i64_in _ (by omega)
  go_enter Tryz.func46, Tryz.ntmps46
  go_wp2_with fail
  refine (l03Scale_c m (m - 1) v t w hv hm (by omega) (by omega) (by omega) (by rw [ht.1]; omega) ht.2).mono ?_
  rintro e w1 ⟨v1, rfl, how, hb1⟩
  have hb1s := hb1.size
  have hl1 := ht.1
  have hl2 := hs.1
  have hu1 := hu.below hb1 (Nat.le_refl _)
  go_wp2_with fail
  refine (l03Add_c m u v1 s (scaT m t.length (m - 1) t) w1 hu1 how.rd hm (by omega) (by omega) (by unfold scaT; rw [tri_len]; omega) hs.2 (fun i hi => ?_)).mono ?_
  · have h := (show PlaT m t.length (scaT m t.length (m - 1) t) from tri_ok fun _ _ _ => mod_lt' (by omega))
    have h2 := h.2 i hi
    exact h2
  rintro e w2 ⟨v2, rfl, how2, hb2⟩
  have HE := Lib.hid (show addT m s.length s (scaT m t.length (m - 1) t) = tri n (fun i j => (atT s i j - atT t i j) % m) by
    rw [hl1, hl2]
    refine tri_ext fun i j h => ?_
    unfold scaT
    rw [atT_tri h]
    refine (emod_congr_add (rfl : atT s i j % m = _) (mod_self_mod _ _)).trans ?_
    rw [Int.sub_mul, Int.one_mul, show atT s i j + (m * atT t i j - atT t i j) = (atT s i j - atT t i j) + m * atT t i j by omega, Int.add_mul_emod_self_left])
  rw [HE.out] at how2
  go_wp2
  go_ret
  exact ⟨_, rfl, how2.mono hb1s, hb1.trans (hb2.mono hb1s)⟩
end Go.Proofs.YtoednonijmkbjaaGreat
