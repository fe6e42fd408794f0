/- Lemmas of Crv. -/
import Derived.Test.YtdnkadlondediaaQbG5
import Derived.Test.YtdnkadlondediaaQbPut
import Derived.Test.YtdnkadlondediaaQbCrd
import Derived.Test.YtdnkadlondediaaQbG3
set_option linter.unusedSimpArgs false
set_option linter.unusedVariables false
namespace Go.Proofs.Ytdnkadlondediaa
open Go.RowKit

set_option maxHeartbeats 1000000 in
set_option maxRecDepth 100000 in
theorem monomial_c (m d kk c : Int) (n k : Nat) (w : World) (hd : d + 1 = n) (hkk : kk = (k : Int)) (hk : k < n) (hn : n ≤ 1048576) :
    Calls Try.prog 97 #[.int .i64 m, .int .i64 d, .int .i64 kk, .int .i64 c] w fun e w' => SVEnd w w' m (monL n k c) e := by
  subst hkk
  go_enter Try.func97, Try.ntmps97
  go_wp2_with fail
  have R0 := RB2.mk1 w (.int .i64 0) (.slice none 0 0) 34
  have B0 : Below w.heap.size w (w.alloc (.cells #[.int .i64 0, .slice none 0 0] 34)) := (by (repeat (first | exact Below.refl _ _ | (refine Below.setCell ?_ (by first | (simp; done) | (simp; omega) | omega) _) | (refine Below.alloc ?_ (by first | (simp; done) | (simp; omega) | omega) _) | (refine below_drewN ?_ _) | (refine Below.drew ?_))))
  generalize w.alloc (.cells #[.int .i64 0, .slice none 0 0] 34) = w0 at R0 B0 ⊢
  have hzl : w.heap.size < w0.heap.size := R0.1.lt
  go_wp2_with fail
  refine (zero_c m d n _ hd hn).mono ?_
  rintro e w1 ⟨vz, rfl, how, hb⟩
  obtain ⟨oz, cz, rfl⟩ := how.shapeN (n := n) (by simp)
  obtain ⟨g, rfl, hgl, hgl'⟩ := how.row (by omega)
  (have R1 := R0.below hb (Nat.le_refl _); have B1 := B0.trans (hb.mono B0.size))
  have hb1 := hb.size
  have lR := R1.1.lt
  have hc0 := how.cell (k := k) (rep_get n k 0 hk)
  have hf0 := how.fz k
  have Hn := Lib.hid how
  clear how
  have i0 : (0 : Int) ≤ (k : Int) := by omega
  have i2 : (k : Int) < (n : Int) := by omega
  have hgn : g ≠ w1.heap.size := by omega
  have hgr : g ≠ w.heap.size := by omega
  obtain ⟨⟨r0, r1⟩, rf⟩ := id R1
  go_wp2
  refine bodyPost_ret (v := .agg #[.int .i64 m, .slice (some ⟨g, 0, none⟩) n cz]) (by simp [results, Try.results97, go_sem, r0, r1, lR, hgn, hgr]) rfl ⟨_, rfl, ?_, ?_⟩
  · exact ((((Hn.out.put k c).low (by first | (simp; done) | (simp; omega) | omega) _).low (by first | (simp; done) | (simp; omega) | omega) _).alloc _).mono (by first | (simp; done) | (simp; omega) | omega)
  · (repeat (first | exact Below.refl _ _ | (refine Below.setCell ?_ (by first | (simp; done) | (simp; omega) | omega) _) | (refine Below.alloc ?_ (by first | (simp; done) | (simp; omega) | omega) _) | (refine below_drewN ?_ _) | (refine Below.drew ?_) | (refine Below.trans ?_ (Below.mono B1 (by first | (simp; done) | (simp; omega) | omega)))))

set_option maxHeartbeats 2000000 in
set_option maxRecDepth 100000 in
theorem l12Curve_c (m : Int) (n : Nat) (v u : Value) (t : List (List Int)) (l : List Int) (w : World) (hv : RdT w v t) (hu : RdI w u l) (hl : l.length < n) (h1 : 2 ≤ n) (hn : n ≤ 1000) (hm : 2 ≤ m) (hm' : m ≤ 10000) (ht : PlaT m n t) (hx : ∀ x ∈ l, 0 ≤ x ∧ x < m) :
    Calls Try.prog 91 #[.int .i64 m, v, u] w fun e w' => ∃ v', e = .returned v' ∧ OwI w' w.heap.size v' (crvL m n t l) ∧ Below w.heap.size w w' := by
  obtain ⟨o, c, rfl, hmt, -⟩ := id hv
  obtain ⟨o', c', rfl, hml, -⟩ := id hu
  have hv' : RdT w (.slice o n c) t := by rw [ht.1] at hv; exact hv
  rw [ht.1] at hmt ⊢
  have HT := Lib.hid ht
  clear ht hv
  unfold maxLen at hmt hml
  go_enter Try.func91, Try.ntmps91
  go_wp2_with (at_make; go_loud (refine mkI _ rfl _ _ rfl _ _ _ n rfl rfl rfl (by omega) ?_; intro w1 hown hb hs1; have Hown := Lib.hid hown; clear hown; have Hs1 := Lib.hid hs1; clear hs1))
  have hO := Hown.out
  clear Hown Hs1
  go_loopw [7, 8, 9] (fun so i _ wr => ∃ (k : Nat) (ov : Option Addr) (cv : Nat), k ≤ l.length ∧ i = .int .i64 k ∧ so = .slice ov n cv ∧ OwI wr w.heap.size (.slice ov n cv) (crvTo m n t l k) ∧ Below w.heap.size w wr) (fun _ i _ _ => l.length - (intOf i).toNat)
  case atStart => exact ⟨0, _, _, Nat.zero_le _, rfl, rfl, hO, hb⟩
  case round =>
    clear hO hb
    obtain ⟨k, ov, cv, hk, rfl, rfl, hO, hB⟩ := hrel
    have hBs := hB.size
    by_cases hlt : k < l.length
    · obtain ⟨bx, fx, rfl, -⟩ := hu.cells (by omega)
      have i0 : (0 : Int) ≤ (k : Int) := by omega
      have i1 : (k : Int) < (l.length : Int) := by omega
      have i2 : (0 : Int) ≤ (k : Int) + 1 := by omega
      have i3 : (k : Int) + 1 < (n : Int) := by omega
      have i4 : ((k : Int) + 1).toNat = k + 1 := by omega
      have hxk := at0_range (by omega) hx k
      go_wp2_with (at_make; go_loud (refine mkI _ rfl _ _ rfl _ _ _ n rfl rfl rfl (by omega) ?_; intro w2 hown hb2 hs1; have cx := (hu.below (hB.trans (hb2.mono hBs)) (Nat.le_refl _)).cell0 (some_at0 hlt); have hc0 := hown.cell (k := k + 1) (rep_get n (k + 1) 0 (by omega)); have hf0 := hown.fz (k + 1); have Hown := Lib.hid hown; clear hown; have Hs1 := Lib.hid hs1; clear hs1))
      have hM := Hown.out.put (k + 1) (at0 l k)
      have hO2 := (hO.below hb2).ne (b := wr.heap.size) (k := k + 1) (fun j hj => by have hq := (hO.lt j hj).2; omega) (.int .i64 (at0 l k))
      have hB2 := below_put (hB.trans (hb2.mono hBs)) (g := wr.heap.size) (k := k + 1) hBs (.int .i64 (at0 l k))
      have HS := Lib.hid (show putL m n t (crvTo m n t l k) (monL n (k + 1) (at0 l k)) = crvTo m n t l (k + 1) from rfl)
      clear Hown Hs1 hc0 hf0 cx
      generalize w2.setCell ⟨wr.heap.size, k + 1, none⟩ (.int .i64 (at0 l k)) = w3 at hM hO2 hB2 ⊢
      have hB2s := hB2.size
      refine (l03Put_c m n _ _ _ t (crvTo m n t l k) (monL n (k + 1) (at0 l k)) _ (hv'.below hB2 (Nat.le_refl _)) hO2.rd hM.rd (crvTo_len _ _ _ _ _) (monL_len _ _ _) (by omega) (by omega) (by omega) (by omega) HT.out (crvTo_range (by omega) _ _ _ _) (monL_range (by omega) hxk)).mono ?_
      rintro e w4 ⟨vp, rfl, hop, hb4⟩
      rw [HS.out] at hop
      obtain ⟨op, cp, rfl⟩ := hop.shapeN (n := n) (crvTo_len _ _ _ _ _)
      go_wp2
      exact ⟨⟨k + 1, _, _, by omega, by go_num, rfl, hop.mono hB2s, hB2.trans (hb4.mono hB2s)⟩, by simp [intOf]; omega⟩
    · obtain rfl : k = l.length := by omega
      go_wp2
      go_ret
      exact ⟨_, rfl, hO, hB⟩

end Go.Proofs.Ytdnkadlondediaa
