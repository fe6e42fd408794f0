/- Lemmas of CutP. -/
import Derived.Test.YtoednonijmkbjaaGreatVTabG
import Derived.Test.YtoednonijmkbjaaGreatVHomP
import Derived.Test.YtoednonijmkbjaaGreatVCopy
import Derived.Test.YtoednonijmkbjaaGreatVPlaT
set_option linter.unusedSimpArgs false
set_option linter.unusedVariables false
namespace Go.Proofs.YtoednonijmkbjaaGreat
open Go.RowKit

def cutRows (k i : Nat) (t : List (List Int)) : List (List Int) := (List.range i).map (fun r => mk (k - r) (atT t r))
theorem cutRows_len (k i : Nat) (t : List (List Int)) : (cutRows k i t).length = i := by simp [cutRows]
theorem cutRows_snoc (k i : Nat) (t : List (List Int)) : cutRows k (i + 1) t = cutRows k i t ++ [mk (k - i) (atT t i)] := tri_snoc_rows k i _
theorem take_row {m : Int} {n k i : Nat} {t : List (List Int)} (ht : PlaT m n t) (hi : i < k) (hk : k ≤ n) {row : List Int} (hr : t[i]? = some row) : row.take (k - i) = mk (k - i) (atT t i) := by
  obtain ⟨hl, rfl⟩ := List.getElem?_eq_some_iff.1 hr
  have e := (ht.2 i hl).1
  rw [ht.1] at e
  rw [eq_mk (t[i].take (k - i)), List.length_take, e, show min (k - i) (n - i) = k - i by omega]
  exact mk_ext fun j hj => by rw [at0_take hj, atT_row hl]

set_option maxHeartbeats 1000000 in
set_option maxRecDepth 100000 in
theorem l03Cut_c (m d : Int) (n k : Nat) (v : Value) (t : List (List Int)) (w : World) (hv : RdT w v t) (ht : PlaT m n t) (hd : d = (k : Int) - 1) (h1 : 1 ≤ k) (hk : k ≤ n) (hn : n ≤ 1000) :
    Calls Tryz.prog 47 #[v, .int .i64 d] w fun e w' => ∃ v', e = .returned v' ∧ OwS w' w.heap.size v' (cutT k t) ∧ Below w.heap.size w w' := by
  subst hd
  obtain ⟨o, c, rfl, hmt, -⟩ := id hv
  have hv' : RdT w (.slice o n c) t := by rw [ht.1] at hv; exact hv
  rw [ht.1]
  have HT := Lib.hid ht
  clear ht hv hmt
  go_enter Tryz.func47, Tryz.ntmps47
  go_wp2_with fail
  have O1 := OwS.lit0 w
  have hb1 : Below w.heap.size w (w.alloc (.cells #[] 26)) := (by (repeat (first | exact Below.refl _ _ | (refine Below.setCell ?_ (by first | (simp; done) | (simp; omega) | omega) _) | (refine Below.alloc ?_ (by first | (simp; done) | (simp; omega) | omega) _) | (refine below_drewN ?_ _) | (refine Below.drew ?_))))
  generalize w.alloc (.cells #[] 26) = w1 at O1 hb1 ⊢
  go_loopw [5, 6] (fun l i wr => ∃ r : Nat, r ≤ k ∧ i = .int .i64 r ∧ OwS wr w.heap.size l (cutRows k r t) ∧ Below w.heap.size w wr) (fun _ i _ => k - (intOf i).toNat)
  case atStart => exact ⟨0, Nat.zero_le _, rfl, O1, hb1⟩
  case round =>
    clear O1 hb1
    obtain ⟨r, hr, rfl, hO, hB⟩ := hrel
    have hBs := hB.size
    obtain ⟨ol, cl, rfl⟩ := hO.shapeN (n := r) (cutRows_len _ _ _)
    by_cases hlt : r < k
    · obtain ⟨row, hr1, hl1, hj1⟩ := HT.out.row (show r < n by omega)
      have hvr := hv'.below hB (Nat.le_refl _)
      obtain ⟨bt, ft, rfl, -⟩ := hvr.rows (by have := HT.out.1; omega)
      obtain ⟨o1, c1, cx, rx⟩ := hvr.row hr1
      obtain ⟨b1, f1, rfl, -⟩ := rx.cells (by omega)
      have hcap := rx.len
      have rt := rx.take (k - r) (by omega)
      rw [take_row HT.out hlt hk hr1] at rt
      have HS := Lib.hid (cutRows_snoc k r t)
      have HL := Lib.hid (cutRows_len k r t)
      generalize cutRows k r t = l at hO HS HL
      have i0 : (0 : Int) ≤ (r : Int) := by omega
      have i1 : (r : Int) < (n : Int) := by omega
      have i2 : (r : Int) ≤ (k : Int) - 1 := by omega
      have e1 : IntKind.i64.wrap ((k : Int) - 1 - (r : Int)) = (k : Int) - 1 - (r : Int) := IntWalk.i64_in _ (by omega)
      have e2 : (k : Int) - 1 - (r : Int) + 1 = ((k - r : Nat) : Int) := by omega
      have e3 : IntKind.i64.wrap ((k - r : Nat) : Int) = ((k - r : Nat) : Int) := IntWalk.i64_in _ (by omega)
      have e4 : (((k - r : Nat) : Int)).toNat = k - r := by omega
      have e5 : ((k - r : Nat) : Int) ≤ (c1 : Int) := by omega
      have e6 : (0 : Int) ≤ ((k - r : Nat) : Int) := by omega
      clear hr1 hj1
      have hrk : k - r ≤ 1048576 := by omega
      go_wp2_with (first
        | (go_at_call 69; go_loud (refine (l01Own_c ⟨b1, f1, none⟩ (k - r) c1 (mk (k - r) (atT t r)) _ rt (by rw [mk_len]; exact hrk)).mono ?_; rintro e w3 ⟨vo, rfl, how, hb3⟩; obtain ⟨oa, ca, rfl⟩ := how.shapeN (n := k - r) (mk_len _ _); have hz3 := hb3.size))
        | (at_builtin; obtain ⟨W, hW⟩ : ∃ W : World, W = w3.alloc (.cells #[.slice oa (k - r) ca] 26) := ⟨_, rfl⟩; have hWb : Below wr.heap.size wr W := (by rw [hW]; exact (by (repeat (first | exact Below.refl _ _ | (refine Below.setCell ?_ (by first | (simp; done) | (simp; omega) | omega) _) | (refine Below.alloc ?_ (by first | (simp; done) | (simp; omega) | omega) _) | (refine below_drewN ?_ _) | (refine Below.drew ?_) | (refine Below.trans ?_ (Below.mono hb3 (by first | (simp; done) | (simp; omega) | omega))))))); have hT : OwSR w.heap.size wr.heap.size W (.slice ol r cl) l := hO.toR.stay (fun j _ hj => hWb.block j hj); have hU : OwI W wr.heap.size (.slice oa (k - r) ca) (mk (k - r) (atT t r)) := (by rw [hW]; exact how.alloc _); have hC : W.cell? ⟨w3.heap.size, 0, none⟩ = some (.slice oa (k - r) ca) := (by rw [hW]; simp); have B3 := hB.trans (hWb.mono hBs); have hWs := hWb.size; rw [← hW]; have HW := Lib.hid hW; clear hW; go_loud (refine apT W rfl _ _ rfl w.heap.size wr.heap.size _ _ rfl hT (by omega) hBs _ _ w3.heap.size rfl hC hU (by rw [HL.out]; omega) ?_; intro g2 cap w4 hO4 hgr hb4; clear hgr; have B4 := B3.trans hb4)))
      rw [← HS.out] at hO4
      exact ⟨⟨r + 1, by omega, by go_num, hO4, B4⟩, by simp [intOf]; omega⟩
    · obtain rfl : r = k := by omega
      have i2 : ¬ (r : Int) ≤ (r : Int) - 1 := by omega
      go_wp2
      go_ret
      exact ⟨_, rfl, hO, hB⟩

end Go.Proofs.YtoednonijmkbjaaGreat
