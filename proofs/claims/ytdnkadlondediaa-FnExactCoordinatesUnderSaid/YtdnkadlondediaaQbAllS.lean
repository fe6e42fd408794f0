/- Lemmas of AllS. -/
import Derived.Test.YtdnkadlondediaaQbG2
import Derived.Test.YtdnkadlondediaaQbG4
set_option linter.unusedSimpArgs false
set_option linter.unusedVariables false
namespace Go.Proofs.Ytdnkadlondediaa
open Go.RowKit

set_option maxHeartbeats 1000000 in
set_option maxRecDepth 100000 in
theorem IndexFuncS_c (K : Nat) (c : Value) (q : Int × List Int → Bool) (v : Value) (l : List (Int × List Int)) (w : World) (hv : RdM w v l) (hK : Callable K)
    (hF : ∀ p ∈ l, ∀ u w1, Below w.heap.size w w1 → RdI w1 u p.2 → Calls Try.prog K #[.agg #[.int .i64 p.1, u], c] w1 fun e w' => e = .returned (.bool (q p)) ∧ Below w1.heap.size w1 w') :
    Calls Try.prog 174 #[v, .func (.func K) #[] #[c]] w fun e w' => e = .returned (.int .i64 (findI q l)) ∧ Below w.heap.size w w' := by
  obtain ⟨o, cp, rfl, hm, -⟩ := id hv
  unfold maxLen at hm
  unfold Callable at hK
  have HF := Lib.hid hF
  clear hF
  go_enter Try.func174, Try.ntmps174
  go_wp2
  go_loopw [5, 8] (fun _ i wr => ∃ k : Nat, k ≤ l.length ∧ i = .int .i64 k ∧ Hid (∀ j (hj : j < l.length), j < k → q l[j] = false) ∧ Below w.heap.size w wr) (fun _ i _ => l.length - (intOf i).toNat)
  case atStart => exact ⟨0, Nat.zero_le _, rfl, Lib.hid (fun j hj h => by omega), (by (repeat (first | exact Below.refl _ _ | (refine Below.setCell ?_ (by first | (simp; done) | (simp; omega) | omega) _) | (refine Below.alloc ?_ (by first | (simp; done) | (simp; omega) | omega) _) | (refine below_drewN ?_ _) | (refine Below.drew ?_))))⟩
  case round =>
    obtain ⟨k, hk, rfl, HQ, hbr⟩ := hrel
    by_cases hlt : k < l.length
    · have hvr := hv.below hbr (Nat.le_refl _)
      obtain ⟨b, off, rfl⟩ := hvr.base (by omega)
      obtain ⟨o2, c2, y0, y1, hr⟩ := hvr.at hlt
      have i0 : (0 : Int) ≤ (k : Int) := by omega
      have i1 : (k : Int) < (l.length : Int) := by omega
      cases hq : q l[k]
      · go_wp2_with fail
        refine (HF.out l[k] (List.getElem_mem _) _ _ (by (repeat (first | exact Below.refl _ _ | (refine Below.setCell ?_ (by first | (simp; done) | (simp; omega) | omega) _) | (refine Below.alloc ?_ (by first | (simp; done) | (simp; omega) | omega) _) | (refine below_drewN ?_ _) | (refine Below.drew ?_) | (refine Below.trans ?_ (Below.mono hbr (by first | (simp; done) | (simp; omega) | omega)))))) hr).mono ?_
        rw [hq]
        rintro e w2 ⟨rfl, hb2⟩
        clear y0 y1
        go_wp2
        exact ⟨⟨k + 1, by omega, by go_num, Lib.hid (fun j hj h => by
          rcases Nat.lt_or_ge j k with h1 | h1
          · exact HQ.out j hj h1
          · obtain rfl : j = k := by omega
            exact hq), hbr.trans (hb2.mono hbr.size)⟩, by simp [intOf]; omega⟩
      · go_wp2_with fail
        refine (HF.out l[k] (List.getElem_mem _) _ _ (by (repeat (first | exact Below.refl _ _ | (refine Below.setCell ?_ (by first | (simp; done) | (simp; omega) | omega) _) | (refine Below.alloc ?_ (by first | (simp; done) | (simp; omega) | omega) _) | (refine below_drewN ?_ _) | (refine Below.drew ?_) | (refine Below.trans ?_ (Below.mono hbr (by first | (simp; done) | (simp; omega) | omega)))))) hr).mono ?_
        rw [hq]
        rintro e w2 ⟨rfl, hb2⟩
        clear y0 y1
        go_wp2
        go_ret
        exact ⟨by rw [findI_at q l k hlt HQ.out hq]; rfl, hbr.trans (hb2.mono hbr.size)⟩
    · go_wp2
      go_ret
      exact ⟨by rw [findI_none q l (fun j hj => HQ.out j hj (by omega))]; rfl, hbr⟩

set_option maxHeartbeats 400000 in
theorem ContainsFuncS_c (K : Nat) (c : Value) (q : Int × List Int → Bool) (v : Value) (l : List (Int × List Int)) (w : World) (hv : RdM w v l) (hK : Callable K)
    (hF : ∀ p ∈ l, ∀ u w1, Below w.heap.size w w1 → RdI w1 u p.2 → Calls Try.prog K #[.agg #[.int .i64 p.1, u], c] w1 fun e w' => e = .returned (.bool (q p)) ∧ Below w1.heap.size w1 w') :
    Calls Try.prog 158 #[v, .func (.func K) #[] #[c]] w fun e w' => e = .returned (.bool (l.any q)) ∧ Below w.heap.size w w' := by
  have HF := Lib.hid hF
  clear hF
  go_enter Try.func158, Try.ntmps158
  go_wp2_with fail
  refine (IndexFuncS_c K c q _ l _ hv hK HF.out).mono ?_
  rintro e w1 ⟨rfl, hb⟩
  go_wp2
  go_ret
  exact ⟨by rw [← findI_any]; rfl, hb⟩

set_option maxHeartbeats 400000 in
theorem allS1A_c (G : Nat) (nn : Nat) (z : Int) (xs : List Int) (u : Value) (b : Bool) (ab : Nat) (w : World) (hG : Callable G) (hu : RdI w u xs) (ha : w.cell? ⟨ab, 0, none⟩ = some (.func (.func G) #[] #[]))
    (hF : ∀ w1, Below w.heap.size w w1 → Calls Try.prog G #[.agg #[.int .i64 z, u]] w1 fun e w' => e = .returned (.bool b) ∧ Below w1.heap.size w1 w') :
    Calls Try.prog 159 #[.agg #[.int .i64 z, u], .pointer (some ⟨ab, 0, none⟩)] w fun e w' => e = .returned (.bool (!b)) ∧ Below w.heap.size w w' := by
  obtain ⟨o, c, rfl, -, -⟩ := id hu
  have HF := Lib.hid hF
  clear hF
  unfold Callable at hG
  have lab := cell_lt ha
  go_enter Try.func159, Try.ntmps159
  go_wp2_with fail
  (have X0 := ((RB2.mk1 w  (.int .i64 z) (.slice o xs.length c) 34).1).below (w' := (w.alloc (.cells #[.int .i64 z, .slice o xs.length c] 34))) (by (repeat (first | exact Below.refl _ _ | (refine Below.setCell ?_ (by first | (simp; done) | (simp; omega) | omega) _) | (refine Below.alloc ?_ (by first | (simp; done) | (simp; omega) | omega) _) | (refine below_drewN ?_ _) | (refine Below.drew ?_)))) (Nat.le_refl _); have B0 : Below w.heap.size w (w.alloc (.cells #[.int .i64 z, .slice o xs.length c] 34)) := (by (repeat (first | exact Below.refl _ _ | (refine Below.setCell ?_ (by first | (simp; done) | (simp; omega) | omega) _) | (refine Below.alloc ?_ (by first | (simp; done) | (simp; omega) | omega) _) | (refine below_drewN ?_ _) | (refine Below.drew ?_)))); have hu0 := hu.below (w' := (w.alloc (.cells #[.int .i64 z, .slice o xs.length c] 34))) (by (repeat (first | exact Below.refl _ _ | (refine Below.setCell ?_ (by first | (simp; done) | (simp; omega) | omega) _) | (refine Below.alloc ?_ (by first | (simp; done) | (simp; omega) | omega) _) | (refine below_drewN ?_ _) | (refine Below.drew ?_)))) (Nat.le_refl _); generalize w.alloc (.cells #[.int .i64 z, .slice o xs.length c] 34) = w0 at X0 B0 hu0 ⊢)
  have h0 := keep_cell B0 (Nat.le_refl _) ha
  obtain ⟨x0, x1⟩ := id X0
  go_wp2_with fail
  refine (HF.out _ B0).mono ?_
  rintro e w1 ⟨rfl, hb⟩
  clear x0 x1 h0
  have B1 := B0.trans (hb.mono B0.size)
  go_wp2
  go_ret
  exact ⟨rfl, B1⟩
theorem allS1A_callable : Callable 159 := fun args w => Try.call159 args w

set_option maxHeartbeats 1000000 in
theorem allSA_c (G : Nat) (nn : Nat) (q : Int × List Int → Bool) (v : Value) (l : List (Int × List Int)) (w : World) (hv : RdM w v l) (hG : Callable G)
    (hF : ∀ z xs u w1, (z, xs) ∈ l → Below w.heap.size w w1 → RdI w1 u xs → Calls Try.prog G #[.agg #[.int .i64 z, u]] w1 fun e w' => e = .returned (.bool (q (z, xs))) ∧ Below w1.heap.size w1 w') :
    Calls Try.prog 110 #[v, .func (.func G) #[] #[]] w fun e w' => e = .returned (.bool (l.all q)) ∧ Below w.heap.size w w' := by
  have HF := Lib.hid hF
  clear hF
  go_enter Try.func110, Try.ntmps110
  go_wp2_with fail
  have hb0 : Below w.heap.size w (w.alloc (.cells #[.func (.func G) #[] #[]] 85)) := (by (repeat (first | exact Below.refl _ _ | (refine Below.setCell ?_ (by first | (simp; done) | (simp; omega) | omega) _) | (refine Below.alloc ?_ (by first | (simp; done) | (simp; omega) | omega) _) | (refine below_drewN ?_ _) | (refine Below.drew ?_))))
  have hc0 : (w.alloc (.cells #[.func (.func G) #[] #[]] 85)).cell? ⟨w.heap.size, 0, none⟩ = some (.func (.func G) #[] #[]) := by simp
  have hv0 := hv.below hb0 (Nat.le_refl _)
  generalize w.alloc (.cells #[.func (.func G) #[] #[]] 85) = w0 at hb0 hc0 hv0 ⊢
  refine (ContainsFuncS_c 159 _ (fun x => !(q x)) _ l _ hv0 allS1A_callable (fun p hp u w1 hb hu => ?_)).mono ?_
  · have hq := allS1A_c G nn p.1 p.2 u (q p) w.heap.size w1 hG hu (keep_cell hb (Nat.le_refl _) hc0) (fun w2 hb2 => HF.out p.1 p.2 u w2 hp (hb0.trans ((hb.trans (hb2.mono hb.size)).mono hb0.size)) (hu.below hb2 (Nat.le_refl _)))
    exact hq
  rintro e w' ⟨rfl, hb⟩
  have hbz := hb0.trans (hb.mono hb0.size)
  go_wp2
  go_ret
  exact ⟨by simp [List.all_eq_not_any_not], hbz⟩
set_option maxHeartbeats 400000 in
theorem allS1B_c (G : Nat) (pv : Value) (z : Int) (xs : List Int) (u : Value) (b : Bool) (ab : Nat) (w : World) (hG : Callable G) (hu : RdI w u xs) (ha : w.cell? ⟨ab, 0, none⟩ = some (.func (.func G) #[pv] #[]))
    (hF : ∀ w1, Below w.heap.size w w1 → Calls Try.prog G #[pv, .agg #[.int .i64 z, u]] w1 fun e w' => e = .returned (.bool b) ∧ Below w1.heap.size w1 w') :
    Calls Try.prog 159 #[.agg #[.int .i64 z, u], .pointer (some ⟨ab, 0, none⟩)] w fun e w' => e = .returned (.bool (!b)) ∧ Below w.heap.size w w' := by
  obtain ⟨o, c, rfl, -, -⟩ := id hu
  have HF := Lib.hid hF
  clear hF
  unfold Callable at hG
  have lab := cell_lt ha
  go_enter Try.func159, Try.ntmps159
  go_wp2_with fail
  (have X0 := ((RB2.mk1 w  (.int .i64 z) (.slice o xs.length c) 34).1).below (w' := (w.alloc (.cells #[.int .i64 z, .slice o xs.length c] 34))) (by (repeat (first | exact Below.refl _ _ | (refine Below.setCell ?_ (by first | (simp; done) | (simp; omega) | omega) _) | (refine Below.alloc ?_ (by first | (simp; done) | (simp; omega) | omega) _) | (refine below_drewN ?_ _) | (refine Below.drew ?_)))) (Nat.le_refl _); have B0 : Below w.heap.size w (w.alloc (.cells #[.int .i64 z, .slice o xs.length c] 34)) := (by (repeat (first | exact Below.refl _ _ | (refine Below.setCell ?_ (by first | (simp; done) | (simp; omega) | omega) _) | (refine Below.alloc ?_ (by first | (simp; done) | (simp; omega) | omega) _) | (refine below_drewN ?_ _) | (refine Below.drew ?_)))); have hu0 := hu.below (w' := (w.alloc (.cells #[.int .i64 z, .slice o xs.length c] 34))) (by (repeat (first | exact Below.refl _ _ | (refine Below.setCell ?_ (by first | (simp; done) | (simp; omega) | omega) _) | (refine Below.alloc ?_ (by first | (simp; done) | (simp; omega) | omega) _) | (refine below_drewN ?_ _) | (refine Below.drew ?_)))) (Nat.le_refl _); generalize w.alloc (.cells #[.int .i64 z, .slice o xs.length c] 34) = w0 at X0 B0 hu0 ⊢)
  have h0 := keep_cell B0 (Nat.le_refl _) ha
  obtain ⟨x0, x1⟩ := id X0
  go_wp2_with fail
  refine (HF.out _ B0).mono ?_
  rintro e w1 ⟨rfl, hb⟩
  clear x0 x1 h0
  have B1 := B0.trans (hb.mono B0.size)
  go_wp2
  go_ret
  exact ⟨rfl, B1⟩
theorem allS1B_callable : Callable 159 := fun args w => Try.call159 args w

set_option maxHeartbeats 1000000 in
theorem allSB_c (G : Nat) (pv : Value) (q : Int × List Int → Bool) (v : Value) (l : List (Int × List Int)) (w : World) (hv : RdM w v l) (hG : Callable G)
    (hF : ∀ z xs u w1, (z, xs) ∈ l → Below w.heap.size w w1 → RdI w1 u xs → Calls Try.prog G #[pv, .agg #[.int .i64 z, u]] w1 fun e w' => e = .returned (.bool (q (z, xs))) ∧ Below w1.heap.size w1 w') :
    Calls Try.prog 110 #[v, .func (.func G) #[pv] #[]] w fun e w' => e = .returned (.bool (l.all q)) ∧ Below w.heap.size w w' := by
  have HF := Lib.hid hF
  clear hF
  go_enter Try.func110, Try.ntmps110
  go_wp2_with fail
  have hb0 : Below w.heap.size w (w.alloc (.cells #[.func (.func G) #[pv] #[]] 85)) := (by (repeat (first | exact Below.refl _ _ | (refine Below.setCell ?_ (by first | (simp; done) | (simp; omega) | omega) _) | (refine Below.alloc ?_ (by first | (simp; done) | (simp; omega) | omega) _) | (refine below_drewN ?_ _) | (refine Below.drew ?_))))
  have hc0 : (w.alloc (.cells #[.func (.func G) #[pv] #[]] 85)).cell? ⟨w.heap.size, 0, none⟩ = some (.func (.func G) #[pv] #[]) := by simp
  have hv0 := hv.below hb0 (Nat.le_refl _)
  generalize w.alloc (.cells #[.func (.func G) #[pv] #[]] 85) = w0 at hb0 hc0 hv0 ⊢
  refine (ContainsFuncS_c 159 _ (fun x => !(q x)) _ l _ hv0 allS1B_callable (fun p hp u w1 hb hu => ?_)).mono ?_
  · have hq := allS1B_c G pv p.1 p.2 u (q p) w.heap.size w1 hG hu (keep_cell hb (Nat.le_refl _) hc0) (fun w2 hb2 => HF.out p.1 p.2 u w2 hp (hb0.trans ((hb.trans (hb2.mono hb.size)).mono hb0.size)) (hu.below hb2 (Nat.le_refl _)))
    exact hq
  rintro e w' ⟨rfl, hb⟩
  have hbz := hb0.trans (hb.mono hb0.size)
  go_wp2
  go_ret
  exact ⟨by simp [List.all_eq_not_any_not], hbz⟩
end Go.Proofs.Ytdnkadlondediaa
