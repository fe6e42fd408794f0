/- Lemmas of WittD. -/
import Derived.Test.YtcjinlfgeljmkaaWSWittC
import Derived.Test.YtcjinlfgeljmkaaWSGhost
set_option linter.unusedSimpArgs false
set_option linter.unusedVariables false
namespace Go.Proofs.Ytcjinlfgeljmkaa
open Go.RowKit

structure IR where
  val : Int
  code : Int
def IEnd (w w' : World) (r : IR) (e : Ending) : Prop := e = .returned (.tuple #[.int .i64 r.val, .int .i64 r.code]) ∧ Below w.heap.size w w'
structure LR where
  xs : List Int
  code : Int
theorem Box3.belowB {B : Nat} {w w' : World} {b : Nat} {x y z : Value} (h : Box3 w b x y z) (hb : Below B w w') (hB : b < B) : Box3 w' b x y z :=
  ⟨(hb.cell (p := ⟨b, 0, none⟩) hB).trans h.1, (hb.cell (p := ⟨b, 1, none⟩) hB).trans h.2.1, (hb.cell (p := ⟨b, 2, none⟩) hB).trans h.2.2⟩
theorem RB3.belowB {B : Nat} {w w' : World} {b : Nat} {x y z : Value} (h : RB3 w b x y z) (hb : Below B w w') (hB : b < B) : RB3 w' b x y z :=
  ⟨h.1.belowB hb hB, fun k => (hb.frozen (p := ⟨b, k, none⟩) hB).trans (h.2 k)⟩
theorem below_of_drewN {w w' : World} {d : Nat} (h : w' = w.drewN d) : Below w.heap.size w w' := by rw [h]; exact below_drewN (Below.refl _ _) _

theorem prime_nat {p : Int} (h : p = 2 ∨ p = 3 ∨ p = 5 ∨ p = 7) : ∃ q : Nat, p = q ∧ P4 q := by
  rcases h with rfl | rfl | rfl | rfl
  · exact ⟨2, rfl, .inl rfl⟩
  · exact ⟨3, rfl, .inr (.inl rfl)⟩
  · exact ⟨5, rfl, .inr (.inr (.inl rfl))⟩
  · exact ⟨7, rfl, .inr (.inr (.inr rfl))⟩
theorem witt_x' {p m : Int} {xs : List Int} (h : wittB p m xs = true) : ∀ x ∈ xs, 0 ≤ x ∧ x ≤ 9000000000000000000 := by
  intro x hx
  have := witt_x h x hx
  have := witt_m h
  omega

def residR (p m : Int) (xs : List Int) : IR := if wittB p m xs then (if m == p then ⟨gh p.toNat (at0 xs) (xs.length - 1) % p ^ xs.length, 0⟩ else ⟨0, 5⟩) else ⟨0, 1⟩

set_option maxHeartbeats 1000000 in
set_option maxRecDepth 100000 in
theorem residue_c (p : Nat) (m : Int) (v : Value) (xs : List Int) (w : World) (hp : P4 p) (hv : RdI w v xs) (h1 : 1 ≤ xs.length) (h4 : xs.length ≤ 4) (hx : ∀ x ∈ xs, 0 ≤ x ∧ x ≤ 9000000000000000000) :
    Calls Try.prog 191 #[.agg #[.int .i64 p, .int .i64 m, v]] w fun e w' => e = .returned (.int .i64 (gh p (at0 xs) (xs.length - 1) % (p : Int) ^ xs.length)) ∧ Below w.heap.size w w' := by
  have hv1 := hv.below (w' := w.alloc (.cells #[.int .i64 p, .int .i64 m, v] 59)) ((by (repeat (first | exact Below.refl _ _ | (refine Below.setCell ?_ (by first | (simp; done) | (simp; omega) | omega) _) | (refine Below.alloc ?_ (by first | (simp; done) | (simp; omega) | omega) _) | (refine below_drewN ?_ _) | (refine Below.drew ?_))))) (Nat.le_refl _)
  obtain ⟨o, c, rfl, hm, -⟩ := hv
  have hpb := hp.bounds
  have hpp := hp.pow3 h4
  go_enter Try.func191, Try.ntmps191
  go_wp2
  have e1 : IntKind.i64.wrap ((xs.length : Int) - 1) = (xs.length : Int) - 1 := IntWalk.i64_in _ (by omega)
  go_quiet ((first | (go_at_call 193; (first | exact quietA (rfl) (scale_c _ _ xs.length _ rfl (by omega) (by omega) (by omega)) | exact quietB (rfl) (scale_c _ _ xs.length _ rfl (by omega) (by omega) (by omega)) | exact quietC (rfl) (scale_c _ _ xs.length _ rfl (by omega) (by omega) (by omega)) | exact quietD (rfl) (scale_c _ _ xs.length _ rfl (by omega) (by omega) (by omega)))) | (go_at_call 233; (first | exact quietA (rfl) (ghost_c p _ _ xs _ (xs.length - 1) _ hp hv1 (by omega) (by omega) (by omega) (by omega) (by omega) hx) | exact quietB (rfl) (ghost_c p _ _ xs _ (xs.length - 1) _ hp hv1 (by omega) (by omega) (by omega) (by omega) (by omega) hx) | exact quietC (rfl) (ghost_c p _ _ xs _ (xs.length - 1) _ hp hv1 (by omega) (by omega) (by omega) (by omega) (by omega) hx) | exact quietD (rfl) (ghost_c p _ _ xs _ (xs.length - 1) _ hp hv1 (by omega) (by omega) (by omega) (by omega) (by omega) hx)))))
  clear e1
  go_wp2
  go_ret
  exact ⟨rfl, (by (repeat (first | exact Below.refl _ _ | (refine Below.setCell ?_ (by first | (simp; done) | (simp; omega) | omega) _) | (refine Below.alloc ?_ (by first | (simp; done) | (simp; omega) | omega) _) | (refine below_drewN ?_ _) | (refine Below.drew ?_))))⟩

set_option maxHeartbeats 1000000 in
set_option maxRecDepth 100000 in
theorem l13Residue_c (p : Nat) (m : Int) (v : Value) (xs : List Int) (w : World) (hp : P4 p) (hv : RdI w v xs) (h1 : 1 ≤ xs.length) (h4 : xs.length ≤ 4) (hx : ∀ x ∈ xs, 0 ≤ x ∧ x ≤ 9000000000000000000) :
    Calls Try.prog 192 #[.agg #[.int .i64 p, .int .i64 m, v]] w fun e w' => e = .returned (.int .i64 (gh p (at0 xs) (xs.length - 1) % (p : Int) ^ xs.length)) ∧ Below w.heap.size w w' := by
  have hv1 := hv.below (w' := w.alloc (.cells #[.int .i64 p, .int .i64 m, v] 59)) ((by (repeat (first | exact Below.refl _ _ | (refine Below.setCell ?_ (by first | (simp; done) | (simp; omega) | omega) _) | (refine Below.alloc ?_ (by first | (simp; done) | (simp; omega) | omega) _) | (refine below_drewN ?_ _) | (refine Below.drew ?_))))) (Nat.le_refl _)
  obtain ⟨o, c, rfl, hm, -⟩ := hv
  have hpb := hp.bounds
  have hpp := hp.pow3 h4
  go_enter Try.func192, Try.ntmps192
  go_wp2
  have e1 : IntKind.i64.wrap ((xs.length : Int) - 1) = (xs.length : Int) - 1 := IntWalk.i64_in _ (by omega)
  go_quiet ((first | (go_at_call 195; (first | exact quietA (rfl) (l13Raise_c _ _ xs.length _ rfl (by omega) (by omega) (by omega)) | exact quietB (rfl) (l13Raise_c _ _ xs.length _ rfl (by omega) (by omega) (by omega)) | exact quietC (rfl) (l13Raise_c _ _ xs.length _ rfl (by omega) (by omega) (by omega)) | exact quietD (rfl) (l13Raise_c _ _ xs.length _ rfl (by omega) (by omega) (by omega)))) | (go_at_call 230; (first | exact quietA (rfl) (l13Ghost_c p _ _ xs _ (xs.length - 1) _ hp hv1 (by omega) (by omega) (by omega) (by omega) (by omega) hx) | exact quietB (rfl) (l13Ghost_c p _ _ xs _ (xs.length - 1) _ hp hv1 (by omega) (by omega) (by omega) (by omega) (by omega) hx) | exact quietC (rfl) (l13Ghost_c p _ _ xs _ (xs.length - 1) _ hp hv1 (by omega) (by omega) (by omega) (by omega) (by omega) hx) | exact quietD (rfl) (l13Ghost_c p _ _ xs _ (xs.length - 1) _ hp hv1 (by omega) (by omega) (by omega) (by omega) (by omega) hx)))))
  clear e1
  go_wp2
  go_ret
  exact ⟨rfl, (by (repeat (first | exact Below.refl _ _ | (refine Below.setCell ?_ (by first | (simp; done) | (simp; omega) | omega) _) | (refine Below.alloc ?_ (by first | (simp; done) | (simp; omega) | omega) _) | (refine below_drewN ?_ _) | (refine Below.drew ?_))))⟩

set_option maxHeartbeats 1000000 in
set_option maxRecDepth 100000 in
theorem ResidueOf_c (p m : Int) (v : Value) (xs : List Int) (w : World) (hv : RdI w v xs) :
    Calls Try.prog 84 #[.agg #[.int .i64 p, .int .i64 m, v]] w fun e w' => IEnd w w' (residR p m xs) e := by
  have X0 := Box3.mk' w (.int .i64 p) (.int .i64 m) v 59
  have hv0 := hv.below (w' := w.alloc (.cells #[.int .i64 p, .int .i64 m, v] 59)) ((by (repeat (first | exact Below.refl _ _ | (refine Below.setCell ?_ (by first | (simp; done) | (simp; omega) | omega) _) | (refine Below.alloc ?_ (by first | (simp; done) | (simp; omega) | omega) _) | (refine below_drewN ?_ _) | (refine Below.drew ?_))))) (Nat.le_refl _)
  have B0 : Below w.heap.size w (w.alloc (.cells #[.int .i64 p, .int .i64 m, v] 59)) := (by (repeat (first | exact Below.refl _ _ | (refine Below.setCell ?_ (by first | (simp; done) | (simp; omega) | omega) _) | (refine Below.alloc ?_ (by first | (simp; done) | (simp; omega) | omega) _) | (refine below_drewN ?_ _) | (refine Below.drew ?_))))
  obtain ⟨o, c, rfl, hm, -⟩ := hv
  cases hs : wittB p m xs
  · have hR : residR p m xs = ⟨0, 1⟩ := by simp [residR, hs]
    rw [hR]
    go_enter Try.func84, Try.ntmps84
    go_wp2_with fail
    refine (IsWitt_c p m _ xs _ hv0).mono ?_
    rw [hs]
    rintro e w1 ⟨rfl, hb⟩
    have B1 := B0.trans (hb.mono B0.size)
    go_wp2
    go_ret2
    exact ⟨rfl, B1⟩
  · obtain ⟨q, rfl, hq⟩ := prime_nat (witt_p hs)
    have hl := witt_len hs
    by_cases hmp : m = q
    · have hR : residR q m xs = ⟨gh q (at0 xs) (xs.length - 1) % (q : Int) ^ xs.length, 0⟩ := by unfold residR; rw [hs]; simp [hmp]
      rw [hR]
      have hne : (m != (q : Int)) = false := by simp [hmp]
      clear hmp
      go_enter Try.func84, Try.ntmps84
      go_wp2_with fail
      refine (IsWitt_c q m _ xs _ hv0).mono ?_
      rw [hs]
      generalize w.alloc (.cells #[.int .i64 q, .int .i64 m, .slice o xs.length c] 59) = w0 at X0 hv0 B0 ⊢
      rintro e w1 ⟨rfl, hb⟩
      (have X1 := X0.below hb (Nat.le_refl _); have hv1 := hv0.below hb (Nat.le_refl _); have B1 := B0.trans (hb.mono B0.size))
      obtain ⟨k0, k1, k2⟩ := id X1
      go_wp2_with fail
      refine (residue_c q m _ xs _ hq hv1 (by omega) (by omega) (witt_x' hs)).mono ?_
      rintro e w2 ⟨rfl, hb2⟩
      have B2 := B1.trans (hb2.mono B1.size)
      go_wp2
      go_ret2
      exact ⟨rfl, B2⟩
    · have hR : residR q m xs = ⟨0, 5⟩ := by simp [residR, hs, hmp]
      rw [hR]
      have hne : (m != (q : Int)) = true := by simp [hmp]
      clear hmp
      go_enter Try.func84, Try.ntmps84
      go_wp2_with fail
      refine (IsWitt_c q m _ xs _ hv0).mono ?_
      rw [hs]
      generalize w.alloc (.cells #[.int .i64 q, .int .i64 m, .slice o xs.length c] 59) = w0 at X0 hv0 B0 ⊢
      rintro e w1 ⟨rfl, hb⟩
      (have X1 := X0.below hb (Nat.le_refl _); have hv1 := hv0.below hb (Nat.le_refl _); have B1 := B0.trans (hb.mono B0.size))
      obtain ⟨k0, k1, k2⟩ := id X1
      go_wp2
      go_ret2
      exact ⟨rfl, B1⟩

set_option maxHeartbeats 1000000 in
set_option maxRecDepth 100000 in
theorem sResidueOf_c (p m : Int) (v : Value) (xs : List Int) (w : World) (hv : RdI w v xs) :
    Calls Try.prog 85 #[.agg #[.int .i64 p, .int .i64 m, v]] w fun e w' => IEnd w w' (residR p m xs) e := by
  have X0 := Box3.mk' w (.int .i64 p) (.int .i64 m) v 59
  have hv0 := hv.below (w' := w.alloc (.cells #[.int .i64 p, .int .i64 m, v] 59)) ((by (repeat (first | exact Below.refl _ _ | (refine Below.setCell ?_ (by first | (simp; done) | (simp; omega) | omega) _) | (refine Below.alloc ?_ (by first | (simp; done) | (simp; omega) | omega) _) | (refine below_drewN ?_ _) | (refine Below.drew ?_))))) (Nat.le_refl _)
  have B0 : Below w.heap.size w (w.alloc (.cells #[.int .i64 p, .int .i64 m, v] 59)) := (by (repeat (first | exact Below.refl _ _ | (refine Below.setCell ?_ (by first | (simp; done) | (simp; omega) | omega) _) | (refine Below.alloc ?_ (by first | (simp; done) | (simp; omega) | omega) _) | (refine below_drewN ?_ _) | (refine Below.drew ?_))))
  obtain ⟨o, c, rfl, hm, -⟩ := hv
  cases hs : wittB p m xs
  · have hR : residR p m xs = ⟨0, 1⟩ := by simp [residR, hs]
    rw [hR]
    go_enter Try.func85, Try.ntmps85
    go_wp2_with fail
    refine (l13Is_c p m _ xs _ hv0).mono ?_
    rw [hs]
    rintro e w1 ⟨rfl, hb⟩
    have B1 := B0.trans (hb.mono B0.size)
    go_wp2
    go_ret2
    exact ⟨rfl, B1⟩
  · obtain ⟨q, rfl, hq⟩ := prime_nat (witt_p hs)
    have hl := witt_len hs
    by_cases hmp : m = q
    · have hR : residR q m xs = ⟨gh q (at0 xs) (xs.length - 1) % (q : Int) ^ xs.length, 0⟩ := by unfold residR; rw [hs]; simp [hmp]
      rw [hR]
      have hne : (m != (q : Int)) = false := by simp [hmp]
      clear hmp
      go_enter Try.func85, Try.ntmps85
      go_wp2_with fail
      refine (l13Is_c q m _ xs _ hv0).mono ?_
      rw [hs]
      generalize w.alloc (.cells #[.int .i64 q, .int .i64 m, .slice o xs.length c] 59) = w0 at X0 hv0 B0 ⊢
      rintro e w1 ⟨rfl, hb⟩
      (have X1 := X0.below hb (Nat.le_refl _); have hv1 := hv0.below hb (Nat.le_refl _); have B1 := B0.trans (hb.mono B0.size))
      obtain ⟨k0, k1, k2⟩ := id X1
      go_wp2_with fail
      refine (l13Residue_c q m _ xs _ hq hv1 (by omega) (by omega) (witt_x' hs)).mono ?_
      rintro e w2 ⟨rfl, hb2⟩
      have B2 := B1.trans (hb2.mono B1.size)
      go_wp2
      go_ret2
      exact ⟨rfl, B2⟩
    · have hR : residR q m xs = ⟨0, 5⟩ := by simp [residR, hs, hmp]
      rw [hR]
      have hne : (m != (q : Int)) = true := by simp [hmp]
      clear hmp
      go_enter Try.func85, Try.ntmps85
      go_wp2_with fail
      refine (l13Is_c q m _ xs _ hv0).mono ?_
      rw [hs]
      generalize w.alloc (.cells #[.int .i64 q, .int .i64 m, .slice o xs.length c] 59) = w0 at X0 hv0 B0 ⊢
      rintro e w1 ⟨rfl, hb⟩
      (have X1 := X0.below hb (Nat.le_refl _); have hv1 := hv0.below hb (Nat.le_refl _); have B1 := B0.trans (hb.mono B0.size))
      obtain ⟨k0, k1, k2⟩ := id X1
      go_wp2
      go_ret2
      exact ⟨rfl, B1⟩

def ghL (p : Nat) (m : Int) (xs : List Int) (k : Nat) : List Int := (List.range k).map (fun j => gh p (at0 xs) j % m)
theorem ghL_len (p : Nat) (m : Int) (xs : List Int) (k : Nat) : (ghL p m xs k).length = k := by simp [ghL]
theorem ghL_succ (p : Nat) (m : Int) (xs : List Int) (k : Nat) : ghL p m xs (k + 1) = ghL p m xs k ++ [gh p (at0 xs) k % m] := by simp [ghL, List.range_succ]

set_option maxHeartbeats 1000000 in
set_option maxRecDepth 100000 in
theorem ghosts_c (p : Nat) (m m' : Int) (v : Value) (xs : List Int) (w : World) (hp : P4 p) (hv : RdI w v xs) (h4 : xs.length ≤ 4) (hm1 : 1 ≤ m) (hm2 : m ≤ 3000000000) (hx : ∀ x ∈ xs, 0 ≤ x ∧ x ≤ 9000000000000000000) :
    Calls Try.prog 184 #[.agg #[.int .i64 p, .int .i64 m', v], .int .i64 m] w fun e w' => ∃ v', e = .returned v' ∧ OwI w' w.heap.size v' (ghL p m xs xs.length) ∧ Below w.heap.size w w' := by
  have X0 := Box3.mk' w (.int .i64 p) (.int .i64 m') v 59
  have B0 : Below w.heap.size w (w.alloc (.cells #[.int .i64 p, .int .i64 m', v] 59)) := (by (repeat (first | exact Below.refl _ _ | (refine Below.setCell ?_ (by first | (simp; done) | (simp; omega) | omega) _) | (refine Below.alloc ?_ (by first | (simp; done) | (simp; omega) | omega) _) | (refine below_drewN ?_ _) | (refine Below.drew ?_))))
  have O1 := OwI.lit (w.alloc (.cells #[.int .i64 p, .int .i64 m', v] 59)) [] (by decide)
  simp at O1
  obtain ⟨o, c, rfl, hm, -⟩ := id hv
  go_enter Try.func184, Try.ntmps184
  go_wp2
  have B1 : Below w.heap.size w ((w.alloc (.cells #[.int .i64 p, .int .i64 m', .slice o xs.length c] 59)).alloc (.cells #[] 2)) := (by (repeat (first | exact Below.refl _ _ | (refine Below.setCell ?_ (by first | (simp; done) | (simp; omega) | omega) _) | (refine Below.alloc ?_ (by first | (simp; done) | (simp; omega) | omega) _) | (refine below_drewN ?_ _) | (refine Below.drew ?_))))
  have X1 := X0.below (w' := ((w.alloc (.cells #[.int .i64 p, .int .i64 m', .slice o xs.length c] 59)).alloc (.cells #[] 2))) ((by (repeat (first | exact Below.refl _ _ | (refine Below.setCell ?_ (by first | (simp; done) | (simp; omega) | omega) _) | (refine Below.alloc ?_ (by first | (simp; done) | (simp; omega) | omega) _) | (refine below_drewN ?_ _) | (refine Below.drew ?_))))) (Nat.le_refl _)
  generalize (w.alloc (.cells #[.int .i64 p, .int .i64 m', .slice o xs.length c] 59)).alloc (.cells #[] 2) = w1 at B1 X1 O1 ⊢
  clear X0 B0
  go_loopw [5, 6, 11] (fun s _ i wr => ∃ k : Nat, k ≤ xs.length ∧ i = .int .i64 k ∧ OwI wr (w.heap.size + 1) s (ghL p m xs k) ∧ Box3 wr w.heap.size (.int .i64 p) (.int .i64 m') (.slice o xs.length c) ∧ Below w.heap.size w wr) (fun _ _ i _ => xs.length - (intOf i).toNat)
  case atStart => exact ⟨0, Nat.zero_le _, rfl, O1, X1, B1⟩
  case round =>
    obtain ⟨k, hk, rfl, hO, hX, hB⟩ := hrel
    obtain ⟨ov, cv, rfl⟩ := hO.shape
    by_cases hlt : k < xs.length
    · have hvr := hv.below hB (Nat.le_refl _)
      obtain ⟨k0, k1, k2⟩ := id hX
      have hz := hX.lt
      go_wp2_with fail
      refine (ghost_c p m _ xs _ k _ hp hvr hm1 hm2 rfl hlt (by omega) hx).mono ?_
      rintro e w2 ⟨rfl, d, hw⟩
      have hb2 := below_of_drewN hw
      clear hw
      have hO2 := hO.below hb2
      have hX2 := hX.below hb2 (Nat.le_refl _)
      have hB2 := hB.trans (hb2.mono hB.size)
      have hz2 := hX2.lt
      clear k0 k1 k2 hz
      obtain ⟨k0, k1, k2⟩ := id hX2
      go_wp2_with (at_builtin; refine apI w2 rfl _ _ rfl (w.heap.size + 1) (.slice ov (ghL p m xs k).length cv) _ rfl hO2 _ rfl (by rw [ghL_len]; omega) (by omega) ?_; intro v' w3 hO3 hgr hb3 hlt3; clear hgr)
      rw [← ghL_succ] at hO3
      exact ⟨⟨k + 1, by omega, by go_num, hO3, hX2.belowB hb3 (by omega), hB2.trans (hb3.mono (by omega))⟩, by simp [intOf]; omega⟩
    · obtain rfl : k = xs.length := by omega
      go_wp2
      go_ret
      exact ⟨_, rfl, hO.mono (by omega), hB⟩

def ghostsR (p m : Int) (xs : List Int) : LR := if wittB p m xs then ⟨ghL p.toNat m xs xs.length, 0⟩ else ⟨[], 1⟩

end Go.Proofs.Ytcjinlfgeljmkaa
