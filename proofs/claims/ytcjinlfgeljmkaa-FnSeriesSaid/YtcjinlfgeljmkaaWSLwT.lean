/- Lemmas of LwT. -/
import Derived.Test.YtcjinlfgeljmkaaWSSerV
import Derived.Test.YtcjinlfgeljmkaaWSRgS
set_option linter.unusedSimpArgs false
set_option linter.unusedVariables false
namespace Go.Proofs.Ytcjinlfgeljmkaa
open Go.RowKit

def SEnd3 (w w' : World) (m : Int) (xs : List Int) (c : Int) (e : Ending) : Prop :=
  ∃ v', e = .returned (.tuple #[.agg #[.int .i64 m, v'], .int .i64 c]) ∧ OwI w' w.heap.size v' xs ∧ Below w.heap.size w w' ∧ xs.length ≤ 1048576
theorem send3 {P : Program} {f : FuncId} {args : Array Value} {w : World} {m : Int} {xs : List Int} {c : Int} (h : Calls P f args w fun e w' => SEnd w w' ⟨m, xs, c⟩ e) : Calls P f args w fun e w' => SEnd3 w w' m xs c e := h

set_option maxHeartbeats 400000 in
theorem sIsSeries_c (m : Int) (v : Value) (xs : List Int) (w : World) (hv : RdI w v xs) :
    Calls Try.prog 17 #[.agg #[.int .i64 m, v]] w fun e w' => e = .returned (.bool (serB m xs)) ∧ Below w.heap.size w w' := by
  obtain ⟨o, c, rfl, -, -⟩ := id hv
  go_enter Try.func17, Try.ntmps17
  go_wp2_with fail
  (have X0 := ((RB2.mk1 w  (.int .i64 m) (.slice o xs.length c) 26).1).below (w' := (w.alloc (.cells #[.int .i64 m, .slice o xs.length c] 26))) (by (repeat (first | exact Below.refl _ _ | (refine Below.setCell ?_ (by first | (simp; done) | (simp; omega) | omega) _) | (refine Below.alloc ?_ (by first | (simp; done) | (simp; omega) | omega) _) | (refine below_drewN ?_ _) | (refine Below.drew ?_)))) (Nat.le_refl _); have B0 : Below w.heap.size w (w.alloc (.cells #[.int .i64 m, .slice o xs.length c] 26)) := (by (repeat (first | exact Below.refl _ _ | (refine Below.setCell ?_ (by first | (simp; done) | (simp; omega) | omega) _) | (refine Below.alloc ?_ (by first | (simp; done) | (simp; omega) | omega) _) | (refine below_drewN ?_ _) | (refine Below.drew ?_)))); have hv0 := hv.below (w' := (w.alloc (.cells #[.int .i64 m, .slice o xs.length c] 26))) (by (repeat (first | exact Below.refl _ _ | (refine Below.setCell ?_ (by first | (simp; done) | (simp; omega) | omega) _) | (refine Below.alloc ?_ (by first | (simp; done) | (simp; omega) | omega) _) | (refine below_drewN ?_ _) | (refine Below.drew ?_)))) (Nat.le_refl _); generalize w.alloc (.cells #[.int .i64 m, .slice o xs.length c] 26) = w0 at X0 B0 hv0 ⊢)
  (obtain ⟨gqX0, gqX1⟩ := id X0; go_wp2_with fail; refine (l02Is_c m _ xs _ hv0).mono ?_; skip; rintro e w1 ⟨rfl, hb⟩; (have X1 := X0.below hb (Nat.le_refl _); have B1 := B0.trans (hb.mono B0.size)); clear gqX0 gqX1; clear hb)
  go_wp2
  go_ret
  exact ⟨rfl, B1⟩
set_option maxHeartbeats 400000 in
theorem sIsCurve_c (m : Int) (v : Value) (xs : List Int) (w : World) (hv : RdI w v xs) :
    Calls Try.prog 19 #[.agg #[.int .i64 m, v]] w fun e w' => e = .returned (.bool (curB m xs)) ∧ Below w.heap.size w w' := by
  obtain ⟨o, c, rfl, -, -⟩ := id hv
  go_enter Try.func19, Try.ntmps19
  go_wp2_with fail
  (have X0 := ((RB2.mk1 w  (.int .i64 m) (.slice o xs.length c) 26).1).below (w' := (w.alloc (.cells #[.int .i64 m, .slice o xs.length c] 26))) (by (repeat (first | exact Below.refl _ _ | (refine Below.setCell ?_ (by first | (simp; done) | (simp; omega) | omega) _) | (refine Below.alloc ?_ (by first | (simp; done) | (simp; omega) | omega) _) | (refine below_drewN ?_ _) | (refine Below.drew ?_)))) (Nat.le_refl _); have B0 : Below w.heap.size w (w.alloc (.cells #[.int .i64 m, .slice o xs.length c] 26)) := (by (repeat (first | exact Below.refl _ _ | (refine Below.setCell ?_ (by first | (simp; done) | (simp; omega) | omega) _) | (refine Below.alloc ?_ (by first | (simp; done) | (simp; omega) | omega) _) | (refine below_drewN ?_ _) | (refine Below.drew ?_)))); have hv0 := hv.below (w' := (w.alloc (.cells #[.int .i64 m, .slice o xs.length c] 26))) (by (repeat (first | exact Below.refl _ _ | (refine Below.setCell ?_ (by first | (simp; done) | (simp; omega) | omega) _) | (refine Below.alloc ?_ (by first | (simp; done) | (simp; omega) | omega) _) | (refine below_drewN ?_ _) | (refine Below.drew ?_)))) (Nat.le_refl _); generalize w.alloc (.cells #[.int .i64 m, .slice o xs.length c] 26) = w0 at X0 B0 hv0 ⊢)
  (obtain ⟨gqX0, gqX1⟩ := id X0; go_wp2_with fail; refine (l02Curve_c m _ xs _ hv0).mono ?_; skip; rintro e w1 ⟨rfl, hb⟩; (have X1 := X0.below hb (Nat.le_refl _); have B1 := B0.trans (hb.mono B0.size)); clear gqX0 gqX1; clear hb)
  go_wp2
  go_ret
  exact ⟨rfl, B1⟩
def IsS (m : Int) (n : Nat) (xs : List Int) : Prop := serB m xs = true ∧ xs.length = n
theorem IsS.len {m : Int} {n : Nat} {xs : List Int} (h : IsS m n xs) : xs.length = n := h.2
theorem IsS.m {m : Int} {n : Nat} {xs : List Int} (h : IsS m n xs) : 2 ≤ m ∧ m ≤ 10000 := ser_m h.1
theorem IsS.n {m : Int} {n : Nat} {xs : List Int} (h : IsS m n xs) : 2 ≤ n ∧ n ≤ 11 := by have := ser_n h.1; rw [h.2] at this; exact this
theorem IsS.x {m : Int} {n : Nat} {xs : List Int} (h : IsS m n xs) : ∀ x ∈ xs, 0 ≤ x ∧ x < m := ser_x h.1
theorem isS_mk {m : Int} {n : Nat} {xs : List Int} (hm : 2 ≤ m ∧ m ≤ 10000) (hn : 2 ≤ n ∧ n ≤ 11) (hl : xs.length = n) (hx : ∀ x ∈ xs, 0 ≤ x ∧ x < m) : IsS m n xs := by
  refine ⟨?_, hl⟩
  have e : numsB m xs = true := by
    simp only [numsB, List.all_eq_true]
    intro x h
    have := hx x h
    exact inB_mk (by omega) (by omega)
  have e2 : inB ((xs.length : Int) - 1) 1 10 = true := inB_mk (by omega) (by omega)
  have e3 : modB m = true := inB_mk (by omega) (by omega)
  simp [serB, e, e2, e3]
theorem twoS_ok {m : Int} {n : Nat} {a b : List Int} (ha : IsS m n a) (hb : IsS m n b) : twoS m a m b = 0 := by
  simp [twoS, alikeS, ha.1, hb.1, ha.2, hb.2]
theorem two_IsS {m q : Int} {a b : List Int} (h : twoS m a q b = 0) : q = m ∧ IsS m a.length a ∧ IsS m a.length b := by
  obtain ⟨h1, h2, h3, h4⟩ := twoS_0 h
  subst h3
  exact ⟨rfl, ⟨h1, rfl⟩, ⟨h2, h4⟩⟩
theorem IsS.times {m : Int} {n : Nat} {a b : List Int} (ha : IsS m n a) (hb : IsS m n b) : mulR m a m b = ⟨m, timesL m n a b, 0⟩ ∧ IsS m n (timesL m n a b) :=
  ⟨by simp [mulR, twoS_ok ha hb, ha.2], isS_mk ha.m ha.n (timesL_len _ _ _ _) (timesL_range (by have := ha.m; omega))⟩
theorem IsS.add {m : Int} {n : Nat} {a b : List Int} (ha : IsS m n a) (hb : IsS m n b) : addR m a m b = ⟨m, addL m n a b, 0⟩ ∧ IsS m n (addL m n a b) :=
  ⟨by simp [addR, twoS_ok ha hb, ha.2], isS_mk ha.m ha.n (addL_len _ _ _ _) (addL_range (by have := ha.m; omega))⟩
theorem IsS.comp {m : Int} {n : Nat} {a f : List Int} (ha : IsS m n a) (hf : IsS m n f) (h0 : at0 f 0 = 0) : compR m a m f = ⟨m, horn m n f a, 0⟩ ∧ IsS m n (horn m n f a) :=
  ⟨by have e : curB m f = true := by simp [curB, hf.1, h0]
      simp [compR, twoS_ok ha hf, e, ha.2], isS_mk ha.m ha.n (horn_len _ _ _ _) (horn_range (by have := ha.m; omega))⟩
theorem horn_0 {m : Int} {n : Nat} {f a : List Int} (hn : 1 ≤ n) (ha : 1 ≤ a.length) (hf : at0 f 0 = 0) (hr : ∀ x ∈ a, 0 ≤ x ∧ x < m) : at0 (horn m n f a) 0 = at0 a 0 := by
  cases a with
  | nil => simp at ha
  | cons c cs =>
    have hc := hr c (by simp)
    show at0 (addc m c (timesL m n (horn m n f cs) f)) 0 = c
    unfold addc
    rw [at0_set, if_pos ⟨rfl, by rw [timesL_len]; omega⟩]
    have : at0 (timesL m n (horn m n f cs) f) 0 = 0 := by
      unfold timesL
      rw [mk_at (by omega)]
      unfold conv
      rw [sumN_one, hf, Int.mul_zero, Int.zero_emod]
    rw [this, Int.zero_add]
    exact Int.emod_eq_of_lt hc.1 hc.2

theorem mul_code {m q : Int} {a b : List Int} (h : (mulR m a q b).code = 0) : twoS m a q b = 0 := by
  unfold mulR at h
  by_cases h1 : twoS m a q b = 0
  · exact h1
  · rw [if_neg h1] at h; exact h
theorem ser_ring {m : Int} {n : Nat} {a b : List Int} (ha : IsS m n a) (hb : IsS m n b) : ∃ T A L S P, timesL m n a b = T ∧ addL m n a b = A ∧
    mulR m T m b = ⟨m, L, 0⟩ ∧ mulR m b m b = ⟨m, S, 0⟩ ∧ mulR m a m S = ⟨m, L, 0⟩ ∧ mulR m A m b = ⟨m, P, 0⟩ ∧ addR m T m S = ⟨m, P, 0⟩ := by
  have hm : 0 < m := by have := ha.m; omega
  have hT := (ha.times hb).2
  have hA := (ha.add hb).2
  have hS := hb.times hb
  refine ⟨_, _, _, _, _, rfl, rfl, (hT.times hb).1, hS.1, ?_, (hA.times hb).1, ?_⟩
  · rw [(ha.times hS.2).1, times_assoc hm]
  · rw [(hT.add hS.2).1, times_dist hm]
theorem inv_code {m : Int} {a : List Int} (h : (invSR m a).code = 0) : IsS m a.length a ∧ unitB m (at0 a 0) = true := by
  unfold invSR at h
  by_cases h1 : serB m a = true
  · by_cases h2 : unitB m (at0 a 0) = true
    · exact ⟨⟨h1, rfl⟩, h2⟩
    · rw [if_pos h1, if_neg h2] at h; simp [SR.bad] at h
  · rw [if_neg h1] at h; simp [SR.bad] at h
theorem oneL_mk (n : Nat) (h : 1 ≤ n) : oneL n = mk n (fun k => if k = 0 then 1 else 0) := by
  unfold oneL
  rw [mk_zero, mk_set]
theorem ser_inv {m : Int} {n : Nat} {a : List Int} (ha : IsS m n a) (hu : unitB m (at0 a 0) = true) : ∃ I, invSR m a = ⟨m, I, 0⟩ ∧ mulR m a m I = ⟨m, oneL n, 0⟩ ∧ pwSR m a 0 = ⟨m, oneL n, 0⟩ := by
  have hm := ha.m
  have hn := ha.n
  have hr0 := at0_range (show 0 < m by omega) ha.x 0
  have hI : IsS m n (invS m n a) := isS_mk hm hn (invS_len _ (by omega)) (invG_range (by omega) a _)
  refine ⟨invS m n a, by simp [invSR, ha.1, hu, ha.2], ?_, ?_⟩
  · rw [(ha.times hI).1, inv_times (by omega) (by omega) (unitB_inv (by omega) hr0.1 hu), oneL_mk _ (by omega)]
  · have : inB 0 0 1000 = true := rfl
    simp [pwSR, ha.1, this, ha.2, pwL_0]
theorem rev_code {m : Int} {a : List Int} (h : (revR m a).code = 0) : IsS m a.length a ∧ coB m a = true := by
  unfold revR at h
  by_cases h1 : serB m a = true
  · by_cases h2 : coB m a = true
    · exact ⟨⟨h1, rfl⟩, h2⟩
    · rw [if_pos h1, if_neg h2] at h; simp [SR.bad] at h
  · rw [if_neg h1] at h; simp [SR.bad] at h
theorem ser_rev {m : Int} {n : Nat} {a : List Int} (ha : IsS m n a) (hc : coB m a = true) : ∃ G, revR m a = ⟨m, G, 0⟩ ∧ compR m a m G = ⟨m, varL n, 0⟩ ∧ compR m G m a = ⟨m, varL n, 0⟩ := by
  have hm := ha.m
  have hn := ha.n
  obtain ⟨a0, hu⟩ : at0 a 0 = 0 ∧ unitB m (at0 a 1) = true := by simpa [coB] using hc
  have hr1 := at0_range (show 0 < m by omega) ha.x 1
  have hu := unitB_inv (show 0 < m by omega) hr1.1 hu
  have hG : IsS m n (revL m n a) := isS_mk hm hn (revL_len _ _ _) (revTo_range (by omega) n a _)
  refine ⟨revL m n a, by simp [revR, ha.1, hc, ha.2], ?_, ?_⟩
  · rw [(ha.comp hG (revTo_0 m n a _)).1, rev_right (by omega) (by omega) ha.2 a0 hu]
  · rw [(hG.comp ha a0).1, rev_left (by omega) (by omega) ha.2 a0 hu]
theorem comp_code {m q : Int} {a f : List Int} (h : (compR m a q f).code = 0) : q = m ∧ IsS m a.length a ∧ IsS m a.length f ∧ at0 f 0 = 0 := by
  unfold compR at h
  by_cases h1 : twoS m a q f = 0
  · obtain ⟨rfl, h2, h3⟩ := two_IsS h1
    refine ⟨rfl, h2, h3, ?_⟩
    by_cases h4 : curB q f = true
    · exact (cur_ser h4).2
    · rw [if_pos h1, if_neg h4] at h; simp [SR.bad] at h
  · rw [if_neg h1] at h; exact absurd h h1
theorem ser_comp {m : Int} {n : Nat} {a f : List Int} (ha : IsS m n a) (hf : IsS m n f) (h0 : at0 f 0 = 0) : ∃ X K Z, compR m a m f = ⟨m, X, 0⟩ ∧ compR m X m f = ⟨m, Z, 0⟩ ∧ compR m f m f = ⟨m, K, 0⟩ ∧ compR m a m K = ⟨m, Z, 0⟩ := by
  have hm := ha.m
  have hn := ha.n
  have hX := ha.comp hf h0
  have hK := hf.comp hf h0
  have hK0 : at0 (horn m n f f) 0 = 0 := by rw [horn_0 (by omega) (by rw [hf.2]; omega) h0 hf.x, h0]
  refine ⟨_, _, _, hX.1, (hX.2.comp hf h0).1, hK.1, ?_⟩
  rw [(ha.comp hK.2 hK0).1, horn_assoc (by omega) ha.2 hf.2 hf.2 h0]
end Go.Proofs.Ytcjinlfgeljmkaa
