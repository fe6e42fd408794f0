/- Lemmas of LwU. -/
import Derived.Test.YtcjinlfgeljmkaaWSLwT
set_option linter.unusedSimpArgs false
set_option linter.unusedVariables false
namespace Go.Proofs.Ytcjinlfgeljmkaa
open Go.RowKit

def VEnd3 (w w' : World) (v c : Int) (e : Ending) : Prop := e = .returned (.tuple #[.int .i64 v, .int .i64 c]) ∧ Below w.heap.size w w'
theorem vend3 {P : Program} {f : FuncId} {args : Array Value} {w : World} {v c : Int} (h : Calls P f args w fun e w' => VEnd2 w w' (v, c) e) : Calls P f args w fun e w' => VEnd3 w w' v c e := h

theorem conv_mod2 {a a' b b' : Nat → Int} {m : Int} {k : Nat} (ha : ∀ i, i ≤ k → a i % m = a' i % m) (hb : ∀ i, i ≤ k → b i % m = b' i % m) : conv a b k % m = conv a' b' k % m :=
  sumN_mod fun i hi => emod_congr_mul (ha i (by omega)) (hb (k - i) (by omega))
theorem der_conv (a b : Nat → Int) (k : Nat) : ((k : Int) + 1) * conv a b (k + 1) = conv (fun i => ((i : Int) + 1) * a (i + 1)) b k + conv a (fun i => ((i : Int) + 1) * b (i + 1)) k := by
  have e1 : ((k : Int) + 1) * conv a b (k + 1) = sumN (k + 2) (fun i => (i : Int) * (a i * b (k + 1 - i))) + sumN (k + 2) (fun i => ((k : Int) + 1 - i) * (a i * b (k + 1 - i))) := by
    unfold conv
    rw [← sumN_mulc, ← sumN_add]
    exact sumN_congr fun i _ => by grind
  have e2 : sumN (k + 2) (fun i => (i : Int) * (a i * b (k + 1 - i))) = conv (fun i => ((i : Int) + 1) * a (i + 1)) b k := by
    rw [sumN_first]
    unfold conv
    rw [show ((0 : Nat) : Int) * (a 0 * b (k + 1 - 0)) = 0 by simp, Int.zero_add]
    refine sumN_congr fun i hi => ?_
    rw [show k + 1 - (i + 1) = k - i by omega]
    push_cast
    grind
  have e3 : sumN (k + 2) (fun i => ((k : Int) + 1 - i) * (a i * b (k + 1 - i))) = conv a (fun i => ((i : Int) + 1) * b (i + 1)) k := by
    show sumN (k + 1) _ + ((k : Int) + 1 - ((k + 1 : Nat) : Int)) * _ = _
    rw [show (k : Int) + 1 - ((k + 1 : Nat) : Int) = 0 by omega, Int.zero_mul, Int.add_zero]
    unfold conv
    refine sumN_congr fun i hi => ?_
    rw [show k + 1 - i = k - i + 1 by omega, show (k : Int) + 1 - i = ((k - i : Nat) : Int) + 1 by omega]
    grind
  rw [e1, e2, e3]
theorem at0_takeU {xs : List Int} {n i : Nat} (h : i < n) : at0 (xs.take n) i = at0 xs i := by
  unfold at0 List.getD; rw [List.getElem?_take, if_pos h]
theorem derL_at {m : Int} {xs : List Int} {k : Nat} (h : k + 1 < xs.length) : at0 (derL m xs) k = ((k : Int) + 1) * at0 xs (k + 1) % m := mk_at (by omega)
theorem der_times {m : Int} {n : Nat} {a b : List Int} (la : a.length = n + 1) (lb : b.length = n + 1) :
    addL m n (timesL m n (derL m a) (b.take n)) (timesL m n (a.take n) (derL m b)) = derL m (timesL m (n + 1) a b) := by
  unfold derL addL
  rw [timesL_len, Nat.add_sub_cancel]
  refine mk_ext fun k hk => ?_
  have hT : at0 (timesL m (n + 1) a b) (k + 1) = conv (at0 a) (at0 b) (k + 1) % m := mk_at (by omega)
  have h1 : at0 (timesL m n (derL m a) (b.take n)) k % m = conv (fun i => ((i : Int) + 1) * at0 a (i + 1)) (at0 b) k % m := by
    rw [show at0 (timesL m n (derL m a) (b.take n)) k = conv (at0 (derL m a)) (at0 (b.take n)) k % m from mk_at hk, mod_self_mod]
    exact conv_mod2 (fun i hi => by rw [derL_at (by omega), mod_self_mod]) (fun i hi => by rw [at0_takeU (by omega)])
  have h2 : at0 (timesL m n (a.take n) (derL m b)) k % m = conv (at0 a) (fun i => ((i : Int) + 1) * at0 b (i + 1)) k % m := by
    rw [show at0 (timesL m n (a.take n) (derL m b)) k = conv (at0 (a.take n)) (at0 (derL m b)) k % m from mk_at hk, mod_self_mod]
    exact conv_mod2 (fun i hi => by rw [at0_takeU (by omega)]) (fun i hi => by rw [derL_at (by omega), mod_self_mod])
  show (at0 (timesL m n (derL m a) (b.take n)) k + at0 (timesL m n (a.take n) (derL m b)) k) % m = _
  rw [Int.add_emod, h1, h2, ← Int.add_emod, ← der_conv, hT]
  exact (emod_congr_mul rfl (mod_self_mod _ _)).symm
theorem cut_times {m : Int} {n : Nat} {a b : List Int} : timesL m n (a.take n) (b.take n) = (timesL m (n + 1) a b).take n := by
  apply List.ext_getElem?
  intro k
  by_cases hk : k < n
  · rw [List.getElem?_take, if_pos hk]
    unfold timesL
    rw [mk_get hk, mk_get (by omega)]
    congr 2
    exact conv_congr fun i hi => by rw [at0_takeU (by omega), at0_takeU (by omega)]
  · rw [List.getElem?_take, if_neg hk, List.getElem?_eq_none (by rw [timesL_len]; omega)]

theorem IsS.der {m : Int} {n : Nat} {a : List Int} (ha : IsS m (n + 1) a) (h2 : 2 ≤ n) : derR m a = ⟨m, derL m a, 0⟩ ∧ IsS m n (derL m a) :=
  ⟨by have h := ha.2; simp [derR, ha.1, show ¬ a.length = 2 by omega], isS_mk ha.m (by have := ha.n; omega) (by rw [derL_len, ha.2]; rfl) (derL_range (by have := ha.m; omega))⟩
theorem IsS.cut {m : Int} {n : Nat} {a : List Int} (ha : IsS m (n + 1) a) (h2 : 2 ≤ n) {d : Int} (hd : d = (n : Int) - 1) : cutSR m a d = ⟨m, a.take n, 0⟩ ∧ IsS m n (a.take n) := by
  have h := ha.2
  have e : inB d 1 ((a.length : Int) - 1) = true := inB_mk (by omega) (by omega)
  have e2 : d.toNat + 1 = n := by omega
  refine ⟨by simp [cutSR, ha.1, e, e2], isS_mk ha.m (by have := ha.n; omega) (by rw [List.length_take]; omega) (fun x hx => ha.x x (List.mem_of_mem_take hx))⟩
theorem ser_calc {m : Int} {n : Nat} {a b : List Int} (ha : IsS m (n + 1) a) (hb : IsS m (n + 1) b) (h2 : 2 ≤ n) {d : Int} (hd : d = (n : Int) - 1) : ∃ T D X Y U V P Q W, timesL m (n + 1) a b = T ∧
    derR m T = ⟨m, D, 0⟩ ∧ derR m a = ⟨m, X, 0⟩ ∧ derR m b = ⟨m, Y, 0⟩ ∧ cutSR m a d = ⟨m, U, 0⟩ ∧ cutSR m b d = ⟨m, V, 0⟩ ∧
    mulR m X m V = ⟨m, P, 0⟩ ∧ mulR m U m Y = ⟨m, Q, 0⟩ ∧ addR m P m Q = ⟨m, D, 0⟩ ∧ cutSR m T d = ⟨m, W, 0⟩ ∧ mulR m U m V = ⟨m, W, 0⟩ := by
  have hT := (ha.times hb).2
  have hX := ha.der h2
  have hY := hb.der h2
  have hU := ha.cut h2 hd
  have hV := hb.cut h2 hd
  have hP := hX.2.times hV.2
  have hQ := hU.2.times hY.2
  refine ⟨_, _, _, _, _, _, _, _, _, rfl, (hT.der h2).1, hX.1, hY.1, hU.1, hV.1, hP.1, hQ.1, ?_, (hT.cut h2 hd).1, ?_⟩
  · rw [(hP.2.add hQ.2).1, der_times ha.2 hb.2]
  · rw [(hU.2.times hV.2).1, cut_times]
theorem int_code {m : Int} {a : List Int} (h : (intSR m a).code = 0) : IsS m a.length a ∧ a.length ≤ 10 ∧ unitsB m a.length = true := by
  unfold intSR at h
  by_cases h1 : serB m a = true
  · by_cases h2 : a.length ≤ 10 ∧ unitsB m a.length = true
    · exact ⟨⟨h1, rfl⟩, h2⟩
    · rw [if_pos h1, if_neg h2] at h; simp [SR.bad] at h
  · rw [if_neg h1] at h; simp [SR.bad] at h
theorem unitsB_at {m : Int} {n i : Nat} (h : unitsB m n = true) (hi : i < n) : unitB m ((i : Int) + 1) = true := by
  unfold unitsB at h
  rw [List.all_eq_true] at h
  exact h i (List.mem_range.2 hi)
theorem intL_at {m : Int} {a : List Int} {k : Nat} (h : k < a.length) : at0 (intL m a) (k + 1) = intC m a k := by
  unfold intL intTo at0 List.getD
  rw [List.getElem?_cons_succ, mk_get h]; rfl
theorem ser_int {m : Int} {n : Nat} {a : List Int} (ha : IsS m n a) (hn : n ≤ 10) (hu : unitsB m n = true) : ∃ I, intSR m a = ⟨m, I, 0⟩ ∧ derR m I = ⟨m, a, 0⟩ ∧ curB m I = true := by
  have hm := ha.m
  have hn2 := ha.n
  have hl := ha.2
  have hI : IsS m (n + 1) (intL m a) := isS_mk hm (by omega) (by rw [intL_len, hl]) (intL_range (by omega) a)
  refine ⟨intL m a, by simp [intSR, ha.1, hl, hn, hu], ?_, ?_⟩
  · rw [(hI.der (by omega)).1]
    congr 1
    conv => rhs; rw [eq_mk a]
    unfold derL
    rw [intL_len, hl, Nat.add_sub_cancel]
    refine mk_ext fun k hk => ?_
    rw [intL_at (by omega)]
    unfold intC
    have h1 := unitB_inv (show 0 < m by omega) (show (0 : Int) ≤ (k : Int) + 1 by omega) (unitsB_at hu hk)
    have h2 := at0_range (show 0 < m by omega) ha.x k
    have e1 : (((k : Int) + 1) * (at0 a k * invM m ((k : Int) + 1) % m)) % m = (((k : Int) + 1) * (at0 a k * invM m ((k : Int) + 1))) % m := emod_congr_mul rfl (mod_self_mod _ _)
    have e2 : ((k : Int) + 1) * (at0 a k * invM m ((k : Int) + 1)) = at0 a k * (((k : Int) + 1) * invM m ((k : Int) + 1)) := by grind
    have e3 : (at0 a k * (((k : Int) + 1) * invM m ((k : Int) + 1))) % m = (at0 a k * 1) % m := emod_congr_mul rfl h1
    rw [e1, e2, e3, Int.mul_one]
    exact Int.emod_eq_of_lt h2.1 h2.2
  · have : at0 (intL m a) 0 = 0 := rfl
    simp [curB, hI.1, this]
theorem ch_code {m q : Int} {a : List Int} (h : (chSR m a q).code = 0) : IsS m a.length a ∧ divB q m = true := by
  unfold chSR at h
  by_cases h1 : serB m a = true
  · by_cases h2 : divB q m = true
    · exact ⟨⟨h1, rfl⟩, h2⟩
    · rw [if_pos h1, if_neg h2] at h; simp [SR.bad] at h
  · rw [if_neg h1] at h; simp [SR.bad] at h
theorem IsS.ch {m q : Int} {n : Nat} {a : List Int} (ha : IsS m n a) (hq : divB q m = true) : chSR m a q = ⟨q, a.map (· % q), 0⟩ ∧ IsS q n (a.map (· % q)) := by
  have h2 : 2 ≤ q ∧ q ≤ 10000 := by simp [divB] at hq; exact modB_t hq.1
  refine ⟨by simp [chSR, ha.1, hq], isS_mk h2 ha.n (by rw [List.length_map, ha.2]) (fun x hx => ?_)⟩
  obtain ⟨y, _, rfl⟩ := List.mem_map.1 hx
  exact mod_lt' (by omega)
theorem at0_mapmod (q : Int) (a : List Int) (i : Nat) : at0 (a.map (· % q)) i = at0 a i % q := by
  unfold at0 List.getD
  rw [List.getElem?_map]
  cases a[i]? <;> simp
theorem ser_ch {m q : Int} {n : Nat} {a : List Int} (ha : IsS m n a) (hq : divB q m = true) : ∃ L S F, chSR m a q = ⟨q, L, 0⟩ ∧ mulR m a m a = ⟨m, S, 0⟩ ∧ chSR m S q = ⟨q, F, 0⟩ ∧ mulR q L q L = ⟨q, F, 0⟩ := by
  have hL := ha.ch hq
  have hS := ha.times ha
  refine ⟨_, _, _, hL.1, hS.1, (hS.2.ch hq).1, ?_⟩
  rw [(hL.2.times hL.2).1]
  congr 1
  have hd : q ∣ m := by
    simp [divB] at hq
    exact Int.dvd_of_emod_eq_zero hq.2
  rw [eq_mk ((timesL m n a a).map (· % q)), List.length_map, timesL_len]
  refine mk_ext fun k hk => ?_
  rw [at0_mapmod, show at0 (timesL m n a a) k = conv (at0 a) (at0 a) k % m from mk_at hk, Int.emod_emod_of_dvd _ hd]
  exact conv_mod2 (fun i _ => by rw [at0_mapmod, mod_self_mod]) (fun i _ => by rw [at0_mapmod, mod_self_mod])
end Go.Proofs.Ytcjinlfgeljmkaa
