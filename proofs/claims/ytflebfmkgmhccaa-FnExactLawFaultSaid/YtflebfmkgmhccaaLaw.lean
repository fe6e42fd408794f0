/- The laws' own helpers on lists of integers: copies, comparisons, marks. -/
import Derived.Test.YtflebfmkgmhccaaNum
set_option linter.unusedSimpArgs false
set_option linter.unusedVariables false
namespace Go.Proofs.Ytflebfmkgmhccaa
open Go.RowKit

def eqLB (xs ys : List Int) : Bool := decide (xs = ys)
theorem eqLB_self (xs : List Int) : eqLB xs xs = true := by simp [eqLB]
theorem eqLB_ne {xs ys : List Int} (h : xs ≠ ys) : eqLB xs ys = false := by simp [eqLB, h]
theorem eqLB_idx {xs ys : List Int} {k : Nat} {x y : Int} (hx : xs[k]? = some x) (hy : ys[k]? = some y) (h : x ≠ y) : eqLB xs ys = false := by
  apply eqLB_ne; rintro rfl; simp_all
theorem take_eq {xs ys : List Int} {k : Nat} {x : Int} (hx : xs[k]? = some x) (hy : ys[k]? = some x) (h : xs.take k = ys.take k) : xs.take (k+1) = ys.take (k+1) := by
  rw [List.take_add_one, List.take_add_one, h, hx, hy]
theorem eqLB_take {xs ys : List Int} {k : Nat} (h : xs.length = ys.length) (hk : ¬ k < xs.length) (ht : xs.take k = ys.take k) : eqLB xs ys = true := by
  rw [List.take_of_length_le (by omega), List.take_of_length_le (by omega)] at ht
  subst ht; exact eqLB_self _

set_option maxHeartbeats 400000 in
theorem eqInt64S_c (v u : Value) (xs ys : List Int) (w : World) (hv : RdI w v xs) (hu : RdI w u ys) :
    Calls Try.prog 19 #[v, u] w fun e w' => e = .returned (.bool (eqLB xs ys)) ∧ ∃ n, w' = w.drewN n := by
  obtain ⟨o, c, rfl, hm, hc⟩ := hv
  obtain ⟨o', c', rfl, hm', hc'⟩ := hu
  unfold maxLen at hm hm'
  by_cases hlen : xs.length = ys.length
  · have hne : (((xs.length:Nat):Int) != ((ys.length:Nat):Int)) = false := by simp [hlen]
    have HL := Lib.hid hlen
    clear hlen
    go_enter Try.func19, Try.ntmps19
    go_wp2
    go_loopw [5] (fun i wr => ∃ k : Nat, k ≤ xs.length ∧ i = .int .i64 k ∧ Hid (xs.take k = ys.take k) ∧ ∃ n, wr = w.drewN n) (fun i _ => xs.length - (intOf i).toNat)
    case atStart => exact ⟨0, Nat.zero_le _, rfl, Lib.hid rfl, 0, rfl⟩
    case round =>
      obtain ⟨k, hk, rfl, HT, n, rfl⟩ := hrel
      by_cases hlt : k < xs.length
      · obtain ⟨b, off, rfl, hx⟩ := hc k (xs[k]) (by simp [hlt])
        obtain ⟨b', off', rfl, hy⟩ := hc' k (ys[k]'(by have := HL.out; omega)) (by simp)
        have hlt' : k < ys.length := by have := HL.out; omega
        go_wp2
        go_quiet (fail)
        go_wp2
        · have hne : xs[k] ≠ ys[k] := by have h : (xs[k] != ys[k]) = true := by assumption
                                         simpa using h
          go_ret
          exact ⟨by rw [eqLB_idx (k := k) (by simp) (by simp) hne]; rfl, n + nq, by simp⟩
        · have he : ys[k] = xs[k] := by have h : (xs[k] != ys[k]) = false := by assumption
                                        simpa using Eq.symm (by simpa using h)
          exact ⟨⟨k + 1, by omega, by go_num, Lib.hid (take_eq (x := xs[k]) (by simp) (by simp [← he]) HT.out), n + nq, rfl⟩, by simp [intOf]; omega⟩
      · go_wp2
        go_ret
        exact ⟨by rw [eqLB_take HL.out hlt HT.out]; rfl, n, rfl⟩
  · have hne : (((xs.length:Nat):Int) != ((ys.length:Nat):Int)) = true := by simp; omega
    have HL := Lib.hid hlen
    clear hlen
    go_enter Try.func19, Try.ntmps19
    go_wp2
    go_ret
    exact ⟨by rw [eqLB_ne (fun h => HL.out (by rw [h]))]; rfl, 0, rfl⟩

def szV (n : Nat) (left : Int) : Int := if left - n < 0 then -1 else left - n

theorem szV_ok {n : Nat} {left : Int} (h : 0 ≤ szV n left) (hl : left ≤ 1048576) : n ≤ 1048576 ∧ szV n left ≤ 1048576 ∧ 0 ≤ szV n left := by
  unfold szV at *; split at h <;> rename_i hx
  · omega
  · rw [if_neg hx]; omega

set_option maxHeartbeats 400000 in
theorem szInt64S_c (o : Option Addr) (n c : Nat) (left : Int) (w : World) (hn : n ≤ maxLen) (h0 : 0 ≤ left) (h1 : left ≤ 1048576) :
    Calls Try.prog 71 #[.slice o n c, .int .i64 left] w fun e w' => e = .returned (.int .i64 (szV n left)) ∧ w = w' := by
  unfold maxLen at hn
  go_enter Try.func71, Try.ntmps71
  go_wp2
  all_goals go_ret
  all_goals exact ⟨by unfold szV; first | (rw [if_pos (by omega)]; rfl) | (rw [if_neg (by omega)]; rfl), rfl⟩


/-- The first k of xs, then zeros. -/
def upto (xs : List Int) (k : Nat) : List Int := xs.take k ++ List.replicate (xs.length - k) 0
theorem upto_len (xs : List Int) (k : Nat) (hk : k ≤ xs.length) : (upto xs k).length = xs.length := by simp [upto]; omega
theorem upto_0 (xs : List Int) : upto xs 0 = List.replicate xs.length 0 := by simp [upto]
theorem upto_all (xs : List Int) : upto xs xs.length = xs := by simp [upto]
theorem upto_set (xs : List Int) (k : Nat) (hk : k < xs.length) : (upto xs k).set k xs[k] = upto xs (k+1) := by
  apply List.ext_getElem?
  intro j
  unfold upto
  simp only [List.getElem?_set, List.getElem?_append, List.length_append, List.length_take, List.length_replicate, List.getElem?_take, List.getElem?_replicate]
  rcases Nat.lt_trichotomy j k with h | h | h
  · have e1 : ¬ k = j := by omega
    have e2 : j < min k xs.length := by omega
    have e3 : j < min (k+1) xs.length := by omega
    simp [e1, e2, e3, h, show j < k + 1 by omega]
  · subst h
    have e3 : j < min (j+1) xs.length := by omega
    simp [e3, show j < min j xs.length + (xs.length - j) by omega]
  · have e1 : ¬ k = j := by omega
    have e2 : ¬ j < min k xs.length := by omega
    have e3 : ¬ j < min (k+1) xs.length := by omega
    simp only [e1, e2, e3, if_false]
    by_cases h4 : j < xs.length
    · rw [if_pos (by omega), if_pos (by omega)]
    · rw [if_neg (by omega), if_neg (by omega)]
theorem upto_get (xs : List Int) (k : Nat) (hk : k < xs.length) : (upto xs k)[k]? = some 0 := by
  unfold upto
  rw [List.getElem?_append_right (by simp; omega)]
  simp [List.getElem?_replicate]; omega

set_option maxHeartbeats 400000 in
theorem toInt64S_c (v : Value) (xs : List Int) (w : World) (hv : RdI w v xs) (hn : xs.length ≤ 1048576) :
    Calls Try.prog 74 #[v] w fun e w' => ∃ v', e = .returned v' ∧ OwI w' w.heap.size v' xs ∧ Below w.heap.size w w' := by
  obtain ⟨o, c, rfl, hm, hc⟩ := hv
  unfold maxLen at hm
  go_enter Try.func74, Try.ntmps74
  go_wp2_with (at_make; refine mkI _ rfl _ _ rfl _ _ _ xs.length rfl rfl rfl (by omega) ?_; intro w1 hown hb hs1)
  rw [← upto_0] at hown
  have hz : w.heap.size < w1.heap.size := by omega
  clear hs1
  go_loopw [4] (fun i wr => ∃ k : Nat, k ≤ xs.length ∧ i = .int .i64 k ∧ OwI wr w.heap.size (.slice (some ⟨w.heap.size, 0, none⟩) xs.length xs.length) (upto xs k) ∧ Below w.heap.size w wr) (fun i _ => xs.length - (intOf i).toNat)
  case atStart => exact ⟨0, Nat.zero_le _, rfl, hown, hb⟩
  case round =>
    obtain ⟨k, hk, rfl, hownr, hbr⟩ := hrel
    by_cases hlt : k < xs.length
    · obtain ⟨b, off, rfl, hx⟩ := hc k (xs[k]) (by simp [hlt])
      have hbl := cell_lt hx
      have hx1 := keep_cell hbr (Nat.le_refl _) hx
      obtain ⟨g, cap, hv, hg, hgl, _, hcell, hfr⟩ := OwI.opn hownr (by rw [upto_len _ _ hk]; omega)
      obtain ⟨rfl, _⟩ : w.heap.size = g ∧ True := by simp at hv; exact ⟨hv.1, trivial⟩
      have hc0 := hcell k 0 (upto_get xs k hlt)
      have hf0 := hfr k
      clear hcell hfr hv
      have Hn := Lib.hid hownr
      clear hownr
      go_wp2
      have h2 := OwI.put Hn.out k (xs[k])
      rw [upto_set _ _ hlt] at h2
      exact ⟨⟨k + 1, by omega, by go_num, h2, below_put hbr (Nat.le_refl _) _⟩, by simp [intOf]; omega⟩
    · obtain rfl : k = xs.length := by omega
      rw [upto_all] at hownr
      go_wp2
      go_ret
      exact ⟨_, rfl, hownr, hbr⟩

/-- k, k + 1, .. -/
def iota (k : Int) (n : Nat) : List Int := (List.range n).map (fun (i : Nat) => k + (i : Int))
theorem iota_len (k : Int) (n : Nat) : (iota k n).length = n := by simp [iota]
theorem iota_get (k : Int) (n i : Nat) (h : i < n) : (iota k n)[i]? = some (k + i) := by simp [iota, h]

/-- The marks up to i, then what was there. -/
def marked (xs : List Int) (k : Int) (i : Nat) : List Int := iota k i ++ xs.drop i
theorem marked_len (xs : List Int) (k : Int) (i : Nat) (hi : i ≤ xs.length) : (marked xs k i).length = xs.length := by simp [marked, iota_len]; omega
theorem marked_0 (xs : List Int) (k : Int) : marked xs k 0 = xs := by simp [marked, iota]
theorem marked_all (xs : List Int) (k : Int) : marked xs k xs.length = iota k xs.length := by simp [marked]
theorem marked_get (xs : List Int) (k : Int) (i : Nat) (hi : i < xs.length) : (marked xs k i)[i]? = some xs[i] := by
  unfold marked
  rw [List.getElem?_append_right (by rw [iota_len]; omega)]
  simp [iota_len, hi]
theorem marked_set (xs : List Int) (k : Int) (i : Nat) (hi : i < xs.length) : (marked xs k i).set i (k + i) = marked xs k (i+1) := by
  unfold marked
  rw [List.drop_eq_getElem_cons hi, List.set_append_right _ _ (by rw [iota_len]; omega), iota_len, Nat.sub_self, List.set_cons_zero]
  have : iota k (i+1) = iota k i ++ [k + i] := by simp [iota, List.range_succ]
  rw [this]; simp

set_option maxHeartbeats 400000 in
theorem markInt64S_c (v : Value) (xs : List Int) (k0 : Int) (B : Nat) (w : World) (hv : OwI w B v xs) (hn : xs.length ≤ 1048576) (h0 : 0 ≤ k0) (h1 : k0 ≤ 1099511627776) :
    Calls Try.prog 22 #[v, .int .i64 k0] w fun e w' => e = .returned (.int .i64 (k0 + xs.length)) ∧ OwI w' B v (iota k0 xs.length) ∧ w.grownBy w' v.ownBlock ∧ w.heap.size = w'.heap.size := by
  have hrd := OwI.rd hv
  obtain ⟨o, c, rfl, hm, _⟩ := hrd
  unfold maxLen at hm
  go_enter Try.func22, Try.ntmps22
  go_wp2
  go_loopw [1, 5] (fun kk i wr => ∃ k : Nat, k ≤ xs.length ∧ i = .int .i64 k ∧ kk = .int .i64 (k0 + k) ∧ OwI wr B (.slice o xs.length c) (marked xs k0 k) ∧ w.grownBy wr (Value.slice o xs.length c).ownBlock ∧ w.heap.size = wr.heap.size) (fun _ i _ => xs.length - (intOf i).toNat)
  case atStart => exact ⟨0, Nat.zero_le _, rfl, by go_num, by rw [marked_0]; exact hv, World.grownBy.refl _ _, rfl⟩
  case round =>
    obtain ⟨k, hk, rfl, rfl, hownr, hgr, hsz⟩ := hrel
    have Hs := Lib.hid hsz
    clear hsz
    by_cases hlt : k < xs.length
    · obtain ⟨g, cap, hv, hg, hgl, _, hcell, hfr⟩ := OwI.opn hownr (by rw [marked_len _ _ _ hk]; omega)
      obtain ⟨rfl, rfl⟩ : o = some ⟨g, 0, none⟩ ∧ c = cap := by simp at hv; exact ⟨hv.1, hv.2.2⟩
      have hc0 := hcell k _ (marked_get xs k0 k hlt)
      have hf0 := hfr k
      clear hcell hfr hv
      have Hn := Lib.hid hownr
      clear hownr
      go_wp2
      have h2 := OwI.put Hn.out k (k0 + k)
      have h3 := grown_put wr g k (.int .i64 (k0 + k))
      rw [marked_set _ _ _ hlt] at h2
      exact ⟨⟨k + 1, by omega, by go_num, by go_num, h2, hgr.trans h3, by rw [Hs.out]; simp [World.setCell]⟩, by simp [intOf]; omega⟩
    · obtain rfl : k = xs.length := by omega
      rw [marked_all] at hownr
      go_wp2
      go_ret
      exact ⟨rfl, hownr, hgr, Hs.out⟩

set_option maxHeartbeats 400000 in
theorem heldInt64S_c (v : Value) (n : Nat) (k0 : Int) (w : World) (hv : RdI w v (iota k0 n)) (hn : n ≤ 1048576) (h0 : 0 ≤ k0) (h1 : k0 ≤ 1099511627776) :
    Calls Try.prog 23 #[v, .int .i64 k0] w fun e w' => e = .returned (.int .i64 (k0 + n)) ∧ ∃ d, w' = w.drewN d := by
  obtain ⟨o, c, rfl, hm, hc⟩ := hv
  rw [iota_len] at *
  unfold maxLen at hm
  go_enter Try.func23, Try.ntmps23
  go_wp2
  go_loopw [1, 5] (fun kk i wr => ∃ k : Nat, k ≤ n ∧ i = .int .i64 k ∧ kk = .int .i64 (k0 + k) ∧ ∃ d, wr = w.drewN d) (fun _ i _ => n - (intOf i).toNat)
  case atStart => exact ⟨0, Nat.zero_le _, rfl, by go_num, 0, rfl⟩
  case round =>
    obtain ⟨k, hk, rfl, rfl, d, rfl⟩ := hrel
    by_cases hlt : k < n
    · obtain ⟨b, off, rfl, hx⟩ := hc k _ (iota_get k0 n k hlt)
      have hq : ((k0 + (k : Int)) != (k0 + (k : Int))) = false := by simp
      go_wp2
      exact ⟨⟨k + 1, by omega, by go_num, by go_num, d, rfl⟩, by simp [intOf]; omega⟩
    · go_wp2
      go_ret
      exact ⟨by go_num, d, rfl⟩
end Go.Proofs.Ytflebfmkgmhccaa
