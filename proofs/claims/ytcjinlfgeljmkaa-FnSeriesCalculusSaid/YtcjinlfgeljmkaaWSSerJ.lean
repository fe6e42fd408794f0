/- Lemmas of SerJ. -/
import Derived.Test.YtcjinlfgeljmkaaWSSerI
set_option linter.unusedSimpArgs false
set_option linter.unusedVariables false
namespace Go.Proofs.Ytcjinlfgeljmkaa
open Go.RowKit

def pwL (m : Int) (n : Nat) (k : Nat) (out a : List Int) : List Int := if k = 0 then out else pwL m n (k / 2) (if k % 2 = 1 then timesL m n out a else out) (timesL m n a a)
termination_by k
decreasing_by omega
theorem pwL_0 (m : Int) (n : Nat) (out a : List Int) : pwL m n 0 out a = out := by rw [pwL]; simp
theorem pwL_s (m : Int) (n : Nat) {k : Nat} (h : 0 < k) (out a : List Int) : pwL m n k out a = pwL m n (k / 2) (if k % 2 = 1 then timesL m n out a else out) (timesL m n a a) := by rw [pwL, if_neg (by omega)]
def oneL (n : Nat) : List Int := (List.replicate n 0).set 0 1
theorem oneL_len (n : Nat) : (oneL n).length = n := by simp [oneL]
theorem oneL_range {m : Int} (hm : 2 ≤ m) (n : Nat) : ∀ x ∈ oneL n, 0 ≤ x ∧ x < m := by
  intro x hx
  rcases List.mem_or_eq_of_mem_set hx with h | rfl
  · have := List.eq_of_mem_replicate h; omega
  · omega

set_option maxHeartbeats 2000000 in
set_option maxRecDepth 100000 in
theorem l02Power_c (m d : Int) (n K : Nat) (v : Value) (xs : List Int) (w : World) (hd : d + 1 = (n : Int)) (hv : RdI w v xs) (hl : xs.length = n) (h1 : 1 ≤ n) (hn : n ≤ 1000) (hK : K ≤ 1000) (hm : 2 ≤ m) (hm' : m ≤ 10000) (hx : ∀ x ∈ xs, 0 ≤ x ∧ x < m) :
    Calls Try.prog 142 #[.int .i64 m, v, .int .i64 K, .int .i64 d] w fun e w' => ∃ v', e = .returned v' ∧ OwI w' w.heap.size v' (pwL m n K (oneL n) xs) ∧ Below w.heap.size w w' := by
  obtain ⟨o, c, rfl, hmx, -⟩ := id hv
  rw [hl] at hv hmx ⊢
  have HX0 := Lib.hid (show xs.length = n ∧ ∀ x ∈ xs, 0 ≤ x ∧ x < m from ⟨hl, hx⟩)
  have hd0 : 0 ≤ d := by omega
  have hd1 : d ≤ 1000 := by omega
  clear hl hx
  go_enter Try.func142, Try.ntmps142
  have i0 : (0 : Int) < (n : Int) := by omega
  go_wp2_with (at_make; go_loud (refine mkI _ rfl _ _ rfl _ _ _ n rfl rfl (by omega) (by omega) ?_; intro w1 hO1 hb1 hz1; have hc0 := hO1.cell (k := 0) (rep_get n 0 0 (by omega)); have hf0 := hO1.fz 0; clear hz1))
  have hO2 : OwI (w1.setCell ⟨w.heap.size, 0, none⟩ (.int .i64 1)) w.heap.size (.slice (some ⟨w.heap.size, 0, none⟩) n n) (oneL n) := hO1.put 0 1
  have hb2 : Below w.heap.size w (w1.setCell ⟨w.heap.size, 0, none⟩ (.int .i64 1)) := below_put hb1 (Nat.le_refl _) _
  have hv2 := hv.below hb2 (Nat.le_refl _)
  clear hO1 hb1 hc0 hf0
  generalize w1.setCell ⟨w.heap.size, 0, none⟩ (.int .i64 1) = w2 at hO2 hb2 hv2 ⊢
  go_loopw [1, 2, 9] (fun a k u wr => ∃ (j : Nat) (A O : List Int) (oa oo : Option Addr) (ca co : Nat), j ≤ K ∧ a = .slice oa n ca ∧ k = .int .i64 j ∧ u = .slice oo n co ∧ RdI wr (.slice oa n ca) A ∧ OwI wr w.heap.size (.slice oo n co) O ∧ Hid (A.length = n ∧ O.length = n ∧ (∀ x ∈ A, 0 ≤ x ∧ x < m) ∧ (∀ x ∈ O, 0 ≤ x ∧ x < m) ∧ pwL m n j O A = pwL m n K (oneL n) xs) ∧ Below w.heap.size w wr) (fun _ k _ _ => (intOf k).toNat)
  case atStart => exact ⟨K, xs, oneL n, o, _, c, n, Nat.le_refl _, rfl, rfl, rfl, hv2, hO2, Lib.hid ⟨HX0.out.1, oneL_len n, HX0.out.2, oneL_range (by omega) n, rfl⟩, hb2⟩
  case round =>
    clear hO2 hb2 hv2
    obtain ⟨j, A, O, oa, oo, ca, co, hj, rfl, rfl, rfl, hA, hO, HJ, hB⟩ := hrel
    by_cases hj0 : 0 < j
    · have i1 : (0 : Int) < (j : Int) := by omega
      have HT := Lib.hid (pwL_s m n hj0 O A)
      by_cases hodd : j % 2 = 1
      · have io : ((j : Int) % 2 == 1) = true := by simp; omega
        go_wp2_with fail
        refine (l02Times_c m d n _ _ O A wr (by omega) hO.rd hA h1 (by omega) (by omega) (by omega) HJ.out.2.2.2.1 HJ.out.2.2.1).mono ?_
        rintro e w3 ⟨v3, rfl, hO3, hb3⟩
        obtain ⟨o3, c3, rfl⟩ := hO3.shapeN (n := n) (timesL_len _ _ _ _)
        have hA3 := hA.below hb3 (Nat.le_refl _)
        have hB3 := hB.trans (hb3.mono hB.size)
        have hBs := hB.size
        go_wp2_with fail
        refine (l02Times_c m d n _ _ A A w3 (by omega) hA3 hA3 h1 (by omega) (by omega) (by omega) HJ.out.2.2.1 HJ.out.2.2.1).mono ?_
        rintro e w4 ⟨v4, rfl, hA4, hb4⟩
        obtain ⟨o4, c4, rfl⟩ := hA4.shapeN (n := n) (timesL_len _ _ _ _)
        have hO4 := (hO3.below hb4).mono (B' := w.heap.size) hBs
        have hB4 := hB3.trans (hb4.mono hB3.size)
        go_wp2_with fail
        refine ⟨⟨j / 2, timesL m n A A, timesL m n O A, o4, o3, c4, c3, by omega, rfl, by go_num, rfl, hA4.rd, hO4, Lib.hid ⟨timesL_len _ _ _ _, timesL_len _ _ _ _, timesL_range (by omega), timesL_range (by omega), ?_⟩, hB4⟩, by simp [intOf]; omega⟩
        rw [← HJ.out.2.2.2.2, HT.out, if_pos hodd]
      · have io : ((j : Int) % 2 == 1) = false := by simp; omega
        go_wp2_with fail
        refine (l02Times_c m d n _ _ A A wr (by omega) hA hA h1 (by omega) (by omega) (by omega) HJ.out.2.2.1 HJ.out.2.2.1).mono ?_
        rintro e w4 ⟨v4, rfl, hA4, hb4⟩
        obtain ⟨o4, c4, rfl⟩ := hA4.shapeN (n := n) (timesL_len _ _ _ _)
        have hO4 := hO.below hb4
        have hB4 := hB.trans (hb4.mono hB.size)
        go_wp2_with fail
        refine ⟨⟨j / 2, timesL m n A A, O, o4, oo, c4, co, by omega, rfl, by go_num, rfl, hA4.rd, hO4, Lib.hid ⟨timesL_len _ _ _ _, HJ.out.2.1, timesL_range (by omega), HJ.out.2.2.2.1, ?_⟩, hB4⟩, by simp [intOf]; omega⟩
        rw [← HJ.out.2.2.2.2, HT.out, if_neg hodd]
    · obtain rfl : j = 0 := by omega
      go_wp2_with fail
      go_ret
      refine ⟨_, rfl, ?_, hB⟩
      rw [← HJ.out.2.2.2.2, pwL_0]; exact hO
end Go.Proofs.Ytcjinlfgeljmkaa
