/- Lemmas of Same. -/
import Derived.Test.YtcjinlfgeljmkaaWSG2
set_option linter.unusedSimpArgs false
set_option linter.unusedVariables false
namespace Go.Proofs.Ytcjinlfgeljmkaa
open Go.RowKit

set_option maxHeartbeats 400000 in
theorem likeInts_c (v u : Value) (xs ys : List Int) (w : World) (hv : RdI w v xs) (hu : RdI w u ys) :
    Calls Try.prog 28 #[v, u] w fun e w' => e = .returned (.bool (eqLB xs ys)) ∧ ∃ n, w' = w.drewN n := by
  obtain ⟨o, c, rfl, hm, hc⟩ := hv
  obtain ⟨o', c', rfl, hm', hc'⟩ := hu
  unfold maxLen at hm hm'
  by_cases hlen : xs.length = ys.length
  · have hne : (((xs.length:Nat):Int) != ((ys.length:Nat):Int)) = false := by simp [hlen]
    have HL := Lib.hid hlen
    clear hlen
    go_enter Try.func28, Try.ntmps28
    go_wp2
    go_loopw [5] (fun i wr => ∃ k : Nat, k ≤ xs.length ∧ i = .int .i64 k ∧ Hid (xs.take k = ys.take k) ∧ ∃ n, wr = w.drewN n) (fun i _ => xs.length - (intOf i).toNat)
    case atStart => exact ⟨0, Nat.zero_le _, rfl, Lib.hid rfl, 0, rfl⟩
    case round =>
      obtain ⟨k, hk, rfl, HT, n, rfl⟩ := hrel
      by_cases hlt : k < xs.length
      · obtain ⟨b, off, rfl, hx⟩ := hc k (xs[k]) (by simp [hlt])
        obtain ⟨b', off', rfl, hy⟩ := hc' k (ys[k]'(by have := HL.out; omega)) (by simp)
        have hlt' : k < ys.length := by have := HL.out; omega
        go_wp2
        go_quiet (fail)
        go_wp2
        · have hne : xs[k] ≠ ys[k] := by have h : (xs[k] != ys[k]) = true := by assumption
                                         simpa using h
          go_ret
          exact ⟨by rw [eqLB_idx (k := k) (by simp) (by simp) hne]; rfl, n + nq, by simp⟩
        · have he : ys[k] = xs[k] := by have h : (xs[k] != ys[k]) = false := by assumption
                                        simpa using Eq.symm (by simpa using h)
          exact ⟨⟨k + 1, by omega, by go_num, Lib.hid (take_eq (x := xs[k]) (by simp) (by simp [← he]) HT.out), n + nq, rfl⟩, by simp [intOf]; omega⟩
      · go_wp2
        go_ret
        exact ⟨by rw [eqLB_take HL.out hlt HT.out]; rfl, n, rfl⟩
  · have hne : (((xs.length:Nat):Int) != ((ys.length:Nat):Int)) = true := by simp; omega
    have HL := Lib.hid hlen
    clear hlen
    go_enter Try.func28, Try.ntmps28
    go_wp2
    go_ret
    exact ⟨by rw [eqLB_ne (fun h => HL.out (by rw [h]))]; rfl, 0, rfl⟩
end Go.Proofs.Ytcjinlfgeljmkaa
