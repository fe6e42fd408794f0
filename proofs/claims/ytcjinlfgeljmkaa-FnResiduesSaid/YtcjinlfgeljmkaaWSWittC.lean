/- Lemmas of WittC. -/
import Derived.Test.YtcjinlfgeljmkaaWSWittB
set_option linter.unusedSimpArgs false
set_option linter.unusedVariables false
namespace Go.Proofs.Ytcjinlfgeljmkaa
open Go.RowKit

theorem witt_len {p m : Int} {xs : List Int} (h : wittB p m xs = true) : 1 ≤ xs.length ∧ xs.length ≤ 4 := by
  simp only [wittB, Bool.and_eq_true] at h
  have := shape_n h.1
  omega
theorem witt_m {p m : Int} {xs : List Int} (h : wittB p m xs = true) : 2 ≤ m ∧ m ≤ 10000 := by
  simp only [wittB, Bool.and_eq_true] at h
  exact shape_m h.1
theorem witt_p {p m : Int} {xs : List Int} (h : wittB p m xs = true) : p = 2 ∨ p = 3 ∨ p = 5 ∨ p = 7 := by
  simp only [wittB, Bool.and_eq_true] at h
  exact shape_p h.1
theorem witt_x {p m : Int} {xs : List Int} (h : wittB p m xs = true) : ∀ x ∈ xs, 0 ≤ x ∧ x < m := by
  simp only [wittB, Bool.and_eq_true, List.all_eq_true] at h
  intro x hx
  have := inB_t (h.2 x hx)
  omega
theorem RdI.some {w : World} {o : Option Addr} {n c : Nat} {xs : List Int} (h : RdI w (.slice o n c) xs) (hx : 1 ≤ xs.length) : ∃ b off, o = .some ⟨b, off, none⟩ := by
  obtain ⟨o', c', heq, hm, hc⟩ := h
  obtain ⟨b, off, hb, _⟩ := hc 0 (xs[0]'(by omega)) (by simp)
  have : o = o' := by simpa using (Value.slice.inj heq).1
  exact ⟨b, off, this.trans hb⟩

set_option maxHeartbeats 400000 in
set_option maxRecDepth 100000 in
theorem l13With_c (p m : Int) (o' : Option Addr) (n' c' : Nat) (o : Option Addr) (n c : Nat) (w : World) :
    Calls Try.prog 182 #[.agg #[.int .i64 p, .int .i64 m, .slice o' n' c'], .slice o n c] w fun e w' => e = .returned (.agg #[.int .i64 p, .int .i64 m, .slice o n c]) ∧ Below w.heap.size w w' := by
  go_enter Try.func182, Try.ntmps182
  go_wp2
  exact bodyPost_ret (v := .agg #[.int .i64 p, .int .i64 m, .slice o n c]) (by simp [results, Try.results182, go_sem]) rfl ⟨rfl, (by (repeat (first | exact Below.refl _ _ | (refine Below.setCell ?_ (by first | (simp; done) | (simp; omega) | omega) _) | (refine Below.alloc ?_ (by first | (simp; done) | (simp; omega) | omega) _) | (refine below_drewN ?_ _) | (refine Below.drew ?_))))⟩

end Go.Proofs.Ytcjinlfgeljmkaa
