/- Lemmas of LwT. -/
import Derived.Test.YtcjinlfgeljmkaaWTSerK
import Derived.Test.YtcjinlfgeljmkaaWTSRev
import Derived.Test.YtcjinlfgeljmkaaWTG3
import Derived.Test.YtcjinlfgeljmkaaWTEu
import Derived.Test.YtcjinlfgeljmkaaWTRev
import Derived.Test.YtcjinlfgeljmkaaWTG1
import Derived.Test.YtcjinlfgeljmkaaWTSerO
import Derived.Test.YtcjinlfgeljmkaaWTG2
import Derived.Test.YtcjinlfgeljmkaaWTWittD
import Derived.Test.YtcjinlfgeljmkaaWTRgB
set_option linter.unusedSimpArgs false
set_option linter.unusedVariables false
namespace Go.Proofs.Ytcjinlfgeljmkaa
open Go.RowKit

def SEnd3 (w w' : World) (m : Int) (xs : List Int) (c : Int) (e : Ending) : Prop :=
  ∃ v', e = .returned (.tuple #[.agg #[.int .i64 m, v'], .int .i64 c]) ∧ OwI w' w.heap.size v' xs ∧ Below w.heap.size w w' ∧ xs.length ≤ 1048576
theorem send3 {P : Program} {f : FuncId} {args : Array Value} {w : World} {m : Int} {xs : List Int} {c : Int} (h : Calls P f args w fun e w' => SEnd w w' ⟨m, xs, c⟩ e) : Calls P f args w fun e w' => SEnd3 w w' m xs c e := h

def IsS (m : Int) (n : Nat) (xs : List Int) : Prop := serB m xs = true ∧ xs.length = n
theorem IsS.len {m : Int} {n : Nat} {xs : List Int} (h : IsS m n xs) : xs.length = n := h.2
theorem IsS.m {m : Int} {n : Nat} {xs : List Int} (h : IsS m n xs) : 2 ≤ m ∧ m ≤ 10000 := ser_m h.1
theorem IsS.n {m : Int} {n : Nat} {xs : List Int} (h : IsS m n xs) : 2 ≤ n ∧ n ≤ 11 := by have := ser_n h.1; rw [h.2] at this; exact this
theorem IsS.x {m : Int} {n : Nat} {xs : List Int} (h : IsS m n xs) : ∀ x ∈ xs, 0 ≤ x ∧ x < m := ser_x h.1
theorem isS_mk {m : Int} {n : Nat} {xs : List Int} (hm : 2 ≤ m ∧ m ≤ 10000) (hn : 2 ≤ n ∧ n ≤ 11) (hl : xs.length = n) (hx : ∀ x ∈ xs, 0 ≤ x ∧ x < m) : IsS m n xs := by
  refine ⟨?_, hl⟩
  have e : numsB m xs = true := by
    simp only [numsB, List.all_eq_true]
    intro x h
    have := hx x h
    exact inB_mk (by omega) (by omega)
  have e2 : inB ((xs.length : Int) - 1) 1 10 = true := inB_mk (by omega) (by omega)
  have e3 : modB m = true := inB_mk (by omega) (by omega)
  simp [serB, e, e2, e3]
theorem twoS_ok {m : Int} {n : Nat} {a b : List Int} (ha : IsS m n a) (hb : IsS m n b) : twoS m a m b = 0 := by
  simp [twoS, alikeS, ha.1, hb.1, ha.2, hb.2]
theorem IsS.times {m : Int} {n : Nat} {a b : List Int} (ha : IsS m n a) (hb : IsS m n b) : mulR m a m b = ⟨m, timesL m n a b, 0⟩ ∧ IsS m n (timesL m n a b) :=
  ⟨by simp [mulR, twoS_ok ha hb, ha.2], isS_mk ha.m ha.n (timesL_len _ _ _ _) (timesL_range (by have := ha.m; omega))⟩
theorem IsS.add {m : Int} {n : Nat} {a b : List Int} (ha : IsS m n a) (hb : IsS m n b) : addR m a m b = ⟨m, addL m n a b, 0⟩ ∧ IsS m n (addL m n a b) :=
  ⟨by simp [addR, twoS_ok ha hb, ha.2], isS_mk ha.m ha.n (addL_len _ _ _ _) (addL_range (by have := ha.m; omega))⟩
end Go.Proofs.Ytcjinlfgeljmkaa
