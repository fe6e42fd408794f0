/- Lemmas of TyG. -/
import Derived.Test.YtoednonijmkbjaaQTyF
import Derived.Test.YtoednonijmkbjaaQCopy
set_option linter.unusedSimpArgs false
set_option linter.unusedVariables false
namespace Go.Proofs.Ytoednonijmkbjaa
open Go.RowKit
open Go

set_option maxHeartbeats 1000000 in
theorem run_apz0 (w : World) (ty : TypeId) (g n cap : Nat) (cur : Array Value) (hg : w.heap[g]? = some (.cells cur 2 (0, 0))) (hroom : n ≤ cap) :
    (Builtin.append_ #[30, 3] ty #[.slice (some ⟨g, 0, none⟩) n cap, .int .i64 0]).run Try.prog w = .ok (.slice (some ⟨g, 0, none⟩) n cap) w := by
  obtain ⟨i0, hi, hz0, hz1, hz2⟩ := info_parts info_i
  have hw : IntKind.i64.wrap 0 = 0 := by decide
  have hzc : Builtin.zeroCells (Value.int IntKind.i64 0).cells 0 = #[] := by kernel_rfl
  simp [Builtin.append_, run_underlying Try.underlying30, run_underlying int_uq, sizeOf, typeInfo, hi, hz1, hz2, zeroValue, hz0, asInt, asIntOf, hroom, Addr.add_lit, hzc, hw, storeCells]
theorem grown_self (w : World) (g : Option Nat) : w.grownBy w g := ⟨rfl, rfl, rfl, Nat.le_refl _, fun _ _ _ => rfl⟩
theorem apZ3 {ops : Array Oper} {rest : List Oper} {o : Oper} {a : Act} {Q : Exit → Act → World → Prop} {q : Nat} (hq : q ≤ 3) (w : World) (hg : o.guard = none) (s x : Operand) (hop : o.op = .call { callee := .builtin .append, args := #[s, x], argTypes := #[30, 3] })
    (B g n cap : Nat) (xs : List Int) (hs : a.eval s = .slice (some ⟨g, 0, none⟩) n cap) (hx : a.eval x = .int .i64 q) (hO : OwI w B (.slice (some ⟨g, 0, none⟩) n cap) xs) (hn : n ≤ 1000) (hB : B ≤ w.heap.size)
    (hK : ∀ g' cap' w', OwI w' B (.slice (some ⟨g', 0, none⟩) (n + q) cap') (xs ++ List.replicate q 0) → w.grownBy w' (some g) → wpList Try.prog ops Q rest (a.put o.dst (.slice (some ⟨g', 0, none⟩) (n + q) cap')) w') :
    wpList Try.prog ops Q (o :: rest) a w := by
  by_cases h1 : 1 ≤ q
  · exact apZq h1 hq w hg s x hop B g n cap xs hs hx hO hn hB fun g' cap' w' a b _ => hK g' cap' w' a b
  · obtain rfl : q = 0 := by omega
    refine wpList_plain hg fun K hK' => ?_
    obtain ⟨h1, h2⟩ := id hO
    rcases h2 with ⟨h, _⟩ | ⟨g1, cap1, cur, hv, hg', hh, hnc, hcm, hcs, ht⟩
    · simp at h
    obtain ⟨e1, e2, e3⟩ := Value.slice.inj hv
    obtain rfl : g = g1 := by simpa using e1
    have hr := run_apz0 w o.type g n cap cur hh (by omega)
    unfold Oper.wp execOp
    simp only [hop, resolve, invoke, builtin, Sem.run_bind, Sem.run_pure, Result.andThen_ok, List.map_toArray, List.map_cons, List.map_nil, hs, hx, Int.natCast_zero, hr]
    exact hK' _ _ (hK g cap w (by simpa using hO) (grown_self w _))

set_option maxHeartbeats 1000000 in
theorem padded_c (v : Value) (ls : List Int) (w : World) (hv : RdI w v ls) (h1 : 1 ≤ ls.length) (hl : ls.length ≤ 3) :
    Calls Try.prog 54 #[v] w fun e w' => ∃ v', e = .returned v' ∧ OwI w' w.heap.size v' (ls ++ List.replicate (3 - ls.length) 0) ∧ Below w.heap.size w w' := by
  obtain ⟨bx, fx, c, rfl⟩ : ∃ bx fx c, v = .slice (some ⟨bx, fx, none⟩) ls.length c := by
    obtain ⟨o, c, rfl, hmx, -⟩ := id hv
    obtain ⟨bx, fx, e, -⟩ := hv.cells h1
    subst e
    exact ⟨bx, fx, c, rfl⟩
  have e1 : IntKind.i64.wrap (3 - (ls.length : Int)) = ((3 - ls.length : Nat) : Int) := by rw [IntWalk.i64_in _ (by omega)]; omega
  go_enter Try.func54, Try.ntmps54
  go_wp2_with fail
  refine (copyOfI_c _ _ _ ls _ hv (by omega)).mono ?_
  rintro e w1 ⟨vc, rfl, hO, hB⟩
  obtain ⟨ov, cv, rfl⟩ := hO.shape
  obtain ⟨gv, rfl, -, -⟩ := hO.row h1
  go_wp2_with (at_builtin; refine apZ3 (q := 3 - ls.length) (by omega) w1 rfl _ _ rfl w.heap.size gv ls.length cv ls rfl rfl hO (by omega) hB.size ?_; intro g' cap' w' how hgr; rw [show ls.length + (3 - ls.length) = 3 by omega] at how ⊢)
  go_ret
  exact ⟨_, rfl, how, hB.trans (Below.grown (Below.refl _ _) hgr hB.size (fun k hk => (hO.lt k hk).1))⟩
end Go.Proofs.Ytoednonijmkbjaa
