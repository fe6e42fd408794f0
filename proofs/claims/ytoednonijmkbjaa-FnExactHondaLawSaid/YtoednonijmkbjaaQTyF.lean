/- Lemmas of TyF. -/
import Derived.Test.YtoednonijmkbjaaQTyE
import Derived.Deep.AppendSrc
set_option linter.unusedSimpArgs false
set_option linter.unusedVariables false
namespace Go.Proofs.Ytoednonijmkbjaa
open Go.RowKit
open Go

theorem zcQ {q : Nat} (hq : q ≤ 3) : Builtin.zeroCells (Value.int IntKind.i64 0).cells q = ((List.replicate q (0 : Int)).map (Value.int .i64)).toArray := by
  obtain rfl | rfl | rfl | rfl : q = 0 ∨ q = 1 ∨ q = 2 ∨ q = 3 := by omega
  all_goals kernel_rfl
theorem int_uq : Try.prog.underlying 3 = some (.int .i64) := Try.underlying3
set_option maxHeartbeats 1000000 in
theorem run_apzq_room {q : Nat} (hq1 : 1 ≤ q) (hq : q ≤ 3) (w : World) (ty : TypeId) (g n cap : Nat) (cur : Array Value) (hg : w.heap[g]? = some (.cells cur 2 (0, 0))) (hroom : n + q ≤ cap) (hfit : n + q ≤ cur.size) :
    (Builtin.append_ #[30, 3] ty #[.slice (some ⟨g, 0, none⟩) n cap, .int .i64 q]).run Try.prog w =
      .ok (.slice (some ⟨g, 0, none⟩) (n + q) cap) (w.setRow g (cur.toList.take n ++ (List.replicate q (0 : Int)).map (Value.int .i64) ++ cur.toList.drop (n + q)).toArray) := by
  obtain ⟨i0, hi, hz0, hz1, hz2⟩ := info_parts info_i
  have hst := run_storeCells_at Try.prog g n 2 ((List.replicate q (0 : Int)).map (Value.int .i64)) 0 cur w hg (by simp; omega) (ints_oneCell .i64 _)
  simp only [Nat.add_zero, List.length_map, List.length_replicate] at hst
  have hw : IntKind.i64.wrap (q : Int) = (q : Int) := IntWalk.i64_in _ (by omega)
  have hq0 : ¬ (q : Int) < 0 := by omega
  have hq8 : ¬ (281474976710656 < (q : Int) * 8) := by omega
  have hq9 : ¬ q = 0 := by omega
  have hzc := zcQ hq
  generalize (List.replicate q (0 : Int)).map (Value.int .i64) = news at hst hzc ⊢
  simp [Builtin.append_, run_underlying Try.underlying30, run_underlying int_uq, sizeOf, typeInfo, hi, hz1, hz2, zeroValue, hz0, asInt, asIntOf, hroom, Addr.add_lit, hst, hzc, hw, hq0, hq8, hq9]
theorem zcMq (k : Nat) : (Builtin.zeroCells (Value.int IntKind.i64 0).cells k).size = k := by simp [size_zeroCells, Value.cells]
set_option maxHeartbeats 1000000 in
theorem run_apzq_grow {q : Nat} (hq1 : 1 ≤ q) (hq : q ≤ 3) (w : World) (ty : TypeId) (g n cap : Nat) (xs : List Value) (hl : xs.length = n) (hc : ∀ j u, xs[j]? = some u → w.cell? ((⟨g, 0, none⟩ : Addr).add j) = some u) (hg : cap < n + q) (hn : n ≤ 1000) :
    (Builtin.append_ #[30, 3] ty #[.slice (some ⟨g, 0, none⟩) n cap, .int .i64 q]).run Try.prog w =
      .ok (.slice (some ⟨w.heap.size, 0, none⟩) (n + q) (grownCap w (n + q) cap 2))
        (w.drew.alloc (.cells (xs.toArray ++ ((List.replicate q (0 : Int)).map (Value.int .i64)).toArray ++ Builtin.zeroCells (Value.int IntKind.i64 0).cells (grownCap w (n + q) cap 2 - (n + q))) 2)) := by
  obtain ⟨i0, hi, hz0, hz1, hz2⟩ := info_parts info_i
  have hold := run_firstCells_some (P := Try.prog) w.drew 1 n ⟨g, 0, none⟩ n cap xs (by omega) hc
  have hw : IntKind.i64.wrap (q : Int) = (q : Int) := IntWalk.i64_in _ (by omega)
  have hq0 : ¬ (q : Int) < 0 := by omega
  have hq8 : ¬ (281474976710656 < (q : Int) * 8) := by omega
  have hq9 : ¬ q = 0 := by omega
  have hroom : ¬ n + q ≤ cap := by omega
  have h63 : ¬ (9223372036854775807 < ((n : Int) + q)) := by omega
  have hnx : Builtin.nextslicecap (n + q) cap * 8 ≤ 281474976710656 := growslice_fits (by omega) (by omega)
  have hzc := zcQ hq
  generalize (List.replicate q (0 : Int)).map (Value.int .i64) = news at hzc ⊢
  have h48 : ¬ (281474976710656 < Builtin.nextslicecap (n + q) cap * 8) := by omega
  simp [Builtin.append_, run_underlying Try.underlying30, run_underlying int_uq, sizeOf, typeInfo, hi, hz1, hz2, zeroValue, hz0, asInt, asIntOf, hroom, hzc, hw, hq0, hq8, hq9, h63, h48, Question.forced, hold, newRow, grownCap]
  rw [show (xs ++ news).toArray = xs.toArray ++ news.toArray by simp, Array.append_assoc]
theorem run_apzq {q : Nat} (hq1 : 1 ≤ q) (hq : q ≤ 3) (w : World) (ty : TypeId) (B g n cap : Nat) (xs : List Int) (hO : OwI w B (.slice (some ⟨g, 0, none⟩) n cap) xs) (hn : n ≤ 1000) (hB : B ≤ w.heap.size) :
    ∃ g' cap' w', (Builtin.append_ #[30, 3] ty #[.slice (some ⟨g, 0, none⟩) n cap, .int .i64 q]).run Try.prog w = .ok (.slice (some ⟨g', 0, none⟩) (n + q) cap') w' ∧
      OwI w' B (.slice (some ⟨g', 0, none⟩) (n + q) cap') (xs ++ List.replicate q 0) ∧ w.grownBy w' (some g) ∧ (g' = g ∨ g' = w.heap.size) := by
  have hlen := hO.len
  have hO' := hO
  obtain ⟨h1, h2⟩ := hO
  have hll : (xs ++ List.replicate q (0 : Int)).length = n + q := by simp; omega
  rcases h2 with ⟨h, _⟩ | ⟨g1, cap1, cur, hv, hg, hh, hnc, hcm, hcs, ht⟩
  · simp at h
  obtain ⟨rfl, rfl⟩ : g = g1 ∧ cap = cap1 := by
    obtain ⟨e1, _, e3⟩ := Value.slice.inj hv
    exact ⟨by simpa using e1, e3⟩
  by_cases hroom : n + q ≤ cap
  · have hr := run_apzq_room hq1 hq w ty g n cap cur hh hroom (by omega)
    refine ⟨_, _, _, hr, ⟨by simp, .inr ⟨g, cap, _, by rw [hll], hg, setRow_heap w g cur _ _ _ hh, by omega, hcm, ?_, ?_⟩⟩, ⟨rfl, rfl, rfl, by simp, fun k _ hk => setRow_other w g k _ (fun e => hk (by rw [e]))⟩, .inl rfl⟩
    · simp only [List.size_toArray, List.length_append, List.length_take, List.length_drop, Array.length_toList, List.length_map, List.length_replicate]
      omega
    · have e : cur.toList.take n = xs.map (Value.int .i64) := by
        rw [← hlen, Nat.mul_one] at ht; exact ht
      simp only [e, List.map_append, List.append_assoc]
      rw [show (xs ++ List.replicate q (0 : Int)).length * 1 = (xs.map (Value.int .i64) ++ (List.replicate q (0 : Int)).map (Value.int .i64)).length by simp, ← List.append_assoc]
      exact List.take_left
  · have hc : ∀ j u, (xs.map (Value.int .i64))[j]? = some u → w.cell? ((⟨g, 0, none⟩ : Addr).add j) = some u := World.ownsRow.cells hO' (g := g) rfl
    have hr := run_apzq_grow hq1 hq w ty g n cap (xs.map (Value.int .i64)) (by simp; omega) hc (by omega) hn
    have hge := grownCap_ge w (n + q) cap 2
    refine ⟨_, _, _, hr, ⟨by simp, .inr ⟨w.heap.size, _, _, by rw [hll], hB, heap_alloc_new w.drew _, by omega, grownCap_le_maxLen w _ _ _ (by unfold maxLen; omega), ?_, ?_⟩⟩, ⟨rfl, rfl, rfl, by simp, fun k hk _ => heap_alloc_old w.drew _ hk⟩, .inr rfl⟩
    · simp [zcMq]; omega
    · simp only [Array.toList_append, List.map_append]
      rw [show (xs ++ List.replicate q (0 : Int)).length * 1 = (xs.map (Value.int .i64) ++ (List.replicate q (0 : Int)).map (Value.int .i64)).length by simp]
      exact List.take_left
theorem apZq {ops : Array Oper} {rest : List Oper} {o : Oper} {a : Act} {Q : Exit → Act → World → Prop} {q : Nat} (hq1 : 1 ≤ q) (hq : q ≤ 3) (w : World) (hg : o.guard = none) (s x : Operand) (hop : o.op = .call { callee := .builtin .append, args := #[s, x], argTypes := #[30, 3] })
    (B g n cap : Nat) (xs : List Int) (hs : a.eval s = .slice (some ⟨g, 0, none⟩) n cap) (hx : a.eval x = .int .i64 q) (hO : OwI w B (.slice (some ⟨g, 0, none⟩) n cap) xs) (hn : n ≤ 1000) (hB : B ≤ w.heap.size)
    (hK : ∀ g' cap' w', OwI w' B (.slice (some ⟨g', 0, none⟩) (n + q) cap') (xs ++ List.replicate q 0) → w.grownBy w' (some g) → (g' = g ∨ g' = w.heap.size) → wpList Try.prog ops Q rest (a.put o.dst (.slice (some ⟨g', 0, none⟩) (n + q) cap')) w') :
    wpList Try.prog ops Q (o :: rest) a w :=
  wpList_plain hg fun K hK' => by
    obtain ⟨g', cap', w', hr, h1, h2, h3⟩ := run_apzq hq1 hq w o.type B g n cap xs hO hn hB
    unfold Oper.wp execOp
    simp only [hop, resolve, invoke, builtin, Sem.run_bind, Sem.run_pure, Result.andThen_ok, List.map_toArray, List.map_cons, List.map_nil, hs, hx, hr]
    exact hK' _ _ (hK g' cap' w' h1 h2 h3)
end Go.Proofs.Ytoednonijmkbjaa
