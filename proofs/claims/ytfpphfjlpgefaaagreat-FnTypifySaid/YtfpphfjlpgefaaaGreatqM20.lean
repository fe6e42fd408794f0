/- Lemmas. -/
import Derived.Test.YtfpphfjlpgefaaaGreatqG6
import Derived.Test.YtfpphfjlpgefaaaGreatqG7
import Derived.Deep.AppendSrc
import Derived.Test.YtfpphfjlpgefaaaGreatqM5
import Derived.Test.YtfpphfjlpgefaaaGreatqG17
import Derived.Test.YtfpphfjlpgefaaaGreatqG3
import Derived.Test.YtfpphfjlpgefaaaGreatqG2
set_option maxHeartbeats 4000000
set_option maxRecDepth 100000
set_option linter.unusedSimpArgs false
set_option linter.unusedVariables false
namespace Go.Proofs.YtfpphfjlpgefaaaGreat
open Go.RowKit
section

theorem qOe (m S a b c : Int) (e f : Nat) : (S % m + (a % m) ^ e % m * (b % m * ((c % m) ^ f % m) % m) % m) % m = (S + a ^ e * b * c ^ f) % m := by
 refine qCU (qAW _ _) ?_
 rw [qAW, Int.mul_assoc]
 refine qAd ?_ ?_
 ·rw [qAW]; exact qEE a m e
 ·rw [qAW]; refine qAd (qAW _ _) ?_; rw [qAW]; exact qEE c m f
theorem qPO (m S a b c : Int) (e f : Nat) : (S % m + (a % m) ^ e % m * (b % m * ((c % m) ^ f % m) % m)) % m = (S + a ^ e * b * c ^ f) % m :=
 (qCU rfl (qAW _ _)).symm.trans (qOe m S a b c e f)
theorem qLv {ls : Li} (hx : ∀ x ∈ ls, 0 ≤ x ∧ x ≤ 10000) (k : Nat) : 0 ≤ at0 ls k ∧ at0 ls k ≤ 10000 := by
 by_cases h : k < ls.length
 ·rw [qDT h]; exact hx _ (List.getElem_mem _)
 ·rw [show at0 ls k = 0 by simp [at0, List.getD, List.getElem?_eq_none (Nat.le_of_not_lt h)]]; omega
def qCS (p : Nat) (v : Nat → Int) (k i : Nat) : Int := (p : Int) ^ (k - i) * num p v i * v (k - i) ^ (p ^ i)
theorem qKM (p : Nat) (v : Nat → Int) (k : Nat) : num p v (k + 1) = qA3 (k + 1) (qCS p v k) := qDw p v k

theorem qPq (p : Nat) (m : Int) (v : Value) (ls : Li) (w : World) (hv : RdI w v ls) (hp : P4 p) (hl : ls.length ≤ 3) (hm : 2 ≤ m) (hm' : m < 1099511627776) (hx : ∀ x ∈ ls, 0 ≤ x ∧ x ≤ 10000) :
  Calls Tryz.prog 142 #[.int .i64 p, .int .i64 m, v] w fun e w' => ∃ v', e = .returned v' ∧ OwI w' w.heap.size v' (mk (ls.length + 1) (fun k => num p (at0 ls) k % m)) ∧ Below w.heap.size w w' := by
 obtain ⟨o, c, rfl, hmx, -⟩ := id hv
 clear hmx
 have hp2 := hp.pos
 have m0 : (m == 0) = false := by simp; omega
 have m1 : ¬ m = 0 := Oo
 have t1 : (1 : Int).tmod m = 1 := by rw [Int.tmod_eq_emod_of_nonneg Oo]; exact Int.emod_eq_of_lt Oo Oo
 have tp : (p : Int).tmod m = (p : Int) % m := Int.tmod_eq_emod_of_nonneg Oo
 have hpm := qA6 (a := (p : Int)) (show 0 < m by omega)
 go_enter Tryz.func142, Tryz.ntmps142
 go_wp2_with fail
 have O1 := OwI.lit w [1] (by decide)
 have B1 : Below w.heap.size w (w.alloc (.cells #[.int .i64 1] 2)) := bZ
 simp at O1
 have HM1 : mk 1 (fun k => num p (at0 ls) k % m) = [1] := by
  show [num p (at0 ls) 0 % m] = _
  rw [qCu, Int.emod_eq_of_lt Oo Oo]
 rw [← HM1] at O1
 clear HM1
 generalize w.alloc (.cells #[.int .i64 1] 2) = w1 at O1 B1 ⊢
 go_loopw [7, 8, 9, 10, 11] (fun so sk _ _ _ wr => ∃ k : Nat, 1 ≤ k ∧ k ≤ ls.length + 1 ∧ sk = .int .i64 k ∧ OwI wr w.heap.size so (mk k (fun k => num p (at0 ls) k % m)) ∧ Below w.heap.size w wr) (fun _ i _ _ _ _ => ls.length + 1 - (intOf i).toNat)
 case atStart => exact ⟨1, Nat.le_refl _, Oo, rfl, O1, B1⟩
 case round =>
  clear O1 B1; obtain ⟨k, hk1, hk, rfl, hO, hB⟩ := hrel; obtain ⟨ov, cv, rfl⟩ := hO.shapeN (n := k) (qA8 _ _); have hBs := hB.size
  by_cases hlt : k ≤ ls.length
  ·have i1 : (k : Int) ≤ (ls.length : Int) := Oo; obtain ⟨bx, fx, rfl, -⟩ := hv.cells Oo; obtain ⟨gv, rfl, -, -⟩ := hO.row Oo; have hvr := hv.below hB; have HS := dd (show mk (k + 1) (fun k => num p (at0 ls) k % m) = mk k (fun k => num p (at0 ls) k % m) ++ [num p (at0 ls) k % m] from qCN _ _)
   have HN := dd (show num p (at0 ls) k = qA3 k (qCS p (at0 ls) (k - 1)) by
    obtain ⟨j, rfl⟩ : ∃ j, k = j + 1 := ⟨k - 1, Oo⟩; exact qKM p _ j)
   go_wp2_with fail
   go_loopw [9, 10, 11, 22] (fun st _ _ si wz => ∃ (i d : Nat), i ≤ k ∧ si = .int .i64 i ∧ st = .int .i64 (qA3 i (qCS p (at0 ls) (k - 1)) % m) ∧ wz = wr.drewN d) (fun _ _ _ i _ => k - (intOf i).toNat)
   case atStart => exact ⟨0, 0, Nat.zero_le _, rfl, by show Value.int _ 0 = Value.int _ (0 % m); rw [Int.zero_emod], rfl⟩
   case round =>
    obtain ⟨i, d, hi, rfl, rfl, rfl⟩ := hrel
    by_cases hik : i < k
    ·have j0 : (0 : Int) ≤ (i : Int) := Oo; have j1 : (i : Int) < (k : Int) := Oo; have e1 : IntKind.i64.wrap ((k : Int) - (i : Int)) = (k : Int) - (i : Int) := IntWalk.i64_in _ Oo; have e2 : IntKind.i64.wrap ((k : Int) - (i : Int) - 1) = ((k - 1 - i : Nat) : Int) := by rw [IntWalk.i64_in _ Oo]; omega
     have e3 : IntKind.i64.wrap ((k : Int) - 1) = ((k - 1 : Nat) : Int) := by rw [IntWalk.i64_in _ Oo]; omega
     have e4 : IntKind.i64.wrap (((k - 1 : Nat) : Int) - (i : Int)) = ((k - 1 - i : Nat) : Int) := by rw [IntWalk.i64_in _ Oo]; omega
     have c1 := hO.cell (k := i) (qA5 (by rw [qA8]; omega)); rw [qBN hik] at c1; have c2 := hvr.cell0 (qA5 (show k - 1 - i < ls.length by omega)); have rv := qLv hx (k - 1 - i); have HA := dd (show (qA3 i (qCS p (at0 ls) (k - 1)) % m + ((p : Int) % m) ^ (k - 1 - i) % m * (num p (at0 ls) i % m * ((at0 ls (k - 1 - i) % m) ^ (p ^ i) % m) % m)) % m = qA3 (i + 1) (qCS p (at0 ls) (k - 1)) % m from qPO _ _ _ _ _ _ _); have rS := qA6 (a := qA3 i (qCS p (at0 ls) (k - 1))) (show 0 < m by omega); generalize qA3 i (qCS p (at0 ls) (k - 1)) % m = S at HA rS ⊢; have rN := qA6 (a := num p (at0 ls) i) (show 0 < m by omega); generalize num p (at0 ls) i % m = N at c1 HA rN; generalize at0 ls (k - 1 - i) = x at c2 HA rv; have hz9 : k - 1 - i ≤ 3 := Oo; have hzl : ((k - 1 - i : Nat) : Int) < (ls.length : Int) := Oo; have hi3 : i ≤ 2 := Oo
     have hpi : ((p ^ i : Nat) : Int) ≤ 49 := by
      rcases hp with rfl | rfl | rfl | rfl <;> (obtain rfl | rfl | rfl : i = 0 ∨ i = 1 ∨ i = 2 := Oo) <;> decide
     have hpe : (p : Int) ^ i % 1099511627776 = ((p ^ i : Nat) : Int) := by rw [Int.natCast_pow] at hpi ⊢; exact Int.emod_eq_of_lt (Int.pow_nonneg Oo) Oo
     generalize k - 1 - i = z at e2 e4 c2 HA hz9 hzl; have rx := qA6 (a := x) (show 0 < m by omega); have r1 := qA6 (a := (x % m) ^ (p ^ i)) (show 0 < m by omega); have r2 := qA6 (a := N * ((x % m) ^ (p ^ i) % m)) (show 0 < m by omega); have r3 := qA6 (a := ((p : Int) % m) ^ z) (show 0 < m by omega); have r4 := qA6 (a := ((p : Int) % m) ^ z % m * (N * ((x % m) ^ (p ^ i) % m) % m)) (show 0 < m by omega); have t3 : x.tmod m = x % m := Int.tmod_eq_emod_of_nonneg Oo; have pn : p ^ i ≤ 1000000000000 := Oo
     go_wp2_with fail
     go_quiet (first
      | (go_at_call_of 146 (Value.int .i64 1099511627776); (first | exact qDM (by rw [hpe]) (qDQ 1099511627776 p i i _ rfl Oo Oo Oo Oo Oo (.inr ⟨Oo, hi3⟩)) | exact qDJ (by rw [hpe]) (qDQ 1099511627776 p i i _ rfl Oo Oo Oo Oo Oo (.inr ⟨Oo, hi3⟩)) | exact qDN (by rw [hpe]) (qDQ 1099511627776 p i i _ rfl Oo Oo Oo Oo Oo (.inr ⟨Oo, hi3⟩)) | exact qDL (by rw [hpe]) (qDQ 1099511627776 p i i _ rfl Oo Oo Oo Oo Oo (.inr ⟨Oo, hi3⟩))))
      | (go_at_call 146; (first | exact qDM (rfl) (qDQ m (x % m) _ (p ^ i) _ rfl Oo Oo Oo Oo pn (.inl hm')) | exact qDJ (rfl) (qDQ m (x % m) _ (p ^ i) _ rfl Oo Oo Oo Oo pn (.inl hm')) | exact qDN (rfl) (qDQ m (x % m) _ (p ^ i) _ rfl Oo Oo Oo Oo pn (.inl hm')) | exact qDL (rfl) (qDQ m (x % m) _ (p ^ i) _ rfl Oo Oo Oo Oo pn (.inl hm'))))
      | (go_at_call 145; (first | exact qDM (rfl) (qEp m N ((x % m) ^ (p ^ i) % m) _ Oo hm' Oo Oo Oo Oo) | exact qDJ (rfl) (qEp m N ((x % m) ^ (p ^ i) % m) _ Oo hm' Oo Oo Oo Oo) | exact qDN (rfl) (qEp m N ((x % m) ^ (p ^ i) % m) _ Oo hm' Oo Oo Oo Oo) | exact qDL (rfl) (qEp m N ((x % m) ^ (p ^ i) % m) _ Oo hm' Oo Oo Oo Oo))))
     go_wp2_with fail
     refine (qDQ m ((p : Int) % m) z z _ rfl Oo Oo hpm.1 hpm.2 Oo (.inl hm')).mono ?_; rintro e w2 ⟨rfl, d2, rfl⟩; have e5 : IntKind.i64.wrap (S + ((p : Int) % m) ^ z % m * (N * ((x % m) ^ (p ^ i) % m) % m) % m) = S + ((p : Int) % m) ^ z % m * (N * ((x % m) ^ (p ^ i) % m) % m) % m := IntWalk.i64_in _ Oo; have t4 : (S + ((p : Int) % m) ^ z % m * (N * ((x % m) ^ (p ^ i) % m) % m) % m).tmod m = (S + ((p : Int) % m) ^ z % m * (N * ((x % m) ^ (p ^ i) % m) % m) % m) % m := Int.tmod_eq_emod_of_nonneg Oo
     go_wp2_with fail
     refine (qEp m (((p : Int) % m) ^ z % m) (N * ((x % m) ^ (p ^ i) % m) % m) _ Oo hm' r3.1 r2.1 r3.2 r2.2).mono ?_; rintro e w3 ⟨rfl, d3, rfl⟩
     go_wp2_with fail
     rw [HA.out]; exact ⟨⟨i + 1, _, Oo, by go_num, rfl, by first | rfl | (simp [World.drewN_drewN]; done)⟩, by simp [intOf]; omega⟩
    ·obtain rfl : i = k := Oo; rw [← HN.out]; have hO5 := hO.below (w' := wr.drewN d) bZ ; have hB5 : Below w.heap.size w (wr.drewN d) := (bY1 hB); generalize wr.drewN d = wq at hO5 hB5 ⊢
     go_wp2_with (at_builtin; refine apI wq rfl _ _ rfl w.heap.size (.slice (some ⟨gv, 0, none⟩) i cv) _ rfl hO5 _ rfl (by rw [qA8]; omega) (by have := hB5.size; omega) ?_; intro v' w4 hO3 hgr hb3 hlt3; clear hgr)
     rw [← HS.out] at hO3; exact ⟨⟨i + 1, Oo, Oo, by go_num, hO3, hB5.trans hb3⟩, by simp [intOf]; omega⟩
  ·obtain rfl : k = ls.length + 1 := Oo; go_wp2; go_ret; exact ⟨_, rfl, hO, hB⟩
end
section
open Go

theorem zcQ {q : Nat} (hq : q ≤ 3) : Builtin.zeroCells (Value.int IntKind.i64 0).cells q = ((List.replicate q (0 : Int)).map (Value.int .i64)).toArray := by
 obtain rfl | rfl | rfl | rfl : q = 0 ∨ q = 1 ∨ q = 2 ∨ q = 3 := Oo
 all_goals kernel_rfl
theorem qHT : Tryz.prog.underlying 3 = some (.int .i64) := Tryz.underlying3
theorem qMO {q : Nat} (hq1 : 1 ≤ q) (hq : q ≤ 3) (w : World) (ty : TypeId) (g n cap : Nat) (cur : Array Value) (hg : w.heap[g]? = some (.cells cur 2 (0, 0))) (hroom : n + q ≤ cap) (hfit : n + q ≤ cur.size) :
  (Builtin.append_ #[28, 3] ty #[.slice (some ⟨g, 0, none⟩) n cap, .int .i64 q]).run Tryz.prog w =
   .ok (.slice (some ⟨g, 0, none⟩) (n + q) cap) (w.setRow g (cur.toList.take n ++ (List.replicate q (0 : Int)).map (Value.int .i64) ++ cur.toList.drop (n + q)).toArray) := by
 obtain ⟨i0, hi, hz0, hz1, hz2⟩ := info_parts qCy
 have hst := run_storeCells_at Tryz.prog g n 2 ((List.replicate q (0 : Int)).map (Value.int .i64)) 0 cur w hg (by simp; omega) (ints_oneCell .i64 _)
 simp only [Nat.add_zero, List.length_map, List.length_replicate] at hst
 have hw : IntKind.i64.wrap (q : Int) = (q : Int) := IntWalk.i64_in _ Oo
 have hq0 : ¬ (q : Int) < 0 := Oo
 have hq8 : ¬ (281474976710656 < (q : Int) * 8) := Oo
 have hq9 : ¬ q = 0 := Oo
 have hzc := zcQ hq
 generalize (List.replicate q (0 : Int)).map (Value.int .i64) = news at hst hzc ⊢
 simp [Builtin.append_, run_underlying Tryz.underlying28, run_underlying qHT, sizeOf, typeInfo, hi, hz1, hz2, zeroValue, hz0, asInt, asIntOf, hroom, Addr.add_lit, hst, hzc, hw, hq0, hq8, hq9]
theorem zcMq (k : Nat) : (Builtin.zeroCells (Value.int IntKind.i64 0).cells k).size = k := by simp [size_zeroCells, Value.cells]
theorem qQP {q : Nat} (hq1 : 1 ≤ q) (hq : q ≤ 3) (w : World) (ty : TypeId) (g n cap : Nat) (xs : List Value) (hl : xs.length = n) (hc : ∀ j u, xs[j]? = some u → w.cell? ((⟨g, 0, none⟩ : Addr).add j) = some u) (hg : cap < n + q) (hn : n ≤ 1000) :
  (Builtin.append_ #[28, 3] ty #[.slice (some ⟨g, 0, none⟩) n cap, .int .i64 q]).run Tryz.prog w =
   .ok (.slice (some ⟨w.heap.size, 0, none⟩) (n + q) (grownCap w (n + q) cap 2))
    (w.drew.alloc (.cells (xs.toArray ++ ((List.replicate q (0 : Int)).map (Value.int .i64)).toArray ++ Builtin.zeroCells (Value.int IntKind.i64 0).cells (grownCap w (n + q) cap 2 - (n + q))) 2)) := by
 obtain ⟨i0, hi, hz0, hz1, hz2⟩ := info_parts qCy
 have hold := run_firstCells_some (P := Tryz.prog) w.drew 1 n ⟨g, 0, none⟩ n cap xs Oo hc
 have hw : IntKind.i64.wrap (q : Int) = (q : Int) := IntWalk.i64_in _ Oo
 have hq0 : ¬ (q : Int) < 0 := Oo
 have hq8 : ¬ (281474976710656 < (q : Int) * 8) := Oo
 have hq9 : ¬ q = 0 := Oo
 have hroom : ¬ n + q ≤ cap := Oo
 have h63 : ¬ (9223372036854775807 < ((n : Int) + q)) := Oo
 have hnx : Builtin.nextslicecap (n + q) cap * 8 ≤ 281474976710656 := growslice_fits Oo Oo
 have hzc := zcQ hq
 generalize (List.replicate q (0 : Int)).map (Value.int .i64) = news at hzc ⊢
 have h48 : ¬ (281474976710656 < Builtin.nextslicecap (n + q) cap * 8) := Oo
 simp [Builtin.append_, run_underlying Tryz.underlying28, run_underlying qHT, sizeOf, typeInfo, hi, hz1, hz2, zeroValue, hz0, asInt, asIntOf, hroom, hzc, hw, hq0, hq8, hq9, h63, h48, Question.forced, hold, newRow, grownCap]
 rw [show (xs ++ news).toArray = xs.toArray ++ news.toArray by simp, Array.append_assoc]
theorem qNC {q : Nat} (hq1 : 1 ≤ q) (hq : q ≤ 3) (w : World) (ty : TypeId) (B g n cap : Nat) (xs : Li) (hO : OwI w B (.slice (some ⟨g, 0, none⟩) n cap) xs) (hn : n ≤ 1000) (hB : B ≤ w.heap.size) :
  ∃ g' cap' w', (Builtin.append_ #[28, 3] ty #[.slice (some ⟨g, 0, none⟩) n cap, .int .i64 q]).run Tryz.prog w = .ok (.slice (some ⟨g', 0, none⟩) (n + q) cap') w' ∧
    OwI w' B (.slice (some ⟨g', 0, none⟩) (n + q) cap') (xs ++ List.replicate q 0) ∧ w.grownBy w' (some g) ∧ (g' = g ∨ g' = w.heap.size) := by
 have hlen := hO.len
 have hO' := hO
 obtain ⟨h1, h2⟩ := hO
 have hll : (xs ++ List.replicate q (0 : Int)).length = n + q := by simp; omega
 rcases h2 with ⟨h, _⟩ | ⟨g1, cap1, cur, hv, hg, hh, hnc, hcm, hcs, ht⟩
 ·simp at h
 obtain ⟨rfl, rfl⟩ : g = g1 ∧ cap = cap1 := by
  obtain ⟨e1, _, e3⟩ := Value.slice.inj hv; exact ⟨by simpa using e1, e3⟩
 by_cases hroom : n + q ≤ cap
 ·have hr := qMO hq1 hq w ty g n cap cur hh hroom Oo; refine ⟨_, _, _, hr, ⟨by simp, .inr ⟨g, cap, _, by rw [hll], hg, setRow_heap w g cur _ _ _ hh, Oo, hcm, ?_, ?_⟩⟩, ⟨rfl, rfl, rfl, by simp, fun k _ hk => setRow_other w g k _ (fun e => hk (by rw [e]))⟩, .inl rfl⟩
  ·simp only [List.size_toArray, List.length_append, List.length_take, List.length_drop, Array.length_toList, List.length_map, List.length_replicate]; omega
  ·have e : cur.toList.take n = xs.map (Value.int .i64) := by
    rw [← hlen, Nat.mul_one] at ht; exact ht
   simp only [e, List.map_append, List.append_assoc]; rw [show (xs ++ List.replicate q (0 : Int)).length * 1 = (xs.map (Value.int .i64) ++ (List.replicate q (0 : Int)).map (Value.int .i64)).length by simp, ← List.append_assoc]; exact List.take_left
 ·have hc : ∀ j u, (xs.map (Value.int .i64))[j]? = some u → w.cell? ((⟨g, 0, none⟩ : Addr).add j) = some u := World.ownsRow.cells hO' (g := g) rfl; have hr := qQP hq1 hq w ty g n cap (xs.map (Value.int .i64)) (by simp; omega) hc Oo hn; have hge := grownCap_ge w (n + q) cap 2; refine ⟨_, _, _, hr, ⟨by simp, .inr ⟨w.heap.size, _, _, by rw [hll], hB, heap_alloc_new w.drew _, Oo, grownCap_le_maxLen w _ _ _ (by unfold maxLen; omega), ?_, ?_⟩⟩, ⟨rfl, rfl, rfl, by simp, fun k hk _ => heap_alloc_old w.drew _ hk⟩, .inr rfl⟩
  ·simp [zcMq]; omega
  ·simp only [Array.toList_append, List.map_append]; rw [show (xs ++ List.replicate q (0 : Int)).length * 1 = (xs.map (Value.int .i64) ++ (List.replicate q (0 : Int)).map (Value.int .i64)).length by simp]; exact List.take_left
theorem apZq {ops : Array Oper} {rest : List Oper} {o : Oper} {a : Act} {Q : Exit → Act → World → Prop} {q : Nat} (hq1 : 1 ≤ q) (hq : q ≤ 3) (w : World) (hg : o.guard = none) (s x : Operand) (hop : o.op = .call { callee := .builtin .append, args := #[s, x], argTypes := #[28, 3] })
  (B g n cap : Nat) (xs : Li) (hs : a.eval s = .slice (some ⟨g, 0, none⟩) n cap) (hx : a.eval x = .int .i64 q) (hO : OwI w B (.slice (some ⟨g, 0, none⟩) n cap) xs) (hn : n ≤ 1000) (hB : B ≤ w.heap.size)
  (hK : ∀ g' cap' w', OwI w' B (.slice (some ⟨g', 0, none⟩) (n + q) cap') (xs ++ List.replicate q 0) → w.grownBy w' (some g) → (g' = g ∨ g' = w.heap.size) → wpList Tryz.prog ops Q rest (a.put o.dst (.slice (some ⟨g', 0, none⟩) (n + q) cap')) w') :
  wpList Tryz.prog ops Q (o :: rest) a w :=
 wpList_plain hg fun K hK' => by
  obtain ⟨g', cap', w', hr, h1, h2, h3⟩ := qNC hq1 hq w o.type B g n cap xs hO hn hB; unfold Oper.wp execOp; simp only [hop, resolve, invoke, builtin, Sem.run_bind, Sem.run_pure, Result.andThen_ok, List.map_toArray, List.map_cons, List.map_nil, hs, hx, hr]; exact hK' _ _ (hK g' cap' w' h1 h2 h3)
end
section
open Go

theorem qMa (w : World) (ty : TypeId) (g n cap : Nat) (cur : Array Value) (hg : w.heap[g]? = some (.cells cur 2 (0, 0))) (hroom : n ≤ cap) :
  (Builtin.append_ #[28, 3] ty #[.slice (some ⟨g, 0, none⟩) n cap, .int .i64 0]).run Tryz.prog w = .ok (.slice (some ⟨g, 0, none⟩) n cap) w := by
 obtain ⟨i0, hi, hz0, hz1, hz2⟩ := info_parts qCy
 have hw : IntKind.i64.wrap 0 = 0 := by decide
 have hzc : Builtin.zeroCells (Value.int IntKind.i64 0).cells 0 = #[] := kr
 simp [Builtin.append_, run_underlying Tryz.underlying28, run_underlying qHT, sizeOf, typeInfo, hi, hz1, hz2, zeroValue, hz0, asInt, asIntOf, hroom, Addr.add_lit, hzc, hw, storeCells]
theorem qN5 (w : World) (g : Option Nat) : w.grownBy w g := ⟨rfl, rfl, rfl, Nat.le_refl _, fun _ _ _ => rfl⟩
theorem apZ3 {ops : Array Oper} {rest : List Oper} {o : Oper} {a : Act} {Q : Exit → Act → World → Prop} {q : Nat} (hq : q ≤ 3) (w : World) (hg : o.guard = none) (s x : Operand) (hop : o.op = .call { callee := .builtin .append, args := #[s, x], argTypes := #[28, 3] })
  (B g n cap : Nat) (xs : Li) (hs : a.eval s = .slice (some ⟨g, 0, none⟩) n cap) (hx : a.eval x = .int .i64 q) (hO : OwI w B (.slice (some ⟨g, 0, none⟩) n cap) xs) (hn : n ≤ 1000) (hB : B ≤ w.heap.size)
  (hK : ∀ g' cap' w', OwI w' B (.slice (some ⟨g', 0, none⟩) (n + q) cap') (xs ++ List.replicate q 0) → w.grownBy w' (some g) → wpList Tryz.prog ops Q rest (a.put o.dst (.slice (some ⟨g', 0, none⟩) (n + q) cap')) w') :
  wpList Tryz.prog ops Q (o :: rest) a w := by
 by_cases h1 : 1 ≤ q
 ·exact apZq h1 hq w hg s x hop B g n cap xs hs hx hO hn hB fun g' cap' w' a b _ => hK g' cap' w' a b
 ·obtain rfl : q = 0 := Oo; refine wpList_plain hg fun K hK' => ?_
  obtain ⟨h1, h2⟩ := id hO; rcases h2 with ⟨h, _⟩ | ⟨g1, cap1, cur, hv, hg', hh, hnc, hcm, hcs, ht⟩
  ·simp at h
  obtain ⟨e1, e2, e3⟩ := Value.slice.inj hv; obtain rfl : g = g1 := by simpa using e1
  have hr := qMa w o.type g n cap cur hh Oo; unfold Oper.wp execOp; simp only [hop, resolve, invoke, builtin, Sem.run_bind, Sem.run_pure, Result.andThen_ok, List.map_toArray, List.map_cons, List.map_nil, hs, hx, Int.natCast_zero, hr]; exact hK' _ _ (hK g cap w (by simpa using hO) (qN5 w _))

theorem qPw (w : World) (ty : TypeId) (g n cap c : Nat) (ox : Option Addr) (hroom : n ≤ cap) :
  (Builtin.append_ #[28, 28] ty #[.slice (some ⟨g, 0, none⟩) n cap, .slice ox 0 c]).run Tryz.prog w = .ok (.slice (some ⟨g, 0, none⟩) n cap) w := by
 obtain ⟨i0, hi, hz0, hz1, hz2⟩ := info_parts qCy
 cases ox
 all_goals simp [Builtin.append_, run_underlying Tryz.underlying28, sizeOf, typeInfo, hi, hz1, hz2, Builtin.lenOf, Builtin.firstCells, loadCells, loadCellsFrom, hroom, Addr.add_lit, storeCells]
theorem apN {ops : Array Oper} {rest : List Oper} {o : Oper} {a : Act} {Q : Exit → Act → World → Prop} (w : World) (hg : o.guard = none) (s x : Operand) (hop : o.op = .call { callee := .builtin .append, args := #[s, x], argTypes := #[28, 28] })
  (g n cap c : Nat) (ox : Option Addr) (hs : a.eval s = .slice (some ⟨g, 0, none⟩) n cap) (hx : a.eval x = .slice ox 0 c) (hroom : n ≤ cap)
  (hK : wpList Tryz.prog ops Q rest (a.put o.dst (.slice (some ⟨g, 0, none⟩) n cap)) w) :
  wpList Tryz.prog ops Q (o :: rest) a w := by
 refine wpList_plain hg fun K hK' => ?_
 have hr := qPw w o.type g n cap c ox hroom
 unfold Oper.wp execOp
 simp only [hop, resolve, invoke, builtin, Sem.run_bind, Sem.run_pure, Result.andThen_ok, List.map_toArray, List.map_cons, List.map_nil, hs, hx, hr]
 exact hK' _ _ hK

theorem qMT (ox : Option Addr) (c : Nat) (w : World) :
  Calls Tryz.prog 189 #[.slice ox 0 c] w fun e w' => ∃ g c', e = .returned (.slice (some ⟨g, 0, none⟩) 0 c') ∧ OwI w' w.heap.size (.slice (some ⟨g, 0, none⟩) 0 c') [] ∧ Below w.heap.size w w' := by
 go_enter Tryz.func189, Tryz.ntmps189
 go_wp2_with (at_builtin; refine apN _ rfl _ _ rfl w.heap.size 0 0 c ox rfl rfl (nl _) ?_)
 go_ret
 exact ⟨w.heap.size, 0, rfl, OwI.lit w [] (Nat.zero_le _), bZ⟩
theorem qMw (v : Value) (ls : Li) (w : World) (hr : RdI w v ls) (hn : ls.length ≤ 1048576) :
  Calls Tryz.prog 189 #[v] w fun e w' => ∃ g c', e = .returned (.slice (some ⟨g, 0, none⟩) ls.length c') ∧ OwI w' w.heap.size (.slice (some ⟨g, 0, none⟩) ls.length c') ls ∧ Below w.heap.size w w' := by
 by_cases h1 : 1 ≤ ls.length
 ·obtain ⟨o, c, rfl, hmx, -⟩ := id hr; obtain ⟨bx, fx, e, -⟩ := hr.cells h1; subst e; refine (qLz _ _ _ ls _ hr hn).mono ?_; rintro e w1 ⟨vc, rfl, hO, hB⟩; obtain ⟨ov, cv, rfl⟩ := hO.shape; obtain ⟨gv, rfl, -, -⟩ := hO.row h1; exact ⟨gv, cv, rfl, hO, hB⟩
 ·obtain rfl : ls = [] := List.eq_nil_of_length_eq_zero Oo; obtain ⟨o, c, rfl, -, -⟩ := hr; exact qMT o c w

theorem qMo (ox : Option Addr) (c : Nat) (w : World) :
  Calls Tryz.prog 139 #[.slice ox 0 c] w fun e w' => ∃ g c', e = .returned (.slice (some ⟨g, 0, none⟩) 0 c') ∧ OwI w' w.heap.size (.slice (some ⟨g, 0, none⟩) 0 c') [] ∧ Below w.heap.size w w' := by
 go_enter Tryz.func139, Tryz.ntmps139
 go_wp2_with (at_builtin; refine apN _ rfl _ _ rfl w.heap.size 0 0 c ox rfl rfl (nl _) ?_)
 go_ret
 exact ⟨w.heap.size, 0, rfl, OwI.lit w [] (Nat.zero_le _), bZ⟩
theorem qIA (v : Value) (ls : Li) (w : World) (hr : RdI w v ls) (hn : ls.length ≤ 1048576) :
  Calls Tryz.prog 139 #[v] w fun e w' => ∃ g c', e = .returned (.slice (some ⟨g, 0, none⟩) ls.length c') ∧ OwI w' w.heap.size (.slice (some ⟨g, 0, none⟩) ls.length c') ls ∧ Below w.heap.size w w' := by
 by_cases h1 : 1 ≤ ls.length
 ·obtain ⟨o, c, rfl, hmx, -⟩ := id hr; obtain ⟨bx, fx, e, -⟩ := hr.cells h1; subst e; refine (qHx _ _ _ ls _ hr hn).mono ?_; rintro e w1 ⟨vc, rfl, hO, hB⟩; obtain ⟨ov, cv, rfl⟩ := hO.shape; obtain ⟨gv, rfl, -, -⟩ := hO.row h1; exact ⟨gv, cv, rfl, hO, hB⟩
 ·obtain rfl : ls = [] := List.eq_nil_of_length_eq_zero Oo; obtain ⟨o, c, rfl, -, -⟩ := hr; exact qMo o c w

theorem qOy (v : Value) (ls : Li) (w : World) (hv : RdI w v ls) (hl : ls.length ≤ 3) :
  Calls Tryz.prog 143 #[v] w fun e w' => ∃ v', e = .returned v' ∧ OwI w' w.heap.size v' (ls ++ List.replicate (3 - ls.length) 0) ∧ Below w.heap.size w w' := by
 obtain ⟨o, c, rfl, hmx, -⟩ := id hv
 have e1 : IntKind.i64.wrap (3 - (ls.length : Int)) = ((3 - ls.length : Nat) : Int) := by rw [IntWalk.i64_in _ Oo]; omega
 go_enter Tryz.func143, Tryz.ntmps143
 go_wp2_with fail
 refine (qMw _ ls _ hv Oo).mono ?_
 rintro e w1 ⟨gv, cv, rfl, hO, hB⟩
 go_wp2_with (at_builtin; refine apZ3 (q := 3 - ls.length) Oo w1 rfl _ _ rfl w.heap.size gv ls.length cv ls rfl rfl hO Oo hB.size ?_; intro g' cap' w' how hgr; rw [show ls.length + (3 - ls.length) = 3 by omega] at how ⊢)
 go_ret
 exact ⟨_, rfl, how, hB.trans (Below.grown (Below.refl _ _) hgr hB.size (fun k hk => (hO.lt k hk).1))⟩
end
section

theorem qEG (m a n : Int) (k : Nat) (w : World) (hn : n = k) (hm : 1 ≤ m) (hm' : m ≤ 3000000000) (ha : 0 ≤ a) (ha' : a ≤ 9000000000000000000) (hk : k ≤ 1000000000000) :
  Calls Tryz.prog 200 #[.int .i64 m, .int .i64 a, .int .i64 n] w fun e w' => e = .returned (.int .i64 (a ^ k % m)) ∧ w = w' := by
 subst hn
 have hm1 : (1 : Int) % m < m := Int.emod_lt_of_pos _ Oo
 have hm0 : 0 ≤ (1 : Int) % m := Int.emod_nonneg _ Oo
 have ham := qA6 (a := a) (show 0 < m by omega)
 have m1 : ¬ m = 0 := Oo
 have m0 : (m == 0) = false := by simp; omega
 have t1 : (1 : Int).tmod m = 1 % m := Int.tmod_eq_emod_of_nonneg Oo
 have HS := dd (show (1 % m) * (a % m) ^ k % m = a ^ k % m by
  rw [Int.mul_emod, qEE, Int.emod_emod_of_dvd _ (Int.dvd_refl m), ← Int.mul_emod, Int.one_mul])
 go_enter Tryz.func200, Tryz.ntmps200
 go_wp2_with (go_at_call 171; refine (qEg _ _ _ Oo Oo Oo Oo).mono ?_; rintro e w' ⟨rfl, rfl⟩)
 go_loop [1, 2, 7] (fun x i out => ∃ (y z : Int) (j : Nat), x = .int .i64 y ∧ i = .int .i64 j ∧ out = .int .i64 z ∧ 0 ≤ y ∧ y < m ∧ 0 ≤ z ∧ z < m ∧ j ≤ 1000000000000 ∧ Hid (z * y ^ j % m = a ^ k % m)) (fun _ i _ => (intOf i).toNat)
 case atStart => exact ⟨_, 1 % m, k, rfl, rfl, rfl, ham.1, ham.2, hm0, hm1, hk, HS⟩
 case round =>
  obtain ⟨y, z, j, rfl, rfl, rfl, hy, hy', hz, hz', hj, HE⟩ := hrel; have hyy := qA6 (a := y * y) (show 0 < m by omega); have hzy := qA6 (a := z * y) (show 0 < m by omega); obtain ⟨q1, q2⟩ := qCY hz hy hz' hy' hm'; obtain ⟨q3, q4⟩ := qCY hy hy hy' hy' hm'
  by_cases h0 : 0 < j
  ·rcases Nat.mod_two_eq_zero_or_one j with hp | hp
   ·have hb : (((j : Int) % 2) == 1) = false := by simp; omega
    have Hp := dd hp; clear hp; go_wp2; exact ⟨⟨_, _, j / 2, rfl, by go_num, rfl, hyy.1, hyy.2, hz, hz', Oo, dd (by rw [qKg Hp.out]; exact HE.out)⟩, by simp [intOf]; omega⟩
   ·have hb : (((j : Int) % 2) == 1) = true := by simp; omega
    have Hp := dd hp; clear hp; go_wp2; exact ⟨⟨_, _, j / 2, rfl, by go_num, rfl, hyy.1, hyy.2, hzy.1, hzy.2, Oo, dd (by rw [qJu Hp.out]; exact HE.out)⟩, by simp [intOf]; omega⟩
  ·obtain rfl : j = 0 := Oo; have he := HE.out; rw [Int.pow_zero, Int.mul_one, Int.emod_eq_of_lt hz hz'] at he; have He := dd he; clear he; go_wp2; go_ret; exact ⟨by rw [← He.out]; rfl, rfl⟩
def qA4 (p n : Nat) : Nat := if p * p * p ≤ n then 3 else if p * p ≤ n then 2 else if p ≤ n then 1 else 0
theorem qBq {p n : Nat} (hp : P4 p) (hn : n ≤ 10) {j : Nat} (hj : j ≤ qA4 p n) : p ^ j ≤ 10 ∧ j ≤ 3 ∧ (p ^ (j + 1) ≤ n ↔ j < qA4 p n) ∧ p ^ (j + 1) ≤ 100 := by
 revert hj
 have hnn : n = 0 ∨ n = 1 ∨ n = 2 ∨ n = 3 ∨ n = 4 ∨ n = 5 ∨ n = 6 ∨ n = 7 ∨ n = 8 ∨ n = 9 ∨ n = 10 := Oo
 rcases hp with rfl | rfl | rfl | rfl <;>
  rcases hnn with rfl | rfl | rfl | rfl | rfl | rfl | rfl | rfl | rfl | rfl | rfl <;> (revert j; decide)
theorem qLV (p n : Nat) (w : World) (hp : P4 p) (hn : n ≤ 10) :
  Calls Tryz.prog 138 #[.int .i64 p, .int .i64 n] w fun e w' => e = .returned (.tuple #[.int .i64 (qA4 p n), .int .i64 ((p ^ qA4 p n : Nat) : Int)]) ∧ w = w' := by
 have hp2 := hp.pos
 go_enter Tryz.func138, Tryz.ntmps138
 go_wp2
 go_loop [6, 7] (fun k q => ∃ j : Nat, j ≤ qA4 p n ∧ k = .int .i64 j ∧ q = .int .i64 ((p ^ j : Nat) : Int)) (fun k _ => 4 - (intOf k).toNat)
 case atStart => exact ⟨0, Nat.zero_le _, rfl, rfl⟩
 case round =>
  obtain ⟨j, hj, rfl, rfl⟩ := hrel; obtain ⟨k1, k2, k3, k4⟩ := qBq hp hn hj; have e0 : ((p ^ j : Nat) : Int) * (p : Int) = ((p ^ (j + 1) : Nat) : Int) := by rw [Nat.pow_succ]; simp
  have e1 : IntKind.i64.wrap ((p ^ j : Nat) * (p : Int)) = ((p ^ (j + 1) : Nat) : Int) := by rw [e0]; exact IntWalk.i64_in _ Oo
  have HN := dd (show j + 1 ≤ 4 by omega); generalize hA : p ^ j = A at k1 e0 e1 ⊢; generalize hB : p ^ (j + 1) = B at k3 k4 e0 e1; have HB := dd hB; have HA := dd hA; clear hA hB e0
  by_cases hb : B ≤ n
  ·have hj1 := k3.1 hb; have hb' : (B : Int) ≤ (n : Int) := Oo; go_wp2; exact ⟨⟨j + 1, hj1, by go_num, by rw [HB.out]⟩, by simp [intOf]; have := HN.out; omega⟩
  ·have hj1 : j = qA4 p n := by have := fun h => hb (k3.2 h); omega
   have hb' : ¬ (B : Int) ≤ (n : Int) := Oo; have HJ := dd hj1; clear k3 hj1; go_wp2; exact bodyPost_ret (v := .tuple #[.int .i64 j, .int .i64 A]) (by simp [results, Tryz.results138, go_sem]) rfl ⟨by rw [← HJ.out, ← HA.out]; simp, rfl⟩
end
section

theorem qPz {a b m : Int} (ha : 0 ≤ a ∧ a < m) (hb : 0 ≤ b ∧ b < m) (hm : m ≤ 1000000) : 0 ≤ a * b ∧ a * b ≤ 1000000000000 := by
 refine ⟨Int.mul_nonneg ha.1 hb.1, ?_⟩
 have : a * b ≤ 1000000 * 1000000 := Int.mul_le_mul Oo Oo hb.1 Oo
 omega
theorem qNJ (m S a b c : Int) (e f : Nat) : (S % m + a ^ e % m * (b % m) % m * (c ^ f % m)) % m = (S + a ^ e * b * c ^ f) % m := by
 refine qCU (qAW _ _) ?_
 refine qAd ?_ (qAW _ _)
 rw [qAW]
 exact qAd (qAW _ _) (qAW _ _)

theorem qOs (p : Nat) (m : Int) (v : Value) (ls : Li) (w : World) (hv : RdI w v ls) (hp : P4 p) (hl : ls.length ≤ 3) (hm : 2 ≤ m) (hm' : m ≤ 1000000) (hx : ∀ x ∈ ls, 0 ≤ x ∧ x ≤ 10000) :
  Calls Tryz.prog 168 #[.int .i64 p, .int .i64 m, v] w fun e w' => ∃ v', e = .returned v' ∧ OwI w' w.heap.size v' (mk (ls.length + 1) (fun k => num p (at0 ls) k % m)) ∧ Below w.heap.size w w' := by
 obtain ⟨o, c, rfl, hmx, -⟩ := id hv
 clear hmx
 have hp2 := hp.pos
 have m0 : (m == 0) = false := by simp; omega
 have m1 : ¬ m = 0 := Oo
 have t1 : (1 : Int).tmod m = 1 := by rw [Int.tmod_eq_emod_of_nonneg Oo]; exact Int.emod_eq_of_lt Oo Oo
 go_enter Tryz.func168, Tryz.ntmps168
 go_wp2_with fail
 have O1 := OwI.lit w [1] (by decide)
 have B1 : Below w.heap.size w (w.alloc (.cells #[.int .i64 1] 2)) := bZ
 simp at O1
 have HM1 : mk 1 (fun k => num p (at0 ls) k % m) = [1] := by
  show [num p (at0 ls) 0 % m] = _
  rw [qCu, Int.emod_eq_of_lt Oo Oo]
 rw [← HM1] at O1
 clear HM1
 generalize w.alloc (.cells #[.int .i64 1] 2) = w1 at O1 B1 ⊢
 go_loopw [7, 8, 9, 10, 11, 12] (fun so sk _ _ _ _ wr => ∃ k : Nat, 1 ≤ k ∧ k ≤ ls.length + 1 ∧ sk = .int .i64 k ∧ OwI wr w.heap.size so (mk k (fun k => num p (at0 ls) k % m)) ∧ Below w.heap.size w wr) (fun _ i _ _ _ _ _ => ls.length + 1 - (intOf i).toNat)
 case atStart => exact ⟨1, Nat.le_refl _, Oo, rfl, O1, B1⟩
 case round =>
  clear O1 B1; obtain ⟨k, hk1, hk, rfl, hO, hB⟩ := hrel; obtain ⟨ov, cv, rfl⟩ := hO.shapeN (n := k) (qA8 _ _); have hBs := hB.size
  by_cases hlt : k ≤ ls.length
  ·have i1 : (k : Int) ≤ (ls.length : Int) := Oo; obtain ⟨bx, fx, rfl, -⟩ := hv.cells Oo; obtain ⟨gv, rfl, -, -⟩ := hO.row Oo; have hvr := hv.below hB; have HS := dd (show mk (k + 1) (fun k => num p (at0 ls) k % m) = mk k (fun k => num p (at0 ls) k % m) ++ [num p (at0 ls) k % m] from qCN _ _)
   have HN := dd (show num p (at0 ls) k = qA3 k (qCS p (at0 ls) (k - 1)) by
    obtain ⟨j, rfl⟩ : ∃ j, k = j + 1 := ⟨k - 1, Oo⟩; exact qKM p _ j)
   go_wp2_with fail
   go_loopw [9, 10, 11, 12] (fun st sp si _ wz => ∃ (i d : Nat), i ≤ k ∧ si = .int .i64 i ∧ sp = .int .i64 ((p ^ i : Nat) : Int) ∧ st = .int .i64 (qA3 i (qCS p (at0 ls) (k - 1)) % m) ∧ wz = wr.drewN d) (fun _ _ i _ _ => k - (intOf i).toNat)
   case atStart => exact ⟨0, 0, Nat.zero_le _, rfl, rfl, by show Value.int _ 0 = Value.int _ (0 % m); rw [Int.zero_emod], rfl⟩
   case round =>
    obtain ⟨i, d, hi, rfl, rfl, rfl, rfl⟩ := hrel
    by_cases hik : i < k
    ·have j0 : (0 : Int) ≤ (i : Int) := Oo; have j1 : (i : Int) < (k : Int) := Oo; have e1 : IntKind.i64.wrap ((k : Int) - (i : Int)) = (k : Int) - (i : Int) := IntWalk.i64_in _ Oo; have e2 : IntKind.i64.wrap ((k : Int) - (i : Int) - 1) = ((k - 1 - i : Nat) : Int) := by rw [IntWalk.i64_in _ Oo]; omega
     have e3 : IntKind.i64.wrap ((k : Int) - 1) = ((k - 1 : Nat) : Int) := by rw [IntWalk.i64_in _ Oo]; omega
     have e4 : IntKind.i64.wrap (((k - 1 : Nat) : Int) - (i : Int)) = ((k - 1 - i : Nat) : Int) := by rw [IntWalk.i64_in _ Oo]; omega
     have c1 := hO.cell (k := i) (qA5 (by rw [qA8]; omega)); rw [qBN hik] at c1; have c2 := hvr.cell0 (qA5 (show k - 1 - i < ls.length by omega)); have rv := qLv hx (k - 1 - i); have HA := dd (show (qA3 i (qCS p (at0 ls) (k - 1)) % m + (p : Int) ^ (k - 1 - i) % m * (num p (at0 ls) i % m) % m * (at0 ls (k - 1 - i) ^ (p ^ i) % m)) % m = qA3 (i + 1) (qCS p (at0 ls) (k - 1)) % m from qNJ _ _ _ _ _ _ _); have rS := qA6 (a := qA3 i (qCS p (at0 ls) (k - 1))) (show 0 < m by omega); generalize qA3 i (qCS p (at0 ls) (k - 1)) % m = S at HA rS ⊢; have rN := qA6 (a := num p (at0 ls) i) (show 0 < m by omega); generalize num p (at0 ls) i % m = N at c1 HA rN; generalize at0 ls (k - 1 - i) = x at c2 HA rv; have hz9 : k - 1 - i ≤ 3 := Oo; have hzl : ((k - 1 - i : Nat) : Int) < (ls.length : Int) := Oo; have hi3 : i ≤ 2 := Oo
     have hpi : p ^ i ≤ 49 := by
      rcases hp with rfl | rfl | rfl | rfl <;> (obtain rfl | rfl | rfl : i = 0 ∨ i = 1 ∨ i = 2 := Oo) <;> decide
     have e6 : ((p ^ i : Nat) : Int) * (p : Int) = ((p ^ (i + 1) : Nat) : Int) := by rw [Nat.pow_succ]; simp
     have hpj : p ^ (i + 1) ≤ 49 * 7 := by rw [Nat.pow_succ]; exact Nat.mul_le_mul hpi hp2.2
     have e5 : IntKind.i64.wrap (((p ^ i : Nat) : Int) * (p : Int)) = ((p ^ (i + 1) : Nat) : Int) := by rw [e6]; exact IntWalk.i64_in _ Oo
     clear e6; generalize hQ : p ^ (i + 1) = Q at e5 hpj; have HP := dd hQ; clear hQ; generalize k - 1 - i = z at e2 e4 c2 HA hz9 hzl; generalize p ^ i = q at hpi e5 HA ⊢; have r1 := qA6 (a := x ^ q) (show 0 < m by omega); have r3 := qA6 (a := (p : Int) ^ z) (show 0 < m by omega); have r4 := qCY (m := m) r3.1 rN.1 r3.2 rN.2 Oo; have r5 := qA6 (a := (p : Int) ^ z % m * N) (show 0 < m by omega); have r6 := qPz (a := (p : Int) ^ z % m * N % m) (b := x ^ q % m) r5 r1 hm'; have r7 := qA6 (a := S + (p : Int) ^ z % m * N % m * (x ^ q % m)) (show 0 < m by omega); have e7 : IntKind.i64.wrap ((p : Int) ^ z % m * N) = (p : Int) ^ z % m * N := IntWalk.i64_in _ Oo; have e8 : IntKind.i64.wrap ((p : Int) ^ z % m * N % m * (x ^ q % m)) = (p : Int) ^ z % m * N % m * (x ^ q % m) := IntWalk.i64_in _ Oo; have e9 : IntKind.i64.wrap (S + (p : Int) ^ z % m * N % m * (x ^ q % m)) = S + (p : Int) ^ z % m * N % m * (x ^ q % m) := IntWalk.i64_in _ Oo; have t3 : ((p : Int) ^ z % m * N).tmod m = (p : Int) ^ z % m * N % m := Int.tmod_eq_emod_of_nonneg Oo; have t4 : (S + (p : Int) ^ z % m * N % m * (x ^ q % m)).tmod m = (S + (p : Int) ^ z % m * N % m * (x ^ q % m)) % m := Int.tmod_eq_emod_of_nonneg Oo
     go_wp2_with fail
     go_quiet ((go_at_call 200; (first | exact qDM (rfl) (qEG m p z z _ rfl Oo Oo Oo Oo Oo) | exact qDJ (rfl) (qEG m p z z _ rfl Oo Oo Oo Oo Oo) | exact qDN (rfl) (qEG m p z z _ rfl Oo Oo Oo Oo Oo) | exact qDL (rfl) (qEG m p z z _ rfl Oo Oo Oo Oo Oo))))
     go_wp2_with fail
     refine (qEG m x q q _ rfl Oo Oo Oo Oo Oo).mono ?_; rintro e w2 ⟨rfl, rfl⟩
     go_wp2_with fail
     rw [HA.out]; exact ⟨⟨i + 1, _, Oo, by go_num, by rw [HP.out], rfl, by first | rfl | (simp [World.drewN_drewN]; done)⟩, by simp [intOf]; omega⟩
    ·obtain rfl : i = k := Oo; rw [← HN.out]; have hO5 := hO.below (w' := wr.drewN d) bZ ; have hB5 : Below w.heap.size w (wr.drewN d) := (bY1 hB); generalize wr.drewN d = wq at hO5 hB5 ⊢
     go_wp2_with (at_builtin; refine apI wq rfl _ _ rfl w.heap.size (.slice (some ⟨gv, 0, none⟩) i cv) _ rfl hO5 _ rfl (by rw [qA8]; omega) (by have := hB5.size; omega) ?_; intro v' w4 hO3 hgr hb3 hlt3; clear hgr)
     rw [← HS.out] at hO3; exact ⟨⟨i + 1, Oo, Oo, by go_num, hO3, hB5.trans hb3⟩, by simp [intOf]; omega⟩
  ·obtain rfl : k = ls.length + 1 := Oo; go_wp2; go_ret; exact ⟨_, rfl, hO, hB⟩
end
section

section
variable {ops : Array Oper} {rest : List Oper} {o : Oper} {a : Act} {Q : Exit → Act → World → Prop}
end
def Lk (v : Value) (w : World) (F : World → Prop) : Prop := ∃ lo hi, Rds lo hi w F ∧ ∀ b, v.ownBlock = some b → b < lo ∨ hi ≤ b
theorem Lk.now {v : Value} {w : World} {F : World → Prop} (h : Lk v w F) : F w := by obtain ⟨lo, hi, h, -⟩ := h; exact h.now
theorem Lk.grown {v v' : Value} {w w' : World} {F : World → Prop} (h : Lk v w F) (hg : w.grownBy w' v.ownBlock) (hv : ∀ b, v'.ownBlock = some b → v.ownBlock = some b ∨ w.heap.size ≤ b) : Lk v' w' F := by
 obtain ⟨lo, hi, h, h1⟩ := h
 refine ⟨lo, hi, h.grown hg (fun b hb => h1 b hb), fun b hb => ?_⟩
 rcases hv b hb with e | e
 ·exact h1 b e
 ·have := h.1; exact .inr Oo
theorem Lk.below {v : Value} {w w' : World} {F : World → Prop} (h : Lk v w F) (hb : Below w.heap.size w w') : Lk v w' F := by
 obtain ⟨lo, hi, h, h1⟩ := h
 exact ⟨lo, hi, h.below hb, h1⟩
theorem Lk.of {v : Value} {w : World} {F : World → Prop} {lo hi : Nat} (h : Rds lo hi w F) (hv : ∀ b, v.ownBlock = some b → b < lo ∨ hi ≤ b) : Lk v w F := ⟨lo, hi, h, hv⟩
theorem RdT.rds {w : World} {v : Value} {xss : Tb} (h : RdT w v xss) : Rds 0 w.heap.size w (fun u => RdT u v xss) := by
 obtain ⟨us, hu⟩ := Lives.rdT h
 exact ⟨Nat.le_refl _, fun u hk => (hu.stay w u hk hu.now).rd⟩
end
end Go.Proofs.YtfpphfjlpgefaaaGreat
