/- Lemmas. -/
import Derived.Test.YtfpphfjlpgefaaaGreatqG22
import Derived.Test.YtfpphfjlpgefaaaGreatqM34
import Derived.Laws.AppendOwn
import Derived.Test.YtfpphfjlpgefaaaGreatqM32
import Derived.Test.YtfpphfjlpgefaaaGreatqG5
import Derived.Test.YtfpphfjlpgefaaaGreatqG1
set_option maxHeartbeats 1000000
set_option maxRecDepth 100000
set_option linter.unusedSimpArgs false
set_option linter.unusedVariables false
namespace Go.Proofs.YtfpphfjlpgefaaaGreat
open Go.RowKit
section

theorem qGE {p q : Nat} (hp : P4 p) (hq : q ≤ 10000) : qAS p q = true ↔ ∃ k, p ^ k = q := by
 unfold qAS
 rw [List.any_eq_true]
 constructor
 ·rintro ⟨k, -, h⟩; exact ⟨k, by simpa using h⟩
 ·rintro ⟨k, h⟩; refine ⟨k, List.mem_range.2 ?_, by simpa using h⟩
  apply Decidable.byContradiction
  intro hk; have h1 : p ^ 14 ≤ p ^ k := Nat.pow_le_pow_right (by have := hp.pos; omega) Oo; have h2 : 2 ^ 14 ≤ p ^ 14 := Nat.pow_le_pow_left hp.pos.1 14; omega
theorem qLe {p q : Nat} (hp : P4 p) (hq1 : 1 ≤ q) (hq : q ≤ 10000) (h : q % p = 0) : qAS p (q / p) = qAS p q := by
 have hp2 := hp.pos
 have hd : q / p ≤ q := Nat.div_le_self _ _
 have hqe : p * (q / p) = q := by have := Nat.div_add_mod q p; omega
 apply Bool.eq_iff_iff.2
 rw [qGE hp Oo, qGE hp hq]
 constructor
 ·rintro ⟨k, h1⟩; exact ⟨k + 1, by rw [Nat.pow_succ, h1, Nat.mul_comm]; exact hqe⟩
 ·rintro ⟨k, h1⟩; cases k with
  | zero =>
    exfalso
    rw [Nat.pow_zero] at h1; rw [← h1, Nat.mod_eq_of_lt Oo] at h; omega
  | succ k =>
    refine ⟨k, ?_⟩; rw [Nat.pow_succ, ← hqe, Nat.mul_comm] at h1; exact Nat.eq_of_mul_eq_mul_left Oo h1
theorem qIr {p q : Nat} (hp : P4 p) (hq : q ≤ 10000) (h : ¬ q % p = 0) : qAS p q = decide (q = 1) := by
 apply Bool.eq_iff_iff.2
 rw [qGE hp hq, decide_eq_true_iff]
 constructor
 ·rintro ⟨k, h1⟩; cases k with
  | zero => exact h1.symm
  | succ k =>
    exfalso
    apply h
    rw [← h1, Nat.pow_succ]; exact Nat.mul_mod_left _ _
 ·intro h1; exact ⟨0, h1.symm⟩
theorem qKI {p m : Nat} (hp : P4 p) (h : qAS p m = true) : ∃ e, m = p ^ e := by
 unfold qAS at h
 rw [List.any_eq_true] at h
 obtain ⟨k, -, h⟩ := h
 exact ⟨k, (by simpa using h : p ^ k = m).symm⟩

theorem qIR (p m : Nat) (w : World) (hp : P4 p) (h1 : 1 ≤ m) (hm : m ≤ 10000) :
  Calls Tryz.prog 105 #[.int .i64 m, .int .i64 p] w fun e w' => e = .returned (.bool (qAS p m)) ∧ w = w' := by
 have hp2 := hp.pos
 go_enter Tryz.func105, Tryz.ntmps105
 go_wp2
 go_loop [0] (fun x => ∃ q : Nat, x = .int .i64 q ∧ 1 ≤ q ∧ q ≤ 10000 ∧ Hid (qAS p q = qAS p m)) (fun x => (intOf x).toNat)
 case atStart => exact ⟨m, rfl, h1, hm, dd rfl⟩
 case round =>
  obtain ⟨q, rfl, q1, q2, HE⟩ := hrel; have hpi : (1 : Int) ≤ (p : Int) := Oo
  have t1 : ((q : Int)).tmod (p : Int) = ((q % p : Nat) : Int) := by
   rw [Int.tmod_eq_emod_of_nonneg Oo]; simp
  have t2 : ((q : Int)).tdiv (p : Int) = ((q / p : Nat) : Int) := by
   rw [Int.tdiv_eq_ediv_of_nonneg Oo]; simp
  have t3 : (q : Int) % (p : Int) = ((q % p : Nat) : Int) := by simp
  have t4 : (q : Int) / (p : Int) = ((q / p : Nat) : Int) := by simp
  by_cases h0 : q % p = 0
  ·have hb : (((q % p : Nat) : Int) == 0) = true := by rw [h0]; rfl
   have HD := dd ((qLe hp q1 q2 h0).trans HE.out); have hdl : q / p < q := Nat.div_lt_self Oo Oo
   have hd1 : 1 ≤ q / p := by
    rcases Nat.eq_zero_or_pos (q / p) with hz | hz
    ·have := Nat.div_add_mod q p; rw [hz, h0] at this; omega
    ·exact hz
   clear h0; generalize q % p = x at t1 t3 hb; generalize q / p = y at t2 t4 HD hdl hd1; go_wp2; exact ⟨⟨y, rfl, hd1, Oo, HD⟩, by simp [intOf]; omega⟩
  ·have hb : (((q % p : Nat) : Int) == 0) = false := by simp; omega
   have HD := dd ((qIr hp q2 h0).symm.trans HE.out); clear h0; generalize q % p = x at t1 t3 hb; go_wp2; go_ret; refine ⟨?_, rfl⟩; rw [← HD.out]
   congr 2
   by_cases h : q = 1
   ·subst h; rfl
   ·simp [h]; omega
theorem qMV (p m : Nat) (w : World) (hp : P4 p) (h1 : 1 ≤ m) (hm : m ≤ 10000) :
  Calls Tryz.prog 114 #[.int .i64 p, .int .i64 m] w fun e w' => e = .returned (.bool (qAS p m)) ∧ w = w' := by
 have hp2 := hp.pos
 go_enter Tryz.func114, Tryz.ntmps114
 go_wp2
 go_loop [1] (fun x => ∃ q : Nat, x = .int .i64 q ∧ 1 ≤ q ∧ q ≤ 10000 ∧ Hid (qAS p q = qAS p m)) (fun x => (intOf x).toNat)
 case atStart => exact ⟨m, rfl, h1, hm, dd rfl⟩
 case round =>
  obtain ⟨q, rfl, q1, q2, HE⟩ := hrel; have hpi : (1 : Int) ≤ (p : Int) := Oo
  have t1 : ((q : Int)).tmod (p : Int) = ((q % p : Nat) : Int) := by
   rw [Int.tmod_eq_emod_of_nonneg Oo]; simp
  have t2 : ((q : Int)).tdiv (p : Int) = ((q / p : Nat) : Int) := by
   rw [Int.tdiv_eq_ediv_of_nonneg Oo]; simp
  have t3 : (q : Int) % (p : Int) = ((q % p : Nat) : Int) := by simp
  have t4 : (q : Int) / (p : Int) = ((q / p : Nat) : Int) := by simp
  by_cases h0 : q % p = 0
  ·have hb : (((q % p : Nat) : Int) == 0) = true := by rw [h0]; rfl
   have HD := dd ((qLe hp q1 q2 h0).trans HE.out); have hdl : q / p < q := Nat.div_lt_self Oo Oo
   have hd1 : 1 ≤ q / p := by
    rcases Nat.eq_zero_or_pos (q / p) with hz | hz
    ·have := Nat.div_add_mod q p; rw [hz, h0] at this; omega
    ·exact hz
   clear h0; generalize q % p = x at t1 t3 hb; generalize q / p = y at t2 t4 HD hdl hd1; go_wp2; exact ⟨⟨y, rfl, hd1, Oo, HD⟩, by simp [intOf]; omega⟩
  ·have hb : (((q % p : Nat) : Int) == 0) = false := by simp; omega
   have HD := dd ((qIr hp q2 h0).symm.trans HE.out); clear h0; generalize q % p = x at t1 t3 hb; go_wp2; go_ret; refine ⟨?_, rfl⟩; rw [← HD.out]
   congr 2
   by_cases h : q = 1
   ·subst h; rfl
   ·simp [h]; omega

def qAs (p m : Int) (t : Tb) : Int := if qAj p m t = 0 then (if qAS p.toNat m.toNat = true then 0 else 5) else qAj p m t
theorem qGZ (p m : Int) (v : Value) (t : Tb) (w : World) (hv : RdT w v t) :
  Calls Tryz.prog 54 #[.int .i64 p, .agg #[.int .i64 m, v]] w fun e w' => e = .returned (.int .i64 (qAs p m t)) ∧ Below w.heap.size w w' := by
 obtain ⟨o, c, rfl, -, -⟩ := id hv
 by_cases h0 : qAj p m t = 0
 ·obtain ⟨P, D, rfl, hl, hP, hD1, hD, hm, hm', HT, L, e1, e2⟩ := qCe h0; obtain ⟨M, rfl⟩ : ∃ M : Nat, m = M := ⟨m.toNat, Oo⟩; have hR : qAs P M t = if qAS P M = true then 0 else 5 := by unfold qAs; rw [if_pos h0]; rfl
  have HC := dd h0; clear h0 HT L e1 e2 hl; cases hPw : qAS P M
  all_goals
   rw [hPw] at hR; have HR := dd hR; clear hR
   go_enter Tryz.func54, Tryz.ntmps54
   go_wp2_with fail
   (obtain ⟨w0, hw0⟩ : ∃ W : World, W = (w.alloc (.cells #[.int .i64 M, .slice o t.length c] 26)) := ⟨_, rfl⟩; have X0 := (RB2.mk1 w  (.int .i64 M) (.slice o t.length c) 26).1.below (w' := w0) (bV hw0) (nl _); have B0 : Below w.heap.size w w0 := (bV hw0); have hv0 := hv.below (w' := w0) (bV hw0) (nl _); rw [← hw0]; clear hw0)
   (obtain ⟨gqX0, gqX1⟩ := id X0; go_wp2_with fail; refine (qEX P M _ t _ hv0).mono ?_; rw [HC.out]; rintro e w1 ⟨rfl, hb⟩; (have X1 := X0.below hb; have hv1 := hv0.below hb; have B1 := B0.trans (hb.mono B0.size)); clear gqX0 gqX1; clear hb)
   obtain ⟨x0, x1⟩ := id X1
   go_wp2_with (go_at_call 105; refine (qIR P M _ hP Oo Oo).mono ?_; rw [hPw]; rintro e w' ⟨rfl, rfl⟩)
   go_ret; exact ⟨by rw [HR.out]; rfl, B1⟩
 ·have HR := dd (show qAs p m t = qAj p m t by unfold qAs; rw [if_neg h0]); obtain ⟨cc, hcc⟩ : ∃ cc, cc = qAj p m t := ⟨_, rfl⟩; rw [← hcc] at h0 HR; have HC := dd hcc; clear hcc; have hne : (cc != 0) = true := by simpa using h0
  have hne' : (cc == 0) = false := by simpa using h0
  go_enter Tryz.func54, Tryz.ntmps54
  go_wp2_with fail
  (obtain ⟨w0, hw0⟩ : ∃ W : World, W = (w.alloc (.cells #[.int .i64 m, .slice o t.length c] 26)) := ⟨_, rfl⟩; have X0 := (RB2.mk1 w  (.int .i64 m) (.slice o t.length c) 26).1.below (w' := w0) (bV hw0) (nl _); have B0 : Below w.heap.size w w0 := (bV hw0); have hv0 := hv.below (w' := w0) (bV hw0) (nl _); rw [← hw0]; clear hw0)
  (obtain ⟨gqX0, gqX1⟩ := id X0; go_wp2_with fail; refine (qEX p m _ t _ hv0).mono ?_; rw [← HC.out]; rintro e w1 ⟨rfl, hb⟩; (have X1 := X0.below hb; have hv1 := hv0.below hb; have B1 := B0.trans (hb.mono B0.size)); clear gqX0 gqX1; clear hb)
  go_wp2; go_ret; exact ⟨by rw [HR.out]; rfl, B1⟩
theorem qGK (p m : Int) (v : Value) (t : Tb) (w : World) (hv : RdT w v t) :
  Calls Tryz.prog 56 #[.int .i64 p, .agg #[.int .i64 m, v]] w fun e w' => e = .returned (.int .i64 (qAs p m t)) ∧ Below w.heap.size w w' := by
 obtain ⟨o, c, rfl, -, -⟩ := id hv
 by_cases h0 : qAj p m t = 0
 ·obtain ⟨P, D, rfl, hl, hP, hD1, hD, hm, hm', HT, L, e1, e2⟩ := qCe h0; obtain ⟨M, rfl⟩ : ∃ M : Nat, m = M := ⟨m.toNat, Oo⟩; have hR : qAs P M t = if qAS P M = true then 0 else 5 := by unfold qAs; rw [if_pos h0]; rfl
  have HC := dd h0; clear h0 HT L e1 e2 hl; cases hPw : qAS P M
  all_goals
   rw [hPw] at hR; have HR := dd hR; clear hR
   go_enter Tryz.func56, Tryz.ntmps56
   go_wp2_with fail
   (obtain ⟨w0, hw0⟩ : ∃ W : World, W = (w.alloc (.cells #[.int .i64 M, .slice o t.length c] 26)) := ⟨_, rfl⟩; have X0 := (RB2.mk1 w  (.int .i64 M) (.slice o t.length c) 26).1.below (w' := w0) (bV hw0) (nl _); have B0 : Below w.heap.size w w0 := (bV hw0); have hv0 := hv.below (w' := w0) (bV hw0) (nl _); rw [← hw0]; clear hw0)
   (obtain ⟨gqX0, gqX1⟩ := id X0; go_wp2_with fail; refine (qEC P M _ t _ hv0).mono ?_; rw [HC.out]; rintro e w1 ⟨rfl, hb⟩; (have X1 := X0.below hb; have hv1 := hv0.below hb; have B1 := B0.trans (hb.mono B0.size)); clear gqX0 gqX1; clear hb)
   obtain ⟨x0, x1⟩ := id X1
   go_wp2_with (go_at_call 114; refine (qMV P M _ hP Oo Oo).mono ?_; rw [hPw]; rintro e w' ⟨rfl, rfl⟩)
   go_ret; exact ⟨by rw [HR.out]; rfl, B1⟩
 ·have HR := dd (show qAs p m t = qAj p m t by unfold qAs; rw [if_neg h0]); obtain ⟨cc, hcc⟩ : ∃ cc, cc = qAj p m t := ⟨_, rfl⟩; rw [← hcc] at h0 HR; have HC := dd hcc; clear hcc; have hne : (cc != 0) = true := by simpa using h0
  have hne' : (cc == 0) = false := by simpa using h0
  go_enter Tryz.func56, Tryz.ntmps56
  go_wp2_with fail
  (obtain ⟨w0, hw0⟩ : ∃ W : World, W = (w.alloc (.cells #[.int .i64 m, .slice o t.length c] 26)) := ⟨_, rfl⟩; have X0 := (RB2.mk1 w  (.int .i64 m) (.slice o t.length c) 26).1.below (w' := w0) (bV hw0) (nl _); have B0 : Below w.heap.size w w0 := (bV hw0); have hv0 := hv.below (w' := w0) (bV hw0) (nl _); rw [← hw0]; clear hw0)
  (obtain ⟨gqX0, gqX1⟩ := id X0; go_wp2_with fail; refine (qEC p m _ t _ hv0).mono ?_; rw [← HC.out]; rintro e w1 ⟨rfl, hb⟩; (have X1 := X0.below hb; have hv1 := hv0.below hb; have B1 := B0.trans (hb.mono B0.size)); clear gqX0 gqX1; clear hb)
  go_wp2; go_ret; exact ⟨by rw [HR.out]; rfl, B1⟩
theorem qFr {p m : Int} {t : Tb} (h : qAs p m t = 0) : qAj p m t = 0 ∧ qAS p.toNat m.toNat = true := by
 unfold qAs at h
 split at h
 ·split at h
  ·exact ⟨by assumption, by assumption⟩
  ·omega
 ·exact absurd h (by assumption)
end
section
open Go

theorem qOF (w : World) (ty : TypeId) (B g n cap : Nat) (xs : Li) (y : Int) (hO : OwI w B (.slice (some ⟨g, 0, none⟩) n cap) xs) (a : Addr) (hnew : ∀ j u, [Value.int .i64 y][j]? = some u → w.cell? (a.add j) = some u) (hn : n ≤ 1000) (hB : B ≤ w.heap.size) :
  ∃ g' cap' w', (Builtin.append_ #[28, 28] ty #[.slice (some ⟨g, 0, none⟩) n cap, .slice (some a) 1 1]).run Tryz.prog w = .ok (.slice (some ⟨g', 0, none⟩) (n + 1) cap') w' ∧
    OwI w' B (.slice (some ⟨g', 0, none⟩) (n + 1) cap') (xs ++ [y]) ∧ w.grownBy w' (some g) ∧ (g' = g ∨ g' = w.heap.size) := by
 obtain ⟨i0, hi, hz0, hz1, hz2⟩ := info_parts qCy
 have hlen := hO.len
 have hO' := hO
 obtain ⟨h1, h2⟩ := hO
 have hll : (xs ++ [y]).length = n + 1 := by simp; omega
 rcases h2 with ⟨h, _⟩ | ⟨g1, cap1, cur, hv, hg, hh, hnc, hcm, hcs, ht⟩
 ·simp at h
 obtain ⟨rfl, rfl⟩ : g = g1 ∧ cap = cap1 := by
  obtain ⟨e1, _, e3⟩ := Value.slice.inj hv; exact ⟨by simpa using e1, e3⟩
 by_cases hroom : n + 1 ≤ cap
 ·have hr := run_append_room (P := Tryz.prog) w 28 ty 2 i0 Tryz.underlying28 hi g n cap cur hh a 1 1 [.int .i64 y] (by rw [hz1]; rfl) hnew (ints_oneCell .i64 [y]) hroom (by rw [hz1]; simp; omega); rw [hz1] at hr; simp only [Nat.mul_one] at hr; refine ⟨_, _, _, hr, ⟨by simp, .inr ⟨g, cap, _, by rw [hll], hg, setRow_heap w g cur _ _ _ hh, Oo, hcm, ?_, ?_⟩⟩, ⟨rfl, rfl, rfl, by simp, fun k _ hk => setRow_other w g k _ (fun e => hk (by rw [e]))⟩, .inl rfl⟩
  ·simp only [List.size_toArray, List.length_append, List.length_take, List.length_drop, Array.length_toList, List.length_cons, List.length_nil]; omega
  ·have e : cur.toList.take n = xs.map (Value.int .i64) := by
    rw [← hlen, Nat.mul_one] at ht; exact ht
   simp only [e, List.map_append, List.append_assoc]; rw [show (xs ++ [y]).length * 1 = (xs.map (Value.int .i64) ++ [y].map (Value.int .i64)).length by simp, ← List.append_assoc]; exact List.take_left
 ·have hc : ∀ j u, (xs.map (Value.int .i64))[j]? = some u → w.cell? ((⟨g, 0, none⟩ : Addr).add j) = some u := World.ownsRow.cells hO' (g := g) rfl; have hr := run_append_grow (P := Tryz.prog) w 28 ty 2 i0 (.int .i64 0) Tryz.underlying28 hi hz0 ⟨g, 0, none⟩ n cap (xs.map (Value.int .i64)) (by rw [hz1]; simp; omega) hc a 1 1 [.int .i64 y] (by rw [hz1]; rfl) hnew Oo Oo (by rw [hz2]; exact growslice_fits Oo Oo); have hge := grownCap_ge w (n + 1) cap 2; refine ⟨_, _, _, hr, ⟨by simp, .inr ⟨w.heap.size, _, _, by rw [hll], hB, heap_alloc_new w.drew _, Oo, grownCap_le_maxLen w _ _ _ (by unfold maxLen; omega), ?_, ?_⟩⟩, ⟨rfl, rfl, rfl, by simp, fun k hk _ => heap_alloc_old w.drew _ hk⟩, .inr rfl⟩
  ·have hzc : (Value.int IntKind.i64 0).cells.size = 1 := rfl; simp [size_zeroCells, hzc]; omega
  ·simp only [Array.toList_append, List.map_append]; rw [show (xs ++ [y]).length * 1 = (xs.map (Value.int .i64) ++ [y].map (Value.int .i64)).length by simp]; exact List.take_left
theorem ap1 {ops : Array Oper} {rest : List Oper} {o : Oper} {a : Act} {Q : Exit → Act → World → Prop} (w : World) (hg : o.guard = none) (s x : Operand) (hop : o.op = .call { callee := .builtin .append, args := #[s, x], argTypes := #[28, 28] })
  (B g n cap : Nat) (xs : Li) (hs : a.eval s = .slice (some ⟨g, 0, none⟩) n cap) (y : Int) (hx : a.eval x = .slice (some ⟨w.heap.size, 0, none⟩) 1 1) (hO : OwI w B (.slice (some ⟨g, 0, none⟩) n cap) xs) (hn : n ≤ 1000) (hB : B ≤ w.heap.size)
  (hK : ∀ g' cap' w', OwI w' B (.slice (some ⟨g', 0, none⟩) (n + 1) cap') (xs ++ [y]) → (w.alloc (.cells #[.int .i64 y] 2)).grownBy w' (some g) → (g' = g ∨ g' = w.heap.size + 1) → wpList Tryz.prog ops Q rest (a.put o.dst (.slice (some ⟨g', 0, none⟩) (n + 1) cap')) w') :
  wpList Tryz.prog ops Q (o :: rest) a (w.alloc (.cells #[.int .i64 y] 2)) :=
 wpList_plain hg fun K hK' => by
  obtain ⟨g', cap', w', hr, h1, h2, h3⟩ := qOF (w.alloc (.cells #[.int .i64 y] 2)) o.type B g n cap xs y (hO.alloc _) ⟨w.heap.size, 0, none⟩ (cell_one_new _ _ _) hn (by simp; omega); unfold Oper.wp execOp; simp only [hop, resolve, invoke, builtin, Sem.run_bind, Sem.run_pure, Result.andThen_ok, List.map_toArray, List.map_cons, List.map_nil, hs, hx, hr]; exact hK' _ _ (hK g' cap' w' h1 h2 (by simpa using h3))
structure TyM (B D : Nat) (T : Tb) (ls cv : Li) (oT : Option Addr) (cT gc cc g cl : Nat) (fx : List Nat) (u : World) : Prop where
 tab : ∃ a b, Rds a b u (fun x => RdT x (.slice oT (D + 1) cT) T) ∧ (g < a ∨ b ≤ g) ∧ ∀ x ∈ fx, x < a ∨ b ≤ x
 cv : OwI u B (.slice (some ⟨gc, 0, none⟩) (D + 1) cc) cv
 ls : OwI u B (.slice (some ⟨g, 0, none⟩) ls.length cl) ls
 ne : g ≠ gc
 nc : gc ∉ fx
 ng : g ∉ fx
 fx : ∀ x ∈ fx, x < u.heap.size
theorem TyM.below {B D : Nat} {T : Tb} {ls cv : Li} {oT : Option Addr} {cT gc cc g cl : Nat} {fx : List Nat} {u u' : World} (h : TyM B D T ls cv oT cT gc cc g cl fx u) (hb : Below u.heap.size u u') : TyM B D T ls cv oT cT gc cc g cl fx u' := by
 obtain ⟨a, b, h1, h2, h3⟩ := h.tab
 exact ⟨⟨a, b, h1.below hb, h2, h3⟩, h.cv.below hb, h.ls.below hb, h.ne, h.nc, h.ng, fun x hx => Nat.lt_of_lt_of_le (h.fx x hx) hb.size⟩
theorem TyM.rd {B D : Nat} {T : Tb} {ls cv : Li} {oT : Option Addr} {cT gc cc g cl : Nat} {fx : List Nat} {u : World} (h : TyM B D T ls cv oT cT gc cc g cl fx u) : RdT u (.slice oT (D + 1) cT) T := by
 obtain ⟨a, b, h1, h2, h3⟩ := h.tab
 exact h1.now
theorem TyM.put {B D : Nat} {T : Tb} {ls cv : Li} {oT : Option Addr} {cT gc cc g cl : Nat} {fx : List Nat} {u : World} (h : TyM B D T ls cv oT cT gc cc g cl fx u) {x : Nat} (hx : x ∈ fx) (k : Nat) (v : Value) : TyM B D T ls cv oT cT gc cc g cl fx (u.setCell ⟨x, k, none⟩ v) := by
 obtain ⟨a, b, h1, h2, h3⟩ := h.tab
 exact ⟨⟨a, b, h1.put (h3 x hx) k v, h2, h3⟩, h.cv.ne (fun j hj e => h.nc (by cases hj; have e' : gc = x := e; rw [e']; exact hx)) v, h.ls.ne (fun j hj e => h.ng (by cases hj; have e' : g = x := e; rw [e']; exact hx)) v, h.ne, h.nc, h.ng, fun y hy => by have := h.fx y hy; simpa using this⟩
theorem TyM.app {B D : Nat} {T : Tb} {ls cv : Li} {oT : Option Addr} {cT gc cc g cl : Nat} {fx : List Nat} {u u' : World} (h : TyM B D T ls cv oT cT gc cc g cl fx u) {y : Int} {g' cl' : Nat} {o : Obj} (h1 : OwI u' B (.slice (some ⟨g', 0, none⟩) (ls.length + 1) cl') (ls ++ [y])) (h2 : (u.alloc o).grownBy u' (some g)) (h3 : g' = g ∨ g' = u.heap.size + 1) :
  TyM B D T (ls ++ [y]) cv oT cT gc cc g' cl' fx u' := by
 have ha : u.grownBy (u.alloc o) none := World.grownBy_alloc u o none
 obtain ⟨a, b, k1, k2, k3⟩ := h.tab
 have hcl := (h.cv.lt gc rfl).2
 have hgl := (h.ls.lt g rfl).2
 have hs := h2.size
 simp at hs
 refine ⟨⟨a, b, (k1.grown ha (fun b hb => by cases hb)).grown h2 (fun j hj => by cases hj; exact k2), ?_, k3⟩, (h.cv.alloc o).kept h2 (.inr (fun e => h.ne (by simpa [Value.ownBlock] using e.symm))), by simpa using h1, ?_, h.nc, ?_, fun x hx => by have := h.fx x hx; omega⟩
 ·rcases h3 with rfl | rfl
  ·exact k2
  ·right; have := k1.1; omega
 ·rcases h3 with rfl | rfl
  ·exact h.ne
  ·omega
 ·rcases h3 with rfl | rfl
  ·exact h.ng
  ·intro hx; have := h.fx _ hx; omega
theorem TyM.new {B D : Nat} {T : Tb} {ls cv : Li} {oT : Option Addr} {cT gc cc g cl : Nat} {fx : List Nat} {u u' : World} (h : TyM B D T ls cv oT cT gc cc g cl fx u) (hb : Below u.heap.size u u') {T' : Tb} {cv' : Li} {oT' : Option Addr} {cT' gc' cc' a b : Nat} (hB : B ≤ u.heap.size) (ha : u.heap.size ≤ a)
  (hT : Rds a b u' (fun x => RdT x (.slice oT' (D + 1) cT') T')) (hc : OwI u' u.heap.size (.slice (some ⟨gc', 0, none⟩) (D + 1) cc') cv') : TyM B D T' ls cv' oT' cT' gc' cc' g cl fx u' := by
 have hg := (h.ls.lt g rfl).2
 have hgc := (hc.lt gc' rfl).1
 refine ⟨⟨a, b, hT, .inl Oo, fun x hx => .inl (by have := h.fx x hx; omega)⟩, hc.mono hB, h.ls.below hb, Oo, fun hx => by have := h.fx _ hx; omega, h.ng, fun x hx => Nat.lt_of_lt_of_le (h.fx x hx) hb.size⟩
end
section

theorem qKp (m d : Int) (n : Nat) (w : World) (hd : d + 1 = n) (h2 : 2 ≤ n) (hn : n ≤ 1048576) :
  Calls Tryz.prog 106 #[.int .i64 m, .int .i64 d] w fun e w' => qE5 w w' m (qAk n) e := by
 go_enter Tryz.func106, Tryz.ntmps106
 go_wp2_with fail
 have R0 := RB2.mk1 w (.int .i64 0) (.slice none 0 0) 34
 have B0 : Below w.heap.size w (w.alloc (.cells #[.int .i64 0, .slice none 0 0] 34)) := bZ
 generalize w.alloc (.cells #[.int .i64 0, .slice none 0 0] 34) = w0 at R0 B0 ⊢
 have hzl : w.heap.size < w0.heap.size := R0.1.lt
 go_wp2_with fail
 refine (qEP m d n _ hd hn).mono ?_
 rintro e w1 ⟨vz, rfl, how, hb⟩
 obtain ⟨oz, cz, rfl⟩ := how.shapeN (n := n) (by simp)
 obtain ⟨g, rfl, hgl, hgl'⟩ := how.row Oo
 (have R1 := R0.below hb; have B1 := B0.trans (hb.mono B0.size))
 have hb1 := hb.size
 have lR := R1.1.lt
 have hc0 := how.cell (k := 1) (qE9 n 1 0 Oo)
 have hf0 := how.fz 1
 have Hn := dd how
 clear how
 have i1 : 1 < n := Oo
 have i2 : (1 : Int) < (n : Int) := Oo
 have hgn : g ≠ w1.heap.size := Oo
 have hgr : g ≠ w.heap.size := Oo
 obtain ⟨⟨r0, r1⟩, rf⟩ := id R1
 go_wp2
 refine bodyPost_ret (v := .agg #[.int .i64 m, .slice (some ⟨g, 0, none⟩) n cz]) (by simp [results, Tryz.results106, go_sem, r0, r1, lR, hgn, hgr]) rfl ⟨_, rfl, ?_, ?_⟩
 ·exact ((((Hn.out.put 1 1).low sz _).low sz _).alloc _).mono sz
 ·(repeat (first | exact bR _ _ | (refine bS ?_ _) | (refine bA ?_ _) | (refine bN ?_ _) | (refine bD ?_) | (refine bT ?_ B1)))

end
end Go.Proofs.YtfpphfjlpgefaaaGreat
