/- Lemmas. -/
import Derived.Test.YteijannfbafdpaaGreatDoorSZG2
import Derived.Laws.AppendOwn
import Derived.Test.YteijannfbafdpaaGreatDoorSZSze
import Derived.Test.YteijannfbafdpaaGreatDoorSZM23
import Derived.Deep.CutRange
import Derived.Test.YteijannfbafdpaaGreatDoorSZM20
import Derived.Test.YteijannfbafdpaaGreatDoorSZM13
import Derived.Test.YteijannfbafdpaaGreatDoorSZM8
import Derived.Test.YteijannfbafdpaaGreatDoorSZM18
set_option linter.unusedSimpArgs false
set_option linter.unusedVariables false
namespace Go.Proofs.YteijannfbafdpaaGreatDoor
open Go.RowKit
open Go

set_option maxHeartbeats 1000000 in
theorem run_ap1 (w : World) (ty : TypeId) (B g n cap : Nat) (xs : List Int) (y : Int) (hO : OwI w B (.slice (some ⟨g, 0, none⟩) n cap) xs) (a : Addr) (hnew : ∀ j u, [Value.int .i64 y][j]? = some u → w.cell? (a.add j) = some u) (hn : n ≤ 1000) (hB : B ≤ w.heap.size) :
    ∃ g' cap' w', (Builtin.append_ #[34, 34] ty #[.slice (some ⟨g, 0, none⟩) n cap, .slice (some a) 1 1]).run Tryz.prog w = .ok (.slice (some ⟨g', 0, none⟩) (n + 1) cap') w' ∧
      OwI w' B (.slice (some ⟨g', 0, none⟩) (n + 1) cap') (xs ++ [y]) ∧ w.grownBy w' (some g) ∧ (g' = g ∨ g' = w.heap.size) := by
  obtain ⟨i0, hi, hz0, hz1, hz2⟩ := info_parts info_i
  have hlen := hO.len
  have hO' := hO
  obtain ⟨h1, h2⟩ := hO
  have hll : (xs ++ [y]).length = n + 1 := by simp; omega
  rcases h2 with ⟨h, _⟩ | ⟨g1, cap1, cur, hv, hg, hh, hnc, hcm, hcs, ht⟩
  · simp at h
  obtain ⟨rfl, rfl⟩ : g = g1 ∧ cap = cap1 := by
    obtain ⟨e1, _, e3⟩ := Value.slice.inj hv
    exact ⟨by simpa using e1, e3⟩
  by_cases hroom : n + 1 ≤ cap
  · have hr := run_append_room (P := Tryz.prog) w 34 ty 2 i0 Tryz.underlying34 hi g n cap cur hh a 1 1 [.int .i64 y] (by rw [hz1]; rfl) hnew (ints_oneCell .i64 [y]) hroom (by rw [hz1]; simp; omega)
    rw [hz1] at hr
    simp only [Nat.mul_one] at hr
    refine ⟨_, _, _, hr, ⟨by simp, .inr ⟨g, cap, _, by rw [hll], hg, setRow_heap w g cur _ _ _ hh, by omega, hcm, ?_, ?_⟩⟩, ⟨rfl, rfl, rfl, by simp, fun k _ hk => setRow_other w g k _ (fun e => hk (by rw [e]))⟩, .inl rfl⟩
    · simp only [List.size_toArray, List.length_append, List.length_take, List.length_drop, Array.length_toList, List.length_cons, List.length_nil]
      omega
    · have e : cur.toList.take n = xs.map (Value.int .i64) := by
        rw [← hlen, Nat.mul_one] at ht; exact ht
      simp only [e, List.map_append, List.append_assoc]
      rw [show (xs ++ [y]).length * 1 = (xs.map (Value.int .i64) ++ [y].map (Value.int .i64)).length by simp, ← List.append_assoc]
      exact List.take_left
  · have hc : ∀ j u, (xs.map (Value.int .i64))[j]? = some u → w.cell? ((⟨g, 0, none⟩ : Addr).add j) = some u := World.ownsRow.cells hO' (g := g) rfl
    have hr := run_append_grow (P := Tryz.prog) w 34 ty 2 i0 (.int .i64 0) Tryz.underlying34 hi hz0 ⟨g, 0, none⟩ n cap (xs.map (Value.int .i64)) (by rw [hz1]; simp; omega) hc a 1 1 [.int .i64 y] (by rw [hz1]; rfl) hnew (by omega) (by omega) (by rw [hz2]; exact growslice_fits (by omega) (by omega))
    have hge := grownCap_ge w (n + 1) cap 2
    refine ⟨_, _, _, hr, ⟨by simp, .inr ⟨w.heap.size, _, _, by rw [hll], hB, heap_alloc_new w.drew _, by omega, grownCap_le_maxLen w _ _ _ (by unfold maxLen; omega), ?_, ?_⟩⟩, ⟨rfl, rfl, rfl, by simp, fun k hk _ => heap_alloc_old w.drew _ hk⟩, .inr rfl⟩
    · have hzc : (Value.int IntKind.i64 0).cells.size = 1 := rfl
      simp [size_zeroCells, hzc]; omega
    · simp only [Array.toList_append, List.map_append]
      rw [show (xs ++ [y]).length * 1 = (xs.map (Value.int .i64) ++ [y].map (Value.int .i64)).length by simp]
      exact List.take_left
theorem ap1 {ops : Array Oper} {rest : List Oper} {o : Oper} {a : Act} {Q : Exit → Act → World → Prop} (w : World) (hg : o.guard = none) (s x : Operand) (hop : o.op = .call { callee := .builtin .append, args := #[s, x], argTypes := #[34, 34] })
    (B g n cap : Nat) (xs : List Int) (hs : a.eval s = .slice (some ⟨g, 0, none⟩) n cap) (y : Int) (hx : a.eval x = .slice (some ⟨w.heap.size, 0, none⟩) 1 1) (hO : OwI w B (.slice (some ⟨g, 0, none⟩) n cap) xs) (hn : n ≤ 1000) (hB : B ≤ w.heap.size)
    (hK : ∀ g' cap' w', OwI w' B (.slice (some ⟨g', 0, none⟩) (n + 1) cap') (xs ++ [y]) → (w.alloc (.cells #[.int .i64 y] 2)).grownBy w' (some g) → (g' = g ∨ g' = w.heap.size + 1) → wpList Tryz.prog ops Q rest (a.put o.dst (.slice (some ⟨g', 0, none⟩) (n + 1) cap')) w') :
    wpList Tryz.prog ops Q (o :: rest) a (w.alloc (.cells #[.int .i64 y] 2)) :=
  wpList_plain hg fun K hK' => by
    obtain ⟨g', cap', w', hr, h1, h2, h3⟩ := run_ap1 (w.alloc (.cells #[.int .i64 y] 2)) o.type B g n cap xs y (hO.alloc _) ⟨w.heap.size, 0, none⟩ (cell_one_new _ _ _) hn (by simp; omega)
    unfold Oper.wp execOp
    simp only [hop, resolve, invoke, builtin, Sem.run_bind, Sem.run_pure, Result.andThen_ok, List.map_toArray, List.map_cons, List.map_nil, hs, hx, hr]
    exact hK' _ _ (hK g' cap' w' h1 h2 (by simpa using h3))
end Go.Proofs.YteijannfbafdpaaGreatDoor
set_option linter.unusedSimpArgs false
set_option linter.unusedVariables false
namespace Go.Proofs.YteijannfbafdpaaGreatDoor
open Go.RowKit

theorem firT_0 (n : Nat) (t : List (List Int)) : lonT n t = firT n t [] := tri_ext fun i j _ => by
  by_cases h : i + j < n
  · rw [if_pos h, if_pos h]
  · rw [if_neg h, if_neg h]
    by_cases h2 : 1 ≤ i ∧ i < n
    · rw [if_pos h2]; rfl
    · rw [if_neg h2]
def firR (n : Nat) (t : List (List Int)) (l : List Int) (i : Nat) : List Int := mk (n + 1 - i) (fun j => if i + j < n then atT t i j else if 1 ≤ i ∧ i < n then at0 l (i - 1) else 0)
theorem firT_get {n : Nat} {t : List (List Int)} {l : List Int} {i : Nat} (h : i < n + 1) : (firT n t l)[i]? = some (firR n t l i) := tri_get h
theorem firT_snoc {N k : Nat} {t : List (List Int)} {l : List Int} {v : Int} (hl : l.length = k) (hk : k < N) : (firT (N + 1) t l).set (k + 1) ((firR (N + 1) t l (k + 1)).set (N - k) v) = firT (N + 1) t (l ++ [v]) := by
  unfold firT firR
  rw [tri_set (f := fun i j => if i + j < N + 1 then atT t i j else if 1 ≤ i ∧ i < N + 1 then at0 l (i - 1) else 0) (by omega)]
  refine tri_ext fun i j hij => ?_
  have e : ∀ q, at0 (l ++ [v]) q = if q = k then v else at0 l q := fun q => by
    rcases Nat.lt_trichotomy q k with h | h | h
    · rw [if_neg (by omega)]; simp [at0, List.getD, List.getElem?_append_left (show q < l.length by omega)]
    · rw [if_pos h]; simp [at0, List.getD, h, ← hl]
    · rw [if_neg (by omega), at0_out (by simp; omega), at0_out (by omega)]
  by_cases h : i = k + 1 ∧ j = N - k
  · obtain ⟨rfl, rfl⟩ := h
    rw [if_pos ⟨rfl, rfl⟩, if_neg (by omega), if_pos (by omega), e, if_pos (by omega)]
  · rw [if_neg h]
    by_cases h1 : i + j < N + 1
    · rw [if_pos h1, if_pos h1]
    · rw [if_neg h1, if_neg h1]
      by_cases h2 : 1 ≤ i ∧ i < N + 1
      · rw [if_pos h2, if_pos h2, e, if_neg (by omega)]
      · rw [if_neg h2, if_neg h2]
theorem dt_yv {N : Nat} {p l : List Int} {k : Nat} (hl : l.length = k) (hk : k ≤ N) : - dt (N + 1) p (yv (N + 1) l) = at0 p N - dt k p (at0 l) := by
  show -(sumN N (fun i => at0 p i * yv (N + 1) l i) + at0 p N * yv (N + 1) l N) = _
  have e1 : yv (N + 1) l N = -1 := by unfold yv; rw [if_pos rfl]
  have e2 : sumN N (fun i => at0 p i * yv (N + 1) l i) = dt k p (at0 l) := by
    rw [sumN_cut (n := N) (k := k) hk fun i h1 h2 => by unfold yv; rw [if_neg (by omega), at0_out (xs := l) (by omega), Int.mul_zero]]
    exact sumN_congr fun i hi => by unfold yv; rw [if_neg (by omega)]
  rw [e1, e2]; omega
theorem want_step {m W P : Int} {q : Nat} {p : List Int} {y : Nat → Int} {N : Nat} (h : W % m = (at0 p N - dt q p y) % m) (hP : P = at0 p q * y q) : (W - P % m) % m % m = (at0 p N - dt (q + 1) p y) % m := by
  rw [emod_idem]
  have e := emod_congr_sub h (emod_idem P m)
  rw [e, hP]
  show _ = (at0 p N - (dt q p y + at0 p q * y q)) % m
  congr 1; omega
def ChoV (m : Int) (N k : Nat) (p l : List Int) (V : Int) : Prop := (0 ≤ V ∧ V < m) ∧ (p ≠ [] → (∃ u, 0 ≤ u ∧ u < m ∧ at0 p k * u % m = (- dt (N + 1) p (yv (N + 1) l)) % m) → at0 p k * V % m = (- dt (N + 1) p (yv (N + 1) l)) % m)
theorem ChoV.of {m : Int} {N k : Nat} {p l : List Int} {V W : Int} (hl : l.length = k) (hk : k ≤ N) (h0 : 0 ≤ V) (h1 : V < m) (hW : 0 ≤ W ∧ W < m) (hw : W % m = (at0 p N - dt k p (at0 l)) % m) (hs : ∀ u, 0 ≤ u → u < V → ¬ at0 p k * u % m = W) (he : at0 p k * V % m = W ∨ V = m - 1) : ChoV m N k p l V := by
  refine ⟨⟨h0, h1⟩, fun _ hx => ?_⟩
  rw [dt_yv hl hk, ← hw, Int.emod_eq_of_lt hW.1 hW.2] at hx ⊢
  rcases he with he | he
  · exact he
  · obtain ⟨u, u1, u2, u3⟩ := hx
    rcases Int.lt_or_le u V with h | h
    · exact absurd u3 (hs u u1 h)
    · rw [show V = u by omega]; exact u3
theorem Elim.at {m : Int} {L : Nat} {R0 R out : List (List Int)} (hL : 2 ≤ L) (h : Elim m L 0 R0 R out) : ∃ S : Nat → List (List Int), S (L - 1) = R0 ∧ (∀ k, k + 1 < L → ∃ p, out[k]? = some p ∧ Stp m L k (S (k + 1)) (S k) p) ∧ Fnd m L R0 (S 0) [] := by
  obtain ⟨S, h1, -, h3⟩ := h
  exact ⟨S, h1, fun k hk => h3 k (Nat.zero_le _) hk, Fnd.start hL h1 (fun k hk => h3 k (Nat.zero_le _) hk)⟩
theorem Elim.none {m : Int} {N : Nat} : Elim m (N + 1) 0 [] [] (List.replicate N []) :=
  ⟨fun _ => [], rfl, rfl, fun k _ hk => ⟨[], by rw [List.getElem?_replicate, if_pos (by omega)], ⟨fun _ h => h, fun _ h _ => h, fun r hr => by simp at hr, fun e => absurd rfl e⟩⟩⟩

set_option maxHeartbeats 8000000 in
set_option maxRecDepth 100000 in
theorem l07First_c (m : Int) (n : Nat) (v : Value) (t : List (List Int)) (w : World) (hv : RdT w v t) (h2 : 2 ≤ n) (hn : n ≤ 10) (hm : 2 ≤ m) (hm' : m ≤ 10000) (ht : PlaT m n t) :
    Calls Tryz.prog 26 #[.int .i64 m, v] w fun e w' => ∃ v', e = .returned v' ∧ ∃ s, OwS w' w.heap.size v' s ∧ s.length = n + 1 ∧ FirOK m n t s ∧ Below w.heap.size w w' := by
  obtain ⟨N, hN⟩ : ∃ N, n = N + 1 := ⟨n - 1, by omega⟩
  have hN1 : 1 ≤ N ∧ N ≤ 9 := by omega
  have HT := Lib.hid ht
  have HLn := Lib.hid (show (lonT n t).length = n + 1 from tri_len _ _)
  have e00 : IntKind.i64.wrap ((n : Int) + 1 - 1) = (n : Int) := by rw [IntWalk.i64_in _ (by omega)]; omega
  have e01 : IntKind.i64.wrap ((n : Int) - 1) = (N : Int) := by rw [IntWalk.i64_in _ (by omega)]; omega
  have e04 : IntKind.i64.wrap (m - 1) = m - 1 := IntWalk.i64_in _ (by omega)
  have m0 : (m == 0) = false := by simp; omega
  have m1 : ¬ m = 0 := by omega
  have HN := Lib.hid hN
  clear hN
  go_enter Tryz.func26, Tryz.ntmps26
  go_wp2_with fail
  refine (l07Longer_c m n _ t _ hv (by omega) ht).mono ?_
  rintro e w1 ⟨v1, rfl, hL, hb1⟩
  obtain ⟨oL, cL, rfl⟩ := hL.shapeN (n := n + 1) HLn.out
  have hb1s := hb1.size
  clear ht
  go_wp2_with (at_make; go_loud (refine mkT _ rfl _ _ rfl _ _ _ N rfl rfl rfl (by omega) ?_; intro w2 hown hb2 hs2; have hz2 : w1.heap.size < w2.heap.size := (by omega); clear hs2))
  have OL := OwI.lit w2 [] (by decide)
  simp only [List.map_nil] at OL
  have hb3 : Below w2.heap.size w2 (w2.alloc (.cells #[] 2)) := (by (repeat (first | exact bR _ _ | (refine bS ?_ _) | (refine bA ?_ _) | (refine bN ?_ _) | (refine bD ?_))))
  have hs3 : (w2.alloc (.cells #[] 2)).heap.size = w2.heap.size + 1 := by simp
  obtain ⟨usP, RP⟩ := (hown.emptyQ (E := w1.heap.size) (S := [])).fix (S' := [w2.heap.size]) (by simp) (Nat.le_refl _) (by simp)
  have RP := RP.below hb3
  generalize w2.alloc (.cells #[] 2) = w3 at OL hb3 hs3 RP ⊢
  have hb13 : Below w1.heap.size w1 w3 := hb2.trans (hb3.mono (by omega))
  have hb03 : Below w.heap.size w w3 := hb1.trans (hb13.mono hb1s)
  have hv3 := hv.below hb03 (Nat.le_refl _)
  have hb13s := hb13.size
  obtain ⟨usL, hLU⟩ := hL.toR.named
  have hLU := hLU.stay (u' := w3) (fun k _ hk => hb13.block k hk)
  rw [firT_0] at hLU
  obtain ⟨gT, rfl, hgT1, hgT2⟩ := hLU.row (by omega)
  clear hown hb2 hb3 hL
  go_wp2_with fail
  refine (l07Equations_c m n _ t _ hv3 h2 hn hm hm' HT.out).mono ?_
  rintro e w4 ⟨gE, cE, usE, R, rfl, hE, hEq, hRl, hb4⟩
  have hb4s := hb4.size
  have HEq := Lib.hid hEq
  clear hEq
  go_upto_if 30 with fail
  go_cut [7] from 28 to 33 (fun s u => ∃ (gP cP : Nat) (us' : List Value) (out : List (List Int)), s = .slice (some ⟨gP, 0, none⟩) N cP ∧ Rdf w1.heap.size [w2.heap.size] u (fun x => RdTU us' x (.slice (some ⟨gP, 0, none⟩) N cP) out) ∧ Hid (∃ R', Elim m n 0 R R' out) ∧ Below w3.heap.size w3 u)
  case first =>
    by_cases hR : R = []
    · subst hR
      have hEl : Hid (∃ R', Elim m n 0 [] R' (List.replicate N [])) := Lib.hid ⟨[], by rw [HN.out]; exact Elim.none⟩
      have RP4 := RP.below hb4
      go_wp2
      go_meet
      exact ⟨_, _, _, _, rfl, RP4, hEl, hb4⟩
    · have hR1 : 1 ≤ R.length := by
        cases R with
        | nil => exact absurd rfl hR
        | cons a l => simp
      have i0 : (0 : Int) < (R.length : Int) := by omega
      have hRw := Lib.hid (show ∀ r ∈ R, r.length = N + 1 ∧ ∀ x ∈ r, 0 ≤ x ∧ x < m from fun r hr => by rw [← HN.out]; exact HEq.out.rw hm r hr)
      clear hR
      go_wp2_with fail
      refine (l07Pivots_c m N w3.heap.size gE 0 cE usE R w4 hE hb4s hN1.1 (by omega) hm hm' hRw.out hR1 hRl).mono ?_
      rintro e w5 ⟨gP, cP, rfl, hP, hb5⟩
      obtain ⟨us', out, hol, hR5, R', hEl⟩ := hP.out
      rw [← HN.out] at hEl
      have hEl' := Lib.hid hEl
      have hR6 : Rdf w1.heap.size [w2.heap.size] w5 (fun x => RdTU us' x (.slice (some ⟨gP, 0, none⟩) N cP) out) := hR5.rdf (by omega) (by simp; omega)
      have hb35 := hb4.trans (hb5.mono hb4s)
      clear hEl hP hR5 hol
      go_wp2
      go_meet
      exact ⟨gP, cP, us', out, rfl, hR6, Lib.hid ⟨R', hEl'.out⟩, hb35⟩
  case rest =>
  obtain ⟨gP, cP, usQ, out, rfl, RP, HEl, hbc⟩ := hcut
  obtain ⟨R', hEl⟩ := HEl.out
  obtain ⟨S, hS1, hS3, hF0⟩ := hEl.at h2
  have HS1 := Lib.hid hS1
  have HS3 := Lib.hid hS3
  have HF0 := Lib.hid hF0
  have OL := (OL.below hbc).mono (show w1.heap.size ≤ w2.heap.size by omega)
  have hLU := hLU.stay (u' := wc) (fun k _ hk => hbc.block k (by omega))
  have hbcs := hbc.size
  have hBc := hb03.trans (hbc.mono hb03.size)
  clear hEl hS1 hS3 hF0 HEl hb13 hb03 hb4 hv3 hbc hE hs3
  obtain ⟨z1, hz1⟩ : ∃ z1, z1 = w1.heap.size := ⟨_, rfl⟩
  rw [← hz1] at RP OL hLU hgT2 hb1s hz2
  have hzc : z1 ≤ wc.heap.size := by omega
  clear hz1
  go_wp2_with fail
  go_loopw [8, 10] (fun s i wr => ∃ (k gl cl : Nat) (l : List Int), k ≤ N ∧ i = .int .i64 k ∧ s = .slice (some ⟨gl, 0, none⟩) k cl ∧ Hid (l.length = k ∧ ∀ x ∈ l, 0 ≤ x ∧ x < m) ∧ OwI wr z1 (.slice (some ⟨gl, 0, none⟩) k cl) l ∧ OwSU usL w.heap.size z1 wr (.slice (some ⟨gT, 0, none⟩) (n + 1) cL) (firT n t l) ∧ Rdf z1 [gl] wr (fun x => RdTU usQ x (.slice (some ⟨gP, 0, none⟩) N cP) out) ∧ Hid (Fnd m n R (S k) l) ∧ Below w.heap.size w wr ∧ z1 ≤ wr.heap.size) (fun _ i _ => N - (intOf i).toNat)
  case atStart => exact ⟨0, _, _, [], Nat.zero_le _, rfl, rfl, Lib.hid ⟨rfl, fun x hx => by simp at hx⟩, OL, hLU, RP, HF0, hBc, hzc⟩
  case round =>
    clear OL hLU RP hBc hbcs hzc hz2 hb4s
    obtain ⟨k, gl, cl, l, hk, rfl, rfl, HL, hO, hLU, RP, HF, hB, hzw⟩ := hrel
    obtain ⟨wa, rfl⟩ : ∃ wa : World, wa = wr := ⟨_, rfl⟩
    have hBs := hB.size
    have hgl := hO.lt gl rfl
    by_cases hlt : k < N
    · have i1 : (k : Int) < (N : Int) := by omega
      have i0 : (0 : Int) ≤ (k : Int) := by omega
      have hkn : k + 1 < n := by have := HN.out; omega
      have hNn : N < n := by have := HN.out; omega
      have i2 : (N : Int) < (n : Int) := by omega
      have i3 : (k : Int) < (n : Int) := by omega
      obtain ⟨p, hp, hst⟩ := HS3.out k hkn
      have HSt := Lib.hid hst
      obtain ⟨op, cp, cx, hpr⟩ := RdTU.rowAt RP hp
      rw [Nat.zero_add] at cx
      clear hst hp
      go_upto_if 46 with fail
      go_cut [11, 13, 14] from 44 to 89 (fun s s13 s14 u => ∃ V : Int, s = .int .i64 V ∧ Hid (ChoV m N k p l V) ∧ ∃ d, u = wa.drewN d)
      case first =>
        by_cases hp0 : p = []
        · subst hp0
          have HC : Hid (ChoV m N k [] l 0) := Lib.hid ⟨⟨by omega, by omega⟩, fun e => absurd rfl e⟩
          go_wp2
          go_meet
          exact ⟨0, rfl, HC, 0, rfl⟩
        · have hpp := (HSt.out.piv hp0).1
          have hpl := hpp.len
          have hpd := hpr.now
          obtain ⟨bp, fp, rfl, -⟩ := hpd.cells (by omega)
          have cN := hpd.cell0 (k := N) (some_at0 (by omega))
          have ck := hpd.cell0 (k := k) (some_at0 (by omega))
          have hNr := hpp.at (show 0 < m by omega) N
          have hkr := hpp.at (show 0 < m by omega) k
          have HPa := Lib.hid (fun i => hpp.at (show 0 < m by omega) i)
          have n0 : (N : Int) < (p.length : Int) := by omega
          have n1 : (k : Int) < (p.length : Int) := by omega
          have n2 : (0 : Int) < (p.length : Int) := by omega
          have HPl := Lib.hid hpl
          clear hpl hpp
          generalize hWe : at0 p N = W0 at cN hNr
          have HWe := Lib.hid hWe
          clear hWe
          go_wp2_with fail
          go_loopw [13, 14] (fun s i wk => ∃ (q : Nat) (W : Int), q ≤ k ∧ i = .int .i64 q ∧ s = .int .i64 W ∧ (0 ≤ W ∧ W < m) ∧ Hid (W % m = (at0 p N - dt q p (at0 l)) % m) ∧ ∃ d, wk = wa.drewN d) (fun _ i _ => k - (intOf i).toNat)
          case atStart => exact ⟨0, W0, Nat.zero_le _, rfl, rfl, hNr, Lib.hid (by rw [HWe.out]; show _ = (W0 - 0) % m; rw [Int.sub_zero]), 0, rfl⟩
          case round =>
            obtain ⟨q, W, hq, rfl, rfl, hW, HW, d, rfl⟩ := hrel
            by_cases hqk : q < k
            · have j1 : (q : Int) < (k : Int) := by omega
              have j0 : (0 : Int) ≤ (q : Int) := by omega
              have j2 : (q : Int) < (p.length : Int) := by omega
              have cq := hpd.cell0 (k := q) (some_at0 (by rw [HPl.out]; omega))
              have cl1 := hO.cell (k := q) (some_at0 (by rw [HL.out.1]; omega))
              have hqr := HPa.out q
              have hlr := at0_range (m := m) (by omega) HL.out.2 q
              have HSt2 := Lib.hid (fun (P : Int) (hP : P = at0 p q * at0 l q) => want_step (m := m) (N := N) HW.out hP)
              generalize at0 p q = P at cq hqr HSt2
              generalize at0 l q = Lq at cl1 hlr HSt2
              have hp0' : 0 ≤ P * Lq := Int.mul_nonneg hqr.1 hlr.1
              have hp1 : P * Lq ≤ 10000 * 10000 := Int.mul_le_mul (by omega) (by omega) hlr.1 (by omega)
              have hrm := mod_lt' (a := P * Lq) (show 0 < m by omega)
              have t1 : IntKind.i64.wrap (P * Lq) = P * Lq := IntWalk.i64_in _ (by omega)
              have t2 : (P * Lq).tmod m = P * Lq % m := Int.tmod_eq_emod_of_nonneg hp0'
              have t3 : IntKind.i64.wrap (P * Lq % m) = P * Lq % m := IntWalk.i64_in _ (by omega)
              have HSt3 := Lib.hid (HSt2.out _ rfl)
              generalize P * Lq % m = Rm at hrm t2 t3 HSt3
              have t4 : IntKind.i64.wrap (W - Rm) = W - Rm := IntWalk.i64_in _ (by omega)
              have hWn := mod_lt' (a := W - Rm) (show 0 < m by omega)
              go_wp2_with fail
              go_quiet (first | (go_at_call 50; (first | exact quietA (rfl) (l01Mod_c (W - Rm) m _ (by omega) (by omega) (by omega) (by omega)) | exact quietB (rfl) (l01Mod_c (W - Rm) m _ (by omega) (by omega) (by omega) (by omega)) | exact quietC (rfl) (l01Mod_c (W - Rm) m _ (by omega) (by omega) (by omega) (by omega)) | exact quietD (rfl) (l01Mod_c (W - Rm) m _ (by omega) (by omega) (by omega) (by omega)))))
              go_wp2
              exact ⟨⟨q + 1, (W - Rm) % m, by omega, by go_num, rfl, hWn, HSt3, _, rfl⟩, by simp [intOf]; omega⟩
            · obtain rfl : q = k := by omega
              have j1 : ¬ (q : Int) < (q : Int) := by omega
              go_wp2_with fail
              go_loopw [11] (fun s wk => ∃ V : Int, s = .int .i64 V ∧ 0 ≤ V ∧ V < m ∧ Hid (∀ u, 0 ≤ u → u < V → ¬ at0 p q * u % m = W) ∧ wk = wa.drewN d) (fun s _ => (m - intOf s).toNat)
              case atStart => exact ⟨0, rfl, by omega, by omega, Lib.hid (fun u h1 h2 => by omega), rfl⟩
              case round =>
                obtain ⟨V, rfl, hV0, hV1, HVs, rfl⟩ := hrel
                have HVs2 := Lib.hid (fun he => ChoV.of (V := V) HL.out.1 (show q ≤ N by omega) hV0 hV1 hW HW.out HVs.out he)
                have HVn : Hid (¬ at0 p q * V % m = W → ∀ u, 0 ≤ u → u < V + 1 → ¬ at0 p q * u % m = W) := Lib.hid (fun h u u0 u1 => by
                  rcases Int.lt_or_le u V with hh | hh
                  · exact HVs.out u u0 hh
                  · rw [show u = V by omega]; exact h)
                generalize at0 p q = X at ck hkr HVs2 HVn
                by_cases hV : V < m - 1
                · have hp0' : 0 ≤ X * V := Int.mul_nonneg hkr.1 hV0
                  have hp1 : X * V ≤ 10000 * 10000 := Int.mul_le_mul (by omega) (by omega) hV0 (by omega)
                  have hrm := mod_lt' (a := X * V) (show 0 < m by omega)
                  have t1 : IntKind.i64.wrap (X * V) = X * V := IntWalk.i64_in _ (by omega)
                  have t2 : (X * V).tmod m = X * V % m := Int.tmod_eq_emod_of_nonneg hp0'
                  have t3 : IntKind.i64.wrap (X * V % m) = X * V % m := IntWalk.i64_in _ (by omega)
                  generalize X * V % m = Z at hrm t2 t3 HVs2 HVn
                  by_cases hZ : Z = W
                  · have c0 : (Z != W) = false := by simp [hZ]
                    have HC := Lib.hid (HVs2.out (.inl hZ))
                    clear hZ
                    go_wp2
                    go_meet
                    exact ⟨V, rfl, HC, d, rfl⟩
                  · have c0 : (Z != W) = true := by simp [hZ]
                    have HVn2 := Lib.hid (HVn.out hZ)
                    have t5 : IntKind.i64.wrap (V + 1) = V + 1 := IntWalk.i64_in _ (by omega)
                    clear hZ
                    go_wp2
                    exact ⟨⟨V + 1, rfl, by omega, by omega, HVn2, by first | rfl | trivial⟩, by simp [intOf]; omega⟩
                · have HC := Lib.hid (HVs2.out (.inr (by omega)))
                  go_wp2
                  go_meet
                  exact ⟨V, rfl, HC, d, rfl⟩
      case rest =>
      obtain ⟨V, rfl, HV, d, hu⟩ := hcut
      have hbw : Below wa.heap.size wa wc := by rw [hu]; exact (by (repeat (first | exact bR _ _ | (refine bS ?_ _) | (refine bA ?_ _) | (refine bN ?_ _) | (refine bD ?_))))
      clear hu hpr cx
      have hbws := hbw.size
      have hOc := hO.below hbw
      have hlr := hbw.block
      obtain ⟨r, hr⟩ : ∃ r, N - k = r := ⟨_, rfl⟩
      have HRr := Lib.hid hr
      have f1 : IntKind.i64.wrap ((n : Int) - (k : Int)) = (n : Int) - (k : Int) := IntWalk.i64_in _ (by omega)
      have f2 : IntKind.i64.wrap ((n : Int) - (k : Int) - 1) = (r : Int) := by have := HN.out; rw [IntWalk.i64_in _ (by omega)]; omega
      have f3 : (r : Int) < ((n - k : Nat) : Int) := by have := HN.out; omega
      have f4 : r < n - k := by have := HN.out; omega
      have f5 : (k : Int) + 1 < (n : Int) + 1 := by omega
      have f6 : (0 : Int) ≤ (k : Int) + 1 := by omega
      have HFr := Lib.hid (show (firR n t l (k + 1)).length = n - k by unfold firR; rw [mk_len]; omega)
      have HSn := Lib.hid (show (firT n t l).set (k + 1) ((firR n t l (k + 1)).set r V) = firT n t (l ++ [V]) by
        rw [← HRr.out, HN.out]; exact firT_snoc HL.out.1 hlt)
      have HFt := Lib.hid (show (firT n t l)[k + 1]? = some (firR n t l (k + 1)) from firT_get (by omega))
      clear hr
      generalize firT n t l = FT at hLU HSn HFt
      generalize firR n t l (k + 1) = FR at HFr HSn HFt
      go_wp2_with (at_builtin; go_loud (refine ap1 wc rfl _ _ rfl z1 gl k cl l rfl V rfl hOc (by omega) (by omega) ?_; intro g2 c2 w5 hO5 hgr hg5; have hbg : ∀ k', w.heap.size ≤ k' → k' < z1 → w5.heap[k']? = wa.heap[k']? := (fun k' k1 k2 => (hgr.block k' (by simp; omega) (by intro e; simp at e; omega)).trans ((Below.heap_alloc _ _ k' (by omega)).trans (hlr k' (by omega)))); have hLU5 := hLU.stay (u' := w5) hbg; obtain ⟨oR, cR, hu1, cxR, howR, hblR, hsetR⟩ := hLU5.at HFt.out; rw [HFr.out] at cxR howR hblR hsetR; obtain ⟨gR, rfl, hgR1, hgR2⟩ := howR.row (by omega); have hgR3 := hblR gR rfl; have hcR := howR.cell (k := r) (some_at0 (by rw [HFr.out]; exact f4)); have hfR := howR.fz r; have HSet := Lib.hid hsetR; have HOwR := Lib.hid howR; have Hgr := Lib.hid hgr; have Hg5 := Lib.hid hg5; clear hsetR howR hgr hg5))
      have hgr := Hgr.out
      have hg5 := Hg5.out
      have hg2 := (hO5.lt g2 rfl).1
      have hO6 := hO5.kept (grown_put w5 gR r (.int .i64 V)) (.inr (by simp [Value.ownBlock]; omega))
      have hOU := HSet.out _ _ (by rw [List.length_set, HFr.out]) (gr_put (World.grownBy.refl w5 (some gR)) r (.int .i64 V)) (HOwR.out.put r V)
      rw [HSn.out] at hOU
      have RPa := (RP.below hbw).below (w' := wc.alloc (.cells #[.int .i64 V] 2)) (by (repeat (first | exact bR _ _ | (refine bS ?_ _) | (refine bA ?_ _) | (refine bN ?_ _) | (refine bD ?_))))
      have RP5 := RPa.grown hgr (S' := [g2]) (by simp) (by intro s' hs'; simp at hs'; subst hs'; rcases hg5 with h | h; exact .inl (by rw [h]; simp); exact .inr (.inl (by simp; omega)))
      have RP6 := RP5.grown (S' := [g2]) (grown_put w5 gR r (.int .i64 V)) (by intro b' hb'; cases hb'; exact .inr (by omega)) (fun s' hs' => .inl hs')
      have hBc := hB.trans (hbw.mono hBs)
      have hB5 := Below.grown (hBc.alloc (by omega) (.cells #[.int .i64 V] 2)) hgr (by simp; omega) (by intro b' hb'; cases hb'; omega)
      have hB6 := below_put hB5 (g := gR) (k := r) hgR1 (.int .i64 V)
      have hL6 : Hid ((l ++ [V]).length = k + 1 ∧ ∀ x ∈ l ++ [V], 0 ≤ x ∧ x < m) := Lib.hid ⟨by rw [List.length_append, HL.out.1]; rfl, fun x hx => by
        rcases List.mem_append.1 hx with h | h
        · exact HL.out.2 x h
        · rw [List.mem_singleton.1 h]; exact HV.out.1⟩
      have hF6 : Hid (Fnd m n R (S (k + 1)) (l ++ [V])) := Lib.hid (by
        have h1 := HL.out.1
        have h2 := HN.out
        have h3 := HSt.out
        have h4 := HF.out
        have h5 := HV.out
        subst h2
        subst h1
        exact h4.step (by omega) h3 (fun a b => h5.2 a b))
      have hz6 : z1 ≤ (w5.setCell ⟨gR, r, none⟩ (.int .i64 V)).heap.size := by have h1 := hgr.size; simp at h1 ⊢; omega
      exact ⟨⟨k + 1, g2, c2, l ++ [V], by omega, by go_num, rfl, hL6, hO6, hOU, RP6, hF6, hB6, hz6⟩, by simp [intOf]; omega⟩
    · obtain rfl : k = N := by omega
      have i1 : ¬ (k : Int) < (k : Int) := by omega
      have hOw := hLU.r.ow
      have hFi := Lib.hid (firOK hm h2 hn HT.out HL.out.2 HEq.out (fun he => by
        have h := HF.out he
        rw [show S k = R by rw [← HS1.out, HN.out]; rfl] at h
        exact h))
      go_wp2
      go_ret
      exact ⟨_, rfl, _, hOw, tri_len _ _, hFi.out, hB⟩
end Go.Proofs.YteijannfbafdpaaGreatDoor
set_option linter.unusedSimpArgs false
set_option linter.unusedVariables false
namespace Go.Proofs.YteijannfbafdpaaGreatDoor
open Go.RowKit

theorem l03Add_z (m : Int) (n : Nat) (v u : Value) (xs ys : List (List Int)) (w : World) (hv : RdT w v xs) (hu : RdT w u ys) (hn : n ≤ 1000) (hm : 2 ≤ m) (hm' : m ≤ 10000) (hx : PlaT m n xs) (hy : PlaT m n ys) :
    Calls Tryz.prog 27 #[.int .i64 m, v, u] w fun e w' => ∃ v', e = .returned v' ∧ OwS w' w.heap.size v' (addT m n xs ys) ∧ Below w.heap.size w w' := by
  have hl := hx.1
  subst hl
  exact l03Add_c m v u xs ys w hv hu hm (by omega) hn hy.1 hx.2 hy.2
theorem l03Scale_z (m a : Int) (n : Nat) (v : Value) (xs : List (List Int)) (w : World) (hv : RdT w v xs) (hn : n ≤ 1000) (hm : 2 ≤ m) (hm' : m ≤ 10000) (ha : 0 ≤ a) (ha' : a < m) (hx : PlaT m n xs) :
    Calls Tryz.prog 28 #[.int .i64 m, .int .i64 a, v] w fun e w' => ∃ v', e = .returned v' ∧ OwS w' w.heap.size v' (scaT m n a xs) ∧ Below w.heap.size w w' := by
  have hl := hx.1
  subst hl
  exact l03Scale_c m a v xs w hv hm (by omega) ha ha' hn hx.2
theorem owS_lit (w : World) : OwS (((w.alloc (.cells #[.int .i64 0, .int .i64 1] 2)).alloc (.cells #[.int .i64 1] 2)).alloc (.cells #[.slice (some ⟨w.heap.size, 0, none⟩) 2 2, .slice (some ⟨w.heap.size + 1, 0, none⟩) 1 1] 34)) w.heap.size (.slice (some ⟨w.heap.size + 2, 0, none⟩) 2 2) [[0, 1], [1]] := by
  have h1 : OwI (w.alloc (.cells #[.int .i64 0, .int .i64 1] 2)) w.heap.size (.slice (some ⟨w.heap.size, 0, none⟩) 2 2) [0, 1] := OwI.lit w [0, 1] (by decide)
  have h2 : OwI ((w.alloc (.cells #[.int .i64 0, .int .i64 1] 2)).alloc (.cells #[.int .i64 1] 2)) (w.heap.size + 1) (.slice (some ⟨w.heap.size + 1, 0, none⟩) 1 1) [1] := by
    have h := OwI.lit (w.alloc (.cells #[.int .i64 0, .int .i64 1] 2)) [1] (by decide)
    simpa using h
  have h1 := (h1.alloc (.cells #[.int .i64 1] 2)).alloc (.cells #[.slice (some ⟨w.heap.size, 0, none⟩) 2 2, .slice (some ⟨w.heap.size + 1, 0, none⟩) 1 1] 34)
  have h2 := (h2.alloc (.cells #[.slice (some ⟨w.heap.size, 0, none⟩) 2 2, .slice (some ⟨w.heap.size + 1, 0, none⟩) 1 1] 34)).mono (show w.heap.size ≤ w.heap.size + 1 by omega)
  have hz : ((w.alloc (.cells #[.int .i64 0, .int .i64 1] 2)).alloc (.cells #[.int .i64 1] 2)).heap.size = w.heap.size + 2 := by simp
  have h3 := World.ownsRow_lit (base := w.heap.size) (e := 34) (size := 1) ((w.alloc (.cells #[.int .i64 0, .int .i64 1] 2)).alloc (.cells #[.int .i64 1] 2)) #[.slice (some ⟨w.heap.size, 0, none⟩) 2 2, .slice (some ⟨w.heap.size + 1, 0, none⟩) 1 1] 2 (by rw [hz]; omega) (by unfold maxLen; omega) rfl
  rw [hz] at h3
  refine ⟨[.slice (some ⟨w.heap.size, 0, none⟩) 2 2, .slice (some ⟨w.heap.size + 1, 0, none⟩) 1 1], rfl, h3, fun k u row hu hx => ?_, fun i j u u' b hi hj hb hb' => ?_, fun i u b hi hb hv => ?_⟩
  · match k with
    | 0 => simp at hu hx; subst hu hx; exact h1
    | 1 => simp at hu hx; subst hu hx; exact h2
    | k + 2 => simp at hx
  · match i, j with
    | 0, 0 => rfl
    | 1, 1 => rfl
    | 0, 1 =>
      simp at hi hj; subst hi hj
      simp [Value.ownBlock] at hb hb'; omega
    | 1, 0 =>
      simp at hi hj; subst hi hj
      simp [Value.ownBlock] at hb hb'; omega
    | i + 2, _ => simp at hi
    | _, j + 2 => simp at hj
  · simp [Value.ownBlock] at hv
    match i with
    | 0 => simp at hi; subst hi; simp [Value.ownBlock] at hb; omega
    | 1 => simp at hi; subst hi; simp [Value.ownBlock] at hb; omega
    | i + 2 => simp at hi
theorem rdf_lit (w : World) (S : List Nat) (hS : ∀ s, s ∈ S → w.heap.size + 3 ≤ s) : Rdf w.heap.size S (((w.alloc (.cells #[.int .i64 0, .int .i64 1] 2)).alloc (.cells #[.int .i64 1] 2)).alloc (.cells #[.slice (some ⟨w.heap.size, 0, none⟩) 2 2, .slice (some ⟨w.heap.size + 1, 0, none⟩) 1 1] 34)) (fun x => RdT x (.slice (some ⟨w.heap.size + 2, 0, none⟩) 2 2) [[0, 1], [1]]) :=
  (owS_lit w).rdf (Nat.le_refl _) (fun s hs => .inr (by have := hS s hs; simp; omega))

set_option maxHeartbeats 2000000 in
set_option maxRecDepth 100000 in
theorem l11Find_c (v u : Value) (A : List (List (List Int))) (t : List (List Int)) (w : World) (hv : RdLT w v A) (hu : RdT w u t) (hn : A.length ≤ 100000) :
    Calls Tryz.prog 23 #[v, u] w fun e w' => e = .returned (.int .i64 (fnd A t : Nat)) ∧ ∃ d, w' = w.drewN d := by
  obtain ⟨o, c, rfl, hmx, -⟩ := id hv
  obtain ⟨o', c', rfl, hmy, -⟩ := id hu
  unfold maxLen at hmx hmy
  go_enter Tryz.func23, Tryz.ntmps23
  go_wp2_with fail
  go_loopw [5] (fun s wr => ∃ k : Nat, k ≤ A.length ∧ s = .int .i64 k ∧ Hid (∀ (j : Nat) (s : List (List Int)), j < k → A[j]? = some s → s ≠ t) ∧ ∃ d, wr = w.drewN d) (fun i _ => A.length - (intOf i).toNat)
  case atStart => exact ⟨0, Nat.zero_le _, rfl, Lib.hid (fun j s hj => by omega), 0, rfl⟩
  case round =>
    obtain ⟨k, hk, rfl, HA, d, rfl⟩ := hrel
    by_cases hlt : k < A.length
    · have i1 : (k : Int) < (A.length : Int) := by omega
      have i0 : (0 : Int) ≤ (k : Int) := by omega
      obtain ⟨s, hs⟩ : ∃ s, A[k]? = some s := ⟨A[k], by simp [hlt]⟩
      obtain ⟨b, f, rfl⟩ := hv.base (by omega)
      obtain ⟨o1, c1, cx, rx⟩ := hv.at hs
      have hbd : Below w.heap.size w (w.drewN d) := (by (repeat (first | exact bR _ _ | (refine bS ?_ _) | (refine bA ?_ _) | (refine bN ?_ _) | (refine bD ?_))))
      have rx2 := rx.below hbd (Nat.le_refl _)
      have hu2 := hu.below hbd (Nat.le_refl _)
      have HS := Lib.hid hs
      clear hs
      go_wp2_with fail
      refine (l01Same2_c _ _ s t _ rx2 hu2).mono ?_
      rintro e w2 ⟨rfl, d2, rfl⟩
      by_cases he : s = t
      · have hq : eqTB s t = true := by simp [eqTB, he]
        have HR := Lib.hid (show fnd A t = k from fnd_at (by rw [← he]; exact HS.out) HA.out)
        clear he
        go_wp2
        go_ret
        exact ⟨by rw [HR.out]; first | rfl | simp, d + d2, rfl⟩
      · have hq : eqTB s t = false := by simp [eqTB, he]
        have HA2 : Hid (∀ (j : Nat) (s : List (List Int)), j < k + 1 → A[j]? = some s → s ≠ t) := Lib.hid (fun j s' hj hs' => by
          rcases Nat.lt_or_ge j k with h | h
          · exact HA.out j s' h hs'
          · obtain rfl : j = k := by omega
            rw [HS.out] at hs'
            obtain rfl := Option.some.inj hs'
            exact he)
        clear he
        go_wp2
        exact ⟨⟨k + 1, by omega, by go_num, HA2, d + d2, rfl⟩, by simp [intOf]; omega⟩
    · obtain rfl : k = A.length := by omega
      have i1 : ¬ (A.length : Int) < (A.length : Int) := by omega
      have HR := Lib.hid (show fnd A t = 0 from fnd_none HA.out)
      go_wp2
      go_ret
      exact ⟨by rw [HR.out]; first | rfl | simp, d, rfl⟩

set_option maxHeartbeats 8000000 in
set_option maxRecDepth 100000 in
theorem l11All_c (m d : Int) (D : Nat) (w : World) (hd : d = (D : Int)) (h2 : 2 ≤ D) (hD : D ≤ 10) (hm : 2 ≤ m) (hm' : m ≤ 10000) (hM : m.toNat ^ (D - 1) ≤ 300) :
    Calls Tryz.prog 14 #[.int .i64 m, .int .i64 d] w fun e w' => ∃ g c n, e = .returned (.slice (some ⟨g, 0, none⟩) n c) ∧ Hid (∃ A : List (List (List Int)), n = A.length ∧ Rds w.heap.size w'.heap.size w' (fun x => RdLT x (.slice (some ⟨g, 0, none⟩) n c) A) ∧ AllOK m (D + 1) A) ∧ Below w.heap.size w w' := by
  subst hd
  go_enter Tryz.func14, Tryz.ntmps14
  go_wp2_with fail
  obtain ⟨X, hX⟩ : ∃ X : World, X = ((w.alloc (.cells #[.int .i64 0, .int .i64 1] 2)).alloc (.cells #[.int .i64 1] 2)).alloc (.cells #[.slice (some ⟨w.heap.size, 0, none⟩) 2 2, .slice (some ⟨w.heap.size + 1, 0, none⟩) 1 1] 34) := ⟨_, rfl⟩
  have hXb : Below w.heap.size w X := by rw [hX]; exact (by (repeat (first | exact bR _ _ | (refine bS ?_ _) | (refine bA ?_ _) | (refine bN ?_ _) | (refine bD ?_))))
  have hXs : X.heap.size = w.heap.size + 3 := by rw [hX]; simp
  rw [← hX]
  have hzX : w.heap.size ≤ X.heap.size := hXb.size
  have R0 : Rdf w.heap.size [X.heap.size] X (fun x => RdT x (.slice (some ⟨w.heap.size + 2, 0, none⟩) 2 2) [[0, 1], [1]]) := by
    rw [hX]; exact rdf_lit w _ (by rw [← hX]; simp; omega)
  have OT := OwQT.one X w.heap.size [] _ _ R0
  have hb1 : Below w.heap.size w (X.alloc (.cells #[.slice (some ⟨w.heap.size + 2, 0, none⟩) 2 2] 22)) := hXb.alloc hzX _
  have hz1 : (X.alloc (.cells #[.slice (some ⟨w.heap.size + 2, 0, none⟩) 2 2] 22)).heap.size = w.heap.size + 4 := by simp; omega
  have RA := OT.fix (S' := []) (by simp) hzX (by simp)
  rw [hXs] at RA
  have HX := Lib.hid hX
  clear hX OT hXs R0
  generalize X.alloc (.cells #[.slice (some ⟨w.heap.size + 2, 0, none⟩) 2 2] 22) = w1 at hb1 hz1 RA ⊢
  have HA0 := Lib.hid (allOK_2 hm)
  clear hXb hzX hz1 HX
  clear X
  go_loopw [5, 6] (fun s i wr => ∃ (N g c n : Nat), 2 ≤ N ∧ N ≤ D + 1 ∧ i = .int .i64 N ∧ s = .slice (some ⟨g, 0, none⟩) n c ∧ Hid (∃ A : List (List (List Int)), n = A.length ∧ Rdf w.heap.size [] wr (fun x => RdLT x (.slice (some ⟨g, 0, none⟩) n c) A) ∧ AllOK m N A) ∧ Below w.heap.size w wr) (fun _ i _ => D + 1 - (intOf i).toNat)
  case atStart => exact ⟨2, _, _, _, by omega, by omega, rfl, rfl, Lib.hid ⟨_, rfl, RA, HA0.out⟩, hb1⟩
  case round =>
    clear RA HA0 hb1
    obtain ⟨N, g, c, n, hN2, hND, rfl, rfl, HH, hB⟩ := hrel
    obtain ⟨wa, rfl⟩ : ∃ wa : World, wa = wr := ⟨_, rfl⟩
    obtain ⟨A, hnA, RA, hA⟩ := HH.out
    have HA := Lib.hid hA
    have HnA := Lib.hid hnA
    clear HH hA hnA
    have hBs := hB.size
    by_cases hlt : N ≤ D
    · have i1 : (N : Int) ≤ (D : Int) := by omega
      have hAl : A.length * m.toNat ≤ 300 := by
        rw [HA.out.len, ← Nat.pow_succ]
        exact Nat.le_trans (Nat.pow_le_pow_right (by omega) (by omega)) hM
      have HAl := Lib.hid hAl
      have hAl1 : A.length ≤ 300 := Nat.le_trans (Nat.le_mul_of_pos_right _ (by omega)) hAl
      rw [← HnA.out] at hAl hAl1
      have OB := OwQT.lit0 wa w.heap.size []
      have hb2 : Below wa.heap.size wa (wa.alloc (.cells #[] 22)) := (by (repeat (first | exact bR _ _ | (refine bS ?_ _) | (refine bA ?_ _) | (refine bN ?_ _) | (refine bD ?_))))
      go_wp2_with fail
      generalize wa.alloc (.cells #[] 22) = w2 at OB hb2 ⊢
      have hb2s := hb2.size
      refine (l07Cocycle_c m N _ hN2 (by omega) hm hm').mono ?_
      rintro e w3 ⟨v3, rfl, ho3, hb3⟩
      have hb23 := hb2.trans (hb3.mono hb2s)
      have hg2 := OB.lt
      have OB := OB.below hb3
      have hgB := OB.lt
      have RC : Rdf w.heap.size [wa.heap.size] w3 (fun x => RdT x v3 (cocT m N)) := ho3.rdf (by omega) (by simp; omega)
      have HCo := Lib.hid (show PlaT m (N + 1) (cocT m N) from tri_ok fun i j _ => by
        by_cases h : i + j = N
        · rw [if_pos h]; exact mod_lt' (by omega)
        · rw [if_neg h]; omega)
      clear ho3 hb3 hb2 hb2s hg2
      go_wp2_with fail
      go_loopw [7, 9] (fun s i wk => ∃ (k gB cB : Nat) (B : List (List (List Int))), k ≤ n ∧ i = .int .i64 k ∧ s = .slice (some ⟨gB, 0, none⟩) B.length cB ∧ OwQT wk w.heap.size wa.heap.size [] gB B.length cB B ∧ Hid (Nxt m N A k B) ∧ Rdf w.heap.size [gB] wk (fun x => RdT x v3 (cocT m N)) ∧ Below wa.heap.size wa wk) (fun _ i _ => n - (intOf i).toNat)
      case atStart => exact ⟨0, _, _, [], Nat.zero_le _, rfl, rfl, OB, Lib.hid (Nxt.start m N A), RC, hb23⟩
      case round =>
        clear OB RC hb23 hgB
        obtain ⟨k, gB, cB, B, hk, rfl, rfl, OB, HNx, RC, hBk⟩ := hrel
        obtain ⟨wk, rfl⟩ : ∃ wk : World, wk = wr := ⟨_, rfl⟩
        have hBks := hBk.size
        have hgB := OB.lt
        have hBl : B.length = k * m.toNat := HNx.out.len
        have HBl := Lib.hid hBl
        clear hBl
        by_cases hkn : k < n
        · have j1 : (k : Int) < (n : Int) := by omega
          have j0 : (0 : Int) ≤ (k : Int) := by omega
          have hkA : k < A.length := by rw [← HnA.out]; exact hkn
          obtain ⟨t, ht⟩ : ∃ t, A[k]? = some t := ⟨A[k], List.getElem?_eq_getElem hkA⟩
          clear hkA
          have hRA := (RA.below hBk).now
          obtain ⟨o1, c1, cx, rx⟩ := hRA.at ht
          rw [Nat.zero_add] at cx
          have HPt := Lib.hid (HA.out.ok t (List.mem_of_getElem? ht))
          have HTk := Lib.hid ht
          clear ht
          go_wp2_with fail
          refine (l07First_c m N _ t _ rx hN2 (by omega) hm hm' HPt.out).mono ?_
          rintro e w4 ⟨v4, rfl, s, ho4, hsl, hFi, hb4⟩
          have HFi := Lib.hid hFi
          have HSl := Lib.hid hsl
          clear hsl hFi
          have hb4s := hb4.size
          have OB := OB.below hb4
          have RC := RC.below hb4
          have RS : Rdf w.heap.size [gB] w4 (fun x => RdT x v4 s) := ho4.rdf (by omega) (by simp; omega)
          have hB4 := hBk.trans (hb4.mono hBks)
          clear ho4 hb4 cx rx hRA
          go_wp2_with fail
          go_loopw [7, 11] (fun sl i wx => ∃ (x gB cB : Nat) (B : List (List (List Int))), (x : Int) ≤ m ∧ i = .int .i64 x ∧ sl = .slice (some ⟨gB, 0, none⟩) B.length cB ∧ OwQT wx w.heap.size wa.heap.size [] gB B.length cB B ∧ Hid (NxtX m N A k s x B) ∧ Rdf w.heap.size [gB] wx (fun x => RdT x v3 (cocT m N)) ∧ Rdf w.heap.size [gB] wx (fun x => RdT x v4 s) ∧ Below wa.heap.size wa wx) (fun _ i _ => (m - intOf i).toNat)
          case atStart => exact ⟨0, _, _, B, by omega, rfl, rfl, OB, Lib.hid (HNx.out.x s), RC, RS, hB4⟩
          case round =>
            clear OB RC RS hB4 HNx hgB HBl
            obtain ⟨x, gB, cB, B, hx, rfl, rfl, OB, HNx, RC, RS, hBx⟩ := hrel
            have hBxs := hBx.size
            have hgB := OB.lt
            by_cases hxm : (x : Int) < m
            · have hBl : B.length ≤ 300 := by
                rw [HNx.out.len]
                have h1 := HAl.out
                have h2 : (k + 1) * m.toNat ≤ A.length * m.toNat := Nat.mul_le_mul_right _ (by rw [← HnA.out]; exact hkn)
                rw [Nat.succ_mul] at h2
                omega
              have HS2 := Lib.hid (HNx.out.snoc (by omega))
              have hRC := RC.now
              have hRS := RS.now
              go_wp2_with (first
                | (go_at_call 28; go_loud (refine (l03Scale_z m (x : Int) (N + 1) _ (cocT m N) _ hRC (by omega) hm hm' (by omega) hxm HCo.out).mono ?_; rintro e w5 ⟨v5, rfl, ho5, hb5⟩; have hz5 := hb5.size))
                | (go_at_call 27; go_loud (refine (l03Add_z m (N + 1) _ _ s (scaT m (N + 1) x (cocT m N)) _ (hRS.below hb5 (Nat.le_refl _)) ho5.rd (by omega) hm hm' HFi.out.1 (tri_ok fun _ _ _ => mod_lt' (by omega))).mono ?_; rintro e w6 ⟨v6, rfl, ho6, hb6⟩; obtain ⟨o6, c6, rfl⟩ := ho6.shapeN (n := N + 1) (tri_len _ _); have hz6 := hb6.size))
                | (at_builtin; obtain ⟨W, hW⟩ : ∃ W : World, W = w6.alloc (.cells #[.slice o6 (N + 1) c6] 22) := ⟨_, rfl⟩; have hWb1 : Below w6.heap.size w6 W := (by rw [hW]; exact (by (repeat (first | exact bR _ _ | (refine bS ?_ _) | (refine bA ?_ _) | (refine bN ?_ _) | (refine bD ?_))))); have hWb : Below wr.heap.size wr W := hb5.trans ((hb6.trans (hWb1.mono hz6)).mono hz5); have hWz := hWb.size; have hU : Rdf w.heap.size [gB] W (fun x' => RdT x' (.slice o6 (N + 1) c6) (addT m (N + 1) s (scaT m (N + 1) x (cocT m N)))) := (ho6.rdf (S := [gB]) (by omega) (by simp; omega)).below hWb1; have hC0 : W.cell? ⟨w6.heap.size, 0, none⟩ = some (.slice o6 (N + 1) c6) := (by rw [hW]; simp); rw [← hW]; have HW := Lib.hid hW; clear hW; go_loud (refine apQT W rfl _ _ rfl w.heap.size wa.heap.size [] gB B.length cB B rfl (OB.below hWb) (by omega) _ _ w6.heap.size rfl hC0 rfl hU (by omega) ?_; intro g7 c7 w7 hO7 hgr hb7 hg7)))
              have hS7 : ∀ s', s' ∈ [g7] → s' ∈ [gB] ∨ W.heap.size ≤ s' ∨ s' < w.heap.size := by intro s' hs'; simp at hs'; subst hs'; rcases hg7 with h | h; exact .inl (by rw [h]; simp); exact .inr (.inl (by omega))
              have RC7 := (RC.below hWb).grown hgr (S' := [g7]) (by simp) hS7
              have RS7 := (RS.below hWb).grown hgr (S' := [g7]) (by simp) hS7
              have hB7 := (hBx.trans (hWb.mono hBxs)).trans hb7
              have hL7 : (B ++ [addT m (N + 1) s (scaT m (N + 1) x (cocT m N))]).length = B.length + 1 := by rw [List.length_append]; rfl
              have HL7 := Lib.hid hL7
              rw [← hL7] at hO7
              clear hL7
              exact ⟨⟨x + 1, g7, c7, _, by omega, by go_num, by rw [HL7.out], hO7, HS2, RC7, RS7, hB7⟩, by simp [intOf]; omega⟩
            · have hxe : x = m.toNat := by omega
              have i2 : ¬ (x : Int) < m := hxm
              have HN2 := Lib.hid (show Nxt m N A (k + 1) B from by
                have h := HNx.out
                rw [hxe] at h
                exact h.all HTk.out HFi.out)
              clear hxe
              go_wp2
              exact ⟨⟨k + 1, gB, cB, B, by omega, by go_num, rfl, OB, HN2, RC, hBx⟩, by simp [intOf]; omega⟩
        · obtain rfl : k = n := by omega
          have j1 : ¬ (k : Int) < (k : Int) := by omega
          have HA2 := Lib.hid (HA.out.next hN2 (by rw [← HnA.out]; exact HNx.out))
          have RB := OB.fix (S' := []) (by simp) (by omega) (by simp)
          have hBB := hB.trans (hBk.mono hBs)
          go_wp2
          exact ⟨⟨N + 1, gB, cB, B.length, by omega, by omega, by go_num, rfl, Lib.hid ⟨B, rfl, RB, HA2.out⟩, hBB⟩, by simp [intOf]; omega⟩
    · obtain rfl : N = D + 1 := by omega
      have i1 : ¬ ((D + 1 : Nat) : Int) ≤ (D : Int) := by omega
      have i1' : ¬ (D : Int) + 1 ≤ (D : Int) := by omega
      have RR := RA.rds (by simp)
      go_wp2
      go_ret
      exact ⟨g, c, n, rfl, Lib.hid ⟨A, HnA.out, RR, HA.out⟩, hB⟩
end Go.Proofs.YteijannfbafdpaaGreatDoor
