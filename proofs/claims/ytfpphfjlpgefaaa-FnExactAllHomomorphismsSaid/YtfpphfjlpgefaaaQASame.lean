/- Lemmas. -/
import Derived.Test.YtfpphfjlpgefaaaQAG2
set_option linter.unusedSimpArgs false
set_option linter.unusedVariables false
namespace Go.Proofs.Ytfpphfjlpgefaaa
open Go.RowKit

set_option maxHeartbeats 400000 in
theorem l01Same_c (v u : Value) (xs ys : List Int) (w : World) (hv : RdI w v xs) (hu : RdI w u ys) :
    Calls Try.prog 53 #[v, u] w fun e w' => e = .returned (.bool (eqLB xs ys)) ∧ ∃ n, w' = w.drewN n := by
  obtain ⟨o, c, rfl, hm, hc⟩ := hv
  obtain ⟨o', c', rfl, hm', hc'⟩ := hu
  unfold maxLen at hm hm'
  by_cases hlen : xs.length = ys.length
  · have hne : (((xs.length:Nat):Int) != ((ys.length:Nat):Int)) = false := by simp [hlen]
    have HL := Lib.hid hlen
    clear hlen
    go_enter Try.func53, Try.ntmps53
    go_wp2
    go_loopw [5] (fun i wr => ∃ k : Nat, k ≤ xs.length ∧ i = .int .i64 k ∧ Hid (xs.take k = ys.take k) ∧ ∃ n, wr = w.drewN n) (fun i _ => xs.length - (intOf i).toNat)
    case atStart => exact ⟨0, Nat.zero_le _, rfl, Lib.hid rfl, 0, rfl⟩
    case round =>
      obtain ⟨k, hk, rfl, HT, n, rfl⟩ := hrel
      by_cases hlt : k < xs.length
      · obtain ⟨b, off, rfl, hx⟩ := hc k (xs[k]) (by simp [hlt])
        obtain ⟨b', off', rfl, hy⟩ := hc' k (ys[k]'(by have := HL.out; omega)) (by simp)
        have hlt' : k < ys.length := by have := HL.out; omega
        go_wp2
        go_quiet (fail)
        go_wp2
        · have hne : xs[k] ≠ ys[k] := by have h : (xs[k] != ys[k]) = true := by assumption
                                         simpa using h
          go_ret
          exact ⟨by rw [eqLB_idx (k := k) (by simp) (by simp) hne]; rfl, n + nq, by simp⟩
        · have he : ys[k] = xs[k] := by have h : (xs[k] != ys[k]) = false := by assumption
                                        simpa using Eq.symm (by simpa using h)
          exact ⟨⟨k + 1, by omega, by go_num, Lib.hid (take_eq (x := xs[k]) (by simp) (by simp [← he]) HT.out), n + nq, rfl⟩, by simp [intOf]; omega⟩
      · go_wp2
        go_ret
        exact ⟨by rw [eqLB_take HL.out hlt HT.out]; rfl, n, rfl⟩
  · have hne : (((xs.length:Nat):Int) != ((ys.length:Nat):Int)) = true := by simp; omega
    have HL := Lib.hid hlen
    clear hlen
    go_enter Try.func53, Try.ntmps53
    go_wp2
    go_ret
    exact ⟨by rw [eqLB_ne (fun h => HL.out (by rw [h]))]; rfl, 0, rfl⟩
set_option maxHeartbeats 400000 in
theorem Equal_c (v u : Value) (xs ys : List Int) (w : World) (hv : RdI w v xs) (hu : RdI w u ys) :
    Calls Try.prog 65 #[v, u] w fun e w' => e = .returned (.bool (eqLB xs ys)) ∧ ∃ n, w' = w.drewN n := by
  obtain ⟨o, c, rfl, hm, hc⟩ := hv
  obtain ⟨o', c', rfl, hm', hc'⟩ := hu
  unfold maxLen at hm hm'
  by_cases hlen : xs.length = ys.length
  · have hne : (((xs.length:Nat):Int) != ((ys.length:Nat):Int)) = false := by simp [hlen]
    have HL := Lib.hid hlen
    clear hlen
    go_enter Try.func65, Try.ntmps65
    go_wp2
    go_loopw [13] (fun i wr => ∃ k : Nat, k ≤ xs.length ∧ i = .int .i64 k ∧ Hid (xs.take k = ys.take k) ∧ ∃ n, wr = w.drewN n) (fun i _ => xs.length - (intOf i).toNat)
    case atStart => exact ⟨0, Nat.zero_le _, rfl, Lib.hid rfl, 0, rfl⟩
    case round =>
      obtain ⟨k, hk, rfl, HT, n, rfl⟩ := hrel
      by_cases hlt : k < xs.length
      · obtain ⟨b, off, rfl, hx⟩ := hc k (xs[k]) (by simp [hlt])
        obtain ⟨b', off', rfl, hy⟩ := hc' k (ys[k]'(by have := HL.out; omega)) (by simp)
        have hlt' : k < ys.length := by have := HL.out; omega
        go_wp2
        go_quiet (fail)
        go_wp2
        · have hne : xs[k] ≠ ys[k] := by have h : (xs[k] != ys[k]) = true := by assumption
                                         simpa using h
          go_ret
          exact ⟨by rw [eqLB_idx (k := k) (by simp) (by simp) hne]; rfl, n + nq, by simp⟩
        · have he : ys[k] = xs[k] := by have h : (xs[k] != ys[k]) = false := by assumption
                                        simpa using Eq.symm (by simpa using h)
          exact ⟨⟨k + 1, by omega, by go_num, Lib.hid (take_eq (x := xs[k]) (by simp) (by simp [← he]) HT.out), n + nq, rfl⟩, by simp [intOf]; omega⟩
      · go_wp2
        go_ret
        exact ⟨by rw [eqLB_take HL.out hlt HT.out]; rfl, n, rfl⟩
  · have hne : (((xs.length:Nat):Int) != ((ys.length:Nat):Int)) = true := by simp; omega
    have HL := Lib.hid hlen
    clear hlen
    go_enter Try.func65, Try.ntmps65
    go_wp2
    go_ret
    exact ⟨by rw [eqLB_ne (fun h => HL.out (by rw [h]))]; rfl, 0, rfl⟩
set_option maxHeartbeats 1000000 in
theorem l01Same2_c (v u : Value) (xss yss : List (List Int)) (w : World) (hv : RdT w v xss) (hu : RdT w u yss) :
    Calls Try.prog 41 #[v, u] w fun e w' => e = .returned (.bool (eqTB xss yss)) ∧ ∃ n, w' = w.drewN n := by
  obtain ⟨o, c, rfl, hm, -⟩ := id hv
  obtain ⟨o', c', rfl, hm', -⟩ := id hu
  unfold maxLen at hm hm'
  by_cases hlen : xss.length = yss.length
  · have hne : (((xss.length:Nat):Int) != ((yss.length:Nat):Int)) = false := by simp [hlen]
    have HL := Lib.hid hlen
    clear hlen
    go_enter Try.func41, Try.ntmps41
    go_wp2
    go_loopw [5] (fun i wr => ∃ k : Nat, k ≤ xss.length ∧ i = .int .i64 k ∧ Hid (xss.take k = yss.take k) ∧ ∃ n, wr = w.drewN n) (fun i _ => xss.length - (intOf i).toNat)
    case atStart => exact ⟨0, Nat.zero_le _, rfl, Lib.hid rfl, 0, rfl⟩
    case round =>
      obtain ⟨k, hk, rfl, HT, n, rfl⟩ := hrel
      by_cases hlt : k < xss.length
      · have hly : k < yss.length := by have := HL.out; omega
        obtain ⟨b, off, rfl, -⟩ := hv.rows (by omega)
        obtain ⟨b', off', rfl, -⟩ := hu.rows (by omega)
        obtain ⟨o1, c1, hx, hr⟩ := hv.row (show xss[k]? = some xss[k] by simp [hlt])
        obtain ⟨o2, c2, hy, hs⟩ := hu.row (show yss[k]? = some yss[k] by simp [hly])
        cases he : eqLB xss[k] yss[k]
        · go_wp2
          go_quiet ((go_at_call 53; (first | exact quietA (by rw [he]) (l01Same_c _ _ xss[k] yss[k] _ hr hs) | exact quietB (by rw [he]) (l01Same_c _ _ xss[k] yss[k] _ hr hs) | exact quietC (by rw [he]) (l01Same_c _ _ xss[k] yss[k] _ hr hs) | exact quietD (by rw [he]) (l01Same_c _ _ xss[k] yss[k] _ hr hs))))
          go_wp2
          go_ret
          exact ⟨by rw [eqTB_idx (k := k) (by simp [hlt]) (by simp [hly]) he]; rfl, n + nq, by simp⟩
        · go_wp2
          go_quiet ((go_at_call 53; (first | exact quietA (by rw [he]) (l01Same_c _ _ xss[k] yss[k] _ hr hs) | exact quietB (by rw [he]) (l01Same_c _ _ xss[k] yss[k] _ hr hs) | exact quietC (by rw [he]) (l01Same_c _ _ xss[k] yss[k] _ hr hs) | exact quietD (by rw [he]) (l01Same_c _ _ xss[k] yss[k] _ hr hs))))
          go_wp2
          exact ⟨⟨k + 1, by omega, by go_num, Lib.hid (takeT_eq (by simp [hlt]) (by simp [hly]) he HT.out), _, rfl⟩, by simp [intOf]; omega⟩
      · go_wp2
        go_ret
        exact ⟨by rw [eqTB_take HL.out hlt HT.out]; rfl, n, rfl⟩
  · have hne : (((xss.length:Nat):Int) != ((yss.length:Nat):Int)) = true := by simp; omega
    have HL := Lib.hid hlen
    clear hlen
    go_enter Try.func41, Try.ntmps41
    go_wp2
    go_ret
    exact ⟨by rw [eqTB_ne (fun h => HL.out (by rw [h]))]; rfl, 0, rfl⟩

set_option maxHeartbeats 400000 in
theorem same1_c (v u : Value) (xs ys : List Int) (w : World) (hv : RdI w v xs) (hu : RdI w u ys) :
    Calls Try.prog 64 #[v, u] w fun e w' => e = .returned (.bool (eqLB xs ys)) ∧ ∃ n, w' = w.drewN n := by
  go_enter Try.func64, Try.ntmps64
  go_wp2_with fail
  refine (Equal_c v u xs ys _ hv hu).mono ?_
  rintro e w' ⟨rfl, n, rfl⟩
  go_wp2
  go_ret
  exact ⟨rfl, n, rfl⟩
theorem same1_callable : Callable 64 := fun args w => Try.call64 args w

set_option maxHeartbeats 1000000 in
theorem EqualFunc_c (v u : Value) (xss yss : List (List Int)) (w : World) (hv : RdT w v xss) (hu : RdT w u yss) :
    Calls Try.prog 63 #[v, u, .func (.func 64) #[] #[]] w fun e w' => e = .returned (.bool (eqTB xss yss)) ∧ ∃ n, w' = w.drewN n := by
  obtain ⟨o, c, rfl, hm, -⟩ := id hv
  obtain ⟨o', c', rfl, hm', -⟩ := id hu
  unfold maxLen at hm hm'
  have hG := same1_callable
  unfold Callable at hG
  by_cases hlen : xss.length = yss.length
  · have hne : (((xss.length:Nat):Int) != ((yss.length:Nat):Int)) = false := by simp [hlen]
    have HL := Lib.hid hlen
    clear hlen
    go_enter Try.func63, Try.ntmps63
    go_wp2
    go_loopw [17] (fun i wr => ∃ k : Nat, k ≤ xss.length ∧ i = .int .i64 k ∧ Hid (xss.take k = yss.take k) ∧ ∃ n, wr = w.drewN n) (fun i _ => xss.length - (intOf i).toNat)
    case atStart => exact ⟨0, Nat.zero_le _, rfl, Lib.hid rfl, 0, rfl⟩
    case round =>
      obtain ⟨k, hk, rfl, HT, n, rfl⟩ := hrel
      by_cases hlt : k < xss.length
      · have hly : k < yss.length := by have := HL.out; omega
        obtain ⟨b, off, rfl, -⟩ := hv.rows (by omega)
        obtain ⟨b', off', rfl, -⟩ := hu.rows (by omega)
        obtain ⟨o1, c1, hx, hr⟩ := hv.row (show xss[k]? = some xss[k] by simp [hlt])
        obtain ⟨o2, c2, hy, hs⟩ := hu.row (show yss[k]? = some yss[k] by simp [hly])
        have i0 : (0 : Int) ≤ (k : Int) := by omega
        have i1 : (k : Int) < (xss.length : Int) := by omega
        have i2 : (k : Int) < (yss.length : Int) := by omega
        have hr' := hr.below (w' := w.drewN n) (below_drewN (Below.refl _ _) _) (Nat.le_refl _)
        have hs' := hs.below (w' := w.drewN n) (below_drewN (Below.refl _ _) _) (Nat.le_refl _)
        cases he : eqLB xss[k] yss[k]
        · go_wp2_with fail
          refine (same1_c _ _ xss[k] yss[k] _ hr' hs').mono ?_
          rw [he]
          rintro e w' ⟨rfl, d, rfl⟩
          go_wp2
          go_ret
          exact ⟨by rw [eqTB_idx (k := k) (by simp [hlt]) (by simp [hly]) he]; rfl, n + d, by first | rfl | rw [World.drewN_drewN]⟩
        · go_wp2_with fail
          refine (same1_c _ _ xss[k] yss[k] _ hr' hs').mono ?_
          rw [he]
          rintro e w' ⟨rfl, d, rfl⟩
          go_wp2
          exact ⟨⟨k + 1, by omega, by go_num, Lib.hid (takeT_eq (by simp [hlt]) (by simp [hly]) he HT.out), n + d, by first | rfl | rw [World.drewN_drewN]⟩, by simp [intOf]; omega⟩
      · go_wp2
        go_ret
        exact ⟨by rw [eqTB_take HL.out hlt HT.out]; rfl, n, rfl⟩
  · have hne : (((xss.length:Nat):Int) != ((yss.length:Nat):Int)) = true := by simp; omega
    have HL := Lib.hid hlen
    clear hlen
    go_enter Try.func63, Try.ntmps63
    go_wp2
    go_ret
    exact ⟨by rw [eqTB_ne (fun h => HL.out (by rw [h]))]; rfl, 0, rfl⟩

set_option maxHeartbeats 1000000 in
theorem sameP_c (m n : Int) (v u : Value) (xss yss : List (List Int)) (w : World) (hv : RdT w v xss) (hu : RdT w u yss) :
    Calls Try.prog 49 #[.agg #[.int .i64 m, v], .agg #[.int .i64 n, u]] w fun e w' => e = .returned (.bool (eqPB m xss n yss)) ∧ Below w.heap.size w w' := by
  obtain ⟨o, c, rfl, -, -⟩ := id hv
  obtain ⟨o', c', rfl, -, -⟩ := id hu
  cases h1 : (m == n)
  · go_enter Try.func49, Try.ntmps49
    go_wp2_with fail
    (have X0 := ((RB2.mk1 w  (.int .i64 m) (.slice o xss.length c) 29).1).below (w' := ((w.alloc (.cells #[.int .i64 m, .slice o xss.length c] 29)).alloc (.cells #[.int .i64 n, .slice o' yss.length c'] 29))) (by (repeat (first | exact bR _ _ | (refine bS ?_ _) | (refine bA ?_ _) | (refine bN ?_ _) | (refine bD ?_)))) (Nat.le_refl _); have Y0 := ((RB2.mk2 w (.cells #[.int .i64 m, .slice o xss.length c] 29) (.int .i64 n) (.slice o' yss.length c') 29).1).below (w' := ((w.alloc (.cells #[.int .i64 m, .slice o xss.length c] 29)).alloc (.cells #[.int .i64 n, .slice o' yss.length c'] 29))) (by (repeat (first | exact bR _ _ | (refine bS ?_ _) | (refine bA ?_ _) | (refine bN ?_ _) | (refine bD ?_)))) (Nat.le_refl _); have B0 : Below w.heap.size w ((w.alloc (.cells #[.int .i64 m, .slice o xss.length c] 29)).alloc (.cells #[.int .i64 n, .slice o' yss.length c'] 29)) := (by (repeat (first | exact bR _ _ | (refine bS ?_ _) | (refine bA ?_ _) | (refine bN ?_ _) | (refine bD ?_)))); generalize (w.alloc (.cells #[.int .i64 m, .slice o xss.length c] 29)).alloc (.cells #[.int .i64 n, .slice o' yss.length c'] 29) = w0 at X0 Y0 B0  ⊢)
    obtain ⟨x0, x1⟩ := id X0
    obtain ⟨y0, y1⟩ := id Y0
    go_wp2
    go_ret
    exact ⟨by simp only [eqPB, h1]; rfl, B0⟩
  · have HE := Lib.hid (show eqPB m xss n yss = eqTB xss yss by simp only [eqPB, h1, Bool.true_and])
    go_enter Try.func49, Try.ntmps49
    go_wp2_with fail
    (have X0 := ((RB2.mk1 w  (.int .i64 m) (.slice o xss.length c) 29).1).below (w' := ((w.alloc (.cells #[.int .i64 m, .slice o xss.length c] 29)).alloc (.cells #[.int .i64 n, .slice o' yss.length c'] 29))) (by (repeat (first | exact bR _ _ | (refine bS ?_ _) | (refine bA ?_ _) | (refine bN ?_ _) | (refine bD ?_)))) (Nat.le_refl _); have Y0 := ((RB2.mk2 w (.cells #[.int .i64 m, .slice o xss.length c] 29) (.int .i64 n) (.slice o' yss.length c') 29).1).below (w' := ((w.alloc (.cells #[.int .i64 m, .slice o xss.length c] 29)).alloc (.cells #[.int .i64 n, .slice o' yss.length c'] 29))) (by (repeat (first | exact bR _ _ | (refine bS ?_ _) | (refine bA ?_ _) | (refine bN ?_ _) | (refine bD ?_)))) (Nat.le_refl _); have B0 : Below w.heap.size w ((w.alloc (.cells #[.int .i64 m, .slice o xss.length c] 29)).alloc (.cells #[.int .i64 n, .slice o' yss.length c'] 29)) := (by (repeat (first | exact bR _ _ | (refine bS ?_ _) | (refine bA ?_ _) | (refine bN ?_ _) | (refine bD ?_)))); have hv0 := hv.below (w' := ((w.alloc (.cells #[.int .i64 m, .slice o xss.length c] 29)).alloc (.cells #[.int .i64 n, .slice o' yss.length c'] 29))) (by (repeat (first | exact bR _ _ | (refine bS ?_ _) | (refine bA ?_ _) | (refine bN ?_ _) | (refine bD ?_)))) (Nat.le_refl _); have hu0 := hu.below (w' := ((w.alloc (.cells #[.int .i64 m, .slice o xss.length c] 29)).alloc (.cells #[.int .i64 n, .slice o' yss.length c'] 29))) (by (repeat (first | exact bR _ _ | (refine bS ?_ _) | (refine bA ?_ _) | (refine bN ?_ _) | (refine bD ?_)))) (Nat.le_refl _); generalize (w.alloc (.cells #[.int .i64 m, .slice o xss.length c] 29)).alloc (.cells #[.int .i64 n, .slice o' yss.length c'] 29) = w0 at X0 Y0 B0 hv0 hu0 ⊢)
    obtain ⟨x0, x1⟩ := id X0
    obtain ⟨y0, y1⟩ := id Y0
    go_wp2_with fail
    refine (EqualFunc_c _ _ xss yss _ hv0 hu0).mono ?_
    rintro e w1 ⟨rfl, d, rfl⟩
    cases he : eqTB xss yss
    all_goals
      go_wp2
      go_ret
      exact ⟨by rw [HE.out, he]; rfl, (by (repeat (first | exact bR _ _ | (refine bS ?_ _) | (refine bA ?_ _) | (refine bN ?_ _) | (refine bD ?_) | (refine bT ?_ B0))))⟩

end Go.Proofs.Ytfpphfjlpgefaaa
