/- Lemmas of G22. -/
import Derived.Test.YtoednonijmkbjaaGreatVPaI
import Derived.Test.YtoednonijmkbjaaGreatVG9
/- The parameters of a typical law: the reference. -/
set_option linter.unusedSimpArgs false
set_option linter.unusedVariables false
namespace Go.Proofs.YtoednonijmkbjaaGreat
open Go.RowKit

theorem lit_gen {w : World} {y : Int} {P : World → Prop} (h : ∀ w', RdI w' (.slice (some ⟨w.heap.size, 0, none⟩) 1 1) [y] → Below w.heap.size w w' → w.heap.size < w'.heap.size → P w') : P (w.alloc (.cells #[.int .i64 y] 2)) := by
  refine h _ ?_ (by (repeat (first | exact Below.refl _ _ | (refine Below.setCell ?_ (by first | (simp; done) | (simp; omega) | omega) _) | (refine Below.alloc ?_ (by first | (simp; done) | (simp; omega) | omega) _) | (refine below_drewN ?_ _) | (refine Below.drew ?_)))) (by simp)
  have := OwI.lit w [y] (by show 1 ≤ maxLen; decide)
  simp at this
  exact this.rd
theorem own_cases {p : Nat} {m : Int} {t : List (List Int)} {n : Nat} {ls : List Int} : ownF p m t n ls = -1 ∨ (0 ≤ ownF p m t n ls ∧ ownF p m t n ls < m) := by
  unfold ownF
  rcases facTo_cases m (laz n) (fun i => (atT (typT2 p m n ls) i (n - i) - atT (cutT (n + 1) t) i (n - i)) % m) (n + 1) m.toNat with e | ⟨k, hk, e, _⟩
  · exact .inl e
  · exact .inr (by rw [e]; omega)
theorem lit_gen_d {w : World} {y : Int} {P : World → Prop} (h : ∀ w', RdI w' (.slice (some ⟨w.heap.size, 0, none⟩) 1 1) [y] → Below w.heap.size w w' → w.heap.size < w'.heap.size → P w') : P (w.alloc (.cells #[.int .i64 y] 2)).drew := by
  refine h _ ?_ (by (repeat (first | exact Below.refl _ _ | (refine Below.setCell ?_ (by first | (simp; done) | (simp; omega) | omega) _) | (refine Below.alloc ?_ (by first | (simp; done) | (simp; omega) | omega) _) | (refine below_drewN ?_ _) | (refine Below.drew ?_)))) (by simp)
  have := OwI.lit w [y] (by show 1 ≤ maxLen; decide)
  simp at this
  exact (this.drewN 1).rd
theorem parS_succ {p : Nat} {m : Int} {t : List (List Int)} {k : Nat} {ls : List Int} (h : parS p m t k = some ls) (ha : 0 ≤ ownF p m t (p ^ (k + 1)) ls) : parS p m t (k + 1) = some (ls ++ [ownF p m t (p ^ (k + 1)) ls]) := by
  unfold parS; rw [h]; simp only; rw [if_pos ha]
theorem parS_fail {p : Nat} {m : Int} {t : List (List Int)} {k : Nat} {ls : List Int} (h : parS p m t k = some ls) (ha : ¬ 0 ≤ ownF p m t (p ^ (k + 1)) ls) : ∀ j, parS p m t (k + 1 + j) = none
  | 0 => by
    show parS p m t (k + 1) = none
    unfold parS; rw [h]; simp only; rw [if_neg ha]
  | j + 1 => by
    show parS p m t (k + 1 + j + 1) = none
    unfold parS; rw [parS_fail h ha j]
theorem l09Law_t (p n : Nat) (m : Int) (v : Value) (ls : List Int) (w : World) (hv : RdI w v ls) (hp : P4 p) (n1 : 1 ≤ n) (hn : n ≤ 10) (hm : 2 ≤ m) (hm' : m ≤ 10000) (hl : ls.length ≤ 3) (hx : ∀ x ∈ ls, 0 ≤ x ∧ x < m) :
    Calls Tryz.prog 44 #[.int .i64 p, .int .i64 m, .int .i64 n, v] w fun e w' => ∃ v', e = .returned v' ∧ OwS w' w.heap.size v' (typT2 p m n ls) ∧ Below w.heap.size w w' := by
  have hp2 := hp.pos
  obtain ⟨-, k2, -, -⟩ := most_key hp hn (Nat.le_refl (mostOf p n))
  have hW2 : 2 ≤ m * ((p ^ mostOf p n : Nat) : Int) * p := by
    have hpw := (hp.pow9 (show mostOf p n ≤ 10 by omega)).1
    have h1 := Int.mul_le_mul hm (show (1 : Int) ≤ ((p ^ mostOf p n : Nat) : Int) by omega) (by omega) (by omega)
    have h2 := Int.mul_le_mul h1 (show (1 : Int) ≤ p by omega) (by omega) (by omega)
    omega
  have h := l09Law_c p n m v ls w hv hp n1 hn hm hm' hl (fun x hx' => ⟨(hx x hx').1, by have := (hx x hx').2; omega⟩) _ rfl _ rfl _ rfl
  rw [ref_tab hp n1 hn (m := m) (v := at0 (ls ++ List.replicate (3 - ls.length) (0 : Int))) (by omega) rfl hW2 (fun i hi => by rw [mk_at (by omega), mod_self_mod])] at h
  exact h
theorem l01Same2_b (v u : Value) (xss yss : List (List Int)) (w : World) (hv : RdT w v xss) (hu : RdT w u yss) :
    Calls Tryz.prog 70 #[v, u] w fun e w' => e = .returned (.bool (eqTB xss yss)) ∧ Below w.heap.size w w' :=
  (l01Same2_c v u xss yss w hv hu).mono fun e w' ⟨h1, d, h2⟩ => ⟨h1, by rw [h2]; exact (by (repeat (first | exact Below.refl _ _ | (refine Below.setCell ?_ (by first | (simp; done) | (simp; omega) | omega) _) | (refine Below.alloc ?_ (by first | (simp; done) | (simp; omega) | omega) _) | (refine below_drewN ?_ _) | (refine Below.drew ?_))))⟩

set_option maxHeartbeats 1000000 in
set_option maxRecDepth 100000 in
theorem l09Parameters_c (p D : Nat) (m : Int) (v : Value) (t : List (List Int)) (w : World) (hv : RdT w v t) (hp : P4 p) (hD1 : 1 ≤ D) (hD : D ≤ 10) (hm : 2 ≤ m) (hm' : m ≤ 10000) (ht : PlaT m (D + 1) t) :
    Calls Tryz.prog 36 #[.int .i64 p, .agg #[.int .i64 m, v]] w fun e w' => ∃ v', e = .returned (.tuple #[v', .bool (parR p m t D).isSome]) ∧ (∀ ls, parR p m t D = some ls → OwI w' w.heap.size v' ls) ∧ Below w.heap.size w w' := by
  obtain ⟨o, c, rfl, hmx, -⟩ := id hv
  rw [ht.1] at hmx ⊢
  have hv' : RdT w (.slice o (D + 1) c) t := by rw [ht.1] at hv; exact hv
  have HT := Lib.hid ht
  have hp2 := hp.pos
  clear hv ht
  obtain ⟨M, hM⟩ : ∃ M, M = mostOf p D := ⟨_, rfl⟩
  have HM := Lib.hid hM
  have hM3 : M ≤ 3 := by rw [hM]; exact most_3 hp hD
  clear hM
  go_enter Tryz.func36, Tryz.ntmps36
  go_wp2_with fail
  (have X0 := ((RB2.mk1 w  (.int .i64 m) (.slice o (D + 1) c) 31).1).below (w' := (w.alloc (.cells #[.int .i64 m, .slice o (D + 1) c] 31))) (by (repeat (first | exact Below.refl _ _ | (refine Below.setCell ?_ (by first | (simp; done) | (simp; omega) | omega) _) | (refine Below.alloc ?_ (by first | (simp; done) | (simp; omega) | omega) _) | (refine below_drewN ?_ _) | (refine Below.drew ?_)))) (Nat.le_refl _); have B0 : Below w.heap.size w (w.alloc (.cells #[.int .i64 m, .slice o (D + 1) c] 31)) := (by (repeat (first | exact Below.refl _ _ | (refine Below.setCell ?_ (by first | (simp; done) | (simp; omega) | omega) _) | (refine Below.alloc ?_ (by first | (simp; done) | (simp; omega) | omega) _) | (refine below_drewN ?_ _) | (refine Below.drew ?_)))); have hv'0 := hv'.below (w' := (w.alloc (.cells #[.int .i64 m, .slice o (D + 1) c] 31))) (by (repeat (first | exact Below.refl _ _ | (refine Below.setCell ?_ (by first | (simp; done) | (simp; omega) | omega) _) | (refine Below.alloc ?_ (by first | (simp; done) | (simp; omega) | omega) _) | (refine below_drewN ?_ _) | (refine Below.drew ?_)))) (Nat.le_refl _); generalize w.alloc (.cells #[.int .i64 m, .slice o (D + 1) c] 31) = w0 at X0 B0 hv'0 ⊢)
  refine (l03Degree_c m o (D + 1) c _ hmx.1).mono ?_
  rintro e w1 ⟨rfl, hb⟩
  (have X1 := X0.below hb (Nat.le_refl _); have hv'1 := hv'0.below hb (Nat.le_refl _); have B1 := B0.trans (hb.mono B0.size))
  clear hb
  go_wp2_with fail
  refine (l09Most_c p D _ hp hD).mono ?_
  rintro e w2 ⟨rfl, rfl⟩
  rw [← HM.out]
  go_wp2_with fail
  have O2 := OwI.lit w1 [] (by decide)
  simp at O2
  have hbA : Below w1.heap.size w1 (w1.alloc (.cells #[] 2)) := (by (repeat (first | exact Below.refl _ _ | (refine Below.setCell ?_ (by first | (simp; done) | (simp; omega) | omega) _) | (refine Below.alloc ?_ (by first | (simp; done) | (simp; omega) | omega) _) | (refine below_drewN ?_ _) | (refine Below.drew ?_))))
  generalize w1.alloc (.cells #[] 2) = w2 at O2 hbA ⊢
  have B1s := B1.size
  have X1l := X1.lt
  go_loopw [9, 10, 11] (fun s pw i wr => ∃ (q : Nat) (ls : List Int), q ≤ M ∧ pw = .int .i64 ((p ^ q : Nat) : Int) ∧ i = .int .i64 ((q : Int) + 1) ∧ ls.length = q ∧ Hid (parS p m t q = some ls) ∧ (∀ x ∈ ls, 0 ≤ x ∧ x < m) ∧ OwI wr w1.heap.size s ls ∧ Below w1.heap.size w1 wr) (fun _ _ i _ => M + 1 - (intOf i).toNat)
  case atStart => exact ⟨0, [], Nat.zero_le _, by simp, rfl, rfl, Lib.hid rfl, by simp, O2, hbA⟩
  case round =>
    clear O2 hbA
    obtain ⟨q, ls, hq, rfl, rfl, hlq, HK, hlr, hO, hB⟩ := hrel
    obtain ⟨ov, cv, rfl⟩ := hO.shapeN (n := q) hlq
    have Xw := X1.below hB (Nat.le_refl _)
    have hvw := hv'1.below hB (Nat.le_refl _)
    have Bw := B1.trans (hB.mono B1s)
    have hBs := hB.size
    obtain ⟨x0, x1⟩ := id Xw
    by_cases hlt : q < M
    · have i1 : (q : Int) + 1 ≤ (M : Int) := by omega
      have hkn : p ^ (q + 1) ≤ D := (most_key hp hD (show q ≤ mostOf p D by rw [← HM.out]; omega)).2.2.1.2 (by rw [← HM.out]; exact hlt)
      have hgt := pow_gt hp2.1 (q + 1)
      have hpp : p ^ q * p = p ^ (q + 1) := (Nat.pow_succ ..).symm
      have e1 : IntKind.i64.wrap (((p ^ q : Nat) : Int) * (p : Int)) = ((p ^ (q + 1) : Nat) : Int) := by
        have h : ((p ^ q : Nat) : Int) * (p : Int) = ((p ^ q * p : Nat) : Int) := by simp
        rw [h, hpp]; exact IntWalk.i64_in _ (by omega)
      have HN : Hid (∃ n, n = p ^ (q + 1)) := Lib.hid ⟨_, rfl⟩
      obtain ⟨n, hn⟩ := HN.out
      rw [← hn] at hkn hgt e1
      have hRk := HK.out
      have HKs : Hid (0 ≤ ownF p m t n ls → parS p m t (q + 1) = some (ls ++ [ownF p m t n ls])) := Lib.hid (fun ha => by
        rw [hn] at ha ⊢
        exact parS_succ hRk ha)
      have HKf : Hid (¬ 0 ≤ ownF p m t n ls → parR p m t D = none) := Lib.hid (fun ha => by
        unfold parR
        have := parS_fail hRk (by rw [hn] at ha; exact ha) (M - (q + 1))
        rw [show q + 1 + (M - (q + 1)) = M by omega, HM.out] at this
        rw [this])
      have HNn := Lib.hid hn
      clear hn HN hRk hpp
      generalize p ^ q = P0 at e1 ⊢
      have hOr := hO.rd
      have x0l : w.heap.size < wr.heap.size := Xw.lt
      go_wp2_with fail
      have hpadl : (ls ++ [(0 : Int)]).length ≤ 3 := by simp; omega
      have hpadr : ∀ x ∈ ls ++ [(0 : Int)], 0 ≤ x ∧ x < m := by
        intro x hx
        rcases List.mem_append.1 hx with h | h
        · exact hlr x h
        · rw [List.mem_singleton.1 h]; omega
      have HLn := Lib.hid (show (ls ++ [(0 : Int)]).length = q + 1 by simp; omega)
      go_cut [12] from 31 to 39 (fun s u => ∃ (wz : World) (oc : Option Addr) (cc : Nat), wz = u ∧ s = .slice oc (n + 1) cc ∧ RdT u (.slice oc (n + 1) cc) (typT2 p m n ls) ∧ Below wr.heap.size wr u)
      case first =>
        have hd0 : Below wr.heap.size wr wr.drew := (Below.refl _ _).drew
        refine wp_region_K (S := fun w' => w'.cell? ⟨w.heap.size, 0, none⟩ = some (.int .i64 m)) [8, 9] (by kernel_rfl) ?_
        have hHeld : (fun w' : World => w'.cell? ⟨w.heap.size, 0, none⟩ = some (.int .i64 m)) wr.drew := by go_keep
        refine' wpAnyK_takeL (i := 0) (v := _) rfl (by kernel_rfl) (by kernel_rfl) (by kernel_rfl) (by kernel_rfl) (fun _ _ _ h => h) (Or.inl ⟨by rfl, ?yT1⟩) hHeld ?rT1
        case yT1 => (intro w' hSw; (try dsimp only at hSw); go_simp; try with_reducible rfl)
        try simp only [List.getElem_toArray, List.getElem_cons_zero, List.getElem_cons_succ, Act.put, List.setIfInBounds_toArray, List.set_cons_zero, List.set_cons_succ]
        refine' wpAnyK_takeL (i := 1) (v := _) rfl (by kernel_rfl) (by kernel_rfl) (by kernel_rfl) (by kernel_rfl) (fun _ _ _ h => h) (Or.inl ⟨by rfl, ?yT2⟩) hHeld ?rT2
        case yT2 => (intro w' hSw; (try dsimp only at hSw); go_simp; try with_reducible rfl)
        try simp only [List.getElem_toArray, List.getElem_cons_zero, List.getElem_cons_succ, Act.put, List.setIfInBounds_toArray, List.set_cons_zero, List.set_cons_succ]
        refine' wpAnyK_takeL (i := 2) (v := _) rfl (by kernel_rfl) (by kernel_rfl) (by kernel_rfl) (by kernel_rfl) (fun _ _ _ h => h) (Or.inl ⟨by rfl, ?yT3⟩) hHeld ?rT3
        case yT3 => (intro w' hSw; (try dsimp only at hSw); go_simp; try with_reducible rfl)
        try simp only [List.getElem_toArray, List.getElem_cons_zero, List.getElem_cons_succ, Act.put, List.setIfInBounds_toArray, List.set_cons_zero, List.set_cons_succ]
        refine' wpAnyK_takeL (i := 3) (v := _) rfl (by kernel_rfl) (by kernel_rfl) (by kernel_rfl) (by kernel_rfl) (fun _ _ _ h => h) (Or.inl ⟨by rfl, ?yT4⟩) hHeld ?rT4
        case yT4 => (intro w' hSw; (try dsimp only at hSw); go_simp; try with_reducible rfl)
        try simp only [List.getElem_toArray, List.getElem_cons_zero, List.getElem_cons_succ, Act.put, List.setIfInBounds_toArray, List.set_cons_zero, List.set_cons_succ]
        refine' wpAnyK_takeL (i := 4) (v := _) rfl (by kernel_rfl) (by kernel_rfl) (by kernel_rfl) (by kernel_rfl) (fun _ _ _ h => h) (Or.inl ⟨by rfl, ?yT5⟩) hHeld ?rT5
        case yT5 => (intro w' hSw; (try dsimp only at hSw); go_simp; try with_reducible rfl)
        try simp only [List.getElem_toArray, List.getElem_cons_zero, List.getElem_cons_succ, Act.put, List.setIfInBounds_toArray, List.set_cons_zero, List.set_cons_succ]
        refine wpAnyK_two (i := 5) (j := 6) rfl rfl (by kernel_rfl) (fun K hK => ?_) (fun K hK => ?_)
        · skip
          go_simp
          go_at_call 69
          refine (l01OwnA_c _ ls _ (hOr.below (by (repeat (first | exact Below.refl _ _ | (refine Below.setCell ?_ (by first | (simp; done) | (simp; omega) | omega) _) | (refine Below.alloc ?_ (by first | (simp; done) | (simp; omega) | omega) _) | (refine below_drewN ?_ _) | (refine Below.drew ?_)))) (Nat.le_refl _)) (by omega)).mono ?_
          rintro e wo ⟨go, co, rfl, hoo, hbo⟩
          rw [hlq] at hoo ⊢
          have hdo : Below wr.heap.size wr wo := (by (repeat (first | exact Below.refl _ _ | (refine Below.setCell ?_ (by first | (simp; done) | (simp; omega) | omega) _) | (refine Below.alloc ?_ (by first | (simp; done) | (simp; omega) | omega) _) | (refine below_drewN ?_ _) | (refine Below.drew ?_) | (refine Below.trans ?_ (Below.mono hbo (by first | (simp; done) | (simp; omega) | omega))))))
          have hso := hbo.size
          (try simp at hso)
          have hxo := keep_cell hdo (Nat.le_refl _) x0
          go_wp2_with fail
          clear hHeld
          have hHeld : (fun w' : World => w'.cell? ⟨w.heap.size, 0, none⟩ = some (.int .i64 m)) wo := by go_keep
          refine hK.out _ _ (fun _ => hHeld) ?_
          clear hK K
          try simp only [List.getElem_toArray, List.getElem_cons_zero, List.getElem_cons_succ, Act.put, List.setIfInBounds_toArray, List.set_cons_zero, List.set_cons_succ]
          refine wpAnyK_oneL (i := 6) rfl (by kernel_rfl) (fun K hK => ?_)
          go_simp
          (try go_wp2_with fail)
          (first | refine lit_gen ?_ | refine lit_gen_d ?_)
          intro wl hrl hbl hsl
          (try simp at hsl)
          have hdl : Below wr.heap.size wr wl := (by (repeat (first | exact Below.refl _ _ | (refine Below.setCell ?_ (by first | (simp; done) | (simp; omega) | omega) _) | (refine Below.alloc ?_ (by first | (simp; done) | (simp; omega) | omega) _) | (refine below_drewN ?_ _) | (refine Below.drew ?_) | (refine Below.trans ?_ (Below.mono hbo (by first | (simp; done) | (simp; omega) | omega))) | (refine Below.trans ?_ (Below.mono hbl (by first | (simp; done) | (simp; omega) | omega))))))
          have hxl := keep_cell hdl (Nat.le_refl _) x0
          clear hHeld
          have hHeld : (fun w' : World => w'.cell? ⟨w.heap.size, 0, none⟩ = some (.int .i64 m)) wl := by go_keep
          refine hK.out _ _ (fun _ => hHeld) ?_
          clear hK K
          try simp only [List.getElem_toArray, List.getElem_cons_zero, List.getElem_cons_succ, Act.put, List.setIfInBounds_toArray, List.set_cons_zero, List.set_cons_succ]
          refine wpAnyK_oneL (i := 7) rfl (by kernel_rfl) (fun K hK => ?_)
          refine stR _ rfl _ _ rfl wr.heap.size (.slice (some ⟨go, 0, none⟩) q co) ls rfl ((hoo.below (by (repeat (first | exact Below.refl _ _ | (refine Below.setCell ?_ (by first | (simp; done) | (simp; omega) | omega) _) | (refine Below.alloc ?_ (by first | (simp; done) | (simp; omega) | omega) _) | (refine below_drewN ?_ _) | (refine Below.drew ?_) | (refine Below.trans ?_ (Below.mono hbo (by first | (simp; done) | (simp; omega) | omega))) | (refine Below.trans ?_ (Below.mono hbl (by first | (simp; done) | (simp; omega) | omega))))))).mono (by first | (simp; done) | (simp; omega) | omega)) ⟨_, 0, none⟩ 1 1 [0] rfl (hrl.below (by (repeat (first | exact Below.refl _ _ | (refine Below.setCell ?_ (by first | (simp; done) | (simp; omega) | omega) _) | (refine Below.alloc ?_ (by first | (simp; done) | (simp; omega) | omega) _) | (refine below_drewN ?_ _) | (refine Below.drew ?_) | (refine Below.trans ?_ (Below.mono hbo (by first | (simp; done) | (simp; omega) | omega))) | (refine Below.trans ?_ (Below.mono hbl (by first | (simp; done) | (simp; omega) | omega)))))) (Nat.le_refl _)) (by simp; omega) (by first | omega | (simp; omega)) ?_
          intro o7 c7 w7 how7 hgr7 hb7
          rw [HLn.out] at how7 ⊢
          have hd7 : Below wr.heap.size wr w7 := (by (repeat (first | exact Below.refl _ _ | (refine Below.setCell ?_ (by first | (simp; done) | (simp; omega) | omega) _) | (refine Below.alloc ?_ (by first | (simp; done) | (simp; omega) | omega) _) | (refine below_drewN ?_ _) | (refine Below.drew ?_) | (refine Below.trans ?_ (Below.mono hbo (by first | (simp; done) | (simp; omega) | omega))) | (refine Below.trans ?_ (Below.mono hbl (by first | (simp; done) | (simp; omega) | omega))) | (refine Below.trans ?_ (Below.mono hb7 (by first | (simp; done) | (simp; omega) | omega))))))
          have hx7 := keep_cell hd7 (Nat.le_refl _) x0
          clear hHeld
          have hHeld : (fun w' : World => w'.cell? ⟨w.heap.size, 0, none⟩ = some (.int .i64 m)) w7 := by go_keep
          refine hK.out _ _ (fun _ => hHeld) ?_
          clear hK K
          try simp only [List.getElem_toArray, List.getElem_cons_zero, List.getElem_cons_succ, Act.put, List.setIfInBounds_toArray, List.set_cons_zero, List.set_cons_succ]
          refine wpAnyK_oneL (i := 8) rfl (by kernel_rfl) (fun K hK => ?_)
          go_simp
          go_at_call 44
          refine (l09Law_t p n m _ (ls ++ [0]) _ how7.rd hp (by omega) (by omega) hm hm' hpadl hpadr).mono ?_
          rintro e w8 ⟨v8, rfl, how8, hb8⟩
          go_wp2_with fail
          refine hK.out _ _ (fun h => absurd h (by decide)) ?_
          clear hK K
          try simp only [List.getElem_toArray, List.getElem_cons_zero, List.getElem_cons_succ, Act.put, List.setIfInBounds_toArray, List.set_cons_zero, List.set_cons_succ]
          refine wpAnyK_oneL (i := 9) rfl (by kernel_rfl) (fun K hK => ?_)
          go_simp
          (try go_wp2_with fail)
          refine hK.out _ _ (fun h => absurd h (by decide)) ?_
          clear hK K
          try simp only [List.getElem_toArray, List.getElem_cons_zero, List.getElem_cons_succ, Act.put, List.setIfInBounds_toArray, List.set_cons_zero, List.set_cons_succ]
          refine wpAnyK_done (by kernel_rfl) ?_ _
          go_wp2_with fail
          go_meet
          rw [show ls ++ [(0 : Int)] = ls ++ List.replicate 1 0 from rfl, typT2_pad] at how8
          obtain ⟨oc, cc, rfl⟩ := how8.shapeN (n := n + 1) (by rw [typT2_eq]; exact tri_len _ _)
          exact ⟨_, oc, cc, rfl, rfl, how8.rd, hd7.trans (hb8.mono hd7.size)⟩
        · skip
          go_simp
          (try go_wp2_with fail)
          (first | refine lit_gen ?_ | refine lit_gen_d ?_)
          intro wl hrl hbl hsl
          (try simp at hsl)
          have hdl : Below wr.heap.size wr wl := (by (repeat (first | exact Below.refl _ _ | (refine Below.setCell ?_ (by first | (simp; done) | (simp; omega) | omega) _) | (refine Below.alloc ?_ (by first | (simp; done) | (simp; omega) | omega) _) | (refine below_drewN ?_ _) | (refine Below.drew ?_) | (refine Below.trans ?_ (Below.mono hbl (by first | (simp; done) | (simp; omega) | omega))))))
          have hxl := keep_cell hdl (Nat.le_refl _) x0
          clear hHeld
          have hHeld : (fun w' : World => w'.cell? ⟨w.heap.size, 0, none⟩ = some (.int .i64 m)) wl := by go_keep
          refine hK.out _ _ (fun _ => hHeld) ?_
          clear hK K
          try simp only [List.getElem_toArray, List.getElem_cons_zero, List.getElem_cons_succ, Act.put, List.setIfInBounds_toArray, List.set_cons_zero, List.set_cons_succ]
          refine wpAnyK_oneL (i := 5) rfl (by kernel_rfl) (fun K hK => ?_)
          go_simp
          go_at_call 69
          refine (l01OwnA_c _ ls _ (hOr.below (by (repeat (first | exact Below.refl _ _ | (refine Below.setCell ?_ (by first | (simp; done) | (simp; omega) | omega) _) | (refine Below.alloc ?_ (by first | (simp; done) | (simp; omega) | omega) _) | (refine below_drewN ?_ _) | (refine Below.drew ?_) | (refine Below.trans ?_ (Below.mono hbl (by first | (simp; done) | (simp; omega) | omega)))))) (Nat.le_refl _)) (by omega)).mono ?_
          rintro e wo ⟨go, co, rfl, hoo, hbo⟩
          rw [hlq] at hoo ⊢
          have hdo : Below wr.heap.size wr wo := (by (repeat (first | exact Below.refl _ _ | (refine Below.setCell ?_ (by first | (simp; done) | (simp; omega) | omega) _) | (refine Below.alloc ?_ (by first | (simp; done) | (simp; omega) | omega) _) | (refine below_drewN ?_ _) | (refine Below.drew ?_) | (refine Below.trans ?_ (Below.mono hbl (by first | (simp; done) | (simp; omega) | omega))) | (refine Below.trans ?_ (Below.mono hbo (by first | (simp; done) | (simp; omega) | omega))))))
          have hso := hbo.size
          (try simp at hso)
          have hxo := keep_cell hdo (Nat.le_refl _) x0
          go_wp2_with fail
          clear hHeld
          have hHeld : (fun w' : World => w'.cell? ⟨w.heap.size, 0, none⟩ = some (.int .i64 m)) wo := by go_keep
          refine hK.out _ _ (fun _ => hHeld) ?_
          clear hK K
          try simp only [List.getElem_toArray, List.getElem_cons_zero, List.getElem_cons_succ, Act.put, List.setIfInBounds_toArray, List.set_cons_zero, List.set_cons_succ]
          refine wpAnyK_oneL (i := 7) rfl (by kernel_rfl) (fun K hK => ?_)
          refine stR _ rfl _ _ rfl wr.heap.size (.slice (some ⟨go, 0, none⟩) q co) ls rfl ((hoo.below (by (repeat (first | exact Below.refl _ _ | (refine Below.setCell ?_ (by first | (simp; done) | (simp; omega) | omega) _) | (refine Below.alloc ?_ (by first | (simp; done) | (simp; omega) | omega) _) | (refine below_drewN ?_ _) | (refine Below.drew ?_) | (refine Below.trans ?_ (Below.mono hbl (by first | (simp; done) | (simp; omega) | omega))) | (refine Below.trans ?_ (Below.mono hbo (by first | (simp; done) | (simp; omega) | omega))))))).mono (by first | (simp; done) | (simp; omega) | omega)) ⟨_, 0, none⟩ 1 1 [0] rfl (hrl.below (by (repeat (first | exact Below.refl _ _ | (refine Below.setCell ?_ (by first | (simp; done) | (simp; omega) | omega) _) | (refine Below.alloc ?_ (by first | (simp; done) | (simp; omega) | omega) _) | (refine below_drewN ?_ _) | (refine Below.drew ?_) | (refine Below.trans ?_ (Below.mono hbl (by first | (simp; done) | (simp; omega) | omega))) | (refine Below.trans ?_ (Below.mono hbo (by first | (simp; done) | (simp; omega) | omega)))))) (Nat.le_refl _)) (by simp; omega) (by first | omega | (simp; omega)) ?_
          intro o7 c7 w7 how7 hgr7 hb7
          rw [HLn.out] at how7 ⊢
          have hd7 : Below wr.heap.size wr w7 := (by (repeat (first | exact Below.refl _ _ | (refine Below.setCell ?_ (by first | (simp; done) | (simp; omega) | omega) _) | (refine Below.alloc ?_ (by first | (simp; done) | (simp; omega) | omega) _) | (refine below_drewN ?_ _) | (refine Below.drew ?_) | (refine Below.trans ?_ (Below.mono hbl (by first | (simp; done) | (simp; omega) | omega))) | (refine Below.trans ?_ (Below.mono hbo (by first | (simp; done) | (simp; omega) | omega))) | (refine Below.trans ?_ (Below.mono hb7 (by first | (simp; done) | (simp; omega) | omega))))))
          have hx7 := keep_cell hd7 (Nat.le_refl _) x0
          clear hHeld
          have hHeld : (fun w' : World => w'.cell? ⟨w.heap.size, 0, none⟩ = some (.int .i64 m)) w7 := by go_keep
          refine hK.out _ _ (fun _ => hHeld) ?_
          clear hK K
          try simp only [List.getElem_toArray, List.getElem_cons_zero, List.getElem_cons_succ, Act.put, List.setIfInBounds_toArray, List.set_cons_zero, List.set_cons_succ]
          refine wpAnyK_oneL (i := 8) rfl (by kernel_rfl) (fun K hK => ?_)
          go_simp
          go_at_call 44
          refine (l09Law_t p n m _ (ls ++ [0]) _ how7.rd hp (by omega) (by omega) hm hm' hpadl hpadr).mono ?_
          rintro e w8 ⟨v8, rfl, how8, hb8⟩
          go_wp2_with fail
          refine hK.out _ _ (fun h => absurd h (by decide)) ?_
          clear hK K
          try simp only [List.getElem_toArray, List.getElem_cons_zero, List.getElem_cons_succ, Act.put, List.setIfInBounds_toArray, List.set_cons_zero, List.set_cons_succ]
          refine wpAnyK_oneL (i := 9) rfl (by kernel_rfl) (fun K hK => ?_)
          go_simp
          (try go_wp2_with fail)
          refine hK.out _ _ (fun h => absurd h (by decide)) ?_
          clear hK K
          try simp only [List.getElem_toArray, List.getElem_cons_zero, List.getElem_cons_succ, Act.put, List.setIfInBounds_toArray, List.set_cons_zero, List.set_cons_succ]
          refine wpAnyK_done (by kernel_rfl) ?_ _
          go_wp2_with fail
          go_meet
          rw [show ls ++ [(0 : Int)] = ls ++ List.replicate 1 0 from rfl, typT2_pad] at how8
          obtain ⟨oc, cc, rfl⟩ := how8.shapeN (n := n + 1) (by rw [typT2_eq]; exact tri_len _ _)
          exact ⟨_, oc, cc, rfl, rfl, how8.rd, hd7.trans (hb8.mono hd7.size)⟩
      case rest =>
      obtain ⟨w3, oc, cc, rfl, rfl, hT, hb3⟩ := hcut
      have X3 := Xw.below hb3 (Nat.le_refl _)
      have hv3 := hvw.below hb3 (Nat.le_refl _)
      have hO3 := hO.below hb3
      have B3 := hB.trans (hb3.mono hBs)
      have hb3s := hb3.size
      obtain ⟨y0, y1⟩ := id X3
      have HGP := Lib.hid (show PlaT m (n + 1) (cutT (n + 1) t) from cutT_ok HT.out (by omega))
      have HHP := Lib.hid (show PlaT m (n + 1) (typT2 p m n ls) from typT2_ok (by omega) p n ls)
      have HF := Lib.hid (show facTo m (laz n) (fun i => atT (tri (n + 1) (fun i j => (atT (typT2 p m n ls) i j - atT (cutT (n + 1) t) i j) % m)) i (n - i)) (n + 1) m.toNat = ownF p m t n ls from
        facTo_congr (fun i hi => by rw [atT_tri (by omega)]) _)
      have HSP := Lib.hid (show PlaT m (n + 1) (tri (n + 1) (fun i j => (atT (typT2 p m n ls) i j - atT (cutT (n + 1) t) i j) % m)) from tri_ok fun _ _ _ => mod_lt' (by omega))
      clear x0 x1 x0l
      have hdc : ownF p m t n ls = -1 ∨ (0 ≤ ownF p m t n ls ∧ ownF p m t n ls < m) := own_cases
      generalize ownF p m t n ls = y at HKs HKf HF hdc
      have B3s := B3.size
      go_wp2_with fail
      have hd0 : Below w3.heap.size w3 w3.drew := (Below.refl _ _).drew
      have hsd0 := hd0.size
      have f0_a := keep_cell hd0 (Nat.le_refl _) y0
      have f0_b := keep_cell hd0 (Nat.le_refl _) y1
      refine wp_region_K (S := fun w' => w'.cell? ⟨w.heap.size, 0, none⟩ = some (.int .i64 m) ∧ w'.cell? ⟨w.heap.size, 1, none⟩ = some (.slice o (D + 1) c)) [] (by kernel_rfl) ?_
      have hHeld : (fun w' : World => w'.cell? ⟨w.heap.size, 0, none⟩ = some (.int .i64 m) ∧ w'.cell? ⟨w.heap.size, 1, none⟩ = some (.slice o (D + 1) c)) w3.drew := by go_keep
      refine' wpAnyK_takeL (i := 0) (v := _) rfl (by kernel_rfl) (by kernel_rfl) (by kernel_rfl) (by kernel_rfl) (fun _ _ _ h => h) (Or.inl ⟨by rfl, ?yT6⟩) hHeld ?rT6
      case yT6 => (intro w' hSw; (try dsimp only at hSw); go_simp; try with_reducible rfl)
      try simp only [List.getElem_toArray, List.getElem_cons_zero, List.getElem_cons_succ, Act.put, List.setIfInBounds_toArray, List.set_cons_zero, List.set_cons_succ]
      refine' wpAnyK_takeL (i := 1) (v := _) rfl (by kernel_rfl) (by kernel_rfl) (by kernel_rfl) (by kernel_rfl) (fun _ _ _ h => h) (Or.inl ⟨by rfl, ?yT7⟩) hHeld ?rT7
      case yT7 => (intro w' hSw; (try dsimp only at hSw); go_simp; try with_reducible rfl)
      try simp only [List.getElem_toArray, List.getElem_cons_zero, List.getElem_cons_succ, Act.put, List.setIfInBounds_toArray, List.set_cons_zero, List.set_cons_succ]
      refine' wpAnyK_takeL (i := 2) (v := _) rfl (by kernel_rfl) (by kernel_rfl) (by kernel_rfl) (by kernel_rfl) (fun _ _ _ h => h) (Or.inl ⟨by rfl, ?yT8⟩) hHeld ?rT8
      case yT8 => (intro w' hSw; (try dsimp only at hSw); go_simp; try with_reducible rfl)
      try simp only [List.getElem_toArray, List.getElem_cons_zero, List.getElem_cons_succ, Act.put, List.setIfInBounds_toArray, List.set_cons_zero, List.set_cons_succ]
      refine' wpAnyK_takeL (i := 3) (v := _) rfl (by kernel_rfl) (by kernel_rfl) (by kernel_rfl) (by kernel_rfl) (fun _ _ _ h => h) (Or.inl ⟨by rfl, ?yT9⟩) hHeld ?rT9
      case yT9 => (intro w' hSw; (try dsimp only at hSw); go_simp; try with_reducible rfl)
      try simp only [List.getElem_toArray, List.getElem_cons_zero, List.getElem_cons_succ, Act.put, List.setIfInBounds_toArray, List.set_cons_zero, List.set_cons_succ]
      refine' wpAnyK_takeL (i := 4) (v := _) rfl (by kernel_rfl) (by kernel_rfl) (by kernel_rfl) (by kernel_rfl) (fun _ _ _ h => h) (Or.inl ⟨by rfl, ?yT10⟩) hHeld ?rT10
      case yT10 => (intro w' hSw; (try dsimp only at hSw); go_simp; try with_reducible rfl)
      try simp only [List.getElem_toArray, List.getElem_cons_zero, List.getElem_cons_succ, Act.put, List.setIfInBounds_toArray, List.set_cons_zero, List.set_cons_succ]
      refine' wpAnyK_takeL (i := 5) (v := _) rfl (by kernel_rfl) (by kernel_rfl) (by kernel_rfl) (by kernel_rfl) (fun _ _ _ h => h) (Or.inl ⟨by rfl, ?yT11⟩) hHeld ?rT11
      case yT11 => (intro w' hSw; (try dsimp only at hSw); go_simp; try with_reducible rfl)
      try simp only [List.getElem_toArray, List.getElem_cons_zero, List.getElem_cons_succ, Act.put, List.setIfInBounds_toArray, List.set_cons_zero, List.set_cons_succ]
      refine' wpAnyK_takeL (i := 6) (v := _) rfl (by kernel_rfl) (by kernel_rfl) (by kernel_rfl) (by kernel_rfl) (fun _ _ _ h => h) (Or.inl ⟨by rfl, ?yT12⟩) hHeld ?rT12
      case yT12 => (intro w' hSw; (try dsimp only at hSw); go_simp; try with_reducible rfl)
      try simp only [List.getElem_toArray, List.getElem_cons_zero, List.getElem_cons_succ, Act.put, List.setIfInBounds_toArray, List.set_cons_zero, List.set_cons_succ]
      refine' wpAnyK_takeL (i := 8) (v := _) rfl (by kernel_rfl) (by kernel_rfl) (by kernel_rfl) (by kernel_rfl) (fun _ _ _ h => h) (Or.inl ⟨by rfl, ?yT13⟩) hHeld ?rT13
      case yT13 => (intro w' hSw; (try dsimp only at hSw); go_simp; try with_reducible rfl)
      try simp only [List.getElem_toArray, List.getElem_cons_zero, List.getElem_cons_succ, Act.put, List.setIfInBounds_toArray, List.set_cons_zero, List.set_cons_succ]
      refine wpAnyK_oneL (i := 7) rfl (by kernel_rfl) (fun K hK => ?_)
      go_simp
      go_at_call 47
      refine (l03Cut_c m (n : Int) (D + 1) (n + 1) _ t _ ((hv3).below (by (repeat (first | exact Below.refl _ _ | (refine Below.setCell ?_ (by first | (simp; done) | (simp; omega) | omega) _) | (refine Below.alloc ?_ (by first | (simp; done) | (simp; omega) | omega) _) | (refine below_drewN ?_ _) | (refine Below.drew ?_)))) (Nat.le_refl _)) HT.out (by omega) (by omega) (by omega) (by omega)).mono ?_
      rintro e wd1 ⟨va1, rfl, hod1, hbd1⟩
      have hd1 : Below w3.heap.size w3 wd1 := (by (repeat (first | exact Below.refl _ _ | (refine Below.setCell ?_ (by first | (simp; done) | (simp; omega) | omega) _) | (refine Below.alloc ?_ (by first | (simp; done) | (simp; omega) | omega) _) | (refine below_drewN ?_ _) | (refine Below.drew ?_) | (refine Below.trans ?_ (Below.mono hbd1 (by first | (simp; done) | (simp; omega) | omega))))))
      have hsd1 := hd1.size
      have hsz1_ := hbd1.size
      (try simp at hsz1_)
      have f1_a := keep_cell hd1 (Nat.le_refl _) y0
      have f1_b := keep_cell hd1 (Nat.le_refl _) y1
      go_wp2_with fail
      clear hHeld
      have hHeld : (fun w' : World => w'.cell? ⟨w.heap.size, 0, none⟩ = some (.int .i64 m) ∧ w'.cell? ⟨w.heap.size, 1, none⟩ = some (.slice o (D + 1) c)) wd1 := by go_keep
      refine hK.out _ _ (fun _ => hHeld) ?_
      clear hK K
      try simp only [List.getElem_toArray, List.getElem_cons_zero, List.getElem_cons_succ, Act.put, List.setIfInBounds_toArray, List.set_cons_zero, List.set_cons_succ]
      refine wpAnyK_oneL (i := 9) rfl (by kernel_rfl) (fun K hK => ?_)
      go_simp
      go_at_call 46
      refine (l07Gap_c m (n + 1) _ _ (cutT (n + 1) t) (typT2 p m n ls) _ ((hod1.below (by (repeat (first | exact Below.refl _ _ | (refine Below.setCell ?_ (by first | (simp; done) | (simp; omega) | omega) _) | (refine Below.alloc ?_ (by first | (simp; done) | (simp; omega) | omega) _) | (refine below_drewN ?_ _) | (refine Below.drew ?_)))))).rd ((hT).below (by (repeat (first | exact Below.refl _ _ | (refine Below.setCell ?_ (by first | (simp; done) | (simp; omega) | omega) _) | (refine Below.alloc ?_ (by first | (simp; done) | (simp; omega) | omega) _) | (refine below_drewN ?_ _) | (refine Below.drew ?_) | (refine Below.trans ?_ (Below.mono hbd1 (by first | (simp; done) | (simp; omega) | omega)))))) (Nat.le_refl _)) (by omega) hm hm' HGP.out HHP.out).mono ?_
      rintro e wd2 ⟨vb2, rfl, hod2, hbd2⟩
      have hd2 : Below w3.heap.size w3 wd2 := (by (repeat (first | exact Below.refl _ _ | (refine Below.setCell ?_ (by first | (simp; done) | (simp; omega) | omega) _) | (refine Below.alloc ?_ (by first | (simp; done) | (simp; omega) | omega) _) | (refine below_drewN ?_ _) | (refine Below.drew ?_) | (refine Below.trans ?_ (Below.mono hbd1 (by first | (simp; done) | (simp; omega) | omega))) | (refine Below.trans ?_ (Below.mono hbd2 (by first | (simp; done) | (simp; omega) | omega))))))
      have hsd2 := hd2.size
      have hsz2_ := hbd2.size
      (try simp at hsz2_)
      have f2_a := keep_cell hd2 (Nat.le_refl _) y0
      have f2_b := keep_cell hd2 (Nat.le_refl _) y1
      go_wp2_with fail
      clear hHeld
      have hHeld : (fun w' : World => w'.cell? ⟨w.heap.size, 0, none⟩ = some (.int .i64 m) ∧ w'.cell? ⟨w.heap.size, 1, none⟩ = some (.slice o (D + 1) c)) wd2 := by go_keep
      refine hK.out _ _ (fun _ => hHeld) ?_
      clear hK K
      try simp only [List.getElem_toArray, List.getElem_cons_zero, List.getElem_cons_succ, Act.put, List.setIfInBounds_toArray, List.set_cons_zero, List.set_cons_succ]
      refine wpAnyK_oneL (i := 10) rfl (by kernel_rfl) (fun K hK => ?_)
      go_simp
      go_at_call 45
      refine (l07Factor_c m n _ (tri (n + 1) (fun i j => (atT (typT2 p m n ls) i j - atT (cutT (n + 1) t) i j) % m)) _ ((hod2.below (by (repeat (first | exact Below.refl _ _ | (refine Below.setCell ?_ (by first | (simp; done) | (simp; omega) | omega) _) | (refine Below.alloc ?_ (by first | (simp; done) | (simp; omega) | omega) _) | (refine below_drewN ?_ _) | (refine Below.drew ?_)))))).rd HSP.out (by omega) (by omega) hm hm').mono ?_
      rintro e wd3 ⟨rfl, hbd3⟩
      rw [HF.out]
      have hd3 : Below w3.heap.size w3 wd3 := (by (repeat (first | exact Below.refl _ _ | (refine Below.setCell ?_ (by first | (simp; done) | (simp; omega) | omega) _) | (refine Below.alloc ?_ (by first | (simp; done) | (simp; omega) | omega) _) | (refine below_drewN ?_ _) | (refine Below.drew ?_) | (refine Below.trans ?_ (Below.mono hbd1 (by first | (simp; done) | (simp; omega) | omega))) | (refine Below.trans ?_ (Below.mono hbd2 (by first | (simp; done) | (simp; omega) | omega))) | (refine Below.trans ?_ (Below.mono hbd3 (by first | (simp; done) | (simp; omega) | omega))))))
      have hsd3 := hd3.size
      have hsz3_ := hbd3.size
      (try simp at hsz3_)
      have f3_a := keep_cell hd3 (Nat.le_refl _) y0
      have f3_b := keep_cell hd3 (Nat.le_refl _) y1
      go_wp2_with fail
      clear hHeld
      have hHeld : (fun w' : World => w'.cell? ⟨w.heap.size, 0, none⟩ = some (.int .i64 m) ∧ w'.cell? ⟨w.heap.size, 1, none⟩ = some (.slice o (D + 1) c)) wd3 := by go_keep
      refine hK.out _ _ (fun _ => hHeld) ?_
      clear hK K
      try simp only [List.getElem_toArray, List.getElem_cons_zero, List.getElem_cons_succ, Act.put, List.setIfInBounds_toArray, List.set_cons_zero, List.set_cons_succ]
      refine' wpAnyK_takeL (i := 11) (v := _) rfl (by kernel_rfl) (by kernel_rfl) (by kernel_rfl) (by kernel_rfl) (fun _ _ _ h => h) (Or.inl ⟨by rfl, ?yT14⟩) hHeld ?rT14
      case yT14 => (intro w' hSw; (try dsimp only at hSw); go_simp; try with_reducible rfl)
      try simp only [List.getElem_toArray, List.getElem_cons_zero, List.getElem_cons_succ, Act.put, List.setIfInBounds_toArray, List.set_cons_zero, List.set_cons_succ]
      refine wpAnyK_done (by kernel_rfl) ?_ _
      have hO9 := hO3.below hd3
      have B9 := B3.trans (hd3.mono B3s)
      have hd3s := hd3.size
      rcases hdc with hy | hy
      · have i1 : y < 0 := by omega
        have HR := Lib.hid (HKf.out (by omega))
        have B10 := B1.trans (B9.mono B1s)
        go_wp2
        go_ret2
        rw [HR.out]
        exact ⟨_, rfl, fun ls h => by simp at h, B10⟩
      · have i1 : ¬ y < 0 := by omega
        have HR := Lib.hid (HKs.out hy.1)
        go_wp2_with (at_builtin; go_loud (refine apI wd3 rfl _ _ rfl w1.heap.size (.slice ov q cv) _ rfl hO9 _ rfl (by omega) (by omega) ?_; intro v' w4 hO4 hgr hb4 hlt4; clear hgr))
        refine ⟨⟨q + 1, ls ++ [y], by omega, by rw [HNn.out], by go_num, by simp; omega, HR, ?_, hO4, B9.trans hb4⟩, by simp [intOf]; omega⟩
        intro z hz
        rcases List.mem_append.1 hz with h | h
        · exact hlr z h
        · rw [List.mem_singleton.1 h]; exact hy
    · obtain rfl : q = M := by omega
      have i1 : ¬ (q : Int) + 1 ≤ (q : Int) := by omega
      have hOr := hO.rd
      have HPO := Lib.hid (show parR p m t D = if typT2 p m D ls = t then some ls else none by
        unfold parR
        rw [← HM.out, HK.out])
      have HE := Lib.hid (show eqTB (typT2 p m D ls) t = (parR p m t D).isSome by
        rw [HPO.out, eqTB_iff]
        by_cases h : typT2 p m D ls = t
        · rw [if_pos h]; simp [h]
        · rw [if_neg h]; simp [h])
      obtain ⟨b, hb⟩ : ∃ b, b = (parR p m t D).isSome := ⟨_, rfl⟩
      have HB := Lib.hid hb
      rw [← hb] at HE
      clear hb
      have hll : ls.length ≤ 3 := by omega
      have Bws := Bw.size
      generalize p ^ q = P0 at *
      go_wp2_with fail
      have hd0 : Below wr.heap.size wr wr.drew := (Below.refl _ _).drew
      have hsd0 := hd0.size
      have f0_a := keep_cell hd0 (Nat.le_refl _) x0
      have f0_b := keep_cell hd0 (Nat.le_refl _) x1
      refine wp_region_K (S := fun w' => w'.cell? ⟨w.heap.size, 0, none⟩ = some (.int .i64 m) ∧ w'.cell? ⟨w.heap.size, 1, none⟩ = some (.slice o (D + 1) c)) [] (by kernel_rfl) ?_
      have hHeld : (fun w' : World => w'.cell? ⟨w.heap.size, 0, none⟩ = some (.int .i64 m) ∧ w'.cell? ⟨w.heap.size, 1, none⟩ = some (.slice o (D + 1) c)) wr.drew := by go_keep
      refine' wpAnyK_takeL (i := 0) (v := _) rfl (by kernel_rfl) (by kernel_rfl) (by kernel_rfl) (by kernel_rfl) (fun _ _ _ h => h) (Or.inl ⟨by rfl, ?yT15⟩) hHeld ?rT15
      case yT15 => (intro w' hSw; (try dsimp only at hSw); go_simp; try with_reducible rfl)
      try simp only [List.getElem_toArray, List.getElem_cons_zero, List.getElem_cons_succ, Act.put, List.setIfInBounds_toArray, List.set_cons_zero, List.set_cons_succ]
      refine' wpAnyK_takeL (i := 1) (v := _) rfl (by kernel_rfl) (by kernel_rfl) (by kernel_rfl) (by kernel_rfl) (fun _ _ _ h => h) (Or.inl ⟨by rfl, ?yT16⟩) hHeld ?rT16
      case yT16 => (intro w' hSw; (try dsimp only at hSw); go_simp; try with_reducible rfl)
      try simp only [List.getElem_toArray, List.getElem_cons_zero, List.getElem_cons_succ, Act.put, List.setIfInBounds_toArray, List.set_cons_zero, List.set_cons_succ]
      refine' wpAnyK_takeL (i := 2) (v := _) rfl (by kernel_rfl) (by kernel_rfl) (by kernel_rfl) (by kernel_rfl) (fun _ _ _ h => h) (Or.inl ⟨by rfl, ?yT17⟩) hHeld ?rT17
      case yT17 => (intro w' hSw; (try dsimp only at hSw); go_simp; try with_reducible rfl)
      try simp only [List.getElem_toArray, List.getElem_cons_zero, List.getElem_cons_succ, Act.put, List.setIfInBounds_toArray, List.set_cons_zero, List.set_cons_succ]
      refine' wpAnyK_takeL (i := 3) (v := _) rfl (by kernel_rfl) (by kernel_rfl) (by kernel_rfl) (by kernel_rfl) (fun _ _ _ h => h) (Or.inl ⟨by rfl, ?yT18⟩) hHeld ?rT18
      case yT18 => (intro w' hSw; (try dsimp only at hSw); go_simp; try with_reducible rfl)
      try simp only [List.getElem_toArray, List.getElem_cons_zero, List.getElem_cons_succ, Act.put, List.setIfInBounds_toArray, List.set_cons_zero, List.set_cons_succ]
      refine' wpAnyK_takeL (i := 4) (v := _) rfl (by kernel_rfl) (by kernel_rfl) (by kernel_rfl) (by kernel_rfl) (fun _ _ _ h => h) (Or.inl ⟨by rfl, ?yT19⟩) hHeld ?rT19
      case yT19 => (intro w' hSw; (try dsimp only at hSw); go_simp; try with_reducible rfl)
      try simp only [List.getElem_toArray, List.getElem_cons_zero, List.getElem_cons_succ, Act.put, List.setIfInBounds_toArray, List.set_cons_zero, List.set_cons_succ]
      refine' wpAnyK_takeL (i := 5) (v := _) rfl (by kernel_rfl) (by kernel_rfl) (by kernel_rfl) (by kernel_rfl) (fun _ _ _ h => h) (Or.inl ⟨by rfl, ?yT20⟩) hHeld ?rT20
      case yT20 => (intro w' hSw; (try dsimp only at hSw); go_simp; try with_reducible rfl)
      try simp only [List.getElem_toArray, List.getElem_cons_zero, List.getElem_cons_succ, Act.put, List.setIfInBounds_toArray, List.set_cons_zero, List.set_cons_succ]
      refine' wpAnyK_takeL (i := 7) (v := _) rfl (by kernel_rfl) (by kernel_rfl) (by kernel_rfl) (by kernel_rfl) (fun _ _ _ h => h) (Or.inl ⟨by rfl, ?yT21⟩) hHeld ?rT21
      case yT21 => (intro w' hSw; (try dsimp only at hSw); go_simp; try with_reducible rfl)
      try simp only [List.getElem_toArray, List.getElem_cons_zero, List.getElem_cons_succ, Act.put, List.setIfInBounds_toArray, List.set_cons_zero, List.set_cons_succ]
      refine' wpAnyK_takeL (i := 8) (v := _) rfl (by kernel_rfl) (by kernel_rfl) (by kernel_rfl) (by kernel_rfl) (fun _ _ _ h => h) (Or.inl ⟨by rfl, ?yT22⟩) hHeld ?rT22
      case yT22 => (intro w' hSw; (try dsimp only at hSw); go_simp; try with_reducible rfl)
      try simp only [List.getElem_toArray, List.getElem_cons_zero, List.getElem_cons_succ, Act.put, List.setIfInBounds_toArray, List.set_cons_zero, List.set_cons_succ]
      refine wpAnyK_oneL (i := 6) rfl (by kernel_rfl) (fun K hK => ?_)
      go_simp
      go_at_call 44
      refine (l09Law_t p D m _ ls _ ((hOr).below (by (repeat (first | exact Below.refl _ _ | (refine Below.setCell ?_ (by first | (simp; done) | (simp; omega) | omega) _) | (refine Below.alloc ?_ (by first | (simp; done) | (simp; omega) | omega) _) | (refine below_drewN ?_ _) | (refine Below.drew ?_)))) (Nat.le_refl _)) hp hD1 hD hm hm' hll hlr).mono ?_
      rintro e wd1 ⟨va1, rfl, hod1, hbd1⟩
      have hd1 : Below wr.heap.size wr wd1 := (by (repeat (first | exact Below.refl _ _ | (refine Below.setCell ?_ (by first | (simp; done) | (simp; omega) | omega) _) | (refine Below.alloc ?_ (by first | (simp; done) | (simp; omega) | omega) _) | (refine below_drewN ?_ _) | (refine Below.drew ?_) | (refine Below.trans ?_ (Below.mono hbd1 (by first | (simp; done) | (simp; omega) | omega))))))
      have hsd1 := hd1.size
      have hsz1_ := hbd1.size
      (try simp at hsz1_)
      have f1_a := keep_cell hd1 (Nat.le_refl _) x0
      have f1_b := keep_cell hd1 (Nat.le_refl _) x1
      go_wp2_with fail
      clear hHeld
      have hHeld : (fun w' : World => w'.cell? ⟨w.heap.size, 0, none⟩ = some (.int .i64 m) ∧ w'.cell? ⟨w.heap.size, 1, none⟩ = some (.slice o (D + 1) c)) wd1 := by go_keep
      refine hK.out _ _ (fun _ => hHeld) ?_
      clear hK K
      try simp only [List.getElem_toArray, List.getElem_cons_zero, List.getElem_cons_succ, Act.put, List.setIfInBounds_toArray, List.set_cons_zero, List.set_cons_succ]
      refine wpAnyK_oneL (i := 9) rfl (by kernel_rfl) (fun K hK => ?_)
      go_simp
      go_at_call 70
      refine (l01Same2_b _ _ (typT2 p m D ls) t _ ((hod1.below (by (repeat (first | exact Below.refl _ _ | (refine Below.setCell ?_ (by first | (simp; done) | (simp; omega) | omega) _) | (refine Below.alloc ?_ (by first | (simp; done) | (simp; omega) | omega) _) | (refine below_drewN ?_ _) | (refine Below.drew ?_)))))).rd ((hvw).below (by (repeat (first | exact Below.refl _ _ | (refine Below.setCell ?_ (by first | (simp; done) | (simp; omega) | omega) _) | (refine Below.alloc ?_ (by first | (simp; done) | (simp; omega) | omega) _) | (refine below_drewN ?_ _) | (refine Below.drew ?_) | (refine Below.trans ?_ (Below.mono hbd1 (by first | (simp; done) | (simp; omega) | omega)))))) (Nat.le_refl _))).mono ?_
      rintro e wd2 ⟨rfl, hbd2⟩
      rw [HE.out]
      have hd2 : Below wr.heap.size wr wd2 := (by (repeat (first | exact Below.refl _ _ | (refine Below.setCell ?_ (by first | (simp; done) | (simp; omega) | omega) _) | (refine Below.alloc ?_ (by first | (simp; done) | (simp; omega) | omega) _) | (refine below_drewN ?_ _) | (refine Below.drew ?_) | (refine Below.trans ?_ (Below.mono hbd1 (by first | (simp; done) | (simp; omega) | omega))) | (refine Below.trans ?_ (Below.mono hbd2 (by first | (simp; done) | (simp; omega) | omega))))))
      have hsd2 := hd2.size
      have hsz2_ := hbd2.size
      (try simp at hsz2_)
      have f2_a := keep_cell hd2 (Nat.le_refl _) x0
      have f2_b := keep_cell hd2 (Nat.le_refl _) x1
      go_wp2_with fail
      clear hHeld
      have hHeld : (fun w' : World => w'.cell? ⟨w.heap.size, 0, none⟩ = some (.int .i64 m) ∧ w'.cell? ⟨w.heap.size, 1, none⟩ = some (.slice o (D + 1) c)) wd2 := by go_keep
      refine hK.out _ _ (fun _ => hHeld) ?_
      clear hK K
      try simp only [List.getElem_toArray, List.getElem_cons_zero, List.getElem_cons_succ, Act.put, List.setIfInBounds_toArray, List.set_cons_zero, List.set_cons_succ]
      refine' wpAnyK_takeL (i := 10) (v := _) rfl (by kernel_rfl) (by kernel_rfl) (by kernel_rfl) (by kernel_rfl) (fun _ _ _ h => h) (Or.inl ⟨by rfl, ?yT23⟩) hHeld ?rT23
      case yT23 => (intro w' hSw; (try dsimp only at hSw); go_simp; try with_reducible rfl)
      try simp only [List.getElem_toArray, List.getElem_cons_zero, List.getElem_cons_succ, Act.put, List.setIfInBounds_toArray, List.set_cons_zero, List.set_cons_succ]
      refine' wpAnyK_takeL (i := 11) (v := _) rfl (by kernel_rfl) (by kernel_rfl) (by kernel_rfl) (by kernel_rfl) (fun _ _ _ h => h) (Or.inl ⟨by rfl, ?yT24⟩) hHeld ?rT24
      case yT24 => (intro w' hSw; (try dsimp only at hSw); go_simp; try with_reducible rfl)
      try simp only [List.getElem_toArray, List.getElem_cons_zero, List.getElem_cons_succ, Act.put, List.setIfInBounds_toArray, List.set_cons_zero, List.set_cons_succ]
      refine wpAnyK_done (by kernel_rfl) ?_ _
      have B9 := Bw.trans (hd2.mono Bws)
      have hO9 := hO.below hd2
      go_wp2
      go_ret2
      refine ⟨.slice ov q cv, by rw [HB.out]; rfl, fun ls' h => ?_, B9⟩
      rw [HPO.out] at h
      split at h
      · rw [← Option.some.inj h]; exact hO9.mono (by omega)
      · simp at h
end Go.Proofs.YtoednonijmkbjaaGreat

/- Typical laws: their parameters, and whether a law is one: the functions that are called. -/
set_option linter.unusedSimpArgs false
set_option linter.unusedVariables false
namespace Go.Proofs.YtoednonijmkbjaaGreat
open Go.RowKit

def tyFor (p m : Int) (t : List (List Int)) : Int := if lawB m t = true then (if primB p = true then 0 else 2) else 1
set_option maxHeartbeats 1000000 in
theorem typicalFor_c (p m : Int) (v : Value) (t : List (List Int)) (w : World) (hv : RdT w v t) :
    Calls Tryz.prog 37 #[.int .i64 p, .agg #[.int .i64 m, v]] w fun e w' => e = .returned (.int .i64 (tyFor p m t)) ∧ Below w.heap.size w w' := by
  obtain ⟨o, c, rfl, -, -⟩ := id hv
  unfold tyFor
  cases h1 : lawB m t
  · go_enter Tryz.func37, Tryz.ntmps37
    go_wp2_with fail
    (have X0 := ((RB2.mk1 w  (.int .i64 m) (.slice o t.length c) 31).1).below (w' := (w.alloc (.cells #[.int .i64 m, .slice o t.length c] 31))) (by (repeat (first | exact Below.refl _ _ | (refine Below.setCell ?_ (by first | (simp; done) | (simp; omega) | omega) _) | (refine Below.alloc ?_ (by first | (simp; done) | (simp; omega) | omega) _) | (refine below_drewN ?_ _) | (refine Below.drew ?_)))) (Nat.le_refl _); have B0 : Below w.heap.size w (w.alloc (.cells #[.int .i64 m, .slice o t.length c] 31)) := (by (repeat (first | exact Below.refl _ _ | (refine Below.setCell ?_ (by first | (simp; done) | (simp; omega) | omega) _) | (refine Below.alloc ?_ (by first | (simp; done) | (simp; omega) | omega) _) | (refine below_drewN ?_ _) | (refine Below.drew ?_)))); have hv0 := hv.below (w' := (w.alloc (.cells #[.int .i64 m, .slice o t.length c] 31))) (by (repeat (first | exact Below.refl _ _ | (refine Below.setCell ?_ (by first | (simp; done) | (simp; omega) | omega) _) | (refine Below.alloc ?_ (by first | (simp; done) | (simp; omega) | omega) _) | (refine below_drewN ?_ _) | (refine Below.drew ?_)))) (Nat.le_refl _); generalize w.alloc (.cells #[.int .i64 m, .slice o t.length c] 31) = w0 at X0 B0 hv0 ⊢)
    (obtain ⟨gqX0, gqX1⟩ := id X0; go_wp2_with fail; refine (IsLaw_c m _ t _ hv0).mono ?_; rw [h1]; rintro e w1 ⟨rfl, hb⟩; (have X1 := X0.below hb (Nat.le_refl _); have hv1 := hv0.below hb (Nat.le_refl _); have B1 := B0.trans (hb.mono B0.size)); clear gqX0 gqX1; clear hb)
    go_wp2
    go_ret
    exact ⟨rfl, B1⟩
  · cases h2 : primB p
    all_goals
      go_enter Tryz.func37, Tryz.ntmps37
      go_wp2_with fail
      (have X0 := ((RB2.mk1 w  (.int .i64 m) (.slice o t.length c) 31).1).below (w' := (w.alloc (.cells #[.int .i64 m, .slice o t.length c] 31))) (by (repeat (first | exact Below.refl _ _ | (refine Below.setCell ?_ (by first | (simp; done) | (simp; omega) | omega) _) | (refine Below.alloc ?_ (by first | (simp; done) | (simp; omega) | omega) _) | (refine below_drewN ?_ _) | (refine Below.drew ?_)))) (Nat.le_refl _); have B0 : Below w.heap.size w (w.alloc (.cells #[.int .i64 m, .slice o t.length c] 31)) := (by (repeat (first | exact Below.refl _ _ | (refine Below.setCell ?_ (by first | (simp; done) | (simp; omega) | omega) _) | (refine Below.alloc ?_ (by first | (simp; done) | (simp; omega) | omega) _) | (refine below_drewN ?_ _) | (refine Below.drew ?_)))); have hv0 := hv.below (w' := (w.alloc (.cells #[.int .i64 m, .slice o t.length c] 31))) (by (repeat (first | exact Below.refl _ _ | (refine Below.setCell ?_ (by first | (simp; done) | (simp; omega) | omega) _) | (refine Below.alloc ?_ (by first | (simp; done) | (simp; omega) | omega) _) | (refine below_drewN ?_ _) | (refine Below.drew ?_)))) (Nat.le_refl _); generalize w.alloc (.cells #[.int .i64 m, .slice o t.length c] 31) = w0 at X0 B0 hv0 ⊢)
      (obtain ⟨gqX0, gqX1⟩ := id X0; go_wp2_with fail; refine (IsLaw_c m _ t _ hv0).mono ?_; rw [h1]; rintro e w1 ⟨rfl, hb⟩; (have X1 := X0.below hb (Nat.le_refl _); have hv1 := hv0.below hb (Nat.le_refl _); have B1 := B0.trans (hb.mono B0.size)); clear gqX0 gqX1; clear hb)
      go_wp2_with (go_at_call 72; refine (isTypicalPrime_c _ _).mono ?_; rw [h2]; rintro e w' ⟨rfl, rfl⟩)
      go_ret
      exact ⟨rfl, B1⟩
set_option maxHeartbeats 1000000 in
theorem l09Of_c (p m : Int) (v : Value) (t : List (List Int)) (w : World) (hv : RdT w v t) :
    Calls Tryz.prog 35 #[.int .i64 p, .agg #[.int .i64 m, v]] w fun e w' => e = .returned (.int .i64 (tyFor p m t)) ∧ Below w.heap.size w w' := by
  obtain ⟨o, c, rfl, -, -⟩ := id hv
  unfold tyFor
  cases h1 : lawB m t
  · go_enter Tryz.func35, Tryz.ntmps35
    go_wp2_with fail
    (have X0 := ((RB2.mk1 w  (.int .i64 m) (.slice o t.length c) 31).1).below (w' := (w.alloc (.cells #[.int .i64 m, .slice o t.length c] 31))) (by (repeat (first | exact Below.refl _ _ | (refine Below.setCell ?_ (by first | (simp; done) | (simp; omega) | omega) _) | (refine Below.alloc ?_ (by first | (simp; done) | (simp; omega) | omega) _) | (refine below_drewN ?_ _) | (refine Below.drew ?_)))) (Nat.le_refl _); have B0 : Below w.heap.size w (w.alloc (.cells #[.int .i64 m, .slice o t.length c] 31)) := (by (repeat (first | exact Below.refl _ _ | (refine Below.setCell ?_ (by first | (simp; done) | (simp; omega) | omega) _) | (refine Below.alloc ?_ (by first | (simp; done) | (simp; omega) | omega) _) | (refine below_drewN ?_ _) | (refine Below.drew ?_)))); have hv0 := hv.below (w' := (w.alloc (.cells #[.int .i64 m, .slice o t.length c] 31))) (by (repeat (first | exact Below.refl _ _ | (refine Below.setCell ?_ (by first | (simp; done) | (simp; omega) | omega) _) | (refine Below.alloc ?_ (by first | (simp; done) | (simp; omega) | omega) _) | (refine below_drewN ?_ _) | (refine Below.drew ?_)))) (Nat.le_refl _); generalize w.alloc (.cells #[.int .i64 m, .slice o t.length c] 31) = w0 at X0 B0 hv0 ⊢)
    (obtain ⟨gqX0, gqX1⟩ := id X0; go_wp2_with fail; refine (l04Is_c m _ t _ hv0).mono ?_; rw [h1]; rintro e w1 ⟨rfl, hb⟩; (have X1 := X0.below hb (Nat.le_refl _); have hv1 := hv0.below hb (Nat.le_refl _); have B1 := B0.trans (hb.mono B0.size)); clear gqX0 gqX1; clear hb)
    go_wp2
    go_ret
    exact ⟨rfl, B1⟩
  · cases h2 : primB p
    all_goals
      go_enter Tryz.func35, Tryz.ntmps35
      go_wp2_with fail
      (have X0 := ((RB2.mk1 w  (.int .i64 m) (.slice o t.length c) 31).1).below (w' := (w.alloc (.cells #[.int .i64 m, .slice o t.length c] 31))) (by (repeat (first | exact Below.refl _ _ | (refine Below.setCell ?_ (by first | (simp; done) | (simp; omega) | omega) _) | (refine Below.alloc ?_ (by first | (simp; done) | (simp; omega) | omega) _) | (refine below_drewN ?_ _) | (refine Below.drew ?_)))) (Nat.le_refl _); have B0 : Below w.heap.size w (w.alloc (.cells #[.int .i64 m, .slice o t.length c] 31)) := (by (repeat (first | exact Below.refl _ _ | (refine Below.setCell ?_ (by first | (simp; done) | (simp; omega) | omega) _) | (refine Below.alloc ?_ (by first | (simp; done) | (simp; omega) | omega) _) | (refine below_drewN ?_ _) | (refine Below.drew ?_)))); have hv0 := hv.below (w' := (w.alloc (.cells #[.int .i64 m, .slice o t.length c] 31))) (by (repeat (first | exact Below.refl _ _ | (refine Below.setCell ?_ (by first | (simp; done) | (simp; omega) | omega) _) | (refine Below.alloc ?_ (by first | (simp; done) | (simp; omega) | omega) _) | (refine below_drewN ?_ _) | (refine Below.drew ?_)))) (Nat.le_refl _); generalize w.alloc (.cells #[.int .i64 m, .slice o t.length c] 31) = w0 at X0 B0 hv0 ⊢)
      (obtain ⟨gqX0, gqX1⟩ := id X0; go_wp2_with fail; refine (l04Is_c m _ t _ hv0).mono ?_; rw [h1]; rintro e w1 ⟨rfl, hb⟩; (have X1 := X0.below hb (Nat.le_refl _); have hv1 := hv0.below hb (Nat.le_refl _); have B1 := B0.trans (hb.mono B0.size)); clear gqX0 gqX1; clear hb)
      go_wp2_with (go_at_call 66; refine (l09Prime_c _ _).mono ?_; rw [h2]; rintro e w' ⟨rfl, rfl⟩)
      go_ret
      exact ⟨rfl, B1⟩
theorem tyFor_0 {p m : Int} {t : List (List Int)} (h : tyFor p m t = 0) : lawB m t = true ∧ primB p = true := by
  unfold tyFor at h
  split at h
  · split at h
    · exact ⟨by assumption, by assumption⟩
    · omega
  · omega
structure BR where
  val : Bool
  code : Int
def BEnd (w w' : World) (r : BR) (e : Ending) : Prop := e = .returned (.tuple #[.bool r.val, .int .i64 r.code]) ∧ Below w.heap.size w w'
def typO (p m : Int) (t : List (List Int)) : Option (List Int) := parO p.toNat m t (t.length - 1)
def tparR (p m : Int) (t : List (List Int)) : LR := if tyFor p m t = 0 then (match typO p m t with | some ls => ⟨ls, 0⟩ | none => ⟨[], 4⟩) else ⟨[], tyFor p m t⟩
def istR (p m : Int) (t : List (List Int)) : BR := if tyFor p m t = 0 then ⟨(typO p m t).isSome, 0⟩ else ⟨false, tyFor p m t⟩
theorem law_typ {p m : Int} {t : List (List Int)} (h : tyFor p m t = 0) : ∃ P D : Nat, p = P ∧ t.length = D + 1 ∧ P4 P ∧ 1 ≤ D ∧ D ≤ 10 ∧ 2 ≤ m ∧ m ≤ 10000 ∧ PlaT m (D + 1) t ∧ Lw m (D + 1) (atT t) ∧ typO p m t = parO P m t D ∧ typO p m t = parR P m t D := by
  obtain ⟨h1, h2⟩ := tyFor_0 h
  have hn := pla_n (lawB_t h1).1
  have hm := pla_m (lawB_t h1).1
  obtain ⟨D, hD⟩ : ∃ D, t.length = D + 1 := ⟨t.length - 1, by omega⟩
  have HT : PlaT m t.length t := ⟨rfl, pla_row (lawB_t h1).1⟩
  rw [hD] at HT
  have L : Lw m (D + 1) (atT t) := lw_of (by omega) HT (by have := (lawB_t h1).2; rwa [hD] at this)
  have hp := primB_t h2
  obtain ⟨P, rfl⟩ : ∃ P : Nat, p = P := ⟨p.toNat, by omega⟩
  have hP : P4 P := by unfold P4; omega
  have e : typO (P : Int) m t = parO P m t D := by unfold typO; rw [hD]; rfl
  exact ⟨P, D, rfl, hD, hP, by omega, by omega, hm.1, hm.2, HT, L, e, by rw [e, par_eq hP hm.1 (by omega) (by omega) L]⟩
theorem parO_len {p D : Nat} {m : Int} {t : List (List Int)} {ls : List Int} (hp : P4 p) (hD : D ≤ 10) (h : parO p m t D = some ls) : ls.length ≤ 3 := by
  unfold parO at h
  cases e : parL p m t (mostOf p D) with
  | none => rw [e] at h; simp at h
  | some l =>
    rw [e] at h
    simp only at h
    split at h
    · rw [← Option.some.inj h, parL_len e]; exact most_3 hp hD
    · simp at h

set_option maxHeartbeats 1000000 in
theorem TypicalParameters_c (p m : Int) (v : Value) (t : List (List Int)) (w : World) (hv : RdT w v t) :
    Calls Tryz.prog 19 #[.int .i64 p, .agg #[.int .i64 m, v]] w fun e w' => LEnd w w' (tparR p m t) e := by
  obtain ⟨o, c, rfl, -, -⟩ := id hv
  by_cases h0 : tyFor p m t = 0
  · obtain ⟨P, D, rfl, hl, hP, hD1, hD, hm, hm', HT, L, e1, e2⟩ := law_typ h0
    have HC := Lib.hid h0
    have HTh := Lib.hid HT
    have HLh := Lib.hid L
    have hR : tparR P m t = match typO P m t with | some ls => ⟨ls, 0⟩ | none => ⟨[], 4⟩ := by unfold tparR; rw [if_pos h0]
    rw [hl]
    have hv' : RdT w (.slice o (D + 1) c) t := by rw [hl] at hv; exact hv
    have HQ := Lib.hid e1
    have HOl := Lib.hid e1
    clear h0 hv HT L e1 e2
    cases ho : typO P m t with
    | none =>
      rw [ho] at hR
      rw [ho] at HQ
      have HR := Lib.hid hR
      clear hR ho HOl
      go_enter Tryz.func19, Tryz.ntmps19
      go_wp2_with fail
      (have X0 := ((RB2.mk1 w  (.int .i64 m) (.slice o (D + 1) c) 31).1).below (w' := (w.alloc (.cells #[.int .i64 m, .slice o (D + 1) c] 31))) (by (repeat (first | exact Below.refl _ _ | (refine Below.setCell ?_ (by first | (simp; done) | (simp; omega) | omega) _) | (refine Below.alloc ?_ (by first | (simp; done) | (simp; omega) | omega) _) | (refine below_drewN ?_ _) | (refine Below.drew ?_)))) (Nat.le_refl _); have B0 : Below w.heap.size w (w.alloc (.cells #[.int .i64 m, .slice o (D + 1) c] 31)) := (by (repeat (first | exact Below.refl _ _ | (refine Below.setCell ?_ (by first | (simp; done) | (simp; omega) | omega) _) | (refine Below.alloc ?_ (by first | (simp; done) | (simp; omega) | omega) _) | (refine below_drewN ?_ _) | (refine Below.drew ?_)))); have hv'0 := hv'.below (w' := (w.alloc (.cells #[.int .i64 m, .slice o (D + 1) c] 31))) (by (repeat (first | exact Below.refl _ _ | (refine Below.setCell ?_ (by first | (simp; done) | (simp; omega) | omega) _) | (refine Below.alloc ?_ (by first | (simp; done) | (simp; omega) | omega) _) | (refine below_drewN ?_ _) | (refine Below.drew ?_)))) (Nat.le_refl _); generalize w.alloc (.cells #[.int .i64 m, .slice o (D + 1) c] 31) = w0 at X0 B0 hv'0 ⊢)
      (obtain ⟨gqX0, gqX1⟩ := id X0; go_wp2_with fail; refine (typicalFor_c P m _ t _ hv'0).mono ?_; rw [HC.out]; rintro e w1 ⟨rfl, hb⟩; (have X1 := X0.below hb (Nat.le_refl _); have hv'1 := hv'0.below hb (Nat.le_refl _); have B1 := B0.trans (hb.mono B0.size)); clear gqX0 gqX1; clear hb)
      obtain ⟨x0, x1⟩ := id X1
      go_wp2_with fail
      refine (typicalParameters_c P D m _ t _ hv'1 hP hD1 hD hm hm' HTh.out HLh.out).mono ?_
      rintro e w2 ⟨v2, rfl, -, hb2⟩
      rw [← HQ.out]
      have B2 := B1.trans (hb2.mono B1.size)
      go_wp2
      go_ret2
      rw [HR.out]
      exact ⟨_, rfl, OwI.nil _ _, B2, by simp⟩
    | some ls =>
      have hll : ls.length ≤ 1048576 := by
        have := parO_len hP hD (HOl.out.symm.trans ho)
        omega
      rw [ho] at hR
      rw [ho] at HQ
      have HR := Lib.hid hR
      clear hR ho HOl
      go_enter Tryz.func19, Tryz.ntmps19
      go_wp2_with fail
      (have X0 := ((RB2.mk1 w  (.int .i64 m) (.slice o (D + 1) c) 31).1).below (w' := (w.alloc (.cells #[.int .i64 m, .slice o (D + 1) c] 31))) (by (repeat (first | exact Below.refl _ _ | (refine Below.setCell ?_ (by first | (simp; done) | (simp; omega) | omega) _) | (refine Below.alloc ?_ (by first | (simp; done) | (simp; omega) | omega) _) | (refine below_drewN ?_ _) | (refine Below.drew ?_)))) (Nat.le_refl _); have B0 : Below w.heap.size w (w.alloc (.cells #[.int .i64 m, .slice o (D + 1) c] 31)) := (by (repeat (first | exact Below.refl _ _ | (refine Below.setCell ?_ (by first | (simp; done) | (simp; omega) | omega) _) | (refine Below.alloc ?_ (by first | (simp; done) | (simp; omega) | omega) _) | (refine below_drewN ?_ _) | (refine Below.drew ?_)))); have hv'0 := hv'.below (w' := (w.alloc (.cells #[.int .i64 m, .slice o (D + 1) c] 31))) (by (repeat (first | exact Below.refl _ _ | (refine Below.setCell ?_ (by first | (simp; done) | (simp; omega) | omega) _) | (refine Below.alloc ?_ (by first | (simp; done) | (simp; omega) | omega) _) | (refine below_drewN ?_ _) | (refine Below.drew ?_)))) (Nat.le_refl _); generalize w.alloc (.cells #[.int .i64 m, .slice o (D + 1) c] 31) = w0 at X0 B0 hv'0 ⊢)
      (obtain ⟨gqX0, gqX1⟩ := id X0; go_wp2_with fail; refine (typicalFor_c P m _ t _ hv'0).mono ?_; rw [HC.out]; rintro e w1 ⟨rfl, hb⟩; (have X1 := X0.below hb (Nat.le_refl _); have hv'1 := hv'0.below hb (Nat.le_refl _); have B1 := B0.trans (hb.mono B0.size)); clear gqX0 gqX1; clear hb)
      obtain ⟨x0, x1⟩ := id X1
      go_wp2_with fail
      refine (typicalParameters_c P D m _ t _ hv'1 hP hD1 hD hm hm' HTh.out HLh.out).mono ?_
      rintro e w2 ⟨v2, rfl, how, hb2⟩
      have how2 := how ls HQ.out.symm
      rw [← HQ.out]
      have B1s := B1.size
      have B2 := B1.trans (hb2.mono B1s)
      clear how
      go_wp2
      go_ret2
      rw [HR.out]
      exact ⟨_, rfl, how2.mono B1s, B2, hll⟩
  · have hR : tparR p m t = ⟨[], tyFor p m t⟩ := by unfold tparR; rw [if_neg h0]
    have HR := Lib.hid hR
    obtain ⟨cc, hcc⟩ : ∃ cc, cc = tyFor p m t := ⟨_, rfl⟩
    rw [← hcc] at h0 HR
    have HC := Lib.hid hcc
    clear hcc hR
    have hne : (cc != 0) = true := by simpa using h0
    have hne' : (cc == 0) = false := by simpa using h0
    go_enter Tryz.func19, Tryz.ntmps19
    go_wp2_with fail
    (have X0 := ((RB2.mk1 w  (.int .i64 m) (.slice o t.length c) 31).1).below (w' := (w.alloc (.cells #[.int .i64 m, .slice o t.length c] 31))) (by (repeat (first | exact Below.refl _ _ | (refine Below.setCell ?_ (by first | (simp; done) | (simp; omega) | omega) _) | (refine Below.alloc ?_ (by first | (simp; done) | (simp; omega) | omega) _) | (refine below_drewN ?_ _) | (refine Below.drew ?_)))) (Nat.le_refl _); have B0 : Below w.heap.size w (w.alloc (.cells #[.int .i64 m, .slice o t.length c] 31)) := (by (repeat (first | exact Below.refl _ _ | (refine Below.setCell ?_ (by first | (simp; done) | (simp; omega) | omega) _) | (refine Below.alloc ?_ (by first | (simp; done) | (simp; omega) | omega) _) | (refine below_drewN ?_ _) | (refine Below.drew ?_)))); have hv0 := hv.below (w' := (w.alloc (.cells #[.int .i64 m, .slice o t.length c] 31))) (by (repeat (first | exact Below.refl _ _ | (refine Below.setCell ?_ (by first | (simp; done) | (simp; omega) | omega) _) | (refine Below.alloc ?_ (by first | (simp; done) | (simp; omega) | omega) _) | (refine below_drewN ?_ _) | (refine Below.drew ?_)))) (Nat.le_refl _); generalize w.alloc (.cells #[.int .i64 m, .slice o t.length c] 31) = w0 at X0 B0 hv0 ⊢)
    (obtain ⟨gqX0, gqX1⟩ := id X0; go_wp2_with fail; refine (typicalFor_c p m _ t _ hv0).mono ?_; rw [← HC.out]; rintro e w1 ⟨rfl, hb⟩; (have X1 := X0.below hb (Nat.le_refl _); have hv1 := hv0.below hb (Nat.le_refl _); have B1 := B0.trans (hb.mono B0.size)); clear gqX0 gqX1; clear hb)
    go_wp2
    go_ret2
    rw [HR.out]
    exact ⟨_, rfl, OwI.nil _ _, B1, by simp⟩
set_option maxHeartbeats 1000000 in
theorem sTypicalParameters_c (p m : Int) (v : Value) (t : List (List Int)) (w : World) (hv : RdT w v t) :
    Calls Tryz.prog 18 #[.int .i64 p, .agg #[.int .i64 m, v]] w fun e w' => LEnd w w' (tparR p m t) e := by
  obtain ⟨o, c, rfl, -, -⟩ := id hv
  by_cases h0 : tyFor p m t = 0
  · obtain ⟨P, D, rfl, hl, hP, hD1, hD, hm, hm', HT, L, e1, e2⟩ := law_typ h0
    have HC := Lib.hid h0
    have HTh := Lib.hid HT
    have HLh := Lib.hid L
    have hR : tparR P m t = match typO P m t with | some ls => ⟨ls, 0⟩ | none => ⟨[], 4⟩ := by unfold tparR; rw [if_pos h0]
    rw [hl]
    have hv' : RdT w (.slice o (D + 1) c) t := by rw [hl] at hv; exact hv
    have HQ := Lib.hid e2
    have HOl := Lib.hid e1
    clear h0 hv HT L e1 e2
    cases ho : typO P m t with
    | none =>
      rw [ho] at hR
      rw [ho] at HQ
      have HR := Lib.hid hR
      clear hR ho HOl
      go_enter Tryz.func18, Tryz.ntmps18
      go_wp2_with fail
      (have X0 := ((RB2.mk1 w  (.int .i64 m) (.slice o (D + 1) c) 31).1).below (w' := (w.alloc (.cells #[.int .i64 m, .slice o (D + 1) c] 31))) (by (repeat (first | exact Below.refl _ _ | (refine Below.setCell ?_ (by first | (simp; done) | (simp; omega) | omega) _) | (refine Below.alloc ?_ (by first | (simp; done) | (simp; omega) | omega) _) | (refine below_drewN ?_ _) | (refine Below.drew ?_)))) (Nat.le_refl _); have B0 : Below w.heap.size w (w.alloc (.cells #[.int .i64 m, .slice o (D + 1) c] 31)) := (by (repeat (first | exact Below.refl _ _ | (refine Below.setCell ?_ (by first | (simp; done) | (simp; omega) | omega) _) | (refine Below.alloc ?_ (by first | (simp; done) | (simp; omega) | omega) _) | (refine below_drewN ?_ _) | (refine Below.drew ?_)))); have hv'0 := hv'.below (w' := (w.alloc (.cells #[.int .i64 m, .slice o (D + 1) c] 31))) (by (repeat (first | exact Below.refl _ _ | (refine Below.setCell ?_ (by first | (simp; done) | (simp; omega) | omega) _) | (refine Below.alloc ?_ (by first | (simp; done) | (simp; omega) | omega) _) | (refine below_drewN ?_ _) | (refine Below.drew ?_)))) (Nat.le_refl _); generalize w.alloc (.cells #[.int .i64 m, .slice o (D + 1) c] 31) = w0 at X0 B0 hv'0 ⊢)
      (obtain ⟨gqX0, gqX1⟩ := id X0; go_wp2_with fail; refine (l09Of_c P m _ t _ hv'0).mono ?_; rw [HC.out]; rintro e w1 ⟨rfl, hb⟩; (have X1 := X0.below hb (Nat.le_refl _); have hv'1 := hv'0.below hb (Nat.le_refl _); have B1 := B0.trans (hb.mono B0.size)); clear gqX0 gqX1; clear hb)
      obtain ⟨x0, x1⟩ := id X1
      go_wp2_with fail
      refine (l09Parameters_c P D m _ t _ hv'1 hP hD1 hD hm hm' HTh.out).mono ?_
      rintro e w2 ⟨v2, rfl, -, hb2⟩
      rw [← HQ.out]
      have B2 := B1.trans (hb2.mono B1.size)
      go_wp2
      go_ret2
      rw [HR.out]
      exact ⟨_, rfl, OwI.nil _ _, B2, by simp⟩
    | some ls =>
      have hll : ls.length ≤ 1048576 := by
        have := parO_len hP hD (HOl.out.symm.trans ho)
        omega
      rw [ho] at hR
      rw [ho] at HQ
      have HR := Lib.hid hR
      clear hR ho HOl
      go_enter Tryz.func18, Tryz.ntmps18
      go_wp2_with fail
      (have X0 := ((RB2.mk1 w  (.int .i64 m) (.slice o (D + 1) c) 31).1).below (w' := (w.alloc (.cells #[.int .i64 m, .slice o (D + 1) c] 31))) (by (repeat (first | exact Below.refl _ _ | (refine Below.setCell ?_ (by first | (simp; done) | (simp; omega) | omega) _) | (refine Below.alloc ?_ (by first | (simp; done) | (simp; omega) | omega) _) | (refine below_drewN ?_ _) | (refine Below.drew ?_)))) (Nat.le_refl _); have B0 : Below w.heap.size w (w.alloc (.cells #[.int .i64 m, .slice o (D + 1) c] 31)) := (by (repeat (first | exact Below.refl _ _ | (refine Below.setCell ?_ (by first | (simp; done) | (simp; omega) | omega) _) | (refine Below.alloc ?_ (by first | (simp; done) | (simp; omega) | omega) _) | (refine below_drewN ?_ _) | (refine Below.drew ?_)))); have hv'0 := hv'.below (w' := (w.alloc (.cells #[.int .i64 m, .slice o (D + 1) c] 31))) (by (repeat (first | exact Below.refl _ _ | (refine Below.setCell ?_ (by first | (simp; done) | (simp; omega) | omega) _) | (refine Below.alloc ?_ (by first | (simp; done) | (simp; omega) | omega) _) | (refine below_drewN ?_ _) | (refine Below.drew ?_)))) (Nat.le_refl _); generalize w.alloc (.cells #[.int .i64 m, .slice o (D + 1) c] 31) = w0 at X0 B0 hv'0 ⊢)
      (obtain ⟨gqX0, gqX1⟩ := id X0; go_wp2_with fail; refine (l09Of_c P m _ t _ hv'0).mono ?_; rw [HC.out]; rintro e w1 ⟨rfl, hb⟩; (have X1 := X0.below hb (Nat.le_refl _); have hv'1 := hv'0.below hb (Nat.le_refl _); have B1 := B0.trans (hb.mono B0.size)); clear gqX0 gqX1; clear hb)
      obtain ⟨x0, x1⟩ := id X1
      go_wp2_with fail
      refine (l09Parameters_c P D m _ t _ hv'1 hP hD1 hD hm hm' HTh.out).mono ?_
      rintro e w2 ⟨v2, rfl, how, hb2⟩
      have how2 := how ls HQ.out.symm
      rw [← HQ.out]
      have B1s := B1.size
      have B2 := B1.trans (hb2.mono B1s)
      clear how
      go_wp2
      go_ret2
      rw [HR.out]
      exact ⟨_, rfl, how2.mono B1s, B2, hll⟩
  · have hR : tparR p m t = ⟨[], tyFor p m t⟩ := by unfold tparR; rw [if_neg h0]
    have HR := Lib.hid hR
    obtain ⟨cc, hcc⟩ : ∃ cc, cc = tyFor p m t := ⟨_, rfl⟩
    rw [← hcc] at h0 HR
    have HC := Lib.hid hcc
    clear hcc hR
    have hne : (cc != 0) = true := by simpa using h0
    have hne' : (cc == 0) = false := by simpa using h0
    go_enter Tryz.func18, Tryz.ntmps18
    go_wp2_with fail
    (have X0 := ((RB2.mk1 w  (.int .i64 m) (.slice o t.length c) 31).1).below (w' := (w.alloc (.cells #[.int .i64 m, .slice o t.length c] 31))) (by (repeat (first | exact Below.refl _ _ | (refine Below.setCell ?_ (by first | (simp; done) | (simp; omega) | omega) _) | (refine Below.alloc ?_ (by first | (simp; done) | (simp; omega) | omega) _) | (refine below_drewN ?_ _) | (refine Below.drew ?_)))) (Nat.le_refl _); have B0 : Below w.heap.size w (w.alloc (.cells #[.int .i64 m, .slice o t.length c] 31)) := (by (repeat (first | exact Below.refl _ _ | (refine Below.setCell ?_ (by first | (simp; done) | (simp; omega) | omega) _) | (refine Below.alloc ?_ (by first | (simp; done) | (simp; omega) | omega) _) | (refine below_drewN ?_ _) | (refine Below.drew ?_)))); have hv0 := hv.below (w' := (w.alloc (.cells #[.int .i64 m, .slice o t.length c] 31))) (by (repeat (first | exact Below.refl _ _ | (refine Below.setCell ?_ (by first | (simp; done) | (simp; omega) | omega) _) | (refine Below.alloc ?_ (by first | (simp; done) | (simp; omega) | omega) _) | (refine below_drewN ?_ _) | (refine Below.drew ?_)))) (Nat.le_refl _); generalize w.alloc (.cells #[.int .i64 m, .slice o t.length c] 31) = w0 at X0 B0 hv0 ⊢)
    (obtain ⟨gqX0, gqX1⟩ := id X0; go_wp2_with fail; refine (l09Of_c p m _ t _ hv0).mono ?_; rw [← HC.out]; rintro e w1 ⟨rfl, hb⟩; (have X1 := X0.below hb (Nat.le_refl _); have hv1 := hv0.below hb (Nat.le_refl _); have B1 := B0.trans (hb.mono B0.size)); clear gqX0 gqX1; clear hb)
    go_wp2
    go_ret2
    rw [HR.out]
    exact ⟨_, rfl, OwI.nil _ _, B1, by simp⟩
set_option maxHeartbeats 1000000 in
theorem IsTypicalLaw_c (p m : Int) (v : Value) (t : List (List Int)) (w : World) (hv : RdT w v t) :
    Calls Tryz.prog 17 #[.int .i64 p, .agg #[.int .i64 m, v]] w fun e w' => BEnd w w' (istR p m t) e := by
  obtain ⟨o, c, rfl, -, -⟩ := id hv
  by_cases h0 : tyFor p m t = 0
  · obtain ⟨P, D, rfl, hl, hP, hD1, hD, hm, hm', HT, L, e1, e2⟩ := law_typ h0
    have HC := Lib.hid h0
    have HTh := Lib.hid HT
    have HLh := Lib.hid L
    have HR := Lib.hid (show istR P m t = ⟨(typO P m t).isSome, 0⟩ by unfold istR; rw [if_pos h0])
    rw [hl]
    have hv' : RdT w (.slice o (D + 1) c) t := by rw [hl] at hv; exact hv
    have HQ := Lib.hid e1
    clear h0 hv HT L e1 e2
    go_enter Tryz.func17, Tryz.ntmps17
    go_wp2_with fail
    (have X0 := ((RB2.mk1 w  (.int .i64 m) (.slice o (D + 1) c) 31).1).below (w' := (w.alloc (.cells #[.int .i64 m, .slice o (D + 1) c] 31))) (by (repeat (first | exact Below.refl _ _ | (refine Below.setCell ?_ (by first | (simp; done) | (simp; omega) | omega) _) | (refine Below.alloc ?_ (by first | (simp; done) | (simp; omega) | omega) _) | (refine below_drewN ?_ _) | (refine Below.drew ?_)))) (Nat.le_refl _); have B0 : Below w.heap.size w (w.alloc (.cells #[.int .i64 m, .slice o (D + 1) c] 31)) := (by (repeat (first | exact Below.refl _ _ | (refine Below.setCell ?_ (by first | (simp; done) | (simp; omega) | omega) _) | (refine Below.alloc ?_ (by first | (simp; done) | (simp; omega) | omega) _) | (refine below_drewN ?_ _) | (refine Below.drew ?_)))); have hv'0 := hv'.below (w' := (w.alloc (.cells #[.int .i64 m, .slice o (D + 1) c] 31))) (by (repeat (first | exact Below.refl _ _ | (refine Below.setCell ?_ (by first | (simp; done) | (simp; omega) | omega) _) | (refine Below.alloc ?_ (by first | (simp; done) | (simp; omega) | omega) _) | (refine below_drewN ?_ _) | (refine Below.drew ?_)))) (Nat.le_refl _); generalize w.alloc (.cells #[.int .i64 m, .slice o (D + 1) c] 31) = w0 at X0 B0 hv'0 ⊢)
    (obtain ⟨gqX0, gqX1⟩ := id X0; go_wp2_with fail; refine (typicalFor_c P m _ t _ hv'0).mono ?_; rw [HC.out]; rintro e w1 ⟨rfl, hb⟩; (have X1 := X0.below hb (Nat.le_refl _); have hv'1 := hv'0.below hb (Nat.le_refl _); have B1 := B0.trans (hb.mono B0.size)); clear gqX0 gqX1; clear hb)
    obtain ⟨x0, x1⟩ := id X1
    go_wp2_with fail
    refine (typicalParameters_c P D m _ t _ hv'1 hP hD1 hD hm hm' HTh.out HLh.out).mono ?_
    rintro e w2 ⟨v2, rfl, -, hb2⟩
    rw [← HQ.out]
    have B2 := B1.trans (hb2.mono B1.size)
    go_wp2
    go_ret2
    rw [HR.out]
    exact ⟨rfl, B2⟩
  · have HR := Lib.hid (show istR p m t = ⟨false, tyFor p m t⟩ by unfold istR; rw [if_neg h0])
    obtain ⟨cc, hcc⟩ : ∃ cc, cc = tyFor p m t := ⟨_, rfl⟩
    rw [← hcc] at h0 HR
    have HC := Lib.hid hcc
    clear hcc
    have hne : (cc != 0) = true := by simpa using h0
    have hne' : (cc == 0) = false := by simpa using h0
    go_enter Tryz.func17, Tryz.ntmps17
    go_wp2_with fail
    (have X0 := ((RB2.mk1 w  (.int .i64 m) (.slice o t.length c) 31).1).below (w' := (w.alloc (.cells #[.int .i64 m, .slice o t.length c] 31))) (by (repeat (first | exact Below.refl _ _ | (refine Below.setCell ?_ (by first | (simp; done) | (simp; omega) | omega) _) | (refine Below.alloc ?_ (by first | (simp; done) | (simp; omega) | omega) _) | (refine below_drewN ?_ _) | (refine Below.drew ?_)))) (Nat.le_refl _); have B0 : Below w.heap.size w (w.alloc (.cells #[.int .i64 m, .slice o t.length c] 31)) := (by (repeat (first | exact Below.refl _ _ | (refine Below.setCell ?_ (by first | (simp; done) | (simp; omega) | omega) _) | (refine Below.alloc ?_ (by first | (simp; done) | (simp; omega) | omega) _) | (refine below_drewN ?_ _) | (refine Below.drew ?_)))); have hv0 := hv.below (w' := (w.alloc (.cells #[.int .i64 m, .slice o t.length c] 31))) (by (repeat (first | exact Below.refl _ _ | (refine Below.setCell ?_ (by first | (simp; done) | (simp; omega) | omega) _) | (refine Below.alloc ?_ (by first | (simp; done) | (simp; omega) | omega) _) | (refine below_drewN ?_ _) | (refine Below.drew ?_)))) (Nat.le_refl _); generalize w.alloc (.cells #[.int .i64 m, .slice o t.length c] 31) = w0 at X0 B0 hv0 ⊢)
    (obtain ⟨gqX0, gqX1⟩ := id X0; go_wp2_with fail; refine (typicalFor_c p m _ t _ hv0).mono ?_; rw [← HC.out]; rintro e w1 ⟨rfl, hb⟩; (have X1 := X0.below hb (Nat.le_refl _); have hv1 := hv0.below hb (Nat.le_refl _); have B1 := B0.trans (hb.mono B0.size)); clear gqX0 gqX1; clear hb)
    go_wp2
    go_ret2
    rw [HR.out]
    exact ⟨rfl, B1⟩
set_option maxHeartbeats 1000000 in
theorem sIsTypicalLaw_c (p m : Int) (v : Value) (t : List (List Int)) (w : World) (hv : RdT w v t) :
    Calls Tryz.prog 16 #[.int .i64 p, .agg #[.int .i64 m, v]] w fun e w' => BEnd w w' (istR p m t) e := by
  obtain ⟨o, c, rfl, -, -⟩ := id hv
  by_cases h0 : tyFor p m t = 0
  · obtain ⟨P, D, rfl, hl, hP, hD1, hD, hm, hm', HT, L, e1, e2⟩ := law_typ h0
    have HC := Lib.hid h0
    have HTh := Lib.hid HT
    have HLh := Lib.hid L
    have HR := Lib.hid (show istR P m t = ⟨(typO P m t).isSome, 0⟩ by unfold istR; rw [if_pos h0])
    rw [hl]
    have hv' : RdT w (.slice o (D + 1) c) t := by rw [hl] at hv; exact hv
    have HQ := Lib.hid e2
    clear h0 hv HT L e1 e2
    go_enter Tryz.func16, Tryz.ntmps16
    go_wp2_with fail
    (have X0 := ((RB2.mk1 w  (.int .i64 m) (.slice o (D + 1) c) 31).1).below (w' := (w.alloc (.cells #[.int .i64 m, .slice o (D + 1) c] 31))) (by (repeat (first | exact Below.refl _ _ | (refine Below.setCell ?_ (by first | (simp; done) | (simp; omega) | omega) _) | (refine Below.alloc ?_ (by first | (simp; done) | (simp; omega) | omega) _) | (refine below_drewN ?_ _) | (refine Below.drew ?_)))) (Nat.le_refl _); have B0 : Below w.heap.size w (w.alloc (.cells #[.int .i64 m, .slice o (D + 1) c] 31)) := (by (repeat (first | exact Below.refl _ _ | (refine Below.setCell ?_ (by first | (simp; done) | (simp; omega) | omega) _) | (refine Below.alloc ?_ (by first | (simp; done) | (simp; omega) | omega) _) | (refine below_drewN ?_ _) | (refine Below.drew ?_)))); have hv'0 := hv'.below (w' := (w.alloc (.cells #[.int .i64 m, .slice o (D + 1) c] 31))) (by (repeat (first | exact Below.refl _ _ | (refine Below.setCell ?_ (by first | (simp; done) | (simp; omega) | omega) _) | (refine Below.alloc ?_ (by first | (simp; done) | (simp; omega) | omega) _) | (refine below_drewN ?_ _) | (refine Below.drew ?_)))) (Nat.le_refl _); generalize w.alloc (.cells #[.int .i64 m, .slice o (D + 1) c] 31) = w0 at X0 B0 hv'0 ⊢)
    (obtain ⟨gqX0, gqX1⟩ := id X0; go_wp2_with fail; refine (l09Of_c P m _ t _ hv'0).mono ?_; rw [HC.out]; rintro e w1 ⟨rfl, hb⟩; (have X1 := X0.below hb (Nat.le_refl _); have hv'1 := hv'0.below hb (Nat.le_refl _); have B1 := B0.trans (hb.mono B0.size)); clear gqX0 gqX1; clear hb)
    obtain ⟨x0, x1⟩ := id X1
    go_wp2_with fail
    refine (l09Parameters_c P D m _ t _ hv'1 hP hD1 hD hm hm' HTh.out).mono ?_
    rintro e w2 ⟨v2, rfl, -, hb2⟩
    rw [← HQ.out]
    have B2 := B1.trans (hb2.mono B1.size)
    go_wp2
    go_ret2
    rw [HR.out]
    exact ⟨rfl, B2⟩
  · have HR := Lib.hid (show istR p m t = ⟨false, tyFor p m t⟩ by unfold istR; rw [if_neg h0])
    obtain ⟨cc, hcc⟩ : ∃ cc, cc = tyFor p m t := ⟨_, rfl⟩
    rw [← hcc] at h0 HR
    have HC := Lib.hid hcc
    clear hcc
    have hne : (cc != 0) = true := by simpa using h0
    have hne' : (cc == 0) = false := by simpa using h0
    go_enter Tryz.func16, Tryz.ntmps16
    go_wp2_with fail
    (have X0 := ((RB2.mk1 w  (.int .i64 m) (.slice o t.length c) 31).1).below (w' := (w.alloc (.cells #[.int .i64 m, .slice o t.length c] 31))) (by (repeat (first | exact Below.refl _ _ | (refine Below.setCell ?_ (by first | (simp; done) | (simp; omega) | omega) _) | (refine Below.alloc ?_ (by first | (simp; done) | (simp; omega) | omega) _) | (refine below_drewN ?_ _) | (refine Below.drew ?_)))) (Nat.le_refl _); have B0 : Below w.heap.size w (w.alloc (.cells #[.int .i64 m, .slice o t.length c] 31)) := (by (repeat (first | exact Below.refl _ _ | (refine Below.setCell ?_ (by first | (simp; done) | (simp; omega) | omega) _) | (refine Below.alloc ?_ (by first | (simp; done) | (simp; omega) | omega) _) | (refine below_drewN ?_ _) | (refine Below.drew ?_)))); have hv0 := hv.below (w' := (w.alloc (.cells #[.int .i64 m, .slice o t.length c] 31))) (by (repeat (first | exact Below.refl _ _ | (refine Below.setCell ?_ (by first | (simp; done) | (simp; omega) | omega) _) | (refine Below.alloc ?_ (by first | (simp; done) | (simp; omega) | omega) _) | (refine below_drewN ?_ _) | (refine Below.drew ?_)))) (Nat.le_refl _); generalize w.alloc (.cells #[.int .i64 m, .slice o t.length c] 31) = w0 at X0 B0 hv0 ⊢)
    (obtain ⟨gqX0, gqX1⟩ := id X0; go_wp2_with fail; refine (l09Of_c p m _ t _ hv0).mono ?_; rw [← HC.out]; rintro e w1 ⟨rfl, hb⟩; (have X1 := X0.below hb (Nat.le_refl _); have hv1 := hv0.below hb (Nat.le_refl _); have B1 := B0.trans (hb.mono B0.size)); clear gqX0 gqX1; clear hb)
    go_wp2
    go_ret2
    rw [HR.out]
    exact ⟨rfl, B1⟩
end Go.Proofs.YtoednonijmkbjaaGreat
