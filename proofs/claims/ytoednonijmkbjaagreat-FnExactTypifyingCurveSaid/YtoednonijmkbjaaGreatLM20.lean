/- Lemmas. -/
import Derived.Test.YtoednonijmkbjaaGreatLM19
import Derived.Test.YtoednonijmkbjaaGreatLM17
set_option linter.unusedSimpArgs false
set_option linter.unusedVariables false
namespace Go.Proofs.YtoednonijmkbjaaGreat
open Go.RowKit

def serK (p : Nat) (v : Nat → Int) (k i : Nat) : Int := sumN k (fun j => if i = p ^ j then cK p v j else 0)
theorem serK_hi {p : Nat} (hp : 2 ≤ p) (v : Nat → Int) {k : Nat} : ∀ j, j ≤ k → serK p v j (p ^ k) = 0
  | 0, _ => rfl
  | j + 1, h => by
    show serK p v j (p ^ k) + (if p ^ k = p ^ j then cK p v j else 0) = 0
    rw [serK_hi hp v j (by omega), if_neg (fun e => by have := Nat.pow_lt_pow_right (a := p) (by omega) (show j < k by omega); omega)]
    rfl
theorem serK_set {p : Nat} (hp : 2 ≤ p) (v : Nat → Int) (W : Int) (n k : Nat) :
    (mk n (fun i => serK p v k i % W)).set (p ^ k) (num p v k % W * (((p : Int) % W) ^ (p ^ k - 1 - k) % W) % W) = mk n (fun i => serK p v (k + 1) i % W) := by
  rw [mk_set]
  refine mk_ext fun j _ => ?_
  show _ = (serK p v k j + (if j = p ^ k then cK p v k else 0)) % W
  by_cases e : j = p ^ k
  · subst e
    rw [if_pos rfl, if_pos rfl, serK_hi hp v k (Nat.le_refl _), Int.zero_add]
    exact emod_congr_mul (mod_self_mod _ _) (by rw [mod_self_mod]; exact pow_mod _ _ _)
  · rw [if_neg e, if_neg e, Int.add_zero]
theorem serK_z {p : Nat} (hp : 2 ≤ p) (v : Nat → Int) : ∀ k, serK p v k 0 = 0
  | 0 => rfl
  | k + 1 => by
    show serK p v k 0 + (if 0 = p ^ k then cK p v k else 0) = 0
    rw [serK_z hp v k, if_neg (fun e => by have := Nat.pow_pos (n := k) (show 0 < p by omega); omega)]
    rfl
theorem serK_0 (W : Int) (p : Nat) (v : Nat → Int) (n : Nat) : List.replicate n (0 : Int) = mk n (fun i => serK p v 0 i % W) := by
  rw [mk_zero]
  exact mk_ext fun i _ => by show 0 = (0 : Int) % W; rw [Int.zero_emod]

theorem RdI.len4 {w : World} {v : Value} {xs : List Int} {n : Nat} (h : RdI w v xs) (hn : xs.length = n) : ∃ o c, v = .slice o n c := by
  obtain ⟨o, c, rfl, -, -⟩ := h
  exact ⟨o, c, by rw [hn]⟩

set_option maxHeartbeats 2000000 in
set_option maxRecDepth 100000 in
theorem typicalLaw_c (p n : Nat) (m : Int) (v : Value) (ls : List Int) (w : World) (hv : RdI w v ls) (hp : P4 p) (hn1 : 1 ≤ n) (hn : n ≤ 10) (hm : 2 ≤ m) (hm' : m ≤ 10000) (hl : ls.length ≤ 3) (hx : ∀ x ∈ ls, 0 ≤ x ∧ x ≤ 10000)
    (W : Int) (hW : W = m * ((p ^ (n - 1) : Nat) : Int)) (hWm : W ≤ 1000000000000) :
    Calls Tryz.prog 56 #[.int .i64 p, .int .i64 m, .int .i64 n, v] w fun e w' => PVEnd w w' m (tri (n + 1) (fun i j => atT (lawT W (n + 1) (mk (n + 1) (fun i => serK p (at0 (ls ++ List.replicate (3 - ls.length) (0 : Int))) (mostOf p n + 1) i % W))) i j / ((p ^ (i + j - 1) : Nat) : Int) % m)) e := by
  have hp2 := hp.pos
  have e1 : IntKind.i64.wrap ((n : Int) - 1) = (n : Int) - 1 := IntWalk.i64_in _ (by omega)
  have HW := Lib.hid hW
  clear hW
  go_enter Tryz.func56, Tryz.ntmps56
  go_wp2_with fail
  have hbp : ((w.alloc (.cells #[.int .i64 p] 2)).alloc (.cells #[.int .i64 0, .slice none 0 0] 31)).cell? ⟨w.heap.size, 0, none⟩ = some (.int .i64 p) := by simp
  have R0 := RB2.mk2 w (.cells #[.int .i64 p] 2) (.int .i64 0) (.slice none 0 0) 31
  have B0 : Below w.heap.size w ((w.alloc (.cells #[.int .i64 p] 2)).alloc (.cells #[.int .i64 0, .slice none 0 0] 31)) := (by (repeat (first | exact bR _ _ | (refine bS ?_ _) | (refine bA ?_ _) | (refine bN ?_ _) | (refine bD ?_))))
  have hv0 := hv.below (w' := (w.alloc (.cells #[.int .i64 p] 2)).alloc (.cells #[.int .i64 0, .slice none 0 0] 31)) (by (repeat (first | exact bR _ _ | (refine bS ?_ _) | (refine bA ?_ _) | (refine bN ?_ _) | (refine bD ?_)))) (Nat.le_refl _)
  have hs0 : w.heap.size + 1 < ((w.alloc (.cells #[.int .i64 p] 2)).alloc (.cells #[.int .i64 0, .slice none 0 0] 31)).heap.size := R0.1.lt
  generalize (w.alloc (.cells #[.int .i64 p] 2)).alloc (.cells #[.int .i64 0, .slice none 0 0] 31) = w0 at hbp R0 B0 hv0 hs0 ⊢
  go_loop [9, 18] (fun sw sk => ∃ k : Nat, k ≤ n - 1 ∧ sk = .int .i64 k ∧ sw = .int .i64 (m * ((p ^ k : Nat) : Int))) (fun _ sk => n - 1 - (intOf sk).toNat)
  case atStart => exact ⟨0, Nat.zero_le _, rfl, by rw [Nat.pow_zero]; simp⟩
  case round =>
    obtain ⟨k, hk, rfl, rfl⟩ := hrel
    by_cases hlt : k < n - 1
    · have i1 : (k : Int) < (n : Int) - 1 := by omega
      have hb : m * ((p ^ (k + 1) : Nat) : Int) ≤ 10000 * 282475249 := Int.mul_le_mul hm' (by have := (hp.pow9 (show k + 1 ≤ 10 by omega)).2; omega) (by omega) (by omega)
      have hb0 : 0 ≤ m * ((p ^ (k + 1) : Nat) : Int) := Int.mul_nonneg (by omega) (by omega)
      have e3 : IntKind.i64.wrap (m * ((p ^ k : Nat) : Int) * (p : Int)) = m * ((p ^ (k + 1) : Nat) : Int) := by
        have h : m * ((p ^ k : Nat) : Int) * (p : Int) = m * ((p ^ (k + 1) : Nat) : Int) := by rw [Nat.pow_succ, Int.mul_assoc]; simp
        rw [h]; exact IntWalk.i64_in _ (by omega)
      generalize hA : p ^ k = A at e3 ⊢
      generalize hB : p ^ (k + 1) = B at e3 hb hb0
      have HB := Lib.hid hB
      clear hA hB
      go_wp2_with fail
      exact ⟨⟨k + 1, by omega, by go_num, by rw [HB.out]⟩, by simp [intOf]; omega⟩
    · obtain rfl : k = n - 1 := by omega
      have i1 : ¬ (((n - 1 : Nat) : Int) < (n : Int) - 1) := by omega
      rw [← HW.out]
      have hW2 : 2 ≤ W := by
        rw [HW.out]
        have h := Int.mul_le_mul (show (2 : Int) ≤ m by omega) (show (1 : Int) ≤ ((p ^ (n - 1) : Nat) : Int) by have := (hp.pow9 (show n - 1 ≤ 10 by omega)).1; omega) (by omega) (by omega)
        omega
      have hll : (ls ++ List.replicate (3 - ls.length) (0 : Int)).length = 3 := by simp; omega
      have hlx : ∀ x ∈ ls ++ List.replicate (3 - ls.length) (0 : Int), 0 ≤ x ∧ x ≤ 10000 := by
        intro x hx'
        rcases List.mem_append.1 hx' with h | h
        · exact hx x h
        · rw [(List.mem_replicate.1 h).2]; omega
      obtain ⟨ns, hns⟩ : ∃ ns, ns = mk 4 (fun k => num p (at0 (ls ++ List.replicate (3 - ls.length) 0)) k % W) := ⟨_, rfl⟩
      have HN := Lib.hid hns
      have HNl := Lib.hid (show ns.length = 4 by rw [hns, mk_len])
      have HLL := Lib.hid hll
      have HLX := Lib.hid hlx
      clear hns hll hlx
      go_wp2_with fail
      have hd0 : Below w0.heap.size w0 w0.drew := (Below.refl _ _).drew
      have hsd0 := hd0.size
      have f0_a := keep_cell hd0 (Nat.le_refl _) hbp
      refine wp_region_K (S := fun w' => w'.cell? ⟨w.heap.size, 0, none⟩ = some (.int .i64 p)) [] (by kernel_rfl) ?_
      have hHeld : (fun w' : World => w'.cell? ⟨w.heap.size, 0, none⟩ = some (.int .i64 p)) w0.drew := by go_keep
      refine' wpAnyK_takeL (i := 0) (v := _) rfl (by kernel_rfl) (by kernel_rfl) (by kernel_rfl) (by kernel_rfl) (fun _ _ _ h => h) (Or.inl ⟨by rfl, ?yT1⟩) hHeld ?rT1
      case yT1 => (intro w' hSw; (try dsimp only at hSw); go_simp; try with_reducible rfl)
      try simp only [List.getElem_toArray, List.getElem_cons_zero, List.getElem_cons_succ, Act.put, List.setIfInBounds_toArray, List.set_cons_zero, List.set_cons_succ]
      refine' wpAnyK_takeL (i := 1) (v := _) rfl (by kernel_rfl) (by kernel_rfl) (by kernel_rfl) (by kernel_rfl) (fun _ _ _ h => h) (Or.inl ⟨by rfl, ?yT2⟩) hHeld ?rT2
      case yT2 => (intro w' hSw; (try dsimp only at hSw); go_simp; try with_reducible rfl)
      try simp only [List.getElem_toArray, List.getElem_cons_zero, List.getElem_cons_succ, Act.put, List.setIfInBounds_toArray, List.set_cons_zero, List.set_cons_succ]
      refine' wpAnyK_takeL (i := 2) (v := _) rfl (by kernel_rfl) (by kernel_rfl) (by kernel_rfl) (by kernel_rfl) (fun _ _ _ h => h) (Or.inl ⟨by rfl, ?yT3⟩) hHeld ?rT3
      case yT3 => (intro w' hSw; (try dsimp only at hSw); go_simp; try with_reducible rfl)
      try simp only [List.getElem_toArray, List.getElem_cons_zero, List.getElem_cons_succ, Act.put, List.setIfInBounds_toArray, List.set_cons_zero, List.set_cons_succ]
      refine wpAnyK_oneL (i := 3) rfl (by kernel_rfl) (fun K hK => ?_)
      go_simp
      go_at_call 94
      refine (padded_c _ ls _ ((hv0).below (by (repeat (first | exact bR _ _ | (refine bS ?_ _) | (refine bA ?_ _) | (refine bN ?_ _) | (refine bD ?_)))) (Nat.le_refl _)) hl).mono ?_
      rintro e wd1 ⟨va, rfl, hod1, hbd1⟩
      have hd1 : Below w0.heap.size w0 wd1 := (by (repeat (first | exact bR _ _ | (refine bS ?_ _) | (refine bA ?_ _) | (refine bN ?_ _) | (refine bD ?_) | (refine bT ?_ hbd1))))
      have hsd1 := hd1.size
      have hsz1_ := hbd1.size
      (try simp at hsz1_)
      have f1_a := keep_cell hd1 (Nat.le_refl _) hbp
      go_wp2_with fail
      clear hHeld
      have hHeld : (fun w' : World => w'.cell? ⟨w.heap.size, 0, none⟩ = some (.int .i64 p)) wd1 := by go_keep
      refine hK.out _ _ (fun _ => hHeld) ?_
      clear hK K
      try simp only [List.getElem_toArray, List.getElem_cons_zero, List.getElem_cons_succ, Act.put, List.setIfInBounds_toArray, List.set_cons_zero, List.set_cons_succ]
      refine wpAnyK_oneL (i := 4) rfl (by kernel_rfl) (fun K hK => ?_)
      go_simp
      go_at_call 93
      refine (numerators_c p W _ (ls ++ List.replicate (3 - ls.length) (0 : Int)) _ ((hod1.below (by (repeat (first | exact bR _ _ | (refine bS ?_ _) | (refine bA ?_ _) | (refine bN ?_ _) | (refine bD ?_)))))).rd hp (by rw [HLL.out]; omega) hW2 (by omega) HLX.out).mono ?_
      rintro e wd2 ⟨vb, rfl, hod2, hbd2⟩
      rw [HLL.out, ← HN.out] at hod2
      have hd2 : Below w0.heap.size w0 wd2 := (by (repeat (first | exact bR _ _ | (refine bS ?_ _) | (refine bA ?_ _) | (refine bN ?_ _) | (refine bD ?_) | (refine bT ?_ hbd1) | (refine bT ?_ hbd2))))
      have hsd2 := hd2.size
      have hsz2_ := hbd2.size
      (try simp at hsz2_)
      have f2_a := keep_cell hd2 (Nat.le_refl _) hbp
      go_wp2_with fail
      clear hHeld
      have hHeld : (fun w' : World => w'.cell? ⟨w.heap.size, 0, none⟩ = some (.int .i64 p)) wd2 := by go_keep
      refine hK.out _ _ (fun _ => hHeld) ?_
      clear hK K
      try simp only [List.getElem_toArray, List.getElem_cons_zero, List.getElem_cons_succ, Act.put, List.setIfInBounds_toArray, List.set_cons_zero, List.set_cons_succ]
      refine' wpAnyK_takeL (i := 5) (v := _) rfl (by kernel_rfl) (by kernel_rfl) (by kernel_rfl) (by kernel_rfl) (fun _ _ _ h => h) (Or.inl ⟨by rfl, ?yT4⟩) hHeld ?rT4
      case yT4 => (intro w' hSw; (try dsimp only at hSw); go_simp; try with_reducible rfl)
      try simp only [List.getElem_toArray, List.getElem_cons_zero, List.getElem_cons_succ, Act.put, List.setIfInBounds_toArray, List.set_cons_zero, List.set_cons_succ]
      refine wpAnyK_done (by kernel_rfl) ?_ _
      go_wp2_with fail
      have hodA := hod2
      have hdA := hd2
      obtain ⟨wA, hwA⟩ : ∃ wA, wA = wd2 := ⟨_, rfl⟩
      rw [← hwA] at hodA hdA ⊢
      clear hHeld hod1 hod2 hbd1 hbd2 hd0 hd1 hd2 hsd0 hsd1 hsd2 hsz1_ hsz2_ f0_a f1_a f2_a
      clear hwA
      refine (zero_c W (n : Int) (n + 1) _ (by omega) (by omega)).mono ?_
      rintro e w3 ⟨vz, rfl, how, hb3⟩
      obtain ⟨oS, cS, rfl⟩ := how.shapeN (n := n + 1) (by simp)
      obtain ⟨gS, rfl, hgS1, hgS2⟩ := how.row (by omega)
      have hb3s := hb3.size
      have hdAs := hdA.size
      go_wp2_with fail
      obtain ⟨M, hM⟩ : ∃ M, M = mostOf p n := ⟨_, rfl⟩
      obtain ⟨vf, hvf⟩ : ∃ vf, vf = at0 (ls ++ List.replicate (3 - ls.length) (0 : Int)) := ⟨_, rfl⟩
      rw [serK_0 W p vf] at how
      have Bw3 : Below wA.heap.size wA (w3.alloc (.cells #[.int .i64 W, .slice (some ⟨gS, 0, none⟩) (n + 1) cS] 28)) := (by (repeat (first | exact bR _ _ | (refine bS ?_ _) | (refine bA ?_ _) | (refine bN ?_ _) | (refine bD ?_) | (refine bT ?_ hb3))))
      have X3 := Box2.mk' w3 (.int .i64 W) (.slice (some ⟨gS, 0, none⟩) (n + 1) cS) 28
      have hO4 := how.alloc (.cells #[.int .i64 W, .slice (some ⟨gS, 0, none⟩) (n + 1) cS] 28)
      have hs4 : (w3.alloc (.cells #[.int .i64 W, .slice (some ⟨gS, 0, none⟩) (n + 1) cS] 28)).heap.size = w3.heap.size + 1 := by simp
      generalize w3.alloc (.cells #[.int .i64 W, .slice (some ⟨gS, 0, none⟩) (n + 1) cS] 28) = w4 at Bw3 X3 hO4 hs4 ⊢
      have HVF := Lib.hid hvf
      have HMo := Lib.hid hM
      clear hvf hM how
      go_loopw [12, 13] (fun sk sd wr => ∃ k : Nat, k ≤ M + 1 ∧ sk = .int .i64 k ∧ sd = .int .i64 ((p ^ k : Nat) : Int) ∧ OwI wr wA.heap.size (.slice (some ⟨gS, 0, none⟩) (n + 1) cS) (mk (n + 1) (fun i => serK p vf k i % W)) ∧ Chg wA.heap.size w3.heap.size w4 wr) (fun sk _ _ => M + 1 - (intOf sk).toNat)
      case atStart => exact ⟨0, Nat.zero_le _, rfl, rfl, hO4, Chg.refl _ _ _⟩
      case round =>
        obtain ⟨k, hk, rfl, rfl, hO, hC⟩ := hrel
        have Bw := Chg.below Bw3 hC (Nat.le_refl _) (by omega)
        have X4 := X3.chg hC (.inr (Nat.le_refl _))
        have hcp := keep_cell (hdA.trans (Bw.mono hdAs)) (Nat.le_refl _) hbp
        have hNs := hodA.rd.below Bw (Nat.le_refl _)
        by_cases hlt : k ≤ M
        · obtain ⟨k1, k2, -, -⟩ := most_key hp hn (show k ≤ mostOf p n by rw [← HMo.out]; exact hlt)
          have kn : p ^ k ≤ n := by
            by_cases k0 : k = 0
            · subst k0; rw [Nat.pow_zero]; exact hn1
            · obtain ⟨j, rfl⟩ : ∃ j, k = j + 1 := ⟨k - 1, by omega⟩
              obtain ⟨-, -, k3, -⟩ := most_key hp hn (show j ≤ mostOf p n by rw [← HMo.out]; omega)
              exact k3.2 (by rw [← HMo.out]; omega)
          have kg := pow_gt hp2.1 k
          obtain ⟨oN, cN, e⟩ := hNs.len4 HNl.out
          subst e
          obtain ⟨gN, fN, rfl, -⟩ := hNs.cells (by rw [HNl.out]; omega)
          have cc := hNs.cell0 (some_at0 (show k < ns.length by rw [HNl.out]; omega))
          have rn : 0 ≤ at0 ns k ∧ at0 ns k < W := by
            rw [HN.out, mk_at (by omega)]
            exact mod_lt' (by omega)
          obtain ⟨z, hz⟩ : ∃ z, z = at0 ns k := ⟨_, rfl⟩
          rw [← hz] at cc rn
          have HZ := Lib.hid hz
          obtain ⟨D, hD⟩ : ∃ D, D = p ^ k := ⟨_, rfl⟩
          rw [← hD] at k1 kn kg ⊢
          have HD := Lib.hid hD
          clear hz hD
          have rp := mod_lt' (a := (p : Int)) (show 0 < W by omega)
          have rq := mod_lt' (a := ((p : Int) % W) ^ (D - 1 - k)) (show 0 < W by omega)
          have tp : (p : Int).tmod W = (p : Int) % W := Int.tmod_eq_emod_of_nonneg (by omega)
          have w1 : ¬ W = 0 := by omega
          have w0' : (W == 0) = false := by simp; omega
          have i1 : (k : Int) < 4 := by omega
          have i2 : (D : Int) ≤ (n : Int) := by omega
          have i3 : (D : Int) < ((n + 1 : Nat) : Int) := by omega
          have i4 : (0 : Int) ≤ (k : Int) := by omega
          have i5 : (D : Int) < (n : Int) + 1 := by omega
          have e3 : IntKind.i64.wrap ((D : Int) - 1) = (D : Int) - 1 := IntWalk.i64_in _ (by omega)
          have e4 : IntKind.i64.wrap ((D : Int) - 1 - (k : Int)) = ((D - 1 - k : Nat) : Int) := by rw [IntWalk.i64_in _ (by omega)]; omega
          have hfS := hO.fz D
          have hcS := hO.cell (k := D) (some_at0 (by rw [mk_len]; omega))
          obtain ⟨x0, x1⟩ := id X4
          have rm := mod_lt' (a := z * (((p : Int) % W) ^ (D - 1 - k) % W)) (show 0 < W by omega)
          have HR := Lib.hid (show D - 1 - k ≤ 10 by omega)
          generalize hq : D - 1 - k = q at e4 rq rm HR
          have HQ := Lib.hid hq
          clear hq
          go_wp2_with fail
          have hd0 : Below wr.heap.size wr wr.drew := (Below.refl _ _).drew
          have hsd0 := hd0.size
          have f0_a := keep_cell hd0 (Nat.le_refl _) hcp
          have f0_b := keep_cell hd0 (Nat.le_refl _) x1
          have f0_c := keep_cell hd0 (Nat.le_refl _) cc
          have f0_d := (hO.below hd0).fz D
          have f0_e := keep_cell hd0 (Nat.le_refl _) hcS
          refine wp_region_K (S := fun w' => w'.cell? ⟨w.heap.size, 0, none⟩ = some (.int .i64 p) ∧ w'.cell? ⟨w3.heap.size, 1, none⟩ = some (.slice (some ⟨gS, 0, none⟩) (n + 1) cS) ∧ w'.cell? ⟨gN, fN + k, none⟩ = some (.int .i64 z)) [19] (by kernel_rfl) ?_
          have hHeld : (fun w' : World => w'.cell? ⟨w.heap.size, 0, none⟩ = some (.int .i64 p) ∧ w'.cell? ⟨w3.heap.size, 1, none⟩ = some (.slice (some ⟨gS, 0, none⟩) (n + 1) cS) ∧ w'.cell? ⟨gN, fN + k, none⟩ = some (.int .i64 z)) wr.drew := by go_keep
          refine' wpAnyK_takeL (i := 0) (v := _) rfl (by kernel_rfl) (by kernel_rfl) (by kernel_rfl) (by kernel_rfl) (fun _ _ _ h => h) (Or.inl ⟨by rfl, ?yT5⟩) hHeld ?rT5
          case yT5 => (intro w' hSw; (try dsimp only at hSw); go_simp; try with_reducible rfl)
          try simp only [List.getElem_toArray, List.getElem_cons_zero, List.getElem_cons_succ, Act.put, List.setIfInBounds_toArray, List.set_cons_zero, List.set_cons_succ]
          refine' wpAnyK_takeL (i := 1) (v := _) rfl (by kernel_rfl) (by kernel_rfl) (by kernel_rfl) (by kernel_rfl) (fun _ _ _ h => h) (Or.inl ⟨by rfl, ?yT6⟩) hHeld ?rT6
          case yT6 => (intro w' hSw; (try dsimp only at hSw); go_simp; try with_reducible rfl)
          try simp only [List.getElem_toArray, List.getElem_cons_zero, List.getElem_cons_succ, Act.put, List.setIfInBounds_toArray, List.set_cons_zero, List.set_cons_succ]
          refine' wpAnyK_takeL (i := 2) (v := _) rfl (by kernel_rfl) (by kernel_rfl) (by kernel_rfl) (by kernel_rfl) (fun _ _ _ h => h) (Or.inl ⟨by rfl, ?yT7⟩) hHeld ?rT7
          case yT7 => (intro w' hSw; (try dsimp only at hSw); go_simp; try with_reducible rfl)
          try simp only [List.getElem_toArray, List.getElem_cons_zero, List.getElem_cons_succ, Act.put, List.setIfInBounds_toArray, List.set_cons_zero, List.set_cons_succ]
          refine' wpAnyK_takeL (i := 3) (v := _) rfl (by kernel_rfl) (by kernel_rfl) (by kernel_rfl) (by kernel_rfl) (fun _ _ _ h => h) (Or.inl ⟨by rfl, ?yT8⟩) hHeld ?rT8
          case yT8 => (intro w' hSw; (try dsimp only at hSw); go_simp; try with_reducible rfl)
          try simp only [List.getElem_toArray, List.getElem_cons_zero, List.getElem_cons_succ, Act.put, List.setIfInBounds_toArray, List.set_cons_zero, List.set_cons_succ]
          refine' wpAnyK_takeL (i := 4) (v := _) rfl (by kernel_rfl) (by kernel_rfl) (by kernel_rfl) (by kernel_rfl) (fun _ _ _ h => h) (Or.inl ⟨by rfl, ?yT9⟩) hHeld ?rT9
          case yT9 => (intro w' hSw; (try dsimp only at hSw); go_simp; try with_reducible rfl)
          try simp only [List.getElem_toArray, List.getElem_cons_zero, List.getElem_cons_succ, Act.put, List.setIfInBounds_toArray, List.set_cons_zero, List.set_cons_succ]
          refine' wpAnyK_takeL (i := 5) (v := _) rfl (by kernel_rfl) (by kernel_rfl) (by kernel_rfl) (by kernel_rfl) (fun _ _ _ h => h) (Or.inl ⟨by rfl, ?yT10⟩) hHeld ?rT10
          case yT10 => (intro w' hSw; (try dsimp only at hSw); go_simp; try with_reducible rfl)
          try simp only [List.getElem_toArray, List.getElem_cons_zero, List.getElem_cons_succ, Act.put, List.setIfInBounds_toArray, List.set_cons_zero, List.set_cons_succ]
          refine' wpAnyK_takeL (i := 6) (v := _) rfl (by kernel_rfl) (by kernel_rfl) (by kernel_rfl) (by kernel_rfl) (fun _ _ _ h => h) (Or.inl ⟨by rfl, ?yT11⟩) hHeld ?rT11
          case yT11 => (intro w' hSw; (try dsimp only at hSw); go_simp; try with_reducible rfl)
          try simp only [List.getElem_toArray, List.getElem_cons_zero, List.getElem_cons_succ, Act.put, List.setIfInBounds_toArray, List.set_cons_zero, List.set_cons_succ]
          refine' wpAnyK_takeL (i := 7) (v := _) rfl (by kernel_rfl) (by kernel_rfl) (by kernel_rfl) (by kernel_rfl) (fun _ _ _ h => h) (Or.inl ⟨by rfl, ?yT12⟩) hHeld ?rT12
          case yT12 => (intro w' hSw; (try dsimp only at hSw); go_simp; try with_reducible rfl)
          try simp only [List.getElem_toArray, List.getElem_cons_zero, List.getElem_cons_succ, Act.put, List.setIfInBounds_toArray, List.set_cons_zero, List.set_cons_succ]
          refine' wpAnyK_takeL (i := 8) (v := _) rfl (by kernel_rfl) (by kernel_rfl) (by kernel_rfl) (by kernel_rfl) (fun _ _ _ h => h) (Or.inl ⟨by rfl, ?yT13⟩) hHeld ?rT13
          case yT13 => (intro w' hSw; (try dsimp only at hSw); go_simp; try with_reducible rfl)
          try simp only [List.getElem_toArray, List.getElem_cons_zero, List.getElem_cons_succ, Act.put, List.setIfInBounds_toArray, List.set_cons_zero, List.set_cons_succ]
          refine' wpAnyK_takeL (i := 9) (v := _) rfl (by kernel_rfl) (by kernel_rfl) (by kernel_rfl) (by kernel_rfl) (fun _ _ _ h => h) (Or.inl ⟨by rfl, ?yT14⟩) hHeld ?rT14
          case yT14 => (intro w' hSw; (try dsimp only at hSw); go_simp; try with_reducible rfl)
          try simp only [List.getElem_toArray, List.getElem_cons_zero, List.getElem_cons_succ, Act.put, List.setIfInBounds_toArray, List.set_cons_zero, List.set_cons_succ]
          refine' wpAnyK_takeL (i := 10) (v := _) rfl (by kernel_rfl) (by kernel_rfl) (by kernel_rfl) (by kernel_rfl) (fun _ _ _ h => h) (Or.inl ⟨by rfl, ?yT15⟩) hHeld ?rT15
          case yT15 => (intro w' hSw; (try dsimp only at hSw); go_simp; try with_reducible rfl)
          try simp only [List.getElem_toArray, List.getElem_cons_zero, List.getElem_cons_succ, Act.put, List.setIfInBounds_toArray, List.set_cons_zero, List.set_cons_succ]
          refine' wpAnyK_takeL (i := 11) (v := _) rfl (by kernel_rfl) (by kernel_rfl) (by kernel_rfl) (by kernel_rfl) (fun _ _ _ h => h) (Or.inl ⟨by rfl, ?yT16⟩) hHeld ?rT16
          case yT16 => (intro w' hSw; (try dsimp only at hSw); go_simp; try with_reducible rfl)
          try simp only [List.getElem_toArray, List.getElem_cons_zero, List.getElem_cons_succ, Act.put, List.setIfInBounds_toArray, List.set_cons_zero, List.set_cons_succ]
          refine' wpAnyK_takeL (i := 12) (v := _) rfl (by kernel_rfl) (by kernel_rfl) (by kernel_rfl) (by kernel_rfl) (fun _ _ _ h => h) (Or.inl ⟨by rfl, ?yT17⟩) hHeld ?rT17
          case yT17 => (intro w' hSw; (try dsimp only at hSw); go_simp; try with_reducible rfl)
          try simp only [List.getElem_toArray, List.getElem_cons_zero, List.getElem_cons_succ, Act.put, List.setIfInBounds_toArray, List.set_cons_zero, List.set_cons_succ]
          refine' wpAnyK_takeL (i := 13) (v := _) rfl (by kernel_rfl) (by kernel_rfl) (by kernel_rfl) (by kernel_rfl) (fun _ _ _ h => h) (Or.inl ⟨by rfl, ?yT18⟩) hHeld ?rT18
          case yT18 => (intro w' hSw; (try dsimp only at hSw); go_simp; try with_reducible rfl)
          try simp only [List.getElem_toArray, List.getElem_cons_zero, List.getElem_cons_succ, Act.put, List.setIfInBounds_toArray, List.set_cons_zero, List.set_cons_succ]
          refine' wpAnyK_takeL (i := 14) (v := _) rfl (by kernel_rfl) (by kernel_rfl) (by kernel_rfl) (by kernel_rfl) (fun _ _ _ h => h) (Or.inl ⟨by rfl, ?yT19⟩) hHeld ?rT19
          case yT19 => (intro w' hSw; (try dsimp only at hSw); go_simp; try with_reducible rfl)
          try simp only [List.getElem_toArray, List.getElem_cons_zero, List.getElem_cons_succ, Act.put, List.setIfInBounds_toArray, List.set_cons_zero, List.set_cons_succ]
          refine' wpAnyK_takeL (i := 15) (v := _) rfl (by kernel_rfl) (by kernel_rfl) (by kernel_rfl) (by kernel_rfl) (fun _ _ _ h => h) (Or.inl ⟨by rfl, ?yT20⟩) hHeld ?rT20
          case yT20 => (intro w' hSw; (try dsimp only at hSw); go_simp; try with_reducible rfl)
          try simp only [List.getElem_toArray, List.getElem_cons_zero, List.getElem_cons_succ, Act.put, List.setIfInBounds_toArray, List.set_cons_zero, List.set_cons_succ]
          refine wpAnyK_oneL (i := 16) rfl (by kernel_rfl) (fun K hK => ?_)
          go_simp
          go_at_call 96
          refine (powerB_c W ((p : Int) % W) q q _ rfl (by omega) (by omega) rp.1 rp.2 (by have := HR.out; omega) (.inl (by omega))).mono ?_
          rintro e wd1 ⟨rfl, hbd1⟩
          have hd1 : Below wr.heap.size wr wd1 := (by (repeat (first | exact bR _ _ | (refine bS ?_ _) | (refine bA ?_ _) | (refine bN ?_ _) | (refine bD ?_) | (refine bT ?_ hbd1))))
          have hsd1 := hd1.size
          have hsz1_ := hbd1.size
          (try simp at hsz1_)
          have f1_a := keep_cell hd1 (Nat.le_refl _) hcp
          have f1_b := keep_cell hd1 (Nat.le_refl _) x1
          have f1_c := keep_cell hd1 (Nat.le_refl _) cc
          have f1_d := (hO.below hd1).fz D
          have f1_e := keep_cell hd1 (Nat.le_refl _) hcS
          go_wp2_with fail
          clear hHeld
          have hHeld : (fun w' : World => w'.cell? ⟨w.heap.size, 0, none⟩ = some (.int .i64 p) ∧ w'.cell? ⟨w3.heap.size, 1, none⟩ = some (.slice (some ⟨gS, 0, none⟩) (n + 1) cS) ∧ w'.cell? ⟨gN, fN + k, none⟩ = some (.int .i64 z)) wd1 := by go_keep
          refine hK.out _ _ (fun _ => hHeld) ?_
          clear hK K
          try simp only [List.getElem_toArray, List.getElem_cons_zero, List.getElem_cons_succ, Act.put, List.setIfInBounds_toArray, List.set_cons_zero, List.set_cons_succ]
          refine wpAnyK_oneL (i := 17) rfl (by kernel_rfl) (fun K hK => ?_)
          go_simp
          go_at_call 95
          refine (mulC_c W z (((p : Int) % W) ^ q % W) _ (by omega) (by omega) rn.1 rq.1 rn.2 rq.2).mono ?_
          rintro e wd2 ⟨rfl, hbd2⟩
          have hd2 : Below wr.heap.size wr wd2 := (by (repeat (first | exact bR _ _ | (refine bS ?_ _) | (refine bA ?_ _) | (refine bN ?_ _) | (refine bD ?_) | (refine bT ?_ hbd1) | (refine bT ?_ hbd2))))
          have hsd2 := hd2.size
          have hsz2_ := hbd2.size
          (try simp at hsz2_)
          have f2_a := keep_cell hd2 (Nat.le_refl _) hcp
          have f2_b := keep_cell hd2 (Nat.le_refl _) x1
          have f2_c := keep_cell hd2 (Nat.le_refl _) cc
          have f2_d := (hO.below hd2).fz D
          have f2_e := keep_cell hd2 (Nat.le_refl _) hcS
          go_wp2_with fail
          clear hHeld
          have hHeld : (fun w' : World => w'.cell? ⟨w.heap.size, 0, none⟩ = some (.int .i64 p) ∧ w'.cell? ⟨w3.heap.size, 1, none⟩ = some (.slice (some ⟨gS, 0, none⟩) (n + 1) cS) ∧ w'.cell? ⟨gN, fN + k, none⟩ = some (.int .i64 z)) wd2 := by go_keep
          refine hK.out _ _ (fun _ => hHeld) ?_
          clear hK K
          try simp only [List.getElem_toArray, List.getElem_cons_zero, List.getElem_cons_succ, Act.put, List.setIfInBounds_toArray, List.set_cons_zero, List.set_cons_succ]
          refine wpAnyK_oneL (i := 18) rfl (by kernel_rfl) (fun K hK => ?_)
          go_simp
          (try go_wp2_with fail)
          refine hK.out _ _ (fun _ => hHeld) ?_
          clear hK K
          try simp only [List.getElem_toArray, List.getElem_cons_zero, List.getElem_cons_succ, Act.put, List.setIfInBounds_toArray, List.set_cons_zero, List.set_cons_succ]
          refine wpAnyK_oneL (i := 19) rfl (by kernel_rfl) (fun K hK => ?_)
          go_simp
          (try go_wp2_with fail)
          refine hK.out _ _ (fun h => absurd h (by decide)) ?_
          clear hK K
          try simp only [List.getElem_toArray, List.getElem_cons_zero, List.getElem_cons_succ, Act.put, List.setIfInBounds_toArray, List.set_cons_zero, List.set_cons_succ]
          refine wpAnyK_done (by kernel_rfl) ?_ _
          go_wp2_with fail
          have hO2 := (hO.below hd2).put D (z * (((p : Int) % W) ^ q % W) % W)
          have hC2 := (hC.trans (Chg.of_below hd2)).grown (grown_put wd2 gS D (.int .i64 (z * (((p : Int) % W) ^ q % W) % W))) (by omega) (by omega)
          have HST := Lib.hid (serK_set hp2.1 vf W (n + 1) k)
          have hcp2 : (wd2.setCell ⟨gS, D, none⟩ (.int .i64 (z * (((p : Int) % W) ^ q % W) % W))).cell? ⟨w.heap.size, 0, none⟩ = some (.int .i64 p) := by
            rw [World.cell?_setCell_far _ _ _ _ (show gS ≠ w.heap.size by omega)]
            exact f2_a
          generalize hV : z * (((p : Int) % W) ^ q % W) % W = V at hO2 hC2 hcp2 ⊢
          have HV := Lib.hid hV
          clear hV
          generalize wd2.setCell ⟨gS, D, none⟩ (.int .i64 V) = wE at hO2 hC2 hcp2 ⊢
          have e5 : IntKind.i64.wrap ((D : Int) * (p : Int)) = ((p ^ (k + 1) : Nat) : Int) := by
            have h1 : D * p ≤ 10 * 7 := Nat.mul_le_mul k1 hp2.2
            have h2 : (D : Int) * (p : Int) = ((p ^ (k + 1) : Nat) : Int) := by rw [Nat.pow_succ, ← HD.out]; simp
            rw [h2, Nat.pow_succ, ← HD.out]
            exact IntWalk.i64_in _ (by omega)
          generalize hE : p ^ (k + 1) = E at e5
          have HE := Lib.hid hE
          clear hE
          go_wp2_with fail
          go_quiet (fail)
          have hO3 : OwI (wE.drewN nq) wA.heap.size (.slice (some ⟨gS, 0, none⟩) (n + 1) cS) (mk (n + 1) (fun i => serK p vf (k + 1) i % W)) := by
            have h := HST.out
            have ez : num p vf k % W = z := by rw [HZ.out, HN.out, mk_at (by omega), HVF.out]
            rw [← HD.out, HQ.out, ez, HV.out] at h
            rw [← h]
            exact hO2.drewN nq
          have hC3 := hC2.drewN nq
          go_wp2_with fail
          exact ⟨⟨k + 1, by omega, by go_num, by rw [HE.out], hO3, hC3⟩, by simp [intOf]; omega⟩
        · obtain rfl : k = M + 1 := by omega
          obtain ⟨-, kM, k3, -⟩ := most_key hp hn (show M ≤ mostOf p n by rw [← HMo.out]; exact Nat.le_refl _)
          have k4 : ¬ p ^ (M + 1) ≤ n := fun h => by have := k3.1 h; rw [← HMo.out] at this; omega
          obtain ⟨oN, cN, e⟩ := hNs.len4 HNl.out
          subst e
          obtain ⟨x0, x1⟩ := id X4
          have hO := Lib.hid hO
          by_cases hM3 : M = 3
          · have i1 : ¬ (((M + 1 : Nat) : Int) < 4) := by omega
            have i1' : ¬ ((M : Int) + 1 < 4) := by omega
            go_wp2_with fail
            refine (lawOf_c W (n + 1) _ (mk (n + 1) (fun i => serK p vf (M + 1) i % W)) _ (mk_len _ _) hO.out.rd (by omega) (by omega) hW2 hWm (by
              intro x hx'
              simp only [mk, List.mem_map] at hx'
              obtain ⟨a, _, rfl⟩ := hx'
              exact mod_lt' (by omega)) (by rw [mk_at (by omega), serK_z hp2.1, Int.zero_emod])).mono ?_
            rintro e w7 ⟨vl, rfl, howL, hbL⟩
            obtain ⟨oL, cL, rfl⟩ := howL.shapeN (n := n + 1) (lawT_len _ _ _)
            go_wp2_with fail
            have HFF := Lib.hid (show lawT W (n + 1) (mk (n + 1) (fun i => serK p vf (M + 1) i % W)) = lawT W (n + 1) (mk (n + 1) (fun i => serK p (at0 (ls ++ List.replicate (3 - ls.length) (0 : Int))) (mostOf p n + 1) i % W)) by rw [← HVF.out, ← HMo.out])
            have BwL := Bw.trans (hbL.mono Bw.size)
            have HLok := Lib.hid (show PlaT W (n + 1) (lawT W (n + 1) (mk (n + 1) (fun i => serK p vf (M + 1) i % W))) from hornT_ok (by omega) _ _ _)
            generalize lawT W (n + 1) (mk (n + 1) (fun i => serK p vf (M + 1) i % W)) = L at howL HFF HLok
            have X7 := Box2.mk' w7 (.int .i64 W) (.slice oL (n + 1) cL) 31
            have hL7 := howL.rd.below (w' := w7.alloc (.cells #[.int .i64 W, .slice oL (n + 1) cL] 31)) (by (repeat (first | exact bR _ _ | (refine bS ?_ _) | (refine bA ?_ _) | (refine bN ?_ _) | (refine bD ?_)))) (Nat.le_refl _)
            have Bw7 : Below wA.heap.size wA (w7.alloc (.cells #[.int .i64 W, .slice oL (n + 1) cL] 31)) := BwL.trans ((show Below w7.heap.size w7 (w7.alloc (.cells #[.int .i64 W, .slice oL (n + 1) cL] 31)) from (by (repeat (first | exact bR _ _ | (refine bS ?_ _) | (refine bA ?_ _) | (refine bN ?_ _) | (refine bD ?_))))).mono BwL.size)
            generalize w7.alloc (.cells #[.int .i64 W, .slice oL (n + 1) cL] 31) = w8 at X7 hL7 Bw7 ⊢
            refine (emptyPlane_c m (n : Int) (n + 1) _ (by omega) (by omega)).mono ?_
            rintro e w9 ⟨vz9, rfl, how9, hb9⟩
            obtain ⟨oz, cz, rfl⟩ := how9.shapeN (n := n + 1) (zeroT_len _)
            have X9 := X7.below hb9 (Nat.le_refl _)
            have hL9 := hL7.below hb9 (Nat.le_refl _)
            have Bw9 := Bw7.trans (hb9.mono Bw7.size)
            have hcp9 := keep_cell (hdA.trans (Bw9.mono hdAs)) (Nat.le_refl _) hbp
            go_wp2_with fail
            refine (mapped2_c 100 _ _ (fun i j => atT L i j / ((p ^ (i + j - 1) : Nat) : Int)) m oz (n + 1) cz _ (by omega) (by omega) (by omega) (by omega) typicalLaw1_callable
              (fun i j h => by
                have a := tab_range HLok.out h
                have b := (hp.pow9 (show i + j - 1 ≤ 10 by omega)).1
                have c := Int.ediv_nonneg a.1 (show (0 : Int) ≤ ((p ^ (i + j - 1) : Nat) : Int) by omega)
                have d := Int.ediv_le_self ((p ^ (i + j - 1) : Nat) : Int) a.1
                omega)
              (fun i j w1 h hb => (typicalLaw1_c p i j (n + 1) cL _ _ W oL L w1 hp h (by omega) (by omega) (by omega) HLok.out (keep_cell hb (Nat.le_refl _) hcp9) (X9.below hb (Nat.le_refl _)) (hL9.below hb (Nat.le_refl _))).mono fun e w' ⟨a, b⟩ => ⟨a, 0, b.symm⟩)).mono ?_
            rintro e wB ⟨vy, rfl, howY, hbY⟩
            obtain ⟨oy, cy, rfl⟩ := howY.shapeN (n := n + 1) (tri_len _ _)
            have R9 := R0.below ((hdA.trans (Bw9.mono hdAs)).trans (hbY.mono (by have := Bw9.size; omega))) (Nat.le_refl _)
            have BY := B0.trans (((hdA.trans (Bw9.mono hdAs)).trans (hbY.mono (by have := Bw9.size; omega))).mono (by omega))
            have hRl := R9.1.lt
            have hR0 : w.heap.size + 1 < w9.heap.size := by have := Bw9.size; omega
            obtain ⟨⟨r0, r1⟩, rf⟩ := id R9
            rw [HFF.out] at howY
            have HY := Lib.hid howY
            clear howY
            go_wp2
            refine bodyPost_ret (v := .agg #[.int .i64 m, .slice oy (n + 1) cy]) (by simp [results, Tryz.results56, go_sem, r0, r1]) rfl ⟨_, rfl, ?_, ?_⟩
            · exact ((HY.out.low hR0 _).low hR0 _).mono (by omega)
            · (repeat (first | exact bR _ _ | (refine bS ?_ _) | (refine bA ?_ _) | (refine bN ?_ _) | (refine bD ?_) | (refine bT ?_ BY)))
          · have i1 : (((M + 1 : Nat) : Int) < 4) := by omega
            have i1' : ((M : Int) + 1 < 4) := by omega
            generalize p ^ (M + 1) = E at k4 ⊢
            have i2 : ¬ ((E : Int) ≤ (n : Int)) := by omega
            go_wp2_with fail
            refine (lawOf_c W (n + 1) _ (mk (n + 1) (fun i => serK p vf (M + 1) i % W)) _ (mk_len _ _) hO.out.rd (by omega) (by omega) hW2 hWm (by
              intro x hx'
              simp only [mk, List.mem_map] at hx'
              obtain ⟨a, _, rfl⟩ := hx'
              exact mod_lt' (by omega)) (by rw [mk_at (by omega), serK_z hp2.1, Int.zero_emod])).mono ?_
            rintro e w7 ⟨vl, rfl, howL, hbL⟩
            obtain ⟨oL, cL, rfl⟩ := howL.shapeN (n := n + 1) (lawT_len _ _ _)
            go_wp2_with fail
            have HFF := Lib.hid (show lawT W (n + 1) (mk (n + 1) (fun i => serK p vf (M + 1) i % W)) = lawT W (n + 1) (mk (n + 1) (fun i => serK p (at0 (ls ++ List.replicate (3 - ls.length) (0 : Int))) (mostOf p n + 1) i % W)) by rw [← HVF.out, ← HMo.out])
            have BwL := Bw.trans (hbL.mono Bw.size)
            have HLok := Lib.hid (show PlaT W (n + 1) (lawT W (n + 1) (mk (n + 1) (fun i => serK p vf (M + 1) i % W))) from hornT_ok (by omega) _ _ _)
            generalize lawT W (n + 1) (mk (n + 1) (fun i => serK p vf (M + 1) i % W)) = L at howL HFF HLok
            have X7 := Box2.mk' w7 (.int .i64 W) (.slice oL (n + 1) cL) 31
            have hL7 := howL.rd.below (w' := w7.alloc (.cells #[.int .i64 W, .slice oL (n + 1) cL] 31)) (by (repeat (first | exact bR _ _ | (refine bS ?_ _) | (refine bA ?_ _) | (refine bN ?_ _) | (refine bD ?_)))) (Nat.le_refl _)
            have Bw7 : Below wA.heap.size wA (w7.alloc (.cells #[.int .i64 W, .slice oL (n + 1) cL] 31)) := BwL.trans ((show Below w7.heap.size w7 (w7.alloc (.cells #[.int .i64 W, .slice oL (n + 1) cL] 31)) from (by (repeat (first | exact bR _ _ | (refine bS ?_ _) | (refine bA ?_ _) | (refine bN ?_ _) | (refine bD ?_))))).mono BwL.size)
            generalize w7.alloc (.cells #[.int .i64 W, .slice oL (n + 1) cL] 31) = w8 at X7 hL7 Bw7 ⊢
            refine (emptyPlane_c m (n : Int) (n + 1) _ (by omega) (by omega)).mono ?_
            rintro e w9 ⟨vz9, rfl, how9, hb9⟩
            obtain ⟨oz, cz, rfl⟩ := how9.shapeN (n := n + 1) (zeroT_len _)
            have X9 := X7.below hb9 (Nat.le_refl _)
            have hL9 := hL7.below hb9 (Nat.le_refl _)
            have Bw9 := Bw7.trans (hb9.mono Bw7.size)
            have hcp9 := keep_cell (hdA.trans (Bw9.mono hdAs)) (Nat.le_refl _) hbp
            go_wp2_with fail
            refine (mapped2_c 100 _ _ (fun i j => atT L i j / ((p ^ (i + j - 1) : Nat) : Int)) m oz (n + 1) cz _ (by omega) (by omega) (by omega) (by omega) typicalLaw1_callable
              (fun i j h => by
                have a := tab_range HLok.out h
                have b := (hp.pow9 (show i + j - 1 ≤ 10 by omega)).1
                have c := Int.ediv_nonneg a.1 (show (0 : Int) ≤ ((p ^ (i + j - 1) : Nat) : Int) by omega)
                have d := Int.ediv_le_self ((p ^ (i + j - 1) : Nat) : Int) a.1
                omega)
              (fun i j w1 h hb => (typicalLaw1_c p i j (n + 1) cL _ _ W oL L w1 hp h (by omega) (by omega) (by omega) HLok.out (keep_cell hb (Nat.le_refl _) hcp9) (X9.below hb (Nat.le_refl _)) (hL9.below hb (Nat.le_refl _))).mono fun e w' ⟨a, b⟩ => ⟨a, 0, b.symm⟩)).mono ?_
            rintro e wB ⟨vy, rfl, howY, hbY⟩
            obtain ⟨oy, cy, rfl⟩ := howY.shapeN (n := n + 1) (tri_len _ _)
            have R9 := R0.below ((hdA.trans (Bw9.mono hdAs)).trans (hbY.mono (by have := Bw9.size; omega))) (Nat.le_refl _)
            have BY := B0.trans (((hdA.trans (Bw9.mono hdAs)).trans (hbY.mono (by have := Bw9.size; omega))).mono (by omega))
            have hRl := R9.1.lt
            have hR0 : w.heap.size + 1 < w9.heap.size := by have := Bw9.size; omega
            obtain ⟨⟨r0, r1⟩, rf⟩ := id R9
            rw [HFF.out] at howY
            have HY := Lib.hid howY
            clear howY
            go_wp2
            refine bodyPost_ret (v := .agg #[.int .i64 m, .slice oy (n + 1) cy]) (by simp [results, Tryz.results56, go_sem, r0, r1]) rfl ⟨_, rfl, ?_, ?_⟩
            · exact ((HY.out.low hR0 _).low hR0 _).mono (by omega)
            · (repeat (first | exact bR _ _ | (refine bS ?_ _) | (refine bA ?_ _) | (refine bN ?_ _) | (refine bD ?_) | (refine bT ?_ BY)))
end Go.Proofs.YtoednonijmkbjaaGreat
set_option linter.unusedSimpArgs false
set_option linter.unusedVariables false
namespace Go.Proofs.YtoednonijmkbjaaGreat
open Go.RowKit
open Rg

theorem most_ok {p n : Nat} (hp : P4 p) (hn : n ≤ 10) : Most p (mostOf p n) := by
  have hnn : n = 0 ∨ n = 1 ∨ n = 2 ∨ n = 3 ∨ n = 4 ∨ n = 5 ∨ n = 6 ∨ n = 7 ∨ n = 8 ∨ n = 9 ∨ n = 10 := by omega
  refine ⟨hp, ?_⟩
  rcases hp with rfl | rfl | rfl | rfl <;>
    rcases hnn with rfl | rfl | rfl | rfl | rfl | rfl | rfl | rfl | rfl | rfl | rfl <;> decide
theorem ref_tab {p n : Nat} (hp : P4 p) (n1 : 1 ≤ n) (hn : n ≤ 10) {v : Nat → Int} {m W : Int} (hm : 2 ≤ m) (hW : W = m * ((p ^ mostOf p n : Nat) : Int) * p) (hW2 : 2 ≤ W) {ns : List Int} (hns : ∀ i, i ≤ mostOf p n → at0 ns i % W = num p v i % W) :
    tri (n + 1) (fun i j => lwF W n p (mostOf p n) ns (n - 1) i j % m) = tri (n + 1) (fun i j => tyF p (mostOf p n) (tyl p (mostOf p n) v) (n - 1) i j % m) := by
  obtain ⟨ν, H⟩ := tyl_ok (most_ok hp hn) v
  have k := (most_key hp hn (Nat.le_refl (mostOf p n))).2.2.1
  refine tri_ext fun i j _ => ?_
  have h := lw_ty H hm hW hW2 hns (Nat.lt_of_not_le fun h => Nat.lt_irrefl _ (k.1 h)) (n - 1) (by omega) i j
  have h2 := congrArg (· % m) h
  simp only [Int.emod_emod_of_dvd _ (Int.dvd_mul_right m p)] at h2
  exact h2
theorem serK_1 {p : Nat} (hp : 2 ≤ p) (v : Nat → Int) : ∀ k, serK p v (k + 1) 1 = 1
  | 0 => by
    show 0 + (if 1 = p ^ 0 then cK p v 0 else 0) = 1
    rw [if_pos (by rw [Nat.pow_zero])]
    unfold cK
    rw [num_0, Nat.pow_zero]; rfl
  | k + 1 => by
    show serK p v (k + 1) 1 + (if 1 = p ^ (k + 1) then cK p v (k + 1) else 0) = 1
    rw [serK_1 hp v k, if_neg (by have := pow_gt hp (k + 1); omega)]; rfl
theorem prog_tab {p n : Nat} (hp : P4 p) (n1 : 1 ≤ n) (hn : n ≤ 10) (v : Nat → Int) {m W : Int} (hm : 2 ≤ m) (hW : W = m * ((p ^ (n - 1) : Nat) : Int)) (hW2 : 2 ≤ W) :
    tri (n + 1) (fun i j => atT (lawT W (n + 1) (mk (n + 1) (fun i => serK p v (mostOf p n + 1) i % W))) i j / ((p ^ (i + j - 1) : Nat) : Int) % m) = tri (n + 1) (fun i j => tyF p (mostOf p n) (tyl p (mostOf p n) v) (n - 1) i j % m) := by
  have hp2 := hp.pos
  have k := (most_key hp hn (Nat.le_refl (mostOf p n))).2.2.1
  have hM : p ^ mostOf p n < n + 1 := by
    by_cases k0 : mostOf p n = 0
    · rw [k0, Nat.pow_zero]; omega
    · have h := (most_key hp hn (show mostOf p n - 1 ≤ mostOf p n by omega)).2.2.1.2 (by omega)
      rw [show mostOf p n - 1 + 1 = mostOf p n by omega] at h
      omega
  obtain ⟨F, hFe, h0, hL⟩ := ty_ex (most_ok hp hn) v (n := n + 1) (by omega) (Nat.lt_of_not_le fun h => Nat.lt_irrefl _ (k.1 h))
  rw [show n + 1 - 2 = n - 1 by omega] at hFe
  have hl := ty_law hp v (by omega) hM hW2 h0 hL (xs := mk (n + 1) (fun i => serK p v (mostOf p n + 1) i % W)) (mk_len _ _) (by
    intro x hx'
    simp only [mk, List.mem_map] at hx'
    obtain ⟨a, _, rfl⟩ := hx'
    exact mod_lt' (by omega)) (fun i hi => by rw [mk_at hi, mod_self_mod]; rfl) (by rw [mk_at (by omega), serK_z hp2.1, Int.zero_emod]) (by rw [mk_at (by omega), serK_1 hp2.1, Int.emod_eq_of_lt (by omega) (by omega)])
  refine tri_ext fun i j h => ?_
  have e := eqv2.1 hl i j h
  have r := tab_range (hornT_ok (show 0 < W by omega) (n + 1) (twoT (n + 1) (mk (n + 1) (fun i => serK p v (mostOf p n + 1) i % W))) (revL W (n + 1) (mk (n + 1) (fun i => serK p v (mostOf p n + 1) i % W)))) h
  rw [Int.emod_eq_of_lt r.1 r.2] at e
  unfold lawT
  rw [e, ← hFe]
  unfold hF
  rw [hW, Int.natCast_pow, Int.natCast_pow]
  exact typ_cell hp2.1 (by omega) (by omega) _
end Go.Proofs.YtoednonijmkbjaaGreat
