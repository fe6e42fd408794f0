/- Lemmas of G16. -/
import Derived.Test.YtoednonijmkbjaaTTyW
import Derived.Test.YtoednonijmkbjaaTTyU
/- Typical laws: both functions answer alike. -/
set_option linter.unusedSimpArgs false
set_option linter.unusedVariables false
namespace Go.Proofs.Ytoednonijmkbjaa
open Go.RowKit

def typC (p m n : Int) (ls : List Int) : Int := if tyCode p m ls 0 = 0 then (if inB n 1 10 = true then 0 else 2) else tyCode p m ls 0
def typT2 (p : Nat) (m : Int) (n : Nat) (ls : List Int) : List (List Int) := tri (n + 1) (fun i j => tyF p (mostOf p n) (tyl p (mostOf p n) (at0 (ls ++ List.replicate (3 - ls.length) (0 : Int)))) (n - 1) i j % m)
def typR (p m n : Int) (ls : List Int) : PR := if typC p m n ls = 0 then ⟨m, typT2 p.toNat m n.toNat ls, 0⟩ else ⟨0, [], typC p m n ls⟩
theorem typC_0 {p m n : Int} {ls : List Int} (h : typC p m n ls = 0) : tyCode p m ls 0 = 0 ∧ inB n 1 10 = true := by
  unfold typC at h
  split at h
  · rename_i h0
    refine ⟨h0, ?_⟩
    split at h
    · assumption
    · omega
  · rename_i h0
    exact absurd h h0
theorem tyCode_0 {p m least : Int} {ls : List Int} (h : tyCode p m ls least = 0) : 2 ≤ m ∧ m ≤ 10000 ∧ primB p = true ∧ least ≤ (ls.length : Int) ∧ ls.length ≤ 3 ∧ ∀ x ∈ ls, 0 ≤ x ∧ x < m := by
  unfold tyCode at h
  split at h
  · rename_i hm
    split at h
    · rename_i ht
      unfold tyB at ht
      simp only [Bool.and_eq_true, Bool.not_eq_true', decide_eq_false_iff_not] at ht
      obtain ⟨⟨⟨h1, h2⟩, h3⟩, h4⟩ := ht
      have hm1 := modB_t hm
      refine ⟨hm1.1, hm1.2, h1, by omega, by omega, fun x hx => ?_⟩
      have := inB_t (List.all_eq_true.1 h4 x hx)
      omega
    · omega
  · omega

set_option maxHeartbeats 2000000 in
set_option maxRecDepth 100000 in
theorem TypicalLaw_bad (p m n : Int) (v : Value) (ls : List Int) (w : World) (hv : RdI w v ls) (hg : typC p m n ls ≠ 0) :
    Calls Try.prog 13 #[.int .i64 p, .int .i64 m, .int .i64 n, v] w fun e w' => PEnd w w' ⟨0, [], typC p m n ls⟩ e := by
  have R0 := RB2.mk1 w (.int .i64 0) (.slice none 0 0) 24
  have B0 : Below w.heap.size w (w.alloc (.cells #[.int .i64 0, .slice none 0 0] 24)) := (by (repeat (first | exact Below.refl _ _ | (refine Below.setCell ?_ (by first | (simp; done) | (simp; omega) | omega) _) | (refine Below.alloc ?_ (by first | (simp; done) | (simp; omega) | omega) _) | (refine below_drewN ?_ _) | (refine Below.drew ?_))))
  have hv0 := hv.below B0 (Nat.le_refl _)
  obtain ⟨o, c, rfl, -, -⟩ := id hv
  by_cases h0 : tyCode p m ls 0 = 0
  · have hn : inB n 1 10 = false := by
      cases hb : inB n 1 10
      · rfl
      · exact absurd (by unfold typC; rw [if_pos h0, if_pos hb]) hg
    have hT : typC p m n ls = 2 := by unfold typC; rw [if_pos h0, hn]; rfl
    rw [hT]
    have H0 := Lib.hid h0
    have HN := Lib.hid hn
    clear h0 hn hg hT
    go_enter Try.func13, Try.ntmps13
    go_wp2_with fail
    generalize w.alloc (.cells #[.int .i64 0, .slice none 0 0] 24) = w0 at R0 B0 hv0 ⊢
    refine (typed_c p m _ ls 0 _ hv0).mono ?_
    rintro e w1 ⟨rfl, hb1⟩
    rw [H0.out]
    have R1 := R0.below hb1 (Nat.le_refl _)
    have B1 := B0.trans (hb1.mono B0.size)
    clear R0 B0 hv0 hb1
    obtain ⟨⟨r0, r1⟩, rf⟩ := id R1
    go_wp2_with fail
    refine (in_c n 1 10 _).mono ?_
    rintro e w2 ⟨rfl, rfl⟩
    rw [HN.out]
    go_wp2
    exact bodyPost_ret (v := .tuple #[.agg #[.int .i64 0, .slice none 0 0], .int .i64 2]) (by simp [results, Try.results13, go_sem, r0, r1]) rfl ⟨_, rfl, OwS.nil _ _, (by (repeat (first | exact Below.refl _ _ | (refine Below.setCell ?_ (by first | (simp; done) | (simp; omega) | omega) _) | (refine Below.alloc ?_ (by first | (simp; done) | (simp; omega) | omega) _) | (refine below_drewN ?_ _) | (refine Below.drew ?_) | (refine Below.trans ?_ (Below.mono B1 (by first | (simp; done) | (simp; omega) | omega)))))), by simp [sizeT, numT]⟩
  · have hT : typC p m n ls = tyCode p m ls 0 := by unfold typC; rw [if_neg h0]
    rw [hT]
    clear hg hT
    obtain ⟨C, hC⟩ : ∃ C, C = tyCode p m ls 0 := ⟨_, rfl⟩
    rw [← hC] at h0 ⊢
    have HC := Lib.hid hC
    clear hC
    have hn : (C == 0) = false := by simpa using h0
    have hn' : (C != 0) = true := by simpa using h0
    go_enter Try.func13, Try.ntmps13
    go_wp2_with fail
    generalize w.alloc (.cells #[.int .i64 0, .slice none 0 0] 24) = w0 at R0 B0 hv0 ⊢
    refine (typed_c p m _ ls 0 _ hv0).mono ?_
    rintro e w1 ⟨rfl, hb1⟩
    rw [← HC.out]
    have R1 := R0.below hb1 (Nat.le_refl _)
    have B1 := B0.trans (hb1.mono B0.size)
    clear R0 B0 hv0 hb1
    obtain ⟨⟨r0, r1⟩, rf⟩ := id R1
    go_wp2
    exact bodyPost_ret (v := .tuple #[.agg #[.int .i64 0, .slice none 0 0], .int .i64 C]) (by simp [results, Try.results13, go_sem, r0, r1]) rfl ⟨_, rfl, OwS.nil _ _, (by (repeat (first | exact Below.refl _ _ | (refine Below.setCell ?_ (by first | (simp; done) | (simp; omega) | omega) _) | (refine Below.alloc ?_ (by first | (simp; done) | (simp; omega) | omega) _) | (refine below_drewN ?_ _) | (refine Below.drew ?_) | (refine Below.trans ?_ (Below.mono B1 (by first | (simp; done) | (simp; omega) | omega)))))), by simp [sizeT, numT]⟩
set_option maxHeartbeats 2000000 in
set_option maxRecDepth 100000 in
theorem sTypicalLaw_bad (p m n : Int) (v : Value) (ls : List Int) (w : World) (hv : RdI w v ls) (hg : typC p m n ls ≠ 0) :
    Calls Try.prog 11 #[.int .i64 p, .int .i64 m, .int .i64 n, v] w fun e w' => PEnd w w' ⟨0, [], typC p m n ls⟩ e := by
  have R0 := RB2.mk1 w (.int .i64 0) (.slice none 0 0) 24
  have B0 : Below w.heap.size w (w.alloc (.cells #[.int .i64 0, .slice none 0 0] 24)) := (by (repeat (first | exact Below.refl _ _ | (refine Below.setCell ?_ (by first | (simp; done) | (simp; omega) | omega) _) | (refine Below.alloc ?_ (by first | (simp; done) | (simp; omega) | omega) _) | (refine below_drewN ?_ _) | (refine Below.drew ?_))))
  have hv0 := hv.below B0 (Nat.le_refl _)
  obtain ⟨o, c, rfl, -, -⟩ := id hv
  by_cases h0 : tyCode p m ls 0 = 0
  · have hn : inB n 1 10 = false := by
      cases hb : inB n 1 10
      · rfl
      · exact absurd (by unfold typC; rw [if_pos h0, if_pos hb]) hg
    have hT : typC p m n ls = 2 := by unfold typC; rw [if_pos h0, hn]; rfl
    rw [hT]
    have H0 := Lib.hid h0
    have HN := Lib.hid hn
    clear h0 hn hg hT
    go_enter Try.func11, Try.ntmps11
    go_wp2_with fail
    generalize w.alloc (.cells #[.int .i64 0, .slice none 0 0] 24) = w0 at R0 B0 hv0 ⊢
    refine (l09Code_c p m _ ls 0 _ hv0).mono ?_
    rintro e w1 ⟨rfl, hb1⟩
    rw [H0.out]
    have R1 := R0.below hb1 (Nat.le_refl _)
    have B1 := B0.trans (hb1.mono B0.size)
    clear R0 B0 hv0 hb1
    obtain ⟨⟨r0, r1⟩, rf⟩ := id R1
    go_wp2_with fail
    refine (l01In_c n 1 10 _).mono ?_
    rintro e w2 ⟨rfl, rfl⟩
    rw [HN.out]
    go_wp2
    exact bodyPost_ret (v := .tuple #[.agg #[.int .i64 0, .slice none 0 0], .int .i64 2]) (by simp [results, Try.results11, go_sem, r0, r1]) rfl ⟨_, rfl, OwS.nil _ _, (by (repeat (first | exact Below.refl _ _ | (refine Below.setCell ?_ (by first | (simp; done) | (simp; omega) | omega) _) | (refine Below.alloc ?_ (by first | (simp; done) | (simp; omega) | omega) _) | (refine below_drewN ?_ _) | (refine Below.drew ?_) | (refine Below.trans ?_ (Below.mono B1 (by first | (simp; done) | (simp; omega) | omega)))))), by simp [sizeT, numT]⟩
  · have hT : typC p m n ls = tyCode p m ls 0 := by unfold typC; rw [if_neg h0]
    rw [hT]
    clear hg hT
    obtain ⟨C, hC⟩ : ∃ C, C = tyCode p m ls 0 := ⟨_, rfl⟩
    rw [← hC] at h0 ⊢
    have HC := Lib.hid hC
    clear hC
    have hn : (C == 0) = false := by simpa using h0
    have hn' : (C != 0) = true := by simpa using h0
    go_enter Try.func11, Try.ntmps11
    go_wp2_with fail
    generalize w.alloc (.cells #[.int .i64 0, .slice none 0 0] 24) = w0 at R0 B0 hv0 ⊢
    refine (l09Code_c p m _ ls 0 _ hv0).mono ?_
    rintro e w1 ⟨rfl, hb1⟩
    rw [← HC.out]
    have R1 := R0.below hb1 (Nat.le_refl _)
    have B1 := B0.trans (hb1.mono B0.size)
    clear R0 B0 hv0 hb1
    obtain ⟨⟨r0, r1⟩, rf⟩ := id R1
    go_wp2
    exact bodyPost_ret (v := .tuple #[.agg #[.int .i64 0, .slice none 0 0], .int .i64 C]) (by simp [results, Try.results11, go_sem, r0, r1]) rfl ⟨_, rfl, OwS.nil _ _, (by (repeat (first | exact Below.refl _ _ | (refine Below.setCell ?_ (by first | (simp; done) | (simp; omega) | omega) _) | (refine Below.alloc ?_ (by first | (simp; done) | (simp; omega) | omega) _) | (refine below_drewN ?_ _) | (refine Below.drew ?_) | (refine Below.trans ?_ (Below.mono B1 (by first | (simp; done) | (simp; omega) | omega)))))), by simp [sizeT, numT]⟩
end Go.Proofs.Ytoednonijmkbjaa

/- Typical laws: both functions answer alike, the good end. -/
set_option linter.unusedSimpArgs false
set_option linter.unusedVariables false
namespace Go.Proofs.Ytoednonijmkbjaa
open Go.RowKit

set_option maxHeartbeats 2000000 in
set_option maxRecDepth 100000 in
theorem TypicalLaw_good (p n : Nat) (m : Int) (v : Value) (ls : List Int) (w : World) (hv : RdI w v ls) (hp : P4 p) (n1 : 1 ≤ n) (hn : n ≤ 10) (hm : 2 ≤ m) (hm' : m ≤ 10000) (hl : ls.length ≤ 3) (hx : ∀ x ∈ ls, 0 ≤ x ∧ x ≤ 10000) (hC : tyCode p m ls 0 = 0) (hN : inB n 1 10 = true) :
    Calls Try.prog 13 #[.int .i64 p, .int .i64 m, .int .i64 n, v] w fun e w' => PEnd w w' ⟨m, tri (n + 1) (fun i j => atT (lawT (m * ((p ^ (n - 1) : Nat) : Int)) (n + 1) (mk (n + 1) (fun i => serK p (at0 (ls ++ List.replicate (3 - ls.length) (0 : Int))) (mostOf p n + 1) i % (m * ((p ^ (n - 1) : Nat) : Int))))) i j / ((p ^ (i + j - 1) : Nat) : Int) % m), 0⟩ e := by
  have R0 := RB2.mk1 w (.int .i64 0) (.slice none 0 0) 24
  have B0 : Below w.heap.size w (w.alloc (.cells #[.int .i64 0, .slice none 0 0] 24)) := (by (repeat (first | exact Below.refl _ _ | (refine Below.setCell ?_ (by first | (simp; done) | (simp; omega) | omega) _) | (refine Below.alloc ?_ (by first | (simp; done) | (simp; omega) | omega) _) | (refine below_drewN ?_ _) | (refine Below.drew ?_))))
  have hv0 := hv.below B0 (Nat.le_refl _)
  obtain ⟨o, c, rfl, -, -⟩ := id hv
  have hp2 := hp.pos
  have H0 := Lib.hid hC
  have HN := Lib.hid hN
  clear hC hN
  go_enter Try.func13, Try.ntmps13
  go_wp2_with fail
  generalize w.alloc (.cells #[.int .i64 0, .slice none 0 0] 24) = w0 at R0 B0 hv0 ⊢
  refine (typed_c p m _ ls 0 _ hv0).mono ?_
  rintro e w1 ⟨rfl, hb1⟩
  rw [H0.out]
  have R1 := R0.below hb1 (Nat.le_refl _)
  have B1 := B0.trans (hb1.mono B0.size)
  have hv1 := hv0.below hb1 (Nat.le_refl _)
  clear R0 B0 hv0 hb1
  have B1s := B1.size
  have hR1s := R1.1.lt
  go_wp2_with fail
  refine (in_c n 1 10 _).mono ?_
  rintro e w2 ⟨rfl, rfl⟩
  rw [HN.out]
  have hpw := (hp.pow9 (show n - 1 ≤ 10 by omega))
  have hp9 : p ^ (n - 1) ≤ 40353607 := Nat.le_trans (Nat.pow_le_pow_left hp2.2 _) (Nat.pow_le_pow_right (by omega) (show n - 1 ≤ 9 by omega))
  have hWm : m * ((p ^ (n - 1) : Nat) : Int) ≤ 10000 * 40353607 := Int.mul_le_mul (by omega) (by omega) (by omega) (by omega)
  go_wp2_with fail
  refine (typicalLaw_c p n m _ ls _ hv1 hp n1 hn hm hm' hl hx _ rfl (by omega)).mono ?_
  rintro e w4 ⟨v4, rfl, how, hb4⟩
  obtain ⟨oy, cy, rfl⟩ := how.shapeN (n := n + 1) (tri_len _ _)
  have R4 := R1.below hb4 (Nat.le_refl _)
  have BY := B1.trans (hb4.mono B1s)
  obtain ⟨⟨r0, r1⟩, rf⟩ := id R4
  have HY := Lib.hid how
  clear how
  go_wp2
  refine bodyPost_ret (v := .tuple #[.agg #[.int .i64 m, .slice oy (n + 1) cy], .int .i64 0]) (by simp [results, Try.results13, go_sem, r0, r1]) rfl ⟨_, rfl, ?_, ?_, ?_⟩
  · exact ((HY.out.low (by omega) _).low (by omega) _).mono (by omega)
  · (repeat (first | exact Below.refl _ _ | (refine Below.setCell ?_ (by first | (simp; done) | (simp; omega) | omega) _) | (refine Below.alloc ?_ (by first | (simp; done) | (simp; omega) | omega) _) | (refine below_drewN ?_ _) | (refine Below.drew ?_) | (refine Below.trans ?_ (Below.mono BY (by first | (simp; done) | (simp; omega) | omega)))))
  · exact sizeT_tri (by omega) _

set_option maxHeartbeats 2000000 in
set_option maxRecDepth 100000 in
theorem sTypicalLaw_good (p n : Nat) (m : Int) (v : Value) (ls : List Int) (w : World) (hv : RdI w v ls) (hp : P4 p) (n1 : 1 ≤ n) (hn : n ≤ 10) (hm : 2 ≤ m) (hm' : m ≤ 10000) (hl : ls.length ≤ 3) (hx : ∀ x ∈ ls, 0 ≤ x ∧ x ≤ 10000) (hC : tyCode p m ls 0 = 0) (hN : inB n 1 10 = true)
    (M : Nat) (hM : M = mostOf p n) (W : Int) (hW : W = m * ((p ^ M : Nat) : Int) * p) (ns : List Int) (hns : ns = mk 4 (fun k => num p (at0 (ls ++ List.replicate (3 - ls.length) 0)) k % W)) :
    Calls Try.prog 11 #[.int .i64 p, .int .i64 m, .int .i64 n, v] w fun e w' => PEnd w w' ⟨m, tri (n + 1) (fun i j => lwF W n p M ns (n - 1) i j % m), 0⟩ e := by
  have R0 := RB2.mk1 w (.int .i64 0) (.slice none 0 0) 24
  have B0 : Below w.heap.size w (w.alloc (.cells #[.int .i64 0, .slice none 0 0] 24)) := (by (repeat (first | exact Below.refl _ _ | (refine Below.setCell ?_ (by first | (simp; done) | (simp; omega) | omega) _) | (refine Below.alloc ?_ (by first | (simp; done) | (simp; omega) | omega) _) | (refine below_drewN ?_ _) | (refine Below.drew ?_))))
  have hv0 := hv.below B0 (Nat.le_refl _)
  obtain ⟨o, c, rfl, -, -⟩ := id hv
  have hp2 := hp.pos
  have H0 := Lib.hid hC
  have HN := Lib.hid hN
  clear hC hN
  go_enter Try.func11, Try.ntmps11
  go_wp2_with fail
  generalize w.alloc (.cells #[.int .i64 0, .slice none 0 0] 24) = w0 at R0 B0 hv0 ⊢
  refine (l09Code_c p m _ ls 0 _ hv0).mono ?_
  rintro e w1 ⟨rfl, hb1⟩
  rw [H0.out]
  have R1 := R0.below hb1 (Nat.le_refl _)
  have B1 := B0.trans (hb1.mono B0.size)
  have hv1 := hv0.below hb1 (Nat.le_refl _)
  clear R0 B0 hv0 hb1
  have B1s := B1.size
  have hR1s := R1.1.lt
  go_wp2_with fail
  refine (l01In_c n 1 10 _).mono ?_
  rintro e w2 ⟨rfl, rfl⟩
  rw [HN.out]
  go_wp2_with fail
  refine (l09Law_c p n m _ ls _ hv1 hp n1 hn hm hm' hl hx M hM W hW ns hns).mono ?_
  rintro e w4 ⟨v4, rfl, how, hb4⟩
  obtain ⟨oy, cy, rfl⟩ := how.shapeN (n := n + 1) (tri_len _ _)
  go_wp2_with fail
  refine (l03Make_c m _ _ _ _).mono ?_
  rintro e w5 ⟨rfl, hb5⟩
  have how5 := how.below hb5
  have hb4s := hb4.size
  have Bt := hb4.trans (hb5.mono (by omega))
  have R4 := R1.below Bt (Nat.le_refl _)
  have BY := B1.trans (Bt.mono B1s)
  obtain ⟨⟨r0, r1⟩, rf⟩ := id R4
  have HY := Lib.hid how5
  clear how how5
  go_wp2
  refine bodyPost_ret (v := .tuple #[.agg #[.int .i64 m, .slice oy (n + 1) cy], .int .i64 0]) (by simp [results, Try.results11, go_sem, r0, r1]) rfl ⟨_, rfl, ?_, ?_, ?_⟩
  · exact ((HY.out.low (by omega) _).low (by omega) _).mono (by omega)
  · (repeat (first | exact Below.refl _ _ | (refine Below.setCell ?_ (by first | (simp; done) | (simp; omega) | omega) _) | (refine Below.alloc ?_ (by first | (simp; done) | (simp; omega) | omega) _) | (refine below_drewN ?_ _) | (refine Below.drew ?_) | (refine Below.trans ?_ (Below.mono BY (by first | (simp; done) | (simp; omega) | omega)))))
  · exact sizeT_tri (by omega) _

theorem TypicalLaw_c (p m n : Int) (v : Value) (ls : List Int) (w : World) (hv : RdI w v ls) : Calls Try.prog 13 #[.int .i64 p, .int .i64 m, .int .i64 n, v] w fun e w' => PEnd w w' (typR p m n ls) e := by
  by_cases hg : typC p m n ls = 0
  · obtain ⟨h0, hN⟩ := typC_0 hg
    obtain ⟨hm, hm', a, -, hl, hx⟩ := tyCode_0 h0
    have c' := inB_t hN
    obtain ⟨N, rfl⟩ : ∃ N : Nat, n = N := ⟨n.toNat, by omega⟩
    obtain ⟨P, rfl⟩ : ∃ P : Nat, p = P := ⟨p.toNat, by have := primB_t a; omega⟩
    have hp : P4 P := by have := primB_t a; unfold P4; omega
    have hp2 := hp.pos
    have hpw := (hp.pow9 (show N - 1 ≤ 10 by omega)).1
    have h := TypicalLaw_good P N m v ls w hv hp (by omega) (by omega) hm hm' hl (fun x hx' => ⟨(hx x hx').1, by have := (hx x hx').2; omega⟩) h0 hN
    rw [prog_tab hp (by omega) (by omega) _ (m := m) (by omega) rfl (by
      have := Int.mul_le_mul hm (show (1 : Int) ≤ ((P ^ (N - 1) : Nat) : Int) by omega) (by omega) (by omega)
      omega)] at h
    unfold typR
    rw [if_pos hg]
    exact h
  · unfold typR
    rw [if_neg hg]
    exact TypicalLaw_bad p m n v ls w hv hg
theorem sTypicalLaw_c (p m n : Int) (v : Value) (ls : List Int) (w : World) (hv : RdI w v ls) : Calls Try.prog 11 #[.int .i64 p, .int .i64 m, .int .i64 n, v] w fun e w' => PEnd w w' (typR p m n ls) e := by
  by_cases hg : typC p m n ls = 0
  · obtain ⟨h0, hN⟩ := typC_0 hg
    obtain ⟨hm, hm', a, -, hl, hx⟩ := tyCode_0 h0
    have c' := inB_t hN
    obtain ⟨N, rfl⟩ : ∃ N : Nat, n = N := ⟨n.toNat, by omega⟩
    obtain ⟨P, rfl⟩ : ∃ P : Nat, p = P := ⟨p.toNat, by have := primB_t a; omega⟩
    have hp : P4 P := by have := primB_t a; unfold P4; omega
    have hp2 := hp.pos
    have h := sTypicalLaw_good P N m v ls w hv hp (by omega) (by omega) hm hm' hl (fun x hx' => ⟨(hx x hx').1, by have := (hx x hx').2; omega⟩) h0 hN _ rfl _ rfl _ rfl
    have hW2 : 2 ≤ m * ((P ^ mostOf P N : Nat) : Int) * P := by
      have hpw := (hp.pow9 (show mostOf P N ≤ 10 by have := (most_key hp (show N ≤ 10 by omega) (Nat.le_refl (mostOf P N))).2.1; omega)).1
      have h1 := Int.mul_le_mul hm (show (1 : Int) ≤ ((P ^ mostOf P N : Nat) : Int) by omega) (by omega) (by omega)
      have h2 := Int.mul_le_mul h1 (show (1 : Int) ≤ P by omega) (by omega) (by omega)
      omega
    obtain ⟨-, k2, -, -⟩ := most_key hp (show N ≤ 10 by omega) (Nat.le_refl (mostOf P N))
    rw [ref_tab hp (by omega) (by omega) (m := m) (v := at0 (ls ++ List.replicate (3 - ls.length) (0 : Int))) (by omega) rfl hW2 (fun i hi => by rw [mk_at (by omega), mod_self_mod])] at h
    unfold typR
    rw [if_pos hg]
    exact h
  · unfold typR
    rw [if_neg hg]
    exact sTypicalLaw_bad p m n v ls w hv hg
end Go.Proofs.Ytoednonijmkbjaa
