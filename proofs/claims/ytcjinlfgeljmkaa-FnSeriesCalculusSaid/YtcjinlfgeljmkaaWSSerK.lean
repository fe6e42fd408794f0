/- Lemmas of SerK. -/
import Derived.Test.YtcjinlfgeljmkaaWSSerJ
import Derived.Test.YtcjinlfgeljmkaaWSG3
import Derived.Test.YtcjinlfgeljmkaaWSSerQ
set_option linter.unusedSimpArgs false
set_option linter.unusedVariables false
namespace Go.Proofs.Ytcjinlfgeljmkaa
open Go.RowKit

theorem oneL_const {m : Int} (hm : 2 ≤ m) (n : Nat) : constL m 1 n = oneL n := by
  unfold constL oneL; rw [Int.emod_eq_of_lt (by omega) (by omega)]
theorem RB2.offS {w : World} {b : Nat} {x y : Value} (h : RB2 w b x y) {g k : Nat} (ha : g ≠ b) (u : Value) : RB2 (w.setCell ⟨g, k, none⟩ u) b x y := h.put' ha u
def RdX (w : World) (g g' : Nat) (v : Value) (xs : List Int) : Prop := RdI w v xs ∧ ∀ j, v.ownBlock = some j → j ≠ g ∧ j ≠ g'
theorem RdI.off {w : World} {v : Value} {xs : List Int} (h : RdI w v xs) {g k : Nat} (hb : ∀ j, v.ownBlock = some j → j ≠ g) (u : Value) : RdI (w.setCell ⟨g, k, none⟩ u) v xs := by
  obtain ⟨o, c, rfl, hm, hc⟩ := h
  refine ⟨o, c, rfl, hm, fun i x hx => ?_⟩
  obtain ⟨b, off, ho, hcell⟩ := hc i x hx
  refine ⟨b, off, ho, ?_⟩
  have hj : b ≠ g := hb b (by rw [ho]; rfl)
  exact (grown_put w g k u).cell hcell (by simpa using hj)
theorem RdX.put {w : World} {g g' k : Nat} {v : Value} {xs : List Int} (h : RdX w g g' v xs) (u : Value) : RdX (w.setCell ⟨g, k, none⟩ u) g g' v xs := ⟨h.1.off (fun j hj => (h.2 j hj).1) u, h.2⟩
theorem RdX.put' {w : World} {g g' k : Nat} {v : Value} {xs : List Int} (h : RdX w g g' v xs) (u : Value) : RdX (w.setCell ⟨g', k, none⟩ u) g g' v xs := ⟨h.1.off (fun j hj => (h.2 j hj).2) u, h.2⟩
theorem RdX.below {w w' : World} {g g' : Nat} {v : Value} {xs : List Int} (h : RdX w g g' v xs) (hb : Below w.heap.size w w') : RdX w' g g' v xs := ⟨h.1.below hb (Nat.le_refl _), h.2⟩
theorem OwI.rdx {w : World} {B g g' : Nat} {v : Value} {xs : List Int} (h : OwI w B v xs) (h1 : g < B) (h2 : g' < B) : RdX w g g' v xs := ⟨h.rd, fun j hj => by have := h.lt j hj; omega⟩

set_option maxHeartbeats 2000000 in
set_option maxRecDepth 100000 in
theorem powerS_c (m : Int) (K : Nat) (v : Value) (xs : List Int) (w : World) (hv : RdI w v xs) (h1 : 1 ≤ xs.length) (hn : xs.length ≤ 1000) (hK : K ≤ 1000) (hm : 2 ≤ m) (hm' : m ≤ 10000)
    (hx : ∀ x ∈ xs, 0 ≤ x ∧ x < m) :
    Calls Try.prog 121 #[.agg #[.int .i64 m, v], .int .i64 K] w fun e w' => SVEnd w w' m (pwL m xs.length K (oneL xs.length) xs) e := by
  obtain ⟨o, c, rfl, hmx, -⟩ := id hv
  have hml := hmx.1
  unfold maxLen at hmx
  obtain ⟨bx, fx, rfl, hcx⟩ := hv.cells h1
  have lx := cell_lt (hcx 0 _ (some_at0 (by omega)))
  clear hcx
  go_enter Try.func121, Try.ntmps121
  go_wp2_with fail
  (have R0 := ((RB2.mk1 w  (.int .i64 m) (.slice (some ⟨bx, fx, none⟩) xs.length c) 26)).below (w' := ((w.alloc (.cells #[.int .i64 m, .slice (some ⟨bx, fx, none⟩) xs.length c] 26)).alloc (.cells #[.int .i64 0, .slice none 0 0] 26))) (by (repeat (first | exact Below.refl _ _ | (refine Below.setCell ?_ (by first | (simp; done) | (simp; omega) | omega) _) | (refine Below.alloc ?_ (by first | (simp; done) | (simp; omega) | omega) _) | (refine below_drewN ?_ _) | (refine Below.drew ?_)))) (Nat.le_refl _); have RZ0 := ((RB2.mk2 w (.cells #[.int .i64 m, .slice (some ⟨bx, fx, none⟩) xs.length c] 26) (.int .i64 0) (.slice none 0 0) 26)).below (w' := ((w.alloc (.cells #[.int .i64 m, .slice (some ⟨bx, fx, none⟩) xs.length c] 26)).alloc (.cells #[.int .i64 0, .slice none 0 0] 26))) (by (repeat (first | exact Below.refl _ _ | (refine Below.setCell ?_ (by first | (simp; done) | (simp; omega) | omega) _) | (refine Below.alloc ?_ (by first | (simp; done) | (simp; omega) | omega) _) | (refine below_drewN ?_ _) | (refine Below.drew ?_)))) (Nat.le_refl _); have B0 : Below w.heap.size w ((w.alloc (.cells #[.int .i64 m, .slice (some ⟨bx, fx, none⟩) xs.length c] 26)).alloc (.cells #[.int .i64 0, .slice none 0 0] 26)) := (by (repeat (first | exact Below.refl _ _ | (refine Below.setCell ?_ (by first | (simp; done) | (simp; omega) | omega) _) | (refine Below.alloc ?_ (by first | (simp; done) | (simp; omega) | omega) _) | (refine below_drewN ?_ _) | (refine Below.drew ?_)))); have hv0 := hv.below (w' := ((w.alloc (.cells #[.int .i64 m, .slice (some ⟨bx, fx, none⟩) xs.length c] 26)).alloc (.cells #[.int .i64 0, .slice none 0 0] 26))) (by (repeat (first | exact Below.refl _ _ | (refine Below.setCell ?_ (by first | (simp; done) | (simp; omega) | omega) _) | (refine Below.alloc ?_ (by first | (simp; done) | (simp; omega) | omega) _) | (refine below_drewN ?_ _) | (refine Below.drew ?_)))) (Nat.le_refl _); generalize (w.alloc (.cells #[.int .i64 m, .slice (some ⟨bx, fx, none⟩) xs.length c] 26)).alloc (.cells #[.int .i64 0, .slice none 0 0] 26) = w0 at R0 RZ0 B0 hv0 ⊢)
  obtain ⟨⟨x0, x1⟩, xf⟩ := id R0
  have hzl : w.heap.size + 1 < w0.heap.size := RZ0.1.lt
  go_wp2_with fail
  refine (constant_c m 1 _ xs _ hv0 h1 (by omega) hm (by omega) (by omega) (by omega)).mono ?_
  rintro e w1 ⟨vz, rfl, how, hb⟩
  obtain ⟨oz, cz, rfl⟩ := how.shapeN (n := xs.length) (constL_len _ _ _)
  rw [oneL_const hm] at how
  (have R1 := R0.below hb (Nat.le_refl _); have RZ1 := RZ0.below hb (Nat.le_refl _); have hv1 := hv0.below hb (Nat.le_refl _); have B1 := B0.trans (hb.mono B0.size))
  clear x0 x1 xf
  have hb1 := hb.size
  have lR := R1.1.lt
  have lZ := RZ1.1.lt
  go_wp2_with fail
  have hol := how.lt
  (have hb : Below w1.heap.size w1 (w1.alloc (.cells #[.int .i64 m, .slice oz xs.length cz] 26)) := (by (repeat (first | exact Below.refl _ _ | (refine Below.setCell ?_ (by first | (simp; done) | (simp; omega) | omega) _) | (refine Below.alloc ?_ (by first | (simp; done) | (simp; omega) | omega) _) | (refine below_drewN ?_ _) | (refine Below.drew ?_)))); have R2 := R1.below hb (Nat.le_refl _); have RZ2 := RZ1.below hb (Nat.le_refl _); have hv2 := hv1.below hb (Nat.le_refl _); have how := how.alloc (.cells #[.int .i64 m, .slice oz xs.length cz] 26); have B2 := B1.trans (hb.mono B1.size); have O := RB2.mk1 w1 (.int .i64 m) (.slice oz xs.length cz) 26; have hl_w2 := hb.size; clear hb; generalize w1.alloc (.cells #[.int .i64 m, .slice oz xs.length cz] 26) = w2 at O B2 hl_w2 R2 RZ2 hv2 how ⊢)
  have hb2 := B2.size
  have how2 : OwI w2 w0.heap.size (.slice oz xs.length cz) (oneL xs.length) := how
  clear how
  have hAx : RdX w2 w.heap.size w1.heap.size (.slice (some ⟨bx, fx, none⟩) xs.length c) xs := ⟨hv2, fun j hj => by
    have e : bx = j := by simpa [Value.ownBlock] using hj
    omega⟩
  have hOx : ∀ j, (Value.slice oz xs.length cz).ownBlock = some j → j ≠ w1.heap.size := fun j hj => by have := hol j hj; omega
  clear hol
  go_loopw [1] (fun i wr => ∃ (j : Nat) (A Z : List Int) (oa oo : Option Addr) (ca co : Nat), j ≤ K ∧ i = .int .i64 j ∧ RdX wr w.heap.size w1.heap.size (.slice oa xs.length ca) A ∧ RB2 wr w.heap.size (.int .i64 m) (.slice oa xs.length ca) ∧ OwI wr (w.heap.size + 2) (.slice oo xs.length co) Z ∧ (∀ j, (Value.slice oo xs.length co).ownBlock = some j → j ≠ w1.heap.size) ∧ RB2 wr w1.heap.size (.int .i64 m) (.slice oo xs.length co) ∧ RB2 wr (w.heap.size + 1) (.int .i64 0) (.slice none 0 0) ∧ Hid (A.length = xs.length ∧ Z.length = xs.length ∧ (∀ x ∈ A, 0 ≤ x ∧ x < m) ∧ (∀ x ∈ Z, 0 ≤ x ∧ x < m) ∧ pwL m xs.length j Z A = pwL m xs.length K (oneL xs.length) xs) ∧ Below w.heap.size w wr) (fun i _ => (intOf i).toNat)
  case atStart => exact ⟨K, xs, oneL xs.length, _, oz, c, cz, Nat.le_refl _, rfl, hAx, R2, how2.mono (by omega), hOx, O, RZ2, Lib.hid ⟨rfl, oneL_len _, hx, oneL_range (by omega) _, rfl⟩, B2⟩
  case round =>
    clear how2 hOx hAx O R2 RZ2 hv2
    obtain ⟨j, A, Z, oa, oo, ca, co, hj, rfl, hA, RA, hO, hOx, RO, RR, HJ, hB⟩ := hrel
    have hBs := hB.size
    by_cases hj0 : 0 < j
    · have i1 : (0 : Int) < (j : Int) := by omega
      have HT := Lib.hid (pwL_s m xs.length hj0 Z A)
      have lA := RA.1.lt
      have lO := RO.1.lt
      by_cases hodd : j % 2 = 1
      · have io : ((j : Int) % 2 == 1) = true := by simp; omega
        obtain ⟨⟨a0, a1⟩, af⟩ := id RA
        obtain ⟨⟨z0, z1⟩, zf⟩ := id RO
        go_wp2_with fail
        refine (times_c m m _ _ Z A wr hO.rd hA.1 (by rw [HJ.out.1, HJ.out.2.1]) (by rw [HJ.out.2.1]; omega) (by rw [HJ.out.2.1]; omega) hm (by omega) HJ.out.2.2.2.1 HJ.out.2.2.1).mono ?_
        rintro e w3 ⟨v3, rfl, hO3, hb3⟩
        rw [HJ.out.2.1] at hO3
        obtain ⟨o3, c3, rfl⟩ := hO3.shapeN (n := xs.length) (timesL_len _ _ _ _)
        have hA3 := hA.below hb3
        have RA3 := RA.below hb3 (Nat.le_refl _)
        have RO3 := RO.below hb3 (Nat.le_refl _)
        have RR3 := RR.below hb3 (Nat.le_refl _)
        have hB3 := hB.trans (hb3.mono hB.size)
        have hb3s := hb3.size
        clear a0 a1 af z0 z1 zf hA RA RO RR hb3 hO hOx
        obtain ⟨⟨a0, a1⟩, af⟩ := id RA3
        obtain ⟨⟨z0, z1⟩, zf⟩ := id RO3
        go_wp2_with fail
        have lA3 := RA3.1.lt
        have lO3 := RO3.1.lt
        have hA4 := (hA3.put' (.int .i64 m) (k := 0)).put' (.slice o3 xs.length c3) (k := 1)
        have RA4 := (RA3.offS (g := w1.heap.size) (k := 0) (by omega) (.int .i64 m)).offS (g := w1.heap.size) (k := 1) (by omega) (.slice o3 xs.length c3)
        have RO4 := RO3.put (.int .i64 m) (.slice o3 xs.length c3)
        have RR4 := (RR3.offS (g := w1.heap.size) (k := 0) (by omega) (.int .i64 m)).offS (g := w1.heap.size) (k := 1) (by omega) (.slice o3 xs.length c3)
        have hO4 := (hO3.low (a := ⟨w1.heap.size, 0, none⟩) lO (.int .i64 m)).low (a := ⟨w1.heap.size, 1, none⟩) lO (.slice o3 xs.length c3)
        have hB4 := below_put (below_put hB3 (g := w1.heap.size) (k := 0) (by omega) (.int .i64 m)) (g := w1.heap.size) (k := 1) (by omega) (.slice o3 xs.length c3)
        have hOx4 : ∀ j, (Value.slice o3 xs.length c3).ownBlock = some j → j ≠ w1.heap.size := fun j hj => by have := hO3.lt j hj; omega
        clear a0 a1 af z0 z1 zf hA3 RA3 RO3 RR3 hO3 hB3
        generalize (w3.setCell ⟨w1.heap.size, 0, none⟩ (.int .i64 m)).setCell ⟨w1.heap.size, 1, none⟩ (.slice o3 xs.length c3) = w4 at hA4 RA4 RO4 RR4 hO4 hB4 ⊢
        have hO4 := hO4.mono (B' := w.heap.size + 2) (by have := hb2; have := hl_w2; omega)
        refine (times_c m m _ _ A A w4 hA4.1 hA4.1 rfl (by rw [HJ.out.1]; omega) (by rw [HJ.out.1]; omega) hm (by omega) HJ.out.2.2.1 HJ.out.2.2.1).mono ?_
        rintro e w5 ⟨v5, rfl, hA5, hb5⟩
        rw [HJ.out.1] at hA5
        obtain ⟨o5, c5, rfl⟩ := hA5.shapeN (n := xs.length) (timesL_len _ _ _ _)
        have RA5 := RA4.below hb5 (Nat.le_refl _)
        have RO5 := RO4.below hb5 (Nat.le_refl _)
        have RR5 := RR4.below hb5 (Nat.le_refl _)
        have hO5 := hO4.below hb5
        have hB5 := hB4.trans (hb5.mono hB4.size)
        have hb5s := hb5.size
        have lA5 := RA4.1.lt
        have lO5 := RO4.1.lt
        obtain ⟨⟨a0, a1⟩, af⟩ := id RA5
        go_wp2_with fail
        refine ⟨⟨j / 2, timesL m xs.length A A, timesL m xs.length Z A, o5, o3, c5, c3, by omega, by go_num, ((hA5.rdx lA5 lO5).put _).put _, RA5.put _ _, (hO5.low (by first | (simp; done) | (simp; omega) | omega) _).low (by first | (simp; done) | (simp; omega) | omega) _, hOx4, (RO5.offS (by omega) _).offS (by omega) _, (RR5.offS (by omega) _).offS (by omega) _, Lib.hid ⟨timesL_len _ _ _ _, timesL_len _ _ _ _, timesL_range (by omega), timesL_range (by omega), ?_⟩, below_put (below_put hB5 (by omega) _) (by omega) _⟩, by simp [intOf]; omega⟩
        rw [← HJ.out.2.2.2.2, HT.out, if_pos hodd]
      · have io : ((j : Int) % 2 == 1) = false := by simp; omega
        obtain ⟨⟨a0, a1⟩, af⟩ := id RA
        obtain ⟨⟨z0, z1⟩, zf⟩ := id RO
        go_wp2_with fail
        clear a0 a1 af z0 z1 zf
        obtain ⟨w4, rfl⟩ : ∃ u : World, u = wr := ⟨_, rfl⟩
        have hA4 := hA
        have RA4 := RA
        have RO4 := RO
        have RR4 := RR
        have hO4 := hO
        have hOx4 := hOx
        have hB4 := hB
        clear hA RA RO RR hO hOx hB
        refine (times_c m m _ _ A A w4 hA4.1 hA4.1 rfl (by rw [HJ.out.1]; omega) (by rw [HJ.out.1]; omega) hm (by omega) HJ.out.2.2.1 HJ.out.2.2.1).mono ?_
        rintro e w5 ⟨v5, rfl, hA5, hb5⟩
        rw [HJ.out.1] at hA5
        obtain ⟨o5, c5, rfl⟩ := hA5.shapeN (n := xs.length) (timesL_len _ _ _ _)
        have RA5 := RA4.below hb5 (Nat.le_refl _)
        have RO5 := RO4.below hb5 (Nat.le_refl _)
        have RR5 := RR4.below hb5 (Nat.le_refl _)
        have hO5 := hO4.below hb5
        have hB5 := hB4.trans (hb5.mono hB4.size)
        have hb5s := hb5.size
        have lA5 := RA4.1.lt
        have lO5 := RO4.1.lt
        obtain ⟨⟨a0, a1⟩, af⟩ := id RA5
        go_wp2_with fail
        refine ⟨⟨j / 2, timesL m xs.length A A, Z, o5, oo, c5, co, by omega, by go_num, ((hA5.rdx lA5 lO5).put _).put _, RA5.put _ _, (hO5.low (by first | (simp; done) | (simp; omega) | omega) _).low (by first | (simp; done) | (simp; omega) | omega) _, hOx4, (RO5.offS (by omega) _).offS (by omega) _, (RR5.offS (by omega) _).offS (by omega) _, Lib.hid ⟨timesL_len _ _ _ _, HJ.out.2.1, timesL_range (by omega), HJ.out.2.2.2.1, ?_⟩, below_put (below_put hB5 (by omega) _) (by omega) _⟩, by simp [intOf]; omega⟩
        rw [← HJ.out.2.2.2.2, HT.out, if_neg hodd]
    · obtain rfl : j = 0 := by omega
      obtain ⟨⟨z0, z1⟩, zf⟩ := id RO
      obtain ⟨⟨r0, r1⟩, rf⟩ := id RR
      go_wp2
      refine bodyPost_ret (v := .agg #[.int .i64 m, .slice oo xs.length co]) (by simp [results, Try.results121, go_sem, r0, r1]) rfl ⟨_, rfl, ?_, ?_⟩
      · rw [← HJ.out.2.2.2.2, pwL_0]; exact ((hO.low (by first | (simp; done) | (simp; omega) | omega) _).low (by first | (simp; done) | (simp; omega) | omega) _).mono (by first | (simp; done) | (simp; omega) | omega)
      · (repeat (first | exact Below.refl _ _ | (refine Below.setCell ?_ (by first | (simp; done) | (simp; omega) | omega) _) | (refine Below.alloc ?_ (by first | (simp; done) | (simp; omega) | omega) _) | (refine below_drewN ?_ _) | (refine Below.drew ?_) | (refine Below.trans ?_ (Below.mono hB (by first | (simp; done) | (simp; omega) | omega)))))
end Go.Proofs.Ytcjinlfgeljmkaa
