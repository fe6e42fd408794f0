/- Lemmas of TyR. -/
import Derived.Test.YtoednonijmkbjaaQTyQ
set_option linter.unusedSimpArgs false
set_option linter.unusedVariables false
namespace Go.Proofs.Ytoednonijmkbjaa
open Go.RowKit

def hondaL (k h : Nat) : List Int := (List.replicate k (0 : Int)).set (h - 1) 1
set_option maxHeartbeats 2000000 in
set_option maxRecDepth 100000 in
theorem HondaLaw_good (p h n : Nat) (w : World) (hp : P4 p) (h1 : 1 ≤ h) (h3 : h ≤ 3) (n1 : 1 ≤ n) (hn : n ≤ 10) (hpB : primB p = true) (hhB : inB h 1 3 = true) (hnB : inB n 1 10 = true) :
    Calls Try.prog 7 #[.int .i64 p, .int .i64 h, .int .i64 n] w fun e w' => PEnd w w' ⟨p, tri (n + 1) (fun i j => atT (lawT ((p : Int) * ((p ^ (n - 1) : Nat) : Int)) (n + 1) (mk (n + 1) (fun i => serK p (at0 (hondaL h h ++ List.replicate (3 - h) (0 : Int))) (mostOf p n + 1) i % ((p : Int) * ((p ^ (n - 1) : Nat) : Int))))) i j / ((p ^ (i + j - 1) : Nat) : Int) % p), 0⟩ e := by
  have R0 := RB2.mk1 w (.int .i64 0) (.slice none 0 0) 24
  have B0 : Below w.heap.size w (w.alloc (.cells #[.int .i64 0, .slice none 0 0] 24)) := (by (repeat (first | exact Below.refl _ _ | (refine Below.setCell ?_ (by first | (simp; done) | (simp; omega) | omega) _) | (refine Below.alloc ?_ (by first | (simp; done) | (simp; omega) | omega) _) | (refine below_drewN ?_ _) | (refine Below.drew ?_))))
  have hp2 := hp.pos
  go_enter Try.func7, Try.ntmps7
  go_wp2_with fail
  generalize w.alloc (.cells #[.int .i64 0, .slice none 0 0] 24) = w0 at R0 B0 ⊢
  refine (isTypicalPrime_c p _).mono ?_
  rintro e w1 ⟨rfl, rfl⟩
  rw [hpB]
  go_wp2_with fail
  refine (in_c h 1 3 _).mono ?_
  rintro e w1 ⟨rfl, rfl⟩
  rw [hhB]
  go_wp2_with fail
  refine (in_c n 1 10 _).mono ?_
  rintro e w1 ⟨rfl, rfl⟩
  rw [hnB]
  clear hpB hhB hnB
  have e1 : IntKind.i64.wrap ((h : Int) - 1) = ((h - 1 : Nat) : Int) := by rw [IntWalk.i64_in _ (by omega)]; omega
  have i1 : ((h - 1 : Nat) : Int) < (h : Int) := by omega
  have i2 : h - 1 < h := by omega
  have r1' := R0.1.lt
  go_wp2_with (at_make; go_loud (refine mkI _ rfl _ _ rfl _ _ _ h rfl rfl rfl (by omega) ?_; intro w2 hown hb hs1; have hc1 := hown.cell (k := h - 1) (some_at0 (by simp; omega)); have hf1 := hown.fz (h - 1); have Hown := Lib.hid hown; clear hown))
  have hL := Hown.out.put (h - 1) 1
  have hBw : Below w0.heap.size w0 (w2.setCell ⟨w0.heap.size, h - 1, none⟩ (.int .i64 1)) := below_gr hb (gr_put (World.grownBy.refl w2 (some w0.heap.size)) (h - 1) _) (Nat.le_refl _) (by omega)
  have hll : (hondaL h h).length = h := by unfold hondaL; simp
  have hlx : ∀ x ∈ hondaL h h, 0 ≤ x ∧ x ≤ 10000 := by
    intro x hx
    rcases List.mem_or_eq_of_mem_set hx with a | rfl
    · rw [(List.mem_replicate.1 a).2]; omega
    · omega
  have hpw := (hp.pow9 (show n - 1 ≤ 10 by omega))
  have hWm : (p : Int) * ((p ^ (n - 1) : Nat) : Int) ≤ 7 * 282475249 := Int.mul_le_mul (by omega) (by omega) (by omega) (by omega)
  have hL' : OwI _ w0.heap.size (.slice (some ⟨w0.heap.size, 0, none⟩) h h) (hondaL h h) := hL
  generalize w2.setCell ⟨w0.heap.size, h - 1, none⟩ (.int .i64 1) = w3 at hL' hBw ⊢
  refine (typicalLaw_c p n (p : Int) _ (hondaL h h) _ hL'.rd hp n1 hn (by omega) (by omega) (by omega) (by omega) hlx _ rfl (by omega)).mono ?_
  rintro e w4 ⟨v4, rfl, how, hb4⟩
  obtain ⟨oy, cy, rfl⟩ := how.shapeN (n := n + 1) (tri_len _ _)
  rw [hll] at how
  have hBs := hBw.size
  have R4 := R0.below (hBw.trans (hb4.mono hBs)) (Nat.le_refl _)
  have BY := B0.trans ((hBw.trans (hb4.mono hBs)).mono B0.size)
  obtain ⟨⟨r0, r1⟩, rf⟩ := id R4
  have HY := Lib.hid how
  clear how
  go_wp2
  refine bodyPost_ret (v := .tuple #[.agg #[.int .i64 p, .slice oy (n + 1) cy], .int .i64 0]) (by simp [results, Try.results7, go_sem, r0, r1]) rfl ⟨_, rfl, ?_, ?_, ?_⟩
  · exact ((HY.out.low (by omega) _).low (by omega) _).mono (by have := B0.size; omega)
  · (repeat (first | exact Below.refl _ _ | (refine Below.setCell ?_ (by first | (simp; done) | (simp; omega) | omega) _) | (refine Below.alloc ?_ (by first | (simp; done) | (simp; omega) | omega) _) | (refine below_drewN ?_ _) | (refine Below.drew ?_) | (refine Below.trans ?_ (Below.mono BY (by first | (simp; done) | (simp; omega) | omega)))))
  · exact sizeT_tri (by omega) _

set_option maxHeartbeats 2000000 in
set_option maxRecDepth 100000 in
theorem sHondaLaw_good (p h n : Nat) (w : World) (hp : P4 p) (h1 : 1 ≤ h) (h3 : h ≤ 3) (n1 : 1 ≤ n) (hn : n ≤ 10) (hpB : primB p = true) (hhB : inB h 1 3 = true) (hnB : inB n 1 10 = true)
    (M : Nat) (hM : M = mostOf p n) (W : Int) (hW : W = (p : Int) * ((p ^ M : Nat) : Int) * p) (ns : List Int) (hns : ns = mk 4 (fun k => num p (at0 (hondaL 3 h ++ List.replicate (3 - 3) 0)) k % W)) :
    Calls Try.prog 6 #[.int .i64 p, .int .i64 h, .int .i64 n] w fun e w' => PEnd w w' ⟨p, tri (n + 1) (fun i j => lwF W n p M ns (n - 1) i j % p), 0⟩ e := by
  have R0 := RB2.mk1 w (.int .i64 0) (.slice none 0 0) 24
  have B0 : Below w.heap.size w (w.alloc (.cells #[.int .i64 0, .slice none 0 0] 24)) := (by (repeat (first | exact Below.refl _ _ | (refine Below.setCell ?_ (by first | (simp; done) | (simp; omega) | omega) _) | (refine Below.alloc ?_ (by first | (simp; done) | (simp; omega) | omega) _) | (refine below_drewN ?_ _) | (refine Below.drew ?_))))
  have hp2 := hp.pos
  go_enter Try.func6, Try.ntmps6
  go_wp2_with fail
  generalize w.alloc (.cells #[.int .i64 0, .slice none 0 0] 24) = w0 at R0 B0 ⊢
  refine (l09Prime_c p _).mono ?_
  rintro e w1 ⟨rfl, rfl⟩
  rw [hpB]
  go_wp2_with fail
  refine (l01In_c h 1 3 _).mono ?_
  rintro e w1 ⟨rfl, rfl⟩
  rw [hhB]
  go_wp2_with fail
  refine (l01In_c n 1 10 _).mono ?_
  rintro e w1 ⟨rfl, rfl⟩
  rw [hnB]
  clear hpB hhB hnB
  have e1 : IntKind.i64.wrap ((h : Int) - 1) = ((h - 1 : Nat) : Int) := by rw [IntWalk.i64_in _ (by omega)]; omega
  have i1 : ((h - 1 : Nat) : Int) < 3 := by omega
  have i2 : h - 1 < 3 := by omega
  have r1' := R0.1.lt
  go_wp2_with (at_make; go_loud (refine mkI _ rfl _ _ rfl _ _ _ 3 rfl rfl rfl (by omega) ?_; intro w2 hown hb hs1; have hc1 := hown.cell (k := h - 1) (some_at0 (by simp; omega)); have hf1 := hown.fz (h - 1); have Hown := Lib.hid hown; clear hown))
  have hL := Hown.out.put (h - 1) 1
  have hBw : Below w0.heap.size w0 (w2.setCell ⟨w0.heap.size, h - 1, none⟩ (.int .i64 1)) := below_gr hb (gr_put (World.grownBy.refl w2 (some w0.heap.size)) (h - 1) _) (Nat.le_refl _) (by omega)
  have hll : (hondaL 3 h).length = 3 := by unfold hondaL; simp
  have hlx : ∀ x ∈ hondaL 3 h, 0 ≤ x ∧ x ≤ 10000 := by
    intro x hx
    rcases List.mem_or_eq_of_mem_set hx with a | rfl
    · rw [(List.mem_replicate.1 a).2]; omega
    · omega
  have hL' : OwI _ w0.heap.size (.slice (some ⟨w0.heap.size, 0, none⟩) 3 3) (hondaL 3 h) := hL
  generalize w2.setCell ⟨w0.heap.size, h - 1, none⟩ (.int .i64 1) = w3 at hL' hBw ⊢
  refine (l09Law_c p n (p : Int) _ (hondaL 3 h) _ hL'.rd hp n1 hn (by omega) (by omega) (by omega) (by omega) hlx M hM W hW ns (by rw [hll]; exact hns)).mono ?_
  rintro e w4 ⟨v4, rfl, how, hb4⟩
  obtain ⟨oy, cy, rfl⟩ := how.shapeN (n := n + 1) (tri_len _ _)
  have hBs := hBw.size
  go_wp2_with fail
  refine (l03Make_c (p : Int) _ _ _ _).mono ?_
  rintro e w5 ⟨rfl, hb5⟩
  have how5 := how.below hb5
  have hb4s := hb4.size
  have Bt := (hBw.trans (hb4.mono hBs)).trans (hb5.mono (by omega))
  have R4 := R0.below Bt (Nat.le_refl _)
  have BY := B0.trans (Bt.mono B0.size)
  obtain ⟨⟨r0, r1⟩, rf⟩ := id R4
  have HY := Lib.hid how5
  clear how how5
  go_wp2
  refine bodyPost_ret (v := .tuple #[.agg #[.int .i64 p, .slice oy (n + 1) cy], .int .i64 0]) (by simp [results, Try.results6, go_sem, r0, r1]) rfl ⟨_, rfl, ?_, ?_, ?_⟩
  · exact ((HY.out.low (by omega) _).low (by omega) _).mono (by have := B0.size; omega)
  · (repeat (first | exact Below.refl _ _ | (refine Below.setCell ?_ (by first | (simp; done) | (simp; omega) | omega) _) | (refine Below.alloc ?_ (by first | (simp; done) | (simp; omega) | omega) _) | (refine below_drewN ?_ _) | (refine Below.drew ?_) | (refine Below.trans ?_ (Below.mono BY (by first | (simp; done) | (simp; omega) | omega)))))
  · exact sizeT_tri (by omega) _
end Go.Proofs.Ytoednonijmkbjaa
