/- Lemmas of TyO. -/
import Derived.Test.YtoednonijmkbjaaGreatVG9
import Derived.Test.YtoednonijmkbjaaGreatVG15
import Derived.Test.YtoednonijmkbjaaGreatVLawO
set_option linter.unusedSimpArgs false
set_option linter.unusedVariables false
namespace Go.Proofs.YtoednonijmkbjaaGreat
open Go.RowKit

theorem P4.pow9 {p : Nat} (hp : P4 p) {k : Nat} (hk : k ≤ 10) : 1 ≤ p ^ k ∧ p ^ k ≤ 282475249 := by
  refine ⟨Nat.pos_of_ne_zero (by have := hp.pos; simp; omega), ?_⟩
  have h1 : p ^ k ≤ 7 ^ k := Nat.pow_le_pow_left hp.pos.2 k
  have h2 : 7 ^ k ≤ 7 ^ 10 := Nat.pow_le_pow_right (by omega) hk
  have h3 : 7 ^ 10 = 282475249 := by decide
  omega

set_option maxHeartbeats 1000000 in
set_option maxRecDepth 100000 in
theorem typicalLaw1_c (p i j n c bp bq : Nat) (m : Int) (o : Option Addr) (t : List (List Int)) (w : World) (hp : P4 p) (hij : i + j < n) (hn : n ≤ 11) (hm : 1 ≤ m) (hm' : m ≤ 1000000000000) (ht : PlaT m n t)
    (hbp : w.cell? ⟨bp, 0, none⟩ = some (.int .i64 p)) (hbq : Box2 w bq (.int .i64 m) (.slice o n c)) (hv : RdT w (.slice o n c) t) :
    Calls Tryz.prog 100 #[.int .i64 i, .int .i64 j, .pointer (some ⟨bp, 0, none⟩), .pointer (some ⟨bq, 0, none⟩)] w fun e w' => e = .returned (.int .i64 (atT t i j / ((p ^ (i + j - 1) : Nat) : Int))) ∧ w = w' := by
  have hp2 := hp.pos
  have e1 : IntKind.i64.wrap ((i : Int) + (j : Int)) = (i : Int) + (j : Int) := IntWalk.i64_in _ (by omega)
  have e2 : IntKind.i64.wrap ((i : Int) + (j : Int) - 1) = (i : Int) + (j : Int) - 1 := IntWalk.i64_in _ (by omega)
  go_enter Tryz.func100, Tryz.ntmps100
  go_wp2_with fail
  go_loop [7, 12] (fun sd sk => ∃ k : Nat, k ≤ i + j - 1 ∧ sk = .int .i64 k ∧ sd = .int .i64 ((p ^ k : Nat) : Int)) (fun _ sk => 10 - (intOf sk).toNat)
  case atStart => exact ⟨0, Nat.zero_le _, rfl, rfl⟩
  case round =>
    obtain ⟨k, hk, rfl, rfl⟩ := hrel
    by_cases hlt : k < i + j - 1
    · have i1 : (k : Int) < (i : Int) + (j : Int) - 1 := by omega
      have hpk := hp.pow9 (show k + 1 ≤ 10 by omega)
      have e3 : IntKind.i64.wrap (((p ^ k : Nat) : Int) * (p : Int)) = ((p ^ (k + 1) : Nat) : Int) := by
        have h : ((p ^ k : Nat) : Int) * (p : Int) = ((p ^ (k + 1) : Nat) : Int) := by rw [Nat.pow_succ]; simp
        rw [h]; exact IntWalk.i64_in _ (by omega)
      have HK := Lib.hid hk
      generalize hA : p ^ k = A at e3 ⊢
      generalize hB : p ^ (k + 1) = B at e3 hpk
      have HB := Lib.hid hB
      clear hA hB
      go_wp2_with fail
      exact ⟨⟨k + 1, by omega, by go_num, by rw [HB.out]⟩, by simp [intOf]; omega⟩
    · obtain rfl : k = i + j - 1 := by omega
      have i1 : ¬ (((i + j - 1 : Nat) : Int) < (i : Int) + (j : Int) - 1) := by omega
      have hpk := hp.pow9 (show i + j - 1 ≤ 10 by omega)
      obtain ⟨b0, b1⟩ := id hbq
      obtain ⟨row, hr, hrl, hrj⟩ := ht.row (show i < n by omega)
      have rg := tab_range ht hij
      obtain ⟨bt, ft, rfl, -⟩ := hv.rows (by have := ht.1; omega)
      obtain ⟨o1, c1, cx, rx⟩ := hv.row hr
      rw [hrl] at cx rx
      obtain ⟨b2, f2, rfl, -⟩ := rx.cells (by omega)
      have cc := rx.cell0 (hrj j (by omega))
      have j1 : (i : Int) < (n : Int) := by omega
      have j2 : (j : Int) < ((n - i : Nat) : Int) := by omega
      obtain ⟨x, hxx⟩ : ∃ x, x = atT t i j := ⟨_, rfl⟩
      rw [← hxx] at rg cc
      have HX := Lib.hid hxx
      clear hr hrj hxx
      generalize hP : p ^ (i + j - 1) = P at hpk ⊢
      have HP := Lib.hid hP
      clear hP
      have t6 : x.tdiv (P : Int) = x / (P : Int) := Int.tdiv_eq_ediv_of_nonneg rg.1
      have kk1 : ((P : Int) == 0) = false := by simp only [beq_eq_false_iff_ne]; omega
      have kk2 : ¬ (P : Int) = 0 := by omega
      have kk3 : ¬ (P : Int) = -1 := by omega
      have q1 : 0 ≤ x / (P : Int) := Int.ediv_nonneg rg.1 (by omega)
      have q2 : x / (P : Int) ≤ x := Int.ediv_le_self _ rg.1
      have e7 : IntKind.i64.wrap (x / (P : Int)) = x / (P : Int) := IntWalk.i64_in _ (by omega)
      go_wp2_with fail
      go_ret
      refine ⟨?_, rfl⟩
      show Ending.returned (.int .i64 (x / (P : Int))) = _
      rw [HX.out, ← HP.out]
      simp
theorem typicalLaw1_callable : Callable 100 := fun args w => Tryz.call100 args w
end Go.Proofs.YtoednonijmkbjaaGreat
