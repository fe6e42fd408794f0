/- Lemmas of PlaE. -/
import Derived.Test.YtmmneicblcjkjaaQPlaC
import Derived.Test.YtmmneicblcjkjaaQSRev
import Derived.Test.YtmmneicblcjkjaaQPlaT
import Derived.Test.YtmmneicblcjkjaaQG2
set_option linter.unusedSimpArgs false
set_option linter.unusedVariables false
namespace Go.Proofs.Ytmmneicblcjkjaa
open Go.RowKit

def trnTo (n : Nat) (g : Nat → Nat → Int) (i j : Nat) : List (List Int) := tri n (fun a b => if b < i ∨ (b = i ∧ a < j) then g b a else 0)
theorem trnTo_0 (n : Nat) (g : Nat → Nat → Int) : zeroT n = trnTo n g 0 0 := tri_ext fun i j _ => by simp
def trnRow (n : Nat) (g : Nat → Nat → Int) (i j : Nat) : List Int := mk (n - j) (fun b => if b < i then g b j else 0)
theorem trnRow_len (n : Nat) (g : Nat → Nat → Int) (i j : Nat) : (trnRow n g i j).length = n - j := mk_len _ _
theorem trnTo_get {n : Nat} {g : Nat → Nat → Int} {i j : Nat} (h : j < n) : (trnTo n g i j)[j]? = some (trnRow n g i j) := by
  unfold trnTo; rw [tri_get h]; congr 1; exact mk_ext fun b _ => by simp
theorem trnTo_set {n : Nat} {g : Nat → Nat → Int} {i j : Nat} (h : i + j < n) : (trnTo n g i j).set j ((trnRow n g i j).set i (g i j)) = trnTo n g i (j + 1) := by
  have e : trnRow n g i j = mk (n - j) ((fun a b => if b < i ∨ (b = i ∧ a < j) then g b a else 0) j) := mk_ext fun b _ => by simp
  unfold trnTo
  rw [e, tri_set (by omega)]
  refine tri_ext fun a b hab => ?_
  by_cases e1 : a = j ∧ b = i
  · obtain ⟨rfl, rfl⟩ := e1; simp
  · rw [if_neg e1]
    by_cases e2 : b < i ∨ (b = i ∧ a < j)
    · rw [if_pos e2, if_pos (by omega)]
    · rw [if_neg e2, if_neg (by omega)]
theorem trnTo_row {n : Nat} {g : Nat → Nat → Int} {i : Nat} : trnTo n g i (n - i) = trnTo n g (i + 1) 0 := tri_ext fun a b hab => by
  by_cases e : b < i ∨ (b = i ∧ a < n - i)
  · rw [if_pos e, if_pos (by omega)]
  · rw [if_neg e, if_neg (by omega)]
theorem trnTo_all (n : Nat) (g : Nat → Nat → Int) : trnTo n g n 0 = tri n (fun i j => g j i) := tri_ext fun a b hab => by rw [if_pos (by omega)]
theorem turn_all {m : Int} {n : Nat} {t : List (List Int)} (h : PlaT m n t) : trnTo n (atT t) n 0 = turnT m t := by
  rw [trnTo_all]
  unfold turnT
  rw [h.1]
  refine tri_ext fun i j hij => ?_
  obtain ⟨_, _, _, _, h1, h2⟩ := h.at (i := j) (j := i) (by omega)
  exact (Int.emod_eq_of_lt h1 h2).symm

set_option maxHeartbeats 4000000 in
set_option maxRecDepth 100000 in
theorem l03Turn_c (m : Int) (n : Nat) (v : Value) (xss : List (List Int)) (w : World) (hv : RdT w v xss) (h1 : 1 ≤ n) (hn : n ≤ 1000) (hx : PlaT m n xss) :
    Calls Try.prog 27 #[v] w fun e w' => ∃ v', e = .returned v' ∧ OwS w' w.heap.size v' (turnT m xss) ∧ Below w.heap.size w w' := by
  obtain ⟨o, c, rfl, hmx, -⟩ := id hv
  rw [hx.1] at hmx ⊢
  unfold maxLen at hmx
  have hv' : RdT w (.slice o n c) xss := by rw [hx.1] at hv; exact hv
  clear hv
  have HX := Lib.hid hx
  have hxl := hx.1
  clear hx
  obtain ⟨bx, fx, rfl, -⟩ := hv'.rows (by omega)
  clear hxl
  go_enter Try.func27, Try.ntmps27
  go_wp2_with (go_at_call 22; refine (l03Zero_c ((n : Int) - 1) n _ rfl hn).mono ?_; rintro e w2 ⟨vz, rfl, how, B2⟩; obtain ⟨oz, cz, rfl⟩ := how.shapeN (n := n) (zeroT_len n))
  have how := how.toR
  obtain ⟨hi, hhi⟩ : ∃ hi, w2.heap.size = hi := ⟨_, rfl⟩
  rw [hhi] at how
  obtain ⟨us, how⟩ := how.named
  obtain ⟨g, rfl, hgl, hgl'⟩ := how.row h1
  rw [trnTo_0 n (atT xss)] at how
  have B2s := B2.size
  go_loopw [4] (fun s wr => ∃ i : Nat, i ≤ n ∧ s = .int .i64 i ∧ OwSU us w.heap.size hi wr (.slice (some ⟨g, 0, none⟩) n cz) (trnTo n (atT xss) i 0) ∧ Chg w.heap.size hi w2 wr) (fun i _ => n - (intOf i).toNat)
  case atStart => exact ⟨0, Nat.zero_le _, rfl, how, Chg.refl _ _ _⟩
  case round =>
    obtain ⟨i, hi', rfl, hO, hC⟩ := hrel
    by_cases hlt : i < n
    · obtain ⟨r1, hr1, hl1, hj1⟩ := HX.out.row hlt
      obtain ⟨p1, q1, cx0, rx0⟩ := hv'.row hr1
      rw [hl1] at cx0 rx0
      obtain ⟨b1, f1, rfl, -⟩ := rx0.cells (by omega)
      have i0 : (0 : Int) ≤ (i : Int) := by omega
      have i1 : (i : Int) < (n : Int) := by omega
      have HJ := Lib.hid hj1
      clear hr1 hl1 hj1
      go_wp2_with fail
      go_loopw [5] (fun s wr => ∃ j : Nat, j ≤ n - i ∧ s = .int .i64 j ∧ OwSU us w.heap.size hi wr (.slice (some ⟨g, 0, none⟩) n cz) (trnTo n (atT xss) i j) ∧ Chg w.heap.size hi w2 wr) (fun i' _ => n - i - (intOf i').toNat)
      case atStart => exact ⟨0, Nat.zero_le _, rfl, hO, hC⟩
      case round =>
        obtain ⟨j, hj, rfl, hO, hC⟩ := hrel
        have Br := hC.below B2 (by omega) B2s
        have cx := keep_cell Br (Nat.le_refl _) cx0
        by_cases hjl : j < n - i
        · have ex := (rx0.below Br (Nat.le_refl _)).cell0 (HJ.out j hjl)
          obtain ⟨o2, c2', hu2, cx2, how2, hbl2, hset2⟩ := hO.at (trnTo_get (show j < n by omega))
          rw [trnRow_len] at hu2 cx2 how2 hbl2 hset2
          obtain ⟨gr, rfl, hgr1, hgr2⟩ := how2.row (by omega)
          have hgr3 := hbl2 gr rfl
          have HS2 := Lib.hid hset2
          clear hu2 hbl2 hset2
          have hc0 := how2.cell (k := i) (x := 0) (by unfold trnRow; rw [mk_get (by omega)]; simp)
          have hf0 := how2.fz i
          have Hn := Lib.hid how2
          clear how2
          have j0 : (0 : Int) ≤ (j : Int) := by omega
          have j1 : (j : Int) < ((n - i : Nat) : Int) := by omega
          have j2 : (j : Int) < (n : Int) := by omega
          have j3 : (i : Int) < ((n - j : Nat) : Int) := by omega
          go_wp2_with fail
          have hO3 := HS2.out _ _ (by rw [List.length_set, trnRow_len]) (gr_put (World.grownBy.refl wr (some gr)) i (.int .i64 (atT xss i j))) (Hn.out.put i (atT xss i j))
          rw [trnTo_set (by omega)] at hO3
          have hC3 := hC.grown (grown_put wr gr i (.int .i64 (atT xss i j))) hgr3.1 hgr3.2.1
          exact ⟨⟨j + 1, by omega, by go_num, hO3, hC3⟩, by simp [intOf]; omega⟩
        · obtain rfl : j = n - i := by omega
          rw [trnTo_row] at hO
          go_wp2
          exact ⟨⟨i + 1, by omega, by go_num, hO, hC⟩, by simp [intOf]; omega⟩
    · obtain rfl : i = n := by omega
      rw [turn_all HX.out] at hO
      have Br := hC.below B2 (by omega) B2s
      go_wp2
      go_ret
      exact ⟨_, rfl, hO.r.ow, Br⟩

end Go.Proofs.Ytmmneicblcjkjaa
