/- Lemmas of LzD. -/
import Derived.Test.YtoednonijmkbjaaULzC
import Derived.Test.YtoednonijmkbjaaUG2
import Derived.Test.YtoednonijmkbjaaUPlaR
import Derived.Test.YtoednonijmkbjaaUG15
set_option linter.unusedSimpArgs false
set_option linter.unusedVariables false
namespace Go.Proofs.Ytoednonijmkbjaa
open Go.RowKit

def cocTo (m : Int) (n k : Nat) : List (List Int) := tri (n + 1) (fun i j => if i + j = n ∧ i < k then laz n i % m else 0)
def cocT (m : Int) (n : Nat) : List (List Int) := tri (n + 1) (fun i j => if i + j = n then laz n i % m else 0)
theorem laz_0 (n : Nat) : laz n 0 = 0 := by unfold laz; rw [if_neg (by omega)]
theorem cocTo_1 (m : Int) (n : Nat) : zeroT (n + 1) = cocTo m n 1 := tri_ext fun i j _ => by
  by_cases h : i + j = n ∧ i < 1
  · rw [if_pos h, show i = 0 by omega, laz_0, Int.zero_emod]
  · rw [if_neg h]
theorem cocTo_n (m : Int) (n : Nat) : cocTo m n n = cocT m n := tri_ext fun i j _ => by
  by_cases h : i + j = n
  · rw [if_pos h]
    by_cases h' : i < n
    · rw [if_pos ⟨h, h'⟩]
    · rw [if_neg (fun e => h' e.2), laz_out (by omega), Int.zero_emod]
  · rw [if_neg (fun e => h e.1), if_neg h]
theorem cocTo_set {m : Int} {n k : Nat} (hk : k < n) : (cocTo m n k).set k ((mk (n + 1 - k) (fun j => if k + j = n ∧ k < k then laz n k % m else 0)).set (n - k) (laz n k % m)) = cocTo m n (k + 1) := by
  unfold cocTo
  rw [tri_set (f := fun i j => if i + j = n ∧ i < k then laz n i % m else 0) (by omega)]
  refine tri_ext fun a b h => ?_
  by_cases e : a = k ∧ b = n - k
  · obtain ⟨rfl, rfl⟩ := e
    rw [if_pos ⟨rfl, rfl⟩, if_pos (by omega)]
  · rw [if_neg e]
    by_cases e2 : a + b = n ∧ a < k
    · rw [if_pos e2, if_pos (by omega)]
    · rw [if_neg e2, if_neg (by omega)]

set_option maxHeartbeats 1000000 in
set_option maxRecDepth 100000 in
theorem l07Cocycle_c (m : Int) (n : Nat) (w : World) (h2 : 2 ≤ n) (hn : n ≤ 10) (hm : 2 ≤ m) (hm' : m ≤ 10000) :
    Calls Try.prog 69 #[.int .i64 m, .int .i64 n] w fun e w' => ∃ v', e = .returned v' ∧ OwS w' w.heap.size v' (cocT m n) ∧ Below w.heap.size w w' := by
  go_enter Try.func69, Try.ntmps69
  go_wp2_with fail
  refine (l03Zero_c _ (n + 1) _ (by omega) (by omega)).mono ?_
  rintro e w1 ⟨v1, rfl, how, hb1⟩
  obtain ⟨oT, cT, rfl⟩ := how.shapeN (n := n + 1) (zeroT_len _)
  have hb1s := hb1.size
  go_wp2_with fail
  refine (l01Lazard_c n _ h2 hn).mono ?_
  rintro e w2 ⟨rfl, hb2⟩
  have hb2s := hb2.size
  have B2 := hb1.trans (hb2.mono hb1s)
  have how := how.toR
  obtain ⟨us, how⟩ := how.named
  have how := how.stay (u' := w2) (fun k _ hk => hb2.block k (by omega))
  obtain ⟨gT, rfl, hg1, hg2⟩ := how.row (by omega)
  rw [cocTo_1 m] at how
  obtain ⟨hi, hhi⟩ : ∃ hi, hi = w1.heap.size := ⟨_, rfl⟩
  rw [← hhi] at how hg2 hb2s hb1s
  obtain ⟨la1, la2⟩ := lam_range n h2 hn
  obtain ⟨L, hL⟩ : ∃ L, L = lam n := ⟨_, rfl⟩
  rw [← hL] at la1 la2 ⊢
  have HL := Lib.hid hL
  clear hL hb1 hb2 hhi
  have l1 : ¬ L = 0 := by omega
  have l2 : (L == 0) = false := by simp; omega
  have l3 : ¬ m = 0 := by omega
  have l4 : (m == 0) = false := by simp; omega
  go_wp2_with fail
  go_loopw [7] (fun i wr => ∃ k : Nat, 1 ≤ k ∧ k ≤ n ∧ i = .int .i64 k ∧ OwSU us w.heap.size hi wr (.slice (some ⟨gT, 0, none⟩) (n + 1) cT) (cocTo m n k) ∧ Below w.heap.size w wr ∧ hi ≤ wr.heap.size) (fun i _ => n - (intOf i).toNat)
  case atStart => exact ⟨1, Nat.le_refl _, by omega, rfl, how, B2, hb2s⟩
  case round =>
    clear how B2 hb2s
    obtain ⟨k, hk1, hk, rfl, hO, hB, hhw⟩ := hrel
    have hBs := hB.size
    by_cases hlt : k < n
    · have i1 : (k : Int) < (n : Int) := by omega
      have i2 : (0 : Int) ≤ (k : Int) := by omega
      have i3 : (k : Int) < (n : Int) + 1 := by omega
      have i4 : (k : Int) < ((n + 1 : Nat) : Int) := by omega
      have r2 := bin_r10 hn k
      have hq := laz_quo h2 hn hk1 hlt
      rw [← HL.out] at hq
      have q0 : 0 ≤ laz n k ∧ laz n k ≤ 1024 := laz_range h2 hn k
      have rq := mod_lt' (a := laz n k) (show 0 < m by omega)
      have e3 : IntKind.i64.wrap (laz n k) = laz n k := IntWalk.i64_in _ (by omega)
      have e4 : (laz n k).tmod m = laz n k % m := Int.tmod_eq_emod_of_nonneg q0.1
      have e5 : IntKind.i64.wrap ((n : Int) - (k : Int)) = ((n - k : Nat) : Int) := by rw [IntWalk.i64_in _ (by omega)]; omega
      have HS := Lib.hid (cocTo_set (m := m) hlt)
      have hrP : (cocTo m n k)[k]? = some (mk (n + 1 - k) (fun j => if k + j = n ∧ k < k then laz n k % m else 0)) := tri_get (by omega)
      obtain ⟨rP, hrPe⟩ : ∃ rP, rP = mk (n + 1 - k) (fun j => if k + j = n ∧ k < k then laz n k % m else 0) := ⟨_, rfl⟩
      rw [← hrPe] at HS hrP
      have hrPl : rP.length = n + 1 - k := by rw [hrPe, mk_len]
      have Hlen := Lib.hid hrPl
      clear hrPe
      obtain ⟨oP, cP, huP, cxP, -, hblP, -⟩ := hO.at hrP
      rw [hrPl] at cxP
      go_wp2_with fail
      refine (l01Binomial_c n k _ (by omega) hn).mono ?_
      rintro e w4 ⟨rfl, hb4⟩
      have hO4 := hO.stay (u' := w4) (fun k _ hk => hb4.block k (by omega))
      have hb4s := hb4.size
      have B4 := hB.trans (hb4.mono hBs)
      obtain ⟨oQ, cQ, huQ, cxQ, howP, hblQ, hsetP⟩ := hO4.at hrP
      obtain ⟨rfl, rfl⟩ : oP = oQ ∧ cP = cQ := by rw [huP] at huQ; simp at huQ; exact huQ
      rw [hrPl] at howP hblQ hsetP cxQ
      obtain ⟨gP, rfl, hgP1, hgP2⟩ := howP.row (by omega)
      have hgP3 := hblQ gP rfl
      have hfP := howP.fz (n - k)
      have hcP := howP.cell (k := n - k) (some_at0 (by omega))
      have HSP := Lib.hid hsetP
      have HownP := Lib.hid howP
      clear hsetP howP huP hblP hrP hrPl huQ hO hO4 cxP
      have j5 : ((n - k : Nat) : Int) < ((n + 1 - k : Nat) : Int) := by omega
      have j6 : n - k < n + 1 - k := by omega
      go_wp2_with fail
      have hg0 := gr_put (World.grownBy.refl w4 (some gP)) (n - k) (.int .i64 (laz n k % m))
      have hOn := HSP.out _ _ (by rw [List.length_set, Hlen.out]) hg0 (HownP.out.put (n - k) (laz n k % m))
      rw [HS.out] at hOn
      have hBn := below_put B4 (g := gP) (k := n - k) (by omega) (.int .i64 (laz n k % m))
      exact ⟨⟨k + 1, by omega, by omega, by go_num, hOn, hBn, by simp; omega⟩, by simp [intOf]; omega⟩
    · obtain rfl : k = n := by omega
      rw [cocTo_n] at hO
      have hOs := hO.r.ow
      have i1 : ¬ (k : Int) < (k : Int) := by omega
      go_wp2
      go_ret
      exact ⟨_, rfl, hOs, hB⟩
end Go.Proofs.Ytoednonijmkbjaa
