/- Lemmas. -/
import Derived.Test.YteijannfbafdpaaGreatDoorSZM25
import Derived.Shelf.Strings.Builder1
import Derived.Shelf.Strings.Builder2
import Derived.Shelf.Strings.OnBuilder
import Derived.Shelf.Small.Bits
import Derived.Shelf.Strconv.Itoa0
import Derived.Shelf.Strconv.Itoa1
import Derived.Shelf.LaysM
import Derived.Shelf.Strconv.Itoa2
import Derived.Shelf.Strconv.Itoa3
import Derived.Shelf.Strconv.Itoa4
import Derived.Shelf.Bits.Mul64
import Derived.Test.YteijannfbafdpaaGreatDoorSZG2
set_option linter.unusedSimpArgs false
set_option linter.unusedVariables false
namespace Go.Proofs.YteijannfbafdpaaGreatDoor
open Go.RowKit

set_option maxHeartbeats 4000000 in
set_option maxRecDepth 100000 in
theorem sSizeOfClass_c (m : Int) (v : Value) (t : List (List Int)) (w : World) (hv : RdT w v t) :
    Calls Tryz.prog 5 #[.agg #[.int .i64 m, v]] w fun e w' => IEnd w w' (szR m t) e := by
  obtain ⟨o, c, rfl, hmt, -⟩ := id hv
  have hml := hmt.1
  clear hmt
  by_cases hc : l11R m t = 0
  · have hlaw : lawB m t = true := by
      cases h : lawB m t
      · unfold l11R at hc; rw [h] at hc; simp at hc
      · rfl
    have hp := (lawB_t hlaw).1
    have hm := pla_m hp
    have hn := pla_n hp
    have hn2 : ¬ t.length = 2 := fun h => by unfold l11R at hc; rw [hlaw, if_pos rfl, if_pos h] at hc; simp at hc
    have hle : ¬ 300 < m ^ (t.length - 2) := fun h => by unfold l11R at hc; rw [hlaw, if_pos rfl, if_neg hn2, if_pos h] at hc; simp at hc
    have HR := Lib.hid (show szR m t = ⟨(disN (conT m t.length t) (m.toNat ^ (t.length - 2)) : Nat), 0⟩ by unfold szR; rw [if_pos hc])
    have HC : Hid (cl11 m (t.length - 2) 1 = ((m.toNat ^ (t.length - 2) : Nat) : Int)) := Lib.hid (by
      rw [cl11_1 (by omega), if_neg hle]
      have hmn : ((m.toNat : Nat) : Int) = m := by omega
      rw [Int.natCast_pow, hmn])
    have hK300 : m.toNat ^ (t.length - 2) ≤ 300 := by
      have hmn : ((m.toNat : Nat) : Int) = m := by omega
      have : ((m.toNat ^ (t.length - 2) : Nat) : Int) = m ^ (t.length - 2) := by rw [Int.natCast_pow, hmn]
      omega
    have ht : PlaT m t.length t := ⟨rfl, pla_row hp⟩
    have HT := Lib.hid ht
    have HW := Lib.hid (lw_of (m := m) (by omega) ht (lawB_t hlaw).2)
    have HL := Lib.hid hc
    have hcc : ((0 : Int) != 0) = false := by simp
    obtain ⟨Kn, hKK⟩ : ∃ Kn, m.toNat ^ (t.length - 2) = Kn := ⟨_, rfl⟩
    have HM := Lib.hid (fun (A : List (List (List Int))) (hA : AllOK m t.length A) => sz_marks (by omega) (by omega) ht (lw_of (m := m) (by omega) ht (lawB_t hlaw).2) hA Kn)
    rw [hKK] at HR HC hK300 HM
    have HKK := Lib.hid hKK
    have h300 := hK300
    have hn3 : 3 ≤ t.length := by omega
    clear hc hle ht hKK hn2
    go_enter Tryz.func5, Tryz.ntmps5
    go_wp2_with fail
    (obtain ⟨w0, hw0⟩ : ∃ W : World, W = (w.alloc (.cells #[.int .i64 m, .slice o t.length c] 28)) := ⟨_, rfl⟩; have X0 := (RB2.mk1 w  (.int .i64 m) (.slice o t.length c) 28).1.below (w' := w0) (by rw [hw0]; (repeat (first | exact bR _ _ | (refine bS ?_ _) | (refine bA ?_ _) | (refine bN ?_ _) | (refine bD ?_)))) (Nat.le_refl _); have B0 : Below w.heap.size w w0 := (by rw [hw0]; (repeat (first | exact bR _ _ | (refine bS ?_ _) | (refine bA ?_ _) | (refine bN ?_ _) | (refine bD ?_)))); have hv0 := hv.below (w' := w0) (by rw [hw0]; (repeat (first | exact bR _ _ | (refine bS ?_ _) | (refine bA ?_ _) | (refine bN ?_ _) | (refine bD ?_)))) (Nat.le_refl _); rw [← hw0]; clear hw0)
    (obtain ⟨gqX0, gqX1⟩ := id X0; go_wp2_with fail; refine (l11Law_c m _ t _ hv0).mono ?_; rw [HL.out]; rintro e w1 ⟨rfl, hb⟩; (have X1 := X0.below hb (Nat.le_refl _); have hv1 := hv0.below hb (Nat.le_refl _); have B1 := B0.trans (hb.mono B0.size)); clear gqX0 gqX1; clear hb)
    obtain ⟨x0, x1⟩ := id X1
    go_wp2_with fail
    refine (l03DegA_c m o t.length c _ hml).mono ?_
    rintro e w2 ⟨rfl, hb⟩
    (have X2 := X1.below hb (Nat.le_refl _); have hv2 := hv1.below hb (Nat.le_refl _); have B2 := B1.trans (hb.mono B1.size))
    have B2s := B2.size
    clear x0 x1
    obtain ⟨x0, x1⟩ := id X2
    have hXl := X2.lt
    go_wp2_with (first
      | (go_at_call 12; go_loud (refine (l11Count_c m _ (t.length - 2) _ (by omega) (by omega) (by omega) (by omega)).mono ?_; rw [HC.out]; rintro e w' ⟨rfl, rfl⟩))
      | (at_make; go_loud (refine mkI _ rfl _ _ rfl _ _ _ Kn rfl rfl rfl (by omega) ?_; intro w3 hO3 hb3 hs3; have hz3 : w2.heap.size < w3.heap.size := (by omega); clear hs3)))
    have X3 := X2.below hb3 (Nat.le_refl _)
    have ht3 := (RdT.rdf hv2 (S := [w2.heap.size]) (by simp)).below hb3
    have B3 := B2.trans (hb3.mono B2s)
    have B3s := B3.size
    have hlen : (t.length : Int) - 1 = ((t.length - 2 : Nat) : Int) + 1 := by omega
    have hlen2 : (t.length : Int) - 1 = ((t.length - 1 : Nat) : Int) := by omega
    have HL1 := Lib.hid hlen
    have HL2 := Lib.hid hlen2
    clear hlen hlen2 x0 x1 X2
    have hd0 : Below w3.heap.size w3 w3.drew := (Below.refl _ _).drew
    have hsd0 := hd0.size
    obtain ⟨f0_a, f0_b⟩ := ((X3).below (Below.refl w3.heap.size w3) (Nat.le_refl _))
    refine wp_region_K (S := fun w' => w'.cell? ⟨w.heap.size, 0, none⟩ = some (.int .i64 m) ∧ w'.cell? ⟨w.heap.size, 1, none⟩ = some (.slice o t.length c)) [10] (by kernel_rfl) ?_
    have hHeld : (fun w' : World => w'.cell? ⟨w.heap.size, 0, none⟩ = some (.int .i64 m) ∧ w'.cell? ⟨w.heap.size, 1, none⟩ = some (.slice o t.length c)) w3.drew := by go_keep
    refine' wpAnyK_takeL (i := 0) (v := _) rfl (by kernel_rfl) (by kernel_rfl) (by kernel_rfl) (by kernel_rfl) (fun _ _ _ h => h) (Or.inl ⟨by rfl, ?yT1⟩) hHeld ?rT1
    case yT1 => (intro w' hSw; (try dsimp only at hSw); go_simp; try with_reducible rfl)
    try simp only [List.getElem_toArray, List.getElem_cons_zero, List.getElem_cons_succ, Act.put, List.setIfInBounds_toArray, List.set_cons_zero, List.set_cons_succ]
    refine' wpAnyK_takeL (i := 1) (v := _) rfl (by kernel_rfl) (by kernel_rfl) (by kernel_rfl) (by kernel_rfl) (fun _ _ _ h => h) (Or.inl ⟨by rfl, ?yT2⟩) hHeld ?rT2
    case yT2 => (intro w' hSw; (try dsimp only at hSw); go_simp; try with_reducible rfl)
    try simp only [List.getElem_toArray, List.getElem_cons_zero, List.getElem_cons_succ, Act.put, List.setIfInBounds_toArray, List.set_cons_zero, List.set_cons_succ]
    refine' wpAnyK_takeL (i := 2) (v := _) rfl (by kernel_rfl) (by kernel_rfl) (by kernel_rfl) (by kernel_rfl) (fun _ _ _ h => h) (Or.inl ⟨by rfl, ?yT3⟩) hHeld ?rT3
    case yT3 => (intro w' hSw; (try dsimp only at hSw); go_simp; try with_reducible rfl)
    try simp only [List.getElem_toArray, List.getElem_cons_zero, List.getElem_cons_succ, Act.put, List.setIfInBounds_toArray, List.set_cons_zero, List.set_cons_succ]
    refine' wpAnyK_takeL (i := 3) (v := _) rfl (by kernel_rfl) (by kernel_rfl) (by kernel_rfl) (by kernel_rfl) (fun _ _ _ h => h) (Or.inl ⟨by rfl, ?yT4⟩) hHeld ?rT4
    case yT4 => (intro w' hSw; (try dsimp only at hSw); go_simp; try with_reducible rfl)
    try simp only [List.getElem_toArray, List.getElem_cons_zero, List.getElem_cons_succ, Act.put, List.setIfInBounds_toArray, List.set_cons_zero, List.set_cons_succ]
    refine' wpAnyK_takeL (i := 4) (v := _) rfl (by kernel_rfl) (by kernel_rfl) (by kernel_rfl) (by kernel_rfl) (fun _ _ _ h => h) (Or.inl ⟨by rfl, ?yT5⟩) hHeld ?rT5
    case yT5 => (intro w' hSw; (try dsimp only at hSw); go_simp; try with_reducible rfl)
    try simp only [List.getElem_toArray, List.getElem_cons_zero, List.getElem_cons_succ, Act.put, List.setIfInBounds_toArray, List.set_cons_zero, List.set_cons_succ]
    refine' wpAnyK_takeL (i := 5) (v := _) rfl (by kernel_rfl) (by kernel_rfl) (by kernel_rfl) (by kernel_rfl) (fun _ _ _ h => h) (Or.inl ⟨by rfl, ?yT6⟩) hHeld ?rT6
    case yT6 => (intro w' hSw; (try dsimp only at hSw); go_simp; try with_reducible rfl)
    try simp only [List.getElem_toArray, List.getElem_cons_zero, List.getElem_cons_succ, Act.put, List.setIfInBounds_toArray, List.set_cons_zero, List.set_cons_succ]
    refine' wpAnyK_takeL (i := 7) (v := _) rfl (by kernel_rfl) (by kernel_rfl) (by kernel_rfl) (by kernel_rfl) (fun _ _ _ h => h) (Or.inl ⟨by rfl, ?yT7⟩) hHeld ?rT7
    case yT7 => (intro w' hSw; (try dsimp only at hSw); go_simp; try with_reducible rfl)
    try simp only [List.getElem_toArray, List.getElem_cons_zero, List.getElem_cons_succ, Act.put, List.setIfInBounds_toArray, List.set_cons_zero, List.set_cons_succ]
    refine' wpAnyK_takeL (i := 8) (v := _) rfl (by kernel_rfl) (by kernel_rfl) (by kernel_rfl) (by kernel_rfl) (fun _ _ _ h => h) (Or.inl ⟨by rfl, ?yT8⟩) hHeld ?rT8
    case yT8 => (intro w' hSw; (try dsimp only at hSw); go_simp; try with_reducible rfl)
    try simp only [List.getElem_toArray, List.getElem_cons_zero, List.getElem_cons_succ, Act.put, List.setIfInBounds_toArray, List.set_cons_zero, List.set_cons_succ]
    refine' wpAnyK_takeL (i := 9) (v := _) rfl (by kernel_rfl) (by kernel_rfl) (by kernel_rfl) (by kernel_rfl) (fun _ _ _ h => h) (Or.inl ⟨by rfl, ?yT9⟩) hHeld ?rT9
    case yT9 => (intro w' hSw; (try dsimp only at hSw); go_simp; try with_reducible rfl)
    try simp only [List.getElem_toArray, List.getElem_cons_zero, List.getElem_cons_succ, Act.put, List.setIfInBounds_toArray, List.set_cons_zero, List.set_cons_succ]
    refine wpAnyK_oneL (i := 6) rfl (by kernel_rfl) (fun K hK => ?_)
    go_simp
    go_at_call 14
    refine (l11All_c m _ (t.length - 1) _ HL2.out (by omega) (by omega) (by omega) (by omega) (by rw [show t.length - 1 - 1 = t.length - 2 by omega, HKK.out]; exact h300)).mono ?_
    rintro e wd1 ⟨gA, cA, nA, rfl, HAll, hbd1⟩
    have hd1 : Below w3.heap.size w3 wd1 := (by (repeat (first | exact bR _ _ | (refine bS ?_ _) | (refine bA ?_ _) | (refine bN ?_ _) | (refine bD ?_) | (refine bT ?_ hbd1))))
    have hsd1 := hd1.size
    have hsz1_ := hbd1.size
    (try simp at hsz1_)
    obtain ⟨f1_a, f1_b⟩ := ((X3).below hd1 (Nat.le_refl _))
    go_wp2_with fail
    clear hHeld
    have hHeld : (fun w' : World => w'.cell? ⟨w.heap.size, 0, none⟩ = some (.int .i64 m) ∧ w'.cell? ⟨w.heap.size, 1, none⟩ = some (.slice o t.length c)) wd1 := by go_keep
    refine hK.out _ _ (fun _ => hHeld) ?_
    clear hK K
    try simp only [List.getElem_toArray, List.getElem_cons_zero, List.getElem_cons_succ, Act.put, List.setIfInBounds_toArray, List.set_cons_zero, List.set_cons_succ]
    refine wpAnyK_oneL (i := 10) rfl (by kernel_rfl) (fun K hK => ?_)
    go_simp
    obtain ⟨A, hnA, RA, hA⟩ := HAll.out
    have hA2 : AllOK m t.length A := (by rw [show t.length - 1 + 1 = t.length by omega] at hA; exact hA)
    have HA2 := Lib.hid hA2
    have hO4 : OwI wd1 w2.heap.size (.slice (some ⟨w2.heap.size, 0, none⟩) Kn Kn) (mrk Kn (fun j => fnd A (conT m t.length t j)) 0) := (by rw [← mrk_0]; exact hO3.below hd1)
    have RA2 : Rdf 0 [w2.heap.size] wd1 (fun x => RdLT x (.slice (some ⟨gA, 0, none⟩) nA cA) A) := RA.rdf (Nat.zero_le _) (by simp; omega)
    refine (l11Mark_c m _ t.length Kn w2.heap.size Kn w2.heap.size _ _ A t wd1 HL1.out hn3 (by omega) (by omega) (by omega) HC h300 (by rw [hA2.len, HKK.out]) RA2 (ht3.below hd1) HT.out hO4).mono ?_
    clear hA hA2 hnA
    rintro e w9 ⟨rfl, hO9, hg9⟩
    go_wp2_with fail
    refine hK.out _ _ (fun h => absurd h (by decide)) ?_
    clear hK K
    try simp only [List.getElem_toArray, List.getElem_cons_zero, List.getElem_cons_succ, Act.put, List.setIfInBounds_toArray, List.set_cons_zero, List.set_cons_succ]
    refine wpAnyK_done (by kernel_rfl) ?_ _
    have hB4 := B3.trans (hd1.mono B3s)
    have hB9 := Below.grown hB4 hg9 hB4.size (by intro b' hb'; cases hb'; exact B2s)
    have HSum := Lib.hid (HM.out A HA2.out)
    have HMl := Lib.hid (mrk_len Kn (fun j => fnd A (conT m t.length t j)) Kn)
    have HSb := Lib.hid (sum_mrk Kn (fun j => fnd A (conT m t.length t j)) Kn)
    have HSr := Lib.hid (mrk_range Kn (fun j => fnd A (conT m t.length t j)) Kn)
    generalize mrk Kn (fun j => fnd A (conT m t.length t j)) Kn = M at hO9 HSum HMl HSb HSr
    clear hHeld
    go_wp2_with fail
    go_loopw [7, 8] (fun s i wr => ∃ k : Nat, k ≤ Kn ∧ i = .int .i64 k ∧ s = .int .i64 (sumN k (at0 M)) ∧ wr = w9) (fun _ i _ => Kn - (intOf i).toNat)
    case atStart => exact ⟨0, Nat.zero_le _, rfl, rfl, rfl⟩
    case round =>
      obtain ⟨k, hk, rfl, rfl, rfl⟩ := hrel
      have hSk := HSb.out k
      by_cases hlt : k < Kn
      · have i1 : (k : Int) < (Kn : Int) := by omega
        have i0 : (0 : Int) ≤ (k : Int) := by omega
        have hck := hO9.cell (k := k) (some_at0 (by rw [HMl.out]; exact hlt))
        have hr := HSr.out k
        have HS1 := Lib.hid (show sumN (k + 1) (at0 M) = sumN k (at0 M) + at0 M k from rfl)
        generalize sumN k (at0 M) = s at hSk HS1
        generalize at0 M k = x at hck hr HS1
        have e1 : IntKind.i64.wrap (s + x) = s + x := IntWalk.i64_in _ (by omega)
        go_wp2
        exact ⟨⟨k + 1, by omega, by go_num, by rw [HS1.out], by first | rfl | trivial⟩, by simp [intOf]; omega⟩
      · obtain rfl : k = Kn := by omega
        have i1 : ¬ (k : Int) < (k : Int) := by omega
        have HSum := HSum
        go_wp2
        go_ret2
        exact ⟨by rw [HR.out, HSum.out]; rfl, hB9⟩
  · have hR2 : szR m t = ⟨0, l11R m t⟩ := by unfold szR; rw [if_neg hc]
    rw [hR2]
    clear hR2
    obtain ⟨cc, hcc0⟩ : ∃ cc, l11R m t = cc := ⟨_, rfl⟩
    rw [hcc0] at hc ⊢
    have HL := Lib.hid hcc0
    clear hcc0
    have hcc : (cc != 0) = true := by simpa using hc
    clear hc
    go_enter Tryz.func5, Tryz.ntmps5
    go_wp2_with fail
    (obtain ⟨w0, hw0⟩ : ∃ W : World, W = (w.alloc (.cells #[.int .i64 m, .slice o t.length c] 28)) := ⟨_, rfl⟩; have X0 := (RB2.mk1 w  (.int .i64 m) (.slice o t.length c) 28).1.below (w' := w0) (by rw [hw0]; (repeat (first | exact bR _ _ | (refine bS ?_ _) | (refine bA ?_ _) | (refine bN ?_ _) | (refine bD ?_)))) (Nat.le_refl _); have B0 : Below w.heap.size w w0 := (by rw [hw0]; (repeat (first | exact bR _ _ | (refine bS ?_ _) | (refine bA ?_ _) | (refine bN ?_ _) | (refine bD ?_)))); have hv0 := hv.below (w' := w0) (by rw [hw0]; (repeat (first | exact bR _ _ | (refine bS ?_ _) | (refine bA ?_ _) | (refine bN ?_ _) | (refine bD ?_)))) (Nat.le_refl _); rw [← hw0]; clear hw0)
    (obtain ⟨gqX0, gqX1⟩ := id X0; go_wp2_with fail; refine (l11Law_c m _ t _ hv0).mono ?_; rw [HL.out]; rintro e w1 ⟨rfl, hb⟩; (have X1 := X0.below hb (Nat.le_refl _); have B1 := B0.trans (hb.mono B0.size)); clear gqX0 gqX1; clear hb)
    go_wp2
    go_ret2
    exact ⟨rfl, B1⟩
end Go.Proofs.YteijannfbafdpaaGreatDoor
set_option linter.unusedSimpArgs false
set_option linter.unusedVariables false
namespace Go.Proofs.YteijannfbafdpaaGreatDoor
open Go.RowKit
open Go.Shelf
def sh_lays156_ren : Go.Shelf.Ren := ⟨fun | 156 => 83 | 165 => 103 | 166 => 104 | 169 => 105 | 240 => 116 | 241 => 117 | 276 => 123 | 277 => 124 | n => n, fun | 31 => 88 | 9 => 9 | 3 => 3 | 4 => 4 | 0 => 0 | 20 => 20 | 72 => 106 | 76 => 110 | 70 => 103 | 37 => 104 | 75 => 109 | 127 => 121 | 164 => 129 | 5 => 5 | 80 => 112 | n => n, fun | n => n⟩
theorem sh_lays156 : Go.Proofs.Lays.n156 Tryz.prog sh_lays156_ren := {
  mixed := by kernel_rfl
  f156 := Tryz.func83.trans (congrArg some (by kernel_rfl))
  f165 := Tryz.func103.trans (congrArg some (by kernel_rfl))
  f166 := Tryz.func104.trans (congrArg some (by kernel_rfl))
  f169 := Tryz.func105.trans (congrArg some (by kernel_rfl))
  f240 := Tryz.func116.trans (congrArg some (by kernel_rfl))
  f241 := Tryz.func117.trans (congrArg some (by kernel_rfl))
  f276 := Tryz.func123.trans (congrArg some (by kernel_rfl))
  f277 := Tryz.func124.trans (congrArg some (by kernel_rfl))
  t0 := Tryz.underlying0
  a0 := Tryz.isAgg0
  z0 := Tryz.sizeOf0
  v0 := Tryz.zeroValue0
  t3 := Tryz.underlying3
  a3 := Tryz.isAgg3
  z3 := Tryz.sizeOf3
  v3 := Tryz.zeroValue3
  t4 := Tryz.underlying4
  a4 := Tryz.isAgg4
  z4 := Tryz.sizeOf4
  v4 := Tryz.zeroValue4
  t9 := Tryz.underlying9
  a9 := Tryz.isAgg9
  z9 := Tryz.sizeOf9
  v9 := Tryz.zeroValue9
  t20 := Tryz.underlying20
  a20 := Tryz.isAgg20
  z20 := Tryz.sizeOf20
  v20 := Tryz.zeroValue20
  t31 := Tryz.underlying88
  a31 := Tryz.isAgg88
  z31 := Tryz.sizeOf88
  v31 := Tryz.zeroValue88
  t37 := Tryz.underlying104
  a37 := Tryz.isAgg104
  z37 := Tryz.sizeOf104
  v37 := Tryz.zeroValue104
  t70 := Tryz.underlying103
  a70 := Tryz.isAgg103
  z70 := Tryz.sizeOf103
  v70 := Tryz.zeroValue103
  t72 := Tryz.underlying106
  a72 := Tryz.isAgg106
  z72 := Tryz.sizeOf106
  v72 := Tryz.zeroValue106
  t75 := Tryz.underlying109
  a75 := Tryz.isAgg109
  z75 := Tryz.sizeOf109
  v75 := Tryz.zeroValue109
  t76 := Tryz.underlying110
  a76 := Tryz.isAgg110
  z76 := Tryz.sizeOf110
  v76 := Tryz.zeroValue110
  t127 := Tryz.underlying121
  a127 := Tryz.isAgg121
  z127 := Tryz.sizeOf121
  v127 := Tryz.zeroValue121
  t164 := Tryz.underlying129
  a164 := Tryz.isAgg129
  z164 := Tryz.sizeOf129
  v164 := Tryz.zeroValue129 }
theorem sh_Builder_Extra_156 : Builder.Extra Tryz.prog sh_lays156_ren := {
  sizeBuilder := by kernel_rfl
  liesBuilder := by kernel_rfl
  t5 := Tryz.underlying5
  a5 := Tryz.isAgg5
  z5 := Tryz.sizeOf5
  v5 := Tryz.zeroValue5
  infoByte := by kernel_rfl
  cellsByte := by kernel_rfl
  sizeByte := by kernel_rfl
  neB5 := by decide }
open Go.RowKit in
open Go.RowKit in
theorem sh_strings_Join (bk o c : Nat) (xs : List ByteArray) (sep : ByteArray) (w : World) (hcells : ∀ (j : Nat) x, xs[j]? = some x → w.cell? ⟨bk, o + j, none⟩ = some (.string x)) (hbk : bk < w.heap.size) (hN : xs.length ≤ 140737488355328) (hcap : xs.length ≤ c) (hlen : (Lib.join (xs.map (·.data.toList)) sep.data.toList).length ≤ 140737488355328) :
    Calls Tryz.prog 83 #[.slice (some ⟨bk, o, none⟩) xs.length c, .string sep] w fun e w' => e = .returned (.string ⟨(Lib.join (xs.map (·.data.toList)) sep.data.toList).toArray⟩) ∧ Below w.heap.size w w' := Any.strings_Join sh_lays156 sh_Builder_Extra_156 bk o c xs sep w hcells hbk hN hcap hlen
def sh_laysM173_ren : Go.Shelf.Ren := ⟨fun | 173 => 102 | 246 => 115 | 283 => 119 | 284 => 120 | 285 => 121 | 286 => 122 | 129 => 125 | 317 => 126 | 318 => 127 | 319 => 128 | 320 => 129 | 337 => 130 | 338 => 131 | n => n, fun | 2 => 2 | 3 => 3 | 9 => 9 | 4 => 4 | 171 => 125 | 0 => 0 | 53 => 113 | 37 => 104 | 5 => 5 | 173 => 127 | 212 => 134 | 51 => 135 | 20 => 20 | 213 => 136 | 46 => 122 | 232 => 140 | 233 => 141 | n => n, fun | 17 => 2 | 18 => 4 | 19 => 5 | n => n⟩
theorem sh_laysM173 : Go.Proofs.LaysM.n173 Tryz.prog sh_laysM173_ren := {
  mixed := by kernel_rfl
  f129 := Tryz.func125.trans (congrArg some (by kernel_rfl))
  f173 := Tryz.func102.trans (congrArg some (by kernel_rfl))
  f246 := Tryz.func115.trans (congrArg some (by kernel_rfl))
  f283 := Tryz.func119.trans (congrArg some (by kernel_rfl))
  f284 := Tryz.func120.trans (congrArg some (by kernel_rfl))
  f285 := Tryz.func121.trans (congrArg some (by kernel_rfl))
  f286 := Tryz.func122.trans (congrArg some (by kernel_rfl))
  f317 := Tryz.func126.trans (congrArg some (by kernel_rfl))
  f318 := Tryz.func127.trans (congrArg some (by kernel_rfl))
  f319 := Tryz.func128.trans (congrArg some (by kernel_rfl))
  f320 := Tryz.func129.trans (congrArg some (by kernel_rfl))
  f337 := Tryz.func130.trans (congrArg some (by kernel_rfl))
  f338 := Tryz.func131.trans (congrArg some (by kernel_rfl))
  t0 := Tryz.underlying0
  a0 := Tryz.isAgg0
  z0 := Tryz.sizeOf0
  v0 := Tryz.zeroValue0
  t2 := Tryz.underlying2
  a2 := Tryz.isAgg2
  z2 := Tryz.sizeOf2
  v2 := Tryz.zeroValue2
  t3 := Tryz.underlying3
  a3 := Tryz.isAgg3
  z3 := Tryz.sizeOf3
  v3 := Tryz.zeroValue3
  t4 := Tryz.underlying4
  a4 := Tryz.isAgg4
  z4 := Tryz.sizeOf4
  v4 := Tryz.zeroValue4
  t5 := Tryz.underlying5
  a5 := Tryz.isAgg5
  z5 := Tryz.sizeOf5
  v5 := Tryz.zeroValue5
  t9 := Tryz.underlying9
  a9 := Tryz.isAgg9
  z9 := Tryz.sizeOf9
  v9 := Tryz.zeroValue9
  t20 := Tryz.underlying20
  a20 := Tryz.isAgg20
  z20 := Tryz.sizeOf20
  v20 := Tryz.zeroValue20
  t37 := Tryz.underlying104
  a37 := Tryz.isAgg104
  z37 := Tryz.sizeOf104
  v37 := Tryz.zeroValue104
  t46 := Tryz.underlying122
  a46 := Tryz.isAgg122
  z46 := Tryz.sizeOf122
  v46 := Tryz.zeroValue122
  t51 := Tryz.underlying135
  a51 := Tryz.isAgg135
  z51 := Tryz.sizeOf135
  v51 := Tryz.zeroValue135
  t53 := Tryz.underlying113
  a53 := Tryz.isAgg113
  z53 := Tryz.sizeOf113
  v53 := Tryz.zeroValue113
  t171 := Tryz.underlying125
  a171 := Tryz.isAgg125
  z171 := Tryz.sizeOf125
  v171 := Tryz.zeroValue125
  t173 := Tryz.underlying127
  a173 := Tryz.isAgg127
  z173 := Tryz.sizeOf127
  v173 := Tryz.zeroValue127
  t212 := Tryz.underlying134
  a212 := Tryz.isAgg134
  z212 := Tryz.sizeOf134
  v212 := Tryz.zeroValue134
  t213 := Tryz.underlying136
  a213 := Tryz.isAgg136
  z213 := Tryz.sizeOf136
  t232 := Tryz.underlying140
  a232 := Tryz.isAgg140
  z232 := Tryz.sizeOf140
  v232 := Tryz.zeroValue140
  t233 := Tryz.underlying141
  a233 := Tryz.isAgg141
  z233 := Tryz.sizeOf141
  v233 := Tryz.zeroValue141
  g17 := by kernel_rfl
  g18 := by kernel_rfl
  g19 := by kernel_rfl
  i0 := by kernel_rfl
  i2 := by kernel_rfl
  i3 := by kernel_rfl
  i4 := by kernel_rfl
  i5 := by kernel_rfl
  i9 := by kernel_rfl
  i20 := by kernel_rfl
  i37 := by kernel_rfl
  i46 := by kernel_rfl
  i51 := by kernel_rfl
  i53 := by kernel_rfl
  i171 := by kernel_rfl
  i173 := by kernel_rfl
  i212 := by kernel_rfl
  i232 := by kernel_rfl
  i233 := by kernel_rfl
  m17 := by kernel_rfl
  m18 := by kernel_rfl
  m19 := by kernel_rfl }
open Go.RowKit Go.Sort Go.Lib in
theorem sh_strconv_FormatInt_10 (n : Int) (h0 : -9223372036854775808 ≤ n) (h1 : n ≤ 9223372036854775807) (w : World) (htab : Lib.TabIs Tryz.prog w "internal/strconv.uint64pow10" .u64 Lib.pow10Tab) :
    Calls Tryz.prog 102 #[.int .i64 n, .int .i64 10] w fun e w' => e = .returned (.string ⟨(Lib.itoa n).toArray⟩) ∧ ∃ k os, w' = grow (w.drewN k) os := Any.strconv_FormatInt_10 sh_laysM173 n h0 h1 w htab
end Go.Proofs.YteijannfbafdpaaGreatDoor
