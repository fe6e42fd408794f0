/- Lemmas. -/
import Derived.Test.YtfpphfjlpgefaaaGreatqG2
import Derived.Test.YtfpphfjlpgefaaaGreatqG3
import Derived.Test.YtfpphfjlpgefaaaGreatqM29
import Derived.Test.YtfpphfjlpgefaaaGreatqM30
import Derived.Test.YtfpphfjlpgefaaaGreatqM22
import Derived.Test.YtfpphfjlpgefaaaGreatqM26
set_option maxHeartbeats 2000000
set_option maxRecDepth 100000
set_option linter.unusedSimpArgs false
set_option linter.unusedVariables false
namespace Go.Proofs.YtfpphfjlpgefaaaGreat
open Go.RowKit
section

def tyB (p m : Int) (ls : Li) (least : Int) : Bool := qBK p && (!decide ((ls.length : Int) < least)) && (!decide ((3 : Int) < (ls.length : Int))) && qBd m ls
def qBk (p m : Int) (ls : Li) (least : Int) : Int := if qCC m = true then (if tyB p m ls least = true then 0 else 2) else 1

theorem qMv (m x : Int) (b : Nat) (w : World) (hm : -9223372036854775808 < m) (hm' : m ≤ 9223372036854775807)
  (h1 : w.cell? ⟨b, 0, none⟩ = some (.int .i64 m)) :
  Calls Tryz.prog 188 #[.int .i64 x, .pointer (some ⟨b, 0, none⟩)] w fun e w' => e = .returned (.bool (inB x 0 (m - 1))) ∧ w = w' := by
 go_enter Tryz.func188, Tryz.ntmps188
 go_wp2_with (go_at_call 81; refine (qH1 _ _ _ hm hm').mono ?_; rintro e w' ⟨rfl, rfl⟩)
 go_ret
 exact ⟨rfl, rfl⟩
theorem qQc : qBf 188 := fun args w => Tryz.call188 args w

theorem qQd (m : Int) (v : Value) (xs : Li) (w : World) (hv : RdI w v xs) :
  Calls Tryz.prog 141 #[.int .i64 m, v] w fun e w' => e = .returned (.int .i64 (if qCC m = true then (if qBd m xs = true then 0 else 2) else 1)) ∧ Below w.heap.size w w' := by
 obtain ⟨o, c, rfl, hmx, -⟩ := id hv
 clear hmx
 cases hs : qCC m
 ·go_enter Tryz.func141, Tryz.ntmps141
  go_wp2_with (first | (go_at_call 77; refine (qD7 _ _).mono ?_; rw [hs]; rintro e w' ⟨rfl, rfl⟩))
  go_ret; exact ⟨rfl, bZ⟩
 ·have hm1 := qE_ hs; cases hq : qBd m xs
  all_goals
   go_enter Tryz.func141, Tryz.ntmps141
   go_wp2_with (first | (go_at_call 77; refine (qD7 _ _).mono ?_; rw [hs]; rintro e w' ⟨rfl, rfl⟩))
   refine (qHR 188 _ (fun x => inB x 0 (m - 1)) _ xs _ (hv.below bZ (nl _)) qQc (fun x hx w1 hb => qMv m x _ _ Oo Oo (qA0 hb (nl _) (by simp)))).mono ?_; rw [show xs.all (fun x => inB x 0 (m - 1)) = qBd m xs from rfl, hq]; rintro e w2 ⟨rfl, hb2⟩; have hbz := hb2.size; simp at hbz; go_wp2; go_ret; exact ⟨rfl, (bY1 hb2)⟩

theorem qIU (p m : Int) (v : Value) (xs : Li) (least : Int) (w : World) (hv : RdI w v xs) :
  Calls Tryz.prog 70 #[.int .i64 p, .int .i64 m, v, .int .i64 least] w fun e w' => e = .returned (.int .i64 (qBk p m xs least)) ∧ Below w.heap.size w w' := by
 obtain ⟨o, c, rfl, hmx, -⟩ := id hv
 have hml := hmx.1
 unfold maxLen at hml
 clear hmx
 unfold qBk
 cases hs : qCC m
 ·go_enter Tryz.func70, Tryz.ntmps70
  go_wp2_with (go_at_call 77; refine (qD7 _ _).mono ?_; rw [hs]; rintro e w' ⟨rfl, rfl⟩)
  go_ret; exact ⟨rfl, bZ⟩
 ·have hm1 := qE_ hs; cases hp : qBK p
  ·have hR : tyB p m xs least = false := by simp [tyB, hp]
   rw [hR]
   go_enter Tryz.func70, Tryz.ntmps70
   go_wp2_with (first | (go_at_call 77; refine (qD7 _ _).mono ?_; rw [hs]; rintro e w' ⟨rfl, rfl⟩) | (go_at_call 123; refine (qFW _ _).mono ?_; rw [hp]; rintro e w' ⟨rfl, rfl⟩))
   go_ret; exact ⟨rfl, bZ⟩
  ·by_cases h1 : (xs.length : Int) < least
   ·have hR : tyB p m xs least = false := by simp [tyB, h1]
    rw [hR]
    go_enter Tryz.func70, Tryz.ntmps70
    go_wp2_with (first | (go_at_call 77; refine (qD7 _ _).mono ?_; rw [hs]; rintro e w' ⟨rfl, rfl⟩) | (go_at_call 123; refine (qFW _ _).mono ?_; rw [hp]; rintro e w' ⟨rfl, rfl⟩))
    go_ret; exact ⟨rfl, bZ⟩
   ·by_cases h2 : (3 : Int) < (xs.length : Int)
    ·have hR : tyB p m xs least = false := by simp [tyB]; omega
     rw [hR]; clear hR
     go_enter Tryz.func70, Tryz.ntmps70
     go_wp2_with (first | (go_at_call 77; refine (qD7 _ _).mono ?_; rw [hs]; rintro e w' ⟨rfl, rfl⟩) | (go_at_call 123; refine (qFW _ _).mono ?_; rw [hp]; rintro e w' ⟨rfl, rfl⟩))
     go_ret; exact ⟨rfl, bZ⟩
    ·have hR : tyB p m xs least = qBd m xs := by simp [tyB, hp]; omega
     rw [hR]; clear hR; cases hn : qBd m xs
     all_goals
      go_enter Tryz.func70, Tryz.ntmps70
      go_wp2_with (first | (go_at_call 77; refine (qD7 _ _).mono ?_; rw [hs]; rintro e w' ⟨rfl, rfl⟩) | (go_at_call 123; refine (qFW _ _).mono ?_; rw [hp]; rintro e w' ⟨rfl, rfl⟩))
      refine (qQd m _ xs _ hv).mono ?_; rw [hs, hn]; rintro e w1 ⟨rfl, hb⟩; go_wp2; go_ret; exact ⟨rfl, hb⟩
theorem qME (p m : Int) (v : Value) (xs : Li) (least : Int) (w : World) (hv : RdI w v xs) :
  Calls Tryz.prog 136 #[.int .i64 p, .int .i64 m, v, .int .i64 least] w fun e w' => e = .returned (.int .i64 (qBk p m xs least)) ∧ Below w.heap.size w w' := by
 obtain ⟨o, c, rfl, hmx, -⟩ := id hv
 have hml := hmx.1
 unfold maxLen at hml
 clear hmx
 unfold qBk
 cases hs : qCC m
 ·go_enter Tryz.func136, Tryz.ntmps136
  go_wp2_with (go_at_call 75; refine (qDA _ _).mono ?_; rw [hs]; rintro e w' ⟨rfl, rfl⟩)
  go_ret; exact ⟨rfl, bZ⟩
 ·have hm1 := qE_ hs; cases hp : qBK p
  ·have hR : tyB p m xs least = false := by simp [tyB, hp]
   rw [hR]
   go_enter Tryz.func136, Tryz.ntmps136
   go_wp2_with (first | (go_at_call 75; refine (qDA _ _).mono ?_; rw [hs]; rintro e w' ⟨rfl, rfl⟩) | (go_at_call 103; refine (qDx _ _).mono ?_; rw [hp]; rintro e w' ⟨rfl, rfl⟩))
   go_ret; exact ⟨rfl, bZ⟩
  ·cases hn : qBd m xs
   ·have hR : tyB p m xs least = false := by simp [tyB, hn]
    rw [hR]
    go_enter Tryz.func136, Tryz.ntmps136
    go_wp2_with (first | (go_at_call 75; refine (qDA _ _).mono ?_; rw [hs]; rintro e w' ⟨rfl, rfl⟩) | (go_at_call 103; refine (qDx _ _).mono ?_; rw [hp]; rintro e w' ⟨rfl, rfl⟩) | (go_at_call 76; refine (qDm m _ xs _ hv Oo Oo).mono ?_; rw [hn]; rintro e w' ⟨rfl, rfl⟩))
    go_ret; exact ⟨rfl, bZ⟩
   ·by_cases h1 : (xs.length : Int) < least
    ·have hR : tyB p m xs least = false := by simp [tyB, h1]
     rw [hR]
     go_enter Tryz.func136, Tryz.ntmps136
     go_wp2_with (first | (go_at_call 75; refine (qDA _ _).mono ?_; rw [hs]; rintro e w' ⟨rfl, rfl⟩) | (go_at_call 103; refine (qDx _ _).mono ?_; rw [hp]; rintro e w' ⟨rfl, rfl⟩) | (go_at_call 76; refine (qDm m _ xs _ hv Oo Oo).mono ?_; rw [hn]; rintro e w' ⟨rfl, rfl⟩))
     go_ret; exact ⟨rfl, bZ⟩
    ·by_cases h2 : (3 : Int) < (xs.length : Int)
     ·have hR : tyB p m xs least = false := by simp [tyB]; omega
      rw [hR]; clear hR
      go_enter Tryz.func136, Tryz.ntmps136
      go_wp2_with (first | (go_at_call 75; refine (qDA _ _).mono ?_; rw [hs]; rintro e w' ⟨rfl, rfl⟩) | (go_at_call 103; refine (qDx _ _).mono ?_; rw [hp]; rintro e w' ⟨rfl, rfl⟩) | (go_at_call 76; refine (qDm m _ xs _ hv Oo Oo).mono ?_; rw [hn]; rintro e w' ⟨rfl, rfl⟩))
      go_ret; exact ⟨rfl, bZ⟩
     ·have hR : tyB p m xs least = true := by simp [tyB, hp, hn]; omega
      rw [hR]; clear hR
      go_enter Tryz.func136, Tryz.ntmps136
      go_wp2_with (first | (go_at_call 75; refine (qDA _ _).mono ?_; rw [hs]; rintro e w' ⟨rfl, rfl⟩) | (go_at_call 103; refine (qDx _ _).mono ?_; rw [hp]; rintro e w' ⟨rfl, rfl⟩) | (go_at_call 76; refine (qDm m _ xs _ hv Oo Oo).mono ?_; rw [hn]; rintro e w' ⟨rfl, rfl⟩))
      go_ret; exact ⟨rfl, bZ⟩
end
section

def qCT (p m n : Int) (ls : Li) : Int := if qBk p m ls 0 = 0 then (if inB n 1 10 = true then 0 else 2) else qBk p m ls 0
def qA7 (p : Nat) (m : Int) (n : Nat) (ls : Li) : Tb := tri (n + 1) (fun i j => tyF p (qA4 p n) (tyl p (qA4 p n) (at0 (ls ++ List.replicate (3 - ls.length) (0 : Int)))) (n - 1) i j % m)
def typR (p m n : Int) (ls : Li) : PR := if qCT p m n ls = 0 then ⟨m, qA7 p.toNat m n.toNat ls, 0⟩ else ⟨0, [], qCT p m n ls⟩
theorem typC_0 {p m n : Int} {ls : Li} (h : qCT p m n ls = 0) : qBk p m ls 0 = 0 ∧ inB n 1 10 = true := by
 unfold qCT at h
 split at h
 ·rename_i h0
  refine ⟨h0, ?_⟩
  split at h
  ·assumption
  ·omega
 ·rename_i h0
  exact absurd h h0
theorem qLx {p m least : Int} {ls : Li} (h : qBk p m ls least = 0) : 2 ≤ m ∧ m ≤ 10000 ∧ qBK p = true ∧ least ≤ (ls.length : Int) ∧ ls.length ≤ 3 ∧ ∀ x ∈ ls, 0 ≤ x ∧ x < m := by
 unfold qBk at h
 split at h
 ·rename_i hm
  split at h
  ·rename_i ht
   unfold tyB at ht; simp only [Bool.and_eq_true, Bool.not_eq_true', decide_eq_false_iff_not] at ht; obtain ⟨⟨⟨h1, h2⟩, h3⟩, h4⟩ := ht; have hm1 := qE_ hm; refine ⟨hm1.1, hm1.2, h1, Oo, Oo, fun x hx => ?_⟩; have := qER (List.all_eq_true.1 h4 x hx); omega
  ·omega
 ·omega

theorem qNm (p m n : Int) (v : Value) (ls : Li) (w : World) (hv : RdI w v ls) (hg : qCT p m n ls ≠ 0) :
  Calls Tryz.prog 34 #[.int .i64 p, .int .i64 m, .int .i64 n, v] w fun e w' => qE4 w w' ⟨0, [], qCT p m n ls⟩ e := by
 have R0 := RB2.mk1 w (.int .i64 0) (.slice none 0 0) 26
 have B0 : Below w.heap.size w (w.alloc (.cells #[.int .i64 0, .slice none 0 0] 26)) := bZ
 have hv0 := hv.below B0
 obtain ⟨o, c, rfl, -, -⟩ := id hv
 by_cases h0 : qBk p m ls 0 = 0
 ·have hn : inB n 1 10 = false := by
   cases hb : inB n 1 10
   ·rfl
   ·exact absurd (by unfold qCT; rw [if_pos h0, if_pos hb]) hg
  have hT : qCT p m n ls = 2 := by unfold qCT; rw [if_pos h0, hn]; rfl
  rw [hT]; have H0 := dd h0; have HN := dd hn; clear h0 hn hg hT
  go_enter Tryz.func34, Tryz.ntmps34
  go_wp2_with fail
  generalize w.alloc (.cells #[.int .i64 0, .slice none 0 0] 26) = w0 at R0 B0 hv0 ⊢; refine (qIU p m _ ls 0 _ hv0).mono ?_; rintro e w1 ⟨rfl, hb1⟩; rw [H0.out]; have R1 := R0.below hb1; have B1 := B0.trans (hb1.mono B0.size); clear R0 B0 hv0 hb1; obtain ⟨⟨r0, r1⟩, rf⟩ := id R1
  go_wp2_with fail
  refine (qEl n 1 10 _).mono ?_; rintro e w2 ⟨rfl, rfl⟩; rw [HN.out]; go_wp2; exact bodyPost_ret (v := .tuple #[.agg #[.int .i64 0, .slice none 0 0], .int .i64 2]) (by simp [results, Tryz.results34, go_sem, r0, r1]) rfl ⟨_, rfl, OwS.nil _ _, (bY1 B1), by simp [qBu, qBW]⟩
 ·have hT : qCT p m n ls = qBk p m ls 0 := by unfold qCT; rw [if_neg h0]
  rw [hT]; clear hg hT; obtain ⟨C, hC⟩ : ∃ C, C = qBk p m ls 0 := ⟨_, rfl⟩; rw [← hC] at h0 ⊢; have HC := dd hC; clear hC; have hn : (C == 0) = false := by simpa using h0
  have hn' : (C != 0) = true := by simpa using h0
  go_enter Tryz.func34, Tryz.ntmps34
  go_wp2_with fail
  generalize w.alloc (.cells #[.int .i64 0, .slice none 0 0] 26) = w0 at R0 B0 hv0 ⊢; refine (qIU p m _ ls 0 _ hv0).mono ?_; rintro e w1 ⟨rfl, hb1⟩; rw [← HC.out]; have R1 := R0.below hb1; have B1 := B0.trans (hb1.mono B0.size); clear R0 B0 hv0 hb1; obtain ⟨⟨r0, r1⟩, rf⟩ := id R1; go_wp2; exact bodyPost_ret (v := .tuple #[.agg #[.int .i64 0, .slice none 0 0], .int .i64 C]) (by simp [results, Tryz.results34, go_sem, r0, r1]) rfl ⟨_, rfl, OwS.nil _ _, (bY1 B1), by simp [qBu, qBW]⟩
end
section

theorem qQW (p n : Nat) (m : Int) (v : Value) (ls : Li) (w : World) (hv : RdI w v ls) (hp : P4 p) (n1 : 1 ≤ n) (hn : n ≤ 10) (hm : 2 ≤ m) (hm' : m ≤ 10000) (hl : ls.length ≤ 3) (hx : ∀ x ∈ ls, 0 ≤ x ∧ x ≤ 10000) (hC : qBk p m ls 0 = 0) (hN : inB n 1 10 = true) :
  Calls Tryz.prog 34 #[.int .i64 p, .int .i64 m, .int .i64 n, v] w fun e w' => qE4 w w' ⟨m, tri (n + 1) (fun i j => atT (qCB (m * ((p ^ (n - 1) : Nat) : Int)) (n + 1) (mk (n + 1) (fun i => qB3 p (at0 (ls ++ List.replicate (3 - ls.length) (0 : Int))) (qA4 p n + 1) i % (m * ((p ^ (n - 1) : Nat) : Int))))) i j / ((p ^ (i + j - 1) : Nat) : Int) % m), 0⟩ e := by
 have R0 := RB2.mk1 w (.int .i64 0) (.slice none 0 0) 26
 have B0 : Below w.heap.size w (w.alloc (.cells #[.int .i64 0, .slice none 0 0] 26)) := bZ
 have hv0 := hv.below B0
 obtain ⟨o, c, rfl, -, -⟩ := id hv
 have hp2 := hp.pos
 have H0 := dd hC
 have HN := dd hN
 clear hC hN
 go_enter Tryz.func34, Tryz.ntmps34
 go_wp2_with fail
 generalize w.alloc (.cells #[.int .i64 0, .slice none 0 0] 26) = w0 at R0 B0 hv0 ⊢
 refine (qIU p m _ ls 0 _ hv0).mono ?_
 rintro e w1 ⟨rfl, hb1⟩
 rw [H0.out]
 have R1 := R0.below hb1
 have B1 := B0.trans (hb1.mono B0.size)
 have hv1 := hv0.below hb1
 clear R0 B0 hv0 hb1
 have B1s := B1.size
 have hR1s := R1.1.lt
 go_wp2_with fail
 refine (qEl n 1 10 _).mono ?_
 rintro e w2 ⟨rfl, rfl⟩
 rw [HN.out]
 have hpw := (hp.pow9 (show n - 1 ≤ 10 by omega))
 have hp9 : p ^ (n - 1) ≤ 40353607 := Nat.le_trans (Nat.pow_le_pow_left hp2.2 _) (Nat.pow_le_pow_right Oo (show n - 1 ≤ 9 by omega))
 have hWm : m * ((p ^ (n - 1) : Nat) : Int) ≤ 10000 * 40353607 := Int.mul_le_mul Oo Oo Oo Oo
 go_wp2_with fail
 refine (qKi p n m _ ls _ hv1 hp n1 hn hm hm' hl hx _ rfl Oo).mono ?_
 rintro e w4 ⟨v4, rfl, how, hb4⟩
 obtain ⟨oy, cy, rfl⟩ := how.shapeN (n := n + 1) (qA9 _ _)
 have R4 := R1.below hb4
 have BY := B1.trans (hb4.mono B1s)
 obtain ⟨⟨r0, r1⟩, rf⟩ := id R4
 have HY := dd how
 clear how
 go_wp2
 refine bodyPost_ret (v := .tuple #[.agg #[.int .i64 m, .slice oy (n + 1) cy], .int .i64 0]) (by simp [results, Tryz.results34, go_sem, r0, r1]) rfl ⟨_, rfl, ?_, ?_, ?_⟩
 ·exact ((HY.out.low Oo _).low Oo _).mono Oo
 ·(repeat (first | exact bR _ _ | (refine bS ?_ _) | (refine bA ?_ _) | (refine bN ?_ _) | (refine bD ?_) | (refine bT ?_ BY)))
 ·exact qFO Oo _

theorem qQu (p m n : Int) (v : Value) (ls : Li) (w : World) (hv : RdI w v ls) : Calls Tryz.prog 34 #[.int .i64 p, .int .i64 m, .int .i64 n, v] w fun e w' => qE4 w w' (typR p m n ls) e := by
 by_cases hg : qCT p m n ls = 0
 ·obtain ⟨h0, hN⟩ := typC_0 hg; obtain ⟨hm, hm', a, -, hl, hx⟩ := qLx h0; have c' := qER hN; obtain ⟨N, rfl⟩ : ∃ N : Nat, n = N := ⟨n.toNat, Oo⟩; obtain ⟨P, rfl⟩ : ∃ P : Nat, p = P := ⟨p.toNat, by have := qFn a; omega⟩; have hp : P4 P := by have := qFn a; unfold P4; omega
  have hp2 := hp.pos; have hpw := (hp.pow9 (show N - 1 ≤ 10 by omega)).1; have h := qQW P N m v ls w hv hp Oo Oo hm hm' hl (fun x hx' => ⟨(hx x hx').1, by have := (hx x hx').2; omega⟩) h0 hN
  rw [qJV hp Oo Oo _ (m := m) Oo rfl (by
   have := Int.mul_le_mul hm (show (1 : Int) ≤ ((P ^ (N - 1) : Nat) : Int) by omega) Oo Oo; omega)] at h
  unfold typR; rw [if_pos hg]; exact h
 ·unfold typR; rw [if_neg hg]; exact qNm p m n v ls w hv hg
end
section
open Rg

theorem qJr (ls : Li) (k : Nat) : at0 (ls ++ List.replicate k 0) = at0 ls := by
 funext i
 by_cases h : i < ls.length
 ·exact qH_ h
 ·have e1 : at0 ls i = 0 := qCq Oo; rw [e1]
  by_cases h' : i < ls.length + k
  ·unfold at0 List.getD; rw [List.getElem?_append_right Oo, List.getElem?_replicate, if_pos Oo]; rfl
  ·have e2 : (ls ++ List.replicate k (0 : Int)).length ≤ i := by rw [List.length_append, List.length_replicate]; omega
   exact qCq e2
theorem qBD (p : Nat) (m : Int) (n : Nat) (ls : Li) : qA7 p m n ls = tri (n + 1) (fun i j => qBV p n (at0 ls) i j % m) := by
 unfold qA7 qBV
 rw [qJr]
theorem qIN (p : Nat) (m : Int) (n : Nat) (ls : Li) (k : Nat) : qA7 p m n (ls ++ List.replicate k 0) = qA7 p m n ls := by
 rw [qBD, qBD, qJr]
theorem qDz {m : Int} (hm : 0 < m) (p n : Nat) (ls : Li) : PlaT m (n + 1) (qA7 p m n ls) := by rw [qBD]; exact qB2 fun _ _ _ => qA6 hm
theorem qEt {p n : Nat} (hp : P4 p) (n1 : 1 ≤ n) (hn : n ≤ 10) {m : Int} (hm : 2 ≤ m) (ls : Li) : Lw m (n + 1) (atT (qA7 p m n ls)) := by
 refine (qH6 hp n1 hn (at0 ls) m).congr ?_ fun i j h => ?_
 ·rw [qBD, qAi Oo, qEK, Int.zero_emod]
 ·rw [qBD, qAi h, qAW]
theorem Lw.cut {m : Int} {n k : Nat} {F : Nat → Nat → Int} (L : Lw m n F) (h2 : 2 ≤ k) (hk : k ≤ n) : Lw m k F := by
 refine ⟨h2, L.zer, fun i hi => L.un i Oo, fun i j h => L.sy i j Oo, fun p q r h => ?_⟩
 have lF : lo m 1 F := qFI L
 have key : ∀ (u : Nat → Int) (a b : Nat), a + b < k → sm n (fun i => u i * (pw F i : Nat → Nat → Int) a b) % m = sm k (fun i => u i * (pw F i : Nat → Nat → Int) a b) % m := by
  intro u a b hab; rw [← qBB, ← qBB]
  have e1 : qA3 n (fun i => u i * (pw F i : Nat → Nat → Int) a b) % m = qA3 n (fun i => if i < k then u i * (pw F i : Nat → Nat → Int) a b else 0) % m := by
   refine qCI fun i hi => ?_
   by_cases hik : i < k
   ·rw [if_pos hik]
   ·rw [if_neg hik]; have z : (pw F i : Nat → Nat → Int) a b % m = 0 % m := qAJ.1 (qAo (qAu lF i)) a b Oo; rw [qAd (rfl : u i % m = _) z, Int.mul_zero]
  rw [e1, qDe (n := n) (k := k) hk fun i hi _ => by rw [if_neg Oo]]; exact congrArg (· % m) (qC8 fun i hi => by rw [if_pos hi])
 rw [← key (fun i => F i r) p q Oo, ← key (fun j => F p j) q r Oo]
 exact L.as p q r Oo
theorem qL2 {m : Int} {n k : Nat} {t : Tb} (L : Lw m n (atT t)) (h2 : 2 ≤ k) (hk : k ≤ n) : Lw m k (atT (qA_ k t)) := by
 refine (L.cut h2 hk).congr ?_ fun i j h => by rw [qEQ h]
 rw [qEQ Oo]; exact L.zer

def qAB (p : Nat) (m : Int) (t : Tb) (n : Nat) (ls : Li) : Int := qAR m (laz n) (fun i => (atT (qA7 p m n ls) i (n - i) - atT (qA_ (n + 1) t) i (n - i)) % m) (n + 1) m.toNat
def agrF (p : Nat) (m : Int) (t : Tb) (n : Nat) (ls : Li) : Prop := n ≤ agrK (qA_ (n + 1) t) (qA7 p m n ls) (n + 1)
instance (p : Nat) (m : Int) (t : Tb) (n : Nat) (ls : Li) : Decidable (agrF p m t n ls) := by unfold agrF; infer_instance
def qB5 (p : Nat) (m : Int) (t : Tb) : Nat → Option Li
 | 0 => some []
 | k + 1 => match qB5 p m t k with
   | none => none
   | some ls => if agrF p m t (p ^ (k + 1)) ls then some (ls ++ [qAB p m t (p ^ (k + 1)) ls]) else none
def qB0 (p : Nat) (m : Int) (t : Tb) : Nat → Option Li
 | 0 => some []
 | k + 1 => match qB0 p m t k with
   | none => none
   | some ls => if 0 ≤ qAB p m t (p ^ (k + 1)) ls then some (ls ++ [qAB p m t (p ^ (k + 1)) ls]) else none
theorem qKQ {p : Nat} {m : Int} {t : Tb} : ∀ {k : Nat} {ls : Li}, qB5 p m t k = some ls → ls.length = k
 | 0, ls, h => by rw [← Option.some.inj h]; rfl
 | k + 1, ls, h => by
   unfold qB5 at h; cases e : qB5 p m t k with
   | none => rw [e] at h; simp at h
   | some l =>
     rw [e] at h; simp only at h
     split at h
     ·rw [← Option.some.inj h]; simp [qKQ e]
     ·simp at h
theorem qFm {p : Nat} {m : Int} {t : Tb} : ∀ {k : Nat} {ls : Li}, qB0 p m t k = some ls → ls.length = k
 | 0, ls, h => by rw [← Option.some.inj h]; rfl
 | k + 1, ls, h => by
   unfold qB0 at h; cases e : qB0 p m t k with
   | none => rw [e] at h; simp at h
   | some l =>
     rw [e] at h; simp only at h
     split at h
     ·rw [← Option.some.inj h]; simp [qFm e]
     ·simp at h
theorem qH8 {t s : Tb} {n k : Nat} (hk : k ≤ n) (h : ∀ d, d < k → qB8 t s d = true) : k ≤ agrK t s n := by
 have key : ∀ j, j ≤ n → (∀ d, d < j → qB8 t s d = true) ∨ ∃ e, e < j ∧ (∀ d, d < e → qB8 t s d = true) ∧ qB8 t s e = false := by
  intro j
  induction j with
  | zero => intro _; exact .inl fun d hd => Oo
  | succ j ih =>
    intro hj; rcases ih Oo with a | ⟨e, he, a, b⟩
    ·cases hx : qB8 t s j
     ·exact .inr ⟨j, Oo, a, hx⟩
     ·refine .inl fun d hd => ?_
      by_cases e : d = j
      ·rw [e]; exact hx
      ·exact a d Oo
    ·exact .inr ⟨e, Oo, a, b⟩
 rcases key n (nl _) with a | ⟨e, he, a, b⟩
 ·rw [qLd a]; exact hk
 ·rw [qHK he a b]; refine Nat.le_of_not_lt fun hlt => ?_
  rw [h e hlt] at b; simp at b
section run
variable {p D : Nat} {m : Int} {t : Tb}
theorem qGf (hp : P4 p) (hm : 2 ≤ m) (hD : D ≤ 10) (L : Lw m (D + 1) (atT t)) {n : Nat} (h2 : 2 ≤ n) (hn : n ≤ D) {ls : Li} (h : agrF p m t n ls) : 0 ≤ qAB p m t n ls :=
 qJC hm h2 Oo (qL2 L Oo Oo) (qEt hp Oo Oo hm ls) (qLF h)
theorem qJm (hp : P4 p) (hm : 2 ≤ m) (hD : D ≤ 10) (L : Lw m (D + 1) (atT t)) : ∀ {k : Nat}, p ^ k ≤ D → ∀ {ls : Li}, qB5 p m t k = some ls → qB0 p m t k = some ls
 | 0, _, ls, h => h
 | k + 1, hk, ls, h => by
   have hp2 := hp.pos; have h1 : p ^ k ≤ p ^ (k + 1) := Nat.pow_le_pow_right Oo Oo; have h2 := qCG hp2.1 (k + 1); unfold qB5 at h; cases e : qB5 p m t k with
   | none => rw [e] at h; simp at h
   | some l =>
     rw [e] at h; simp only at h; unfold qB0; rw [qJm hp hm hD L Oo e]; simp only
     by_cases ha : agrF p m t (p ^ (k + 1)) l
     ·rw [if_pos ha] at h; rw [if_pos (qGf hp hm hD L Oo hk ha)]; exact h
     ·rw [if_neg ha] at h; simp at h
theorem agr_of (hp : P4 p) (hm : 2 ≤ m) (hD1 : 1 ≤ D) (hD : D ≤ 10) {ls ms : Li} (ht : qA7 p m D ms = t) {k : Nat} (hk : p ^ (k + 1) ≤ D) (hl : ls.length = k) (hpre : ∀ i, i < k → at0 ls i = at0 ms i) : agrF p m t (p ^ (k + 1)) ls := by
 have hp2 := hp.pos
 have hg := qCG hp2.1 (k + 1)
 have e := qDh (n := p ^ (k + 1)) (n' := D) (r := k) (k := p ^ (k + 1)) hp Oo Oo hD1 hD hpre Oo Oo (nl _)
 refine qH8 Oo fun d hd => qFN fun i hi => ?_
 rw [qEQ Oo, ← ht, qBD, qBD, qAi Oo, qAi Oo, e i (d - i) Oo]
theorem qQl (ls : Li) {k i : Nat} (h : i < k) : at0 (ls.take k) i = at0 ls i := by
 unfold at0 List.getD
 rw [List.getElem?_take, if_pos h]
theorem parS_L (hp : P4 p) (hm : 2 ≤ m) (hD1 : 1 ≤ D) (hD : D ≤ 10) (L : Lw m (D + 1) (atT t)) {K : Nat} (hK : p ^ K ≤ D) {ms : Li} (hms : qB0 p m t K = some ms) (ht : qA7 p m D ms = t) :
  ∀ {j k : Nat}, k + j = K → ∃ ls, qB0 p m t k = some ls ∧ ls = ms.take k ∧ qB5 p m t k = some ls := by
 have hp2 := hp.pos
 have pre : ∀ j k, k + j = K → ∃ ls, qB0 p m t k = some ls ∧ ls = ms.take k := by
  intro j
  induction j with
  | zero =>
    intro k hk; obtain rfl : k = K := Oo; exact ⟨ms, hms, by rw [List.take_of_length_le (by rw [qFm hms]; omega)]⟩
  | succ j ih =>
    intro k hk; obtain ⟨l, hl, hle⟩ := ih (k + 1) Oo; unfold qB0 at hl; cases e : qB0 p m t k with
    | none => rw [e] at hl; simp at hl
    | some l' =>
      rw [e] at hl; simp only at hl
      split at hl
      ·refine ⟨l', rfl, ?_⟩; have h1 := Option.some.inj hl; have h2 := qFm e; have : (ms.take (k + 1)).take k = ms.take k := by rw [List.take_take, Nat.min_eq_left Oo]
       rw [← this, ← hle, ← h1, List.take_left' h2]
      ·simp at hl
 have key : ∀ k, k ≤ K → qB5 p m t k = some (ms.take k) := by
  intro k
  induction k with
  | zero => intro _; rfl
  | succ k ih =>
    intro hk; have ih := ih Oo; obtain ⟨l, hl, hle⟩ := pre (K - k) k Oo; obtain ⟨l1, hl1, hle1⟩ := pre (K - (k + 1)) (k + 1) Oo; have hkD : p ^ (k + 1) ≤ D := Nat.le_trans (Nat.pow_le_pow_right Oo hk) hK; have hlen : (ms.take k).length = k := by rw [← hle]; exact qFm hl
    have ha := agr_of (ls := ms.take k) hp hm hD1 hD ht hkD hlen (fun i hi => qQl ms hi); unfold qB5; rw [ih]; simp only; rw [if_pos ha]; unfold qB0 at hl1; rw [hl, hle] at hl1; simp only at hl1
    split at hl1
    ·rw [hl1, hle1]
    ·simp at hl1
 intro j k hjk
 obtain ⟨l, hl, hle⟩ := pre j k hjk
 exact ⟨l, hl, hle, by rw [key k Oo, hle]⟩
def qBr (p : Nat) (m : Int) (t : Tb) (D : Nat) : Option Li := match qB5 p m t (qA4 p D) with
 | none => none
 | some ls => if qA7 p m D ls = t then some ls else none
def qCv (p : Nat) (m : Int) (t : Tb) (D : Nat) : Option Li := match qB0 p m t (qA4 p D) with
 | none => none
 | some ls => if qA7 p m D ls = t then some ls else none
theorem par_eq (hp : P4 p) (hm : 2 ≤ m) (hD1 : 1 ≤ D) (hD : D ≤ 10) (L : Lw m (D + 1) (atT t)) : qCv p m t D = qBr p m t D := by
 have hk : p ^ qA4 p D ≤ D := by
  by_cases h0 : qA4 p D = 0
  ·rw [h0, Nat.pow_zero]; exact hD1
  ·have h := (qBq hp hD (show qA4 p D - 1 ≤ qA4 p D by omega)).2.2.1.2 Oo
   rwa [show qA4 p D - 1 + 1 = qA4 p D by omega] at h
 unfold qCv qBr
 cases e : qB5 p m t (qA4 p D) with
 | some ls => rw [qJm hp hm hD L hk e]
 | none =>
   cases e' : qB0 p m t (qA4 p D) with
   | none => rfl
   | some ms =>
     simp only
     by_cases ht : qA7 p m D ms = t
     ·obtain ⟨l, _, _, hl⟩ := parS_L hp hm hD1 hD L hk e' ht (j := 0) (k := qA4 p D) Oo; rw [e] at hl; simp at hl
     ·rw [if_neg ht]
theorem qQ7 (hp : P4 p) (hm : 2 ≤ m) (hD : D ≤ 10) (L : Lw m (D + 1) (atT t)) {n : Nat} (h2 : 2 ≤ n) (hn : n ≤ D) {ls : Li} (h : agrF p m t n ls) :
  (-(qBZ m (laz n) (fun i => (atT (qA_ (n + 1) t) i (n - i) - atT (qA7 p m n ls) i (n - i)) % m) (n + 1))) % m = qAB p m t n ls := by
 have LF := qL2 (k := n + 1) L Oo Oo
 have LG := qEt hp (n := n) Oo Oo hm ls
 have h1 := qJC hm h2 Oo LG LF (fun i j hij => (qLF h i j hij).symm)
 have h0 := qGf hp hm hD L h2 hn h
 rw [qJh h1]
 have key : ∀ (d : Nat → Int), 0 ≤ qAR m (laz n) d (n + 1) m.toNat → qAR m (laz n) d (n + 1) m.toNat < m ∧ ∀ i, i < n + 1 → d i % m = qAR m (laz n) d (n + 1) m.toNat * laz n i % m := by
  intro d hd; rcases qEL m (laz n) d (n + 1) m.toNat with e | ⟨k, hk, e, hf⟩
  ·omega
  ·rw [e]; refine ⟨Oo, fun i hi => ?_⟩; rw [qHH hf i hi]; exact qAd rfl (qAW _ _)
 have k1 := key _ h1
 have k0 := key _ h0
 unfold qAB at h0 ⊢
 obtain ⟨x, hx⟩ : ∃ x, x = qAR m (laz n) (fun i => (atT (qA_ (n + 1) t) i (n - i) - atT (qA7 p m n ls) i (n - i)) % m) (n + 1) m.toNat := ⟨_, rfl⟩
 obtain ⟨y, hy⟩ : ∃ y, y = qAR m (laz n) (fun i => (atT (qA7 p m n ls) i (n - i) - atT (qA_ (n + 1) t) i (n - i)) % m) (n + 1) m.toNat := ⟨_, rfl⟩
 rw [← hx] at k1 ⊢
 unfold qAB at k0
 rw [← hy] at k0 h0 ⊢
 have e := qKD h2 Oo (m := m) (x := -x) (y := y) fun i hi => by
  have a := k1.2 i hi; have b := k0.2 i hi; simp only [qAW] at a b; rw [← b, Int.neg_mul]; have c := qEs (rfl : (0 : Int) % m = 0 % m) a.symm; rw [Int.zero_sub, Int.zero_sub] at c; rw [c]
  congr 1; omega
 rw [e, Int.emod_eq_of_lt h0 k0.1]
end run
end
section
open Rg

theorem lam_p {p r : Nat} (hp : P4 p) (h : p ^ (r + 1) ≤ 10) : lam (p ^ (r + 1)) = p ∧ r ≤ 2 := by
 have hp2 := hp.pos
 have hg := qCG hp2.1 (r + 1)
 have hr : r ≤ 2 := by
  refine Nat.le_of_not_lt fun hlt => ?_
  have h1 := Nat.pow_le_pow_left hp2.1 (r + 1); have h2 := Nat.pow_le_pow_right (n := 2) Oo (show 4 ≤ r + 1 by omega); omega
 refine ⟨?_, hr⟩
 obtain rfl | rfl | rfl : r = 0 ∨ r = 1 ∨ r = 2 := Oo
 all_goals
  rcases hp with rfl | rfl | rfl | rfl
  all_goals first | rfl | (exfalso; revert h; decide)
theorem qJX {n i : Nat} (h2 : 2 ≤ n) (hn : n ≤ 10) (h1 : 1 ≤ i) (hi : i < n) : bin n i = lam n * laz n i := by
 have h : ∀ n : Fin 11, ∀ i : Fin 11, 2 ≤ n.1 → 1 ≤ i.1 → i.1 < n.1 → bin n.1 i.1 = lam n.1 * laz n.1 i.1 := by decide
 exact h ⟨n, Oo⟩ ⟨i, Oo⟩ h2 h1 hi
theorem xy_at {n i : Nat} (h2 : 1 ≤ n) (hi : i ≤ n) : (pw xP n : Nat → Nat → Int) i (n - i) = (if i = n then 1 else 0) ∧ (pw yP n : Nat → Nat → Int) i (n - i) = (if i = 0 then 1 else 0) := by
 rw [show pw xP n = onx (pw xS n) from (qES _ _).symm, show pw yP n = ony (pw xS n) from (qEZ _ _).symm, qD9]
 unfold onx ony mon
 constructor
 ·by_cases h : i = n
  ·rw [if_pos h, if_pos Oo]
  ·rw [if_neg h, if_neg Oo]
 ·by_cases h : i = 0
  ·rw [if_pos h, if_pos Oo, if_pos h]
  ·rw [if_neg h, if_neg h]
theorem qNl {p r : Nat} {v v' : Nat → Int} {c : Int} (h : ∀ i, i < r → v i = v' i) (hr : v' r = v r + c) : num p v' (r + 1) = num p v (r + 1) + (p : Int) ^ r * c := by
 rw [qDw, qDw, qGu, qGu]
 have e : qA3 r (fun i => (p : Int) ^ (r - (i + 1)) * num p v' (i + 1) * v' (r - (i + 1)) ^ (p ^ (i + 1))) = qA3 r (fun i => (p : Int) ^ (r - (i + 1)) * num p v (i + 1) * v (r - (i + 1)) ^ (p ^ (i + 1))) :=
  qC8 fun i hi => by rw [qHL (i + 1) (fun j hj => (h j Oo).symm), h (r - (i + 1)) Oo]
 rw [e]
 simp only [Nat.sub_zero, qCu, Int.mul_one, Nat.pow_zero, qDt]
 rw [hr, Int.mul_add]
 omega
theorem qLX {p D r : Nat} (hp : P4 p) (hD : D ≤ 10) {v v' : Nat → Int} {c : Int} (h : ∀ i, i < r → v i = v' i) (hr : v' r = v r + c) (hn : p ^ (r + 1) ≤ D) :
  ∀ i, i ≤ p ^ (r + 1) → qBV p D v' i (p ^ (r + 1) - i) = qBV p D v i (p ^ (r + 1) - i) - c * laz (p ^ (r + 1)) i := by
 have hp2 := hp.pos
 have hg := qCG hp2.1 (r + 1)
 obtain ⟨hlam, hr2⟩ := lam_p hp (show p ^ (r + 1) ≤ 10 by omega)
 have hlt : p ^ (r + 1) + 1 ≤ p ^ (r + 2) := Nat.pow_lt_pow_right Oo Oo
 obtain ⟨n, hnE⟩ : ∃ n, n = p ^ (r + 1) := ⟨_, rfl⟩
 have agr := qDh (n := D) (n' := D) (r := r) (k := n) hp Oo hD Oo hD (v := v') (v' := v) (fun i hi => (h i hi).symm) Oo Oo Oo
 obtain ⟨F, hF⟩ : ∃ F, F = qBV p D v := ⟨_, rfl⟩
 obtain ⟨F', hF'⟩ : ∃ F', F' = qBV p D v' := ⟨_, rfl⟩
 have l0F : lo 0 1 F := by rw [hF]; exact qDB (qEK p D v)
 have l0F' : lo 0 1 F' := by rw [hF']; exact qDB (qEK p D v')
 have LF' : Lw 0 (D + 1) F' := by rw [hF']; exact qH6 hp Oo hD v' 0
 have A := qBe (qG2 hp (show 1 ≤ D by omega) hD v) (show n + 1 ≤ D + 1 by omega)
 have A' := qBe (qG2 hp (show 1 ≤ D by omega) hD v') (show n + 1 ≤ D + 1 by omega)
 rw [← hF] at A agr ⊢
 rw [← hF'] at A' agr ⊢
 have key : ∀ X : Nat → Nat → Int, lo 0 1 X → eqv 0 (n + 1) (LQ p (tyl p 3 v') (3 + 1) X) (ad (LQ p (tyl p 3 v) (3 + 1) X) (ml (ic ((p : Int) ^ 2 * c)) (pw X n))) := by
  intro X hX
  have e : ad (LQ p (tyl p 3 v) (3 + 1) X) (ml (ic ((p : Int) ^ 2 * c)) (pw X n)) = sm (3 + 1) (fun k => ad (ml (ic (tyl p 3 v k)) (pw X (p ^ k))) (if k = r + 1 then ml (ic ((p : Int) ^ 2 * c)) (pw X n) else zz)) := by
   rw [qDO, qHb Oo]; rfl
  rw [e]; refine qAm fun k hk => ?_
  by_cases h1 : k = r + 1
  ·subst h1; rw [if_pos rfl, hnE, ← qEv, ← ic_ad]; refine qAf ?_
   congr 2
   unfold tyl; rw [qNl h hr, Int.mul_add, ← Int.mul_assoc, ← Int.pow_add, show 3 - (r + 1) + r = 2 by omega]
  ·rw [if_neg h1, ad_zz]
   by_cases h3 : k < r + 1
   ·refine qAf ?_; unfold tyl; rw [qHL k (fun i hi => h i Oo)]
   ·have hl : lo 0 (n + 1) (pw X (p ^ k)) := lo_le (qAu hX _) (Nat.le_trans Oo (Nat.pow_le_pow_right (show 0 < p by omega) (show r + 2 ≤ k by omega))); exact qA2 (qAo (qBC _ hl)) (qAQ (qAo (qBC _ hl)))
 have he : lo 0 ((n - 1) + 1) (ad F' (ng F)) := by
  rw [show n - 1 + 1 = n by omega]; exact qAJ.2 fun i j hij => by rw [agr i j hij]
 have eF : F' = ad F (ad F' (ng F)) := by rw [show ad F (ad F' (ng F)) = ad (ad F (ng F)) F' by ac_rfl, qEN, qBR]
 have late := qLb hp2.1 (tyl p 3 v) 3 l0F he
 rw [← eF, show n - 1 + 2 = n + 1 by omega] at late
 have px : eqv 0 (n + 1) (pw F' n) (pw (ad xP yP) n) := qGR l0F' (qFx 0) (qFM LF') n
 -- both sides
 have e1 := qA2 (qAQ (key F' l0F')) (qA2 A' (qAM (key xP (qCP 0)) (key yP (qCW 0))))
 have e2 := qA2 (qAQ (qAM (qA2 late (qAM A qAY)) (qBh (ic ((p : Int) ^ 2 * c)) px))) e1
 intro i hi
 rw [← hnE] at hi ⊢
 have e3 := qAJ.1 e2 i (n - i) Oo
 rw [Int.emod_zero, Int.emod_zero] at e3
 have hx := xy_at (show 1 ≤ n by omega) hi
 have hb : (pw (ad xP yP) n : Nat → Nat → Int) i (n - i) = bin n i := by
  have := qIJ i (n - i)
  rwa [show i + (n - i) = n by omega] at this
 have d1 : ∀ (X Y : Nat → Nat → Int), (ad X Y : Nat → Nat → Int) i (n - i) = X i (n - i) + Y i (n - i) := fun X Y => rfl
 simp only [d1, qC_, hx.1, hx.2, hb, tyl_0] at e3
 have hng : (ng F : Nat → Nat → Int) i (n - i) = - F i (n - i) := by
  rw [qE7, qE7]
  show (-1) * F i (n - i) = _
  omega
 rw [hng] at e3
 have hpi : (2 : Int) ≤ (p : Int) := Oo
 have p3 : (p : Int) ^ 3 = (p : Int) ^ 2 * p := Int.pow_succ ..
 have p2 : (0 : Int) < (p : Int) ^ 2 := Int.pow_pos Oo
 rw [p3] at e3
 generalize (p : Int) ^ 2 = q at e3 p2
 generalize LQ p (tyl p 3 v) (3 + 1) xP i (n - i) = A1 at e3
 generalize LQ p (tyl p 3 v) (3 + 1) yP i (n - i) = A2 at e3
 have e4 : q * ((p : Int) * (F' i (n - i) + - F i (n - i)) + c * bin n i) = q * (c * (if i = n then 1 else 0) + c * (if i = 0 then 1 else 0)) := by
  generalize F' i (n - i) + - F i (n - i) = d at e3 ⊢; generalize (if i = n then (1 : Int) else 0) = ix at e3 ⊢; generalize (if i = 0 then (1 : Int) else 0) = iy at e3 ⊢; generalize bin n i = bb at e3 ⊢; rw [Int.mul_add, Int.mul_add, ← Int.mul_assoc q (p : Int) d, ← Int.mul_assoc q c bb, ← Int.mul_assoc q c ix, ← Int.mul_assoc q c iy]; omega
 have e5 := Int.eq_of_mul_eq_mul_left Oo e4
 have hpz : (p : Int) ≠ 0 := Oo
 by_cases hm : 1 ≤ i ∧ i < n
 ·rw [if_neg Oo, if_neg Oo, qJX Oo Oo hm.1 hm.2, show lam n = (p : Int) by rw [hnE]; exact hlam] at e5
  have e6 : (p : Int) * (F' i (n - i) + - F i (n - i)) = (p : Int) * (-(c * laz n i)) := by
   rw [Int.mul_neg, show (p : Int) * (c * laz n i) = c * ((p : Int) * laz n i) by rw [← Int.mul_assoc, Int.mul_comm (p : Int) c, Int.mul_assoc]]; omega
  have e7 := Int.eq_of_mul_eq_mul_left hpz e6; omega
 ·have hz : laz n i = 0 := by unfold laz; rw [if_neg hm]
  have hbi : bin n i = 1 := by
   obtain rfl | rfl : i = 0 ∨ i = n := Oo
   ·exact qEF n
   ·exact qF8 i
  have hs : (if i = n then (1 : Int) else 0) + (if i = 0 then 1 else 0) = 1 := by
   obtain h0 | h0 : i = 0 ∨ i = n := Oo
   ·rw [if_neg Oo, if_pos h0]; rfl
   ·rw [if_pos h0, if_neg Oo]; rfl
  rw [hbi, ← Int.mul_add, hs] at e5; have e6 : (p : Int) * (F' i (n - i) + - F i (n - i)) = (p : Int) * 0 := Oo; have e7 := Int.eq_of_mul_eq_mul_left hpz e6; rw [hz]; omega
end
end Go.Proofs.YtfpphfjlpgefaaaGreat
