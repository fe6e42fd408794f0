/- Lemmas. -/
import Derived.Test.YtfpphfjlpgefaaaGreatqG2
import Derived.Test.YtfpphfjlpgefaaaGreatqG1
import Derived.Deep.RegionHeld3
import Derived.Deep.DeepCutAuto
set_option maxHeartbeats 1000000
set_option maxRecDepth 100000
set_option linter.unusedSimpArgs false
set_option linter.unusedVariables false
namespace Go.Proofs.YtfpphfjlpgefaaaGreat
open Go.RowKit
section

def qBd (m : Int) (xs : Li) : Bool := xs.all (fun x => inB x 0 (m - 1))
def qB_ (m : Int) (xs : Li) : Bool := qCC m && inB ((xs.length : Int) - 1) 1 10 && qBd m xs
theorem ser_n {m : Int} {xs : Li} (h : qB_ m xs = true) : 2 ≤ xs.length ∧ xs.length ≤ 11 := by simp [qB_] at h; have := qER h.1.2; omega
theorem qK6 {m : Int} {xs : Li} (h : qBd m xs = true) : ∀ x ∈ xs, 0 ≤ x ∧ x < m := by
 intro x hx
 have := qER (List.all_eq_true.1 h x hx)
 omega
theorem qGH {m : Int} {xs : Li} (h : qB_ m xs = true) : ∀ x ∈ xs, 0 ≤ x ∧ x < m := by
 simp only [qB_, Bool.and_eq_true] at h; exact qK6 h.2

def qD5 (m : Int) (xs : Li) : Bool := qB_ m xs && (at0 xs 0 == 0)
theorem qIm {m : Int} {xs : Li} (h : qD5 m xs = true) : qB_ m xs = true ∧ at0 xs 0 = 0 := by simpa [qD5] using h
theorem qCb (m : Int) (o : Option Addr) (n c : Nat) (w : World) (hn : n ≤ maxLen) :
  Calls Tryz.prog 128 #[.agg #[.int .i64 m, .slice o n c]] w fun e w' => e = .returned (.int .i64 ((n : Int) - 1)) ∧ Below w.heap.size w w' := by
 unfold maxLen at hn
 go_enter Tryz.func128, Tryz.ntmps128
 go_wp2
 go_ret
 exact ⟨rfl, bZ⟩

theorem qOo (m x : Int) (b : Nat) (w : World) (hm : -9223372036854775808 < m) (hm' : m ≤ 9223372036854775807)
  (h1 : w.cell? ⟨b, 0, none⟩ = some (.int .i64 m)) :
  Calls Tryz.prog 129 #[.int .i64 x, .pointer (some ⟨b, 0, none⟩)] w fun e w' => e = .returned (.bool (inB x 0 (m - 1))) ∧ w = w' := by
 go_enter Tryz.func129, Tryz.ntmps129
 go_wp2_with (go_at_call 81; refine (qH1 _ _ _ hm hm').mono ?_; rintro e w' ⟨rfl, rfl⟩)
 go_ret
 exact ⟨rfl, rfl⟩
theorem qM2 : qBf 129 := fun args w => Tryz.call129 args w

theorem qBY (m : Int) (v : Value) (xs : Li) (w : World) (hv : RdI w v xs) :
  Calls Tryz.prog 62 #[.agg #[.int .i64 m, v]] w fun e w' => e = .returned (.bool (qB_ m xs)) ∧ Below w.heap.size w w' := by
 obtain ⟨o, c, rfl, hm, -⟩ := id hv
 have hml := hm.1
 have hmx := hm.1
 unfold maxLen at hm
 cases hs : qCC m
 ·go_enter Tryz.func62, Tryz.ntmps62
  go_wp2_with (go_at_call 77; refine (qD7 _ _).mono ?_; rw [hs]; rintro e w' ⟨rfl, rfl⟩)
  go_ret; exact ⟨by simp [qB_, hs], bZ⟩
 ·have hm1 := qE_ hs; cases ht : inB ((xs.length : Int) - 1) 1 10
  all_goals
   go_enter Tryz.func62, Tryz.ntmps62
   go_wp2_with (go_at_call 77; refine (qD7 _ _).mono ?_; rw [hs]; rintro e w' ⟨rfl, rfl⟩)
   (obtain ⟨w0, hw0⟩ : ∃ W : World, W = (w.alloc (.cells #[.int .i64 m, .slice o xs.length c] 34)) := ⟨_, rfl⟩; have X0 := (RB2.mk1 w  (.int .i64 m) (.slice o xs.length c) 34).1.below (w' := w0) (bV hw0) (nl _); have B0 : Below w.heap.size w w0 := (bV hw0); have hv0 := hv.below (w' := w0) (bV hw0) (nl _); rw [← hw0]; clear hw0)
   obtain ⟨x0, x1⟩ := id X0
   go_wp2_with fail
   refine (qCb m o xs.length c _ hml).mono ?_; rintro e w1 ⟨rfl, hb⟩
   (have X1 := X0.below hb; have hv1 := hv0.below hb; have B1 := B0.trans (hb.mono B0.size))
   obtain ⟨y0, y1⟩ := id X1
   go_wp2_with (go_at_call 71; refine (qEl _ _ _ _).mono ?_; rw [ht]; rintro e w' ⟨rfl, rfl⟩)
  ·go_ret; exact ⟨by simp [qB_, ht], (bY1 B1)⟩
  ·refine (qHR 129 _ (fun x => inB x 0 (m - 1)) _ xs _ hv1 qM2 (fun x hx w1 hb => qOo m x _ _ Oo Oo (qA0 hb (nl _) y0))).mono ?_; rintro e w2 ⟨rfl, hb2⟩; have B2 := B1.trans (hb2.mono B1.size); go_wp2; go_ret; exact ⟨by simp [qB_, hs, ht, qBd], B2⟩

theorem qFL (m : Int) (v : Value) (xs : Li) (w : World) (hv : RdI w v xs) :
  Calls Tryz.prog 133 #[.agg #[.int .i64 m, v]] w fun e w' => e = .returned (.bool (qD5 m xs)) ∧ Below w.heap.size w w' := by
 obtain ⟨o, c, rfl, -, -⟩ := id hv
 cases hs : qB_ m xs
 ·go_enter Tryz.func133, Tryz.ntmps133
  go_wp2_with fail
  (obtain ⟨w0, hw0⟩ : ∃ W : World, W = (w.alloc (.cells #[.int .i64 m, .slice o xs.length c] 34)) := ⟨_, rfl⟩; have X0 := (RB2.mk1 w  (.int .i64 m) (.slice o xs.length c) 34).1.below (w' := w0) (bV hw0) (nl _); have B0 : Below w.heap.size w w0 := (bV hw0); have hv0 := hv.below (w' := w0) (bV hw0) (nl _); rw [← hw0]; clear hw0)
  refine (qBY m _ xs _ hv0).mono ?_; rw [hs]; rintro e w1 ⟨rfl, hb⟩
  (have X1 := X0.below hb; have B1 := B0.trans (hb.mono B0.size))
  go_wp2; go_ret; exact ⟨by simp [qD5, hs], B1⟩
 ·have hn := ser_n hs; have hx := qGH hs; cases hq : (at0 xs 0 == 0)
  all_goals
   go_enter Tryz.func133, Tryz.ntmps133
   go_wp2_with fail
   (obtain ⟨w0, hw0⟩ : ∃ W : World, W = (w.alloc (.cells #[.int .i64 m, .slice o xs.length c] 34)) := ⟨_, rfl⟩; have X0 := (RB2.mk1 w  (.int .i64 m) (.slice o xs.length c) 34).1.below (w' := w0) (bV hw0) (nl _); have B0 : Below w.heap.size w w0 := (bV hw0); have hv0 := hv.below (w' := w0) (bV hw0) (nl _); rw [← hw0]; clear hw0)
   refine (qBY m _ xs _ hv0).mono ?_; rw [hs]; rintro e w1 ⟨rfl, hb⟩
   (have X1 := X0.below hb; have hv1 := hv0.below hb; have B1 := B0.trans (hb.mono B0.size))
   obtain ⟨x0, x1⟩ := id X1; obtain ⟨b, off, rfl, hc⟩ := hv1.cells Oo; have hc0 := hc 0 _ (qA5 Oo); rw [Nat.add_zero] at hc0; clear hc; go_wp2; go_ret; exact ⟨by simp only [qD5, hs, hq]; rfl, B1⟩

theorem qDm (m : Int) (v : Value) (xs : Li) (w : World) (hv : RdI w v xs) (hm : -9223372036854775808 < m) (hm' : m ≤ 9223372036854775807) :
  Calls Tryz.prog 76 #[.int .i64 m, v] w fun e w' => e = .returned (.bool (qBd m xs)) ∧ w = w' := by
 obtain ⟨o, c, rfl, hmx, hc⟩ := hv
 unfold maxLen at hmx
 go_enter Tryz.func76, Tryz.ntmps76
 go_wp2_with fail
 go_loop [5] (fun i => ∃ k : Nat, k ≤ xs.length ∧ i = .int .i64 k ∧ Hid (∀ j (hj : j < xs.length), j < k → inB xs[j] 0 (m - 1) = true)) (fun i => xs.length - (intOf i).toNat)
 case atStart => exact ⟨0, Nat.zero_le _, rfl, dd (fun j hj h => Oo)⟩
 case round =>
  obtain ⟨k, hk, rfl, HQ⟩ := hrel
  by_cases hlt : k < xs.length
  ·obtain ⟨b, off, rfl, hx⟩ := hc k (xs[k]) (by simp [hlt]); cases hq : inB xs[k] 0 (m - 1)
   ·go_wp2_with (go_at_call 152; refine (qIM _ _ _ _).mono ?_; rw [hq]; rintro e w' ⟨rfl, rfl⟩)
    go_ret; exact ⟨by unfold qBd; rw [List.all_eq_false.2 ⟨xs[k], by simp, by simp [hq]⟩]; rfl, rfl⟩
   ·go_wp2_with (go_at_call 152; refine (qIM _ _ _ _).mono ?_; rw [hq]; rintro e w' ⟨rfl, rfl⟩)
    exact ⟨⟨k + 1, Oo, by go_num, dd (fun j hj h => by
     rcases Nat.lt_or_ge j k with h1 | h1
     ·exact HQ.out j hj h1
     ·obtain rfl : j = k := Oo; exact hq)⟩, by simp [intOf]; omega⟩
  ·go_wp2; go_ret; exact ⟨by unfold qBd; rw [List.all_eq_true.2 (fun x hx => by obtain ⟨j, hj, rfl⟩ := List.getElem_of_mem hx; exact HQ.out j hj Oo)]; rfl, rfl⟩

theorem qDA (m : Int) (w : World) :
  Calls Tryz.prog 75 #[.int .i64 m] w fun e w' => e = .returned (.bool (qCC m)) ∧ w = w' := by
 go_enter Tryz.func75, Tryz.ntmps75
 go_wp2_with (go_at_call 152; refine (qIM _ _ _ _).mono ?_; rintro e w' ⟨rfl, rfl⟩)
 go_ret
 exact ⟨rfl, rfl⟩

end
section

def qBs (m : Int) (n j : Nat) (row : Li) : Bool := decide (row.length = n - j) && qBd m row
def qEz (m : Int) (xss : Tb) : Bool := (List.range xss.length).all (fun j => qBs m xss.length j (xss.getD j []))
def qAg (m : Int) (xss : Tb) : Bool := qCC m && inB ((xss.length : Int) - 1) 1 10 && qEz m xss
theorem qHk {xss : Tb} {j : Nat} (h : j < xss.length) : xss.getD j [] = xss[j] := by simp [List.getD, h]
theorem qIP {m : Int} {xss : Tb} (h : ∀ j (hj : j < xss.length), qBs m xss.length j xss[j] = true) : qEz m xss = true := by
 unfold qEz
 rw [List.all_eq_true]
 intro j hj
 have hj' := List.mem_range.1 hj
 rw [qHk hj']; exact h j hj'
theorem qFy {m : Int} {xss : Tb} {j : Nat} (hj : j < xss.length) (h : qBs m xss.length j xss[j] = false) : qEz m xss = false := by
 unfold qEz
 rw [List.all_eq_false]
 exact ⟨j, List.mem_range.2 hj, by rw [qHk hj, h]; simp⟩
theorem qFD {m : Int} {xss : Tb} (h : qAg m xss = true) : 2 ≤ m ∧ m ≤ 10000 := by simp [qAg] at h; exact qE_ h.1.1
theorem qFq {m : Int} {xss : Tb} (h : qAg m xss = true) : 2 ≤ xss.length ∧ xss.length ≤ 11 := by simp [qAg] at h; have := qER h.1.2; omega
theorem qF9 {m : Int} {xss : Tb} (h : qAg m xss = true) (j : Nat) (hj : j < xss.length) : xss[j].length = xss.length - j ∧ ∀ x ∈ xss[j], 0 ≤ x ∧ x < m := by
 simp only [qAg, Bool.and_eq_true, qEz, List.all_eq_true] at h
 have := h.2 j (List.mem_range.2 hj)
 rw [qHk hj] at this
 simp only [qBs, Bool.and_eq_true, decide_eq_true_eq] at this
 exact ⟨this.1, qK6 this.2⟩
theorem qB9 (m : Int) (o : Option Addr) (n c : Nat) (w : World) (hn : n ≤ maxLen) :
  Calls Tryz.prog 78 #[.agg #[.int .i64 m, .slice o n c]] w fun e w' => e = .returned (.int .i64 ((n : Int) - 1)) ∧ Below w.heap.size w w' := by
 unfold maxLen at hn
 go_enter Tryz.func78, Tryz.ntmps78
 go_wp2
 go_ret
 exact ⟨rfl, bZ⟩

theorem qNy (m x : Int) (b : Nat) (w : World) (hm : -9223372036854775808 < m) (hm' : m ≤ 9223372036854775807)
  (h1 : w.cell? ⟨b, 0, none⟩ = some (.int .i64 m)) :
  Calls Tryz.prog 80 #[.int .i64 x, .pointer (some ⟨b, 0, none⟩)] w fun e w' => e = .returned (.bool (inB x 0 (m - 1))) ∧ w = w' := by
 go_enter Tryz.func80, Tryz.ntmps80
 go_wp2_with (go_at_call 81; refine (qH1 _ _ _ hm hm').mono ?_; rintro e w' ⟨rfl, rfl⟩)
 go_ret
 exact ⟨rfl, rfl⟩
theorem qNF : qBf 80 := fun args w => Tryz.call80 args w

theorem qCK (m : Int) (v : Value) (xss : Tb) (w : World) (hv : RdT w v xss) :
  Calls Tryz.prog 39 #[.agg #[.int .i64 m, v]] w fun e w' => e = .returned (.bool (qAg m xss)) ∧ Below w.heap.size w w' := by
 obtain ⟨o, c, rfl, hm, -⟩ := id hv
 have hml := hm.1
 unfold maxLen at hm
 cases hs : qCC m
 ·go_enter Tryz.func39, Tryz.ntmps39
  go_wp2_with (go_at_call 77; refine (qD7 _ _).mono ?_; rw [hs]; rintro e w' ⟨rfl, rfl⟩)
  go_ret; exact ⟨by simp [qAg, hs], bZ⟩
 ·have hm1 := qE_ hs; cases ht : inB ((xss.length : Int) - 1) 1 10
  all_goals
   go_enter Tryz.func39, Tryz.ntmps39
   go_wp2_with (go_at_call 77; refine (qD7 _ _).mono ?_; rw [hs]; rintro e w' ⟨rfl, rfl⟩)
   (obtain ⟨w0, hw0⟩ : ∃ W : World, W = (w.alloc (.cells #[.int .i64 m, .slice o xss.length c] 26)) := ⟨_, rfl⟩; have X0 := (RB2.mk1 w  (.int .i64 m) (.slice o xss.length c) 26).1.below (w' := w0) (bV hw0) (nl _); have B0 : Below w.heap.size w w0 := (bV hw0); have hv0 := hv.below (w' := w0) (bV hw0) (nl _); rw [← hw0]; clear hw0)
   obtain ⟨x0, x1⟩ := id X0
   go_wp2_with fail
   refine (qB9 m o xss.length c _ hml).mono ?_; rintro e w1 ⟨rfl, hb⟩
   (have X1 := X0.below hb; have hv1 := hv0.below hb; have B1 := B0.trans (hb.mono B0.size))
   clear x0 x1; obtain ⟨x0, x1⟩ := id X1
   go_wp2_with (go_at_call 71; refine (qEl _ _ _ _).mono ?_; rw [ht]; rintro e w' ⟨rfl, rfl⟩)
  ·go_ret; exact ⟨by simp [qAg, ht], (bY1 B1)⟩
  ·clear x0 x1; have hB1s := B1.size
   go_loopw [18] (fun i wr => ∃ k : Nat, k ≤ xss.length ∧ i = .int .i64 k ∧ Hid (∀ j (hj : j < xss.length), j < k → qBs m xss.length j xss[j] = true) ∧ Below w1.heap.size w1 wr) (fun i _ => xss.length - (intOf i).toNat)
   case atStart => exact ⟨0, Nat.zero_le _, rfl, dd (fun j hj h => Oo), Below.refl _ _⟩
   case round =>
    obtain ⟨k, hk, rfl, HQ, hbr⟩ := hrel; have hvr := hv1.below hbr; obtain ⟨x0, x1⟩ := X1.below hbr; have hbs := hbr.size
    by_cases hlt : k < xss.length
    ·obtain ⟨b, off, rfl, -⟩ := hvr.rows Oo; obtain ⟨o', c', hx, hr⟩ := hvr.row (show xss[k]? = some xss[k] by simp [hlt]); have hrl := hr.len.2.1; unfold maxLen at hrl; cases hq : ((xss[k].length : Int) != (xss.length : Int) - (k : Int))
     ·have hlen : xss[k].length = xss.length - k := by simp at hq; omega
      have HLEN := dd hlen; clear hlen; cases hn : qBd m xss[k]
      all_goals
       go_wp2_with fail
       refine (qHR 80 _ (fun x => inB x 0 (m - 1)) _ xss[k] _ hr qNF (fun x hx w1 hb => qNy m x _ _ Oo Oo (qA0 hb (nl _) x0))).mono ?_; rw [show xss[k].all (fun x => inB x 0 (m - 1)) = _ from hn]; rintro e w2 ⟨rfl, hb2⟩; have hb3 := hbr.trans (hb2.mono hbs); clear x0 x1; obtain ⟨x0, x1⟩ := X1.below hb3; go_wp2
      ·go_ret; exact ⟨by rw [show qAg m xss = false by simp [qAg, qFy hlt (show qBs m xss.length k xss[k] = false by simp [qBs, hn])]]; rfl, B1.trans (hb3.mono hB1s)⟩
      ·exact ⟨⟨k + 1, Oo, by go_num, dd (fun j hj h => by
        rcases Nat.lt_or_ge j k with h1 | h1
        ·exact HQ.out j hj h1
        ·obtain rfl : j = k := Oo; simp [qBs, hn, HLEN.out]), hb3⟩, by simp [intOf]; omega⟩
     ·have hlen : ¬ xss[k].length = xss.length - k := by simp at hq; omega
      have HLEN := dd hlen; clear hlen; go_wp2; go_ret; exact ⟨by rw [show qAg m xss = false by simp [qAg, qFy hlt (show qBs m xss.length k xss[k] = false by simp [qBs, HLEN.out])]]; rfl, B1.trans (hbr.mono hB1s)⟩
    ·go_wp2; go_ret; exact ⟨by rw [show qAg m xss = true by simp [qAg, hs, ht, qIP (fun j hj => HQ.out j hj Oo)]]; rfl, B1.trans (hbr.mono hB1s)⟩

theorem qKH (m : Int) (v : Value) (xss : Tb) (w : World) (hv : RdT w v xss) :
  Calls Tryz.prog 37 #[.agg #[.int .i64 m, v]] w fun e w' => e = .returned (.bool (qAg m xss)) ∧ Below w.heap.size w w' := by
 obtain ⟨o, c, rfl, hm, -⟩ := id hv
 have hml := hm.1
 unfold maxLen at hm
 cases hs : qCC m
 ·go_enter Tryz.func37, Tryz.ntmps37
  go_wp2_with (go_at_call 75; refine (qDA _ _).mono ?_; rw [hs]; rintro e w' ⟨rfl, rfl⟩)
  go_ret; exact ⟨by simp [qAg, hs], bZ⟩
 ·have hm1 := qE_ hs; cases ht : inB ((xss.length : Int) - 1) 1 10
  ·have hno := inB_f ht; have HT := dd ht; clear ht
   by_cases h2 : (xss.length : Int) < 2
   ·go_enter Tryz.func37, Tryz.ntmps37
    go_wp2_with (go_at_call 75; refine (qDA _ _).mono ?_; rw [hs]; rintro e w' ⟨rfl, rfl⟩)
    go_ret; exact ⟨by simp [qAg, HT.out], bZ⟩
   ·have h3 : (11 : Int) < (xss.length : Int) := Oo; clear hno
    go_enter Tryz.func37, Tryz.ntmps37
    go_wp2_with (go_at_call 75; refine (qDA _ _).mono ?_; rw [hs]; rintro e w' ⟨rfl, rfl⟩)
    go_ret; exact ⟨by simp [qAg, HT.out], bZ⟩
  ·have hyes := qER ht; have HT := dd ht; clear ht; have h2 : ¬ (xss.length : Int) < 2 := Oo; have h3 : ¬ (11 : Int) < (xss.length : Int) := Oo; clear hyes; obtain ⟨b, off, rfl, -⟩ := hv.rows Oo
   go_enter Tryz.func37, Tryz.ntmps37
   go_wp2_with (go_at_call 75; refine (qDA _ _).mono ?_; rw [hs]; rintro e w' ⟨rfl, rfl⟩)
   (obtain ⟨w0, hw0⟩ : ∃ W : World, W = (w.alloc (.cells #[.int .i64 m, .slice (some ⟨b, off, none⟩) xss.length c] 26)) := ⟨_, rfl⟩; have X0 := (RB2.mk1 w  (.int .i64 m) (.slice (some ⟨b, off, none⟩) xss.length c) 26).1.below (w' := w0) (bV hw0) (nl _); have B0 : Below w.heap.size w w0 := (bV hw0); have hv0 := hv.below (w' := w0) (bV hw0) (nl _); rw [← hw0]; clear hw0)
   go_loopw [4] (fun i wr => ∃ k : Nat, k ≤ xss.length ∧ i = .int .i64 k ∧ Hid (∀ j (hj : j < xss.length), j < k → qBs m xss.length j xss[j] = true) ∧ ∃ d, wr = w0.drewN d) (fun i _ => xss.length - (intOf i).toNat)
   case atStart => exact ⟨0, Nat.zero_le _, rfl, dd (fun j hj h => Oo), 0, rfl⟩
   case round =>
    obtain ⟨k, hk, rfl, HQ, d, rfl⟩ := hrel; obtain ⟨x0, x1⟩ := id X0
    by_cases hlt : k < xss.length
    ·obtain ⟨o', c', hx, hr⟩ := hv0.row (show xss[k]? = some xss[k] by simp [hlt]); have hrl := hr.len.2.1; unfold maxLen at hrl; have i0 : (0 : Int) ≤ (k : Int) := Oo; have i1 : (k : Int) < (xss.length : Int) := Oo; have hw : IntKind.i64.wrap ((xss.length : Int) - (k : Int)) = (xss.length : Int) - (k : Int) := IntWalk.i64_in _ Oo; cases hq : ((xss[k].length : Int) != (xss.length : Int) - (k : Int))
     ·have hlen : xss[k].length = xss.length - k := by simp at hq; omega
      have HLEN := dd hlen; clear hlen; cases hn : qBd m xss[k]
      all_goals
       go_wp2_with fail
       go_quiet ((go_at_call 76; (first | exact qDM (by rw [hn]) (qDm m _ xss[k] _ hr Oo Oo) | exact qDJ (by rw [hn]) (qDm m _ xss[k] _ hr Oo Oo) | exact qDN (by rw [hn]) (qDm m _ xss[k] _ hr Oo Oo) | exact qDL (by rw [hn]) (qDm m _ xss[k] _ hr Oo Oo))))
       clear hw; go_wp2
      ·go_ret; exact ⟨by rw [show qAg m xss = false by simp [qAg, qFy hlt (show qBs m xss.length k xss[k] = false by simp [qBs, hn])]]; rfl, (bY1 B0)⟩
      ·exact ⟨⟨k + 1, Oo, by go_num, dd (fun j hj h => by
        rcases Nat.lt_or_ge j k with h1 | h1
        ·exact HQ.out j hj h1
        ·obtain rfl : j = k := Oo; simp [qBs, hn, HLEN.out]), _, rfl⟩, by simp [intOf]; omega⟩
     ·have hlen : ¬ xss[k].length = xss.length - k := by simp at hq; omega
      have HLEN := dd hlen; clear hlen
      go_wp2_with fail
      go_quiet (fail)
      clear hw; go_wp2; go_ret; exact ⟨by rw [show qAg m xss = false by simp [qAg, qFy hlt (show qBs m xss.length k xss[k] = false by simp [qBs, HLEN.out])]]; rfl, (bY1 B0)⟩
    ·go_wp2; go_ret; exact ⟨by rw [show qAg m xss = true by simp [qAg, hs, HT.out, qIP (fun j hj => HQ.out j hj Oo)]]; rfl, (bY1 B0)⟩

end
section

end
section

theorem qBl (n m : Int) (w : World) (hm : 0 < m) (hm' : m ≤ 1000000000000000000) (h1 : -9000000000000000000 ≤ n) (h2 : n ≤ 9000000000000000000) :
  Calls Tryz.prog 126 #[.int .i64 n, .int .i64 m] w fun e w' => e = .returned (.int .i64 (n % m)) ∧ w = w' := by
 have h3 : -m < n.tmod m := Int.lt_tmod_of_pos _ hm
 have h4 : n.tmod m < m := Int.tmod_lt_of_pos _ hm
 have HE := dd (qJZ (n := n) (m := m))
 go_enter Tryz.func126, Tryz.ntmps126
 go_wp2
 go_ret
 exact ⟨by rw [← HE.out]; rfl, rfl⟩

theorem qG7 (m a b : Int) (w : World) (hm : 1 ≤ m) (hm' : m ≤ 3000000000) (ha : 0 ≤ a) (hb : 0 ≤ b) (ha' : a < m) (hb' : b < m) :
  Calls Tryz.prog 145 #[.int .i64 m, .int .i64 a, .int .i64 b] w fun e w' => e = .returned (.int .i64 (a * b % m)) ∧ w = w' := by
 obtain ⟨h1, h2⟩ := qCY ha hb ha' hb' hm'
 go_enter Tryz.func145, Tryz.ntmps145
 go_wp2
 go_ret
 exact ⟨rfl, rfl⟩

end
section

structure SR where
 m : Int
 xs : Li
 code : Int
def SR.bad (c : Int) : SR := ⟨0, [], c⟩
def SEnd (w w' : World) (r : SR) (e : Ending) : Prop :=
 ∃ v', e = .returned (.tuple #[.agg #[.int .i64 r.m, v'], .int .i64 r.code]) ∧ OwI w' w.heap.size v' r.xs ∧ Below w.heap.size w w' ∧ r.xs.length ≤ 1048576
def qE5 (w w' : World) (m : Int) (xs : Li) (e : Ending) : Prop :=
 ∃ v', e = .returned (.agg #[.int .i64 m, v']) ∧ OwI w' w.heap.size v' xs ∧ Below w.heap.size w w'

theorem qEP (m d : Int) (n : Nat) (w : World) (hd : d + 1 = n) (hn : n ≤ 1048576) :
  Calls Tryz.prog 144 #[.int .i64 m, .int .i64 d] w fun e w' => qE5 w w' m (List.replicate n 0) e := by
 go_enter Tryz.func144, Tryz.ntmps144
 go_wp2_with (at_make; go_loud (refine mkI _ rfl _ _ rfl _ _ _ n rfl rfl rfl Oo ?_; intro w1 hown hb hs1; simp at hown hs1; obtain ⟨hcc, hff⟩ := bcell hb; have hz : w.heap.size < w1.heap.size := Oo; have Hown := dd hown; clear hown; have Hs1 := dd hs1; clear hs1))
 refine bodyPost_ret (v := .agg #[.int .i64 m, .slice (some ⟨w.heap.size + 1, 0, none⟩) n n]) (by simp [results, Tryz.results144, go_sem, hcc, hz]) rfl ⟨_, rfl, ?_, ?_⟩
 ·exact ((Hown.out.low sz _).low sz _).mono sz
 ·(repeat (first | exact bR _ _ | (refine bS ?_ _) | (refine bA ?_ _) | (refine bN ?_ _) | (refine bD ?_) | (refine bT ?_ hb)))

theorem plus_c (m m' : Int) (v u : Value) (xs ys : Li) (w : World) (hv : RdI w v xs) (hu : RdI w u ys) (hl : ys.length = xs.length) (h1 : 1 ≤ xs.length) (hn : xs.length ≤ 1048576) (hm : 2 ≤ m) (hm' : m ≤ 1000000000000)
  (hx : ∀ x ∈ xs, 0 ≤ x ∧ x < m) (hy : ∀ x ∈ ys, 0 ≤ x ∧ x < m) :
  Calls Tryz.prog 89 #[.agg #[.int .i64 m, v], .agg #[.int .i64 m', u]] w fun e w' => qE5 w w' m (qCi m xs.length xs ys) e := by
 obtain ⟨o, c, rfl, hmx, -⟩ := id hv
 obtain ⟨o', c', rfl, hmy, -⟩ := id hu
 have hml := hmx.1
 unfold maxLen at hmx hmy
 have HL := dd hl
 clear hl
 go_enter Tryz.func89, Tryz.ntmps89
 go_wp2_with fail
 (obtain ⟨w0, hw0⟩ : ∃ W : World, W = (((w.alloc (.cells #[.int .i64 m, .slice o xs.length c] 34)).alloc (.cells #[.int .i64 m', .slice o' ys.length c'] 34)).alloc (.cells #[.int .i64 0, .slice none 0 0] 34)) := ⟨_, rfl⟩; have X0 := (RB2.mk1 w  (.int .i64 m) (.slice o xs.length c) 34).1.below (w' := w0) (bV hw0) (nl _); have Y0 := (RB2.mk2 w (.cells #[.int .i64 m, .slice o xs.length c] 34) (.int .i64 m') (.slice o' ys.length c') 34).1.below (w' := w0) (bV hw0) (nl _); have R0 := (RB2.mk3 w (.cells #[.int .i64 m, .slice o xs.length c] 34) (.cells #[.int .i64 m', .slice o' ys.length c'] 34) (.int .i64 0) (.slice none 0 0) 34).below (w' := w0) (bV hw0) (nl _); have B0 : Below w.heap.size w w0 := (bV hw0); have hv0 := hv.below (w' := w0) (bV hw0) (nl _); have hu0 := hu.below (w' := w0) (bV hw0) (nl _); rw [← hw0]; clear hw0)
 have hzl : w.heap.size + 2 < w0.heap.size := R0.1.lt
 go_cut [5] (fun sb u => ∃ (wz : World) (b : Nat) (oz : Option Addr) (cz : Nat), wz = u ∧ sb = .pointer (some ⟨b, 0, none⟩) ∧ w0.heap.size ≤ b ∧ RB2 u b (.int .i64 m) (.slice oz xs.length cz) ∧ OwI u w0.heap.size (.slice oz xs.length cz) (List.replicate xs.length 0) ∧ (∀ k, (Value.slice oz xs.length cz).ownBlock = some k → k ≠ b) ∧ Below w0.heap.size w0 u)
 case first =>
  have hd0 : Below w0.heap.size w0 w0.drew := (Below.refl _ _).drew; have hsd0 := hd0.size; have hlb_X0 := X0.lt; obtain ⟨q0_X0_0, q0_X0_1⟩ := X0.below (Below.refl w0.heap.size w0) (nl _); have hne0_X0 : w0.heap.size ≠ w.heap.size := Oo
  go_region_held3 (fun w' => w'.cell? ⟨w.heap.size, 0, none⟩ = some (.int .i64 m) ∧ w'.cell? ⟨w.heap.size, 1, none⟩ = some (.slice o xs.length c)) (go_keep)
   (first
    | (go_at_call 128; refine (qCb m o xs.length c _ hml).mono ?_; rintro e wd1 ⟨rfl, hbd1⟩; have hd1 : Below w0.heap.size w0 wd1 := (bY1 hbd1); have hsd1 := hd1.size; have hsz1_ := hbd1.size; (try simp at hsz1_); obtain ⟨q1_X0_0, q1_X0_1⟩ := X0.below hd1; have hne1_X0 : wd1.heap.size ≠ w.heap.size := Oo; (try (have RZ := RZ.below hbd1)); (try (have RZ := (show RB2 (w0.alloc (.cells #[.int .i64 0, .slice none 0 0] 34)).drew w0.heap.size (.int .i64 0) (.slice none 0 0) from RB2.mk1 w0 (.int .i64 0) (.slice none 0 0) _).below hbd1)); (try (obtain ⟨⟨z1_0, z1_1⟩, zf1⟩ := id RZ)))
    | (go_at_call 144; refine (qEP m ((xs.length : Int) - 1) xs.length _ Oo Oo).mono ?_; rintro e wd2 ⟨vz2, rfl, hod2, hbd2⟩; obtain ⟨oz, cz, rfl⟩ := hod2.shapeN (n := xs.length) (by simp); have hd2 : Below w0.heap.size w0 wd2 := (bY2 hbd1 hbd2); have hsd2 := hd2.size; have hsz2_ := hbd2.size; (try simp at hsz2_); obtain ⟨q2_X0_0, q2_X0_1⟩ := X0.below hd2; have hne2_X0 : wd2.heap.size ≠ w.heap.size := Oo; (try (have RZ := RZ.below hbd2)); (try (have RZ := (show RB2 (wd1.alloc (.cells #[.int .i64 0, .slice none 0 0] 34)) wd1.heap.size (.int .i64 0) (.slice none 0 0) from RB2.mk1 wd1 (.int .i64 0) (.slice none 0 0) _).below hbd2)); (try (obtain ⟨⟨z2_0, z2_1⟩, zf2⟩ := id RZ))))
  all_goals
   go_wp2_with fail
   go_meet
   have hL := hod2.lt; refine ⟨_, _, oz, cz, rfl, rfl, ?_, ?_, ?_, ?_, ?_⟩
   ·first | omega | (simp; done) | (simp; omega)
   ·first | exact RB2.mk1 _ _ _ _ | exact RB2.put RZ _ _
   ·first | exact (hod2.alloc _).mono sz | exact ((hod2.low sz _).low sz _).mono sz
   ·intro k hk; have hq := hL k hk; first | omega | (simp at hq; omega)
   ·(repeat (first | exact bR _ _ | (refine bS ?_ _) | (refine bA ?_ _) | (refine bN ?_ _) | (refine bD ?_) | (refine bT ?_ hbd1) | (refine bT ?_ hbd2)))
 case rest =>
 obtain ⟨w1, b, oz, cz, rfl, rfl, hbW, O, how, hneb, hb⟩ := hcut
 (have X1 := X0.below hb; have Y1 := Y0.below hb; have R1 := R0.below hb; have hv1 := hv0.below hb; have hu1 := hu0.below hb; have B1 := B0.trans (hb.mono B0.size))
 rw [qO0 m _ xs ys] at how
 obtain ⟨g, cap, hsl, hgl, hgl', -, -, -⟩ := how.opn (by rw [qNi]; omega)
 obtain ⟨rfl, rfl⟩ : oz = some ⟨g, 0, none⟩ ∧ cz = cap := by simp at hsl; exact ⟨hsl.1, hsl.2.2⟩
 clear hsl
 have hgb := hneb g rfl
 clear hneb
 obtain ⟨bx, fx, rfl, hcx⟩ := hv.cells h1
 obtain ⟨by', fy, rfl, hcy⟩ := hu.cells (by have := HL.out; omega)
 clear hcx hcy
 have B1s := B1.size
 obtain ⟨⟨q0, q1⟩, qf⟩ := id O
 go_wp2_with fail
 go_loopw [15] (fun i wr => ∃ k : Nat, k ≤ xs.length ∧ i = .int .i64 k ∧ OwI wr w0.heap.size (.slice (some ⟨g, 0, none⟩) xs.length cz) (qEJ m xs.length xs ys k) ∧ w1.grownBy wr (some g)) (fun i _ => xs.length - (intOf i).toNat)
 case atStart => exact ⟨0, Nat.zero_le _, rfl, how, World.grownBy.refl _ _⟩
 case round =>
  obtain ⟨k, hk, rfl, hO, hg⟩ := hrel; clear q0 q1 qf; have Br := qDC B1 hg Oo B1s
  by_cases hlt : k < xs.length
  ·have hly : k < ys.length := by have := HL.out; omega
   obtain ⟨x0, x1⟩ := X1.grown hg (by simp; omega); obtain ⟨y0, y1⟩ := Y1.grown hg (by simp; omega); obtain ⟨⟨z0, z1⟩, zf⟩ := O.grown hg (by simp; omega); have cx := (hv.below Br).cell0 (qA5 hlt); have cy := (hu.below Br).cell0 (qA5 hly); have hxk := qAG Oo hx k; have hyk := qAG Oo hy k; have hc0 := hO.cell (k := k) (qAy hlt); have hf0 := hO.fz k; have hMod := qA6 (a := at0 xs k + at0 ys k) (show 0 < m by omega); have Hn := dd hO; clear hO
   go_wp2_with fail
   have e1 : IntKind.i64.wrap (at0 xs k + at0 ys k) = at0 xs k + at0 ys k := IntWalk.i64_in _ Oo; have e2 : (at0 xs k + at0 ys k).tmod m = (at0 xs k + at0 ys k) % m := Int.tmod_eq_emod_of_nonneg Oo; have l1 := qBH (hv.cell0 (qA5 hlt)); have l2 := qBH (hu.cell0 (qA5 hly)); have n1 : g ≠ w.heap.size := Oo; have n2 : g ≠ w.heap.size + 1 := Oo; have n3 : g ≠ bx := Oo; have n4 : g ≠ by' := Oo; clear l1 l2; have i0 : (0 : Int) ≤ (k : Int) := Oo; have m0 : (m == 0) = false := by simp; omega
   have m1 : ¬ m = 0 := Oo; have i1 : (k : Int) < (xs.length : Int) := Oo; have i2 : (k : Int) < (ys.length : Int) := Oo
   go_region_held3 (fun w' => w'.cell? ⟨w.heap.size, 0, none⟩ = some (.int .i64 m) ∧ w'.cell? ⟨w.heap.size, 1, none⟩ = some (.slice (some ⟨bx, fx, none⟩) xs.length c) ∧ w'.cell? ⟨w.heap.size + 1, 1, none⟩ = some (.slice (some ⟨by', fy, none⟩) ys.length c') ∧ w'.cell? ⟨b, 1, none⟩ = some (.slice (some ⟨g, 0, none⟩) xs.length cz) ∧ w'.cell? ⟨bx, fx + k, none⟩ = some (.int .i64 (at0 xs k)) ∧ w'.cell? ⟨by', fy + k, none⟩ = some (.int .i64 (at0 ys k))) (go_keep) (fail)
   go_wp2; have h2 := OwI.put Hn.out k ((at0 xs k + at0 ys k) % m); rw [qQf rfl rfl] at h2; exact ⟨⟨k + 1, Oo, by go_num, h2, qJq (qAw hg _ _)⟩, by simp [intOf]; omega⟩
  ·obtain rfl : k = xs.length := Oo; rw [qQo (nl _)] at hO; obtain ⟨⟨z0, z1⟩, zf⟩ := O.grown hg (by simp; omega); obtain ⟨⟨r0, r1⟩, rf⟩ := R1.grown hg (by simp; omega); go_wp2; refine bodyPost_ret (v := .agg #[.int .i64 m, .slice (some ⟨g, 0, none⟩) xs.length cz]) (by simp [results, Tryz.results89, go_sem, r0, r1]) rfl ⟨_, rfl, ?_, ?_⟩
   ·exact ((hO.low sz _).low sz _).mono sz
   ·(repeat (first | exact bR _ _ | (refine bS ?_ _) | (refine bA ?_ _) | (refine bN ?_ _) | (refine bD ?_) | (refine bT ?_ Br)))

end
end Go.Proofs.YtfpphfjlpgefaaaGreat
