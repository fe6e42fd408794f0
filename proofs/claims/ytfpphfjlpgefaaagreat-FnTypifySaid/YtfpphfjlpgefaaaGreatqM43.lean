/- Lemmas. -/
import Derived.Test.YtfpphfjlpgefaaaGreatqSub
import Derived.Test.YtfpphfjlpgefaaaGreatqApp
import Derived.Test.YtfpphfjlpgefaaaGreatqM33
import Derived.Test.YtfpphfjlpgefaaaGreatqM35
import Derived.Test.YtfpphfjlpgefaaaGreatqM40
import Derived.Test.YtfpphfjlpgefaaaGreatqM31
import Derived.Test.YtfpphfjlpgefaaaGreatqG13
import Derived.Test.YtfpphfjlpgefaaaGreatqM5
set_option maxHeartbeats 2000000
set_option maxRecDepth 100000
set_option linter.unusedSimpArgs false
set_option linter.unusedVariables false
namespace Go.Proofs.YtfpphfjlpgefaaaGreat
open Go.RowKit
section

def qEU (m : Int) (t : Tb) (m1 : Int) (xs : Li) (m2 : Int) (ys : Li) : PR := if qB6 m t m1 xs m2 ys = 0 then ⟨m, qBw m t.length t xs ys, 0⟩ else PR.bad (qB6 m t m1 xs m2 ys)
theorem qQg {m : Int} {n : Nat} {t : Tb} {a b : Li} (hn : n ≤ 1000) : qBu (qBw m n t a b) ≤ 1048576 := qFO hn _
theorem qQO (m : Int) (n : Nat) (t : Tb) (a b : Li) : (qBw m n t a b).length = n := qA9 _ _

theorem qNt (m : Int) (v : Value) (t : Tb) (m1 : Int) (u : Value) (xs : Li) (m2 : Int) (u' : Value) (ys : Li) (w : World) (hv : RdT w v t) (hu : RdI w u xs) (hu' : RdI w u' ys) :
  Calls Tryz.prog 29 #[.agg #[.int .i64 m, v], .agg #[.int .i64 m1, u], .agg #[.int .i64 m2, u']] w fun e w' => qE4 w w' (qEU m t m1 xs m2 ys) e := by
 obtain ⟨o, c, rfl, -, -⟩ := id hv
 obtain ⟨o1, c1, rfl, -, -⟩ := id hu
 obtain ⟨o2, c2, rfl, -, -⟩ := id hu'
 by_cases hc : qB6 m t m1 xs m2 ys = 0
 ·obtain ⟨a1, a2, a3, hm1, hm2, a6, a7, a8, a9⟩ := subC_0 hc; subst hm1 hm2; have hR : qEU m2 t m2 xs m2 ys = ⟨m2, qBw m2 t.length t xs ys, 0⟩ := by simp [qEU, hc]
  rw [hR]; clear hR; have hn := qFq a1; have hm := qFD a1; have hx := qGH a2; have hy := qGH a3; have HC := dd hc; have HT := dd (show PlaT m2 t.length t from ⟨rfl, qF9 a1⟩); have HLX := dd a6; have HLY := dd a7; have hlen : qBu (qBw m2 t.length t xs ys) ≤ 1048576 := qQg Oo; have hcc : ((0 : Int) != 0) = false := by simp
  clear hc a1 a2 a3 a6 a7 a8 a9
  go_enter Tryz.func29, Tryz.ntmps29
  go_wp2_with fail
  (obtain ⟨w0, hw0⟩ : ∃ W : World, W = ((((w.alloc (.cells #[.int .i64 m2, .slice o t.length c] 26)).alloc (.cells #[.int .i64 m2, .slice o1 xs.length c1] 34)).alloc (.cells #[.int .i64 m2, .slice o2 ys.length c2] 34)).alloc (.cells #[.int .i64 0, .slice none 0 0] 26)) := ⟨_, rfl⟩; have X0 := (RB2.mk1 w  (.int .i64 m2) (.slice o t.length c) 26).1.below (w' := w0) (bV hw0) (nl _); have Y0 := (RB2.mk2 w (.cells #[.int .i64 m2, .slice o t.length c] 26) (.int .i64 m2) (.slice o1 xs.length c1) 34).1.below (w' := w0) (bV hw0) (nl _); have Z0 := (RB2.mk3 w (.cells #[.int .i64 m2, .slice o t.length c] 26) (.cells #[.int .i64 m2, .slice o1 xs.length c1] 34) (.int .i64 m2) (.slice o2 ys.length c2) 34).1.below (w' := w0) (bV hw0) (nl _); have R0 := (RB2.mk4 w (.cells #[.int .i64 m2, .slice o t.length c] 26) (.cells #[.int .i64 m2, .slice o1 xs.length c1] 34) (.cells #[.int .i64 m2, .slice o2 ys.length c2] 34) (.int .i64 0) (.slice none 0 0) 26).below (w' := w0) (bV hw0) (nl _); have B0 : Below w.heap.size w w0 := (bV hw0); have hv0 := hv.below (w' := w0) (bV hw0) (nl _); have hu0 := hu.below (w' := w0) (bV hw0) (nl _); have hu'0 := hu'.below (w' := w0) (bV hw0) (nl _); rw [← hw0]; clear hw0)
  (obtain ⟨gqX0, gqX1⟩ := id X0; obtain ⟨gqY0, gqY1⟩ := id Y0; obtain ⟨gqZ0, gqZ1⟩ := id Z0; go_wp2_with fail; refine (qLw m2 m2 m2 _ _ _ t xs ys _ hv0 hu0 hu'0).mono ?_; rw [HC.out]; rintro e w1 ⟨rfl, hb⟩; (have X1 := X0.below hb; have Y1 := Y0.below hb; have Z1 := Z0.below hb; have R1 := R0.below hb; have hv1 := hv0.below hb; have hu1 := hu0.below hb; have hu'1 := hu'0.below hb; have B1 := B0.trans (hb.mono B0.size)); clear gqX0 gqX1 gqY0 gqY1 gqZ0 gqZ1; clear hb)
  (obtain ⟨gqX0, gqX1⟩ := id X1; obtain ⟨gqY0, gqY1⟩ := id Y1; obtain ⟨gqZ0, gqZ1⟩ := id Z1; go_wp2_with fail; refine (qIj m2 t.length _ _ _ t xs ys _ hv1 hu1 hu'1 HLX.out HLY.out Oo Oo Oo Oo HT.out hx hy).mono ?_; rintro e w2 ⟨vR, rfl, how, hb⟩; obtain ⟨oV, cV, rfl⟩ := how.shapeN (n := t.length) (qQO _ _ _ _ _); have hz := R1.1.lt; have hB := B1.size; (have R2 := R1.below hb; have B2 := B1.trans (hb.mono B1.size)); obtain ⟨⟨r0, r1⟩, rf⟩ := id R2; go_wp2; exact bodyPost_ret (v := .tuple #[.agg #[.int .i64 m2, .slice oV t.length cV], .int .i64 0]) (by simp [results, Tryz.results29, go_sem, r0, r1]) rfl ⟨_, rfl, ((how.low hz _).low hz _).mono hB, (bY1 B2), hlen⟩)
 ·have hR : qEU m t m1 xs m2 ys = PR.bad (qB6 m t m1 xs m2 ys) := by simp [qEU, hc]
  rw [hR]; clear hR; obtain ⟨cc, hcc0⟩ : ∃ cc, qB6 m t m1 xs m2 ys = cc := ⟨_, rfl⟩; rw [hcc0] at hc ⊢; have HC := dd hcc0; clear hcc0; have hcc : (cc != 0) = true := by simpa using hc
  clear hc
  go_enter Tryz.func29, Tryz.ntmps29
  go_wp2_with fail
  (obtain ⟨w0, hw0⟩ : ∃ W : World, W = ((((w.alloc (.cells #[.int .i64 m, .slice o t.length c] 26)).alloc (.cells #[.int .i64 m1, .slice o1 xs.length c1] 34)).alloc (.cells #[.int .i64 m2, .slice o2 ys.length c2] 34)).alloc (.cells #[.int .i64 0, .slice none 0 0] 26)) := ⟨_, rfl⟩; have X0 := (RB2.mk1 w  (.int .i64 m) (.slice o t.length c) 26).1.below (w' := w0) (bV hw0) (nl _); have Y0 := (RB2.mk2 w (.cells #[.int .i64 m, .slice o t.length c] 26) (.int .i64 m1) (.slice o1 xs.length c1) 34).1.below (w' := w0) (bV hw0) (nl _); have Z0 := (RB2.mk3 w (.cells #[.int .i64 m, .slice o t.length c] 26) (.cells #[.int .i64 m1, .slice o1 xs.length c1] 34) (.int .i64 m2) (.slice o2 ys.length c2) 34).1.below (w' := w0) (bV hw0) (nl _); have R0 := (RB2.mk4 w (.cells #[.int .i64 m, .slice o t.length c] 26) (.cells #[.int .i64 m1, .slice o1 xs.length c1] 34) (.cells #[.int .i64 m2, .slice o2 ys.length c2] 34) (.int .i64 0) (.slice none 0 0) 26).below (w' := w0) (bV hw0) (nl _); have B0 : Below w.heap.size w w0 := (bV hw0); have hv0 := hv.below (w' := w0) (bV hw0) (nl _); have hu0 := hu.below (w' := w0) (bV hw0) (nl _); have hu'0 := hu'.below (w' := w0) (bV hw0) (nl _); rw [← hw0]; clear hw0)
  (obtain ⟨gqX0, gqX1⟩ := id X0; obtain ⟨gqY0, gqY1⟩ := id Y0; obtain ⟨gqZ0, gqZ1⟩ := id Z0; go_wp2_with fail; refine (qLw m m1 m2 _ _ _ t xs ys _ hv0 hu0 hu'0).mono ?_; rw [HC.out]; rintro e w1 ⟨rfl, hb⟩; (have R1 := R0.below hb; have B1 := B0.trans (hb.mono B0.size)); clear gqX0 gqX1 gqY0 gqY1 gqZ0 gqZ1; clear hb)
  (obtain ⟨⟨r0, r1⟩, rf⟩ := id R1; go_wp2; exact bodyPost_ret (v := .tuple #[.agg #[.int .i64 0, .slice none 0 0], .int .i64 cc]) (by simp [results, Tryz.results29, go_sem, r0, r1]) rfl ⟨_, rfl, OwS.nil _ _, (bY1 B1), by simp [PR.bad, qBu, qBW]⟩)

end
section
open Rg

theorem fau_of {m : Int} {n : Nat} {t : Tb} (hm : 2 ≤ m) (ht : PlaT m n t) (L : Lw m n (atT t)) : qAV m t n = [] := by
 refine qHW (fun k hk => ?_) (fun i j hij hn => ?_) (fun a b c hn => ?_)
 ·have e := L.un k hk; have r := qBT ht (i := k) (j := 0) Oo; rw [Int.emod_eq_of_lt r.1 r.2] at e; rw [e]; unfold qBM
  split
  ·exact Int.emod_eq_of_lt Oo Oo
  ·exact Int.zero_emod m
 ·have e := L.sy i j hn; have r := qBT ht (i := i) (j := j) hn; have r' := qBT ht (i := j) (j := i) Oo
  rwa [Int.emod_eq_of_lt r.1 r.2, Int.emod_eq_of_lt r'.1 r'.2] at e
 ·have e1 : qA3 (n - c) (fun i => atT t i c * atT (qAa m n t i) a b) % m = sm n (fun i => atT t i c * (pw (atT t) i : Nat → Nat → Int) a b) % m := by
   rw [← qBB, qDe (n := n) (k := n - c) Oo fun i hi _ => by rw [qFg ht Oo, Int.zero_mul]]; exact qCI fun i _ => qAd rfl (qAJ.1 (qFw m n t i) a b Oo)
  have e2 : qA3 (n - a) (fun j => atT t a j * atT (qAa m n t j) b c) % m = sm n (fun j => atT t a j * (pw (atT t) j : Nat → Nat → Int) b c) % m := by
   rw [← qBB, qDe (n := n) (k := n - a) Oo fun j hj _ => by rw [qFg ht Oo, Int.zero_mul]]; exact qCI fun j _ => qAd rfl (qAJ.1 (qFw m n t j) b c Oo)
  unfold qAx qAt; rw [e1, e2]; exact L.as a b c hn
theorem qOX {m : Int} {n : Nat} {t : Tb} (hm : 2 ≤ m) (hm' : m ≤ 10000) (h2 : 2 ≤ n) (hn : n ≤ 11) (h : PlaT m n t) : qAg m t = true := by
 have hl := h.1
 simp only [qAg, qCC, inB, Bool.and_eq_true, decide_eq_true_eq]
 refine ⟨⟨⟨hm, hm'⟩, Oo, Oo⟩, ?_⟩
 refine qIP fun j hj => ?_
 obtain ⟨h3, h4⟩ := h.2 j hj
 simp only [qBs, qBd, inB, Bool.and_eq_true, decide_eq_true_eq, List.all_eq_true]
 exact ⟨h3, fun x hx => by have := h4 x hx; omega⟩
theorem qND {m : Int} {n : Nat} {t : Tb} (hm : 2 ≤ m) (hm' : m ≤ 10000) (h2 : 2 ≤ n) (hn : n ≤ 11) (ht : PlaT m n t) (L : Lw m n (atT t)) : qBE m t = true := by
 unfold qBE
 rw [ht.1, fau_of hm ht L, qOX hm hm' h2 hn ht]
 rfl
theorem qJB {m : Int} {xs : Li} (hx : ∀ x ∈ xs, 0 ≤ x ∧ x < m) : qBd m xs = true := by
 simp only [qBd, List.all_eq_true]
 intro x h
 have := hx x h
 exact qG9 Oo Oo
theorem qN_ {m : Int} {xs : Li} (hm : 2 ≤ m) (hm' : m ≤ 10000) (h2 : 2 ≤ xs.length) (hn : xs.length ≤ 11) (hx : ∀ x ∈ xs, 0 ≤ x ∧ x < m) : qB_ m xs = true := by
 simp only [qB_, Bool.and_eq_true]
 exact ⟨⟨qG9 Oo Oo, qG9 Oo Oo⟩, qJB hx⟩
theorem qNB {p m : Int} {t : Tb} (h : qAs p m t = 0) : ∃ (H T : Tb) (cv : Li),
  qC0 p m t = ⟨m, H, 0⟩ ∧ qCZ p m t = ⟨m, cv, 0⟩ ∧ qCA p m H = ⟨true, 0⟩ ∧ qCM m cv m t = ⟨m, T, 0⟩ ∧ qEU m H m cv m cv = ⟨m, T, 0⟩ ∧ qC0 p m H = ⟨m, H, 0⟩ ∧ 2 ≤ cv.length ∧ cv.length ≤ 11 ∧ cv[1]? = some 1 := by
 obtain ⟨h1, hpw0⟩ := qFr h
 obtain ⟨hB, hp0⟩ := qH9 h1
 obtain ⟨P, D, rfl, hl, hP, hD1, hD, hm, hm', HT, L, -, -⟩ := qCe h1
 obtain ⟨M, hM⟩ : ∃ M : Nat, m = M := ⟨m.toNat, Oo⟩
 have hpw : qAS P M = true := by rw [hM] at hpw0; exact hpw0
 obtain ⟨e, he⟩ := qKI hP hpw
 have hme : m = ((P ^ e : Nat) : Int) := by rw [hM, he]
 obtain ⟨ls, cv, hls, hcv, lsl, lsr, cvl, cvr, cv0, cv1, hh⟩ := qOY hP hm hme hD1 hD HT L
 have HP := qDz (m := m) Oo P D ls
 have HL := qEt hP hD1 hD hm ls
 have HB : qBE m (qA7 P m D ls) = true := qND hm hm' Oo Oo HP HL
 have hf : qAj P m (qA7 P m D ls) = 0 := by unfold qAj; rw [if_pos HB, if_pos hp0]
 have hfc : qAs P m (qA7 P m D ls) = 0 := by unfold qAs; rw [if_pos hf, if_pos hpw0]
 have hs : qB_ m cv = true := qN_ hm hm' Oo Oo cvr
 have hc : qD5 m cv = true := by simp [qD5, hs, cv0]
 have hpt := (qEu hB).1
 have hpH := (qEu HB).1
 have h00 : atT t 0 0 = 0 := L.zer
 refine ⟨qA7 P m D ls, qAK m (D + 1) t cv, cv, ?_, ?_, ?_, ?_, ?_, ?_, Oo, Oo, ?_⟩
 ·unfold qC0; rw [if_pos h, hl, hls]; rfl
 ·unfold qCZ; rw [if_pos h, hl, hcv]; rfl
 ·unfold qCA; rw [if_pos hf]
  have e : qC6 P m (qA7 P m D ls) = some ls := by
   unfold qC6; rw [HP.1]; exact qNs hP hm hD1 hD lsr lsl
  rw [e]; rfl
 ·rw [qJJ (by simp [qCa, hpt, hs, qBz, cvl, hl]) (by simp [h00]), hl]
 ·unfold qEU; have e : qB6 m (qA7 P m D ls) m cv m cv = 0 := by simp [qB6, qCa, hpH, hs, hc, qBz, cvl, HP.1]
  rw [if_pos e, HP.1, hh]
 ·unfold qC0; rw [if_pos hfc, HP.1]; have e := (qPV (e := e) hP hm hme hD1 hD lsr lsl (D - 1) Oo).2; rw [show D - 1 + 1 = D by omega, ← lsl, List.take_length] at e
  show (⟨m, qA7 P m D (tyS P m (D + 1) (qA7 P m D ls) (D - 1)).2.1, 0⟩ : PR) = _
  rw [e]
 ·rw [qA5 Oo, cv1]
theorem qLc {p : Nat} {m : Int} {t : Tb} : ∀ {k : Nat} {ls : Li}, qB0 p m t k = some ls → ∀ x ∈ ls, 0 ≤ x ∧ x < m
 | 0, ls, h => by
   have e : [] = ls := Option.some.inj h; subst e; simp
 | k + 1, ls, h => by
   unfold qB0 at h; cases e : qB0 p m t k with
   | none => rw [e] at h; simp at h
   | some l =>
     rw [e] at h; simp only at h
     split at h
     ·rename_i h0
      rw [← Option.some.inj h]; intro x hx; rcases List.mem_append.1 hx with hx | hx
      ·exact qLc e x hx
      ·rw [List.mem_singleton.1 hx]; exact qLg h0
     ·simp at h
theorem qOJ {q m : Int} {t : Tb} {nine elev : Int} {ls : Li} {ok : Bool} (h1 : qCV q m t = ⟨ls, nine⟩) (h2 : qCA q m t = ⟨ok, elev⟩) :
  (nine ≠ 0 → nine ≠ 4 ∨ (elev = 0 ∧ ok = false)) ∧ (nine = 0 → ok = true ∧ elev = 0 ∧ (2 ≤ t.length ∧ t.length ≤ 11) ∧ typR q m ((t.length : Int) - 1) ls = ⟨m, t, 0⟩) := by
 unfold qCV at h1
 unfold qCA at h2
 by_cases h : qAj q m t = 0
 ·rw [if_pos h] at h1 h2; obtain ⟨hB, hp0⟩ := qH9 h; obtain ⟨P, D, rfl, hl, hP, hD1, hD, hm, hm', HT, L, ho, hr⟩ := qCe h; obtain ⟨rfl, rfl⟩ := BR.mk.inj h2; cases e : qC6 P m t with
  | none =>
    rw [e] at h1; obtain ⟨rfl, rfl⟩ := LR.mk.inj h1; exact ⟨fun _ => .inr ⟨rfl, rfl⟩, fun h => by cases h⟩
  | some l =>
    rw [e] at h1; obtain ⟨rfl, rfl⟩ := LR.mk.inj h1; refine ⟨fun h => absurd rfl h, fun _ => ⟨rfl, rfl, Oo, ?_⟩⟩; rw [hr] at e; unfold qCv at e; cases e2 : qB0 P m t (qA4 P D) with
    | none => rw [e2] at e; simp at e
    | some l' =>
      rw [e2] at e; simp only at e
      split at e
      ·rename_i e3
       obtain rfl : l' = l := Option.some.inj e; have hrg := qLc e2; have hln : l'.length ≤ 3 := by rw [qFm e2]; exact qEb hP hD
       have hty : qBk P m l' 0 = 0 := by
        unfold qBk; rw [if_pos (by simp [qCC, inB]; omega), if_pos]; unfold tyB; simp only [Bool.and_eq_true, Bool.not_eq_true', decide_eq_false_iff_not]; exact ⟨⟨⟨hp0, Oo⟩, Oo⟩, qJB hrg⟩
       have hD2 : (t.length : Int) - 1 = D := Oo; unfold typR; rw [hD2, if_pos (by unfold qCT; rw [if_pos hty, if_pos (qG9 Oo Oo)])]
       show (⟨m, qA7 P m D l', 0⟩ : PR) = _
       rw [e3]
      ·simp at e
 ·rw [if_neg h] at h1 h2; obtain ⟨rfl, rfl⟩ := LR.mk.inj h1; obtain ⟨rfl, rfl⟩ := BR.mk.inj h2; refine ⟨fun _ => .inl ?_, fun h' => absurd h' h⟩; unfold qAj
  split
  ·split <;> decide
  ·decide
end
section

def TabP (m : Int) (N lo hi : Nat) (w : World) (v : Value) : Prop := ∃ t, OwSR lo hi w v t ∧ PlaT m N t
def TEnd (m : Int) (N : Nat) (w w' : World) (e : Ending) : Prop := ∃ v t, e = .returned v ∧ OwS w' w.heap.size v t ∧ PlaT m N t ∧ Below w.heap.size w w'
def RowP (m : Int) (n lo : Nat) (w : World) (v : Value) : Prop := ∃ xs : Li, OwI w lo v xs ∧ xs.length = n ∧ ∀ x ∈ xs, 0 ≤ x ∧ x < m
def REnd (m : Int) (n : Nat) (w w' : World) (e : Ending) : Prop := ∃ v, e = .returned v ∧ RowP m n w.heap.size w' v ∧ Below w.heap.size w w'

theorem PlaT.put {m : Int} {N i j : Nat} {t : Tb} (ht : PlaT m N t) {row : Li} (hi : t[i]? = some row) {x : Int} (h0 : 0 ≤ x) (h1 : x < m) : PlaT m N (t.set i (row.set j x)) := by
 refine ⟨by rw [List.length_set]; exact ht.1, fun k hk => ?_⟩
 rw [List.length_set] at hk
 have hi' := List.getElem?_eq_some_iff.1 hi
 obtain ⟨h2, h3⟩ := ht.2 k hk
 by_cases e : i = k
 ·subst e; rw [List.getElem_set_self]; rw [hi'.2] at h2 h3; refine ⟨by rw [List.length_set, List.length_set]; exact h2, fun y hy => ?_⟩; rcases List.mem_or_eq_of_mem_set hy with h | rfl
  ·exact h3 y h
  ·exact ⟨h0, h1⟩
 ·rw [List.getElem_set_ne e]; exact ⟨by rw [List.length_set]; exact h2, h3⟩
theorem TabP.stay {m : Int} {N lo hi : Nat} {w w' : World} {v : Value} (h : TabP m N lo hi w v) (hk : ∀ k, lo ≤ k → k < hi → w'.heap[k]? = w.heap[k]?) : TabP m N lo hi w' v := by
 obtain ⟨t, h1, h2⟩ := h; exact ⟨t, h1.stay hk, h2⟩
theorem TabP.at {m : Int} {N lo hi g c : Nat} {w : World} (h : TabP m N lo hi w (.slice (some ⟨g, 0, none⟩) N c)) {i j : Nat} (q : Nat) (hq : i + q = N) (hij : j < q) :
  ∃ gr cr x, lo ≤ gr ∧ gr < hi ∧ gr ≠ g ∧ w.cell? ⟨g, i, none⟩ = some (.slice (some ⟨gr, 0, none⟩) q cr) ∧ w.cell? ⟨gr, j, none⟩ = some (.int .i64 x) ∧ w.frozen? ⟨gr, j, none⟩ = false ∧ (0 ≤ x ∧ x < m) ∧
    (∀ y, 0 ≤ y → y < m → TabP m N lo hi (w.setCell ⟨gr, j, none⟩ (.int .i64 y)) (.slice (some ⟨g, 0, none⟩) N c)) := by
 obtain ⟨t, h1, h2⟩ := h
 have hl := h2.1
 have hi' : i < t.length := Oo
 have hrow : t[i]? = some t[i] := by simp [hi']
 obtain ⟨o, cr, hc, how, hbl, hset⟩ := h1.at hrow
 obtain ⟨hr1, hr2⟩ := h2.2 i hi'
 rw [show t[i].length = q by omega] at hc how hbl hset
 obtain ⟨gr, rfl, -, -⟩ := how.row Oo
 obtain ⟨b1, b2, b3⟩ := hbl gr rfl
 have hj : j < t[i].length := Oo
 refine ⟨gr, cr, t[i][j], b1, b2, b3, hc, how.cell (by simp [hj]), how.fz j, hr2 _ (List.getElem_mem _), fun y y0 y1 => ⟨_, hset _ _ (by rw [List.length_set]; omega) (qBx w gr j (.int .i64 y)) (how.put j y), h2.put hrow y0 y1⟩⟩
theorem TabP.rows {m : Int} {N lo hi : Nat} {w : World} {v : Value} (h : TabP m N lo hi w v) (h1 : 1 ≤ N) : ∃ g c, v = .slice (some ⟨g, 0, none⟩) N c ∧ lo ≤ g ∧ g < w.heap.size := by
 obtain ⟨t, h2, h3⟩ := h
 have how := h2.ow
 obtain ⟨o, c, rfl⟩ := how.shapeN (n := N) h3.1
 obtain ⟨g, rfl, hg, hg'⟩ := how.row h1
 exact ⟨g, c, rfl, hg, hg'⟩
theorem RowP.stay {m : Int} {n lo hi : Nat} {w w' : World} {v : Value} (h : RowP m n lo w v) (hh : hi = w.heap.size) (hk : ∀ k, lo ≤ k → k < hi → w'.heap[k]? = w.heap[k]?) : RowP m n lo w' v := by
 subst hh
 obtain ⟨xs, h1, h2⟩ := h
 exact ⟨xs, h1.stay (fun b hb => (h1.lt b hb).2) hk, h2⟩
theorem RowP.at {m : Int} {n lo g c : Nat} {w : World} (h : RowP m n lo w (.slice (some ⟨g, 0, none⟩) n c)) {j : Nat} (hj : j < n) :
  ∃ x, w.cell? ⟨g, j, none⟩ = some (.int .i64 x) ∧ w.frozen? ⟨g, j, none⟩ = false ∧ (0 ≤ x ∧ x < m) ∧
    (∀ y, 0 ≤ y → y < m → RowP m n lo (w.setCell ⟨g, j, none⟩ (.int .i64 y)) (.slice (some ⟨g, 0, none⟩) n c)) := by
 obtain ⟨xs, h1, h2, h3⟩ := h
 have hj' : j < xs.length := Oo
 refine ⟨xs[j], h1.cell (by simp [hj']), h1.fz j, h3 _ (List.getElem_mem _), fun y y0 y1 => ⟨_, h1.put j y, by rw [List.length_set]; exact h2, fun x hx => ?_⟩⟩
 rcases List.mem_or_eq_of_mem_set hx with h | rfl
 ·exact h3 x h
 ·exact ⟨y0, y1⟩
theorem RowP.rows {m : Int} {n lo : Nat} {w : World} {v : Value} (h : RowP m n lo w v) (h1 : 1 ≤ n) : ∃ g c, v = .slice (some ⟨g, 0, none⟩) n c ∧ lo ≤ g ∧ g < w.heap.size := by
 obtain ⟨xs, h2, h3, -⟩ := h
 obtain ⟨o, c, rfl⟩ := h2.shapeN (n := n) h3
 obtain ⟨g, rfl, hg, hg'⟩ := h2.row h1
 exact ⟨g, c, rfl, hg, hg'⟩

theorem qHM (m : Int) (D : Nat) (c : Int) (w : World) (hD : 1 ≤ D) (hD' : D ≤ 100) (hm : 2 ≤ m) (hc0 : 0 ≤ c) (hc1 : c < m) :
  Calls Tryz.prog 195 #[.int .i64 m, .int .i64 D, .int .i64 c] w fun e w' => TEnd m (D + 1) w w' e := by
 go_enter Tryz.func195, Tryz.ntmps195
 go_wp2_with fail
 refine (qCL _ (D + 1) _ Oo Oo).mono ?_
 rintro e w1 ⟨v1, rfl, hO, hb⟩
 have hT : TabP m (D + 1) w.heap.size w1.heap.size w1 v1 := ⟨_, hO.toR, qFH Oo _⟩
 clear hO
 obtain ⟨g, c1, rfl, hg1, hg2⟩ := hT.rows Oo
 obtain ⟨r1, cr1, x1, l1, l1', n1, a1, b1, f1, -, s1⟩ := hT.at (i := 1) (j := 0) D Oo Oo
 have hT1 := s1 1 Oo Oo
 obtain ⟨r2, cr2, x2, l2, l2', n2, a2, b2, f2, -, s2⟩ := hT1.at (i := 0) (j := 1) (D + 1) Oo Oo
 have hT2 := s2 1 Oo Oo
 have B1 := qAL (qAL hb l1 (.int .i64 1) (k := 0)) l2 (.int .i64 1) (k := 1)
 have i1 : (1 : Int) < ((D + 1 : Nat) : Int) := Oo
 have i2 : (0 : Int) < ((D + 1 : Nat) : Int) := Oo
 have i3 : (0 : Int) < (D : Int) := Oo
 have i1' : (1 : Int) < (D : Int) + 1 := Oo
 have i2' : (0 : Int) < (D : Int) + 1 := Oo
 clear hT hT1 s1 s2 hb
 by_cases h1 : 1 < D
 ·obtain ⟨r3, cr3, x3, l3, l3', n3, a3, b3, f3, -, s3⟩ := hT2.at (i := 1) (j := 1) D Oo Oo; obtain ⟨t, h1', h2'⟩ := s3 c hc0 hc1; have B2 := qAL B1 l3 (.int .i64 c) (k := 1); have i4 : (1 : Int) < (D : Int) := Oo; clear hT2 s3; go_wp2; go_ret; exact ⟨_, t, rfl, h1'.ow, h2', B2⟩
 ·obtain ⟨t, h1', h2'⟩ := hT2; have i4 : ¬ (1 : Int) < (D : Int) := Oo; go_wp2; go_ret; exact ⟨_, t, rfl, h1'.ow, h2', B1⟩
end
section

def RDr (m : Int) (k : Nat) (w w' : World) (B n b : Nat) (e : Ending) : Prop := ∃ v xs, e = .returned v ∧ OwI w' w.heap.size v xs ∧ xs.length = k ∧ (∀ x ∈ xs, 0 ≤ x ∧ x < m) ∧ DW B n b w w'

theorem qLL (B n b : Nat) (m : Int) (w : World) (hs : Src w B n b) (hm : 2 ≤ m) :
  Calls Tryz.prog 199 #[.pointer (some ⟨b, 0, none⟩), .int .i64 m] w fun e w' => RDr m 5 w w' B n b e := by
 have hlt := hs.lt
 go_enter Tryz.func199, Tryz.ntmps199
 go_wp2_with fail
 have hO0 : OwI (w.alloc (.cells #[] 2)) w.heap.size (.slice (some ⟨w.heap.size, 0, none⟩) 0 0) [] := OwI.lit w [] (Nat.zero_le _)
 have hd0 := (DW.refl hs).alloc (.cells #[] 2)
 generalize w.alloc (.cells #[] 2) = w0 at hO0 hd0 ⊢
 go_loopw [5, 6] (fun v i wr => ∃ (xs : Li) (o : Option Addr) (c : Nat), xs.length ≤ 5 ∧ i = .int .i64 xs.length ∧ v = .slice o xs.length c ∧ OwI wr w.heap.size (.slice o xs.length c) xs ∧ Hid (∀ x ∈ xs, 0 ≤ x ∧ x < m) ∧ DW B n b w wr) (fun _ i _ => 5 - (intOf i).toNat)
 case atStart => exact ⟨[], _, 0, by simp, by go_num, rfl, hO0, dd (by simp), hd0⟩
 case round =>
  clear hO0 hd0; obtain ⟨xs, o, c, hl, rfl, rfl, hO, HX, hD⟩ := hrel
  by_cases hj0 : xs.length < 5
  ·have i1 : (xs.length : Int) < 5 := Oo
   go_wp2_with fail
   refine (qAz B n b m _ hD.src).mono ?_; rintro e w1 ⟨y, rfl, y0, y1, y2, hd1, hz1⟩; have hO1 := hO.dw hd1 hlt; have hD1 := hD.trans hd1; have y1 := y1 Oo; clear y2 hd1 hz1
   go_wp2_with fail
   refine (qCw B n b _ _ [0, 0, 1, y] _ w1 hD1.src Oo rfl rfl (by simp) (by simp)).mono ?_; rintro e w3 ⟨t, rfl, t0, hd3, hz3⟩; have ht : 0 ≤ t ∧ t < m := by simp at t0; omega
   have hO3 := hO1.dw hd3 hlt; have hD3 := hD1.trans hd3; clear t0 hd3 hz3; have hOl := hO3.lt; have hD4 := hD3.alloc (.cells #[.int .i64 t] 2); have hz4 := hD3.size
   go_wp2_with (at_builtin; go_loud (refine apR _ rfl _ _ rfl w.heap.size (.slice o xs.length c) xs rfl (hO3.alloc _) ⟨w3.heap.size, 0, none⟩ 1 1 [t] rfl (OwI.lit w3 [t] (by simp [maxLen])).rd (by simp; omega) (by simp; omega) ?_; intro o4 c4 w4 hO4 hg4 hb4; have hD4 := hD4.grown hg4 (fun k hk => (hOl _ hk).1); clear hg4 hb4 hOl))
   have HX2 := dd (show ∀ x ∈ xs ++ [t], 0 ≤ x ∧ x < m from fun x hx => by
    rcases List.mem_append.1 hx with h | h
    ·exact HX.out x h
    ·rw [List.mem_singleton.1 h]; exact ht)
   exact ⟨⟨xs ++ [t], o4, c4, by simp; omega, by simp, by simp, hO4, HX2, hD4⟩, by simp [intOf]; omega⟩
  ·have hl5 : xs.length = 5 := Oo; have i1 : ¬ (xs.length : Int) < 5 := Oo; have HL := dd hl5; clear hl5; go_wp2; go_ret; exact ⟨_, xs, rfl, hO, HL.out, HX.out, hD⟩

theorem qPA (B n b : Nat) (m : Int) (D : Nat) (w : World) (hs : Src w B n b) (hm : 2 ≤ m) (h1 : 1 ≤ D) (hD1 : D ≤ 100) :
  Calls Tryz.prog 162 #[.pointer (some ⟨b, 0, none⟩), .int .i64 m, .int .i64 D] w fun e w' => RDr m (D + 1) w w' B n b e := by
 have hlt := hs.lt
 go_enter Tryz.func162, Tryz.ntmps162
 go_wp2_with fail
 have hO0 : OwI (w.alloc (.cells #[.int .i64 0, .int .i64 1] 2)) w.heap.size (.slice (some ⟨w.heap.size, 0, none⟩) 2 2) [0, 1] := OwI.lit w [0, 1] (by decide)
 have hd0 := (DW.refl hs).alloc (.cells #[.int .i64 0, .int .i64 1] 2)
 generalize w.alloc (.cells #[.int .i64 0, .int .i64 1] 2) = w0 at hO0 hd0 ⊢
 go_loopw [7, 8] (fun v i wr => ∃ (xs : Li) (o : Option Addr) (c : Nat), (2 ≤ xs.length ∧ xs.length ≤ D + 1) ∧ i = .int .i64 xs.length ∧ v = .slice o xs.length c ∧ OwI wr w.heap.size (.slice o xs.length c) xs ∧ Hid (∀ x ∈ xs, 0 ≤ x ∧ x < m) ∧ DW B n b w wr) (fun _ i _ => D + 1 - (intOf i).toNat)
 case atStart => exact ⟨[0, 1], _, 2, by simp; omega, by simp, rfl, hO0, dd (by simp; omega), hd0⟩
 case round =>
  clear hO0 hd0; obtain ⟨xs, o, c, hl, rfl, rfl, hO, HX, hD⟩ := hrel
  by_cases hj0 : xs.length ≤ D
  ·have i1 : (xs.length : Int) ≤ (D : Int) := Oo
   go_wp2_with fail
   refine (qAz B n b m _ hD.src).mono ?_; rintro e w1 ⟨y, rfl, y0, y1, y2, hd1, hz1⟩; have hO1 := hO.dw hd1 hlt; have hD1 := hD.trans hd1; have y1 := y1 Oo; clear y2 hd1 hz1
   go_wp2_with fail
   refine (qAz B n b m w1 hD1.src).mono ?_; rintro e w2 ⟨z, rfl, z0, z1, z2, hd2, hz2⟩; have hO2 := hO1.dw hd2 hlt; have hD2 := hD1.trans hd2; have z1 := z1 Oo; clear z2 hd2 hz2
   go_wp2_with fail
   refine (qCw B n b _ _ [0, 0, y, z] _ w2 hD2.src Oo rfl rfl (by simp) (by simp)).mono ?_; rintro e w3 ⟨t, rfl, t0, hd3, hz3⟩; have ht : 0 ≤ t ∧ t < m := by simp at t0; omega
   have hO3 := hO2.dw hd3 hlt; have hD3 := hD2.trans hd3; clear t0 hd3 hz3; have hOl := hO3.lt; have hD4 := hD3.alloc (.cells #[.int .i64 t] 2); have hz4 := hD3.size
   go_wp2_with (at_builtin; go_loud (refine apR _ rfl _ _ rfl w.heap.size (.slice o xs.length c) xs rfl (hO3.alloc _) ⟨w3.heap.size, 0, none⟩ 1 1 [t] rfl (OwI.lit w3 [t] (by simp [maxLen])).rd (by simp; omega) (by simp; omega) ?_; intro o4 c4 w4 hO4 hg4 hb4; have hD4 := hD4.grown hg4 (fun k hk => (hOl _ hk).1); clear hg4 hb4 hOl))
   have HX2 := dd (show ∀ x ∈ xs ++ [t], 0 ≤ x ∧ x < m from fun x hx => by
    rcases List.mem_append.1 hx with h | h
    ·exact HX.out x h
    ·rw [List.mem_singleton.1 h]; exact ht)
   exact ⟨⟨xs ++ [t], o4, c4, by simp; omega, by simp, by simp, hO4, HX2, hD4⟩, by simp [intOf]; omega⟩
  ·have hl5 : xs.length = D + 1 := Oo; have i1 : ¬ (xs.length : Int) ≤ (D : Int) := Oo; have HL := dd hl5; clear hl5; go_wp2; go_ret; exact ⟨_, xs, rfl, hO, HL.out, HX.out, hD⟩

theorem qN4 (B n b : Nat) (w : World) (hs : Src w B n b) :
  Calls Tryz.prog 151 #[.pointer (some ⟨b, 0, none⟩)] w fun e w' => ∃ r, e = .returned (.int .i64 r) ∧ (2 ≤ r ∧ r ≤ 10000) ∧ DW B n b w w' := by
 go_enter Tryz.func151, Tryz.ntmps151
 go_wp2_with fail
 refine (qAz B n b _ w hs).mono ?_
 rintro e w1 ⟨r, rfl, r0, r1, r2, hd1, hz1⟩
 have r1 := r1 Oo
 go_wp2_with fail
 refine (qCw B n b _ _ [2, 3, 5, 7, 4, 9, 8, 6, 11, 101, 9973, 2 + r] _ w1 hd1.src Oo rfl rfl (by simp) (by simp)).mono ?_
 rintro e w3 ⟨t, rfl, ht, hd3, hz3⟩
 have ht2 : 2 ≤ t ∧ t ≤ 10000 := by simp at ht; omega
 clear ht
 go_wp2
 go_ret
 exact ⟨_, rfl, ht2, hd1.trans hd3⟩
end
end Go.Proofs.YtfpphfjlpgefaaaGreat
