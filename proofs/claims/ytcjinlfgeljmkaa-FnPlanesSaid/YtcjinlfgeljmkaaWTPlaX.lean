/- Lemmas of PlaX. -/
import Derived.Test.YtcjinlfgeljmkaaWTPlaO
import Derived.Test.YtcjinlfgeljmkaaWTG2
set_option linter.unusedSimpArgs false
set_option linter.unusedVariables false
namespace Go.Proofs.Ytcjinlfgeljmkaa
open Go.RowKit

def RdM (w : World) (v : Value) (l : List (Int × List Int)) : Prop :=
  ∃ o c, v = .slice o l.length c ∧ (l.length ≤ maxLen ∧ l.length ≤ c ∧ (o = none → c = 0)) ∧
    (∀ (k : Nat) (p : Int × List Int), l[k]? = some p → ∃ b off u, o = some ⟨b, off, none⟩ ∧ w.cell? ⟨b, off + k * 2, none⟩ = some (.int .i64 p.1) ∧ w.cell? ⟨b, off + k * 2 + 1, none⟩ = some u ∧ RdI w u p.2)
theorem RdM.below {B : Nat} {w w' : World} {v : Value} {l : List (Int × List Int)} (h : RdM w v l) (hb : Below B w w') (hB : w.heap.size ≤ B) : RdM w' v l := by
  obtain ⟨o, c, rfl, hm, hc⟩ := h
  refine ⟨o, c, rfl, hm, fun k row hx => ?_⟩
  obtain ⟨b, off, u, ho, h0, h1, hr⟩ := hc k row hx
  exact ⟨b, off, u, ho, keep_cell hb hB h0, keep_cell hb hB h1, hr.below hb hB⟩
theorem RdM.len {w : World} {o : Option Addr} {n c : Nat} {l : List (Int × List Int)} (h : RdM w (.slice o n c) l) : n = l.length ∧ l.length ≤ maxLen ∧ l.length ≤ c := by
  obtain ⟨o', c', heq, hm, hc⟩ := h
  obtain ⟨rfl, rfl, rfl⟩ : o = o' ∧ n = l.length ∧ c = c' := by simpa using heq
  exact ⟨rfl, hm.1, hm.2.1⟩
theorem RdM.base {w : World} {o : Option Addr} {n c : Nat} {l : List (Int × List Int)} (h : RdM w (.slice o n c) l) (hx : 1 ≤ l.length) : ∃ b off, o = some ⟨b, off, none⟩ := by
  obtain ⟨o', c', heq, hm, hc⟩ := h
  obtain ⟨rfl, rfl, rfl⟩ : o = o' ∧ n = l.length ∧ c = c' := by simpa using heq
  obtain ⟨b, off, u, ho, -⟩ := hc 0 l[0] (by simp)
  exact ⟨b, off, ho⟩
theorem RdM.at {w : World} {b off n c : Nat} {l : List (Int × List Int)} (h : RdM w (.slice (some ⟨b, off, none⟩) n c) l) {k : Nat} (hk : k < l.length) :
    ∃ o c, w.cell? ⟨b, off + k * 2, none⟩ = some (.int .i64 l[k].1) ∧ w.cell? ⟨b, off + k * 2 + 1, none⟩ = some (.slice o l[k].2.length c) ∧ RdI w (.slice o l[k].2.length c) l[k].2 := by
  obtain ⟨o', c', heq, hm, hc⟩ := h
  obtain ⟨rfl, -, -⟩ : some ⟨b, off, none⟩ = o' ∧ n = l.length ∧ c = c' := by simpa using heq
  obtain ⟨b', off', u, ho, h0, h1, h2⟩ := hc k l[k] (by simp [hk])
  obtain ⟨rfl, rfl⟩ : b = b' ∧ off = off' := by simpa using ho
  obtain ⟨o, c, he, -, -⟩ := id h2
  rw [he] at h1 h2
  exact ⟨o, c, h0, h1, h2⟩
theorem RdM.lit1 (w : World) (m : Int) (u : Value) (xs : List Int) (hu : RdI w u xs) : RdM (w.alloc (.cells #[.int .i64 m, u] 26)) (.slice (some ⟨w.heap.size, 0, none⟩) 1 1) [(m, xs)] := by
  have hb : Below w.heap.size w (w.alloc (.cells #[.int .i64 m, u] 26)) := (Below.refl _ _).alloc (Nat.le_refl _) _
  refine ⟨_, _, rfl, ⟨by simp [maxLen], by simp, fun h => by cases h⟩, fun k p hk => ?_⟩
  have : k = 0 := by have := (List.getElem?_eq_some_iff.1 hk).1; simp at this; omega
  subst this
  simp at hk
  subst hk
  exact ⟨_, 0, u, rfl, by simp, by simp, hu.below hb (Nat.le_refl _)⟩
def fitB (m : Int) (n : Nat) (p : Int × List Int) : Bool := (m == p.1) && ((n : Int) == (p.2.length : Int))
def fitR (m : Int) (xss : List (List Int)) (l : List (Int × List Int)) : Int :=
  if plaB m xss then (if l.all (fun p => serB p.1 p.2) then (if l.all (fitB m xss.length) then 0 else 2) else 1) else 1

set_option maxHeartbeats 1000000 in
set_option maxRecDepth 100000 in
theorem fits_c (m n : Int) (v u : Value) (xs : List (List Int)) (ys : List Int) (w : World) (hv : RdT w v xs) (hu : RdI w u ys) :
    Calls Try.prog 220 #[.agg #[.int .i64 m, v], .agg #[.int .i64 n, u]] w fun e w' => e = .returned (.bool (fitB m xs.length (n, ys))) ∧ Below w.heap.size w w' := by
  obtain ⟨o, c, rfl, hm, -⟩ := id hv
  obtain ⟨o', c', rfl, hm', -⟩ := id hu
  have hl1 := hm.1
  have hl2 := hm'.1
  unfold maxLen at hm hm'
  have e2 : ((xs.length : Int) - 1 == (ys.length : Int) - 1) = ((xs.length : Int) == (ys.length : Int)) := by
    rw [Bool.eq_iff_iff]; simp only [beq_iff_eq]; omega
  cases h1 : (m == n)
  · go_enter Try.func220, Try.ntmps220
    go_wp2_with fail
    (have X0 := ((RB2.mk1 w  (.int .i64 m) (.slice o xs.length c) 42).1).below (w' := ((w.alloc (.cells #[.int .i64 m, .slice o xs.length c] 42)).alloc (.cells #[.int .i64 n, .slice o' ys.length c'] 26))) (by (repeat (first | exact Below.refl _ _ | (refine Below.setCell ?_ (by first | (simp; done) | (simp; omega) | omega) _) | (refine Below.alloc ?_ (by first | (simp; done) | (simp; omega) | omega) _) | (refine below_drewN ?_ _) | (refine Below.drew ?_)))) (Nat.le_refl _); have Y0 := ((RB2.mk2 w (.cells #[.int .i64 m, .slice o xs.length c] 42) (.int .i64 n) (.slice o' ys.length c') 26).1).below (w' := ((w.alloc (.cells #[.int .i64 m, .slice o xs.length c] 42)).alloc (.cells #[.int .i64 n, .slice o' ys.length c'] 26))) (by (repeat (first | exact Below.refl _ _ | (refine Below.setCell ?_ (by first | (simp; done) | (simp; omega) | omega) _) | (refine Below.alloc ?_ (by first | (simp; done) | (simp; omega) | omega) _) | (refine below_drewN ?_ _) | (refine Below.drew ?_)))) (Nat.le_refl _); have B0 : Below w.heap.size w ((w.alloc (.cells #[.int .i64 m, .slice o xs.length c] 42)).alloc (.cells #[.int .i64 n, .slice o' ys.length c'] 26)) := (by (repeat (first | exact Below.refl _ _ | (refine Below.setCell ?_ (by first | (simp; done) | (simp; omega) | omega) _) | (refine Below.alloc ?_ (by first | (simp; done) | (simp; omega) | omega) _) | (refine below_drewN ?_ _) | (refine Below.drew ?_)))); have hv0 := hv.below (w' := ((w.alloc (.cells #[.int .i64 m, .slice o xs.length c] 42)).alloc (.cells #[.int .i64 n, .slice o' ys.length c'] 26))) (by (repeat (first | exact Below.refl _ _ | (refine Below.setCell ?_ (by first | (simp; done) | (simp; omega) | omega) _) | (refine Below.alloc ?_ (by first | (simp; done) | (simp; omega) | omega) _) | (refine below_drewN ?_ _) | (refine Below.drew ?_)))) (Nat.le_refl _); have hu0 := hu.below (w' := ((w.alloc (.cells #[.int .i64 m, .slice o xs.length c] 42)).alloc (.cells #[.int .i64 n, .slice o' ys.length c'] 26))) (by (repeat (first | exact Below.refl _ _ | (refine Below.setCell ?_ (by first | (simp; done) | (simp; omega) | omega) _) | (refine Below.alloc ?_ (by first | (simp; done) | (simp; omega) | omega) _) | (refine below_drewN ?_ _) | (refine Below.drew ?_)))) (Nat.le_refl _); generalize (w.alloc (.cells #[.int .i64 m, .slice o xs.length c] 42)).alloc (.cells #[.int .i64 n, .slice o' ys.length c'] 26) = w0 at X0 Y0 B0 hv0 hu0 ⊢)
    obtain ⟨x0, x1⟩ := id X0
    obtain ⟨y0, y1⟩ := id Y0
    go_quiet (fail)
    go_wp2
    go_ret
    exact ⟨by simp only [fitB, h1]; rfl, below_drewN B0 _⟩
  · have E1 := Lib.hid e2
    clear e2
    go_enter Try.func220, Try.ntmps220
    go_wp2_with fail
    (have X0 := ((RB2.mk1 w  (.int .i64 m) (.slice o xs.length c) 42).1).below (w' := ((w.alloc (.cells #[.int .i64 m, .slice o xs.length c] 42)).alloc (.cells #[.int .i64 n, .slice o' ys.length c'] 26))) (by (repeat (first | exact Below.refl _ _ | (refine Below.setCell ?_ (by first | (simp; done) | (simp; omega) | omega) _) | (refine Below.alloc ?_ (by first | (simp; done) | (simp; omega) | omega) _) | (refine below_drewN ?_ _) | (refine Below.drew ?_)))) (Nat.le_refl _); have Y0 := ((RB2.mk2 w (.cells #[.int .i64 m, .slice o xs.length c] 42) (.int .i64 n) (.slice o' ys.length c') 26).1).below (w' := ((w.alloc (.cells #[.int .i64 m, .slice o xs.length c] 42)).alloc (.cells #[.int .i64 n, .slice o' ys.length c'] 26))) (by (repeat (first | exact Below.refl _ _ | (refine Below.setCell ?_ (by first | (simp; done) | (simp; omega) | omega) _) | (refine Below.alloc ?_ (by first | (simp; done) | (simp; omega) | omega) _) | (refine below_drewN ?_ _) | (refine Below.drew ?_)))) (Nat.le_refl _); have B0 : Below w.heap.size w ((w.alloc (.cells #[.int .i64 m, .slice o xs.length c] 42)).alloc (.cells #[.int .i64 n, .slice o' ys.length c'] 26)) := (by (repeat (first | exact Below.refl _ _ | (refine Below.setCell ?_ (by first | (simp; done) | (simp; omega) | omega) _) | (refine Below.alloc ?_ (by first | (simp; done) | (simp; omega) | omega) _) | (refine below_drewN ?_ _) | (refine Below.drew ?_)))); have hv0 := hv.below (w' := ((w.alloc (.cells #[.int .i64 m, .slice o xs.length c] 42)).alloc (.cells #[.int .i64 n, .slice o' ys.length c'] 26))) (by (repeat (first | exact Below.refl _ _ | (refine Below.setCell ?_ (by first | (simp; done) | (simp; omega) | omega) _) | (refine Below.alloc ?_ (by first | (simp; done) | (simp; omega) | omega) _) | (refine below_drewN ?_ _) | (refine Below.drew ?_)))) (Nat.le_refl _); have hu0 := hu.below (w' := ((w.alloc (.cells #[.int .i64 m, .slice o xs.length c] 42)).alloc (.cells #[.int .i64 n, .slice o' ys.length c'] 26))) (by (repeat (first | exact Below.refl _ _ | (refine Below.setCell ?_ (by first | (simp; done) | (simp; omega) | omega) _) | (refine Below.alloc ?_ (by first | (simp; done) | (simp; omega) | omega) _) | (refine below_drewN ?_ _) | (refine Below.drew ?_)))) (Nat.le_refl _); generalize (w.alloc (.cells #[.int .i64 m, .slice o xs.length c] 42)).alloc (.cells #[.int .i64 n, .slice o' ys.length c'] 26) = w0 at X0 Y0 B0 hv0 hu0 ⊢)
    obtain ⟨x0, x1⟩ := id X0
    obtain ⟨y0, y1⟩ := id Y0
    have hX := X0
    have hY := Y0
    go_region_held3 (fun w' => w'.cell? ⟨w.heap.size, 0, none⟩ = some (.int .i64 m) ∧ w'.cell? ⟨w.heap.size, 1, none⟩ = some (.slice o xs.length c) ∧ w'.cell? ⟨w.heap.size + 1, 0, none⟩ = some (.int .i64 n) ∧ w'.cell? ⟨w.heap.size + 1, 1, none⟩ = some (.slice o' ys.length c')) (go_keep)
      (first
        | (go_at_call 157; refine (degreeP_c m o xs.length c _ hl1).mono ?_; rintro e w1 ⟨rfl, hb1⟩; have hX1 := (by first | exact (show Box2 w0.drew _ _ _ from hX).below hb1 (Nat.le_refl _) | exact hX2.below hb1 (Nat.le_refl _)); have hY1 := (by first | exact (show Box2 w0.drew _ _ _ from hY).below hb1 (Nat.le_refl _) | exact hY2.below hb1 (Nat.le_refl _)); obtain ⟨a1, a2⟩ := id hX1; obtain ⟨b1, b2⟩ := id hY1)
        | (go_at_call 108; refine (degreeS_c n o' ys.length c' _ hl2).mono ?_; rintro e w2 ⟨rfl, hb2⟩; have hX2 := (by first | exact (show Box2 w0.drew _ _ _ from hX).below hb2 (Nat.le_refl _) | exact hX1.below hb2 (Nat.le_refl _)); have hY2 := (by first | exact (show Box2 w0.drew _ _ _ from hY).below hb2 (Nat.le_refl _) | exact hY1.below hb2 (Nat.le_refl _)); obtain ⟨a3, a4⟩ := id hX2; obtain ⟨b3, b4⟩ := id hY2))
    have s0 := B0.size
    have s1 := hb1.size
    have s2 := hb2.size
    simp at s1
    go_wp2
    go_ret
    exact ⟨by rw [E1.out]; simp only [fitB, h1]; rfl, (by (repeat (first | exact Below.refl _ _ | (refine Below.setCell ?_ (by first | (simp; done) | (simp; omega) | omega) _) | (refine Below.alloc ?_ (by first | (simp; done) | (simp; omega) | omega) _) | (refine below_drewN ?_ _) | (refine Below.drew ?_) | (refine Below.trans ?_ (Below.mono hb2 (by first | (simp; done) | (simp; omega) | omega))) | (refine Below.trans ?_ (Below.mono hb1 (by first | (simp; done) | (simp; omega) | omega))) | (refine Below.trans ?_ (Below.mono B0 (by first | (simp; done) | (simp; omega) | omega))))))⟩

end Go.Proofs.Ytcjinlfgeljmkaa
