/- Lemmas of LwP. -/
import Derived.Test.YtcjinlfgeljmkaaWMWvL
import Derived.Test.YtcjinlfgeljmkaaWMWittS
set_option linter.unusedSimpArgs false
set_option linter.unusedVariables false
namespace Go.Proofs.Ytcjinlfgeljmkaa
open Go.RowKit

structure Wt (p m : Int) (n : Nat) (xs : List Int) : Prop where
  ok : wittB p m xs = true
  len : xs.length = n
theorem Wt.mk' {p m : Int} {n : Nat} {xs zs : List Int} (h : Wt p m n xs) (hl : zs.length = n) (hz : ∀ x ∈ zs, 0 ≤ x ∧ x < m) : Wt p m n zs := by
  refine ⟨?_, hl⟩
  have := h.ok
  simp only [wittB, Bool.and_eq_true, List.all_eq_true] at this ⊢
  refine ⟨by rw [hl, ← h.len]; exact this.1, fun x hx => ?_⟩
  have := hz x hx
  simp [inB]; omega
theorem Wt.pos {p m : Int} {n : Nat} {xs : List Int} (h : Wt p m n xs) : 0 < m := by have := witt_m h.ok; omega
theorem Wt.x {p m : Int} {n : Nat} {xs : List Int} (h : Wt p m n xs) : ∀ x ∈ xs, 0 ≤ x ∧ x < m := witt_x h.ok
theorem Wt.n {p m : Int} {n : Nat} {xs : List Int} (h : Wt p m n xs) : 1 ≤ n ∧ n ≤ 4 := by have := witt_len h.ok; rw [h.len] at this; exact this
theorem Wt.op {p m : Int} {n : Nat} {xs ys : List Int} (h : Wt p m n xs) (k : Wt p m n ys) (t : Bool) : Wt p m n (opL p.toNat m xs ys t) ∧ opR t p m xs p m ys = ⟨p, m, opL p.toNat m xs ys t, 0⟩ := by
  refine ⟨h.mk' (by rw [opL_len, h.len]) (FL_range h.pos), ?_⟩
  have : twoC p m xs p m ys = 0 := by simp [twoC, h.ok, k.ok, alikeB, h.len, k.len]
  simp [opR, this]
theorem Wt.neg {p m : Int} {n : Nat} {xs : List Int} (h : Wt p m n xs) : Wt p m n (negL p.toNat m xs) ∧ negR p m xs = ⟨p, m, negL p.toNat m xs, 0⟩ :=
  ⟨h.mk' (by rw [negL_len, h.len]) (FL_range h.pos), by simp [negR, h.ok]⟩
theorem Wt.ghosts {p m : Int} {n : Nat} {xs : List Int} (h : Wt p m n xs) : ghostsR p m xs = ⟨ghL p.toNat m xs n, 0⟩ := by simp [ghostsR, h.ok, h.len]
theorem repr_Wt {p m n c : Int} (h : (shapeB p m n && inB c 0 (m - 1)) = true) : Wt p m n.toNat (reprL n.toNat c) ∧ reprR p m n c = ⟨p, m, reprL n.toNat c, 0⟩ := by
  have h' := h
  simp only [Bool.and_eq_true] at h'
  have hn := shape_n h'.1
  have hm := shape_m h'.1
  have hc := inB_t h'.2
  refine ⟨⟨?_, by simp [reprL]⟩, by simp [reprR, h]⟩
  simp only [wittB, Bool.and_eq_true, List.all_eq_true]
  have hl : (reprL n.toNat c).length = n.toNat := by simp [reprL]
  refine ⟨by rw [hl, Int.toNat_of_nonneg (by omega)]; exact h'.1, fun x hx => ?_⟩
  obtain ⟨i, hi, rfl⟩ := List.getElem_of_mem hx
  have e := at_repr (n := n.toNat) (by omega) c i
  have e2 : at0 (reprL n.toNat c) i = (reprL n.toNat c)[i] := by unfold at0; simp [List.getD, hi]
  rw [e2] at e
  rw [e]
  split
  · exact h'.2
  · simp [inB]; omega
theorem repr_all {p m n a b : Int} (h : (shapeB p m n && inB a 0 (m - 1)) = true) (hb0 : 0 ≤ b) (hb1 : b < m) : ∃ X Y Z : List Int, reprR p m n a = ⟨p, m, X, 0⟩ ∧ reprR p m n b = ⟨p, m, Y, 0⟩ ∧
    opR true p m X p m Y = ⟨p, m, Z, 0⟩ ∧ reprR p m n (a * b % m) = ⟨p, m, Z, 0⟩ ∧ 2 ≤ m ∧ m ≤ 10000 ∧ 0 ≤ a ∧ a < m := by
  have h' := h
  simp only [Bool.and_eq_true] at h'
  have hn := shape_n h'.1
  have hm := shape_m h'.1
  have ha := inB_t h'.2
  obtain ⟨w1, e1⟩ := repr_Wt h
  obtain ⟨w2, e2⟩ := repr_Wt (p := p) (m := m) (n := n) (c := b) (by simp only [Bool.and_eq_true]; exact ⟨h'.1, by simp [inB]; omega⟩)
  have hr := mod_lt' (a := a * b) (show 0 < m by omega)
  obtain ⟨w3, e3⟩ := repr_Wt (p := p) (m := m) (n := n) (c := a * b % m) (by simp only [Bool.and_eq_true]; exact ⟨h'.1, by simp [inB]; omega⟩)
  obtain ⟨_, e4⟩ := w1.op w2 true
  obtain ⟨hP, hpe⟩ := witt_P4 w1.ok
  rw [repr_mul hP (by omega) (by omega)] at e4
  exact ⟨_, _, _, e1, e2, e4, e3, hm.1, hm.2, by omega, by omega⟩
theorem Wt.frob {p m : Int} {n : Nat} {xs : List Int} (h : Wt p m n xs) (h2 : 2 ≤ n) : Wt p m (n - 1) (frobL p.toNat m xs) ∧ frobR p m xs = ⟨p, m, frobL p.toNat m xs, 0⟩ := by
  have hl : (frobL p.toNat m xs).length = n - 1 := by rw [frobL_len, h.len]
  refine ⟨⟨?_, hl⟩, ?_⟩
  · have hw := h.ok
    have hx := FL_range (p := p.toNat) (m := m) h.pos (n := xs.length - 1) (G := fun k => gh p.toNat (at0 xs) (k + 1))
    have hn := h.n
    simp only [wittB, Bool.and_eq_true, List.all_eq_true] at hw ⊢
    refine ⟨?_, fun x hh => ?_⟩
    · have h1 := hw.1
      simp [shapeB] at h1 ⊢
      refine ⟨h1.1, ?_⟩
      rw [hl]
      simp [inB]; omega
    · have := hx x hh
      simp [inB]; omega
  · have : ((xs.length : Int) == 1) = false := by rw [h.len]; simp; omega
    simp [frobR, h.ok, this]
theorem maps_all {p m : Int} {n : Nat} {xa xv : List Int} (ha : Wt p m n xa) (hv : Wt p m n xv) (h2 : 2 ≤ n) :
    ∃ xf xg xw xb xs xc xi : List Int, frobR p m xa = ⟨p, m, xf, 0⟩ ∧ frobR p m xv = ⟨p, m, xg, 0⟩ ∧ opR true p m xa p m xv = ⟨p, m, xw, 0⟩ ∧ frobR p m xw = ⟨p, m, xb, 0⟩ ∧
      opR true p m xf p m xg = ⟨p, m, xb, 0⟩ ∧ shiftR p m xv = ⟨p, m, xs, 0⟩ ∧ opR true p m xa p m xs = ⟨p, m, [0] ++ xi, 0⟩ ∧ cutR p m xv ((n : Int) - 1) = ⟨p, m, xc, 0⟩ ∧ opR true p m xf p m xc = ⟨p, m, xi, 0⟩ ∧ xi.length = n - 1 := by
  obtain ⟨hP, hpe⟩ := witt_P4 ha.ok
  have hm := ha.pos
  obtain ⟨k, rfl⟩ : ∃ k, n = k + 1 := ⟨n - 1, by omega⟩
  obtain ⟨wf, ef⟩ := ha.frob h2
  obtain ⟨wg, eg⟩ := hv.frob h2
  obtain ⟨ww, ew⟩ := ha.op hv true
  obtain ⟨wb, eb⟩ := ww.frob h2
  obtain ⟨_, efg⟩ := wf.op wg true
  have hs : Wt p m (k + 1) ([0] ++ xv.take k) := ha.mk' (by simp [hv.len]) (fun x hx => by
    simp only [List.singleton_append, List.mem_cons] at hx
    rcases hx with rfl | hx
    · omega
    · exact hv.x x (List.mem_of_mem_take hx))
  obtain ⟨_, el⟩ := ha.op hs true
  have hc : Wt p m k (xv.take k) := ⟨by
    have hw := wf.ok
    simp only [wittB, Bool.and_eq_true, List.all_eq_true] at hw ⊢
    refine ⟨by rw [show (xv.take k).length = k by simp [hv.len]]; rw [wf.len] at hw; exact hw.1, fun x hx => ?_⟩
    have := hv.x x (List.mem_of_mem_take hx)
    simp [inB]; omega, by simp [hv.len]⟩
  have wf' : Wt p m k (frobL p.toNat m xa) := wf
  obtain ⟨_, ei⟩ := wf'.op hc true
  rw [mul_shift hP hm ha.len hv.len ha.x hv.x] at el
  rw [← frob_mul hP hm ha.len hv.len] at efg
  refine ⟨_, _, _, _, _, _, _, ef, eg, ew, eb, efg, ?_, el, ?_, ei, by rw [opL_len, wf'.len]; omega⟩
  · simp [shiftR, hv.ok, hv.len]
  · have : inB (((k + 1 : Nat) : Int) - 1) 1 xv.length = true := by rw [hv.len]; simp [inB]; omega
    simp only [cutR, hv.ok, if_true, this]
    rw [show ((((k + 1 : Nat) : Int) - 1).toNat) = k by omega]
end Go.Proofs.Ytcjinlfgeljmkaa
