/- Lemmas of LwP. -/
import Derived.Test.YtcjinlfgeljmkaaWRWvL
import Derived.Test.YtcjinlfgeljmkaaWRWittS
set_option linter.unusedSimpArgs false
set_option linter.unusedVariables false
namespace Go.Proofs.Ytcjinlfgeljmkaa
open Go.RowKit

structure Wt (p m : Int) (n : Nat) (xs : List Int) : Prop where
  ok : wittB p m xs = true
  len : xs.length = n
theorem Wt.mk' {p m : Int} {n : Nat} {xs zs : List Int} (h : Wt p m n xs) (hl : zs.length = n) (hz : ∀ x ∈ zs, 0 ≤ x ∧ x < m) : Wt p m n zs := by
  refine ⟨?_, hl⟩
  have := h.ok
  simp only [wittB, Bool.and_eq_true, List.all_eq_true] at this ⊢
  refine ⟨by rw [hl, ← h.len]; exact this.1, fun x hx => ?_⟩
  have := hz x hx
  simp [inB]; omega
theorem Wt.pos {p m : Int} {n : Nat} {xs : List Int} (h : Wt p m n xs) : 0 < m := by have := witt_m h.ok; omega
theorem Wt.x {p m : Int} {n : Nat} {xs : List Int} (h : Wt p m n xs) : ∀ x ∈ xs, 0 ≤ x ∧ x < m := witt_x h.ok
theorem Wt.n {p m : Int} {n : Nat} {xs : List Int} (h : Wt p m n xs) : 1 ≤ n ∧ n ≤ 4 := by have := witt_len h.ok; rw [h.len] at this; exact this
theorem Wt.op {p m : Int} {n : Nat} {xs ys : List Int} (h : Wt p m n xs) (k : Wt p m n ys) (t : Bool) : Wt p m n (opL p.toNat m xs ys t) ∧ opR t p m xs p m ys = ⟨p, m, opL p.toNat m xs ys t, 0⟩ := by
  refine ⟨h.mk' (by rw [opL_len, h.len]) (FL_range h.pos), ?_⟩
  have : twoC p m xs p m ys = 0 := by simp [twoC, h.ok, k.ok, alikeB, h.len, k.len]
  simp [opR, this]
theorem Wt.neg {p m : Int} {n : Nat} {xs : List Int} (h : Wt p m n xs) : Wt p m n (negL p.toNat m xs) ∧ negR p m xs = ⟨p, m, negL p.toNat m xs, 0⟩ :=
  ⟨h.mk' (by rw [negL_len, h.len]) (FL_range h.pos), by simp [negR, h.ok]⟩
theorem Wt.ghosts {p m : Int} {n : Nat} {xs : List Int} (h : Wt p m n xs) : ghostsR p m xs = ⟨ghL p.toNat m xs n, 0⟩ := by simp [ghostsR, h.ok, h.len]
theorem two_Wt {p m : Int} {xs : List Int} {q l : Int} {ys : List Int} (h : twoC p m xs q l ys = 0) : p = q ∧ m = l ∧ Wt p m xs.length xs ∧ Wt p m xs.length ys := by
  obtain ⟨h1, h2, rfl, rfl, hl⟩ := twoC_0 h
  exact ⟨rfl, rfl, ⟨h1, rfl⟩, ⟨h2, hl⟩⟩
theorem ghL_get {p : Nat} {m : Int} {xs : List Int} {n i : Nat} (hi : i < n) : (ghL p m xs n)[i]? = some (gh p (at0 xs) i % m) := by simp [ghL, hi]

theorem rings_all {p m : Int} {n : Nat} {xa xb xu : List Int} (ha : Wt p m n xa) (hb : Wt p m n xb) (hu : Wt p m n xu) :
    ∃ xp wv l wu vu z nv : List Int, opR true p m xa p m xb = ⟨p, m, xp, 0⟩ ∧ opR false p m xa p m xb = ⟨p, m, wv, 0⟩ ∧ opR true p m wv p m xu = ⟨p, m, l, 0⟩ ∧ opR true p m xa p m xu = ⟨p, m, wu, 0⟩ ∧
      opR true p m xb p m xu = ⟨p, m, vu, 0⟩ ∧ opR false p m wu p m vu = ⟨p, m, l, 0⟩ ∧ opR true p m xp p m xu = ⟨p, m, z, 0⟩ ∧ opR true p m xa p m vu = ⟨p, m, z, 0⟩ ∧
      negR p m xb = ⟨p, m, nv, 0⟩ ∧ opR false p m wv p m nv = ⟨p, m, xa, 0⟩ ∧
      ∃ G H K L : List Int, ghostsR p m xa = ⟨G, 0⟩ ∧ ghostsR p m xb = ⟨H, 0⟩ ∧ ghostsR p m xp = ⟨K, 0⟩ ∧ ghostsR p m wv = ⟨L, 0⟩ ∧ G.length = n ∧ H.length = n ∧ K.length = n ∧ L.length = n ∧
        ∀ i, i < n → ∃ g h : Int, G[i]? = some g ∧ H[i]? = some h ∧ K[i]? = some (g * h % m) ∧ L[i]? = some ((g + h) % m) ∧ 0 ≤ g ∧ g < m ∧ 0 ≤ h ∧ h < m := by
  obtain ⟨hP, hpe⟩ := witt_P4 ha.ok
  have hm := ha.pos
  obtain ⟨kp, ep⟩ := ha.op hb true
  obtain ⟨kwv, ewv⟩ := ha.op hb false
  obtain ⟨kl, el⟩ := kwv.op hu true
  obtain ⟨kwu, ewu⟩ := ha.op hu true
  obtain ⟨kvu, evu⟩ := hb.op hu true
  obtain ⟨_, er⟩ := kwu.op kvu false
  obtain ⟨_, ez⟩ := kp.op hu true
  obtain ⟨_, ez'⟩ := ha.op kvu true
  obtain ⟨kn, en⟩ := hb.neg
  obtain ⟨_, eb⟩ := kwv.op kn false
  rw [← opL_dist hP hm ha.len hb.len hu.len ha.x hb.x hu.x] at er
  rw [← opL_assoc hP hm ha.len hb.len hu.len ha.x hb.x hu.x] at ez'
  rw [opL_back hP hm ha.len hb.len ha.x hb.x] at eb
  refine ⟨_, _, _, _, _, _, _, ep, ewv, el, ewu, evu, er, ez, ez', en, eb, _, _, _, _, ha.ghosts, hb.ghosts, kp.ghosts, kwv.ghosts, ghL_len _ _ _ _, ghL_len _ _ _ _, ghL_len _ _ _ _, ghL_len _ _ _ _, fun i hi => ?_⟩
  have b1 := mod_lt' (a := gh p.toNat (at0 xa) i) hm
  have b2 := mod_lt' (a := gh p.toNat (at0 xb) i) hm
  refine ⟨_, _, ghL_get hi, ghL_get hi, ?_, ?_, b1.1, b1.2, b2.1, b2.2⟩
  · rw [ghL_get hi, opL_ghost hP hm ha.len true hi]; rfl
  · rw [ghL_get hi, opL_ghost hP hm ha.len false hi]; rfl

theorem Wt.frob {p m : Int} {n : Nat} {xs : List Int} (h : Wt p m n xs) (h2 : 2 ≤ n) : Wt p m (n - 1) (frobL p.toNat m xs) ∧ frobR p m xs = ⟨p, m, frobL p.toNat m xs, 0⟩ := by
  have hl : (frobL p.toNat m xs).length = n - 1 := by rw [frobL_len, h.len]
  refine ⟨⟨?_, hl⟩, ?_⟩
  · have hw := h.ok
    have hx := FL_range (p := p.toNat) (m := m) h.pos (n := xs.length - 1) (G := fun k => gh p.toNat (at0 xs) (k + 1))
    have hn := h.n
    simp only [wittB, Bool.and_eq_true, List.all_eq_true] at hw ⊢
    refine ⟨?_, fun x hh => ?_⟩
    · have h1 := hw.1
      simp [shapeB] at h1 ⊢
      refine ⟨h1.1, ?_⟩
      rw [hl]
      simp [inB]; omega
    · have := hx x hh
      simp [inB]; omega
  · have : ((xs.length : Int) == 1) = false := by rw [h.len]; simp; omega
    simp [frobR, h.ok, this]
end Go.Proofs.Ytcjinlfgeljmkaa
