/- Lemmas of PlaX. -/
import Derived.Test.YtoednonijmkbjaaGreatVG15
import Derived.Test.YtoednonijmkbjaaGreatVPlaR
import Derived.Test.YtoednonijmkbjaaGreatVG2
set_option linter.unusedSimpArgs false
set_option linter.unusedVariables false
namespace Go.Proofs.YtoednonijmkbjaaGreat
open Go.RowKit

def RdM (w : World) (v : Value) (l : List (Int × List Int)) : Prop :=
  ∃ o c, v = .slice o l.length c ∧ (l.length ≤ maxLen ∧ l.length ≤ c ∧ (o = none → c = 0)) ∧
    (∀ (k : Nat) (p : Int × List Int), l[k]? = some p → ∃ b off u, o = some ⟨b, off, none⟩ ∧ w.cell? ⟨b, off + k * 2, none⟩ = some (.int .i64 p.1) ∧ w.cell? ⟨b, off + k * 2 + 1, none⟩ = some u ∧ RdI w u p.2)
theorem RdM.below {B : Nat} {w w' : World} {v : Value} {l : List (Int × List Int)} (h : RdM w v l) (hb : Below B w w') (hB : w.heap.size ≤ B) : RdM w' v l := by
  obtain ⟨o, c, rfl, hm, hc⟩ := h
  refine ⟨o, c, rfl, hm, fun k row hx => ?_⟩
  obtain ⟨b, off, u, ho, h0, h1, hr⟩ := hc k row hx
  exact ⟨b, off, u, ho, keep_cell hb hB h0, keep_cell hb hB h1, hr.below hb hB⟩
theorem RdM.len {w : World} {o : Option Addr} {n c : Nat} {l : List (Int × List Int)} (h : RdM w (.slice o n c) l) : n = l.length ∧ l.length ≤ maxLen ∧ l.length ≤ c := by
  obtain ⟨o', c', heq, hm, hc⟩ := h
  obtain ⟨rfl, rfl, rfl⟩ : o = o' ∧ n = l.length ∧ c = c' := by simpa using heq
  exact ⟨rfl, hm.1, hm.2.1⟩
theorem RdM.base {w : World} {o : Option Addr} {n c : Nat} {l : List (Int × List Int)} (h : RdM w (.slice o n c) l) (hx : 1 ≤ l.length) : ∃ b off, o = some ⟨b, off, none⟩ := by
  obtain ⟨o', c', heq, hm, hc⟩ := h
  obtain ⟨rfl, rfl, rfl⟩ : o = o' ∧ n = l.length ∧ c = c' := by simpa using heq
  obtain ⟨b, off, u, ho, -⟩ := hc 0 l[0] (by simp)
  exact ⟨b, off, ho⟩
theorem RdM.at {w : World} {b off n c : Nat} {l : List (Int × List Int)} (h : RdM w (.slice (some ⟨b, off, none⟩) n c) l) {k : Nat} (hk : k < l.length) :
    ∃ o c, w.cell? ⟨b, off + k * 2, none⟩ = some (.int .i64 l[k].1) ∧ w.cell? ⟨b, off + k * 2 + 1, none⟩ = some (.slice o l[k].2.length c) ∧ RdI w (.slice o l[k].2.length c) l[k].2 := by
  obtain ⟨o', c', heq, hm, hc⟩ := h
  obtain ⟨rfl, -, -⟩ : some ⟨b, off, none⟩ = o' ∧ n = l.length ∧ c = c' := by simpa using heq
  obtain ⟨b', off', u, ho, h0, h1, h2⟩ := hc k l[k] (by simp [hk])
  obtain ⟨rfl, rfl⟩ : b = b' ∧ off = off' := by simpa using ho
  obtain ⟨o, c, he, -, -⟩ := id h2
  rw [he] at h1 h2
  exact ⟨o, c, h0, h1, h2⟩
theorem RdM.lit1 (w : World) (m : Int) (u : Value) (xs : List Int) (hu : RdI w u xs) : RdM (w.alloc (.cells #[.int .i64 m, u] 28)) (.slice (some ⟨w.heap.size, 0, none⟩) 1 1) [(m, xs)] := by
  have hb : Below w.heap.size w (w.alloc (.cells #[.int .i64 m, u] 28)) := (Below.refl _ _).alloc (Nat.le_refl _) _
  refine ⟨_, _, rfl, ⟨by simp [maxLen], by simp, fun h => by cases h⟩, fun k p hk => ?_⟩
  have : k = 0 := by have := (List.getElem?_eq_some_iff.1 hk).1; simp at this; omega
  subst this
  simp at hk
  subst hk
  exact ⟨_, 0, u, rfl, by simp, by simp, hu.below hb (Nat.le_refl _)⟩
end Go.Proofs.YtoednonijmkbjaaGreat
