/- Lemmas. -/
import Derived.Test.YtfpphfjlpgefaaaGreatDoorQCG2
import Derived.ProofKit
import Derived.Lib.SmallJoins
import Derived.Deep.Matrix
set_option linter.unusedSimpArgs false
set_option linter.unusedVariables false
namespace Go.Proofs.YtfpphfjlpgefaaaGreatDoor
open Go.RowKit
open Go.ChangeShapes Go.WideShapes Go.ChangeAt Go.Joins

theorem Tryz.own : ownKnob Tryz.prog.godebug = none := by kernel_rfl
theorem Tryz.laidOut : laidOutB Tryz.prog = true := by kernel_rfl
theorem Tryz.cellsI : Tryz.prog.cellsOf 2 = 1 := by kernel_rfl

theorem trodAll_below {H : Type} {enc : TypeId × Value → H} {P : Program} {W W' : World} (hl : laidOutB P = true) :
    ∀ {ts : List TypeId} {vs : List Value} {ds : List (DataW H)} {ps : List MemPlace}, (ts.all fun t => P.readableRec t && decide (t < P.types.size)) = true →
      DataW.TrodAll enc P W 0 (fun _ => true) true ts vs ds ps → Below W.heap.size W W' → (∀ x ∈ ps, x.block < W.heap.size) → DataW.TrodAll enc P W' 0 (fun b => decide (b < W.heap.size)) true ts vs ds ps
  | [], [], [], _, _, h, _, _ => h
  | t :: ts, _ :: _, _ :: _, _, hT, ⟨p, q, h1, h2, e⟩, hb, hs => by
    simp only [List.all_cons, Bool.and_eq_true, decide_eq_true_eq] at hT
    exact ⟨p, q, Below.trod hl hT.1.1 hT.1.2 h1 hb (fun x hx => hs x (by rw [e]; exact List.mem_append_left _ hx)), trodAll_below hl hT.2 h2 hb (fun x hx => hs x (by rw [e]; exact List.mem_append_right _ hx)), e⟩

theorem Tryz.cellsL : Tryz.prog.cellsOf 35 = 1 := by kernel_rfl
theorem Tryz.cellsP : Tryz.prog.cellsOf 24 = 2 := by kernel_rfl
theorem cells_plain {w : World} {a : Addr} {n : Nat} {f : Nat → Value} (h : ∀ i, i < n → w.cell? (a.add i) = some (f i)) (hp : 0 < n) :
    ∃ b off, a = ⟨b, off, none⟩ ∧ ∀ j, j < n → w.cell? ⟨b, off + j, none⟩ = some (f j) := by
  obtain ⟨b, off, spot⟩ := a
  have hspot : spot = none := by simpa [Addr.add] using World.cell?_spot (h 0 hp)
  subst hspot
  exact ⟨b, off, rfl, fun j hj => by rw [← Go.WideShapes.add_plain]; exact h j hj⟩
theorem rdT_of_trod {H : Type} {enc : TypeId × Value → H} {W : World} {fuel : Nat} {v : Value} {y : DataW H × List MemPlace}
    (h : DataW.trod enc Tryz.prog W 0 (fun _ => true) true fuel 22 [v] = some y) : ∃ xss : List (List Int), RdT W v xss := by
  rcases Deep.open_int_rows Tryz.underlying22 Tryz.underlying35 Tryz.underlying2 Tryz.cellsL Tryz.cellsI h with ⟨hcs, hx⟩ | ⟨a, len, cap, A, L, C, Z, hcs, _, hl, hm, hx, hrow⟩
  · simp only [List.cons.injEq, and_true] at hcs
    subst hcs
    exact ⟨[], none, 0, rfl, ⟨Nat.zero_le _, Nat.zero_le _, fun _ => rfl⟩, fun k row hx => by simp at hx⟩
  · simp only [List.cons.injEq, and_true] at hcs
    subst hcs
    refine ⟨(List.range len).map (fun r => (Z r).take (L r)), some a, cap, by simp, ⟨by simp; omega, by simp; omega, fun h => by cases h⟩, fun k row hk => ?_⟩
    have hkl : k < len := by have := (List.getElem?_eq_some_iff.1 hk).1; simpa using this
    have hrk : row = (Z k).take (L k) := by simp [hkl] at hk; exact hk.symm
    obtain ⟨b, off, rfl, hc⟩ := cells_plain (fun i hi => (hrow i hi).1) (show 0 < cap by omega)
    obtain ⟨-, h1, h2, h3, -, h4, h5⟩ := hrow k (by omega)
    refine ⟨b, off, .slice (A k) (L k) (C k), rfl, hc k (by omega), A k, C k, by rw [hrk]; simp; omega, ⟨by rw [hrk]; simp; omega, by rw [hrk]; simp; omega, h4⟩, fun j x hx => ?_⟩
    rw [hrk] at hx
    have hj : j < L k := by have := (List.getElem?_eq_some_iff.1 hx).1; simp at this; omega
    cases hA : A k with
    | none => have := h4 hA; omega
    | some a' =>
      obtain ⟨-, h6⟩ := h5 a' hA
      obtain ⟨b', off', rfl, hc'⟩ := cells_plain (fun i hi => h6 i hi) (show 0 < C k by omega)
      refine ⟨b', off', rfl, ?_⟩
      rw [hc' j (by omega)]
      rw [List.getElem?_take, if_pos hj] at hx
      simp [List.getD, hx]
set_option maxRecDepth 100000 in
theorem open_plane {H : Type} {enc : TypeId × Value → H} {W : World} {r : Reach} {b0 : Nat} {v : Value} {d : DataW H} {ps : List MemPlace}
    (hv : Value.okWide Tryz.prog W r b0 24 v) (h : DataW.Trod enc Tryz.prog W 0 (fun _ => true) true 24 v d ps) :
    ∃ (m : Int) (u : Value) (xss : List (List Int)), v = .agg #[.int .i64 m, u] ∧ RdT W u xss := by
  obtain ⟨c0, c1, y0, y1, n, rfl, rfl, rfl, hy0, hy1⟩ := open_agg2 Tryz.underlying24 (by kernel_rfl) Tryz.cellsP hv h
  obtain ⟨a, e0, rfl, wa⟩ := DataW.trod_int Tryz.underlying2 hy0
  simp at e0
  subst e0
  obtain ⟨xss, hrd⟩ := rdT_of_trod hy1
  exact ⟨a, c1, xss, rfl, hrd⟩

end Go.Proofs.YtfpphfjlpgefaaaGreatDoor
