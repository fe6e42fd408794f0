/- Lemmas of LinF. -/
import Derived.Test.YtmmneicblcjkjaaQG1
set_option linter.unusedSimpArgs false
set_option linter.unusedVariables false
namespace Go.Proofs.Ytmmneicblcjkjaa
open Go
section
variable {P : Program} {ops : Array Oper} {Q : Exit → Act → World → Prop} {md : Region.Mode} {S : World → Prop} {ex : List Nat}

def wpFl (P : Program) (md : Region.Mode) (ops : Array Oper) (Q : Exit → Act → World → Prop) (S : World → Prop) (ex : List Nat) (f : Nat) (Bx : World → Nat → Prop) (x0 : Value) (fuel : Nat) (listed : Array Bool) (A : Value → Act) (w : World) : Prop :=
  wpAnyK P md ops Q S ex (fuel + 1) listed (A x0) w ∧ ∀ b, Bx w b → wpAnyK P md ops Q S ex fuel (listed.setIfInBounds f true) (A (.pointer (some ⟨b, 0, none⟩))) w

theorem wpFl_start {f slot : Nat} {Bx : World → Nat → Prop} {x0 : Value} {fuel : Nat} {listed : Array Bool} {a : Act} {w : World} (ha : a.put (some slot) x0 = a)
    (h : wpFl P md ops Q S ex f Bx x0 fuel listed (fun y => a.put (some slot) y) w) : wpAnyK P md ops Q S ex (fuel + 1) listed a w := by
  have := h.1
  dsimp only at this
  rwa [ha] at this

def Makes (P : Program) (ops : Array Oper) (Q : Exit → Act → World → Prop) (o : Oper) (Z : Obj) (x0 : Value) (A : Value → Act) : Prop :=
  ∀ (u : World) (K : Act → World → Prop), K (A (.pointer (some ⟨u.heap.size, 0, none⟩))) (u.alloc Z) → if Region.wanted o (yielded ops (A x0).tmps) = true then Oper.wp P o (A x0) u K Q else K ((A x0).put o.dst undef) u

theorem wpFl_make {f : Nat} {of : Oper} {Z : Obj} {x0 : Value} {K : Act → World → Prop} {A : Value → Act} {u : World} (hof : ops[f]? = some of) (hal : Makes P ops Q of Z x0 A)
    (h : K (A (.pointer (some ⟨u.heap.size, 0, none⟩))) (u.alloc Z)) : wpOp P ops Q f K (A x0) u :=
  wpOp_step hof (fun K' hK => hal u K' (hK _ _ h))

theorem wpFl_step {f slot c : Nat} {of oc : Oper} {Z : Obj} {F : World → Prop} {Bx : World → Nat → Prop} {x0 : Value} {fuel : Nat} {listed : Array Bool} {A : Value → Act} {w : World}
    (ho : ops.toList[c]? = some oc) (hof : ops.toList[f]? = some of) (hcf : c ≠ f)
    (hr : ((Region.ready md ops listed).all (fun i => i == c || i == f) && !(Region.ready md ops listed).isEmpty) = true)
    (hr2 : Region.ready md ops (listed.setIfInBounds f true) = [c])
    (hal : Makes P ops Q of Z x0 A) (hb : ∀ u, F u → Bx (u.alloc Z) u.heap.size) (hS : ∀ u, F u → S u) (hF : F w) (hst : ∀ u, F u → F (u.alloc Z))
    (step : ∀ u x, F u → ∀ K' : Act → World → Prop, Shut (∀ (a' : Act) u' (Bx' : World → Nat → Prop), a'.put (some slot) x = a' → (∀ b, Bx u b → Bx' u' b) → (ex.contains c = false → S u') → wpFl P md ops Q S ex f Bx' x0 fuel (listed.setIfInBounds c true) (fun y => a'.put (some slot) y) u' → K' a' u') →
      if Region.wanted oc (yielded ops (A x).tmps) = true then Oper.wp P oc (A x) u K' Q else K' ((A x).put oc.dst undef) u) :
    wpFl P md ops Q S ex f Bx x0 (fuel + 1) listed A w := by
  have ho' := toL ho
  have hof' := toL hof
  have T : ∀ u, F u → ∀ b, Bx u b → wpAnyK P md ops Q S ex (fuel + 1) (listed.setIfInBounds f true) (A (.pointer (some ⟨b, 0, none⟩))) u := fun u hu b hbx =>
    ⟨fun h0 => absurd (hr2 ▸ h0) (by simp), fun j hj => by
      rw [hr2] at hj
      obtain rfl : j = c := by simpa using hj
      refine wpOp_step ho' (fun K' hK => step u _ hu K' (fun a' u' Bx' he hk hs hg => hK _ _ ⟨hs, ?_⟩))
      have := hg.2 b (hk b hbx)
      dsimp only at this
      rw [he] at this
      rwa [Array.setIfInBounds_comm _ _ hcf] at this⟩
  simp only [Bool.and_eq_true, List.all_eq_true, Bool.or_eq_true, beq_iff_eq, Bool.not_eq_true', List.isEmpty_eq_false_iff] at hr
  refine ⟨⟨fun h0 => absurd h0 hr.2, fun j hj => ?_⟩, fun b hbx => T w hF b hbx⟩
  by_cases hjf : j = f
  · subst hjf
    exact wpFl_make hof' hal ⟨fun _ => hS _ (hst _ hF), T _ (hst _ hF) _ (hb _ hF)⟩
  · obtain rfl : j = c := by rcases hr.1 j hj with h | h; exact h; exact absurd h hjf
    exact wpOp_step ho' (fun K' hK => step w _ hF K' (fun a' u' Bx' he hk hs hg => hK _ _ ⟨hs, by have := hg.1; dsimp only at this; rwa [he] at this⟩))

theorem wpFl_end {f : Nat} {of : Oper} {Z : Obj} {F : World → Prop} {Bx : World → Nat → Prop} {x0 : Value} {fuel : Nat} {listed : Array Bool} {A : Value → Act} {w : World}
    (hof : ops.toList[f]? = some of) (hr : Region.ready md ops listed = [f])
    (hal : Makes P ops Q of Z x0 A) (hb : ∀ u, F u → Bx (u.alloc Z) u.heap.size) (hS : ∀ u, F u → S u) (hF : F w) (hst : ∀ u, F u → F (u.alloc Z))
    (H : ∀ u b, F u → Bx u b → wpAnyK P md ops Q S ex fuel (listed.setIfInBounds f true) (A (.pointer (some ⟨b, 0, none⟩))) u) :
    wpFl P md ops Q S ex f Bx x0 fuel listed A w := by
  refine ⟨⟨fun h0 => absurd (hr ▸ h0) (by simp), fun j hj => ?_⟩, fun b hbx => H w b hF hbx⟩
  rw [hr] at hj
  obtain rfl : j = f := by simpa using hj
  exact wpFl_make (toL hof) hal ⟨fun _ => hS _ (hst _ hF), H _ _ (hst _ hF) (hb _ hF)⟩
end
end Go.Proofs.Ytmmneicblcjkjaa
