/- Lemmas of HomL. -/
import Derived.Test.YtdnkadlondediaaQcHomK
set_option linter.unusedSimpArgs false
set_option linter.unusedVariables false
namespace Go.Proofs.Ytdnkadlondediaa
open Go.RowKit

theorem loopC_true {S : Type} (f : Nat → S → S × Bool) (h : ∀ x s, (f x s).2 = true) : ∀ (r x : Nat) (s : S), loopC f r x s = ((List.range r).foldl (fun s i => (f (x + i) s).1) s, true)
  | 0, x, s => rfl
  | r + 1, x, s => by
    unfold loopC
    rw [if_pos (h x s), loopC_true f h r (x + 1) _, List.range_succ_eq_map, List.foldl_cons, List.foldl_map]
    congr 1
    congr 1
    funext s i
    rw [show x + 1 + i = x + (i + 1) by omega]
theorem runC_true {S : Type} (m : Nat) (st : List Int → S → S × Bool) (h : ∀ xs s, (st xs s).2 = true) : ∀ (d : Nat) (pre : List Int) (s : S), runC m st d pre s = ((allC m d pre).foldl (fun s xs => (st xs s).1) s, true)
  | 0, pre, s => by
    show st pre s = _
    rw [show allC m 0 pre = [pre] from rfl]
    exact Prod.ext rfl (h pre s)
  | d + 1, pre, s => by
    show loopC (fun x s => runC m st d (pre ++ [(x : Int)]) s) m 0 s = _
    rw [loopC_true _ (fun x s => by rw [runC_true m st h d])]
    unfold allC
    rw [List.foldl_flatMap]
    congr 1
    congr 1
    funext s i
    rw [runC_true m st h d, Nat.zero_add]
theorem foldH (m : Int) (n : Nat) (t s : List (List Int)) : ∀ (L : List (List Int)) (l : List (List Int)), L.foldl (fun l xs => (stH m n t s xs l).1) l = l ++ L.filter (homB m n t s)
  | [], l => by simp
  | x :: L, l => by
    rw [List.foldl_cons, foldH m n t s L]
    unfold stH
    cases h : homB m n t s x
    · rw [List.filter_cons_of_neg (by simp [h])]; simp
    · rw [List.filter_cons_of_pos h]; simp
theorem runH (m : Int) (n : Nat) (t s : List (List Int)) (d : Nat) (pre : List Int) : runC m.toNat (stH m n t s) d pre [] = (homsL m n t s d pre, true) := by
  rw [runC_true _ _ (fun _ _ => rfl), foldH]; rfl

structure St6 (m : Int) (b : Nat) (w : World) (tv sv : Value) (w6 : World) : Prop where
  bel : Below b w w6
  size : w6.heap.size = b + 6
  F : Box2 w6 b (.int .i64 m) tv
  G : Box2 w6 (b + 1) (.int .i64 m) sv
  one : Cel1 w6 (b + 2) 0 (.bool false)
  fin : Cel1 w6 (b + 3) 0 (.func (.func 103) #[] #[])
  out : Cel1 w6 (b + 5) 0 (.slice (some ⟨b + 4, 0, none⟩) 0 0)
  fz : ∀ k, w6.frozen? ⟨b + 5, k, none⟩ = false
  own : ∀ X : Nat → Prop, ¬ X (b + 4) → OwZ w6 (b + 4) X (.slice (some ⟨b + 4, 0, none⟩) 0 0) m []
theorem St6.mk' (m : Int) (b : Nat) (w : World) (tv sv : Value) (hb : w.heap.size = b) : St6 m b w tv sv ((((((w.alloc (.cells #[.int .i64 m, tv] 32)).alloc (.cells #[.int .i64 m, sv] 32)).alloc (.cells #[.bool false] 4)).alloc (.cells #[.func (.func 103) #[] #[]] 85)).alloc (.cells #[] 34)).alloc (.cells #[.slice (some ⟨b + 1 + 1 + 1 + 1, 0, none⟩) 0 0] 58)) := by
  have c1 : ∀ (u : World) (x : Value) (t : TypeId), Cel1 (u.alloc (.cells #[x] t)) u.heap.size 0 x := fun u x t => ⟨by simp⟩
  have al : ∀ (u : World) (o : Obj), Below u.heap.size u (u.alloc o) := fun u o => (by (repeat (first | exact Below.refl _ _ | (refine Below.setCell ?_ (by first | (simp; done) | (simp; omega) | omega) _) | (refine Below.alloc ?_ (by first | (simp; done) | (simp; omega) | omega) _) | (refine below_drewN ?_ _) | (refine Below.drew ?_))))
  have sz : ∀ (u : World) (o : Obj), (u.alloc o).heap.size = u.heap.size + 1 := fun u o => by simp
  have kb : ∀ {u : World} {g : Nat} {x y : Value} (o : Obj), Box2 u g x y → Box2 (u.alloc o) g x y := fun o h => h.below (al _ _) (Nat.le_refl _)
  have kc : ∀ {u : World} {g : Nat} {x : Value} (o : Obj), Cel1 u g 0 x → Cel1 (u.alloc o) g 0 x := fun o h => h.below (al _ _) (Nat.le_refl _)
  generalize h1 : w.alloc (.cells #[.int .i64 m, tv] 32) = w1
  have F1 : Box2 w1 b (.int .i64 m) tv := by rw [← h1, ← hb]; exact Box2.mk' _ _ _ _
  have B1 : Below b w w1 := by rw [← h1, ← hb]; exact al _ _
  have s1 : w1.heap.size = b + 1 := by rw [← h1, sz, hb]
  clear h1
  generalize h2 : w1.alloc (.cells #[.int .i64 m, sv] 32) = w2
  have F2 : Box2 w2 b (.int .i64 m) tv := by rw [← h2]; exact kb _ F1
  have G2 : Box2 w2 (b + 1) (.int .i64 m) sv := by rw [← h2, ← s1]; exact Box2.mk' _ _ _ _
  have B2 : Below b w w2 := by rw [← h2]; exact B1.trans ((al _ _).mono (by omega))
  have s2 : w2.heap.size = b + 2 := by rw [← h2, sz, s1]
  clear h2 F1 B1
  generalize h3 : w2.alloc (.cells #[.bool false] 4) = w3
  have F3 : Box2 w3 b (.int .i64 m) tv := by rw [← h3]; exact kb _ F2
  have G3 : Box2 w3 (b + 1) (.int .i64 m) sv := by rw [← h3]; exact kb _ G2
  have O3 : Cel1 w3 (b + 2) 0 (.bool false) := by rw [← h3, ← s2]; exact c1 _ _ _
  have B3 : Below b w w3 := by rw [← h3]; exact B2.trans ((al _ _).mono (by omega))
  have s3 : w3.heap.size = b + 3 := by rw [← h3, sz, s2]
  clear h3 F2 G2 B2
  generalize h4 : w3.alloc (.cells #[.func (.func 103) #[] #[]] 85) = w4
  have F4 : Box2 w4 b (.int .i64 m) tv := by rw [← h4]; exact kb _ F3
  have G4 : Box2 w4 (b + 1) (.int .i64 m) sv := by rw [← h4]; exact kb _ G3
  have O4 : Cel1 w4 (b + 2) 0 (.bool false) := by rw [← h4]; exact kc _ O3
  have A4 : Cel1 w4 (b + 3) 0 (.func (.func 103) #[] #[]) := by rw [← h4, ← s3]; exact c1 _ _ _
  have B4 : Below b w w4 := by rw [← h4]; exact B3.trans ((al _ _).mono (by omega))
  have s4 : w4.heap.size = b + 4 := by rw [← h4, sz, s3]
  clear h4 F3 G3 O3 B3
  have Z5 := fun X => OwZ.nil w4 m X
  generalize h5 : w4.alloc (.cells #[] 34) = w5 at Z5 ⊢
  rw [s4] at Z5
  have s5 : w5.heap.size = b + 5 := by rw [← h5, sz, s4]
  have e5 : Below w4.heap.size w4 w5 := by rw [← h5]; exact al _ _
  have e6 := al w5 (.cells #[.slice (some ⟨b + 1 + 1 + 1 + 1, 0, none⟩) 0 0] 58)
  have e56 : Below w4.heap.size w4 (w5.alloc (.cells #[.slice (some ⟨b + 1 + 1 + 1 + 1, 0, none⟩) 0 0] 58)) := e5.trans (e6.mono (by omega))
  refine ⟨B4.trans (e56.mono (by omega)), by rw [sz, s5], F4.below e56 (Nat.le_refl _), G4.below e56 (Nat.le_refl _), O4.below e56 (Nat.le_refl _), A4.below e56 (Nat.le_refl _), ?_, fun k => ?_, fun X hX => ?_⟩
  · rw [← s5]; exact c1 _ _ _
  · rw [← s5]; exact frozen_new _ _ _ _
  · refine (Z5 X).stay e6.size (fun j hj => ?_) (fun k hk _ => e6.block k hk)
    obtain rfl : b + 4 = j := by simpa [Value.ownBlock] using hj
    exact hX

theorem homsWalk (m kk : Int) (n b g cz : Nat) (w u : World) (tv sv : Value) (t s : List (List Int)) (hkk : kk = 1) (hw : w.heap.size = b) (hg : b + 6 ≤ g) (hgu : g < u.heap.size) (hm : 2 ≤ m) (hm' : m ≤ 10000) (h2n : 2 ≤ n) (hn : n ≤ 1000) (ht : PlaT m n t) (hs : PlaT m n s) (hv : RdT w tv t) (hu : RdT w sv s) (hM : m.toNat ^ (n - 1) ≤ 20000)
    (hi : InvH m b g w tv sv [] (some (b + 4)) u) (hr : OwI u g (.slice (some ⟨g, 0, none⟩) n cz) (List.replicate n 0)) :
    Calls Try.prog 156 #[.agg #[.int .i64 m, .slice (some ⟨g, 0, none⟩) n cz], .int .i64 kk, .func (.func 157) #[] #[.pointer (some ⟨b + 1 + 1 + 1, 0, none⟩), .pointer (some ⟨b, 0, none⟩), .pointer (some ⟨b + 1, 0, none⟩), .pointer (some ⟨b + 1 + 1 + 1 + 1 + 1, 0, none⟩), .pointer (some ⟨b + 1 + 1, 0, none⟩)]] u fun e w' =>
      e = .returned (.bool true) ∧ ∃ o', InvH m b g w tv sv (homsL m n t s (n - 1) [0]) o' w' ∧ Ch [g, b + 5] (some (b + 4)) u w' := by
  subst hkk
  have hR := runH m n t s (n - 1) [0]
  have h1 : (List.replicate n (0 : Int)).take 1 = [0] := by rw [List.take_replicate, Nat.min_eq_left (by omega)]; rfl
  have hC := curves_c (S := List (List Int)) m n 157 #[.pointer (some ⟨b + 3, 0, none⟩), .pointer (some ⟨b, 0, none⟩), .pointer (some ⟨b + 1, 0, none⟩), .pointer (some ⟨b + 5, 0, none⟩), .pointer (some ⟨b + 2, 0, none⟩)] (stH m n t s) (InvH m b g w tv sv) [b + 5] (g + 1) g cz [0] List.length 20000
    (fun xs l => by unfold stH; simp only; split <;> simp) hm hm' hn homs1_callable (by omega) (fun x hx => by simp at hx; omega) (by simp; omega)
    (fun l o x x' hi hs hk => hi.stay hw hg hs hk) (fun l o x hi j hj => ⟨(hi.own j hj).1, (hi.own j hj).2.1⟩)
    (fun xs l o x0 x v hi hb0 hB ho hx hl hr _ hM => homs1_c m n b g w tv sv t s hw hg hm hm' h2n hn ht hs hv hu xs l o x0 x v hi hb0 (by omega) ho hx hl hr hM)
    (n - 1) 1 (List.replicate n 0) [] (some (b + 4)) u (by omega) (by simp) (fun x hx => by simp at hx; omega) hr hi (by omega) (by simp) h1 (by simpa using hM)
  rw [h1, hR] at hC
  refine hC.mono ?_
  rintro e w' ⟨rfl, o', hi', ho', hc', -⟩
  exact ⟨rfl, o', hi', hc'⟩

set_option maxHeartbeats 1000000 in
set_option maxRecDepth 100000 in
theorem homomorphisms_c (m : Int) (n : Nat) (tv sv : Value) (t s : List (List Int)) (w : World) (hm : 2 ≤ m) (hm' : m ≤ 10000) (h2n : 2 ≤ n) (hn : n ≤ 1000) (ht : PlaT m n t) (hs : PlaT m n s) (hv : RdT w tv t) (hu : RdT w sv s) (hM : m.toNat ^ (n - 1) ≤ 20000) :
    Calls Try.prog 102 #[.agg #[.int .i64 m, tv], .agg #[.int .i64 m, sv], .bool false, .func (.func 103) #[] #[]] w fun e w' =>
      ∃ v', e = .returned v' ∧ OwLS w' w.heap.size v' m (homsL m n t s (n - 1) [0]) ∧ Below w.heap.size w w' := by
  obtain ⟨ot, ct, rfl, hmt, -⟩ := id hv
  obtain ⟨os, cs, rfl, hms, -⟩ := id hu
  have hml := hmt.1
  have HT := Lib.hid ht
  have HS := Lib.hid hs
  have e0 := ht.1
  have e1 := hs.1
  rw [e0] at hv hml ⊢
  rw [e1] at hu ⊢
  clear ht hs hmt hms
  obtain ⟨b, hb⟩ : ∃ b, w.heap.size = b := ⟨_, rfl⟩
  go_enter Try.func102, Try.ntmps102
  go_wp2_with fail
  have hS6 := St6.mk' m b w (.slice ot n ct) (.slice os n cs) hb
  generalize ((((((w.alloc (.cells #[.int .i64 m, .slice ot n ct] 32)).alloc (.cells #[.int .i64 m, .slice os n cs] 32)).alloc (.cells #[.bool false] 4)).alloc (.cells #[.func (.func 103) #[] #[]] 85)).alloc (.cells #[] 34)).alloc (.cells #[.slice (some ⟨b + 1 + 1 + 1 + 1, 0, none⟩) 0 0] 58)) = w6 at hS6 ⊢
  have s6 := hS6.size
  have F6 := hS6.F
  have hd0 : Below w6.heap.size w6 w6.drew := (Below.refl _ _).drew
  have hsd0 := hd0.size
  obtain ⟨f0_a, f0_b⟩ := ((F6).below (Below.refl w6.heap.size w6) (Nat.le_refl _))
  refine wp_region_K (S := fun w' => w'.cell? ⟨b, 0, none⟩ = some (.int .i64 m) ∧ w'.cell? ⟨b, 1, none⟩ = some (.slice ot n ct)) [6] (by kernel_rfl) ?_
  have hHeld : (fun w' : World => w'.cell? ⟨b, 0, none⟩ = some (.int .i64 m) ∧ w'.cell? ⟨b, 1, none⟩ = some (.slice ot n ct)) w6.drew := by go_keep
  refine' wpAnyK_takeL (i := 0) (v := _) rfl (by kernel_rfl) (by kernel_rfl) (by kernel_rfl) (by kernel_rfl) (fun _ _ _ h => h) (Or.inl ⟨by rfl, ?yT1⟩) hHeld ?rT1
  case yT1 => (intro w' hSw; (try dsimp only at hSw); go_simp; try with_reducible rfl)
  try simp only [List.getElem_toArray, List.getElem_cons_zero, List.getElem_cons_succ, Act.put, List.setIfInBounds_toArray, List.set_cons_zero, List.set_cons_succ]
  refine' wpAnyK_takeL (i := 1) (v := _) rfl (by kernel_rfl) (by kernel_rfl) (by kernel_rfl) (by kernel_rfl) (fun _ _ _ h => h) (Or.inl ⟨by rfl, ?yT2⟩) hHeld ?rT2
  case yT2 => (intro w' hSw; (try dsimp only at hSw); go_simp; try with_reducible rfl)
  try simp only [List.getElem_toArray, List.getElem_cons_zero, List.getElem_cons_succ, Act.put, List.setIfInBounds_toArray, List.set_cons_zero, List.set_cons_succ]
  refine' wpAnyK_takeL (i := 2) (v := _) rfl (by kernel_rfl) (by kernel_rfl) (by kernel_rfl) (by kernel_rfl) (fun _ _ _ h => h) (Or.inl ⟨by rfl, ?yT3⟩) hHeld ?rT3
  case yT3 => (intro w' hSw; (try dsimp only at hSw); go_simp; try with_reducible rfl)
  try simp only [List.getElem_toArray, List.getElem_cons_zero, List.getElem_cons_succ, Act.put, List.setIfInBounds_toArray, List.set_cons_zero, List.set_cons_succ]
  refine' wpAnyK_takeL (i := 5) (v := _) rfl (by kernel_rfl) (by kernel_rfl) (by kernel_rfl) (by kernel_rfl) (fun _ _ _ h => h) (Or.inl ⟨by rfl, ?yT4⟩) hHeld ?rT4
  case yT4 => (intro w' hSw; (try dsimp only at hSw); go_simp; try with_reducible rfl)
  try simp only [List.getElem_toArray, List.getElem_cons_zero, List.getElem_cons_succ, Act.put, List.setIfInBounds_toArray, List.set_cons_zero, List.set_cons_succ]
  refine wpAnyK_oneL (i := 3) rfl (by kernel_rfl) (fun K hK => ?_)
  go_simp
  go_at_call 71
  refine (degreeP_c m ot n ct _ hml).mono ?_
  rintro e wd1 ⟨rfl, hbd1⟩
  have hd1 : Below w6.heap.size w6 wd1 := (by (repeat (first | exact Below.refl _ _ | (refine Below.setCell ?_ (by first | (simp; done) | (simp; omega) | omega) _) | (refine Below.alloc ?_ (by first | (simp; done) | (simp; omega) | omega) _) | (refine below_drewN ?_ _) | (refine Below.drew ?_) | (refine Below.trans ?_ (Below.mono hbd1 (by first | (simp; done) | (simp; omega) | omega))))))
  have hsd1 := hd1.size
  have hsz1_ := hbd1.size
  (try simp at hsz1_)
  obtain ⟨f1_a, f1_b⟩ := ((F6).below hd1 (Nat.le_refl _))
  go_wp2_with fail
  clear hHeld
  have hHeld : (fun w' : World => w'.cell? ⟨b, 0, none⟩ = some (.int .i64 m) ∧ w'.cell? ⟨b, 1, none⟩ = some (.slice ot n ct)) wd1 := by go_keep
  refine hK.out _ _ (fun _ => hHeld) ?_
  clear hK K
  try simp only [List.getElem_toArray, List.getElem_cons_zero, List.getElem_cons_succ, Act.put, List.setIfInBounds_toArray, List.set_cons_zero, List.set_cons_succ]
  refine wpAnyK_oneL (i := 4) rfl (by kernel_rfl) (fun K hK => ?_)
  go_simp
  go_at_call 95
  refine (zero_c m ((n : Int) - 1) n _ (by omega) (by omega)).mono ?_
  rintro e wd2 ⟨vz, rfl, hod2, hbd2⟩
  obtain ⟨oz, cz, rfl⟩ := hod2.shapeN (n := n) (by simp)
  have hd2 : Below w6.heap.size w6 wd2 := (by (repeat (first | exact Below.refl _ _ | (refine Below.setCell ?_ (by first | (simp; done) | (simp; omega) | omega) _) | (refine Below.alloc ?_ (by first | (simp; done) | (simp; omega) | omega) _) | (refine below_drewN ?_ _) | (refine Below.drew ?_) | (refine Below.trans ?_ (Below.mono hbd1 (by first | (simp; done) | (simp; omega) | omega))) | (refine Below.trans ?_ (Below.mono hbd2 (by first | (simp; done) | (simp; omega) | omega))))))
  have hsd2 := hd2.size
  have hsz2_ := hbd2.size
  (try simp at hsz2_)
  obtain ⟨f2_a, f2_b⟩ := ((F6).below hd2 (Nat.le_refl _))
  go_wp2_with fail
  clear hHeld
  have hHeld : (fun w' : World => w'.cell? ⟨b, 0, none⟩ = some (.int .i64 m) ∧ w'.cell? ⟨b, 1, none⟩ = some (.slice ot n ct)) wd2 := by go_keep
  refine hK.out _ _ (fun _ => hHeld) ?_
  clear hK K
  try simp only [List.getElem_toArray, List.getElem_cons_zero, List.getElem_cons_succ, Act.put, List.setIfInBounds_toArray, List.set_cons_zero, List.set_cons_succ]
  refine wpAnyK_oneL (i := 6) rfl (by kernel_rfl) (fun K hK => ?_)
  go_simp
  obtain ⟨g, rfl, hgl, hgl'⟩ := hod2.row (by omega)
  have hg6 : b + 6 ≤ g := by omega
  have hi6 : InvH m b g w (.slice ot n ct) (.slice os n cs) [] (some (b + 4)) wd2 := ⟨fun k hk => (hd2.block k (by omega)).trans (hS6.bel.block k (by omega)), hS6.F.below hd2 (Nat.le_refl _), hS6.G.below hd2 (Nat.le_refl _), hS6.one.below hd2 (Nat.le_refl _), hS6.fin.below hd2 (Nat.le_refl _), _, rfl, hS6.out.below hd2 (Nat.le_refl _), fun k => (World.frozen?_of_block (hd2.block (b + 5) (by omega))).trans (hS6.fz k), (hS6.own _ (by omega)).stay hd2.size (fun j hj => by obtain rfl : b + 4 = j := (by simpa [Value.ownBlock] using hj); omega) (fun k hk _ => hd2.block k hk), fun j hj => by obtain rfl : b + 4 = j := (by simpa [Value.ownBlock] using hj); omega⟩
  refine (homsWalk m _ n b g cz w wd2 _ _ t s rfl hb hg6 hgl' hm hm' h2n hn HT.out HS.out hv hu hM hi6 hod2.raise).mono ?_
  rintro e w9 ⟨rfl, o9, hi9, hc9⟩
  obtain ⟨vs, e6, e7, e8, e9, e10⟩ := hi9.out
  have f9 : w9.cell? ⟨b + 1 + 1 + 1 + 1 + 1, 0, none⟩ = some vs := e7.get
  go_wp2_with fail
  refine hK.out _ _ (fun h => absurd h (by decide)) ?_
  clear hK K
  try simp only [List.getElem_toArray, List.getElem_cons_zero, List.getElem_cons_succ, Act.put, List.setIfInBounds_toArray, List.set_cons_zero, List.set_cons_succ]
  refine wpAnyK_done (by kernel_rfl) ?_ _
  go_wp2_with fail
  go_ret
  have c9 : Below w.heap.size wd2 w9 := hc9.below (fun x hx => by simp at hx; omega) (fun j hj => by cases hj; omega) (by omega)
  exact ⟨_, rfl, e9.S.mono (by omega), ((hS6.bel.trans (hd2.mono (by omega))).mono (by omega)).trans c9⟩
end Go.Proofs.Ytdnkadlondediaa
