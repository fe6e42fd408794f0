/- Lemmas. -/
import Derived.Test.YtfpphfjlpgefaaaQAM14
import Derived.Test.YtfpphfjlpgefaaaQAG3
import Derived.Test.YtfpphfjlpgefaaaQAM7
import Derived.Test.YtfpphfjlpgefaaaQAG2
set_option linter.unusedSimpArgs false
set_option linter.unusedVariables false
namespace Go.Proofs.Ytfpphfjlpgefaaa
open Go.RowKit

structure Ch (Fx : List Nat) (o : Option Nat) (u u' : World) : Prop where
  os : u'.os = u.os
  tape : u'.tape = u.tape
  output : u'.output = u.output
  size : u.heap.size ≤ u'.heap.size
  block : ∀ k, k < u.heap.size → k ∉ Fx → some k ≠ o → u'.heap[k]? = u.heap[k]?
theorem Ch.of_below {Fx : List Nat} {o : Option Nat} {u u' : World} (h : Below u.heap.size u u') : Ch Fx o u u' := ⟨h.os, h.tape, h.output, h.size, fun k hk _ _ => h.block k hk⟩
theorem Ch.of_grown {Fx : List Nat} {o : Option Nat} {u u' : World} {g : Nat} (h : u.grownBy u' (some g)) (hg : g ∈ Fx) : Ch Fx o u u' := ⟨h.os, h.tape, h.output, h.size, fun k hk h1 _ => h.block k hk (fun e => by cases e; exact h1 hg)⟩
theorem Ch.trans {Fx : List Nat} {o o' : Option Nat} {u u' u'' : World} (h : Ch Fx o u u') (ho : o' = o ∨ ∃ b, o' = some b ∧ u.heap.size ≤ b) (k : Ch Fx o' u' u'') : Ch Fx o u u'' :=
  ⟨k.os.trans h.os, k.tape.trans h.tape, k.output.trans h.output, Nat.le_trans h.size k.size, fun j hj h1 h2 => (k.block j (Nat.lt_of_lt_of_le hj h.size) h1 (fun e => by
    rcases ho with rfl | ⟨b, rfl, hb⟩
    · exact h2 e
    · cases e; omega)).trans (h.block j hj h1 h2)⟩
theorem Ch.mono {Fx Fy : List Nat} {o : Option Nat} {u u' : World} (h : Ch Fx o u u') (hs : ∀ x ∈ Fx, x ∈ Fy) : Ch Fy o u u' :=
  ⟨h.os, h.tape, h.output, h.size, fun k hk h1 h2 => h.block k hk (fun h3 => h1 (hs k h3)) h2⟩
theorem Ch.below {Fx : List Nat} {o : Option Nat} {B : Nat} {u u' : World} (h : Ch Fx o u u') (h1 : ∀ x ∈ Fx, B ≤ x) (h2 : ∀ b, o = some b → B ≤ b) (hB : B ≤ u.heap.size) : Below B u u' :=
  ⟨h.os, h.tape, h.output, h.size, fun k hk => h.block k (by omega) (fun h3 => by have := h1 k h3; omega) (fun e => by have := h2 k e.symm; omega)⟩
theorem Box2.ch {Fx : List Nat} {o : Option Nat} {u u' : World} {b : Nat} {x y : Value} (h : Box2 u b x y) (hc : Ch Fx o u u') (h1 : b ∉ Fx) (h2 : some b ≠ o) : Box2 u' b x y :=
  ⟨(World.cell?_of_block (hc.block b h.lt h1 h2)).trans h.1, (World.cell?_of_block (hc.block b h.lt h1 h2)).trans h.2⟩
theorem OwI.raise {w : World} {B g n c : Nat} {xs : List Int} (h : OwI w B (.slice (some ⟨g, 0, none⟩) n c) xs) : OwI w g (.slice (some ⟨g, 0, none⟩) n c) xs := by
  unfold OwI at h ⊢
  refine ⟨h.1, ?_⟩
  rcases h.2 with h | ⟨g', cap, cur, hv, hg, r⟩
  · exact .inl h
  · refine .inr ⟨g', cap, cur, hv, ?_, r⟩
    simp at hv; omega
theorem OwI.ch {Fx : List Nat} {o : Option Nat} {u u' : World} {g n c : Nat} {xs : List Int} (h : OwI u g (.slice (some ⟨g, 0, none⟩) n c) xs) (hc : Ch Fx o u u') (h1 : g ∉ Fx) (h2 : some g ≠ o) : OwI u' g (.slice (some ⟨g, 0, none⟩) n c) xs := by
  have hg := h.lt g rfl
  refine h.stay (hi := g + 1) (fun b hb => by simp [Value.ownBlock] at hb; omega) (fun k k1 k2 => ?_)
  obtain rfl : k = g := by omega
  exact hc.block k hg.2 h1 h2

def loopC {S : Type} (f : Nat → S → S × Bool) : Nat → Nat → S → S × Bool
  | 0, _, s => (s, true)
  | r + 1, x, s => if (f x s).2 then loopC f r (x + 1) (f x s).1 else ((f x s).1, false)
def runC {S : Type} (m : Nat) (st : List Int → S → S × Bool) : Nat → List Int → S → S × Bool
  | 0, pre, s => st pre s
  | d + 1, pre, s => loopC (fun x s => runC m st d (pre ++ [(x : Int)]) s) m 0 s
theorem loopC_len {S : Type} (len : S → Nat) (f : Nat → S → S × Bool) (b : Nat) (h : ∀ x s, len (f x s).1 ≤ len s + b) : ∀ (r x : Nat) (s : S), len (loopC f r x s).1 ≤ len s + r * b
  | 0, x, s => by simp [loopC]
  | r + 1, x, s => by
    have h1 := h x s
    have h2 := loopC_len len f b h r (x + 1) (f x s).1
    have e : (r + 1) * b = r * b + b := Nat.succ_mul r b
    unfold loopC
    split <;> (try simp only) <;> omega
theorem runC_len {S : Type} (len : S → Nat) (m : Nat) (st : List Int → S → S × Bool) (h : ∀ xs s, len (st xs s).1 ≤ len s + 1) : ∀ (d : Nat) (pre : List Int) (s : S), len (runC m st d pre s).1 ≤ len s + m ^ d
  | 0, pre, s => by have := h pre s; simpa [runC] using this
  | d + 1, pre, s => by
    have := loopC_len len (fun x s => runC m st d (pre ++ [(x : Int)]) s) (m ^ d) (fun x s => runC_len len m st h d _ s) m 0 s
    rw [Nat.pow_succ, Nat.mul_comm]; exact this
theorem take_set {l : List Int} {k : Nat} {x : Int} (h : k < l.length) : (l.set k x).take (k + 1) = l.take k ++ [x] := by
  rw [List.take_add_one, List.getElem?_set, if_pos rfl, if_pos h, List.take_set_of_le (Nat.le_refl _)]; rfl

set_option maxHeartbeats 1000000 in
set_option maxRecDepth 100000 in
theorem curves_c {S : Type} (m : Int) (n : Nat) (K : Nat) (caps : Array Value) (st : List Int → S → S × Bool) (Inv : S → Option Nat → World → Prop) (Fx : List Nat) (B g c : Nat) (pre0 : List Int) (len : S → Nat) (M : Nat) (hL : ∀ xs s, len (st xs s).1 ≤ len s + 1)
    (hm : 2 ≤ m) (hm' : m ≤ 10000) (hn : n ≤ 1000) (hK : Callable K) (hg : g < B) (hF : ∀ x ∈ Fx, x < B) (hgF : g ∉ Fx)
    (hI : ∀ s o u u', Inv s o u → u.heap.size ≤ u'.heap.size → (∀ k, k < u.heap.size → k ≠ g → u'.heap[k]? = u.heap[k]?) → Inv s o u')
    (hO : ∀ s o u, Inv s o u → ∀ b, o = some b → b < u.heap.size ∧ b ≠ g)
    (hC : ∀ xs s o u0 u v, Inv s o u0 → Inv s o u → Below u0.heap.size u0 u → B ≤ u0.heap.size → (∀ b, o = some b → b < u0.heap.size) → OwI u u0.heap.size v xs → xs.length = n → (∀ x ∈ xs, 0 ≤ x ∧ x < m) → xs.take pre0.length = pre0 → len s < M →
      Calls Try.prog K (#[.agg #[.int .i64 m, v]] ++ caps) u fun e w' => e = .returned (.bool (st xs s).2) ∧ ∃ o', Inv (st xs s).1 o' w' ∧ (o' = o ∨ ∃ b, o' = some b ∧ u0.heap.size ≤ b) ∧ Ch Fx o u w') :
    ∀ (d k : Nat) (row : List Int) (s : S) (o : Option Nat) (w : World), k + d = n → row.length = n → (∀ x ∈ row, 0 ≤ x ∧ x < m) → OwI w g (.slice (some ⟨g, 0, none⟩) n c) row → Inv s o w → B ≤ w.heap.size → pre0.length ≤ k → row.take pre0.length = pre0 → len s + m.toNat ^ d ≤ M →
      Calls Try.prog 35 #[.agg #[.int .i64 m, .slice (some ⟨g, 0, none⟩) n c], .int .i64 (k : Int), .func (.func K) #[] caps] w fun e w' =>
        e = .returned (.bool (runC m.toNat st d (row.take k) s).2) ∧ ∃ o', Inv (runC m.toNat st d (row.take k) s).1 o' w' ∧ (o' = o ∨ ∃ b, o' = some b ∧ w.heap.size ≤ b) ∧ Ch (g :: Fx) o w w' ∧ ∃ row', row'.length = n ∧ row'.take k = row.take k ∧ (∀ x ∈ row', 0 ≤ x ∧ x < m) ∧ OwI w' g (.slice (some ⟨g, 0, none⟩) n c) row' := by
  have HI := Lib.hid hI
  have HO := Lib.hid hO
  have HC := Lib.hid hC
  have HF := Lib.hid hF
  have HgF := Lib.hid hgF
  clear hI hO hC hF hgF
  unfold Callable at hK
  intro d
  induction d with
  | zero =>
    intro k row s o w hk hl hx hr hi hB hp hpr hM
    rw [Nat.pow_zero] at hM
    obtain rfl : k = n := by omega
    have i0 : ((k : Int) == (k : Int)) = true := by simp
    have hlt := hr.lt g rfl
    have hpt : row.take k = row := List.take_of_length_le (by omega)
    rw [hpt]
    clear hpt
    go_enter Try.func35, Try.ntmps35
    go_wp2_with fail
    (have X0 := ((RB2.mk1 w  (.int .i64 m) (.slice (some ⟨g, 0, none⟩) k c) 41).1).below (w' := (w.alloc (.cells #[.int .i64 m, .slice (some ⟨g, 0, none⟩) k c] 41))) (by (repeat (first | exact bR _ _ | (refine bS ?_ _) | (refine bA ?_ _) | (refine bN ?_ _) | (refine bD ?_)))) (Nat.le_refl _); have B0 : Below w.heap.size w (w.alloc (.cells #[.int .i64 m, .slice (some ⟨g, 0, none⟩) k c] 41)) := (by (repeat (first | exact bR _ _ | (refine bS ?_ _) | (refine bA ?_ _) | (refine bN ?_ _) | (refine bD ?_)))); generalize w.alloc (.cells #[.int .i64 m, .slice (some ⟨g, 0, none⟩) k c] 41) = w0 at X0 B0  ⊢)
    have hr0 := hr.below B0
    have hi0 := HI.out s o w w0 hi B0.size (fun j hj _ => B0.block j hj)
    have B0s := B0.size
    have lX := X0.lt
    obtain ⟨x0, x1⟩ := id X0
    have hrd := hr0.rd
    have hfin : ∀ b, o = some b → b < w0.heap.size := fun b hb => (HO.out s o w0 hi0 b hb).1
    have HX := Lib.hid hx
    have HCC := Lib.hid (fun (u : World) (v : Value) (h1 : Below w0.heap.size w0 u) (h2 : OwI u w0.heap.size v row) => HC.out row s o w0 u v hi0 (HI.out s o w0 u hi0 h1.size (fun j hj _ => h1.block j hj)) h1 (by omega) hfin h2 hl HX.out hpr hM)
    go_wp2_with fail
    have hd0 : Below w0.heap.size w0 w0.drew := (Below.refl _ _).drew
    have hsd0 := hd0.size
    obtain ⟨f0_a, f0_b⟩ := ((X0).below (Below.refl w0.heap.size w0) (Nat.le_refl _))
    refine wp_region_K (S := fun w' => w'.cell? ⟨w.heap.size, 0, none⟩ = some (.int .i64 m) ∧ w'.cell? ⟨w.heap.size, 1, none⟩ = some (.slice (some ⟨g, 0, none⟩) k c)) [7, 8] (by kernel_rfl) ?_
    have hHeld : (fun w' : World => w'.cell? ⟨w.heap.size, 0, none⟩ = some (.int .i64 m) ∧ w'.cell? ⟨w.heap.size, 1, none⟩ = some (.slice (some ⟨g, 0, none⟩) k c)) w0.drew := by go_keep
    refine' wpAnyK_takeL (i := 0) (v := _) rfl (by kernel_rfl) (by kernel_rfl) (by kernel_rfl) (by kernel_rfl) (fun _ _ _ h => h) (Or.inl ⟨by rfl, ?yT1⟩) hHeld ?rT1
    case yT1 => (intro w' hSw; (try dsimp only at hSw); go_simp; try with_reducible rfl)
    try simp only [List.getElem_toArray, List.getElem_cons_zero, List.getElem_cons_succ, Act.put, List.setIfInBounds_toArray, List.set_cons_zero, List.set_cons_succ]
    refine' wpAnyK_takeL (i := 1) (v := _) rfl (by kernel_rfl) (by kernel_rfl) (by kernel_rfl) (by kernel_rfl) (fun _ _ _ h => h) (Or.inl ⟨by rfl, ?yT2⟩) hHeld ?rT2
    case yT2 => (intro w' hSw; (try dsimp only at hSw); go_simp; try with_reducible rfl)
    try simp only [List.getElem_toArray, List.getElem_cons_zero, List.getElem_cons_succ, Act.put, List.setIfInBounds_toArray, List.set_cons_zero, List.set_cons_succ]
    refine' wpAnyK_takeL (i := 2) (v := _) rfl (by kernel_rfl) (by kernel_rfl) (by kernel_rfl) (by kernel_rfl) (fun _ _ _ h => h) (Or.inl ⟨by rfl, ?yT3⟩) hHeld ?rT3
    case yT3 => (intro w' hSw; (try dsimp only at hSw); go_simp; try with_reducible rfl)
    try simp only [List.getElem_toArray, List.getElem_cons_zero, List.getElem_cons_succ, Act.put, List.setIfInBounds_toArray, List.set_cons_zero, List.set_cons_succ]
    refine' wpAnyK_takeL (i := 3) (v := _) rfl (by kernel_rfl) (by kernel_rfl) (by kernel_rfl) (by kernel_rfl) (fun _ _ _ h => h) (Or.inl ⟨by rfl, ?yT4⟩) hHeld ?rT4
    case yT4 => (intro w' hSw; (try dsimp only at hSw); go_simp; try with_reducible rfl)
    try simp only [List.getElem_toArray, List.getElem_cons_zero, List.getElem_cons_succ, Act.put, List.setIfInBounds_toArray, List.set_cons_zero, List.set_cons_succ]
    refine' wpAnyK_takeL (i := 4) (v := _) rfl (by kernel_rfl) (by kernel_rfl) (by kernel_rfl) (by kernel_rfl) (fun _ _ _ h => h) (Or.inl ⟨by rfl, ?yT5⟩) hHeld ?rT5
    case yT5 => (intro w' hSw; (try dsimp only at hSw); go_simp; try with_reducible rfl)
    try simp only [List.getElem_toArray, List.getElem_cons_zero, List.getElem_cons_succ, Act.put, List.setIfInBounds_toArray, List.set_cons_zero, List.set_cons_succ]
    refine wpAnyK_oneL (i := 5) rfl (by kernel_rfl) (fun K hK => ?_)
    go_simp
    go_at_call 47
    refine (copyOfI_c ⟨g, 0, none⟩ k c row _ ((hrd).below (by (repeat (first | exact bR _ _ | (refine bS ?_ _) | (refine bA ?_ _) | (refine bN ?_ _) | (refine bD ?_)))) (Nat.le_refl _)) (by omega)).mono ?_
    rintro e wd1 ⟨vc, rfl, hod1, hbd1⟩
    obtain ⟨oc, cc, rfl⟩ := hod1.shapeN (n := k) hl
    have hd1 : Below w0.heap.size w0 wd1 := (by (repeat (first | exact bR _ _ | (refine bS ?_ _) | (refine bA ?_ _) | (refine bN ?_ _) | (refine bD ?_) | (refine bT ?_ hbd1))))
    have hsd1 := hd1.size
    have hsz1_ := hbd1.size
    (try simp at hsz1_)
    obtain ⟨f1_a, f1_b⟩ := ((X0).below hd1 (Nat.le_refl _))
    go_wp2_with fail
    clear hHeld
    have hHeld : (fun w' : World => w'.cell? ⟨w.heap.size, 0, none⟩ = some (.int .i64 m) ∧ w'.cell? ⟨w.heap.size, 1, none⟩ = some (.slice (some ⟨g, 0, none⟩) k c)) wd1 := by go_keep
    refine hK.out _ _ (fun _ => hHeld) ?_
    clear hK K
    try simp only [List.getElem_toArray, List.getElem_cons_zero, List.getElem_cons_succ, Act.put, List.setIfInBounds_toArray, List.set_cons_zero, List.set_cons_succ]
    refine' wpAnyK_takeL (i := 6) (v := _) rfl (by kernel_rfl) (by kernel_rfl) (by kernel_rfl) (by kernel_rfl) (fun _ _ _ h => h) (Or.inl ⟨by rfl, ?yT6⟩) hHeld ?rT6
    case yT6 => (intro w' hSw; (try dsimp only at hSw); go_simp; try with_reducible rfl)
    try simp only [List.getElem_toArray, List.getElem_cons_zero, List.getElem_cons_succ, Act.put, List.setIfInBounds_toArray, List.set_cons_zero, List.set_cons_succ]
    refine wpAnyK_oneL (i := 7) rfl (by kernel_rfl) (fun K hK => ?_)
    go_simp
    go_wp2_with fail
    refine (HCC.out _ _ hd1 hod1).mono ?_
    rintro e w3 ⟨rfl, o', hi3, ho3, hc3⟩
    go_wp2_with fail
    refine hK.out _ _ (fun h => absurd h (by decide)) ?_
    clear hK K
    try simp only [List.getElem_toArray, List.getElem_cons_zero, List.getElem_cons_succ, Act.put, List.setIfInBounds_toArray, List.set_cons_zero, List.set_cons_succ]
    refine wpAnyK_oneL (i := 8) rfl (by kernel_rfl) (fun K hK => ?_)
    go_simp
    (try go_wp2_with fail)
    refine hK.out _ _ (fun h => absurd h (by decide)) ?_
    clear hK K
    try simp only [List.getElem_toArray, List.getElem_cons_zero, List.getElem_cons_succ, Act.put, List.setIfInBounds_toArray, List.set_cons_zero, List.set_cons_succ]
    refine wpAnyK_done (by kernel_rfl) ?_ _
    go_wp2_with fail
    go_ret
    have hch : Ch (g :: Fx) o w w3 := (Ch.of_below (B0.trans (hd1.mono B0s))).trans (.inl rfl) (hc3.mono (fun x hxf => List.mem_cons_of_mem _ hxf))
    refine ⟨rfl, o', hi3, ?_, hch, row, hl, List.take_of_length_le (by omega), HX.out, (hr0.below hd1).ch hc3 HgF.out (fun e => (HO.out s o w0 hi0 g e.symm).2 rfl)⟩
    rcases ho3 with e | ⟨b, e, hb⟩
    · exact .inl e
    · exact .inr ⟨b, e, by omega⟩
  | succ d ih =>
    intro k row s o w hk hl hx hr hi hB hp hpr hM
    have i0 : ((k : Int) == (n : Int)) = false := by simp; omega
    have hlt := hr.lt g rfl
    have hown := HO.out s o w hi
    show Calls _ _ _ w fun e w' => e = .returned (.bool (loopC (fun x s => runC m.toNat st d (row.take k ++ [(x : Int)]) s) m.toNat 0 s).2) ∧ ∃ o', Inv (loopC (fun x s => runC m.toNat st d (row.take k ++ [(x : Int)]) s) m.toNat 0 s).1 o' w' ∧ (o' = o ∨ ∃ b, o' = some b ∧ w.heap.size ≤ b) ∧ Ch (g :: Fx) o w w' ∧ ∃ row', row'.length = n ∧ row'.take k = row.take k ∧ (∀ x ∈ row', 0 ≤ x ∧ x < m) ∧ OwI w' g (.slice (some ⟨g, 0, none⟩) n c) row'
    generalize hpre : row.take k = pre
    go_enter Try.func35, Try.ntmps35
    go_wp2_with fail
    (have X0 := ((RB2.mk1 w  (.int .i64 m) (.slice (some ⟨g, 0, none⟩) n c) 41).1).below (w' := (w.alloc (.cells #[.int .i64 m, .slice (some ⟨g, 0, none⟩) n c] 41))) (by (repeat (first | exact bR _ _ | (refine bS ?_ _) | (refine bA ?_ _) | (refine bN ?_ _) | (refine bD ?_)))) (Nat.le_refl _); have B0 : Below w.heap.size w (w.alloc (.cells #[.int .i64 m, .slice (some ⟨g, 0, none⟩) n c] 41)) := (by (repeat (first | exact bR _ _ | (refine bS ?_ _) | (refine bA ?_ _) | (refine bN ?_ _) | (refine bD ?_)))); generalize w.alloc (.cells #[.int .i64 m, .slice (some ⟨g, 0, none⟩) n c] 41) = w0 at X0 B0  ⊢)
    have hr0 := hr.below B0
    have hi0 := HI.out s o w w0 hi B0.size (fun j hj _ => B0.block j hj)
    have B0s := B0.size
    have lX := X0.lt
    have C0 : Ch (g :: Fx) o w w0 := Ch.of_below B0
    have hXF : w.heap.size ∉ g :: Fx := by
      intro h
      rcases List.mem_cons.1 h with h | h
      · omega
      · have := HF.out _ h; omega
    have hXo : some w.heap.size ≠ o := fun e => by have := (hown _ e.symm).1; omega
    obtain ⟨x0, x1⟩ := id X0
    go_wp2_with fail
    clear x0 x1
    go_loopw [23] (fun i wr => ∃ (x : Nat) (s' : S) (o' : Option Nat) (row' : List Int), x ≤ m.toNat ∧ i = .int .i64 x ∧ Inv s' o' wr ∧ (o' = o ∨ ∃ b, o' = some b ∧ w.heap.size ≤ b) ∧ Ch (g :: Fx) o w wr ∧ Box2 wr w.heap.size (.int .i64 m) (.slice (some ⟨g, 0, none⟩) n c) ∧ row'.length = n ∧ row'.take k = pre ∧ (∀ x ∈ row', 0 ≤ x ∧ x < m) ∧ OwI wr g (.slice (some ⟨g, 0, none⟩) n c) row' ∧ some w.heap.size ≠ o' ∧ len s' ≤ len s + x * m.toNat ^ d ∧ Hid (loopC (fun x s => runC m.toNat st d (pre ++ [(x : Int)]) s) (m.toNat - x) x s' = loopC (fun x s => runC m.toNat st d (pre ++ [(x : Int)]) s) m.toNat 0 s)) (fun i _ => m.toNat - (intOf i).toNat)
    case atStart => exact ⟨0, s, o, row, Nat.zero_le _, rfl, hi0, .inl rfl, C0, X0, hl, hpre, hx, hr0, hXo, by simp, Lib.hid rfl⟩
    case round =>
      obtain ⟨x, s', o', row', hxm, rfl, hi', ho', hch, Xr, hl', hpt, hxr, hrr, hXo', hLx, HL⟩ := hrel
      have hcs := hch.size
      obtain ⟨x0, x1⟩ := id Xr
      by_cases hlx : x < m.toNat
      · have i1 : (x : Int) < m := by omega
        have i2 : (0 : Int) ≤ (k : Int) := by omega
        have i3 : (k : Int) < (n : Int) := by omega
        have hcell := hrr.cell (k := k) (some_at0 (by omega))
        have hfz := hrr.fz k
        have hput := hrr.put k (x : Int)
        have hgl := hrr.lt g rfl
        have hne : g ≠ w.heap.size := by omega
        have hXw := Xr.put' (a := ⟨g, k, none⟩) hne (.int .i64 x)
        obtain ⟨p0, p1⟩ := id hXw
        have hiw := HI.out s' o' wr (wr.setCell ⟨g, k, none⟩ (.int .i64 x)) hi' (by simp) (fun j hj hjg => (grown_put wr g k (.int .i64 x)).block j hj (by intro e; cases e; exact hjg rfl))
        have hcw : Ch (g :: Fx) o' wr (wr.setCell ⟨g, k, none⟩ (.int .i64 x)) := Ch.of_grown (grown_put wr g k (.int .i64 x)) (by simp)
        have hsz : (wr.setCell ⟨g, k, none⟩ (.int .i64 x)).heap.size = wr.heap.size := by simp
        have HT := Lib.hid (show (row'.set k (x : Int)).take (k + 1) = pre ++ [(x : Int)] by rw [take_set (by omega), hpt])
        have e1 : IntKind.i64.wrap ((k : Int) + 1) = ((k + 1 : Nat) : Int) := by rw [IntWalk.i64_in _ (by omega)]; omega
        have HN := Lib.hid (ih (k + 1) (row'.set k (x : Int)) s' o' (wr.setCell ⟨g, k, none⟩ (.int .i64 x)) (by omega) (by simp; exact hl') (fun y hy => by
          rcases List.mem_or_eq_of_mem_set hy with h | rfl
          · exact hxr y h
          · omega) hput hiw (by omega) (by omega) (by
          have hh : (row'.set k (x : Int)).take pre0.length = row'.take pre0.length := List.take_set_of_le hp
          rw [hh]
          have h2 : (row'.take k).take pre0.length = row'.take pre0.length := by rw [List.take_take, Nat.min_eq_left hp]
          rw [← h2, hpt, ← hpre, List.take_take, Nat.min_eq_left hp]; exact hpr) (by
          have h3 : (x + 1) * m.toNat ^ d ≤ m.toNat * m.toNat ^ d := Nat.mul_le_mul_right _ (by omega)
          rw [Nat.succ_mul] at h3
          rw [Nat.pow_succ, Nat.mul_comm] at hM
          omega))
        have hL5 := runC_len len m.toNat st hL d (pre ++ [(x : Int)]) s'
        rw [HT.out] at HN
        clear ih
        go_wp2_with fail
        refine HN.out.mono ?_
        have HL1 := Lib.hid (show (if (runC m.toNat st d (pre ++ [(x : Int)]) s').2 then loopC (fun x s => runC m.toNat st d (pre ++ [(x : Int)]) s) (m.toNat - (x + 1)) (x + 1) (runC m.toNat st d (pre ++ [(x : Int)]) s').1 else ((runC m.toNat st d (pre ++ [(x : Int)]) s').1, false)) = loopC (fun x s => runC m.toNat st d (pre ++ [(x : Int)]) s) m.toNat 0 s by rw [← HL.out, show m.toNat - x = (m.toNat - (x + 1)) + 1 by omega]; rfl)
        clear HL HN
        generalize runC m.toNat st d (pre ++ [(x : Int)]) s' = rr at HL1 hL5
        obtain ⟨s5, b5⟩ := rr
        rintro e w5 ⟨rfl, o5, hi5, ho5, hc5, row5, hl5, hp5, hx5, hr5⟩
        have hcr : Ch (g :: Fx) o w w5 := hch.trans ho' (hcw.trans (.inl rfl) hc5)
        have ho5' : o5 = o ∨ ∃ b, o5 = some b ∧ w.heap.size ≤ b := by
          rcases ho5 with e | ⟨b, e, hb⟩
          · rw [e]; exact ho'
          · exact .inr ⟨b, e, by omega⟩
        have lXr := Xr.lt
        have hXo5 : some w.heap.size ≠ o5 := by
          rcases ho5 with e | ⟨b, e, hb⟩
          · rw [e]; exact hXo'
          · intro e2; rw [e] at e2; cases e2; omega
        have X5 := hXw.ch hc5 hXF hXo'
        have hpl : pre.length = k := by rw [← hpt, List.length_take]; omega
        have hp5' : row5.take k = pre := by
          have h1 : (row5.take (k + 1)).take k = row5.take k := by rw [List.take_take, Nat.min_eq_left (by omega)]
          rw [← h1, hp5]
          exact List.take_left' hpl
        cases b5
        · have HL2 := Lib.hid (show loopC (fun x s => runC m.toNat st d (pre ++ [(x : Int)]) s) m.toNat 0 s = (s5, false) by rw [← HL1.out]; simp)
          clear HL1
          go_wp2
          go_ret
          rw [HL2.out]
          exact ⟨rfl, o5, hi5, ho5', hcr, row5, hl5, hp5', hx5, hr5⟩
        · have HL2 := Lib.hid (show loopC (fun x s => runC m.toNat st d (pre ++ [(x : Int)]) s) (m.toNat - (x + 1)) (x + 1) s5 = loopC (fun x s => runC m.toNat st d (pre ++ [(x : Int)]) s) m.toNat 0 s by rw [← HL1.out]; simp)
          clear HL1
          go_wp2
          exact ⟨⟨x + 1, s5, o5, row5, by omega, by go_num, hi5, ho5', hcr, X5, hl5, hp5', hx5, hr5, hXo5, by rw [Nat.succ_mul]; omega, HL2⟩, by simp [intOf]; omega⟩
      · obtain rfl : x = m.toNat := by omega
        have i1 : ¬ ((m.toNat : Nat) : Int) < m := by omega
        have HL2 := Lib.hid (show loopC (fun x s => runC m.toNat st d (pre ++ [(x : Int)]) s) m.toNat 0 s = (s', true) by rw [← HL.out, Nat.sub_self]; rfl)
        clear HL
        go_wp2
        go_ret
        rw [HL2.out]
        exact ⟨rfl, o', hi', ho', hch, row', hl', hpt, hxr, hrr⟩
end Go.Proofs.Ytfpphfjlpgefaaa
set_option linter.unusedSimpArgs false
set_option linter.unusedVariables false
namespace Go.Proofs.Ytfpphfjlpgefaaa
open Go.RowKit

theorem list_set_same {α : Type} {l : List α} {k : Nat} {x : α} (h : l[k]? = some x) : l.set k x = l := by
  apply List.ext_getElem?
  intro i
  rw [List.getElem?_set]
  by_cases e : k = i
  · subst e
    rw [if_pos rfl, if_pos (List.getElem?_eq_some_iff.1 h).1, h]
  · rw [if_neg e]

def cellsP : List (Int × List Int) → List Value → List Value
  | p :: ps, u :: us => .int .i64 p.1 :: u :: cellsP ps us
  | _, _ => []
theorem cellsP_0 : ∀ (ps : List (Int × List Int)) (us : List Value) (k : Nat) (p : Int × List Int), us.length = ps.length → ps[k]? = some p → (cellsP ps us)[k * 2]? = some (.int .i64 p.1)
  | [], _, k, p, _, h => by simp at h
  | q :: ps, [], k, p, hl, _ => by simp at hl
  | q :: ps, u :: us, 0, p, hl, h => by simp at h; subst h; rfl
  | q :: ps, u :: us, k + 1, p, hl, h => by
    rw [show (k + 1) * 2 = k * 2 + 1 + 1 by omega]
    exact cellsP_0 ps us k p (by simpa using hl) (by simpa using h)
theorem cellsP_1 : ∀ (ps : List (Int × List Int)) (us : List Value) (k : Nat), us.length = ps.length → (cellsP ps us)[k * 2 + 1]? = us[k]?
  | [], [], k, _ => by simp [cellsP]
  | [], u :: us, k, hl => by simp at hl
  | q :: ps, [], k, hl => by simp at hl
  | q :: ps, u :: us, 0, hl => rfl
  | q :: ps, u :: us, k + 1, hl => by
    rw [show (k + 1) * 2 + 1 = k * 2 + 1 + 1 + 1 by omega]
    exact cellsP_1 ps us k (by simpa using hl)
theorem cellsP_app (p : Int × List Int) (u : Value) : ∀ (ps : List (Int × List Int)) (us : List Value), us.length = ps.length → cellsP (ps ++ [p]) (us ++ [u]) = cellsP ps us ++ [.int .i64 p.1, u]
  | [], [], _ => rfl
  | [], v :: us, h => by simp at h
  | q :: ps, [], h => by simp at h
  | q :: ps, v :: us, h => by
    have := cellsP_app p u ps us (by simpa using h)
    simp only [List.cons_append, cellsP, this]
theorem cellsP_set (q : Int × List Int) : ∀ (ps : List (Int × List Int)) (us : List Value) (k : Nat), us.length = ps.length → (cellsP ps us).set (k * 2) (.int .i64 q.1) = cellsP (ps.set k q) us
  | [], us, k, _ => by simp [cellsP]
  | p :: ps, [], k, h => by simp at h
  | p :: ps, u :: us, 0, h => rfl
  | p :: ps, u :: us, k + 1, h => by
    have := cellsP_set q ps us k (by simpa using h)
    rw [show (k + 1) * 2 = k * 2 + 1 + 1 by omega]
    simp only [List.set_cons_succ, cellsP, this]

def OwP (w : World) (B : Nat) (X : Nat → Prop) (v : Value) (ps : List (Int × List Int)) : Prop :=
  ∃ us : List Value, us.length = ps.length ∧ w.ownsRow B 41 2 v ps.length (cellsP ps us) ∧
    (∀ (k : Nat) (u : Value) (p : Int × List Int), us[k]? = some u → ps[k]? = some p → OwI w B u p.2) ∧
    (∀ (i j : Nat) (u u' : Value) (b : Nat), us[i]? = some u → us[j]? = some u' → u.ownBlock = some b → u'.ownBlock = some b → i = j) ∧
    (∀ (i : Nat) (u : Value) (b : Nat), us[i]? = some u → u.ownBlock = some b → v.ownBlock = some b → False) ∧
    (∀ b : Nat, v.ownBlock = some b → ¬ X b) ∧ (∀ (k : Nat) (u : Value) (b : Nat), us[k]? = some u → u.ownBlock = some b → ¬ X b)
theorem OwP.shape {w : World} {B : Nat} {X : Nat → Prop} {v : Value} {ps : List (Int × List Int)} (h : OwP w B X v ps) : ∃ o c, v = .slice o ps.length c := by
  obtain ⟨us, hl, ⟨_, hr⟩, -⟩ := h
  rcases hr with ⟨rfl, h0⟩ | ⟨g, cap, cur, rfl, -⟩
  · exact ⟨none, 0, by rw [h0]⟩
  · exact ⟨_, _, rfl⟩
theorem OwP.lt {w : World} {B : Nat} {X : Nat → Prop} {v : Value} {ps : List (Int × List Int)} (h : OwP w B X v ps) : ∀ k, v.ownBlock = some k → B ≤ k ∧ k < w.heap.size := by
  obtain ⟨us, hl, hr, -⟩ := h; exact hr.lt
theorem OwP.notX {w : World} {B : Nat} {X : Nat → Prop} {v : Value} {ps : List (Int × List Int)} (h : OwP w B X v ps) : ∀ k, v.ownBlock = some k → ¬ X k := by
  obtain ⟨us, hl, hr, -, -, -, h1, -⟩ := h; exact h1
theorem OwP.mono {w : World} {B B' : Nat} {X : Nat → Prop} {v : Value} {ps : List (Int × List Int)} (h : OwP w B X v ps) (hB : B' ≤ B) : OwP w B' X v ps := by
  obtain ⟨us, hl, hr, h1, h2⟩ := h
  refine ⟨us, hl, ⟨hr.1, ?_⟩, fun k u p hu hp => (h1 k u p hu hp).mono hB, h2⟩
  rcases hr.2 with h | ⟨g, cap, cur, hv, hg, r⟩
  · exact .inl h
  · exact .inr ⟨g, cap, cur, hv, by omega, r⟩
theorem OwP.nil (w : World) (X : Nat → Prop) (hX : ¬ X w.heap.size) : OwP (w.alloc (.cells #[] 41)) w.heap.size X (.slice (some ⟨w.heap.size, 0, none⟩) 0 0) [] :=
  ⟨[], rfl, World.ownsRow_lit (base := w.heap.size) (e := 41) (size := 2) w #[] 0 (Nat.le_refl _) (Nat.zero_le _) rfl, by simp, by simp, by simp, fun b hb => by
    obtain rfl : w.heap.size = b := by simpa [Value.ownBlock] using hb
    exact hX, by simp⟩
theorem OwP.stay {w w' : World} {B : Nat} {X Y : Nat → Prop} {v : Value} {ps : List (Int × List Int)} (h : OwP w B X v ps) (hk : ∀ k, B ≤ k → k < w.heap.size → ¬ X k → w'.heap[k]? = w.heap[k]?) (hY : ∀ k, B ≤ k → k < w.heap.size → ¬ X k → ¬ Y k) : OwP w' B Y v ps := by
  obtain ⟨us, hl, hr, h1, h2, h3, h4, h5⟩ := h
  have hlt : ∀ (i : Nat) (u : Value) (b : Nat), us[i]? = some u → u.ownBlock = some b → B ≤ b ∧ b < w.heap.size := fun i u b hu hb => by
    have hi : i < us.length := (List.getElem?_eq_some_iff.1 hu).1
    exact (h1 i u (ps[i]'(by omega)) hu (by simp [show i < ps.length by omega])).lt b hb
  refine ⟨us, hl, ⟨hr.1, ?_⟩, fun k u p hu hp => ?_, h2, h3, fun b hb => hY b (hr.lt b hb).1 (hr.lt b hb).2 (h4 b hb), fun k u b hu hb => hY b (hlt k u b hu hb).1 (hlt k u b hu hb).2 (h5 k u b hu hb)⟩
  · rcases hr.2 with h | ⟨g, cap, cur, hv, hg, hh, r⟩
    · exact .inl h
    · have hlg : g < w.heap.size := (Array.getElem?_eq_some_iff.1 hh).1
      exact .inr ⟨g, cap, cur, hv, hg, by rw [hk g hg hlg (h4 g (by rw [hv]; rfl))]; exact hh, r⟩
  · obtain ⟨e1, e2⟩ := h1 k u p hu hp
    refine ⟨e1, ?_⟩
    rcases e2 with e2 | ⟨g, cap, cur, hv, hg, hh, r⟩
    · exact .inl e2
    · have hb : u.ownBlock = some g := by rw [hv]; rfl
      exact .inr ⟨g, cap, cur, hv, hg, by rw [hk g hg (hlt k u g hu hb).2 (h5 k u g hu hb)]; exact hh, r⟩
theorem OwP.below {w w' : World} {B : Nat} {X : Nat → Prop} {v : Value} {ps : List (Int × List Int)} (h : OwP w B X v ps) (hb : Below w.heap.size w w') : OwP w' B X v ps :=
  h.stay (fun k _ hk _ => hb.block k hk) (fun _ _ _ h => h)
theorem OwP.top {w : World} {B : Nat} {X : Nat → Prop} {v : Value} {ps : List (Int × List Int)} (h : OwP w B X v ps) : OwP w B (fun b => X b ∨ w.heap.size ≤ b) v ps :=
  h.stay (fun _ _ _ _ => rfl) (fun k _ h1 h2 h3 => by rcases h3 with h3 | h3; exact h2 h3; omega)
theorem OwP.weak {w : World} {B : Nat} {X Y : Nat → Prop} {v : Value} {ps : List (Int × List Int)} (h : OwP w B X v ps) (hY : ∀ b, Y b → X b) : OwP w B Y v ps :=
  h.stay (fun _ _ _ _ => rfl) (fun k _ _ h2 h3 => h2 (hY k h3))
theorem OwP.rd {w : World} {B : Nat} {X : Nat → Prop} {v : Value} {ps : List (Int × List Int)} (h : OwP w B X v ps) : RdM w v ps := by
  obtain ⟨us, hl, hr, h1, -⟩ := h
  rcases id hr.2 with ⟨rfl, h0⟩ | ⟨g, cap, cur, rfl, hg, hh, hn, hcm, hcs, ht⟩
  · have : ps = [] := List.eq_nil_of_length_eq_zero h0
    subst this
    exact ⟨none, 0, rfl, ⟨Nat.zero_le _, Nat.zero_le _, fun _ => rfl⟩, fun k row hx => by simp at hx⟩
  · refine ⟨_, _, rfl, ⟨by omega, hn, fun h => by cases h⟩, fun k p hx => ?_⟩
    have hk : k < ps.length := (List.getElem?_eq_some_iff.1 hx).1
    have hu : us[k]? = some us[k] := by simp [hl, hk]
    refine ⟨g, 0, us[k], rfl, ?_, ?_, (h1 k _ p hu hx).rd⟩
    · rw [Nat.zero_add, World.ownsRow.cellAt hr (k * 2) (by omega)]; exact cellsP_0 ps us k p hl hx
    · rw [Nat.zero_add, World.ownsRow.cellAt hr (k * 2 + 1) (by omega), cellsP_1 ps us k hl]; exact hu

section
variable {ops : Array Oper} {rest : List Oper} {o : Oper} {a : Act} {Q : Exit → Act → World → Prop}
theorem wpApP {K : Act → World → Prop} (W : World) (s x : Operand) (hop : o.op = .call { callee := .builtin .append, args := #[s, x], argTypes := #[26, 26] })
    (B T : Nat) (X : Nat → Prop) (v : Value) (ps : List (Int × List Int)) (hs : a.eval s = v) (hown : OwP W B (fun b => X b ∨ T ≤ b) v ps) (hB : B ≤ W.heap.size) (hT : T ≤ W.heap.size) (m : Int) (u : Value) (row : List Int) (k : Nat) (hx : a.eval x = .slice (some ⟨k, 0, none⟩) 1 1)
    (hc0 : W.cell? ⟨k, 0, none⟩ = some (.int .i64 m)) (hc1 : W.cell? ⟨k, 1, none⟩ = some u) (hone : u.oneCell' = true) (hu : OwI W B u row) (hub : ∀ b, u.ownBlock = some b → T ≤ b ∧ ¬ X b) (hXn : ¬ X W.heap.size) (hn : ps.length < 1048576)
    (hK : ∀ g cap w', OwP w' B X (.slice (some ⟨g, 0, none⟩) (ps.length + 1) cap) (ps ++ [(m, row)]) → W.grownBy w' v.ownBlock → Below B W w' → (v.ownBlock = some g ∨ g = W.heap.size) → K (a.put o.dst (.slice (some ⟨g, 0, none⟩) (ps.length + 1) cap)) w') :
    Oper.wp Try.prog o a W K Q := by
  obtain ⟨i0, hi, hz0, hz1, hz2⟩ := info_parts info_S
  obtain ⟨us, hl, hr, h1, h2, h3, h4, h5⟩ := hown
  refine wp_append_lies W s x 26 hop B 41 i0 (.agg #[.int .i64 0, .slice none 0 0]) 2 32 Try.underlying26 hi hz0 hz1 hz2 rfl (by decide) v ps.length (cellsP ps us) hs hr ⟨k, 0, none⟩ 1 1 [.int .i64 m, u] hx rfl (fun j u' hj => ?_) (fun u' hu' => ?_) (by decide) (by unfold maxLen; omega) (by omega) hB W.heap.size rfl ?_
  · match j with
    | 0 => simp at hj; subst hj; simpa [Addr.add] using hc0
    | 1 => simp at hj; subst hj; simpa [Addr.add] using hc1
    | j + 2 => simp at hj
  · simp at hu'; rcases hu' with rfl | rfl
    · rfl
    · exact hone
  · intro g cap w' hown' hgrow hlies hglt
    have hgb : Below B W w' := Below.grown (Below.refl B W) hgrow hB (fun b hb => (hr.lt b hb).1)
    have hkeep : ∀ (z : Value) (r : List Int), OwI W B z r → (∀ b, z.ownBlock = some b → v.ownBlock = some b → False) → OwI w' B z r := fun z r hz hne => hz.kept hgrow (by
      cases e : z.ownBlock with
      | none => exact .inl rfl
      | some b => exact .inr (fun e' => hne b e e'.symm))
    have hvu : ∀ b, u.ownBlock = some b → v.ownBlock = some b → False := fun b hb hv => by
      have := (hub b hb).1
      exact h4 b hv (.inr this)
    have hub' : ∀ b, u.ownBlock = some b → b < W.heap.size := fun b hb => (hu.lt b hb).2
    have hul : ∀ (i : Nat) (z : Value), (us ++ [u])[i]? = some z → (i < us.length ∧ us[i]? = some z) ∨ (i = us.length ∧ z = u) := fun i z hz => by
      rw [List.getElem?_append] at hz
      by_cases hi' : i < us.length
      · rw [if_pos hi'] at hz; exact .inl ⟨hi', hz⟩
      · rw [if_neg hi'] at hz
        have e1 : i - us.length = 0 := by
          have := (List.getElem?_eq_some_iff.1 hz).1; simp at this; omega
        rw [e1] at hz
        simp at hz
        exact .inr ⟨by omega, hz.symm⟩
    refine hK g cap w' ⟨us ++ [u], by simp [hl], by rw [List.length_append, cellsP_app (m, row) u ps us hl]; exact hown', fun i z p hz hp => ?_, fun i j z z' b hz hz' hb hb' => ?_, fun i z b hz hb hv => ?_, fun b hb => ?_, fun i z b hz hb => ?_⟩ hgrow hgb hlies
    · rcases hul i z hz with ⟨hi', hz⟩ | ⟨rfl, rfl⟩
      · rw [List.getElem?_append_left (by omega)] at hp
        exact hkeep z p.2 (h1 i z p hz hp) (fun b hb hv => h3 i z b hz hb hv)
      · rw [List.getElem?_append_right (by omega), show us.length - ps.length = 0 by omega] at hp
        simp at hp
        subst hp
        exact hkeep _ _ hu hvu
    · rcases hul i z hz with ⟨hi', hz1⟩ | ⟨rfl, rfl⟩ <;> rcases hul j z' hz' with ⟨hj', hz2⟩ | ⟨rfl, rfl⟩
      · exact h2 i j z z' b hz1 hz2 hb hb'
      · exact absurd (Or.inr (hub b hb').1) (h5 i z b hz1 hb)
      · exact absurd (Or.inr (hub b hb).1) (h5 j z' b hz2 hb')
      · rfl
    · have hg : g = b := by simpa [Value.ownBlock] using hv
      rcases hul i z hz with ⟨hi', hz⟩ | ⟨rfl, rfl⟩
      · have hzl : b < W.heap.size := ((h1 i z (ps[i]'(by omega)) hz (by simp [show i < ps.length by omega])).lt b hb).2
        rcases hlies with e | e
        · rw [hg] at e; exact h3 i z b hz hb e
        · omega
      · have := hub' b hb
        rcases hlies with e | e
        · rw [hg] at e; exact hvu b hb e
        · omega
    · have hg : g = b := by simpa [Value.ownBlock] using hb
      rw [← hg]
      rcases hlies with e | e
      · exact fun hX => h4 g e (.inl hX)
      · rw [e]; exact hXn
    · rcases hul i z hz with ⟨hi', hz⟩ | ⟨rfl, rfl⟩
      · exact fun hX => h5 i z b hz hb (.inl hX)
      · exact (hub b hb).2
theorem apP (W : World) (hg : o.guard = none) (s x : Operand) (hop : o.op = .call { callee := .builtin .append, args := #[s, x], argTypes := #[26, 26] })
    (B T : Nat) (X : Nat → Prop) (v : Value) (ps : List (Int × List Int)) (hs : a.eval s = v) (hown : OwP W B (fun b => X b ∨ T ≤ b) v ps) (hB : B ≤ W.heap.size) (hT : T ≤ W.heap.size) (m : Int) (u : Value) (row : List Int) (k : Nat) (hx : a.eval x = .slice (some ⟨k, 0, none⟩) 1 1)
    (hc0 : W.cell? ⟨k, 0, none⟩ = some (.int .i64 m)) (hc1 : W.cell? ⟨k, 1, none⟩ = some u) (hone : u.oneCell' = true) (hu : OwI W B u row) (hub : ∀ b, u.ownBlock = some b → T ≤ b ∧ ¬ X b) (hXn : ¬ X W.heap.size) (hn : ps.length < 1048576)
    (hK : ∀ g cap w', OwP w' B X (.slice (some ⟨g, 0, none⟩) (ps.length + 1) cap) (ps ++ [(m, row)]) → W.grownBy w' v.ownBlock → Below B W w' → (v.ownBlock = some g ∨ g = W.heap.size) → wpList Try.prog ops Q rest (a.put o.dst (.slice (some ⟨g, 0, none⟩) (ps.length + 1) cap)) w') :
    wpList Try.prog ops Q (o :: rest) a W :=
  wpList_plain hg fun _ hK' => wpApP W s x hop B T X v ps hs hown hB hT m u row k hx hc0 hc1 hone hu hub hXn hn fun g cap w' h1 h2 h3 h4 => hK' _ _ (hK g cap w' h1 h2 h3 h4)
end
def OwPR (lo hi : Nat) (w : World) (v : Value) (ps : List (Int × List Int)) : Prop := OwP w lo (fun b => hi ≤ b) v ps
theorem OwPR.stay {u u' : World} {lo hi : Nat} {v : Value} {ps : List (Int × List Int)} (h : OwPR lo hi u v ps) (hk : ∀ k, lo ≤ k → k < hi → u'.heap[k]? = u.heap[k]?) : OwPR lo hi u' v ps :=
  OwP.stay h (fun k h1 _ h3 => hk k h1 (by omega)) (fun _ _ _ h => h)
theorem Lives.owP {w w' : World} {X : Nat → Prop} {v : Value} {ps : List (Int × List Int)} (h : OwP w' w.heap.size X v ps) (hB : w.heap.size ≤ w'.heap.size) : Lives w.heap.size w'.heap.size w' (fun u => OwPR w.heap.size w'.heap.size u v ps) :=
  ⟨h.top.weak (fun _ hb => .inr hb), Nat.le_refl _, fun u u' hk hx => hx.stay hk⟩
theorem Lives.markedP {w w' : World} {lo hi : Nat} {v : Value} {ps qs : List (Int × List Int)} (h : Lives lo hi w (fun u => OwPR lo hi u v ps)) (ho : OwPR lo hi w' v qs) (hc : Chg lo hi w w') : Lives lo hi w' (fun u => OwPR lo hi u v qs) :=
  ⟨ho, Nat.le_trans h.le hc.size, fun u u' hk hx => hx.stay hk⟩
theorem OwP.len {w : World} {B n c : Nat} {X : Nat → Prop} {o : Option Addr} {ps : List (Int × List Int)} (h : OwP w B X (.slice o n c) ps) : n = ps.length := by
  obtain ⟨o', c', he⟩ := h.shape
  simpa using (Value.slice.inj he).2.1
theorem OwP.row0 {w : World} {B n c : Nat} {X : Nat → Prop} {o : Option Addr} {ps : List (Int × List Int)} (h : OwP w B X (.slice o n c) ps) (hn : 1 ≤ n) : ∃ g, o = some ⟨g, 0, none⟩ ∧ B ≤ g ∧ g < w.heap.size := by
  have e := h.len
  obtain ⟨us, hl, hr, -⟩ := h
  rcases id hr.2 with ⟨hv, h0⟩ | ⟨g, cap, cur, hv, -⟩
  · omega
  · have ho : o = some ⟨g, 0, none⟩ := (Value.slice.inj hv).1
    subst ho
    exact ⟨g, rfl, hr.lt g rfl⟩
theorem OwPR.at {w : World} {lo hi g n c : Nat} {ps : List (Int × List Int)} (h : OwPR lo hi w (.slice (some ⟨g, 0, none⟩) n c) ps) {k : Nat} {p : Int × List Int} (hx : ps[k]? = some p) :
    ∃ o c', w.cell? ⟨g, k * 2, none⟩ = some (.int .i64 p.1) ∧ w.cell? ⟨g, k * 2 + 1, none⟩ = some (.slice o p.2.length c') ∧ OwI w lo (.slice o p.2.length c') p.2 ∧ (∀ b : Nat, (Value.slice o p.2.length c').ownBlock = some b → lo ≤ b ∧ b < hi ∧ b ≠ g) ∧ (∀ j, w.frozen? ⟨g, j, none⟩ = false) ∧
      (∀ w' row', row'.length = p.2.length → w.grownBy w' (Value.slice o p.2.length c').ownBlock → OwI w' lo (.slice o p.2.length c') row' → OwPR lo hi w' (.slice (some ⟨g, 0, none⟩) n c) (ps.set k (p.1, row'))) := by
  have hn := h.len
  obtain ⟨us, hl, hr, h1, h2, h3, h4, h5⟩ := h
  subst hn
  have hk : k < ps.length := (List.getElem?_eq_some_iff.1 hx).1
  have hu : us[k]? = some us[k] := by simp [hl, hk]
  have how := h1 k _ p hu hx
  obtain ⟨o, c', he⟩ := how.shape
  rw [he] at how hu
  refine ⟨o, c', by rw [World.ownsRow.cellAt hr (k * 2) (by omega)]; exact cellsP_0 ps us k p hl hx, by rw [World.ownsRow.cellAt hr (k * 2 + 1) (by omega), cellsP_1 ps us k hl]; exact hu, how, fun b hb => ⟨(how.lt b hb).1, by have := h5 k _ b hu hb; omega, fun e => h3 k _ g hu (by rw [hb, e]) rfl⟩, fun j => World.ownsRow.frozenAt hr j, fun w' row' hlen hg how' => ?_⟩
  have hr' := hr.kept hg (.inr fun e => h3 k _ g hu (by rw [← e]; rfl) rfl)
  have hcs : cellsP (ps.set k (p.1, row')) us = cellsP ps us := by
    rw [← cellsP_set (p.1, row') ps us k hl]
    exact list_set_same (cellsP_0 ps us k p hl hx)
  refine ⟨us, by simp [hl], by rw [List.length_set, hcs]; exact hr', fun i u r hi hxi => ?_, h2, h3, h4, h5⟩
  · rw [List.getElem?_set] at hxi
    by_cases e : k = i
    · subst e
      rw [if_pos rfl, if_pos hk] at hxi
      cases hxi
      rw [hu] at hi
      cases hi
      exact how'
    · rw [if_neg e] at hxi
      refine (h1 i u r hi hxi).kept hg ?_
      cases eo : u.ownBlock with
      | none => exact .inl rfl
      | some b => exact .inr fun e' => e (h2 k i _ u b hu hi (by rw [← e']) eo)
theorem OwPR.setM {w : World} {lo hi g n c : Nat} {ps : List (Int × List Int)} (h : OwPR lo hi w (.slice (some ⟨g, 0, none⟩) n c) ps) {k : Nat} {p : Int × List Int} (hx : ps[k]? = some p) (m' : Int) :
    OwPR lo hi (w.setCell ⟨g, k * 2, none⟩ (.int .i64 m')) (.slice (some ⟨g, 0, none⟩) n c) (ps.set k (m', p.2)) := by
  have hn := h.len
  obtain ⟨us, hl, hr, h1, h2, h3, h4, h5⟩ := h
  subst hn
  have hk : k < ps.length := (List.getElem?_eq_some_iff.1 hx).1
  have hr' := (World.ownsRow.stored hr (k * 2) (.int .i64 m')).1
  rw [cellsP_set (m', p.2) ps us k hl] at hr'
  refine ⟨us, by simp [hl], by rw [List.length_set]; exact hr', fun i u r hi hxi => ?_, h2, h3, h4, h5⟩
  have hq : ∀ r, ps[i]? = some r → OwI (w.setCell ⟨g, k * 2, none⟩ (.int .i64 m')) lo u r.2 := fun r hr => (h1 i u r hi hr).ne (fun j hj e => h3 i u j hi hj (by rw [e]; rfl)) _
  rw [List.getElem?_set] at hxi
  by_cases e : k = i
  · subst e
    rw [if_pos rfl, if_pos hk] at hxi
    cases hxi
    exact hq p hx
  · rw [if_neg e] at hxi
    exact hq r hxi
end Go.Proofs.Ytfpphfjlpgefaaa
set_option linter.unusedSimpArgs false
set_option linter.unusedVariables false
namespace Go.Proofs.Ytfpphfjlpgefaaa
open Go.RowKit

set_option maxHeartbeats 400000 in
theorem anyCurve_c (v : Value) (m : Int) (w : World) : Calls Try.prog 20 #[.agg #[.int .i64 m, v]] w fun e w' => e = .returned (.bool true) ∧ Below w.heap.size w w' := by
  go_enter Try.func20, Try.ntmps20
  go_wp2
  go_ret
  exact ⟨rfl, (by (repeat (first | exact bR _ _ | (refine bS ?_ _) | (refine bA ?_ _) | (refine bN ?_ _) | (refine bD ?_))))⟩
theorem anyCurve_callable : Callable 20 := fun args w => Try.call20 args w
end Go.Proofs.Ytfpphfjlpgefaaa
