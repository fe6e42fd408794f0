/- Lemmas. -/
import Derived.Test.YteijannfbafdpaaGreatDoorSZM29
import Derived.Test.YteijannfbafdpaaGreatDoorSZG2
import Derived.ProofKit
import Derived.Lib.SmallJoins
import Derived.Deep.Matrix
set_option linter.unusedSimpArgs false
set_option linter.unusedVariables false
namespace Go.Proofs.YteijannfbafdpaaGreatDoor
open Go.RowKit
open Go.Maps Go.WideMaps

set_option maxHeartbeats 400000 in
set_option maxRecDepth 100000 in
theorem orbitz_c (m : Int) (n q : Nat) (w wo : World) (o : Option Addr) (c : Nat) (t : List (List Int)) (hml : t.length ≤ maxLen) (hn0 : t.length = n) (hq : w.heap.size ≤ q) (hqo : q + 2 ≤ wo.heap.size) (hm : 2 ≤ m) (hm' : m ≤ 10000) (h2n : 2 ≤ n) (hn : n ≤ 11) (ht : PlaT m n t) (hv : RdT w (.slice o t.length c) t) (hten : TenT w) (hM : m.toNat ^ (n - 2) ≤ 300)
    (hbel : ∀ k, k < w.heap.size → wo.heap[k]? = w.heap[k]?) (hO : Cel1 wo (q + 1) 0 (.map (some q))) (hN : IsSet wo q []) :
    Calls Tryz.prog 17 #[.agg #[.int .i64 m, .slice o t.length c], .func (.func 18) #[] #[.pointer (some ⟨q + 1, 0, none⟩)]] wo fun e w' => e = .returned (.tuple #[]) ∧ Cel1 w' (q + 1) 0 (.map (some q)) ∧ IsSet w' q ((List.range (m.toNat ^ (n - 2))).map (fun j => texB m (conT m n t j))) ∧ Below q wo w' := by
  have HT := Lib.hid ht
  have HN0 := Lib.hid hn0
  have HV := Lib.hid hv
  clear ht hn0 hv
  obtain ⟨p, hp⟩ : ∃ p, wo.heap.size = p := ⟨_, rfl⟩
  have hA : Below wo.heap.size wo ((wo.alloc (.cells #[.int .i64 m, .slice o t.length c] 28)).alloc (.cells #[.func (.func 18) #[] #[.pointer (some ⟨q + 1, 0, none⟩)]] 42)) := (by (repeat (first | exact bR _ _ | (refine bS ?_ _) | (refine bA ?_ _) | (refine bN ?_ _) | (refine bD ?_))))
  have F3 : Box2 ((wo.alloc (.cells #[.int .i64 m, .slice o t.length c] 28)).alloc (.cells #[.func (.func 18) #[] #[.pointer (some ⟨q + 1, 0, none⟩)]] 42)) p (.int .i64 m) (.slice o t.length c) := by
    rw [← hp]; exact (Box2.mk' wo (.int .i64 m) (.slice o t.length c) 28).below (by (repeat (first | exact bR _ _ | (refine bS ?_ _) | (refine bA ?_ _) | (refine bN ?_ _) | (refine bD ?_)))) (Nat.le_refl _)
  have Y3 : Cel1 ((wo.alloc (.cells #[.int .i64 m, .slice o t.length c] 28)).alloc (.cells #[.func (.func 18) #[] #[.pointer (some ⟨q + 1, 0, none⟩)]] 42)) (p + 1) 0 (.func (.func 18) #[] #[.pointer (some ⟨q + 1, 0, none⟩)]) := ⟨by
    have h := (show (wo.alloc (.cells #[.int .i64 m, .slice o t.length c] 28)).heap.size = p + 1 by simp [hp])
    rw [← h]; simp⟩
  have S3 : ((wo.alloc (.cells #[.int .i64 m, .slice o t.length c] 28)).alloc (.cells #[.func (.func 18) #[] #[.pointer (some ⟨q + 1, 0, none⟩)]] 42)).heap.size = p + 2 := by simp [hp]
  go_enter Tryz.func17, Tryz.ntmps17
  go_wp2_with fail
  generalize ((wo.alloc (.cells #[.int .i64 m, .slice o t.length c] 28)).alloc (.cells #[.func (.func 18) #[] #[.pointer (some ⟨q + 1, 0, none⟩)]] 42)) = w3 at hA F3 Y3 S3 ⊢
  have hd0 : Below w3.heap.size w3 w3.drew := (Below.refl _ _).drew
  have hsd0 := hd0.size
  obtain ⟨f0_a, f0_b⟩ := ((F3).below (Below.refl w3.heap.size w3) (Nat.le_refl _))
  refine wp_region_K (S := fun w' => w'.cell? ⟨p, 0, none⟩ = some (.int .i64 m) ∧ w'.cell? ⟨p, 1, none⟩ = some (.slice o t.length c)) [5] (by kernel_rfl) ?_
  have hHeld : (fun w' : World => w'.cell? ⟨p, 0, none⟩ = some (.int .i64 m) ∧ w'.cell? ⟨p, 1, none⟩ = some (.slice o t.length c)) w3.drew := by go_keep
  refine' wpAnyK_takeL (i := 0) (v := _) rfl (by kernel_rfl) (by kernel_rfl) (by kernel_rfl) (by kernel_rfl) (fun _ _ _ h => h) (Or.inl ⟨by rfl, ?yT1⟩) hHeld ?rT1
  case yT1 => (intro w' hSw; (try dsimp only at hSw); go_simp; try with_reducible rfl)
  try simp only [List.getElem_toArray, List.getElem_cons_zero, List.getElem_cons_succ, Act.put, List.setIfInBounds_toArray, List.set_cons_zero, List.set_cons_succ]
  refine' wpAnyK_takeL (i := 1) (v := _) rfl (by kernel_rfl) (by kernel_rfl) (by kernel_rfl) (by kernel_rfl) (fun _ _ _ h => h) (Or.inl ⟨by rfl, ?yT2⟩) hHeld ?rT2
  case yT2 => (intro w' hSw; (try dsimp only at hSw); go_simp; try with_reducible rfl)
  try simp only [List.getElem_toArray, List.getElem_cons_zero, List.getElem_cons_succ, Act.put, List.setIfInBounds_toArray, List.set_cons_zero, List.set_cons_succ]
  refine' wpAnyK_takeL (i := 2) (v := _) rfl (by kernel_rfl) (by kernel_rfl) (by kernel_rfl) (by kernel_rfl) (fun _ _ _ h => h) (Or.inl ⟨by rfl, ?yT3⟩) hHeld ?rT3
  case yT3 => (intro w' hSw; (try dsimp only at hSw); go_simp; try with_reducible rfl)
  try simp only [List.getElem_toArray, List.getElem_cons_zero, List.getElem_cons_succ, Act.put, List.setIfInBounds_toArray, List.set_cons_zero, List.set_cons_succ]
  refine' wpAnyK_takeL (i := 4) (v := _) rfl (by kernel_rfl) (by kernel_rfl) (by kernel_rfl) (by kernel_rfl) (fun _ _ _ h => h) (Or.inl ⟨by rfl, ?yT4⟩) hHeld ?rT4
  case yT4 => (intro w' hSw; (try dsimp only at hSw); go_simp; try with_reducible rfl)
  try simp only [List.getElem_toArray, List.getElem_cons_zero, List.getElem_cons_succ, Act.put, List.setIfInBounds_toArray, List.set_cons_zero, List.set_cons_succ]
  refine wpAnyK_oneL (i := 3) rfl (by kernel_rfl) (fun K hK => ?_)
  go_simp
  go_at_call 31
  refine (degreeP_c m o t.length c _ hml).mono ?_
  rintro e wd1 ⟨rfl, hbd1⟩
  have hd1 : Below w3.heap.size w3 wd1 := (by (repeat (first | exact bR _ _ | (refine bS ?_ _) | (refine bA ?_ _) | (refine bN ?_ _) | (refine bD ?_) | (refine bT ?_ hbd1))))
  have hsd1 := hd1.size
  have hsz1_ := hbd1.size
  (try simp at hsz1_)
  obtain ⟨f1_a, f1_b⟩ := ((F3).below hd1 (Nat.le_refl _))
  go_wp2_with fail
  clear hHeld
  have hHeld : (fun w' : World => w'.cell? ⟨p, 0, none⟩ = some (.int .i64 m) ∧ w'.cell? ⟨p, 1, none⟩ = some (.slice o t.length c)) wd1 := by go_keep
  refine hK.out _ _ (fun _ => hHeld) ?_
  clear hK K
  try simp only [List.getElem_toArray, List.getElem_cons_zero, List.getElem_cons_succ, Act.put, List.setIfInBounds_toArray, List.set_cons_zero, List.set_cons_succ]
  refine wpAnyK_oneL (i := 5) rfl (by kernel_rfl) (fun K hK => ?_)
  go_simp
  refine (strictCurves_c m _ n _ wd1 (fun w' => ∃ (g : Nat) (u : World), wd1.heap.size ≤ g ∧ Below wd1.heap.size wd1 u ∧ InvZ m p q w (.slice o t.length c) ((List.range (m.toNat ^ (n - 2))).map (fun j => texB m (conT m n t j))) none w' ∧ Ch [g, q] none u w') (by have := HN0.out; omega) (by omega) (by omega) (fun g cz u h1 h2 h3 h4 => ?_)).mono ?_
  · (have hw3u : Below w3.heap.size w3 u := hd1.trans (h3.mono hsd1); have hwou : Below wo.heap.size wo u := hA.trans (hw3u.mono hA.size); have hi : InvZ m p q w (.slice o t.length c) [] none u := ⟨fun k hk => (hwou.block k (by omega)).trans (hbel k hk), F3.below hw3u (Nat.le_refl _), Y3.below hw3u (Nat.le_refl _), hO.below hwou (Nat.le_refl _), hN.stay (hwou.block q (by omega)), rfl⟩; refine (orbWalkZ m n p q g cz w u _ t hq (by omega) (by omega) h2 hm hm' h2n hn HT.out HV.out hten hM hi h4).mono ?_; rintro e w' ⟨he, hi', hc'⟩; exact ⟨he, g, u, h1, h3, hi', hc'⟩)
  rintro e w9 ⟨rfl, g, u9, hg9, hb9, hi9, hc9⟩
  have Bu : Below wo.heap.size wo u9 := hA.trans ((hd1.trans (hb9.mono hsd1)).mono hA.size)
  have B9 : Below q wo w9 := (Bu.mono (by omega)).trans (hc9.below (fun x hx => by simp at hx; omega) (fun j hj => by cases hj) (by have := Bu.size; omega))
  go_wp2_with fail
  refine hK.out _ _ (fun h => absurd h (by decide)) ?_
  clear hK K
  try simp only [List.getElem_toArray, List.getElem_cons_zero, List.getElem_cons_succ, Act.put, List.setIfInBounds_toArray, List.set_cons_zero, List.set_cons_succ]
  refine wpAnyK_done (by kernel_rfl) ?_ _
  go_wp2
  exact bodyPost_end (v := .tuple #[]) (by simp [results, Tryz.results17, go_sem]) rfl ⟨rfl, hi9.O, hi9.N, B9⟩
set_option maxHeartbeats 400000 in
set_option maxRecDepth 100000 in
theorem SizeOfClass_c (m : Int) (v : Value) (t : List (List Int)) (w : World) (hv : RdT w v t) (hten : TenT w) :
    Calls Tryz.prog 7 #[.agg #[.int .i64 m, v]] w fun e w' => IEnd w w' (szR m t) e := by
  obtain ⟨o, c, rfl, hmt, -⟩ := id hv
  have hml := hmt.1
  clear hmt
  by_cases hc : l11R m t = 0
  · have hlaw : lawB m t = true := by
      cases h : lawB m t
      · unfold l11R at hc; rw [h] at hc; simp at hc
      · rfl
    have hp := (lawB_t hlaw).1
    have hm := pla_m hp
    have hn := pla_n hp
    have hn2 : ¬ t.length = 2 := fun h => by unfold l11R at hc; rw [hlaw, if_pos rfl, if_pos h] at hc; simp at hc
    have hle : ¬ 300 < m ^ (t.length - 2) := fun h => by unfold l11R at hc; rw [hlaw, if_pos rfl, if_neg hn2, if_pos h] at hc; simp at hc
    have HR := Lib.hid (show szR m t = ⟨(disN (conT m t.length t) (m.toNat ^ (t.length - 2)) : Nat), 0⟩ by unfold szR; rw [if_pos hc])
    have hK300 : m.toNat ^ (t.length - 2) ≤ 300 := by
      have hmn : ((m.toNat : Nat) : Int) = m := by omega
      have : ((m.toNat ^ (t.length - 2) : Nat) : Int) = m ^ (t.length - 2) := by rw [Int.natCast_pow, hmn]
      omega
    have HK3 := Lib.hid hK300
    have ht : PlaT m t.length t := ⟨rfl, pla_row hp⟩
    have HT := Lib.hid ht
    have HL := Lib.hid hc
    have hcc : ((0 : Int) != 0) = false := by simp
    clear hc hle ht hK300 hn2
    have hmm := @run_makeMap Tryz.prog
    go_enter Tryz.func7, Tryz.ntmps7
    go_wp2_with fail
    (obtain ⟨w0, hw0⟩ : ∃ W : World, W = (w.alloc (.cells #[.int .i64 m, .slice o t.length c] 28)) := ⟨_, rfl⟩; have X0 := (RB2.mk1 w  (.int .i64 m) (.slice o t.length c) 28).1.below (w' := w0) (by rw [hw0]; (repeat (first | exact bR _ _ | (refine bS ?_ _) | (refine bA ?_ _) | (refine bN ?_ _) | (refine bD ?_)))) (Nat.le_refl _); have B0 : Below w.heap.size w w0 := (by rw [hw0]; (repeat (first | exact bR _ _ | (refine bS ?_ _) | (refine bA ?_ _) | (refine bN ?_ _) | (refine bD ?_)))); have hv0 := hv.below (w' := w0) (by rw [hw0]; (repeat (first | exact bR _ _ | (refine bS ?_ _) | (refine bA ?_ _) | (refine bN ?_ _) | (refine bD ?_)))) (Nat.le_refl _); rw [← hw0]; clear hw0)
    (obtain ⟨gqX0, gqX1⟩ := id X0; go_wp2_with fail; refine (classed_c m _ t _ hv0).mono ?_; rw [HL.out]; rintro e w1 ⟨rfl, hb⟩; (have X1 := X0.below hb (Nat.le_refl _); have hv1 := hv0.below hb (Nat.le_refl _); have B1 := B0.trans (hb.mono B0.size)); clear gqX0 gqX1; clear hb)
    obtain ⟨x0, x1⟩ := id X1
    have hne1 : w.heap.size ≠ w1.heap.size := by have := X1.lt; omega
    have hne2 : w.heap.size ≠ w1.heap.size + 1 := by have := X1.lt; omega
    have hlX := X1.lt
    go_wp2_with fail
    have hs2 : (w1.alloc (.map #[] 0)).heap.size = w1.heap.size + 1 := by simp
    have O3 : Cel1 ((w1.alloc (.map #[] 0)).alloc (.cells #[.map (some w1.heap.size)] 40)) (w1.heap.size + 1) 0 (.map (some w1.heap.size)) := ⟨by rw [← hs2]; simp⟩
    have N3 : IsSet ((w1.alloc (.map #[] 0)).alloc (.cells #[.map (some w1.heap.size)] 40)) w1.heap.size [] := (World.ownsMap_made w1 Tryz.prog 9 (plainElem (H := Unit) Tryz.prog 4)).alloc _
    have hB3 : Below w1.heap.size w1 ((w1.alloc (.map #[] 0)).alloc (.cells #[.map (some w1.heap.size)] 40)) := (by (repeat (first | exact bR _ _ | (refine bS ?_ _) | (refine bA ?_ _) | (refine bN ?_ _) | (refine bD ?_))))
    have S3 : ((w1.alloc (.map #[] 0)).alloc (.cells #[.map (some w1.heap.size)] 40)).heap.size = w1.heap.size + 2 := by simp
    have hT1 := hten.below B1
    generalize (w1.alloc (.map #[] 0)).alloc (.cells #[.map (some w1.heap.size)] 40) = w3 at hB3 O3 N3 S3 ⊢
    have B1s := B1.size
    have B3 := B1.trans (hB3.mono B1s)
    refine (orbitz_c m t.length w1.heap.size w1 w3 o c t hml rfl (Nat.le_refl _) (by omega) (by omega) (by omega) (by omega) (by omega) HT.out hv1 hT1 HK3.out (fun k hk => hB3.block k hk) O3 N3).mono ?_
    rintro e w4 ⟨rfl, hO4, hN4, hb4⟩
    have c4 := hO4.get
    have HSz := Lib.hid (size_con (n := t.length) (t := t) hm.1 (m.toNat ^ (t.length - 2)))
    have hN4' : w4.ownsMap Tryz.prog 9 (plainElem (H := Unit) Tryz.prog 4) w1.heap.size _ _ := hN4
    clear S3 hmm
    go_wp2_with (at_len; go_loud (refine wpList_len_own _ rfl _ 40 rfl 9 4 Tryz.underlying40 (plainElem (H := Unit) Tryz.prog 4) w1.heap.size _ _ rfl hN4' ?_))
    go_ret2
    exact ⟨by rw [HR.out, HSz.out]; rfl, B3.trans (hb4.mono (by omega))⟩
  · have hR2 : szR m t = ⟨0, l11R m t⟩ := by unfold szR; rw [if_neg hc]
    rw [hR2]
    clear hR2
    obtain ⟨cc, hcc0⟩ : ∃ cc, l11R m t = cc := ⟨_, rfl⟩
    rw [hcc0] at hc ⊢
    have HL := Lib.hid hcc0
    clear hcc0
    have hcc : (cc != 0) = true := by simpa using hc
    clear hc
    go_enter Tryz.func7, Tryz.ntmps7
    go_wp2_with fail
    (obtain ⟨w0, hw0⟩ : ∃ W : World, W = (w.alloc (.cells #[.int .i64 m, .slice o t.length c] 28)) := ⟨_, rfl⟩; have X0 := (RB2.mk1 w  (.int .i64 m) (.slice o t.length c) 28).1.below (w' := w0) (by rw [hw0]; (repeat (first | exact bR _ _ | (refine bS ?_ _) | (refine bA ?_ _) | (refine bN ?_ _) | (refine bD ?_)))) (Nat.le_refl _); have B0 : Below w.heap.size w w0 := (by rw [hw0]; (repeat (first | exact bR _ _ | (refine bS ?_ _) | (refine bA ?_ _) | (refine bN ?_ _) | (refine bD ?_)))); have hv0 := hv.below (w' := w0) (by rw [hw0]; (repeat (first | exact bR _ _ | (refine bS ?_ _) | (refine bA ?_ _) | (refine bN ?_ _) | (refine bD ?_)))) (Nat.le_refl _); rw [← hw0]; clear hw0)
    (obtain ⟨gqX0, gqX1⟩ := id X0; go_wp2_with fail; refine (classed_c m _ t _ hv0).mono ?_; rw [HL.out]; rintro e w1 ⟨rfl, hb⟩; (have X1 := X0.below hb (Nat.le_refl _); have B1 := B0.trans (hb.mono B0.size)); clear gqX0 gqX1; clear hb)
    go_wp2
    go_ret2
    exact ⟨rfl, B1⟩
end Go.Proofs.YteijannfbafdpaaGreatDoor
set_option linter.unusedSimpArgs false
set_option linter.unusedVariables false
namespace Go.Proofs.YteijannfbafdpaaGreatDoor
open Go.RowKit
open Go.ChangeShapes Go.WideShapes Go.ChangeAt Go.Joins

theorem Tryz.own : ownKnob Tryz.prog.godebug = none := by kernel_rfl
theorem Tryz.laidOut : laidOutB Tryz.prog = true := by kernel_rfl
theorem Tryz.cellsI : Tryz.prog.cellsOf 2 = 1 := by kernel_rfl

theorem trodAll_below {H : Type} {enc : TypeId × Value → H} {P : Program} {W W' : World} (hl : laidOutB P = true) :
    ∀ {ts : List TypeId} {vs : List Value} {ds : List (DataW H)} {ps : List MemPlace}, (ts.all fun t => P.readableRec t && decide (t < P.types.size)) = true →
      DataW.TrodAll enc P W 0 (fun _ => true) true ts vs ds ps → Below W.heap.size W W' → (∀ x ∈ ps, x.block < W.heap.size) → DataW.TrodAll enc P W' 0 (fun b => decide (b < W.heap.size)) true ts vs ds ps
  | [], [], [], _, _, h, _, _ => h
  | t :: ts, _ :: _, _ :: _, _, hT, ⟨p, q, h1, h2, e⟩, hb, hs => by
    simp only [List.all_cons, Bool.and_eq_true, decide_eq_true_eq] at hT
    exact ⟨p, q, Below.trod hl hT.1.1 hT.1.2 h1 hb (fun x hx => hs x (by rw [e]; exact List.mem_append_left _ hx)), trodAll_below hl hT.2 h2 hb (fun x hx => hs x (by rw [e]; exact List.mem_append_right _ hx)), e⟩

theorem Tryz.cellsL : Tryz.prog.cellsOf 34 = 1 := by kernel_rfl
theorem Tryz.cellsP : Tryz.prog.cellsOf 24 = 2 := by kernel_rfl
theorem cells_plain {w : World} {a : Addr} {n : Nat} {f : Nat → Value} (h : ∀ i, i < n → w.cell? (a.add i) = some (f i)) (hp : 0 < n) :
    ∃ b off, a = ⟨b, off, none⟩ ∧ ∀ j, j < n → w.cell? ⟨b, off + j, none⟩ = some (f j) := by
  obtain ⟨b, off, spot⟩ := a
  have hspot : spot = none := by simpa [Addr.add] using World.cell?_spot (h 0 hp)
  subst hspot
  exact ⟨b, off, rfl, fun j hj => by rw [← Go.WideShapes.add_plain]; exact h j hj⟩
theorem rdT_of_trod {H : Type} {enc : TypeId × Value → H} {W : World} {fuel : Nat} {v : Value} {y : DataW H × List MemPlace}
    (h : DataW.trod enc Tryz.prog W 0 (fun _ => true) true fuel 22 [v] = some y) : ∃ xss : List (List Int), RdT W v xss := by
  rcases Deep.open_int_rows Tryz.underlying22 Tryz.underlying34 Tryz.underlying2 Tryz.cellsL Tryz.cellsI h with ⟨hcs, hx⟩ | ⟨a, len, cap, A, L, C, Z, hcs, _, hl, hm, hx, hrow⟩
  · simp only [List.cons.injEq, and_true] at hcs
    subst hcs
    exact ⟨[], none, 0, rfl, ⟨Nat.zero_le _, Nat.zero_le _, fun _ => rfl⟩, fun k row hx => by simp at hx⟩
  · simp only [List.cons.injEq, and_true] at hcs
    subst hcs
    refine ⟨(List.range len).map (fun r => (Z r).take (L r)), some a, cap, by simp, ⟨by simp; omega, by simp; omega, fun h => by cases h⟩, fun k row hk => ?_⟩
    have hkl : k < len := by have := (List.getElem?_eq_some_iff.1 hk).1; simpa using this
    have hrk : row = (Z k).take (L k) := by simp [hkl] at hk; exact hk.symm
    obtain ⟨b, off, rfl, hc⟩ := cells_plain (fun i hi => (hrow i hi).1) (show 0 < cap by omega)
    obtain ⟨-, h1, h2, h3, -, h4, h5⟩ := hrow k (by omega)
    refine ⟨b, off, .slice (A k) (L k) (C k), rfl, hc k (by omega), A k, C k, by rw [hrk]; simp; omega, ⟨by rw [hrk]; simp; omega, by rw [hrk]; simp; omega, h4⟩, fun j x hx => ?_⟩
    rw [hrk] at hx
    have hj : j < L k := by have := (List.getElem?_eq_some_iff.1 hx).1; simp at this; omega
    cases hA : A k with
    | none => have := h4 hA; omega
    | some a' =>
      obtain ⟨-, h6⟩ := h5 a' hA
      obtain ⟨b', off', rfl, hc'⟩ := cells_plain (fun i hi => h6 i hi) (show 0 < C k by omega)
      refine ⟨b', off', rfl, ?_⟩
      rw [hc' j (by omega)]
      rw [List.getElem?_take, if_pos hj] at hx
      simp [List.getD, hx]
set_option maxRecDepth 100000 in
theorem open_plane {H : Type} {enc : TypeId × Value → H} {W : World} {r : Reach} {b0 : Nat} {v : Value} {d : DataW H} {ps : List MemPlace}
    (hv : Value.okWide Tryz.prog W r b0 24 v) (h : DataW.Trod enc Tryz.prog W 0 (fun _ => true) true 24 v d ps) :
    ∃ (m : Int) (u : Value) (xss : List (List Int)), v = .agg #[.int .i64 m, u] ∧ RdT W u xss := by
  obtain ⟨c0, c1, y0, y1, n, rfl, rfl, rfl, hy0, hy1⟩ := open_agg2 Tryz.underlying24 (by kernel_rfl) Tryz.cellsP hv h
  obtain ⟨a, e0, rfl, wa⟩ := DataW.trod_int Tryz.underlying2 hy0
  simp at e0
  subst e0
  obtain ⟨xss, hrd⟩ := rdT_of_trod hy1
  exact ⟨a, c1, xss, rfl, hrd⟩

end Go.Proofs.YteijannfbafdpaaGreatDoor
