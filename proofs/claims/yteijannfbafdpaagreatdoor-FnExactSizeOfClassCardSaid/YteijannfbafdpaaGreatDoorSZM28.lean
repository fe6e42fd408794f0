/- Lemmas. -/
import Derived.Test.YteijannfbafdpaaGreatDoorSZM26
import Derived.Test.YteijannfbafdpaaGreatDoorSZTxP
import Derived.Test.YteijannfbafdpaaGreatDoorSZG3
import Derived.Lib.AppendIntMem
import Derived.Deep.AppendLies
import Derived.Test.YteijannfbafdpaaGreatDoorSZM20
import Derived.Test.YteijannfbafdpaaGreatDoorSZM16
import Derived.Test.YteijannfbafdpaaGreatDoorSZG5
import Derived.Test.YteijannfbafdpaaGreatDoorSZG1
set_option linter.unusedSimpArgs false
set_option linter.unusedVariables false
namespace Go.Proofs.YteijannfbafdpaaGreatDoor
open Go.RowKit

def TenT (w : World) : Prop := Lib.TabIs Tryz.prog w "internal/strconv.uint64pow10" .u64 Lib.pow10Tab
theorem TenT.below {w u : World} (h : TenT w) (hb : Below w.heap.size w u) : TenT u := Lib.tabBelow_of_tabIs h u hb

theorem below_growO (w : World) (k : Nat) (os : Array Obj) : Below w.heap.size w (Go.Sort.grow (w.drewN k) os) := by
  have h := below_drewN (Below.refl w.heap.size w) k
  exact ⟨h.os, h.tape, h.output, by simp [Go.Sort.grow], fun j hj => by
    have : (Go.Sort.grow (w.drewN k) os).heap[j]? = (w.drewN k).heap[j]? := by
      simp only [Go.Sort.grow]
      rw [Array.getElem?_append_left (by have := h.size; omega)]
    rw [this]; exact h.block j hj⟩

def strV (s : List UInt8) : Value := .string ⟨s.toArray⟩
def OwT (w : World) (B : Nat) (v : Value) (ss : List (List UInt8)) : Prop := w.ownsRow B 9 1 v ss.length (ss.map strV)
theorem OwT.below {w w' : World} {B : Nat} {v : Value} {ss : List (List UInt8)} (h : OwT w B v ss) (hb : Below w.heap.size w w') : OwT w' B v ss :=
  World.ownsRow.kept h (row := none) ⟨hb.os, hb.tape, hb.output, hb.size, fun k hk _ => hb.block k hk⟩ (by cases e : v.ownBlock <;> simp)
theorem OwT.nil (w : World) (B : Nat) (hB : B ≤ w.heap.size) : OwT (w.alloc (.cells #[] 9)) B (.slice (some ⟨w.heap.size, 0, none⟩) 0 0) [] :=
  World.ownsRow_lit (base := B) (e := 9) (size := 1) w #[] 0 hB (Nat.zero_le _) rfl
theorem info_str : (Tryz.prog.info? 9).map (fun i => (i.zero, i.size, i.bytes)) = some (some (.string ⟨#[]⟩), 1, 16) := by kernel_rfl
theorem OwT.cells {w : World} {B n c g : Nat} {ss : List (List UInt8)} (h : OwT w B (.slice (some ⟨g, 0, none⟩) n c) ss) : n = ss.length ∧ ss.length ≤ c ∧ g < w.heap.size ∧ B ≤ g ∧ ∀ (j : Nat) x, (ss.map (fun s => (⟨s.toArray⟩ : ByteArray)))[j]? = some x → w.cell? ⟨g, 0 + j, none⟩ = some (.string x) := by
  unfold OwT at h
  rcases id h.2 with ⟨hv, h0⟩ | ⟨g', cap, cur, hv, hg, hh, hn, r⟩
  · cases hv
  · obtain ⟨h1, h2, h3⟩ := Value.slice.inj hv
    have hgg : g = g' := by simpa using h1
    subst hgg
    subst h2
    refine ⟨rfl, by rw [h3]; exact hn, (Array.getElem?_eq_some_iff.1 hh).1, hg, fun j x hx => ?_⟩
    have hj : j < ss.length := by have := (List.getElem?_eq_some_iff.1 hx).1; simpa using this
    rw [Nat.zero_add, World.ownsRow.cellAt h j (by first | exact hj | (rw [Nat.mul_one]; exact hj) | (simp; exact hj))]
    rw [List.getElem?_map] at hx ⊢
    obtain ⟨s, hs, rfl⟩ := Option.map_eq_some_iff.1 hx
    rw [hs]; rfl

section
variable {ops : Array Oper} {rest : List Oper} {o : Oper} {a : Act} {Q : Exit → Act → World → Prop}
theorem apX (W : World) (hgd : o.guard = none) (s x : Operand) (hop : o.op = .call { callee := .builtin .append, args := #[s, x], argTypes := #[88, 88] })
    (B : Nat) (v : Value) (ss : List (List UInt8)) (hs : a.eval s = v) (hr : OwT W B v ss) (hB : B ≤ W.heap.size) (u : List UInt8) (k : Nat) (hx : a.eval x = .slice (some ⟨k, 0, none⟩) 1 1)
    (hc0 : W.cell? ⟨k, 0, none⟩ = some (.string ⟨u.toArray⟩)) (hn : ss.length < 1048576)
    (hK : ∀ g cap w', OwT w' B (.slice (some ⟨g, 0, none⟩) (ss.length + 1) cap) (ss ++ [u]) → Below B W w' → wpList Tryz.prog ops Q rest (a.put o.dst (.slice (some ⟨g, 0, none⟩) (ss.length + 1) cap)) w') :
    wpList Tryz.prog ops Q (o :: rest) a W := by
  refine wpList_plain hgd fun _ hK' => ?_
  obtain ⟨i0, hi, hz0, hz1, hz2⟩ := info_parts info_str
  refine wp_append_lies W s x 88 hop B 9 i0 (.string ⟨#[]⟩) 1 16 Tryz.underlying88 hi hz0 hz1 hz2 rfl (by decide) v ss.length (ss.map strV) hs hr ⟨k, 0, none⟩ 1 1 [strV u] hx rfl (fun j u' hj => ?_) (fun u' hu' => ?_) (by decide) (by unfold maxLen; omega) (by omega) hB W.heap.size rfl ?_
  · match j with
    | 0 => simp at hj; subst hj; simpa [Addr.add, strV] using hc0
    | j + 1 => simp at hj
  · simp at hu'; subst hu'; rfl
  · intro g cap w' hown' hgrow hlies hglt
    have hgb : Below B W w' := Below.grown (Below.refl B W) hgrow hB (fun b hb => (World.ownsRow.lt hr b hb).1)
    refine hK' _ _ (hK g cap w' ?_ hgb)
    unfold OwT
    rw [List.length_append, List.map_append]
    exact hown'
end

theorem decimal_c (x : Int) (w : World) (h0 : 0 ≤ x) (h1 : x ≤ 1000000) (ht : TenT w) :
    Calls Tryz.prog 82 #[.int .i64 x] w fun e w' => e = .returned (.string ⟨(Lib.itoa x).toArray⟩) ∧ Below w.heap.size w w' := by
  go_enter Tryz.func82, Tryz.ntmps82
  go_wp2_with (go_at_call 102; refine (sh_strconv_FormatInt_10 x (by omega) (by omega) _ ht).mono ?_; rintro e w' ⟨rfl, k, os, rfl⟩)
  go_ret
  exact ⟨rfl, below_growO w k os⟩

theorem len_itoa {x : Int} (h0 : 0 ≤ x) (h1 : x ≤ 1000000) : (Lib.itoa x).length ≤ 7 := by
  rw [itoa_pos h0, Lib.decDigits_length]
  have : ∀ u : Nat, ∀ k, u < 10 ^ (k + 1) → Lib.nDigits u ≤ k + 1 := by
    intro u k
    induction k generalizing u with
    | zero => intro h; rw [Lib.nDigits_small (by omega)]; omega
    | succ k ih =>
      intro h
      by_cases hu : u < 10
      · rw [Lib.nDigits_small hu]; omega
      · rw [Lib.nDigits_big hu]
        have := ih (u / 10) (by rw [Nat.pow_succ] at h; omega)
        omega
  exact this x.toNat 6 (by omega)
theorem len_join (s : UInt8) : ∀ (l : List (List UInt8)) (b : Nat), (∀ p ∈ l, p.length ≤ b) → (Lib.join l [s]).length ≤ l.length * (b + 1)
  | [], b, _ => by simp [Lib.join_nil]
  | [a], b, h => by have := h a (by simp); rw [Lib.join_one]; simp; omega
  | a :: c :: l, b, h => by
    have h1 := h a (by simp)
    have h2 := len_join s (c :: l) b (fun p hp => h p (List.mem_cons_of_mem _ hp))
    rw [join_two, List.length_append, List.length_cons]
    simp only [List.length_cons, Nat.add_mul] at h2 ⊢
    omega
theorem len_rowX {r : List Int} (h : ∀ x ∈ r, 0 ≤ x ∧ x ≤ 1000000) : (rowX r).length ≤ r.length * 8 := by
  have := len_join 44 (r.map Lib.itoa) 7 (fun p hp => by
    obtain ⟨x, hx, rfl⟩ := List.mem_map.1 hp
    exact len_itoa (h x hx).1 (h x hx).2)
  simpa [rowX] using this

set_option maxHeartbeats 400000 in
set_option maxRecDepth 100000 in
theorem numbersText_c (v : Value) (xs : List Int) (w : World) (hv : RdI w v xs) (hx : ∀ x ∈ xs, 0 ≤ x ∧ x ≤ 1000000) (hn : xs.length ≤ 1000) (ht : TenT w) :
    Calls Tryz.prog 81 #[v] w fun e w' => e = .returned (.string ⟨(rowX xs).toArray⟩) ∧ Below w.heap.size w w' := by
  obtain ⟨o, c, rfl, hm, -⟩ := id hv
  unfold maxLen at hm
  have HX := Lib.hid hx
  clear hx
  go_enter Tryz.func81, Tryz.ntmps81
  go_wp2
  go_loopw [3, 9] (fun s i wr => ∃ (k g cv : Nat), k ≤ xs.length ∧ i = .int .i64 k ∧ s = .slice (some ⟨g, 0, none⟩) k cv ∧ OwT wr w.heap.size (.slice (some ⟨g, 0, none⟩) k cv) ((xs.take k).map Lib.itoa) ∧ Below w.heap.size w wr) (fun _ i _ => xs.length - (intOf i).toNat)
  case atStart => exact ⟨0, w.heap.size, 0, Nat.zero_le _, rfl, rfl, OwT.nil w w.heap.size (Nat.le_refl _), (by (repeat (first | exact bR _ _ | (refine bS ?_ _) | (refine bA ?_ _) | (refine bN ?_ _) | (refine bD ?_))))⟩
  case round =>
    obtain ⟨k, g, cv, hk, rfl, rfl, hO, hB⟩ := hrel
    have hBs := hB.size
    by_cases hlt : k < xs.length
    · have hvr := hv.below hB (Nat.le_refl _)
      obtain ⟨b, off, rfl, hcell⟩ := hvr.cells (by omega)
      have hc0 := hcell k _ (show xs[k]? = some xs[k] by simp [hlt])
      have hxk := HX.out xs[k] (List.getElem_mem _)
      have HL := Lib.hid (show ((xs.take k).map Lib.itoa).length = k by rw [List.length_map, List.length_take]; omega)
      have HN := Lib.hid (show (xs.take (k + 1)).map Lib.itoa = (xs.take k).map Lib.itoa ++ [Lib.itoa xs[k]] by rw [List.take_succ_eq_append_getElem hlt, List.map_append]; rfl)
      have i0 : (0 : Int) ≤ (k : Int) := by omega
      have i1 : (k : Int) < (xs.length : Int) := by omega
      have htr := ht.below hB
      clear hcell
      go_wp2_with fail
      refine (decimal_c xs[k] _ hxk.1 hxk.2 htr).mono ?_
      rintro e w2 ⟨rfl, hb2⟩
      have hO2 := hO.below hb2
      have hb2s := hb2.size
      obtain ⟨W, hW⟩ : ∃ W : World, W = w2.alloc (.cells #[.string ⟨(Lib.itoa xs[k]).toArray⟩] 9) := ⟨_, rfl⟩
      have hWb : Below w2.heap.size w2 W := by rw [hW]; exact (by (repeat (first | exact bR _ _ | (refine bS ?_ _) | (refine bA ?_ _) | (refine bN ?_ _) | (refine bD ?_))))
      have hO3 := hO2.below hWb
      have hC0 : W.cell? ⟨w2.heap.size, 0, none⟩ = some (.string ⟨(Lib.itoa xs[k]).toArray⟩) := by rw [hW]; simp
      have hWs := hWb.size
      have B2 := hB.trans (hb2.mono hBs)
      have B3 := B2.trans (hWb.mono (by omega))
      have HW := Lib.hid hW
      clear hW
      go_wp2_with (at_builtin; rw [← HW.out]; go_loud (refine apX W rfl _ _ rfl w.heap.size (.slice (some ⟨g, 0, none⟩) k cv) ((xs.take k).map Lib.itoa) rfl hO3 (by omega) (Lib.itoa xs[k]) w2.heap.size rfl hC0 (by rw [HL.out]; omega) ?_; intro g2 cap w4 hO4 hb4; rw [HL.out] at hO4 ⊢; rw [← HN.out] at hO4))
      exact ⟨⟨k + 1, g2, cap, by omega, by go_num, rfl, hO4, B3.trans (hb4.mono (by omega))⟩, by simp [intOf]; omega⟩
    · obtain rfl : k = xs.length := by omega
      rw [List.take_length] at hO
      obtain ⟨h1, h2, h3, h4, h5⟩ := hO.cells
      have hlj : (Lib.join (((xs.map Lib.itoa).map (fun s => (⟨s.toArray⟩ : ByteArray))).map (·.data.toList)) (⟨#[44]⟩ : ByteArray).data.toList) = rowX xs := by
        unfold rowX
        rw [List.map_map]
        congr 1
        exact (List.map_congr_left (fun s _ => by simp)).trans (List.map_id _)
      have hR := len_rowX HX.out
      have hJ := sh_strings_Join g 0 cv ((xs.map Lib.itoa).map (fun s => (⟨s.toArray⟩ : ByteArray))) ⟨#[44]⟩ wr h5 h3 (by simp; omega) (by simpa using h2) (by rw [hlj]; omega)
      rw [hlj, List.length_map, List.length_map] at hJ
      clear h1 h2 h5 hlj hR
      go_wp2_with fail
      refine hJ.mono ?_
      rintro e w2 ⟨rfl, hb2⟩
      go_wp2
      go_ret
      exact ⟨rfl, hB.trans (hb2.mono hBs)⟩

set_option maxHeartbeats 1000000 in
set_option maxRecDepth 100000 in
theorem PlaneText_c (m : Int) (v : Value) (n : Nat) (t : List (List Int)) (w : World) (hv : RdT w v t) (hp : plaB m t = true) (hT : PlaT m n t) (ht : TenT w) :
    Calls Tryz.prog 60 #[.agg #[.int .i64 m, v]] w fun e w' => e = .returned (.tuple #[.string (texB m t), .int .i64 0]) ∧ Below w.heap.size w w' := by
  obtain ⟨o, c, rfl, hmt, -⟩ := id hv
  have hml := hmt.1
  unfold maxLen at hml
  have hm := pla_m hp
  have hn := pla_n hp
  have HT := Lib.hid (show ∀ k (hk : k < t.length), t[k].length ≤ 1000 ∧ ∀ x ∈ t[k], 0 ≤ x ∧ x ≤ 1000000 from fun k hk => ⟨by have := (hT.2 k hk).1; omega, fun x hx => by have := (hT.2 k hk).2 x hx; omega⟩)
  clear hT
  go_enter Tryz.func60, Tryz.ntmps60
  go_wp2_with fail
  (obtain ⟨w0, hw0⟩ : ∃ W : World, W = (w.alloc (.cells #[.int .i64 m, .slice o t.length c] 28)) := ⟨_, rfl⟩; have X0 := (RB2.mk1 w  (.int .i64 m) (.slice o t.length c) 28).1.below (w' := w0) (by rw [hw0]; (repeat (first | exact bR _ _ | (refine bS ?_ _) | (refine bA ?_ _) | (refine bN ?_ _) | (refine bD ?_)))) (Nat.le_refl _); have B0 : Below w.heap.size w w0 := (by rw [hw0]; (repeat (first | exact bR _ _ | (refine bS ?_ _) | (refine bA ?_ _) | (refine bN ?_ _) | (refine bD ?_)))); have hv0 := hv.below (w' := w0) (by rw [hw0]; (repeat (first | exact bR _ _ | (refine bS ?_ _) | (refine bA ?_ _) | (refine bN ?_ _) | (refine bD ?_)))) (Nat.le_refl _); rw [← hw0]; clear hw0)
  (obtain ⟨gqX0, gqX1⟩ := id X0; go_wp2_with fail; refine (IsPlane_c m _ t _ hv0).mono ?_; rw [hp]; rintro e w1 ⟨rfl, hb⟩; (have X1 := X0.below hb (Nat.le_refl _); have hv1 := hv0.below hb (Nat.le_refl _); have B1 := B0.trans (hb.mono B0.size)); clear gqX0 gqX1; clear hb)
  have B1s := B1.size
  have ht1 := ht.below B1
  have hOn := OwT.nil w1 w1.heap.size (Nat.le_refl _)
  have Bn : Below w1.heap.size w1 (w1.alloc (.cells #[] 9)) := (by (repeat (first | exact bR _ _ | (refine bS ?_ _) | (refine bA ?_ _) | (refine bN ?_ _) | (refine bD ?_))))
  have hlt0 : w.heap.size < w1.heap.size := X1.lt
  have hne0 : w.heap.size ≠ w1.heap.size := by omega
  obtain ⟨x0, x1⟩ := id X1
  go_wp2_with fail
  go_loopw [4, 14] (fun s i wr => ∃ (k g cv : Nat), k ≤ t.length ∧ i = .int .i64 k ∧ s = .slice (some ⟨g, 0, none⟩) k cv ∧ OwT wr w1.heap.size (.slice (some ⟨g, 0, none⟩) k cv) ((t.take k).map rowX) ∧ Below w1.heap.size w1 wr) (fun _ i _ => t.length - (intOf i).toNat)
  case atStart => exact ⟨0, w1.heap.size, 0, Nat.zero_le _, rfl, rfl, hOn, Bn⟩
  case round =>
    obtain ⟨k, g, cv, hk, rfl, rfl, hO, hB⟩ := hrel
    have hBs := hB.size
    by_cases hlt : k < t.length
    · have hvr := hv1.below hB (Nat.le_refl _)
      obtain ⟨b, off, rfl, -⟩ := hvr.rows (by omega)
      obtain ⟨o', c', hx, hr⟩ := hvr.row (show t[k]? = some t[k] by simp [hlt])
      have HL := Lib.hid (show ((t.take k).map rowX).length = k by rw [List.length_map, List.length_take]; omega)
      have HN := Lib.hid (show (t.take (k + 1)).map rowX = (t.take k).map rowX ++ [rowX t[k]] by rw [List.take_succ_eq_append_getElem hlt, List.map_append]; rfl)
      have i0 : (0 : Int) ≤ (k : Int) := by omega
      have i1 : (k : Int) < (t.length : Int) := by omega
      have htr := ht1.below hB
      go_wp2_with fail
      refine (numbersText_c _ t[k] _ hr (HT.out k hlt).2 (HT.out k hlt).1 htr).mono ?_
      rintro e w2 ⟨rfl, hb2⟩
      have hO2 := hO.below hb2
      have hb2s := hb2.size
      obtain ⟨W, hW⟩ : ∃ W : World, W = w2.alloc (.cells #[.string ⟨(rowX t[k]).toArray⟩] 9) := ⟨_, rfl⟩
      have hWb : Below w2.heap.size w2 W := by rw [hW]; exact (by (repeat (first | exact bR _ _ | (refine bS ?_ _) | (refine bA ?_ _) | (refine bN ?_ _) | (refine bD ?_))))
      have hO3 := hO2.below hWb
      have hC0 : W.cell? ⟨w2.heap.size, 0, none⟩ = some (.string ⟨(rowX t[k]).toArray⟩) := by rw [hW]; simp
      have hWs := hWb.size
      have B2 := hB.trans (hb2.mono hBs)
      have B3 := B2.trans (hWb.mono (by omega))
      have HW := Lib.hid hW
      clear hW hx
      go_wp2_with (at_builtin; rw [← HW.out]; go_loud (refine apX W rfl _ _ rfl w1.heap.size (.slice (some ⟨g, 0, none⟩) k cv) ((t.take k).map rowX) rfl hO3 (by omega) (rowX t[k]) w2.heap.size rfl hC0 (by rw [HL.out]; omega) ?_; intro g2 cap w4 hO4 hb4; rw [HL.out] at hO4 ⊢; rw [← HN.out] at hO4))
      exact ⟨⟨k + 1, g2, cap, by omega, by go_num, rfl, hO4, B3.trans (hb4.mono (by omega))⟩, by simp [intOf]; omega⟩
    · obtain rfl : k = t.length := by omega
      rw [List.take_length] at hO
      have htr := ht1.below hB
      obtain ⟨x0, x1⟩ := X1.below hB (Nat.le_refl _)
      go_wp2_with fail
      refine (decimal_c m _ (by omega) (by omega) htr).mono ?_
      rintro e w2 ⟨rfl, hb2⟩
      have hO2 := hO.below hb2
      have B2 := hB.trans (hb2.mono hBs)
      obtain ⟨h1, h2, h3, h4, h5⟩ := hO2.cells
      have hlj : (Lib.join (((t.map rowX).map (fun s => (⟨s.toArray⟩ : ByteArray))).map (·.data.toList)) (⟨#[47]⟩ : ByteArray).data.toList) = tabX t := by
        unfold tabX
        rw [List.map_map]
        congr 1
        exact (List.map_congr_left (fun s _ => by simp)).trans (List.map_id _)
      have hR : (tabX t).length ≤ 100000 := by
        have := len_join 47 (t.map rowX) 8000 (fun p hp => by
          obtain ⟨r, hr, rfl⟩ := List.mem_map.1 hp
          obtain ⟨i, hi, rfl⟩ := List.getElem_of_mem hr
          have h1 := len_rowX (HT.out i hi).2
          have h2 := (HT.out i hi).1
          omega)
        rw [List.length_map] at this
        unfold tabX
        omega
      have hJ := sh_strings_Join g 0 cv ((t.map rowX).map (fun s => (⟨s.toArray⟩ : ByteArray))) ⟨#[47]⟩ w2 h5 h3 (by simp; omega) (by simpa using h2) (by rw [hlj]; omega)
      rw [hlj, List.length_map, List.length_map] at hJ
      have hl0 := len_itoa (x := m) (by omega) (by omega)
      have hl1 : ¬ 9223372036854775807 < (Lib.itoa m).length + 1 := by omega
      have hl2 : ¬ 9223372036854775807 < (Lib.itoa m).length + 1 + (tabX t).length := by omega
      clear h1 h2 h5 hlj hR hl0
      go_wp2_with fail
      refine hJ.mono ?_
      rintro e w3 ⟨rfl, hb3⟩
      go_wp2
      go_ret2
      exact ⟨rfl, B1.trans ((B2.trans (hb3.mono (by have := hb2.size; omega))).mono B1s)⟩

set_option maxHeartbeats 400000 in
set_option maxRecDepth 100000 in
theorem textOf_c (m : Int) (v : Value) (n : Nat) (t : List (List Int)) (w : World) (hv : RdT w v t) (hp : plaB m t = true) (hT : PlaT m n t) (ht : TenT w) :
    Calls Tryz.prog 35 #[.agg #[.int .i64 m, v]] w fun e w' => e = .returned (.string (texB m t)) ∧ Below w.heap.size w w' := by
  obtain ⟨o, c, rfl, hmt, -⟩ := id hv
  go_enter Tryz.func35, Tryz.ntmps35
  go_wp2_with fail
  (obtain ⟨w0, hw0⟩ : ∃ W : World, W = (w.alloc (.cells #[.int .i64 m, .slice o t.length c] 28)) := ⟨_, rfl⟩; have X0 := (RB2.mk1 w  (.int .i64 m) (.slice o t.length c) 28).1.below (w' := w0) (by rw [hw0]; (repeat (first | exact bR _ _ | (refine bS ?_ _) | (refine bA ?_ _) | (refine bN ?_ _) | (refine bD ?_)))) (Nat.le_refl _); have B0 : Below w.heap.size w w0 := (by rw [hw0]; (repeat (first | exact bR _ _ | (refine bS ?_ _) | (refine bA ?_ _) | (refine bN ?_ _) | (refine bD ?_)))); have hv0 := hv.below (w' := w0) (by rw [hw0]; (repeat (first | exact bR _ _ | (refine bS ?_ _) | (refine bA ?_ _) | (refine bN ?_ _) | (refine bD ?_)))) (Nat.le_refl _); rw [← hw0]; clear hw0)
  obtain ⟨x0, x1⟩ := id X0
  go_wp2_with fail
  refine (PlaneText_c m _ n t _ hv0 hp hT (ht.below B0)).mono ?_
  rintro e w1 ⟨rfl, hb⟩
  have B1 := B0.trans (hb.mono B0.size)
  go_wp2
  go_ret
  exact ⟨rfl, B1⟩
end Go.Proofs.YteijannfbafdpaaGreatDoor
set_option linter.unusedSimpArgs false
set_option linter.unusedVariables false
namespace Go.Proofs.YteijannfbafdpaaGreatDoor
open Go.RowKit

structure Ch (Fx : List Nat) (o : Option Nat) (u u' : World) : Prop where
  os : u'.os = u.os
  tape : u'.tape = u.tape
  output : u'.output = u.output
  size : u.heap.size ≤ u'.heap.size
  block : ∀ k, k < u.heap.size → k ∉ Fx → some k ≠ o → u'.heap[k]? = u.heap[k]?
theorem Ch.of_below {Fx : List Nat} {o : Option Nat} {u u' : World} (h : Below u.heap.size u u') : Ch Fx o u u' := ⟨h.os, h.tape, h.output, h.size, fun k hk _ _ => h.block k hk⟩
theorem Ch.of_grown {Fx : List Nat} {o : Option Nat} {u u' : World} {g : Nat} (h : u.grownBy u' (some g)) (hg : g ∈ Fx) : Ch Fx o u u' := ⟨h.os, h.tape, h.output, h.size, fun k hk h1 _ => h.block k hk (fun e => by cases e; exact h1 hg)⟩
theorem Ch.trans {Fx : List Nat} {o o' : Option Nat} {u u' u'' : World} (h : Ch Fx o u u') (ho : o' = o ∨ ∃ b, o' = some b ∧ u.heap.size ≤ b) (k : Ch Fx o' u' u'') : Ch Fx o u u'' :=
  ⟨k.os.trans h.os, k.tape.trans h.tape, k.output.trans h.output, Nat.le_trans h.size k.size, fun j hj h1 h2 => (k.block j (Nat.lt_of_lt_of_le hj h.size) h1 (fun e => by
    rcases ho with rfl | ⟨b, rfl, hb⟩
    · exact h2 e
    · cases e; omega)).trans (h.block j hj h1 h2)⟩
theorem Ch.mono {Fx Fy : List Nat} {o : Option Nat} {u u' : World} (h : Ch Fx o u u') (hs : ∀ x ∈ Fx, x ∈ Fy) : Ch Fy o u u' :=
  ⟨h.os, h.tape, h.output, h.size, fun k hk h1 h2 => h.block k hk (fun h3 => h1 (hs k h3)) h2⟩
theorem Ch.below {Fx : List Nat} {o : Option Nat} {B : Nat} {u u' : World} (h : Ch Fx o u u') (h1 : ∀ x ∈ Fx, B ≤ x) (h2 : ∀ b, o = some b → B ≤ b) (hB : B ≤ u.heap.size) : Below B u u' :=
  ⟨h.os, h.tape, h.output, h.size, fun k hk => h.block k (by omega) (fun h3 => by have := h1 k h3; omega) (fun e => by have := h2 k e.symm; omega)⟩
theorem Box2.ch {Fx : List Nat} {o : Option Nat} {u u' : World} {b : Nat} {x y : Value} (h : Box2 u b x y) (hc : Ch Fx o u u') (h1 : b ∉ Fx) (h2 : some b ≠ o) : Box2 u' b x y :=
  ⟨(World.cell?_of_block (hc.block b h.lt h1 h2)).trans h.1, (World.cell?_of_block (hc.block b h.lt h1 h2)).trans h.2⟩
theorem OwI.raise {w : World} {B g n c : Nat} {xs : List Int} (h : OwI w B (.slice (some ⟨g, 0, none⟩) n c) xs) : OwI w g (.slice (some ⟨g, 0, none⟩) n c) xs := by
  unfold OwI at h ⊢
  refine ⟨h.1, ?_⟩
  rcases h.2 with h | ⟨g', cap, cur, hv, hg, r⟩
  · exact .inl h
  · refine .inr ⟨g', cap, cur, hv, ?_, r⟩
    simp at hv; omega
theorem OwI.ch {Fx : List Nat} {o : Option Nat} {u u' : World} {g n c : Nat} {xs : List Int} (h : OwI u g (.slice (some ⟨g, 0, none⟩) n c) xs) (hc : Ch Fx o u u') (h1 : g ∉ Fx) (h2 : some g ≠ o) : OwI u' g (.slice (some ⟨g, 0, none⟩) n c) xs := by
  have hg := h.lt g rfl
  refine h.stay (hi := g + 1) (fun b hb => by simp [Value.ownBlock] at hb; omega) (fun k k1 k2 => ?_)
  obtain rfl : k = g := by omega
  exact hc.block k hg.2 h1 h2

def loopC {S : Type} (f : Nat → S → S × Bool) : Nat → Nat → S → S × Bool
  | 0, _, s => (s, true)
  | r + 1, x, s => if (f x s).2 then loopC f r (x + 1) (f x s).1 else ((f x s).1, false)
def runC {S : Type} (m : Nat) (st : List Int → S → S × Bool) : Nat → List Int → S → S × Bool
  | 0, pre, s => st pre s
  | d + 1, pre, s => loopC (fun x s => runC m st d (pre ++ [(x : Int)]) s) m 0 s
theorem loopC_len {S : Type} (len : S → Nat) (f : Nat → S → S × Bool) (b : Nat) (h : ∀ x s, len (f x s).1 ≤ len s + b) : ∀ (r x : Nat) (s : S), len (loopC f r x s).1 ≤ len s + r * b
  | 0, x, s => by simp [loopC]
  | r + 1, x, s => by
    have h1 := h x s
    have h2 := loopC_len len f b h r (x + 1) (f x s).1
    have e : (r + 1) * b = r * b + b := Nat.succ_mul r b
    unfold loopC
    split <;> (try simp only) <;> omega
theorem runC_len {S : Type} (len : S → Nat) (m : Nat) (st : List Int → S → S × Bool) (h : ∀ xs s, len (st xs s).1 ≤ len s + 1) : ∀ (d : Nat) (pre : List Int) (s : S), len (runC m st d pre s).1 ≤ len s + m ^ d
  | 0, pre, s => by have := h pre s; simpa [runC] using this
  | d + 1, pre, s => by
    have := loopC_len len (fun x s => runC m st d (pre ++ [(x : Int)]) s) (m ^ d) (fun x s => runC_len len m st h d _ s) m 0 s
    rw [Nat.pow_succ, Nat.mul_comm]; exact this
theorem Cel1.lt {w : World} {b f : Nat} {x : Value} (h : Cel1 w b f x) : b < w.heap.size := cell_lt h.get
theorem Cel1.blk {w w' : World} {b f : Nat} {x : Value} (h : Cel1 w b f x) (hb : w'.heap[b]? = w.heap[b]?) : Cel1 w' b f x := ⟨(World.cell?_of_block hb).trans h.get⟩
theorem Box2.blk {w w' : World} {b : Nat} {x y : Value} (h : Box2 w b x y) (hb : w'.heap[b]? = w.heap[b]?) : Box2 w' b x y := ⟨(World.cell?_of_block hb).trans h.1, (World.cell?_of_block hb).trans h.2⟩
theorem loopC_true {S : Type} (f : Nat → S → S × Bool) (h : ∀ x s, (f x s).2 = true) : ∀ (r x : Nat) (s : S), loopC f r x s = ((List.range r).foldl (fun s i => (f (x + i) s).1) s, true)
  | 0, x, s => rfl
  | r + 1, x, s => by
    unfold loopC
    rw [if_pos (h x s), loopC_true f h r (x + 1) _, List.range_succ_eq_map, List.foldl_cons, List.foldl_map]
    congr 1
    congr 1
    funext s i
    rw [show x + 1 + i = x + (i + 1) by omega]
theorem runC_true {S : Type} (m : Nat) (st : List Int → S → S × Bool) (h : ∀ xs s, (st xs s).2 = true) : ∀ (d : Nat) (pre : List Int) (s : S), runC m st d pre s = ((allC m d pre).foldl (fun s xs => (st xs s).1) s, true)
  | 0, pre, s => by
    show st pre s = _
    rw [show allC m 0 pre = [pre] from rfl]
    exact Prod.ext rfl (h pre s)
  | d + 1, pre, s => by
    show loopC (fun x s => runC m st d (pre ++ [(x : Int)]) s) m 0 s = _
    rw [loopC_true _ (fun x s => by rw [runC_true m st h d])]
    unfold allC
    rw [List.foldl_flatMap]
    congr 1
    congr 1
    funext s i
    rw [runC_true m st h d, Nat.zero_add]
theorem take_set {l : List Int} {k : Nat} {x : Int} (h : k < l.length) : (l.set k x).take (k + 1) = l.take k ++ [x] := by
  rw [List.take_add_one, List.getElem?_set, if_pos rfl, if_pos h, List.take_set_of_le (Nat.le_refl _)]; rfl

set_option maxHeartbeats 1000000 in
set_option maxRecDepth 100000 in
theorem curves_c {S : Type} (m : Int) (n : Nat) (K : Nat) (caps : Array Value) (st : List Int → S → S × Bool) (Inv : S → Option Nat → World → Prop) (Fx : List Nat) (B g c : Nat) (pre0 : List Int) (len : S → Nat) (M : Nat) (hL : ∀ xs s, len (st xs s).1 ≤ len s + 1)
    (hm : 2 ≤ m) (hm' : m ≤ 10000) (hn : n ≤ 1000) (hK : Callable K) (hg : g < B) (hF : ∀ x ∈ Fx, x < B) (hgF : g ∉ Fx)
    (hI : ∀ s o u u', Inv s o u → u.heap.size ≤ u'.heap.size → (∀ k, k < u.heap.size → k ≠ g → u'.heap[k]? = u.heap[k]?) → Inv s o u')
    (hO : ∀ s o u, Inv s o u → ∀ b, o = some b → b < u.heap.size ∧ b ≠ g)
    (hC : ∀ xs s o u0 u v, Inv s o u0 → Inv s o u → Below u0.heap.size u0 u → B ≤ u0.heap.size → (∀ b, o = some b → b < u0.heap.size) → OwI u u0.heap.size v xs → xs.length = n → (∀ x ∈ xs, 0 ≤ x ∧ x < m) → xs.take pre0.length = pre0 → len s < M →
      Calls Tryz.prog K (#[.agg #[.int .i64 m, v]] ++ caps) u fun e w' => e = .returned (.bool (st xs s).2) ∧ ∃ o', Inv (st xs s).1 o' w' ∧ (o' = o ∨ ∃ b, o' = some b ∧ u0.heap.size ≤ b) ∧ Ch Fx o u w') :
    ∀ (d k : Nat) (row : List Int) (s : S) (o : Option Nat) (w : World), k + d = n → row.length = n → (∀ x ∈ row, 0 ≤ x ∧ x < m) → OwI w g (.slice (some ⟨g, 0, none⟩) n c) row → Inv s o w → B ≤ w.heap.size → pre0.length ≤ k → row.take pre0.length = pre0 → len s + m.toNat ^ d ≤ M →
      Calls Tryz.prog 58 #[.agg #[.int .i64 m, .slice (some ⟨g, 0, none⟩) n c], .int .i64 (k : Int), .func (.func K) #[] caps] w fun e w' =>
        e = .returned (.bool (runC m.toNat st d (row.take k) s).2) ∧ ∃ o', Inv (runC m.toNat st d (row.take k) s).1 o' w' ∧ (o' = o ∨ ∃ b, o' = some b ∧ w.heap.size ≤ b) ∧ Ch (g :: Fx) o w w' ∧ ∃ row', row'.length = n ∧ row'.take k = row.take k ∧ (∀ x ∈ row', 0 ≤ x ∧ x < m) ∧ OwI w' g (.slice (some ⟨g, 0, none⟩) n c) row' := by
  have HI := Lib.hid hI
  have HO := Lib.hid hO
  have HC := Lib.hid hC
  have HF := Lib.hid hF
  have HgF := Lib.hid hgF
  clear hI hO hC hF hgF
  unfold Callable at hK
  intro d
  induction d with
  | zero =>
    intro k row s o w hk hl hx hr hi hB hp hpr hM
    rw [Nat.pow_zero] at hM
    obtain rfl : k = n := by omega
    have i0 : ((k : Int) == (k : Int)) = true := by simp
    have hlt := hr.lt g rfl
    have hpt : row.take k = row := List.take_of_length_le (by omega)
    rw [hpt]
    clear hpt
    go_enter Tryz.func58, Tryz.ntmps58
    go_wp2_with fail
    (obtain ⟨w0, hw0⟩ : ∃ W : World, W = (w.alloc (.cells #[.int .i64 m, .slice (some ⟨g, 0, none⟩) k c] 57)) := ⟨_, rfl⟩; have X0 := (RB2.mk1 w  (.int .i64 m) (.slice (some ⟨g, 0, none⟩) k c) 57).1.below (w' := w0) (by rw [hw0]; (repeat (first | exact bR _ _ | (refine bS ?_ _) | (refine bA ?_ _) | (refine bN ?_ _) | (refine bD ?_)))) (Nat.le_refl _); have B0 : Below w.heap.size w w0 := (by rw [hw0]; (repeat (first | exact bR _ _ | (refine bS ?_ _) | (refine bA ?_ _) | (refine bN ?_ _) | (refine bD ?_)))); rw [← hw0]; clear hw0)
    have hr0 := hr.below B0
    have hi0 := HI.out s o w w0 hi B0.size (fun j hj _ => B0.block j hj)
    have B0s := B0.size
    have lX := X0.lt
    obtain ⟨x0, x1⟩ := id X0
    have hrd := hr0.rd
    have hfin : ∀ b, o = some b → b < w0.heap.size := fun b hb => (HO.out s o w0 hi0 b hb).1
    have HX := Lib.hid hx
    have HCC := Lib.hid (fun (u : World) (v : Value) (h1 : Below w0.heap.size w0 u) (h2 : OwI u w0.heap.size v row) => HC.out row s o w0 u v hi0 (HI.out s o w0 u hi0 h1.size (fun j hj _ => h1.block j hj)) h1 (by omega) hfin h2 hl HX.out hpr hM)
    go_wp2_with fail
    have hd0 : Below w0.heap.size w0 w0.drew := (Below.refl _ _).drew
    have hsd0 := hd0.size
    obtain ⟨f0_a, f0_b⟩ := ((X0).below (Below.refl w0.heap.size w0) (Nat.le_refl _))
    refine wp_region_K (S := fun w' => w'.cell? ⟨w.heap.size, 0, none⟩ = some (.int .i64 m) ∧ w'.cell? ⟨w.heap.size, 1, none⟩ = some (.slice (some ⟨g, 0, none⟩) k c)) [7, 8] (by kernel_rfl) ?_
    have hHeld : (fun w' : World => w'.cell? ⟨w.heap.size, 0, none⟩ = some (.int .i64 m) ∧ w'.cell? ⟨w.heap.size, 1, none⟩ = some (.slice (some ⟨g, 0, none⟩) k c)) w0.drew := by go_keep
    refine' wpAnyK_takeL (i := 0) (v := _) rfl (by kernel_rfl) (by kernel_rfl) (by kernel_rfl) (by kernel_rfl) (fun _ _ _ h => h) (Or.inl ⟨by rfl, ?yT1⟩) hHeld ?rT1
    case yT1 => (intro w' hSw; (try dsimp only at hSw); go_simp; try with_reducible rfl)
    try simp only [List.getElem_toArray, List.getElem_cons_zero, List.getElem_cons_succ, Act.put, List.setIfInBounds_toArray, List.set_cons_zero, List.set_cons_succ]
    refine' wpAnyK_takeL (i := 1) (v := _) rfl (by kernel_rfl) (by kernel_rfl) (by kernel_rfl) (by kernel_rfl) (fun _ _ _ h => h) (Or.inl ⟨by rfl, ?yT2⟩) hHeld ?rT2
    case yT2 => (intro w' hSw; (try dsimp only at hSw); go_simp; try with_reducible rfl)
    try simp only [List.getElem_toArray, List.getElem_cons_zero, List.getElem_cons_succ, Act.put, List.setIfInBounds_toArray, List.set_cons_zero, List.set_cons_succ]
    refine' wpAnyK_takeL (i := 2) (v := _) rfl (by kernel_rfl) (by kernel_rfl) (by kernel_rfl) (by kernel_rfl) (fun _ _ _ h => h) (Or.inl ⟨by rfl, ?yT3⟩) hHeld ?rT3
    case yT3 => (intro w' hSw; (try dsimp only at hSw); go_simp; try with_reducible rfl)
    try simp only [List.getElem_toArray, List.getElem_cons_zero, List.getElem_cons_succ, Act.put, List.setIfInBounds_toArray, List.set_cons_zero, List.set_cons_succ]
    refine' wpAnyK_takeL (i := 3) (v := _) rfl (by kernel_rfl) (by kernel_rfl) (by kernel_rfl) (by kernel_rfl) (fun _ _ _ h => h) (Or.inl ⟨by rfl, ?yT4⟩) hHeld ?rT4
    case yT4 => (intro w' hSw; (try dsimp only at hSw); go_simp; try with_reducible rfl)
    try simp only [List.getElem_toArray, List.getElem_cons_zero, List.getElem_cons_succ, Act.put, List.setIfInBounds_toArray, List.set_cons_zero, List.set_cons_succ]
    refine' wpAnyK_takeL (i := 4) (v := _) rfl (by kernel_rfl) (by kernel_rfl) (by kernel_rfl) (by kernel_rfl) (fun _ _ _ h => h) (Or.inl ⟨by rfl, ?yT5⟩) hHeld ?rT5
    case yT5 => (intro w' hSw; (try dsimp only at hSw); go_simp; try with_reducible rfl)
    try simp only [List.getElem_toArray, List.getElem_cons_zero, List.getElem_cons_succ, Act.put, List.setIfInBounds_toArray, List.set_cons_zero, List.set_cons_succ]
    refine wpAnyK_oneL (i := 5) rfl (by kernel_rfl) (fun K hK => ?_)
    go_simp
    go_at_call 79
    refine (copyOfI_c ⟨g, 0, none⟩ k c row _ ((hrd).below (by (repeat (first | exact bR _ _ | (refine bS ?_ _) | (refine bA ?_ _) | (refine bN ?_ _) | (refine bD ?_)))) (Nat.le_refl _)) (by omega)).mono ?_
    rintro e wd1 ⟨vc, rfl, hod1, hbd1⟩
    obtain ⟨oc, cc, rfl⟩ := hod1.shapeN (n := k) hl
    have hd1 : Below w0.heap.size w0 wd1 := (by (repeat (first | exact bR _ _ | (refine bS ?_ _) | (refine bA ?_ _) | (refine bN ?_ _) | (refine bD ?_) | (refine bT ?_ hbd1))))
    have hsd1 := hd1.size
    have hsz1_ := hbd1.size
    (try simp at hsz1_)
    obtain ⟨f1_a, f1_b⟩ := ((X0).below hd1 (Nat.le_refl _))
    go_wp2_with fail
    clear hHeld
    have hHeld : (fun w' : World => w'.cell? ⟨w.heap.size, 0, none⟩ = some (.int .i64 m) ∧ w'.cell? ⟨w.heap.size, 1, none⟩ = some (.slice (some ⟨g, 0, none⟩) k c)) wd1 := by go_keep
    refine hK.out _ _ (fun _ => hHeld) ?_
    clear hK K
    try simp only [List.getElem_toArray, List.getElem_cons_zero, List.getElem_cons_succ, Act.put, List.setIfInBounds_toArray, List.set_cons_zero, List.set_cons_succ]
    refine' wpAnyK_takeL (i := 6) (v := _) rfl (by kernel_rfl) (by kernel_rfl) (by kernel_rfl) (by kernel_rfl) (fun _ _ _ h => h) (Or.inl ⟨by rfl, ?yT6⟩) hHeld ?rT6
    case yT6 => (intro w' hSw; (try dsimp only at hSw); go_simp; try with_reducible rfl)
    try simp only [List.getElem_toArray, List.getElem_cons_zero, List.getElem_cons_succ, Act.put, List.setIfInBounds_toArray, List.set_cons_zero, List.set_cons_succ]
    refine wpAnyK_oneL (i := 7) rfl (by kernel_rfl) (fun K hK => ?_)
    go_simp
    go_wp2_with fail
    refine (HCC.out _ _ hd1 hod1).mono ?_
    rintro e w3 ⟨rfl, o', hi3, ho3, hc3⟩
    go_wp2_with fail
    refine hK.out _ _ (fun h => absurd h (by decide)) ?_
    clear hK K
    try simp only [List.getElem_toArray, List.getElem_cons_zero, List.getElem_cons_succ, Act.put, List.setIfInBounds_toArray, List.set_cons_zero, List.set_cons_succ]
    refine wpAnyK_oneL (i := 8) rfl (by kernel_rfl) (fun K hK => ?_)
    go_simp
    (try go_wp2_with fail)
    refine hK.out _ _ (fun h => absurd h (by decide)) ?_
    clear hK K
    try simp only [List.getElem_toArray, List.getElem_cons_zero, List.getElem_cons_succ, Act.put, List.setIfInBounds_toArray, List.set_cons_zero, List.set_cons_succ]
    refine wpAnyK_done (by kernel_rfl) ?_ _
    go_wp2_with fail
    go_ret
    have hch : Ch (g :: Fx) o w w3 := (Ch.of_below (B0.trans (hd1.mono B0s))).trans (.inl rfl) (hc3.mono (fun x hxf => List.mem_cons_of_mem _ hxf))
    refine ⟨rfl, o', hi3, ?_, hch, row, hl, List.take_of_length_le (by omega), HX.out, (hr0.below hd1).ch hc3 HgF.out (fun e => (HO.out s o w0 hi0 g e.symm).2 rfl)⟩
    rcases ho3 with e | ⟨b, e, hb⟩
    · exact .inl e
    · exact .inr ⟨b, e, by omega⟩
  | succ d ih =>
    intro k row s o w hk hl hx hr hi hB hp hpr hM
    have i0 : ((k : Int) == (n : Int)) = false := by simp; omega
    have hlt := hr.lt g rfl
    have hown := HO.out s o w hi
    show Calls _ _ _ w fun e w' => e = .returned (.bool (loopC (fun x s => runC m.toNat st d (row.take k ++ [(x : Int)]) s) m.toNat 0 s).2) ∧ ∃ o', Inv (loopC (fun x s => runC m.toNat st d (row.take k ++ [(x : Int)]) s) m.toNat 0 s).1 o' w' ∧ (o' = o ∨ ∃ b, o' = some b ∧ w.heap.size ≤ b) ∧ Ch (g :: Fx) o w w' ∧ ∃ row', row'.length = n ∧ row'.take k = row.take k ∧ (∀ x ∈ row', 0 ≤ x ∧ x < m) ∧ OwI w' g (.slice (some ⟨g, 0, none⟩) n c) row'
    generalize hpre : row.take k = pre
    go_enter Tryz.func58, Tryz.ntmps58
    go_wp2_with fail
    (obtain ⟨w0, hw0⟩ : ∃ W : World, W = (w.alloc (.cells #[.int .i64 m, .slice (some ⟨g, 0, none⟩) n c] 57)) := ⟨_, rfl⟩; have X0 := (RB2.mk1 w  (.int .i64 m) (.slice (some ⟨g, 0, none⟩) n c) 57).1.below (w' := w0) (by rw [hw0]; (repeat (first | exact bR _ _ | (refine bS ?_ _) | (refine bA ?_ _) | (refine bN ?_ _) | (refine bD ?_)))) (Nat.le_refl _); have B0 : Below w.heap.size w w0 := (by rw [hw0]; (repeat (first | exact bR _ _ | (refine bS ?_ _) | (refine bA ?_ _) | (refine bN ?_ _) | (refine bD ?_)))); rw [← hw0]; clear hw0)
    have hr0 := hr.below B0
    have hi0 := HI.out s o w w0 hi B0.size (fun j hj _ => B0.block j hj)
    have B0s := B0.size
    have lX := X0.lt
    have C0 : Ch (g :: Fx) o w w0 := Ch.of_below B0
    have hXF : w.heap.size ∉ g :: Fx := by
      intro h
      rcases List.mem_cons.1 h with h | h
      · omega
      · have := HF.out _ h; omega
    have hXo : some w.heap.size ≠ o := fun e => by have := (hown _ e.symm).1; omega
    obtain ⟨x0, x1⟩ := id X0
    go_wp2_with fail
    clear x0 x1
    go_loopw [23] (fun i wr => ∃ (x : Nat) (s' : S) (o' : Option Nat) (row' : List Int), x ≤ m.toNat ∧ i = .int .i64 x ∧ Inv s' o' wr ∧ (o' = o ∨ ∃ b, o' = some b ∧ w.heap.size ≤ b) ∧ Ch (g :: Fx) o w wr ∧ Box2 wr w.heap.size (.int .i64 m) (.slice (some ⟨g, 0, none⟩) n c) ∧ row'.length = n ∧ row'.take k = pre ∧ (∀ x ∈ row', 0 ≤ x ∧ x < m) ∧ OwI wr g (.slice (some ⟨g, 0, none⟩) n c) row' ∧ some w.heap.size ≠ o' ∧ len s' ≤ len s + x * m.toNat ^ d ∧ Hid (loopC (fun x s => runC m.toNat st d (pre ++ [(x : Int)]) s) (m.toNat - x) x s' = loopC (fun x s => runC m.toNat st d (pre ++ [(x : Int)]) s) m.toNat 0 s)) (fun i _ => m.toNat - (intOf i).toNat)
    case atStart => exact ⟨0, s, o, row, Nat.zero_le _, rfl, hi0, .inl rfl, C0, X0, hl, hpre, hx, hr0, hXo, by simp, Lib.hid rfl⟩
    case round =>
      obtain ⟨x, s', o', row', hxm, rfl, hi', ho', hch, Xr, hl', hpt, hxr, hrr, hXo', hLx, HL⟩ := hrel
      have hcs := hch.size
      obtain ⟨x0, x1⟩ := id Xr
      by_cases hlx : x < m.toNat
      · have i1 : (x : Int) < m := by omega
        have i2 : (0 : Int) ≤ (k : Int) := by omega
        have i3 : (k : Int) < (n : Int) := by omega
        have hcell := hrr.cell (k := k) (some_at0 (by omega))
        have hfz := hrr.fz k
        have hput := hrr.put k (x : Int)
        have hgl := hrr.lt g rfl
        have hne : g ≠ w.heap.size := by omega
        have hXw := Xr.put' (a := ⟨g, k, none⟩) hne (.int .i64 x)
        obtain ⟨p0, p1⟩ := id hXw
        have hiw := HI.out s' o' wr (wr.setCell ⟨g, k, none⟩ (.int .i64 x)) hi' (by simp) (fun j hj hjg => (grown_put wr g k (.int .i64 x)).block j hj (by intro e; cases e; exact hjg rfl))
        have hcw : Ch (g :: Fx) o' wr (wr.setCell ⟨g, k, none⟩ (.int .i64 x)) := Ch.of_grown (grown_put wr g k (.int .i64 x)) (by simp)
        have hsz : (wr.setCell ⟨g, k, none⟩ (.int .i64 x)).heap.size = wr.heap.size := by simp
        have HT := Lib.hid (show (row'.set k (x : Int)).take (k + 1) = pre ++ [(x : Int)] by rw [take_set (by omega), hpt])
        have e1 : IntKind.i64.wrap ((k : Int) + 1) = ((k + 1 : Nat) : Int) := by rw [IntWalk.i64_in _ (by omega)]; omega
        have HN := Lib.hid (ih (k + 1) (row'.set k (x : Int)) s' o' (wr.setCell ⟨g, k, none⟩ (.int .i64 x)) (by omega) (by simp; exact hl') (fun y hy => by
          rcases List.mem_or_eq_of_mem_set hy with h | rfl
          · exact hxr y h
          · omega) hput hiw (by omega) (by omega) (by
          have hh : (row'.set k (x : Int)).take pre0.length = row'.take pre0.length := List.take_set_of_le hp
          rw [hh]
          have h2 : (row'.take k).take pre0.length = row'.take pre0.length := by rw [List.take_take, Nat.min_eq_left hp]
          rw [← h2, hpt, ← hpre, List.take_take, Nat.min_eq_left hp]; exact hpr) (by
          have h3 : (x + 1) * m.toNat ^ d ≤ m.toNat * m.toNat ^ d := Nat.mul_le_mul_right _ (by omega)
          rw [Nat.succ_mul] at h3
          rw [Nat.pow_succ, Nat.mul_comm] at hM
          omega))
        have hL5 := runC_len len m.toNat st hL d (pre ++ [(x : Int)]) s'
        rw [HT.out] at HN
        clear ih
        go_wp2_with fail
        refine HN.out.mono ?_
        have HL1 := Lib.hid (show (if (runC m.toNat st d (pre ++ [(x : Int)]) s').2 then loopC (fun x s => runC m.toNat st d (pre ++ [(x : Int)]) s) (m.toNat - (x + 1)) (x + 1) (runC m.toNat st d (pre ++ [(x : Int)]) s').1 else ((runC m.toNat st d (pre ++ [(x : Int)]) s').1, false)) = loopC (fun x s => runC m.toNat st d (pre ++ [(x : Int)]) s) m.toNat 0 s by rw [← HL.out, show m.toNat - x = (m.toNat - (x + 1)) + 1 by omega]; rfl)
        clear HL HN
        generalize runC m.toNat st d (pre ++ [(x : Int)]) s' = rr at HL1 hL5
        obtain ⟨s5, b5⟩ := rr
        rintro e w5 ⟨rfl, o5, hi5, ho5, hc5, row5, hl5, hp5, hx5, hr5⟩
        have hcr : Ch (g :: Fx) o w w5 := hch.trans ho' (hcw.trans (.inl rfl) hc5)
        have ho5' : o5 = o ∨ ∃ b, o5 = some b ∧ w.heap.size ≤ b := by
          rcases ho5 with e | ⟨b, e, hb⟩
          · rw [e]; exact ho'
          · exact .inr ⟨b, e, by omega⟩
        have lXr := Xr.lt
        have hXo5 : some w.heap.size ≠ o5 := by
          rcases ho5 with e | ⟨b, e, hb⟩
          · rw [e]; exact hXo'
          · intro e2; rw [e] at e2; cases e2; omega
        have X5 := hXw.ch hc5 hXF hXo'
        have hpl : pre.length = k := by rw [← hpt, List.length_take]; omega
        have hp5' : row5.take k = pre := by
          have h1 : (row5.take (k + 1)).take k = row5.take k := by rw [List.take_take, Nat.min_eq_left (by omega)]
          rw [← h1, hp5]
          exact List.take_left' hpl
        cases b5
        · have HL2 := Lib.hid (show loopC (fun x s => runC m.toNat st d (pre ++ [(x : Int)]) s) m.toNat 0 s = (s5, false) by rw [← HL1.out]; simp)
          clear HL1
          go_wp2
          go_ret
          rw [HL2.out]
          exact ⟨rfl, o5, hi5, ho5', hcr, row5, hl5, hp5', hx5, hr5⟩
        · have HL2 := Lib.hid (show loopC (fun x s => runC m.toNat st d (pre ++ [(x : Int)]) s) (m.toNat - (x + 1)) (x + 1) s5 = loopC (fun x s => runC m.toNat st d (pre ++ [(x : Int)]) s) m.toNat 0 s by rw [← HL1.out]; simp)
          clear HL1
          go_wp2
          exact ⟨⟨x + 1, s5, o5, row5, by omega, by go_num, hi5, ho5', hcr, X5, hl5, hp5', hx5, hr5, hXo5, by rw [Nat.succ_mul]; omega, HL2⟩, by simp [intOf]; omega⟩
      · obtain rfl : x = m.toNat := by omega
        have i1 : ¬ ((m.toNat : Nat) : Int) < m := by omega
        have HL2 := Lib.hid (show loopC (fun x s => runC m.toNat st d (pre ++ [(x : Int)]) s) m.toNat 0 s = (s', true) by rw [← HL.out, Nat.sub_self]; rfl)
        clear HL
        go_wp2
        go_ret
        rw [HL2.out]
        exact ⟨rfl, o', hi', ho', hch, row', hl', hpt, hxr, hrr⟩
end Go.Proofs.YteijannfbafdpaaGreatDoor
set_option linter.unusedSimpArgs false
set_option linter.unusedVariables false
namespace Go.Proofs.YteijannfbafdpaaGreatDoor
open Go.RowKit

set_option maxHeartbeats 1000000 in
set_option maxRecDepth 100000 in
theorem variable_c (m d : Int) (n : Nat) (w : World) (hd : d + 1 = n) (h2 : 2 ≤ n) (hn : n ≤ 1048576) :
    Calls Tryz.prog 59 #[.int .i64 m, .int .i64 d] w fun e w' => SVEnd w w' m (varL n) e := by
  go_enter Tryz.func59, Tryz.ntmps59
  go_wp2_with fail
  have R0 := RB2.mk1 w (.int .i64 0) (.slice none 0 0) 57
  have B0 : Below w.heap.size w (w.alloc (.cells #[.int .i64 0, .slice none 0 0] 57)) := (by (repeat (first | exact bR _ _ | (refine bS ?_ _) | (refine bA ?_ _) | (refine bN ?_ _) | (refine bD ?_))))
  generalize w.alloc (.cells #[.int .i64 0, .slice none 0 0] 57) = w0 at R0 B0 ⊢
  have hzl : w.heap.size < w0.heap.size := R0.1.lt
  go_wp2_with fail
  refine (zero_c m d n _ hd hn).mono ?_
  rintro e w1 ⟨vz, rfl, how, hb⟩
  obtain ⟨oz, cz, rfl⟩ := how.shapeN (n := n) (by simp)
  obtain ⟨g, rfl, hgl, hgl'⟩ := how.row (by omega)
  (have R1 := R0.below hb (Nat.le_refl _); have B1 := B0.trans (hb.mono B0.size))
  have hb1 := hb.size
  have lR := R1.1.lt
  have hc0 := how.cell (k := 1) (rep_get n 1 0 (by omega))
  have hf0 := how.fz 1
  have Hn := Lib.hid how
  clear how
  have i1 : 1 < n := by omega
  have i2 : (1 : Int) < (n : Int) := by omega
  have hgn : g ≠ w1.heap.size := by omega
  have hgr : g ≠ w.heap.size := by omega
  obtain ⟨⟨r0, r1⟩, rf⟩ := id R1
  go_wp2
  refine bodyPost_ret (v := .agg #[.int .i64 m, .slice (some ⟨g, 0, none⟩) n cz]) (by simp [results, Tryz.results59, go_sem, r0, r1, lR, hgn, hgr]) rfl ⟨_, rfl, ?_, ?_⟩
  · exact ((((Hn.out.put 1 1).low (by first | (simp; done) | (simp; omega) | omega) _).low (by first | (simp; done) | (simp; omega) | omega) _).alloc _).mono (by first | (simp; done) | (simp; omega) | omega)
  · (repeat (first | exact bR _ _ | (refine bS ?_ _) | (refine bA ?_ _) | (refine bN ?_ _) | (refine bD ?_) | (refine bT ?_ B1)))

end Go.Proofs.YteijannfbafdpaaGreatDoor
