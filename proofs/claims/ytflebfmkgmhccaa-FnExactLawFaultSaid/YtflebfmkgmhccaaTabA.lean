/- Tables that the call makes: make, append, rows that are written. -/
import Derived.Test.YtflebfmkgmhccaaTabL
import Derived.Deep.AppendLies
set_option linter.unusedSimpArgs false
set_option linter.unusedVariables false
namespace Go.Proofs.Ytflebfmkgmhccaa
open Go.RowKit

theorem ret_int {k : IntKind} {a b : Int} (h : a = b) : Ending.returned (.int k a) = .returned (.int k b) := by rw [h]
theorem info_s : (Try.prog.info? 26).map (fun i => (i.zero, i.size, i.bytes)) = some (some (.slice none 0 0), 1, 24) := by kernel_rfl

section
variable {ops : Array Oper} {rest : List Oper} {o : Oper} {a : Act} {Q : Exit → Act → World → Prop}
/-- make([][]int64, n). -/
theorem mkT (w : World) (hg : o.guard = none) (l c : Operand) (hop : o.op = Op.makeSlice 22 l c) (kl kc : IntKind) (L : Int) (n : Nat)
    (hl : a.eval l = .int kl L) (hc : a.eval c = .int kc L) (hL : L = (n : Int)) (hn : n ≤ 1048576)
    (hK : ∀ w', OwS w' w.heap.size (.slice (some ⟨w.heap.size, 0, none⟩) n n) (List.replicate n []) → Below w.heap.size w w' → w'.heap.size = w.heap.size + 1 → wpList Try.prog ops Q rest (a.put o.dst (.slice (some ⟨w.heap.size, 0, none⟩) n n)) w') :
    wpList Try.prog ops Q (o :: rest) a w := by
  obtain ⟨i0, hi, hz0, hz1, hz2⟩ := info_parts info_s
  subst hL
  refine wpList_plain hg fun K hK' => ?_
  have hr := run_make (P := Try.prog) w 22 26 i0 (.slice none 0 0) Try.underlying22 hi hz0 kl kc n n (by omega) (Int.le_refl _) (by rw [hz2]; omega) (by omega)
  simp only [Int.toNat_natCast, hz1, Nat.mul_one] at hr
  unfold Oper.wp
  have := hK (w.alloc (.cells (madeCells (Value.slice none 0 0).cells n) 26)) (by
    have h := World.ownsRow_lit (base := w.heap.size) (e := 26) (size := 1) w (madeCells (Value.slice none 0 0).cells n) n (Nat.le_refl _) (by unfold maxLen; omega) (by simp [size_madeCells])
    have e : (madeCells (Value.slice none 0 0).cells n).toList = List.replicate n (Value.slice none 0 0) := by
      rw [show (Value.slice none 0 0).cells = #[Value.slice none 0 0] from rfl, toList_madeCells_one]
    rw [e] at h
    have hnone : ∀ (i : Nat) (u : Value), (List.replicate n (Value.slice none 0 0))[i]? = some u → u = .slice none 0 0 := fun i u hu => by
      rw [List.getElem?_replicate] at hu; split at hu
      · exact (Option.some.inj hu).symm
      · cases hu
    refine ⟨List.replicate n (Value.slice none 0 0), by simp, by rw [List.length_replicate]; exact h, fun k u row hu hx => ?_, fun i j u u' b hu hu' hb hb' => ?_, fun i u b hu hb hv => ?_⟩
    · obtain rfl := hnone k u hu
      have : row = [] := by
        rw [List.getElem?_replicate] at hx; split at hx
        · exact (Option.some.inj hx).symm
        · cases hx
      subst this; exact OwI.nil _ _
    · obtain rfl := hnone i u hu; simp [Value.ownBlock] at hb
    · obtain rfl := hnone i u hu; simp [Value.ownBlock] at hb) (below_of_grown (World.grownBy_alloc w _ none) (Nat.le_refl _) (fun k h => by cases h)) (by simp)
  simp [execOp, hop, hl, hc, hr, Result.andThen]
  exact hK' _ _ this
end

/-- A row that was just made is put into the table. -/
theorem OwS.putNew' {w w2 : World} {B g n c : Nat} {xss : List (List Int)} (h : OwS w B (.slice (some ⟨g, 0, none⟩) n c) xss) (hg : g < w.heap.size) (hb : Below w.heap.size w w2) (k : Nat) {u : Value} {row : List Int} (hu : OwI w2 w.heap.size u row) (hB : B ≤ w.heap.size) :
    OwS (w2.setCell ⟨g, k, none⟩ u) B (.slice (some ⟨g, 0, none⟩) n c) (xss.set k row) := by
  refine (h.below hb).putNew k hu hB hg (fun j u' r hc hx b hbb => ?_)
  obtain ⟨o', c', hcell, how, -⟩ := h.get hx
  have e := (hb.cell (p := ⟨g, j, none⟩) hg).symm.trans hc
  rw [hcell] at e
  obtain rfl := Option.some.inj e
  exact (how.lt b hbb).2

theorem OwSR.at {w : World} {lo hi g n c : Nat} {xss : List (List Int)} (h : OwSR lo hi w (.slice (some ⟨g, 0, none⟩) n c) xss) {k : Nat} {row : List Int} (hx : xss[k]? = some row) :
    ∃ o c', w.cell? ⟨g, k, none⟩ = some (.slice o row.length c') ∧ OwI w lo (.slice o row.length c') row ∧ (∀ b : Nat, (Value.slice o row.length c').ownBlock = some b → lo ≤ b ∧ b < hi ∧ b ≠ g) ∧
      (∀ w' row', row'.length = row.length → w.grownBy w' (Value.slice o row.length c').ownBlock → OwI w' lo (.slice o row.length c') row' → OwSR lo hi w' (.slice (some ⟨g, 0, none⟩) n c) (xss.set k row')) := by
  have hn := h.ow.len
  obtain ⟨us, hl, hr, h1, h2, h3, h4, h5⟩ := h
  subst hn
  have hk : k < xss.length := (List.getElem?_eq_some_iff.1 hx).1
  have hu : us[k]? = some us[k] := by simp [hl, hk]
  have how := h1 k _ row hu hx
  obtain ⟨o, c', he⟩ := how.shape
  rw [he] at how hu
  refine ⟨o, c', by rw [World.ownsRow.cellAt hr k (by omega)]; exact hu, how, fun b hb => ⟨(how.lt b hb).1, h5 k _ b hu hb, fun e => h3 k _ g hu (by rw [hb, e]) rfl⟩, fun w' row' hlen hg how' => ?_⟩
  have hr' := hr.kept hg (.inr fun e => h3 k _ g hu (by rw [← e]; rfl) rfl)
  refine ⟨us, by simp [hl], by rw [List.length_set]; exact hr', fun i u r hi hxi => ?_, h2, h3, h4, h5⟩
  · rw [List.getElem?_set] at hxi
    by_cases e : k = i
    · subst e
      rw [if_pos rfl, if_pos hk] at hxi
      cases hxi
      rw [hu] at hi
      cases hi
      exact how'
    · rw [if_neg e] at hxi
      refine (h1 i u r hi hxi).kept hg ?_
      cases eo : u.ownBlock with
      | none => exact .inl rfl
      | some b => exact .inr fun e' => e (h2 k i _ u b hu hi (by rw [← e']) eo)


section
variable {ops : Array Oper} {rest : List Oper} {o : Oper} {a : Act} {Q : Exit → Act → World → Prop}
/-- append(table, row): the row's value lies in a cell of its own; the table and its rows lie below F, the row's block from F on. -/
theorem wpApT {K : Act → World → Prop} (W : World) (s x : Operand) (hop : o.op = .call { callee := .builtin .append, args := #[s, x], argTypes := #[22, 22] })
    (B F : Nat) (v : Value) (xss : List (List Int)) (hs : a.eval s = v) (hown : OwSR B F W v xss) (hF : F ≤ W.heap.size) (hBF : B ≤ F) (u : Value) (row : List Int) (k : Nat) (hx : a.eval x = .slice (some ⟨k, 0, none⟩) 1 1)
    (hcell : W.cell? ⟨k, 0, none⟩ = some u) (hu : OwI W F u row) (hn : xss.length < 1048576)
    (hK : ∀ g cap w', OwS w' B (.slice (some ⟨g, 0, none⟩) (xss.length + 1) cap) (xss ++ [row]) → W.grownBy w' v.ownBlock → Below B W w' → K (a.put o.dst (.slice (some ⟨g, 0, none⟩) (xss.length + 1) cap)) w') :
    Oper.wp Try.prog o a W K Q := by
  obtain ⟨i0, hi, hz0, hz1, hz2⟩ := info_parts info_s
  obtain ⟨us, hl, hr, h1, h2, h3, h4, h5⟩ := hown
  obtain ⟨ou, cu, hush⟩ := hu.shape
  refine wp_append_lies W s x 22 hop B 26 i0 (.slice none 0 0) 1 24 Try.underlying22 hi hz0 hz1 hz2 rfl (by decide) v xss.length us hs hr ⟨k, 0, none⟩ 1 1 [u] hx rfl (fun j u' hj => ?_) (fun u' hu' => ?_) (by decide) (by unfold maxLen; omega) (by omega) (by omega) W.heap.size rfl ?_
  · match j with
    | 0 => simp at hj; subst hj; simpa [Addr.add] using hcell
    | j + 1 => simp at hj
  · simp at hu'; subst hu'; rw [hush]; rfl
  · intro g cap w' hown' hgrow hlies hglt
    have hul := hu.lt
    have hgb : Below B W w' := Below.grown (Below.refl B W) hgrow (by omega) (fun b hb => (hr.lt b hb).1)
    have hrowlt : ∀ (i : Nat) (u' : Value) (b : Nat), us[i]? = some u' → u'.ownBlock = some b → b < F := h5
    refine hK g cap w' ⟨us ++ [u], by simp [hl], by rw [List.length_append]; exact hown', fun i u' r hi' hxi => ?_, fun i j u1 u2 b hi1 hj1 hb1 hb2 => ?_, fun i u' b hi' hb hv => ?_⟩ hgrow hgb
    · rw [List.getElem?_append] at hi' hxi
      by_cases hil : i < us.length
      · rw [if_pos hil] at hi'
        rw [if_pos (by omega)] at hxi
        refine (h1 i u' r hi' hxi).kept hgrow ?_
        cases e : u'.ownBlock with
        | none => exact .inl rfl
        | some b => exact .inr fun e' => h3 i u' b hi' e e'.symm
      · rw [if_neg hil] at hi'
        rw [if_neg (by omega)] at hxi
        have e1 : i - us.length = 0 := by
          have := (List.getElem?_eq_some_iff.1 hi').1; simp at this; omega
        rw [show i - xss.length = 0 by omega] at hxi
        rw [e1] at hi'
        simp at hi' hxi
        subst hi' hxi
        refine (hu.mono hBF).kept hgrow ?_
        cases e : u.ownBlock with
        | none => exact .inl rfl
        | some b => exact .inr fun e' => by have := (hul b e).1; have := h4 b e'.symm; omega
    · rw [List.getElem?_append] at hi1 hj1
      by_cases hil : i < us.length <;> by_cases hjl : j < us.length
      · rw [if_pos hil] at hi1; rw [if_pos hjl] at hj1; exact h2 i j u1 u2 b hi1 hj1 hb1 hb2
      · rw [if_pos hil] at hi1; rw [if_neg hjl] at hj1
        have : j - us.length = 0 := by have := (List.getElem?_eq_some_iff.1 hj1).1; simp at this; omega
        rw [this] at hj1; simp at hj1; subst hj1
        have := h5 i u1 b hi1 hb1; have := (hul b hb2).1; omega
      · rw [if_neg hil] at hi1; rw [if_pos hjl] at hj1
        have : i - us.length = 0 := by have := (List.getElem?_eq_some_iff.1 hi1).1; simp at this; omega
        rw [this] at hi1; simp at hi1; subst hi1
        have := h5 j u2 b hj1 hb2; have := (hul b hb1).1; omega
      · rw [if_neg hil] at hi1; rw [if_neg hjl] at hj1
        have := (List.getElem?_eq_some_iff.1 hi1).1; have := (List.getElem?_eq_some_iff.1 hj1).1
        simp at *; omega
    · have hvg : b = g := by simp [Value.ownBlock] at hv; exact hv.symm
      subst hvg
      rw [List.getElem?_append] at hi'
      by_cases hil : i < us.length
      · rw [if_pos hil] at hi'
        rcases hlies with hl' | hl'
        · exact h3 i u' b hi' hb hl'
        · have := h5 i u' b hi' hb; omega
      · rw [if_neg hil] at hi'
        have : i - us.length = 0 := by have := (List.getElem?_eq_some_iff.1 hi').1; simp at this; omega
        rw [this] at hi'; simp at hi'; subst hi'
        rcases hlies with hl' | hl'
        · have := h4 b hl'; have := (hul b hb).1; omega
        · have := (hul b hb).2; omega
theorem apT (W : World) (hg : o.guard = none) (s x : Operand) (hop : o.op = .call { callee := .builtin .append, args := #[s, x], argTypes := #[22, 22] })
    (B F : Nat) (v : Value) (xss : List (List Int)) (hs : a.eval s = v) (hown : OwSR B F W v xss) (hF : F ≤ W.heap.size) (hBF : B ≤ F) (u : Value) (row : List Int) (k : Nat) (hx : a.eval x = .slice (some ⟨k, 0, none⟩) 1 1)
    (hcell : W.cell? ⟨k, 0, none⟩ = some u) (hu : OwI W F u row) (hn : xss.length < 1048576)
    (hK : ∀ g cap w', OwS w' B (.slice (some ⟨g, 0, none⟩) (xss.length + 1) cap) (xss ++ [row]) → W.grownBy w' v.ownBlock → Below B W w' → wpList Try.prog ops Q rest (a.put o.dst (.slice (some ⟨g, 0, none⟩) (xss.length + 1) cap)) w') :
    wpList Try.prog ops Q (o :: rest) a W :=
  wpList_plain hg fun _ hK' => wpApT W s x hop B F v xss hs hown hF hBF u row k hx hcell hu hn fun g cap w' h1 h2 h3 => hK' _ _ (hK g cap w' h1 h2 h3)
theorem stT {K : Act → World → Prop} {E : Prop} (W : World) (hg : o.guard = none) (s x : Operand) (hop : o.op = .call { callee := .builtin .append, args := #[s, x], argTypes := #[22, 22] })
    (B F : Nat) (v : Value) (xss : List (List Int)) (hs : a.eval s = v) (hown : OwSR B F W v xss) (hF : F ≤ W.heap.size) (hBF : B ≤ F) (u : Value) (row : List Int) (k : Nat) (hx : a.eval x = .slice (some ⟨k, 0, none⟩) 1 1)
    (hcell : W.cell? ⟨k, 0, none⟩ = some u) (hu : OwI W F u row) (hn : xss.length < 1048576)
    (hK : ∀ g cap w', OwS w' B (.slice (some ⟨g, 0, none⟩) (xss.length + 1) cap) (xss ++ [row]) → W.grownBy w' v.ownBlock → Below B W w' → K (a.put o.dst (.slice (some ⟨g, 0, none⟩) (xss.length + 1) cap)) w') :
    if Region.wanted o (yielded ops a.tmps) = true then Oper.wp Try.prog o a W K Q else E := by
  have hw : Region.wanted o (yielded ops a.tmps) = true := by simp [Region.wanted, hg]
  rw [if_pos hw]
  exact wpApT W s x hop B F v xss hs hown hF hBF u row k hx hcell hu hn hK
end

section
variable {ops : Array Oper} {rest : List Oper} {o : Oper} {a : Act} {Q : Exit → Act → World → Prop}
/-- make([]int64, n), at a step of a region that draws. -/
theorem stMk {K : Act → World → Prop} {E : Prop} {w : World} (hg : o.guard = none) (l c : Operand) (hop : o.op = Op.makeSlice 26 l c) (kl kc : IntKind) (L : Int) (n : Nat)
    (hl : a.eval l = .int kl L) (hc : a.eval c = .int kc L) (hL : L = (n : Int)) (hn : n ≤ 1099511627776)
    (hK : ∀ w', OwI w' w.heap.size (.slice (some ⟨w.heap.size, 0, none⟩) n n) (List.replicate n 0) → Below w.heap.size w w' → w'.heap.size = w.heap.size + 1 → K (a.put o.dst (.slice (some ⟨w.heap.size, 0, none⟩) n n)) w') :
    if Region.wanted o (yielded ops a.tmps) = true then Oper.wp Try.prog o a w K Q else E := by
  have hw : Region.wanted o (yielded ops a.tmps) = true := by simp [Region.wanted, hg]
  rw [if_pos hw]
  obtain ⟨i0, hi, hz0, hz1, hz2⟩ := info_parts info_i
  subst hL
  have hr := run_make (P := Try.prog) w 26 2 i0 (.int .i64 0) Try.underlying26 hi hz0 kl kc n n (by omega) (Int.le_refl _) (by rw [hz2]; omega) (by omega)
  simp only [Int.toNat_natCast, hz1, Nat.mul_one] at hr
  unfold Oper.wp
  have := hK (w.alloc (.cells (madeCells (Value.int IntKind.i64 0).cells n) 2)) (by
    have h := World.ownsRow_lit (base := w.heap.size) (e := 2) (size := 1) w (madeCells (Value.int IntKind.i64 0).cells n) n (Nat.le_refl _) (by unfold maxLen; omega) (by simp [size_madeCells])
    have e : (madeCells (Value.int IntKind.i64 0).cells n).toList = (List.replicate n (0 : Int)).map (Value.int .i64) := by
      rw [show (Value.int IntKind.i64 0).cells = #[Value.int IntKind.i64 0] from rfl, toList_madeCells_one, List.map_replicate]
    rw [e] at h
    unfold OwI
    rw [List.length_replicate]
    exact h) (below_of_grown (World.grownBy_alloc w _ none) (Nat.le_refl _) (fun k h => by cases h)) (by simp)
  simp [execOp, hop, hl, hc, hr, Result.andThen]
  exact this
end

theorem Box2.belowB {B : Nat} {w w' : World} {b : Nat} {x y : Value} (h : Box2 w b x y) (hb : Below B w w') (hB : b < B) : Box2 w' b x y :=
  ⟨(hb.cell (p := ⟨b, 0, none⟩) hB).trans h.1, (hb.cell (p := ⟨b, 1, none⟩) hB).trans h.2⟩
theorem RB2.belowB {B : Nat} {w w' : World} {b : Nat} {x y : Value} (h : RB2 w b x y) (hb : Below B w w') (hB : b < B) : RB2 w' b x y :=
  ⟨h.1.belowB hb hB, fun k => (hb.frozen (p := ⟨b, k, none⟩) hB).trans (h.2 k)⟩
theorem Box2.chg {lo hi : Nat} {w w' : World} {b : Nat} {x y : Value} (h : Box2 w b x y) (hc : Chg lo hi w w') (hb : b < lo ∨ hi ≤ b) : Box2 w' b x y :=
  ⟨(World.cell?_of_block (a := ⟨b, 0, none⟩) (hc.block b h.lt hb)).trans h.1, (World.cell?_of_block (a := ⟨b, 1, none⟩) (hc.block b h.lt hb)).trans h.2⟩
theorem RB2.chg {lo hi : Nat} {w w' : World} {b : Nat} {x y : Value} (h : RB2 w b x y) (hc : Chg lo hi w w') (hb : b < lo ∨ hi ≤ b) : RB2 w' b x y :=
  ⟨h.1.chg hc hb, fun k => (World.frozen?_of_block (a := ⟨b, k, none⟩) (hc.block b h.1.lt hb)).trans (h.2 k)⟩
theorem Chg.drew {lo hi : Nat} {a w : World} (h : Chg lo hi a w) : Chg lo hi a w.drew := ⟨h.os, h.tape, h.output, h.size, h.block⟩
theorem Chg.drewN {lo hi : Nat} {a w : World} (h : Chg lo hi a w) (n : Nat) : Chg lo hi a (w.drewN n) := ⟨h.os, h.tape, h.output, h.size, h.block⟩
theorem Chg.grown {lo hi g : Nat} {a w w' : World} (h : Chg lo hi a w) (hg : w.grownBy w' (some g)) (h1 : lo ≤ g) (h2 : g < hi) : Chg lo hi a w' := h.trans (Chg.of_grown hg (fun k hk => by cases hk; exact ⟨h1, h2⟩))

/-- An owned table whose rows' values are named. -/
def OwSU (us : List Value) (lo hi : Nat) (w : World) (v : Value) (xss : List (List Int)) : Prop :=
  us.length = xss.length ∧ w.ownsRow lo 26 1 v xss.length us ∧
    (∀ (k : Nat) (u : Value) (row : List Int), us[k]? = some u → xss[k]? = some row → OwI w lo u row) ∧
    (∀ (i j : Nat) (u u' : Value) (b : Nat), us[i]? = some u → us[j]? = some u' → u.ownBlock = some b → u'.ownBlock = some b → i = j) ∧
    (∀ (i : Nat) (u : Value) (b : Nat), us[i]? = some u → u.ownBlock = some b → v.ownBlock = some b → False) ∧
    (∀ b : Nat, v.ownBlock = some b → b < hi) ∧ (∀ (k : Nat) (u : Value) (b : Nat), us[k]? = some u → u.ownBlock = some b → b < hi)
theorem OwSR.named {lo hi : Nat} {w : World} {v : Value} {xss : List (List Int)} (h : OwSR lo hi w v xss) : ∃ us, OwSU us lo hi w v xss := h
theorem OwSU.r {us : List Value} {lo hi : Nat} {w : World} {v : Value} {xss : List (List Int)} (h : OwSU us lo hi w v xss) : OwSR lo hi w v xss := ⟨us, h⟩
theorem OwSU.stay {us : List Value} {lo hi : Nat} {u u' : World} {v : Value} {xss : List (List Int)} (h : OwSU us lo hi u v xss) (hk : ∀ k, lo ≤ k → k < hi → u'.heap[k]? = u.heap[k]?) : OwSU us lo hi u' v xss := by
  obtain ⟨h1, h2, h3, h4, h5, h6, h7⟩ := h
  refine ⟨h1, ⟨h2.1, ?_⟩, fun k w' row hu hx => (h3 k w' row hu hx).stay (h7 k w' · hu) hk, h4, h5, h6, h7⟩
  rcases h2.2 with h2 | ⟨g, cap, cur, hv, hg, hh, r⟩
  · exact .inl h2
  · exact .inr ⟨g, cap, cur, hv, hg, by rw [hk g hg (h6 g (by rw [hv]; rfl))]; exact hh, r⟩
theorem OwSU.at {us : List Value} {w : World} {lo hi g n c : Nat} {xss : List (List Int)} (h : OwSU us lo hi w (.slice (some ⟨g, 0, none⟩) n c) xss) {k : Nat} {row : List Int} (hx : xss[k]? = some row) :
    ∃ o c', us[k]? = some (.slice o row.length c') ∧ w.cell? ⟨g, k, none⟩ = some (.slice o row.length c') ∧ OwI w lo (.slice o row.length c') row ∧ (∀ b : Nat, (Value.slice o row.length c').ownBlock = some b → lo ≤ b ∧ b < hi ∧ b ≠ g) ∧
      (∀ w' row', row'.length = row.length → w.grownBy w' (Value.slice o row.length c').ownBlock → OwI w' lo (.slice o row.length c') row' → OwSU us lo hi w' (.slice (some ⟨g, 0, none⟩) n c) (xss.set k row')) := by
  have hn := h.r.ow.len
  obtain ⟨hl, hr, h1, h2, h3, h4, h5⟩ := h
  subst hn
  have hk : k < xss.length := (List.getElem?_eq_some_iff.1 hx).1
  have hu : us[k]? = some us[k] := by simp [hl, hk]
  have how := h1 k _ row hu hx
  obtain ⟨o, c', he⟩ := how.shape
  rw [he] at how hu
  refine ⟨o, c', hu, by rw [World.ownsRow.cellAt hr k (by omega)]; exact hu, how, fun b hb => ⟨(how.lt b hb).1, h5 k _ b hu hb, fun e => h3 k _ g hu (by rw [hb, e]) rfl⟩, fun w' row' hlen hg how' => ?_⟩
  have hr' := hr.kept hg (.inr fun e => h3 k _ g hu (by rw [← e]; rfl) rfl)
  refine ⟨by simp [hl], by rw [List.length_set]; exact hr', fun i u r hi hxi => ?_, h2, h3, h4, h5⟩
  rw [List.getElem?_set] at hxi
  by_cases e : k = i
  · subst e
    rw [if_pos rfl, if_pos hk] at hxi
    cases hxi
    rw [hu] at hi
    cases hi
    exact how'
  · rw [if_neg e] at hxi
    refine (h1 i u r hi hxi).kept hg ?_
    cases eo : u.ownBlock with
    | none => exact .inl rfl
    | some b => exact .inr fun e' => e (h2 k i _ u b hu hi (by rw [← e']) eo)
theorem OwSU.row {us : List Value} {w : World} {lo hi n c : Nat} {o : Option Addr} {xss : List (List Int)} (h : OwSU us lo hi w (.slice o n c) xss) (hn : 1 ≤ n) : ∃ g, o = some ⟨g, 0, none⟩ ∧ lo ≤ g ∧ g < hi := by
  obtain ⟨g, rfl, h1, h2⟩ := h.r.ow.row hn
  exact ⟨g, rfl, h1, h.2.2.2.2.2.1 g rfl⟩
/-- An empty table, written out. -/
theorem OwS.lit0 (w : World) : OwS (w.alloc (.cells #[] 26)) w.heap.size (.slice (some ⟨w.heap.size, 0, none⟩) 0 0) [] := by
  have := World.ownsRow_lit (base := w.heap.size) (e := 26) (size := 1) w #[] 0 (Nat.le_refl _) (Nat.zero_le _) rfl
  exact ⟨[], rfl, this, by simp, by simp, by simp⟩
end Go.Proofs.Ytflebfmkgmhccaa
