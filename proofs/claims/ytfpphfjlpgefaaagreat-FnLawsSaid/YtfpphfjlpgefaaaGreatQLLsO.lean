/- Lemmas. -/
import Derived.Test.YtfpphfjlpgefaaaGreatQLM8
import Derived.Test.YtfpphfjlpgefaaaGreatQLG2
set_option linter.unusedSimpArgs false
set_option linter.unusedVariables false
namespace Go.Proofs.YtfpphfjlpgefaaaGreat
open Go.RowKit

theorem list_set_same {α : Type} {l : List α} {k : Nat} {x : α} (h : l[k]? = some x) : l.set k x = l := by
 apply List.ext_getElem?
 intro i
 rw [List.getElem?_set]
 by_cases e : k = i
 ·subst e
  rw [if_pos rfl, if_pos (List.getElem?_eq_some_iff.1 h).1, h]
 ·rw [if_neg e]

def cellsP : List (Int × List Int) → List Value → List Value
 | p :: ps, u :: us => .int .i64 p.1 :: u :: cellsP ps us
 | _, _ => []
theorem cellsP_0 : ∀ (ps : List (Int × List Int)) (us : List Value) (k : Nat) (p : Int × List Int), us.length = ps.length → ps[k]? = some p → (cellsP ps us)[k * 2]? = some (.int .i64 p.1)
 | [], _, k, p, _, h => by simp at h
 | q :: ps, [], k, p, hl, _ => by simp at hl
 | q :: ps, u :: us, 0, p, hl, h => by simp at h; subst h; rfl
 | q :: ps, u :: us, k + 1, p, hl, h => by
   rw [show (k + 1) * 2 = k * 2 + 1 + 1 by omega]
   exact cellsP_0 ps us k p (by simpa using hl) (by simpa using h)
theorem cellsP_1 : ∀ (ps : List (Int × List Int)) (us : List Value) (k : Nat), us.length = ps.length → (cellsP ps us)[k * 2 + 1]? = us[k]?
 | [], [], k, _ => by simp [cellsP]
 | [], u :: us, k, hl => by simp at hl
 | q :: ps, [], k, hl => by simp at hl
 | q :: ps, u :: us, 0, hl => rfl
 | q :: ps, u :: us, k + 1, hl => by
   rw [show (k + 1) * 2 + 1 = k * 2 + 1 + 1 + 1 by omega]
   exact cellsP_1 ps us k (by simpa using hl)
theorem cellsP_app (p : Int × List Int) (u : Value) : ∀ (ps : List (Int × List Int)) (us : List Value), us.length = ps.length → cellsP (ps ++ [p]) (us ++ [u]) = cellsP ps us ++ [.int .i64 p.1, u]
 | [], [], _ => rfl
 | [], v :: us, h => by simp at h
 | q :: ps, [], h => by simp at h
 | q :: ps, v :: us, h => by
   have := cellsP_app p u ps us (by simpa using h)
   simp only [List.cons_append, cellsP, this]
theorem cellsP_set (q : Int × List Int) : ∀ (ps : List (Int × List Int)) (us : List Value) (k : Nat), us.length = ps.length → (cellsP ps us).set (k * 2) (.int .i64 q.1) = cellsP (ps.set k q) us
 | [], us, k, _ => by simp [cellsP]
 | p :: ps, [], k, h => by simp at h
 | p :: ps, u :: us, 0, h => rfl
 | p :: ps, u :: us, k + 1, h => by
   have := cellsP_set q ps us k (by simpa using h)
   rw [show (k + 1) * 2 = k * 2 + 1 + 1 by omega]
   simp only [List.set_cons_succ, cellsP, this]

def OwP (w : World) (B : Nat) (X : Nat → Prop) (v : Value) (ps : List (Int × List Int)) : Prop :=
 ∃ us : List Value, us.length = ps.length ∧ w.ownsRow B 34 2 v ps.length (cellsP ps us) ∧
   (∀ (k : Nat) (u : Value) (p : Int × List Int), us[k]? = some u → ps[k]? = some p → OwI w B u p.2) ∧
   (∀ (i j : Nat) (u u' : Value) (b : Nat), us[i]? = some u → us[j]? = some u' → u.ownBlock = some b → u'.ownBlock = some b → i = j) ∧
   (∀ (i : Nat) (u : Value) (b : Nat), us[i]? = some u → u.ownBlock = some b → v.ownBlock = some b → False) ∧
   (∀ b : Nat, v.ownBlock = some b → ¬ X b) ∧ (∀ (k : Nat) (u : Value) (b : Nat), us[k]? = some u → u.ownBlock = some b → ¬ X b)
theorem OwP.shape {w : World} {B : Nat} {X : Nat → Prop} {v : Value} {ps : List (Int × List Int)} (h : OwP w B X v ps) : ∃ o c, v = .slice o ps.length c := by
 obtain ⟨us, hl, ⟨_, hr⟩, -⟩ := h
 rcases hr with ⟨rfl, h0⟩ | ⟨g, cap, cur, rfl, -⟩
 ·exact ⟨none, 0, by rw [h0]⟩
 ·exact ⟨_, _, rfl⟩
theorem OwP.lt {w : World} {B : Nat} {X : Nat → Prop} {v : Value} {ps : List (Int × List Int)} (h : OwP w B X v ps) : ∀ k, v.ownBlock = some k → B ≤ k ∧ k < w.heap.size := by
 obtain ⟨us, hl, hr, -⟩ := h; exact hr.lt
theorem OwP.notX {w : World} {B : Nat} {X : Nat → Prop} {v : Value} {ps : List (Int × List Int)} (h : OwP w B X v ps) : ∀ k, v.ownBlock = some k → ¬ X k := by
 obtain ⟨us, hl, hr, -, -, -, h1, -⟩ := h; exact h1
theorem OwP.mono {w : World} {B B' : Nat} {X : Nat → Prop} {v : Value} {ps : List (Int × List Int)} (h : OwP w B X v ps) (hB : B' ≤ B) : OwP w B' X v ps := by
 obtain ⟨us, hl, hr, h1, h2⟩ := h
 refine ⟨us, hl, ⟨hr.1, ?_⟩, fun k u p hu hp => (h1 k u p hu hp).mono hB, h2⟩
 rcases hr.2 with h | ⟨g, cap, cur, hv, hg, r⟩
 ·exact .inl h
 ·exact .inr ⟨g, cap, cur, hv, by omega, r⟩
theorem OwP.nil (w : World) (X : Nat → Prop) (hX : ¬ X w.heap.size) : OwP (w.alloc (.cells #[] 34)) w.heap.size X (.slice (some ⟨w.heap.size, 0, none⟩) 0 0) [] :=
 ⟨[], rfl, World.ownsRow_lit (base := w.heap.size) (e := 34) (size := 2) w #[] 0 (nl _) (Nat.zero_le _) rfl, by simp, by simp, by simp, fun b hb => by
   obtain rfl : w.heap.size = b := by simpa [Value.ownBlock] using hb
   exact hX, by simp⟩
theorem OwP.stay {w w' : World} {B : Nat} {X Y : Nat → Prop} {v : Value} {ps : List (Int × List Int)} (h : OwP w B X v ps) (hk : ∀ k, B ≤ k → k < w.heap.size → ¬ X k → w'.heap[k]? = w.heap[k]?) (hY : ∀ k, B ≤ k → k < w.heap.size → ¬ X k → ¬ Y k) : OwP w' B Y v ps := by
 obtain ⟨us, hl, hr, h1, h2, h3, h4, h5⟩ := h
 have hlt : ∀ (i : Nat) (u : Value) (b : Nat), us[i]? = some u → u.ownBlock = some b → B ≤ b ∧ b < w.heap.size := fun i u b hu hb => by
  have hi : i < us.length := (List.getElem?_eq_some_iff.1 hu).1
  exact (h1 i u (ps[i]'(by omega)) hu (by simp [show i < ps.length by omega])).lt b hb
 refine ⟨us, hl, ⟨hr.1, ?_⟩, fun k u p hu hp => ?_, h2, h3, fun b hb => hY b (hr.lt b hb).1 (hr.lt b hb).2 (h4 b hb), fun k u b hu hb => hY b (hlt k u b hu hb).1 (hlt k u b hu hb).2 (h5 k u b hu hb)⟩
 ·rcases hr.2 with h | ⟨g, cap, cur, hv, hg, hh, r⟩
  ·exact .inl h
  ·have hlg : g < w.heap.size := (Array.getElem?_eq_some_iff.1 hh).1
   exact .inr ⟨g, cap, cur, hv, hg, by rw [hk g hg hlg (h4 g (by rw [hv]; rfl))]; exact hh, r⟩
 ·obtain ⟨e1, e2⟩ := h1 k u p hu hp
  refine ⟨e1, ?_⟩
  rcases e2 with e2 | ⟨g, cap, cur, hv, hg, hh, r⟩
  ·exact .inl e2
  ·have hb : u.ownBlock = some g := by rw [hv]; rfl
   exact .inr ⟨g, cap, cur, hv, hg, by rw [hk g hg (hlt k u g hu hb).2 (h5 k u g hu hb)]; exact hh, r⟩
theorem OwP.below {w w' : World} {B : Nat} {X : Nat → Prop} {v : Value} {ps : List (Int × List Int)} (h : OwP w B X v ps) (hb : Below w.heap.size w w') : OwP w' B X v ps :=
 h.stay (fun k _ hk _ => hb.block k hk) (fun _ _ _ h => h)
theorem OwP.top {w : World} {B : Nat} {X : Nat → Prop} {v : Value} {ps : List (Int × List Int)} (h : OwP w B X v ps) : OwP w B (fun b => X b ∨ w.heap.size ≤ b) v ps :=
 h.stay (fun _ _ _ _ => rfl) (fun k _ h1 h2 h3 => by rcases h3 with h3 | h3; exact h2 h3; omega)
theorem OwP.weak {w : World} {B : Nat} {X Y : Nat → Prop} {v : Value} {ps : List (Int × List Int)} (h : OwP w B X v ps) (hY : ∀ b, Y b → X b) : OwP w B Y v ps :=
 h.stay (fun _ _ _ _ => rfl) (fun k _ _ h2 h3 => h2 (hY k h3))
theorem OwP.rd {w : World} {B : Nat} {X : Nat → Prop} {v : Value} {ps : List (Int × List Int)} (h : OwP w B X v ps) : RdM w v ps := by
 obtain ⟨us, hl, hr, h1, -⟩ := h
 rcases id hr.2 with ⟨rfl, h0⟩ | ⟨g, cap, cur, rfl, hg, hh, hn, hcm, hcs, ht⟩
 ·have : ps = [] := List.eq_nil_of_length_eq_zero h0
  subst this
  exact ⟨none, 0, rfl, ⟨Nat.zero_le _, Nat.zero_le _, fun _ => rfl⟩, fun k row hx => by simp at hx⟩
 ·refine ⟨_, _, rfl, ⟨by omega, hn, fun h => by cases h⟩, fun k p hx => ?_⟩
  have hk : k < ps.length := (List.getElem?_eq_some_iff.1 hx).1
  have hu : us[k]? = some us[k] := by simp [hl, hk]
  refine ⟨g, 0, us[k], rfl, ?_, ?_, (h1 k _ p hu hx).rd⟩
  ·rw [Nat.zero_add, World.ownsRow.cellAt hr (k * 2) (by omega)]; exact cellsP_0 ps us k p hl hx
  ·rw [Nat.zero_add, World.ownsRow.cellAt hr (k * 2 + 1) (by omega), cellsP_1 ps us k hl]; exact hu

section
variable {ops : Array Oper} {rest : List Oper} {o : Oper} {a : Act} {Q : Exit → Act → World → Prop}
theorem wpApP {K : Act → World → Prop} (W : World) (s x : Operand) (hop : o.op = .call { callee := .builtin .append, args := #[s, x], argTypes := #[61, 61] })
  (B T : Nat) (X : Nat → Prop) (v : Value) (ps : List (Int × List Int)) (hs : a.eval s = v) (hown : OwP W B (fun b => X b ∨ T ≤ b) v ps) (hB : B ≤ W.heap.size) (hT : T ≤ W.heap.size) (m : Int) (u : Value) (row : List Int) (k : Nat) (hx : a.eval x = .slice (some ⟨k, 0, none⟩) 1 1)
  (hc0 : W.cell? ⟨k, 0, none⟩ = some (.int .i64 m)) (hc1 : W.cell? ⟨k, 1, none⟩ = some u) (hone : u.oneCell' = true) (hu : OwI W B u row) (hub : ∀ b, u.ownBlock = some b → T ≤ b ∧ ¬ X b) (hXn : ¬ X W.heap.size) (hn : ps.length < 1048576)
  (hK : ∀ g cap w', OwP w' B X (.slice (some ⟨g, 0, none⟩) (ps.length + 1) cap) (ps ++ [(m, row)]) → W.grownBy w' v.ownBlock → Below B W w' → (v.ownBlock = some g ∨ g = W.heap.size) → K (a.put o.dst (.slice (some ⟨g, 0, none⟩) (ps.length + 1) cap)) w') :
  Oper.wp Tryz.prog o a W K Q := by
 obtain ⟨i0, hi, hz0, hz1, hz2⟩ := info_parts info_S
 obtain ⟨us, hl, hr, h1, h2, h3, h4, h5⟩ := hown
 refine wp_append_lies W s x 61 hop B 34 i0 (.agg #[.int .i64 0, .slice none 0 0]) 2 32 Tryz.underlying61 hi hz0 hz1 hz2 rfl (by decide) v ps.length (cellsP ps us) hs hr ⟨k, 0, none⟩ 1 1 [.int .i64 m, u] hx rfl (fun j u' hj => ?_) (fun u' hu' => ?_) (by decide) (by unfold maxLen; omega) (by omega) hB W.heap.size rfl ?_
 ·match j with
  | 0 => simp at hj; subst hj; simpa [Addr.add] using hc0
  | 1 => simp at hj; subst hj; simpa [Addr.add] using hc1
  | j + 2 => simp at hj
 ·simp at hu'; rcases hu' with rfl | rfl
  ·rfl
  ·exact hone
 ·intro g cap w' hown' hgrow hlies hglt
  have hgb : Below B W w' := Below.grown (Below.refl B W) hgrow hB (fun b hb => (hr.lt b hb).1)
  have hkeep : ∀ (z : Value) (r : List Int), OwI W B z r → (∀ b, z.ownBlock = some b → v.ownBlock = some b → False) → OwI w' B z r := fun z r hz hne => hz.kept hgrow (by
   cases e : z.ownBlock with
   | none => exact .inl rfl
   | some b => exact .inr (fun e' => hne b e e'.symm))
  have hvu : ∀ b, u.ownBlock = some b → v.ownBlock = some b → False := fun b hb hv => by
   have := (hub b hb).1
   exact h4 b hv (.inr this)
  have hub' : ∀ b, u.ownBlock = some b → b < W.heap.size := fun b hb => (hu.lt b hb).2
  have hul : ∀ (i : Nat) (z : Value), (us ++ [u])[i]? = some z → (i < us.length ∧ us[i]? = some z) ∨ (i = us.length ∧ z = u) := fun i z hz => by
   rw [List.getElem?_append] at hz
   by_cases hi' : i < us.length
   ·rw [if_pos hi'] at hz; exact .inl ⟨hi', hz⟩
   ·rw [if_neg hi'] at hz
    have e1 : i - us.length = 0 := by
     have := (List.getElem?_eq_some_iff.1 hz).1; simp at this; omega
    rw [e1] at hz
    simp at hz
    exact .inr ⟨by omega, hz.symm⟩
  refine hK g cap w' ⟨us ++ [u], by simp [hl], by rw [List.length_append, cellsP_app (m, row) u ps us hl]; exact hown', fun i z p hz hp => ?_, fun i j z z' b hz hz' hb hb' => ?_, fun i z b hz hb hv => ?_, fun b hb => ?_, fun i z b hz hb => ?_⟩ hgrow hgb hlies
  ·rcases hul i z hz with ⟨hi', hz⟩ | ⟨rfl, rfl⟩
   ·rw [List.getElem?_append_left (by omega)] at hp
    exact hkeep z p.2 (h1 i z p hz hp) (fun b hb hv => h3 i z b hz hb hv)
   ·rw [List.getElem?_append_right (by omega), show us.length - ps.length = 0 by omega] at hp
    simp at hp
    subst hp
    exact hkeep _ _ hu hvu
  ·rcases hul i z hz with ⟨hi', hz1⟩ | ⟨rfl, rfl⟩ <;> rcases hul j z' hz' with ⟨hj', hz2⟩ | ⟨rfl, rfl⟩
   ·exact h2 i j z z' b hz1 hz2 hb hb'
   ·exact absurd (Or.inr (hub b hb').1) (h5 i z b hz1 hb)
   ·exact absurd (Or.inr (hub b hb).1) (h5 j z' b hz2 hb')
   ·rfl
  ·have hg : g = b := by simpa [Value.ownBlock] using hv
   rcases hul i z hz with ⟨hi', hz⟩ | ⟨rfl, rfl⟩
   ·have hzl : b < W.heap.size := ((h1 i z (ps[i]'(by omega)) hz (by simp [show i < ps.length by omega])).lt b hb).2
    rcases hlies with e | e
    ·rw [hg] at e; exact h3 i z b hz hb e
    ·omega
   ·have := hub' b hb
    rcases hlies with e | e
    ·rw [hg] at e; exact hvu b hb e
    ·omega
  ·have hg : g = b := by simpa [Value.ownBlock] using hb
   rw [← hg]
   rcases hlies with e | e
   ·exact fun hX => h4 g e (.inl hX)
   ·rw [e]; exact hXn
  ·rcases hul i z hz with ⟨hi', hz⟩ | ⟨rfl, rfl⟩
   ·exact fun hX => h5 i z b hz hb (.inl hX)
   ·exact (hub b hb).2
theorem apP (W : World) (hg : o.guard = none) (s x : Operand) (hop : o.op = .call { callee := .builtin .append, args := #[s, x], argTypes := #[61, 61] })
  (B T : Nat) (X : Nat → Prop) (v : Value) (ps : List (Int × List Int)) (hs : a.eval s = v) (hown : OwP W B (fun b => X b ∨ T ≤ b) v ps) (hB : B ≤ W.heap.size) (hT : T ≤ W.heap.size) (m : Int) (u : Value) (row : List Int) (k : Nat) (hx : a.eval x = .slice (some ⟨k, 0, none⟩) 1 1)
  (hc0 : W.cell? ⟨k, 0, none⟩ = some (.int .i64 m)) (hc1 : W.cell? ⟨k, 1, none⟩ = some u) (hone : u.oneCell' = true) (hu : OwI W B u row) (hub : ∀ b, u.ownBlock = some b → T ≤ b ∧ ¬ X b) (hXn : ¬ X W.heap.size) (hn : ps.length < 1048576)
  (hK : ∀ g cap w', OwP w' B X (.slice (some ⟨g, 0, none⟩) (ps.length + 1) cap) (ps ++ [(m, row)]) → W.grownBy w' v.ownBlock → Below B W w' → (v.ownBlock = some g ∨ g = W.heap.size) → wpList Tryz.prog ops Q rest (a.put o.dst (.slice (some ⟨g, 0, none⟩) (ps.length + 1) cap)) w') :
  wpList Tryz.prog ops Q (o :: rest) a W :=
 wpList_plain hg fun _ hK' => wpApP W s x hop B T X v ps hs hown hB hT m u row k hx hc0 hc1 hone hu hub hXn hn fun g cap w' h1 h2 h3 h4 => hK' _ _ (hK g cap w' h1 h2 h3 h4)
end
def OwPR (lo hi : Nat) (w : World) (v : Value) (ps : List (Int × List Int)) : Prop := OwP w lo (fun b => hi ≤ b) v ps
theorem OwPR.stay {u u' : World} {lo hi : Nat} {v : Value} {ps : List (Int × List Int)} (h : OwPR lo hi u v ps) (hk : ∀ k, lo ≤ k → k < hi → u'.heap[k]? = u.heap[k]?) : OwPR lo hi u' v ps :=
 OwP.stay h (fun k h1 _ h3 => hk k h1 (by omega)) (fun _ _ _ h => h)
theorem OwP.len {w : World} {B n c : Nat} {X : Nat → Prop} {o : Option Addr} {ps : List (Int × List Int)} (h : OwP w B X (.slice o n c) ps) : n = ps.length := by
 obtain ⟨o', c', he⟩ := h.shape
 simpa using (Value.slice.inj he).2.1
theorem OwPR.at {w : World} {lo hi g n c : Nat} {ps : List (Int × List Int)} (h : OwPR lo hi w (.slice (some ⟨g, 0, none⟩) n c) ps) {k : Nat} {p : Int × List Int} (hx : ps[k]? = some p) :
  ∃ o c', w.cell? ⟨g, k * 2, none⟩ = some (.int .i64 p.1) ∧ w.cell? ⟨g, k * 2 + 1, none⟩ = some (.slice o p.2.length c') ∧ OwI w lo (.slice o p.2.length c') p.2 ∧ (∀ b : Nat, (Value.slice o p.2.length c').ownBlock = some b → lo ≤ b ∧ b < hi ∧ b ≠ g) ∧ (∀ j, w.frozen? ⟨g, j, none⟩ = false) ∧
    (∀ w' row', row'.length = p.2.length → w.grownBy w' (Value.slice o p.2.length c').ownBlock → OwI w' lo (.slice o p.2.length c') row' → OwPR lo hi w' (.slice (some ⟨g, 0, none⟩) n c) (ps.set k (p.1, row'))) := by
 have hn := h.len
 obtain ⟨us, hl, hr, h1, h2, h3, h4, h5⟩ := h
 subst hn
 have hk : k < ps.length := (List.getElem?_eq_some_iff.1 hx).1
 have hu : us[k]? = some us[k] := by simp [hl, hk]
 have how := h1 k _ p hu hx
 obtain ⟨o, c', he⟩ := how.shape
 rw [he] at how hu
 refine ⟨o, c', by rw [World.ownsRow.cellAt hr (k * 2) (by omega)]; exact cellsP_0 ps us k p hl hx, by rw [World.ownsRow.cellAt hr (k * 2 + 1) (by omega), cellsP_1 ps us k hl]; exact hu, how, fun b hb => ⟨(how.lt b hb).1, by have := h5 k _ b hu hb; omega, fun e => h3 k _ g hu (by rw [hb, e]) rfl⟩, fun j => World.ownsRow.frozenAt hr j, fun w' row' hlen hg how' => ?_⟩
 have hr' := hr.kept hg (.inr fun e => h3 k _ g hu (by rw [← e]; rfl) rfl)
 have hcs : cellsP (ps.set k (p.1, row')) us = cellsP ps us := by
  rw [← cellsP_set (p.1, row') ps us k hl]
  exact list_set_same (cellsP_0 ps us k p hl hx)
 refine ⟨us, by simp [hl], by rw [List.length_set, hcs]; exact hr', fun i u r hi hxi => ?_, h2, h3, h4, h5⟩
 ·rw [List.getElem?_set] at hxi
  by_cases e : k = i
  ·subst e
   rw [if_pos rfl, if_pos hk] at hxi
   cases hxi
   rw [hu] at hi
   cases hi
   exact how'
  ·rw [if_neg e] at hxi
   refine (h1 i u r hi hxi).kept hg ?_
   cases eo : u.ownBlock with
   | none => exact .inl rfl
   | some b => exact .inr fun e' => e (h2 k i _ u b hu hi (by rw [← e']) eo)
end Go.Proofs.YtfpphfjlpgefaaaGreat
