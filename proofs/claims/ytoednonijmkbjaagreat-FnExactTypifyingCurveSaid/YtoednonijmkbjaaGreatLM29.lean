/- Lemmas. -/
import Derived.Test.YtoednonijmkbjaaGreatLM28
import Derived.Laws.AppendOwn
import Derived.Test.YtoednonijmkbjaaGreatLM26
import Derived.Test.YtoednonijmkbjaaGreatLG5
import Derived.Test.YtoednonijmkbjaaGreatLG1
set_option linter.unusedSimpArgs false
set_option linter.unusedVariables false
namespace Go.Proofs.YtoednonijmkbjaaGreat
open Go.RowKit
open Go

set_option maxHeartbeats 1000000 in
theorem run_ap1 (w : World) (ty : TypeId) (B g n cap : Nat) (xs : List Int) (y : Int) (hO : OwI w B (.slice (some ⟨g, 0, none⟩) n cap) xs) (a : Addr) (hnew : ∀ j u, [Value.int .i64 y][j]? = some u → w.cell? (a.add j) = some u) (hn : n ≤ 1000) (hB : B ≤ w.heap.size) :
    ∃ g' cap' w', (Builtin.append_ #[26, 26] ty #[.slice (some ⟨g, 0, none⟩) n cap, .slice (some a) 1 1]).run Tryz.prog w = .ok (.slice (some ⟨g', 0, none⟩) (n + 1) cap') w' ∧
      OwI w' B (.slice (some ⟨g', 0, none⟩) (n + 1) cap') (xs ++ [y]) ∧ w.grownBy w' (some g) ∧ (g' = g ∨ g' = w.heap.size) := by
  obtain ⟨i0, hi, hz0, hz1, hz2⟩ := info_parts info_i
  have hlen := hO.len
  have hO' := hO
  obtain ⟨h1, h2⟩ := hO
  have hll : (xs ++ [y]).length = n + 1 := by simp; omega
  rcases h2 with ⟨h, _⟩ | ⟨g1, cap1, cur, hv, hg, hh, hnc, hcm, hcs, ht⟩
  · simp at h
  obtain ⟨rfl, rfl⟩ : g = g1 ∧ cap = cap1 := by
    obtain ⟨e1, _, e3⟩ := Value.slice.inj hv
    exact ⟨by simpa using e1, e3⟩
  by_cases hroom : n + 1 ≤ cap
  · have hr := run_append_room (P := Tryz.prog) w 26 ty 2 i0 Tryz.underlying26 hi g n cap cur hh a 1 1 [.int .i64 y] (by rw [hz1]; rfl) hnew (ints_oneCell .i64 [y]) hroom (by rw [hz1]; simp; omega)
    rw [hz1] at hr
    simp only [Nat.mul_one] at hr
    refine ⟨_, _, _, hr, ⟨by simp, .inr ⟨g, cap, _, by rw [hll], hg, setRow_heap w g cur _ _ _ hh, by omega, hcm, ?_, ?_⟩⟩, ⟨rfl, rfl, rfl, by simp, fun k _ hk => setRow_other w g k _ (fun e => hk (by rw [e]))⟩, .inl rfl⟩
    · simp only [List.size_toArray, List.length_append, List.length_take, List.length_drop, Array.length_toList, List.length_cons, List.length_nil]
      omega
    · have e : cur.toList.take n = xs.map (Value.int .i64) := by
        rw [← hlen, Nat.mul_one] at ht; exact ht
      simp only [e, List.map_append, List.append_assoc]
      rw [show (xs ++ [y]).length * 1 = (xs.map (Value.int .i64) ++ [y].map (Value.int .i64)).length by simp, ← List.append_assoc]
      exact List.take_left
  · have hc : ∀ j u, (xs.map (Value.int .i64))[j]? = some u → w.cell? ((⟨g, 0, none⟩ : Addr).add j) = some u := World.ownsRow.cells hO' (g := g) rfl
    have hr := run_append_grow (P := Tryz.prog) w 26 ty 2 i0 (.int .i64 0) Tryz.underlying26 hi hz0 ⟨g, 0, none⟩ n cap (xs.map (Value.int .i64)) (by rw [hz1]; simp; omega) hc a 1 1 [.int .i64 y] (by rw [hz1]; rfl) hnew (by omega) (by omega) (by rw [hz2]; exact growslice_fits (by omega) (by omega))
    have hge := grownCap_ge w (n + 1) cap 2
    refine ⟨_, _, _, hr, ⟨by simp, .inr ⟨w.heap.size, _, _, by rw [hll], hB, heap_alloc_new w.drew _, by omega, grownCap_le_maxLen w _ _ _ (by unfold maxLen; omega), ?_, ?_⟩⟩, ⟨rfl, rfl, rfl, by simp, fun k hk _ => heap_alloc_old w.drew _ hk⟩, .inr rfl⟩
    · have hzc : (Value.int IntKind.i64 0).cells.size = 1 := rfl
      simp [size_zeroCells, hzc]; omega
    · simp only [Array.toList_append, List.map_append]
      rw [show (xs ++ [y]).length * 1 = (xs.map (Value.int .i64) ++ [y].map (Value.int .i64)).length by simp]
      exact List.take_left
theorem ap1 {ops : Array Oper} {rest : List Oper} {o : Oper} {a : Act} {Q : Exit → Act → World → Prop} (w : World) (hg : o.guard = none) (s x : Operand) (hop : o.op = .call { callee := .builtin .append, args := #[s, x], argTypes := #[26, 26] })
    (B g n cap : Nat) (xs : List Int) (hs : a.eval s = .slice (some ⟨g, 0, none⟩) n cap) (y : Int) (hx : a.eval x = .slice (some ⟨w.heap.size, 0, none⟩) 1 1) (hO : OwI w B (.slice (some ⟨g, 0, none⟩) n cap) xs) (hn : n ≤ 1000) (hB : B ≤ w.heap.size)
    (hK : ∀ g' cap' w', OwI w' B (.slice (some ⟨g', 0, none⟩) (n + 1) cap') (xs ++ [y]) → (w.alloc (.cells #[.int .i64 y] 2)).grownBy w' (some g) → (g' = g ∨ g' = w.heap.size + 1) → wpList Tryz.prog ops Q rest (a.put o.dst (.slice (some ⟨g', 0, none⟩) (n + 1) cap')) w') :
    wpList Tryz.prog ops Q (o :: rest) a (w.alloc (.cells #[.int .i64 y] 2)) :=
  wpList_plain hg fun K hK' => by
    obtain ⟨g', cap', w', hr, h1, h2, h3⟩ := run_ap1 (w.alloc (.cells #[.int .i64 y] 2)) o.type B g n cap xs y (hO.alloc _) ⟨w.heap.size, 0, none⟩ (cell_one_new _ _ _) hn (by simp; omega)
    unfold Oper.wp execOp
    simp only [hop, resolve, invoke, builtin, Sem.run_bind, Sem.run_pure, Result.andThen_ok, List.map_toArray, List.map_cons, List.map_nil, hs, hx, hr]
    exact hK' _ _ (hK g' cap' w' h1 h2 (by simpa using h3))
structure TyM (B D : Nat) (T : List (List Int)) (ls cv : List Int) (oT : Option Addr) (cT gc cc g cl : Nat) (fx : List Nat) (u : World) : Prop where
  tab : ∃ a b, Rds a b u (fun x => RdT x (.slice oT (D + 1) cT) T) ∧ (g < a ∨ b ≤ g) ∧ ∀ x ∈ fx, x < a ∨ b ≤ x
  cv : OwI u B (.slice (some ⟨gc, 0, none⟩) (D + 1) cc) cv
  ls : OwI u B (.slice (some ⟨g, 0, none⟩) ls.length cl) ls
  ne : g ≠ gc
  nc : gc ∉ fx
  ng : g ∉ fx
  fx : ∀ x ∈ fx, x < u.heap.size
theorem TyM.below {B D : Nat} {T : List (List Int)} {ls cv : List Int} {oT : Option Addr} {cT gc cc g cl : Nat} {fx : List Nat} {u u' : World} (h : TyM B D T ls cv oT cT gc cc g cl fx u) (hb : Below u.heap.size u u') : TyM B D T ls cv oT cT gc cc g cl fx u' := by
  obtain ⟨a, b, h1, h2, h3⟩ := h.tab
  exact ⟨⟨a, b, h1.below hb, h2, h3⟩, h.cv.below hb, h.ls.below hb, h.ne, h.nc, h.ng, fun x hx => Nat.lt_of_lt_of_le (h.fx x hx) hb.size⟩
theorem TyM.rd {B D : Nat} {T : List (List Int)} {ls cv : List Int} {oT : Option Addr} {cT gc cc g cl : Nat} {fx : List Nat} {u : World} (h : TyM B D T ls cv oT cT gc cc g cl fx u) : RdT u (.slice oT (D + 1) cT) T := by
  obtain ⟨a, b, h1, h2, h3⟩ := h.tab
  exact h1.now
theorem TyM.put {B D : Nat} {T : List (List Int)} {ls cv : List Int} {oT : Option Addr} {cT gc cc g cl : Nat} {fx : List Nat} {u : World} (h : TyM B D T ls cv oT cT gc cc g cl fx u) {x : Nat} (hx : x ∈ fx) (k : Nat) (v : Value) : TyM B D T ls cv oT cT gc cc g cl fx (u.setCell ⟨x, k, none⟩ v) := by
  obtain ⟨a, b, h1, h2, h3⟩ := h.tab
  exact ⟨⟨a, b, h1.put (h3 x hx) k v, h2, h3⟩, h.cv.ne (fun j hj e => h.nc (by cases hj; have e' : gc = x := e; rw [e']; exact hx)) v, h.ls.ne (fun j hj e => h.ng (by cases hj; have e' : g = x := e; rw [e']; exact hx)) v, h.ne, h.nc, h.ng, fun y hy => by have := h.fx y hy; simpa using this⟩
theorem TyM.app {B D : Nat} {T : List (List Int)} {ls cv : List Int} {oT : Option Addr} {cT gc cc g cl : Nat} {fx : List Nat} {u u' : World} (h : TyM B D T ls cv oT cT gc cc g cl fx u) {y : Int} {g' cl' : Nat} {o : Obj} (h1 : OwI u' B (.slice (some ⟨g', 0, none⟩) (ls.length + 1) cl') (ls ++ [y])) (h2 : (u.alloc o).grownBy u' (some g)) (h3 : g' = g ∨ g' = u.heap.size + 1) :
    TyM B D T (ls ++ [y]) cv oT cT gc cc g' cl' fx u' := by
  have ha : u.grownBy (u.alloc o) none := World.grownBy_alloc u o none
  obtain ⟨a, b, k1, k2, k3⟩ := h.tab
  have hcl := (h.cv.lt gc rfl).2
  have hgl := (h.ls.lt g rfl).2
  have hs := h2.size
  simp at hs
  refine ⟨⟨a, b, (k1.grown ha (fun b hb => by cases hb)).grown h2 (fun j hj => by cases hj; exact k2), ?_, k3⟩, (h.cv.alloc o).kept h2 (.inr (fun e => h.ne (by simpa [Value.ownBlock] using e.symm))), by simpa using h1, ?_, h.nc, ?_, fun x hx => by have := h.fx x hx; omega⟩
  · rcases h3 with rfl | rfl
    · exact k2
    · right; have := k1.1; omega
  · rcases h3 with rfl | rfl
    · exact h.ne
    · omega
  · rcases h3 with rfl | rfl
    · exact h.ng
    · intro hx; have := h.fx _ hx; omega
theorem TyM.new {B D : Nat} {T : List (List Int)} {ls cv : List Int} {oT : Option Addr} {cT gc cc g cl : Nat} {fx : List Nat} {u u' : World} (h : TyM B D T ls cv oT cT gc cc g cl fx u) (hb : Below u.heap.size u u') {T' : List (List Int)} {cv' : List Int} {oT' : Option Addr} {cT' gc' cc' a b : Nat} (hB : B ≤ u.heap.size) (ha : u.heap.size ≤ a)
    (hT : Rds a b u' (fun x => RdT x (.slice oT' (D + 1) cT') T')) (hc : OwI u' u.heap.size (.slice (some ⟨gc', 0, none⟩) (D + 1) cc') cv') : TyM B D T' ls cv' oT' cT' gc' cc' g cl fx u' := by
  have hg := (h.ls.lt g rfl).2
  have hgc := (hc.lt gc' rfl).1
  refine ⟨⟨a, b, hT, .inl (by omega), fun x hx => .inl (by have := h.fx x hx; omega)⟩, hc.mono hB, h.ls.below hb, by omega, fun hx => by have := h.fx _ hx; omega, h.ng, fun x hx => Nat.lt_of_lt_of_le (h.fx x hx) hb.size⟩
end Go.Proofs.YtoednonijmkbjaaGreat
set_option linter.unusedSimpArgs false
set_option linter.unusedVariables false
namespace Go.Proofs.YtoednonijmkbjaaGreat
open Go.RowKit

set_option maxHeartbeats 1000000 in
set_option maxRecDepth 100000 in
theorem variable_c (m d : Int) (n : Nat) (w : World) (hd : d + 1 = n) (h2 : 2 ≤ n) (hn : n ≤ 1048576) :
    Calls Tryz.prog 55 #[.int .i64 m, .int .i64 d] w fun e w' => SVEnd w w' m (varL n) e := by
  go_enter Tryz.func55, Tryz.ntmps55
  go_wp2_with fail
  have R0 := RB2.mk1 w (.int .i64 0) (.slice none 0 0) 28
  have B0 : Below w.heap.size w (w.alloc (.cells #[.int .i64 0, .slice none 0 0] 28)) := (by (repeat (first | exact bR _ _ | (refine bS ?_ _) | (refine bA ?_ _) | (refine bN ?_ _) | (refine bD ?_))))
  generalize w.alloc (.cells #[.int .i64 0, .slice none 0 0] 28) = w0 at R0 B0 ⊢
  have hzl : w.heap.size < w0.heap.size := R0.1.lt
  go_wp2_with fail
  refine (zero_c m d n _ hd hn).mono ?_
  rintro e w1 ⟨vz, rfl, how, hb⟩
  obtain ⟨oz, cz, rfl⟩ := how.shapeN (n := n) (by simp)
  obtain ⟨g, rfl, hgl, hgl'⟩ := how.row (by omega)
  (have R1 := R0.below hb (Nat.le_refl _); have B1 := B0.trans (hb.mono B0.size))
  have hb1 := hb.size
  have lR := R1.1.lt
  have hc0 := how.cell (k := 1) (rep_get n 1 0 (by omega))
  have hf0 := how.fz 1
  have Hn := Lib.hid how
  clear how
  have i1 : 1 < n := by omega
  have i2 : (1 : Int) < (n : Int) := by omega
  have hgn : g ≠ w1.heap.size := by omega
  have hgr : g ≠ w.heap.size := by omega
  obtain ⟨⟨r0, r1⟩, rf⟩ := id R1
  go_wp2
  refine bodyPost_ret (v := .agg #[.int .i64 m, .slice (some ⟨g, 0, none⟩) n cz]) (by simp [results, Tryz.results55, go_sem, r0, r1, lR, hgn, hgr]) rfl ⟨_, rfl, ?_, ?_⟩
  · exact ((((Hn.out.put 1 1).low (by first | (simp; done) | (simp; omega) | omega) _).low (by first | (simp; done) | (simp; omega) | omega) _).alloc _).mono (by first | (simp; done) | (simp; omega) | omega)
  · (repeat (first | exact bR _ _ | (refine bS ?_ _) | (refine bA ?_ _) | (refine bN ?_ _) | (refine bD ?_) | (refine bT ?_ B1)))

end Go.Proofs.YtoednonijmkbjaaGreat
