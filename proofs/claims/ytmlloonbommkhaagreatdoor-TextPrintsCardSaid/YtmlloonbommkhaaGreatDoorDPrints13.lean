import Derived.Deep.Slices
import Derived.ChangeSlices
import Derived.Test.YtmlloonbommkhaaGreatDoorDPrints8
import Derived.Test.YtmlloonbommkhaaGreatDoorDPrints12
set_option linter.all false
section
namespace Go.Proofs.YtmlloonbommkhaaGreatDoor
open Go.ChangeShapes Go.WideShapes Go.ChangeAt Go.RowKit
set_option linter.all false
set_option maxRecDepth 100000
theorem int_list {H : Type} {enc : TypeId × Value → H} {w : World} {base : Nat} {sp : Nat → Bool} {held : Bool} {fuel : Nat} {l : List Value} {y : DataW H × List MemPlace}
    (h : DataW.trod enc Tryz.prog w base sp held fuel 3 l = some y) : ∃ n, l = [.int .i64 n] ∧ y = (.lit (.int .i64 n), []) ∧ (Lit.int .i64 n).wf = true :=
  DataW.trod_int Tryz.underlying3 h
theorem addr_add (b o : Nat) (j : Nat) : (⟨b, o, none⟩ : Addr).add j = ⟨b, o + j, none⟩ := by
  unfold Addr.add; by_cases h : j = 0 <;> simp [h]
theorem ints_open {H : Type} {enc : TypeId × Value → H} {w : World} {base : Nat} {sp : Nat → Bool} {held : Bool} {fuel : Nat} {l : List Value} {y : DataW H × List MemPlace}
    (h : DataW.trod enc Tryz.prog w base sp held fuel 53 l = some y) : ∃ v zs, l = [v] ∧ IntsAt w w.heap.size v zs := by
  rcases open_ints Tryz.underlying53 Tryz.underlying3 (by kernel_rfl) h with ⟨rfl, _⟩ | ⟨x, len, cap, zs, rfl, _, hl, hm, hz, _, hcell, _⟩
  · exact ⟨_, [], rfl, none, 0, rfl, Nat.le_refl _, Nat.zero_le _, fun h => absurd rfl h⟩
  · have hlz : len ≤ zs.length := by rw [hz]; split <;> omega
    have hlt : (zs.take len).length = len := by rw [List.length_take]; omega
    refine ⟨_, zs.take len, rfl, some x, cap, by rw [hlt], by rw [hlt]; exact hl, hm, fun hne => ?_⟩
    have h0 : 0 < len := by
      rcases Nat.eq_zero_or_pos len with h | h
      · rw [h] at hne; exact absurd rfl hne
      · exact h
    obtain ⟨ab, ao, spot⟩ := x
    have hc0 := hcell 0 (by omega)
    have hspot : spot = none := by simpa [Addr.add] using World.cell?_spot hc0
    subst hspot
    refine ⟨ab, ao, rfl, World.block_lt_of_cell? w _ hc0, fun j hj => ?_⟩
    rw [hlt] at hj
    have hcj := hcell j (by omega)
    rw [addr_add] at hcj
    rw [hcj]
    congr 2
    rw [List.getD_eq_getElem?_getD, List.getD_eq_getElem?_getD, List.getElem?_take, if_pos hj]
theorem gate_list {H : Type} {enc : TypeId × Value → H} {w : World} {base : Nat} {sp : Nat → Bool} {held : Bool} {fuel : Nat} {l : List Value} {y : DataW H × List MemPlace}
    (h : DataW.trod enc Tryz.prog w base sp held fuel 55 l = some y) (hl : l.length = 4) : ∃ (g : Gt) (wv : Value), l = [.int .i64 g.kind, wv, .int .i64 g.bit, .int .i64 g.ifn] ∧ IntsAt w w.heap.size wv g.wires := by
  obtain ⟨xs, n, _, hx, _, hlen, hg⟩ := DataW.trod_struct Tryz.underlying55 h
  have c1 : Tryz.prog.cellsOf 3 = 1 := by kernel_rfl
  have c2 : Tryz.prog.cellsOf 53 = 1 := by kernel_rfl
  match l, hl, xs, hlen with
  | [v0, v1, v2, v3], _, [y0, y1, y2, y3], _ =>
    have g0 : DataW.trod enc Tryz.prog w base sp held n 3 (([v0, v1, v2, v3].drop 0).take (Tryz.prog.cellsOf 3)) = some y0 := hg 0 _ rfl
    rw [c1] at g0
    obtain ⟨n0, e0, _, _⟩ := int_list (show DataW.trod enc Tryz.prog w base sp held n 3 [v0] = some y0 from g0)
    have g1 : DataW.trod enc Tryz.prog w base sp held n 53 (([v0, v1, v2, v3].drop 1).take (Tryz.prog.cellsOf 53)) = some y1 := hg 1 _ rfl
    rw [c2] at g1
    obtain ⟨wv, zs, e1, hi⟩ := ints_open (show DataW.trod enc Tryz.prog w base sp held n 53 [v1] = some y1 from g1)
    have g2 : DataW.trod enc Tryz.prog w base sp held n 3 (([v0, v1, v2, v3].drop 2).take (Tryz.prog.cellsOf 3)) = some y2 := hg 2 _ rfl
    rw [c1] at g2
    obtain ⟨n2, e2, _, _⟩ := int_list (show DataW.trod enc Tryz.prog w base sp held n 3 [v2] = some y2 from g2)
    have g3 : DataW.trod enc Tryz.prog w base sp held n 3 (([v0, v1, v2, v3].drop 3).take (Tryz.prog.cellsOf 3)) = some y3 := hg 3 _ rfl
    rw [c1] at g3
    obtain ⟨n3, e3, _, _⟩ := int_list (show DataW.trod enc Tryz.prog w base sp held n 3 [v3] = some y3 from g3)
    injection e0 with e0 _
    subst e0
    injection e1 with e1 _
    subst e1
    injection e2 with e2 _
    subst e2
    injection e3 with e3 _
    subst e3
    exact ⟨⟨n0, zs, n2, n3⟩, v1, rfl, hi⟩
theorem list_of_each {α : Type} (n : Nat) (Q : Nat → α → Prop) (h : ∀ i, i < n → ∃ x, Q i x) : ∃ l : List α, l.length = n ∧ ∀ (i : Nat) (x : α), l[i]? = some x → Q i x := by
  induction n with
  | zero => exact ⟨[], rfl, fun i x h => by simp at h⟩
  | succ n ih =>
    obtain ⟨l, hl, hq⟩ := ih (fun i hi => h i (by omega))
    obtain ⟨x, hx⟩ := h n (by omega)
    refine ⟨l ++ [x], by simp [hl], fun i y hy => ?_⟩
    by_cases hi : i < l.length
    · rw [List.getElem?_append_left hi] at hy; exact hq i y hy
    · rw [List.getElem?_append_right (by omega)] at hy
      obtain ⟨h1, h2⟩ := List.getElem?_eq_some_iff.1 hy
      have h3 : i = n := by simp at h1; omega
      subst h3
      have h4 : x = y := by simpa using h2
      subst h4
      exact hx
theorem gates_open {H : Type} {enc : TypeId × Value → H} {w : World} {base : Nat} {sp : Nat → Bool} {held : Bool} {fuel : Nat} {l : List Value} {y : DataW H × List MemPlace}
    (h : DataW.trod enc Tryz.prog w base sp held fuel 41 l = some y) : ∃ v gs, l = [v] ∧ GatesAt w w.heap.size v gs := by
  have hC : Tryz.prog.cellsOf 55 = 4 := by kernel_rfl
  rcases Go.Deep.open_slice Tryz.underlying41 h with ⟨rfl, _⟩ | ⟨x, len, cap, m, n, D, Pl, rfl, _, hl, hm, hz, _, hel⟩
  · exact ⟨_, [], rfl, none, 0, rfl, Nat.le_refl _, Nat.zero_le _, fun h => absurd rfl h⟩
  · have hlm : len ≤ m := by rw [hz]; split <;> omega
    obtain ⟨L, hL, hq⟩ := list_of_each len (fun i (g : Gt) => ∃ wv, IntsAt w w.heap.size wv g.wires ∧ ∀ (j : Nat) (u : Value), [Value.int .i64 g.kind, wv, Value.int .i64 g.bit, Value.int .i64 g.ifn][j]? = some u → w.cell? ((x.add (i * 4)).add j) = some u) (fun i hi => by
      obtain ⟨cs', h1, h2⟩ := hel i (by omega)
      rw [hC] at h1
      obtain ⟨_, h3, h4⟩ := World.cells?_some h1
      obtain ⟨g, wv, rfl, hi2⟩ := gate_list h2 h3
      refine ⟨g, wv, hi2, fun j u hj => ?_⟩
      have hj4 : j < 4 := by have := (List.getElem?_eq_some_iff.1 hj).1; simpa using this
      rw [h4 j hj4, hj])
    subst hL
    refine ⟨_, L, rfl, some x, cap, rfl, hl, hm, fun hne => ?_⟩
    have h0 : 0 < L.length := List.length_pos_iff.2 hne
    obtain ⟨ab, ao, spot⟩ := x
    obtain ⟨wv0, _, hc0⟩ := hq 0 L[0] (List.getElem?_eq_getElem h0)
    have hc00 := hc0 0 _ rfl
    have hspot : spot = none := by simpa [Addr.add] using World.cell?_spot hc00
    subst hspot
    refine ⟨ab, ao, rfl, World.block_lt_of_cell? w _ hc00, fun j g hj => ?_⟩
    obtain ⟨wv, hi, hc⟩ := hq j g hj
    have k0 := hc 0 _ rfl
    have k1 := hc 1 _ rfl
    have k2 := hc 2 _ rfl
    have k3 := hc 3 _ rfl
    rw [addr_add, addr_add] at k0 k1 k2 k3
    exact ⟨wv, hi, k0, k1, k2, k3⟩
theorem open_gate {H : Type} {enc : TypeId × Value → H} {w : World} {base b0 : Nat} {sp : Nat → Bool} {held : Bool} {r : Reach} {v : Value} {d : DataW H} {p : List MemPlace}
    (hv : Value.okWide Tryz.prog w r b0 55 v) (h : DataW.Trod enc Tryz.prog w base sp held 55 v d p) :
    ∃ (g : Gt) (wv : Value), v = .agg #[.int .i64 g.kind, wv, .int .i64 g.bit, .int .i64 g.ifn] ∧ IntsAt w w.heap.size wv g.wires := by
  obtain ⟨cs, rfl, hsz⟩ := okWide_struct Tryz.underlying55 hv
  have hC : Tryz.prog.cellsOf 55 = 4 := by kernel_rfl
  rw [hC] at hsz
  obtain ⟨fuel, hf⟩ := h
  obtain ⟨l⟩ := cs
  obtain ⟨g, wv, e, hi⟩ := gate_list (show DataW.trod enc Tryz.prog w base sp held fuel 55 l = some _ from hf) hsz
  subst e
  exact ⟨g, wv, rfl, hi⟩
theorem open_circ {H : Type} {enc : TypeId × Value → H} {w : World} {base b0 : Nat} {sp : Nat → Bool} {held : Bool} {r : Reach} {v : Value} {d : DataW H} {p : List MemPlace}
    (hv : Value.okWide Tryz.prog w r b0 43 v) (h : DataW.Trod enc Tryz.prog w base sp held 43 v d p) :
    ∃ (a b : Int) (gv : Value) (gs : List Gt), v = .agg #[.int .i64 a, .int .i64 b, gv] ∧ GatesAt w w.heap.size gv gs := by
  obtain ⟨cs, rfl, hsz⟩ := okWide_struct Tryz.underlying43 hv
  have hC : Tryz.prog.cellsOf 43 = 3 := by kernel_rfl
  rw [hC] at hsz
  obtain ⟨fuel, hf⟩ := h
  obtain ⟨xs, n, _, hx, _, hlen, hg⟩ := DataW.trod_struct Tryz.underlying43 hf
  have c1 : Tryz.prog.cellsOf 3 = 1 := by kernel_rfl
  have c2 : Tryz.prog.cellsOf 41 = 1 := by kernel_rfl
  obtain ⟨l⟩ := cs
  match l, hsz, xs, hlen with
  | [v0, v1, v2], _, [y0, y1, y2], _ =>
    have g0 : DataW.trod enc Tryz.prog w base sp held n 3 (([v0, v1, v2].drop 0).take (Tryz.prog.cellsOf 3)) = some y0 := hg 0 _ rfl
    rw [c1] at g0
    obtain ⟨n0, e0, _, _⟩ := int_list (show DataW.trod enc Tryz.prog w base sp held n 3 [v0] = some y0 from g0)
    have g1 : DataW.trod enc Tryz.prog w base sp held n 3 (([v0, v1, v2].drop 1).take (Tryz.prog.cellsOf 3)) = some y1 := hg 1 _ rfl
    rw [c1] at g1
    obtain ⟨n1, e1, _, _⟩ := int_list (show DataW.trod enc Tryz.prog w base sp held n 3 [v1] = some y1 from g1)
    have g2 : DataW.trod enc Tryz.prog w base sp held n 41 (([v0, v1, v2].drop 2).take (Tryz.prog.cellsOf 41)) = some y2 := hg 2 _ rfl
    rw [c2] at g2
    obtain ⟨gv, gs, e2, hi⟩ := gates_open (show DataW.trod enc Tryz.prog w base sp held n 41 [v2] = some y2 from g2)
    injection e0 with e0 _
    subst e0
    injection e1 with e1 _
    subst e1
    injection e2 with e2 _
    subst e2
    exact ⟨n0, n1, v2, gs, rfl, hi⟩
end Go.Proofs.YtmlloonbommkhaaGreatDoor
end
