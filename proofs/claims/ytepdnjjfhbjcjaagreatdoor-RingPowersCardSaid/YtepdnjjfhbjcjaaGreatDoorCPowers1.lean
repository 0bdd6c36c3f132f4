import Derived.Deep.Slices
import Derived.Test.YtepdnjjfhbjcjaaGreatDoorC12
import Derived.Test.YtepdnjjfhbjcjaaGreatDoorCPowers0
set_option linter.all false
section
namespace Go.Proofs.YtepdnjjfhbjcjaaGreatDoor
open Go.ChangeShapes Go.WideShapes Go.ChangeAt Go.RowKit Go.Proofs.YtepdnjjfhbjcjaaGreatDoorPR Go.Proofs.YtepdnjjfhbjcjaaGreatDoorW.PrintWords Go.Proofs.YtepdnjjfhbjcjaaGreatDoorW.PrintLast Go.Proofs.YtepdnjjfhbjcjaaGreatDoorW.PrintMore
set_option linter.all false
set_option maxRecDepth 100000
theorem num_list {H : Type} {enc : TypeId × Value → H} {w : World} {base : Nat} {sp : Nat → Bool} {held : Bool} {fuel : Nat} {l : List Value} {y : DataW H × List MemPlace}
    (h : DataW.trod enc Tryz.prog w base sp held fuel 23 l = some y) (hl : l.length = 5) : ∃ s : S23, l = [.int .i64 s.f0, .int .i64 s.f1, .int .i64 s.f2, .int .i64 s.f3, .int .i64 s.f4] := by
  obtain ⟨xs, n, _, hx, _, hlen, hg⟩ := DataW.trod_struct Tryz.underlying23 h
  have c1 : Tryz.prog.cellsOf 3 = 1 := by kernel_rfl
  match l, hl, xs, hlen with
  | [c0, c1', c2, c3, c4], _, [y0, y1, y2, y3, y4], _ =>
    have g0 : DataW.trod enc Tryz.prog w base sp held n 3 (([c0, c1', c2, c3, c4].drop 0).take (Tryz.prog.cellsOf 3)) = some y0 := hg 0 _ rfl
    rw [c1] at g0
    obtain ⟨n0, e0, _, _⟩ := int_list (show DataW.trod enc Tryz.prog w base sp held n 3 [c0] = some y0 from g0)
    have g1 : DataW.trod enc Tryz.prog w base sp held n 3 (([c0, c1', c2, c3, c4].drop 1).take (Tryz.prog.cellsOf 3)) = some y1 := hg 1 _ rfl
    rw [c1] at g1
    obtain ⟨n1, e1, _, _⟩ := int_list (show DataW.trod enc Tryz.prog w base sp held n 3 [c1'] = some y1 from g1)
    have g2 : DataW.trod enc Tryz.prog w base sp held n 3 (([c0, c1', c2, c3, c4].drop 2).take (Tryz.prog.cellsOf 3)) = some y2 := hg 2 _ rfl
    rw [c1] at g2
    obtain ⟨n2, e2, _, _⟩ := int_list (show DataW.trod enc Tryz.prog w base sp held n 3 [c2] = some y2 from g2)
    have g3 : DataW.trod enc Tryz.prog w base sp held n 3 (([c0, c1', c2, c3, c4].drop 3).take (Tryz.prog.cellsOf 3)) = some y3 := hg 3 _ rfl
    rw [c1] at g3
    obtain ⟨n3, e3, _, _⟩ := int_list (show DataW.trod enc Tryz.prog w base sp held n 3 [c3] = some y3 from g3)
    have g4 : DataW.trod enc Tryz.prog w base sp held n 3 (([c0, c1', c2, c3, c4].drop 4).take (Tryz.prog.cellsOf 3)) = some y4 := hg 4 _ rfl
    rw [c1] at g4
    obtain ⟨n4, e4, _, _⟩ := int_list (show DataW.trod enc Tryz.prog w base sp held n 3 [c4] = some y4 from g4)
    injection e0 with e0 _
    subst e0
    injection e1 with e1 _
    subst e1
    injection e2 with e2 _
    subst e2
    injection e3 with e3 _
    subst e3
    injection e4 with e4 _
    subst e4
    exact ⟨⟨n0, n1, n2, n3, n4⟩, rfl⟩
theorem list_of_each {α : Type} (n : Nat) (Q : Nat → α → Prop) (h : ∀ i, i < n → ∃ x, Q i x) : ∃ l : List α, l.length = n ∧ ∀ (i : Nat) (x : α), l[i]? = some x → Q i x := by
  induction n with
  | zero => exact ⟨[], rfl, fun i x h => by simp at h⟩
  | succ n ih =>
    obtain ⟨l, hl, hq⟩ := ih (fun i hi => h i (by omega))
    obtain ⟨x, hx⟩ := h n (by omega)
    refine ⟨l ++ [x], by simp [hl], fun i y hy => ?_⟩
    by_cases hi : i < l.length
    · rw [List.getElem?_append_left hi] at hy; exact hq i y hy
    · rw [List.getElem?_append_right (by omega)] at hy
      obtain ⟨h1, h2⟩ := List.getElem?_eq_some_iff.1 hy
      have h3 : i = n := by simp at h1; omega
      subst h3
      have h4 : x = y := by simpa using h2
      subst h4
      exact hx
theorem open_nums {H : Type} {enc : TypeId × Value → H} {W : World} {base b0 : Nat} {sp : Nat → Bool} {held : Bool} {r : Reach} {v : Value} {d : DataW H} {p : List MemPlace}
    (hval : Value.okWide Tryz.prog W r b0 24 v) (h : DataW.Trod enc Tryz.prog W base sp held 24 v d p) :
    ∃ (a : Option Addr) (l : List S23) (c : Nat), v = .slice a l.length c ∧ Kd.C k23 W a l.length l ∧ l.length ≤ c := by
  obtain ⟨a1, len, cap, rfl⟩ := okWide_slice Tryz.underlying24 hval
  obtain ⟨fuel, hf⟩ := h
  have hC : Tryz.prog.cellsOf 23 = 5 := by kernel_rfl
  rcases Go.Deep.open_slice Tryz.underlying24 hf with ⟨hcs, _⟩ | ⟨x, l, c, m, n, D, Pl, hcs, _, hl, hm, hz, _, hel⟩
  · simp [Value.cells] at hcs
    obtain ⟨rfl, rfl, rfl⟩ := hcs
    exact ⟨none, [], 0, rfl, ⟨rfl, by simp, fun h => absurd h (by simp)⟩, Nat.le_refl _⟩
  · simp [Value.cells] at hcs
    obtain ⟨rfl, rfl, rfl⟩ := hcs
    have hlm : len ≤ m := by rw [hz]; split <;> omega
    obtain ⟨L, hL, hq⟩ := list_of_each len (fun i (s : S23) => ∀ (j : Nat) (u : Value), [Value.int .i64 s.f0, .int .i64 s.f1, .int .i64 s.f2, .int .i64 s.f3, .int .i64 s.f4][j]? = some u → W.cell? (x.add (i * 5 + j)) = some u) (fun i hi => by
      obtain ⟨cs', h1, h2⟩ := hel i (by omega)
      rw [hC] at h1
      obtain ⟨_, h3, h4⟩ := World.cells?_some h1
      obtain ⟨s, rfl⟩ := num_list h2 h3
      refine ⟨s, fun j u hj => ?_⟩
      have hj5 : j < 5 := by have := (List.getElem?_eq_some_iff.1 hj).1; simpa using this
      have h5 := h4 j hj5
      rw [Go.Deep.add_add, hj] at h5
      exact h5)
    subst hL
    refine ⟨some x, L, cap, rfl, ⟨rfl, by unfold maxLen at hm; omega, fun _ => ⟨x, rfl, fun j s hs => ?_⟩⟩, hl⟩
    exact ⟨_, rfl, k23_mk W s, hq j s hs⟩
end Go.Proofs.YtepdnjjfhbjcjaaGreatDoor
end
