import Derived.Deep.Slices
import Derived.ChangeSlices
import Derived.Test.YtonnegkpjmhomaaGreatDoorDLaid8
import Derived.Test.YtonnegkpjmhomaaGreatDoorDLaid12
set_option linter.all false
section
namespace Go.Proofs.YtonnegkpjmhomaaGreatDoor
open Go.ChangeShapes Go.WideShapes Go.ChangeAt Go.RowKit
set_option linter.all false
set_option maxRecDepth 100000
theorem int_list {H : Type} {enc : TypeId × Value → H} {w : World} {base : Nat} {sp : Nat → Bool} {held : Bool} {fuel : Nat} {l : List Value} {y : DataW H × List MemPlace}
    (h : DataW.trod enc Tryz.prog w base sp held fuel 3 l = some y) : ∃ n, l = [.int .i64 n] ∧ y = (.lit (.int .i64 n), []) ∧ (Lit.int .i64 n).wf = true :=
  DataW.trod_int Tryz.underlying3 h
theorem addr_add (b o : Nat) (j : Nat) : (⟨b, o, none⟩ : Addr).add j = ⟨b, o + j, none⟩ := by
  unfold Addr.add; by_cases h : j = 0 <;> simp [h]
theorem ints_open {H : Type} {enc : TypeId × Value → H} {w : World} {base : Nat} {sp : Nat → Bool} {held : Bool} {fuel : Nat} {l : List Value} {y : DataW H × List MemPlace}
    (h : DataW.trod enc Tryz.prog w base sp held fuel 30 l = some y) : ∃ v zs, l = [v] ∧ IntsAt w w.heap.size v zs := by
  rcases open_ints Tryz.underlying30 Tryz.underlying3 (by kernel_rfl) h with ⟨rfl, _⟩ | ⟨x, len, cap, zs, rfl, _, hl, hm, hz, _, hcell, _⟩
  · exact ⟨_, [], rfl, none, 0, rfl, Nat.le_refl _, Nat.zero_le _, fun h => absurd rfl h⟩
  · have hlz : len ≤ zs.length := by rw [hz]; split <;> omega
    have hlt : (zs.take len).length = len := by rw [List.length_take]; omega
    refine ⟨_, zs.take len, rfl, some x, cap, by rw [hlt], by rw [hlt]; exact hl, hm, fun hne => ?_⟩
    have h0 : 0 < len := by
      rcases Nat.eq_zero_or_pos len with h | h
      · rw [h] at hne; exact absurd rfl hne
      · exact h
    obtain ⟨ab, ao, spot⟩ := x
    have hc0 := hcell 0 (by omega)
    have hspot : spot = none := by simpa [Addr.add] using World.cell?_spot hc0
    subst hspot
    refine ⟨ab, ao, rfl, World.block_lt_of_cell? w _ hc0, fun j hj => ?_⟩
    rw [hlt] at hj
    have hcj := hcell j (by omega)
    rw [addr_add] at hcj
    rw [hcj]
    congr 2
    rw [List.getD_eq_getElem?_getD, List.getD_eq_getElem?_getD, List.getElem?_take, if_pos hj]
end Go.Proofs.YtonnegkpjmhomaaGreatDoor
end
