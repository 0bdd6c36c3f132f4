import Derived.Test.YtlglmooknlmomaaDoorC12
import Derived.Test.YtlglmooknlmomaaDoorC15
set_option linter.all false
section
namespace Go.Proofs.YtlglmooknlmomaaDoor
open Go.ChangeShapes Go.WideShapes Go.ChangeAt Go.RowKit
set_option maxRecDepth 100000
theorem open_u8s {H : Type} {enc : TypeId × Value → H} {W : World} {base b0 : Nat} {sp : Nat → Bool} {held : Bool} {r : Reach} {v : Value} {d : DataW H} {p : List MemPlace}
    (hval : Value.okWide Tryd.prog W r b0 37 v) (h : DataW.Trod enc Tryd.prog W base sp held 37 v d p) :
    ∃ (a : Option Addr) (n c : Nat), v = .slice a n c ∧ BytesAt W a n ∧ (a = none → n = 0) ∧ n ≤ c ∧ n ≤ maxLen := by
  obtain ⟨a1, len, cap, rfl⟩ := okWide_slice Tryd.underlying37 hval
  obtain ⟨fuel, hf⟩ := h
  refine ⟨a1, len, cap, rfl, ?_⟩
  rcases open_ints Tryd.underlying37 Tryd.underlying5 (by kernel_rfl) hf with ⟨hcs, _⟩ | ⟨x, l, c, zs, hcs, _, hl, hm, hz, _, hcell, hwz⟩
  · simp [Value.cells] at hcs
    obtain ⟨rfl, rfl, rfl⟩ := hcs
    exact ⟨.inl rfl, fun _ => rfl, Nat.le_refl _, Nat.zero_le _⟩
  · simp [Value.cells] at hcs
    obtain ⟨rfl, rfl, rfl⟩ := hcs
    refine ⟨?_, (fun e => nomatch e), hl, by omega⟩
    by_cases h0 : len = 0
    · exact .inl h0
    have hz2 : len ≤ zs.length := by split at hz <;> omega
    obtain ⟨ab, ao, spot⟩ := x
    have hspot : spot = none := by simpa [Addr.add] using World.cell?_spot (hcell 0 (by omega))
    subst hspot
    refine .inr ⟨ab, ao, rfl, fun j hj => ?_⟩
    have hcj := hcell j (by omega)
    rw [Addr.add_lit] at hcj
    have hb := range_u8 hwz j
    exact ⟨zs.getD j 0, hb.1, hb.2, hcj⟩
end Go.Proofs.YtlglmooknlmomaaDoor
end
