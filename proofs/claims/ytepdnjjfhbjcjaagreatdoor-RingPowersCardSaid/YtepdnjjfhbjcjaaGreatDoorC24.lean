import Derived.Test.YtepdnjjfhbjcjaaGreatDoorC11
import Derived.Test.YtepdnjjfhbjcjaaGreatDoorC22
import Derived.Test.YtepdnjjfhbjcjaaGreatDoorC23
set_option linter.all false
section
namespace Go.Proofs.YtepdnjjfhbjcjaaGreatDoor
open Go.RowKit
namespace Inj
def ring_Root.f (a0 : Int) : Option (Int × Int × Int × Int × Int × Int) := some (flatN (sRoot a0))
theorem ring_Root.calls (a0 r1 r2 r3 r4 r5 r6 : Int) (w : World) (h : ring_Root.f a0 = some (r1, r2, r3, r4, r5, r6)) :
    Calls Tryz.prog 9 #[.int .i64 a0] w fun e w' => e = .returned (.tuple #[.agg #[.int .i64 r1, .int .i64 r2, .int .i64 r3, .int .i64 r4, .int .i64 r5], .int .i64 r6]) ∧ Below w.heap.size w w' := by
  have h2 := Option.some.inj h
  simp only [flatN, Prod.mk.injEq] at h2
  obtain ⟨rfl, rfl, rfl, rfl, rfl, rfl⟩ := h2
  exact Root_calls a0 w
def ring_Power.f (a0_0 a0_1 a0_2 a0_3 a0_4 a1 : Int) : Option (Int × Int × Int × Int × Int × Int) := some (flatN (sPower (mkN a0_0 a0_1 a0_2 a0_3 a0_4) a1))
theorem ring_Power.calls (a0_0 a0_1 a0_2 a0_3 a0_4 a1 r1 r2 r3 r4 r5 r6 : Int) (w : World) (h : ring_Power.f a0_0 a0_1 a0_2 a0_3 a0_4 a1 = some (r1, r2, r3, r4, r5, r6)) :
    Calls Tryz.prog 10 #[.agg #[.int .i64 a0_0, .int .i64 a0_1, .int .i64 a0_2, .int .i64 a0_3, .int .i64 a0_4], .int .i64 a1] w fun e w' => e = .returned (.tuple #[.agg #[.int .i64 r1, .int .i64 r2, .int .i64 r3, .int .i64 r4, .int .i64 r5], .int .i64 r6]) ∧ Below w.heap.size w w' := by
  refine (Power_calls (mkN a0_0 a0_1 a0_2 a0_3 a0_4) a1 w).mono ?_
  rintro e w' ⟨y, er, rfl, hy, hb⟩
  have h2 : flatN (y, er) = (r1, r2, r3, r4, r5, r6) := by rw [← hy]; exact Option.some.inj h
  simp only [flatN, Prod.mk.injEq] at h2
  obtain ⟨rfl, rfl, rfl, rfl, rfl, rfl⟩ := h2
  exact ⟨rfl, hb⟩
end Inj
end Go.Proofs.YtepdnjjfhbjcjaaGreatDoor
end
