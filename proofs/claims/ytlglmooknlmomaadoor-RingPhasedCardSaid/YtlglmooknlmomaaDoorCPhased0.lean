import Derived.Test.YtlglmooknlmomaaDoorC18
set_option linter.all false
section
namespace Go.Proofs.YtlglmooknlmomaaDoor
open Go.RowKit
set_option maxHeartbeats 1000000 in
theorem into_ok (n : Int) (i : Fin 8) (h : (n % 8).toNat = i.val) (w : World) : Calls Tryd.prog 41 #[.int .i64 n, .int .i64 8] w fun e w' => e = .returned (.int .i64 (i.val : Int)) ∧ w = w' := by
  obtain ⟨r, e1, r0, r1⟩ : ∃ r, Int.tmod n 8 = r ∧ -8 < r ∧ r < 8 := by
    refine ⟨_, rfl, ?_⟩
    rcases Int.le_total 0 n with h0 | h0
    · rw [Int.tmod_eq_emod_of_nonneg h0]; omega
    · obtain ⟨m, rfl⟩ : ∃ m, n = -m := ⟨-n, by omega⟩
      rw [Int.neg_tmod, Int.tmod_eq_emod_of_nonneg (by omega)]; omega
  have e2 : Int.tmod (r + 8) 8 = (i.val : Int) := by
    rw [Int.tmod_eq_emod_of_nonneg (by omega)]
    have := Int.mul_tdiv_add_tmod n 8
    omega
  have e3 : (r + 8) % 8 = (i.val : Int) := by rw [← Int.tmod_eq_emod_of_nonneg (by omega)]; exact e2
  have H := Lib.hid h
  clear h
  go_enter Tryd.func41, Tryd.ntmps41
  go_wp2
  go_ret
  exact ⟨rfl, rfl⟩
end Go.Proofs.YtlglmooknlmomaaDoor
end
