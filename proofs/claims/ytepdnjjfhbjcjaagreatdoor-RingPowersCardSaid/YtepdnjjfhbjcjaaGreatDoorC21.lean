import Derived.Test.YtepdnjjfhbjcjaaGreatDoorC20
set_option linter.all false
section
namespace Go.Proofs.YtepdnjjfhbjcjaaGreatDoor
open Go.RowKit Inj
set_option maxRecDepth 100000
theorem aw1 : ring_Least.f 2 0 0 0 2 = some (1, 0, 0, 0, 0, 0) := by decide
theorem aw2 : ring_Least.f 1 0 1 0 1 = some (0, 1, 0, 0, 0, 0) := by decide
theorem aw3 : ring_Omega.f 7 = some (0, 0, 0, -1, 0) := by decide
theorem aw4 : ring_Mul.f 0 1 0 0 0 0 0 0 (-1) 0 = some (1, 0, 0, 0, 0, 0) := by decide
theorem aw5 : ring_Dot.f 1 0 0 0 1 = some (-1, 0, 0, 0, 1, 0) := by decide
theorem aw6 : ring_Norm.f 1 1 0 0 0 = some (2, 1, 0, -1, 0, 0) := by decide
theorem aw7 : ring_Less.f 2 (-1) 0 1 0 1 0 0 0 0 = some (true, 0) := by decide
theorem aw8 : ring_Less.f 2 (-1) 0 1 0 1 0 0 0 2 = some (false, 0) := by decide
theorem aw9 : ring_Divide.f 1 0 0 0 0 1 1 0 0 0 = some (0, 1, -1, 0, 1, 0) := by decide
theorem aw10 : ring_Divide.f 1 0 0 0 0 3 0 0 0 0 = some (0, 0, 0, 0, 0, 6) := by decide
theorem aw11 : ring_Phase.f 0 0 1 0 0 0 (-1) 0 0 0 = some (5, 0) := by decide
theorem itoa_small (n : Nat) (h : n < 10) : Lib.itoa (n : Int) = [UInt8.ofNat (48 + n)] := by
  unfold Lib.itoa; rw [if_neg (by omega), Int.toNat_natCast, Lib.decDigits_one h]
theorem itoa_m2 : Lib.itoa (-2) = [45, 50] := by
  unfold Lib.itoa; rw [if_pos (by omega)]; show 45 :: Lib.decDigits 2 = _; rw [Lib.decDigits_one (by omega)]; rfl
theorem text_12 : textB ⟨⟨0, 1, -2, -1⟩, 0⟩ = [119, 45, 50, 119, 50, 45, 119, 51] := by
  have h : termsN ⟨0, 1, -2, -1⟩ 4 = [119, 45, 50, 119, 50, 45, 119, 51] := by
    simp [termsN, termB, coef, itoa_m2, unitB]
  unfold textB
  rw [h]
  rfl
theorem text_13 : textB ⟨⟨1, 0, 0, 0⟩, 1⟩ = [40, 49, 41, 47, 114, 49] := by
  have e : Lib.itoa 1 = [49] := itoa_small 1 (by omega)
  have h : termsN ⟨1, 0, 0, 0⟩ 4 = [49] := by
    simp [termsN, termB, coef, e, unitB]
  unfold textB
  rw [h]
  dsimp only
  rw [e]
  rfl
theorem aw12 : ring_Print.f 0 1 (-2) (-1) 0 = some (⟨#[119, 45, 50, 119, 50, 45, 119, 51]⟩, 0) := by
  have h : sPrint (mkN 0 1 (-2) (-1) 0) = ([119, 45, 50, 119, 50, 45, 119, 51], 0) := by
    unfold sPrint
    rw [if_pos (by decide)]
    show (textB ⟨⟨0, 1, -2, -1⟩, 0⟩, (0 : Int)) = _
    rw [text_12]
  unfold ring_Print.f
  rw [h]; rfl
theorem aw13 : ring_Parse.f ⟨#[40, 49, 41, 47, 114, 49]⟩ = some (1, 0, 0, 0, 1, 0) := by
  have h : sParse [40, 49, 41, 47, 114, 49] = (⟨⟨1, 0, 0, 0⟩, 1⟩, 0) := by
    rw [← text_13]
    exact sParse_text ⟨by decide, rfl⟩
  unfold ring_Parse.f
  rw [if_pos (by decide)]
  show some (flatN (sParse [40, 49, 41, 47, 114, 49])) = _
  rw [h]
  rfl
theorem awake_pure : Go.Proofs.YtepdnjjfhbjcjaaGreatDoorPA.spoondriftlaw01_awake.f = some true := by
  unfold Go.Proofs.YtepdnjjfhbjcjaaGreatDoorPA.spoondriftlaw01_awake.f
  simp only [Go.Proofs.YtepdnjjfhbjcjaaGreatDoorPA.spoondriftlaw01_num.f, Option.bind_some, aw1, aw2, aw3, aw4, aw5, aw6, aw7, aw8, aw9, aw10, aw11, aw12, aw13]
  have e : (⟨#[119, 45, 50, 119, 50, 45, 119, 51]⟩ : ByteArray).toList = [119, 45, 50, 119, 50, 45, 119, 51] := by rw [ByteArray.toList_eq]
  simp [e]
namespace Inj
def spoondriftlaw01_awake.f : Option Bool := some true
theorem spoondriftlaw01_awake.calls (r : Bool) (w : World) (h : spoondriftlaw01_awake.f = some r) (ht : Tabs w) :
    Calls Tryz.prog 5 #[] w fun e w' => e = .returned (.bool r) ∧ Below w.heap.size w w' := by
  obtain rfl := Option.some.inj h
  exact Go.Proofs.YtepdnjjfhbjcjaaGreatDoorPA.spoondriftlaw01_awake.calls w awake_pure ht
end Inj
end Go.Proofs.YtepdnjjfhbjcjaaGreatDoor
end
