import Derived.Test.YtlglmooknlmomaaDoorBTexts0
import Derived.Test.YtlglmooknlmomaaDoorBTexts1
import Derived.Test.YtlglmooknlmomaaDoorBTexts2
set_option linter.all false
section
namespace Go.Proofs.YtlglmooknlmomaaDoorPR
open Go.RowKit Go.Proofs.YtlglmooknlmomaaDoor.Inj Go.Proofs.YtlglmooknlmomaaDoorW.PrintWords Go.Proofs.YtlglmooknlmomaaDoorW.PrintLast Go.Proofs.YtlglmooknlmomaaDoorW.PrintMore
attribute [local go_sem] max2_int min2_int max_two min_two max_three min_three max_four min_four
set_option linter.unusedVariables false
set_option linter.unusedSimpArgs false
attribute [local go_sem high] eqA23
mutual
def spoondriftref01_Parse.j0 : Nat → ByteArray → Int → Bool → Int → Int → Int → Int → Int → Option (Int × Int × Int × Int × Int × Int)
  | 0, _, _, _, _, _, _, _, _ => none
  | k + 1, x0, x5, x17, x230000, x230001, x230002, x230003, x230004 => if x17 = true then (spoondriftref01_Parse.j1 k x0 1 x230000 x230001 x230002 x230003 x230004) else (spoondriftref01_Parse.j1 k x0 x5 x230000 x230001 x230002 x230003 x230004)
def spoondriftref01_Parse.j1 : Nat → ByteArray → Int → Int → Int → Int → Int → Int → Option (Int × Int × Int × Int × Int × Int)
  | 0, _, _, _, _, _, _, _ => none
  | k + 1, x0, x5, x230000, x230001, x230002, x230003, x230004 => spoondriftref01_Parse.l0 k x0 x5 x230000 x230001 x230002 x230003 x230004
def spoondriftref01_Parse.l0 : Nat → ByteArray → Int → Int → Int → Int → Int → Int → Option (Int × Int × Int × Int × Int × Int)
  | 0, _, _, _, _, _, _, _ => none
  | k + 1, x0, x5, x230000, x230001, x230002, x230003, x230004 => if x5 < (x0.size : Int) then (if 0 ≤ x5 then (spoondriftref01_Parse.j3 k x0 x5 ((bt x0 x5) != 41) x230000 x230001 x230002 x230003 x230004) else (none)) else (spoondriftref01_Parse.j3 k x0 x5 false x230000 x230001 x230002 x230003 x230004)
def spoondriftref01_Parse.j3 : Nat → ByteArray → Int → Bool → Int → Int → Int → Int → Int → Option (Int × Int × Int × Int × Int × Int)
  | 0, _, _, _, _, _, _, _, _ => none
  | k + 1, x0, x5, x27, x230000, x230001, x230002, x230003, x230004 => if x27 = true then (if 0 ≤ x5 then (if x5 < (x0.size : Int) then (if (bt x0 x5) = 45 then (spoondriftref01_Parse.j4 k x0 x5 (-1) x5 x230000 x230001 x230002 x230003 x230004) else (spoondriftref01_Parse.j4 k x0 x5 1 x5 x230000 x230001 x230002 x230003 x230004)) else (none)) else (none)) else (if (wrap64 (x5 + 2)) < (x0.size : Int) then ((spoondriftref01_number.f k x0 (wrap64 (x5 + 3))).bind fun bt232 => (spoondriftref01_Parse.j10 k x0 x230000 x230001 x230002 x230003 bt232.1)) else (spoondriftref01_Parse.j10 k x0 x230000 x230001 x230002 x230003 x230004))
def spoondriftref01_Parse.j4 : Nat → ByteArray → Int → Int → Int → Int → Int → Int → Int → Int → Option (Int × Int × Int × Int × Int × Int)
  | 0, _, _, _, _, _, _, _, _, _ => none
  | k + 1, x0, x5, x6, x7, x230000, x230001, x230002, x230003, x230004 => if 0 ≤ x5 then (if x5 < (x0.size : Int) then (if (bt x0 x5) = 45 then (spoondriftref01_Parse.j5 k x0 x5 x6 x7 true x230000 x230001 x230002 x230003 x230004) else (spoondriftref01_Parse.j5 k x0 x5 x6 x7 ((bt x0 x5) == 43) x230000 x230001 x230002 x230003 x230004)) else (none)) else (none)
def spoondriftref01_Parse.j5 : Nat → ByteArray → Int → Int → Int → Bool → Int → Int → Int → Int → Int → Option (Int × Int × Int × Int × Int × Int)
  | 0, _, _, _, _, _, _, _, _, _, _ => none
  | k + 1, x0, x5, x6, x7, x42, x230000, x230001, x230002, x230003, x230004 => if x42 = true then (spoondriftref01_Parse.j6 k x0 (wrap64 (x5 + 1)) x6 x7 x230000 x230001 x230002 x230003 x230004) else (spoondriftref01_Parse.j6 k x0 x5 x6 x7 x230000 x230001 x230002 x230003 x230004)
def spoondriftref01_Parse.j6 : Nat → ByteArray → Int → Int → Int → Int → Int → Int → Int → Int → Option (Int × Int × Int × Int × Int × Int)
  | 0, _, _, _, _, _, _, _, _, _ => none
  | k + 1, x0, x5, x6, x7, x230000, x230001, x230002, x230003, x230004 => (spoondriftref01_number.f k x0 x5).bind fun bt230 => (if bt230.2 = x5 then (spoondriftref01_Parse.j7 k x0 x6 x7 1 bt230.2 x230000 x230001 x230002 x230003 x230004) else (spoondriftref01_Parse.j7 k x0 x6 x7 bt230.1 bt230.2 x230000 x230001 x230002 x230003 x230004))
def spoondriftref01_Parse.j7 : Nat → ByteArray → Int → Int → Int → Int → Int → Int → Int → Int → Int → Option (Int × Int × Int × Int × Int × Int)
  | 0, _, _, _, _, _, _, _, _, _, _ => none
  | k + 1, x0, x6, x7, x8, x9, x230000, x230001, x230002, x230003, x230004 => if x9 < (x0.size : Int) then (if 0 ≤ x9 then (spoondriftref01_Parse.j8 k x0 x9 x6 x7 x8 0 ((bt x0 x9) == 119) x230000 x230001 x230002 x230003 x230004) else (none)) else (spoondriftref01_Parse.j8 k x0 x9 x6 x7 x8 0 false x230000 x230001 x230002 x230003 x230004)
def spoondriftref01_Parse.j8 : Nat → ByteArray → Int → Int → Int → Int → Int → Bool → Int → Int → Int → Int → Int → Option (Int × Int × Int × Int × Int × Int)
  | 0, _, _, _, _, _, _, _, _, _, _, _, _ => none
  | k + 1, x0, x5, x6, x7, x8, x10, x64, x230000, x230001, x230002, x230003, x230004 => if x64 = true then (if (wrap64 (x5 + 1)) < (x0.size : Int) then (if 0 ≤ (wrap64 (x5 + 1)) then (if (bt x0 (wrap64 (x5 + 1))) = 50 then (spoondriftref01_Parse.j9 k x0 (wrap64 ((wrap64 (x5 + 1)) + 1)) x6 x7 x8 (((bt x0 (wrap64 (x5 + 1))) - 48) % 256) x230000 x230001 x230002 x230003 x230004) else (if (bt x0 (wrap64 (x5 + 1))) = 51 then (spoondriftref01_Parse.j9 k x0 (wrap64 ((wrap64 (x5 + 1)) + 1)) x6 x7 x8 (((bt x0 (wrap64 (x5 + 1))) - 48) % 256) x230000 x230001 x230002 x230003 x230004) else (spoondriftref01_Parse.j9 k x0 (wrap64 (x5 + 1)) x6 x7 x8 1 x230000 x230001 x230002 x230003 x230004))) else (none)) else (spoondriftref01_Parse.j9 k x0 (wrap64 (x5 + 1)) x6 x7 x8 1 x230000 x230001 x230002 x230003 x230004)) else (spoondriftref01_Parse.j9 k x0 x5 x6 x7 x8 x10 x230000 x230001 x230002 x230003 x230004)
def spoondriftref01_Parse.j9 : Nat → ByteArray → Int → Int → Int → Int → Int → Int → Int → Int → Int → Int → Option (Int × Int × Int × Int × Int × Int)
  | 0, _, _, _, _, _, _, _, _, _, _, _ => none
  | k + 1, x0, x5, x6, x7, x8, x10, x230000, x230001, x230002, x230003, x230004 => if x5 = x7 then (some (0, 0, 0, 0, 0, 4)) else (if x10 = 0 then (spoondriftref01_Parse.l0 k x0 x5 (wrap64 (x6 * x8)) x230001 x230002 x230003 x230004) else (if x10 = 1 then (spoondriftref01_Parse.l0 k x0 x5 x230000 (wrap64 (x6 * x8)) x230002 x230003 x230004) else (if x10 = 2 then (spoondriftref01_Parse.l0 k x0 x5 x230000 x230001 (wrap64 (x6 * x8)) x230003 x230004) else (spoondriftref01_Parse.l0 k x0 x5 x230000 x230001 x230002 (wrap64 (x6 * x8)) x230004))))
def spoondriftref01_Parse.j10 : Nat → ByteArray → Int → Int → Int → Int → Int → Option (Int × Int × Int × Int × Int × Int)
  | 0, _, _, _, _, _, _ => none
  | k + 1, x0, x230000, x230001, x230002, x230003, x230004 => (spoondriftref01_Check.f k x230000 x230001 x230002 x230003 x230004).bind fun t234 => (if t234 = 0 then ((spoondriftref01_Form.f k x230000 x230001 x230002 x230003 x230004).bind fun bt235 => (if (!(bt235.1 == x230000) || (!(bt235.2.1 == x230001) || (!(bt235.2.2.1 == x230002) || (!(bt235.2.2.2.1 == x230003) || (!(bt235.2.2.2.2 == x230004)))))) = true then (some (0, 0, 0, 0, 0, 4)) else ((spoondriftref01_text.f k x230000 x230001 x230002 x230003 x230004).bind fun t240 => (if t240.toList = x0.toList then (some (x230000, x230001, x230002, x230003, x230004, 0)) else (some (0, 0, 0, 0, 0, 4)))))) else (some (0, 0, 0, 0, 0, 4)))
end
def spoondriftref01_Parse.f (k : Nat) (a0 : ByteArray) : Option (Int × Int × Int × Int × Int × Int) := if a0.toList = ([] : List UInt8) then (spoondriftref01_Parse.j0 k a0 0 false 0 0 0 0 0) else (if 0 < (a0.size : Int) then (spoondriftref01_Parse.j0 k a0 0 ((bt a0 0) == 40) 0 0 0 0 0) else (none))
theorem spoondriftref01_Parse.mono_l : ∀ k, (∀ y0 y1 y2 y3 y4 y5 y6 y7, LeO (spoondriftref01_Parse.j0 k y0 y1 y2 y3 y4 y5 y6 y7) (spoondriftref01_Parse.j0 (k + 1) y0 y1 y2 y3 y4 y5 y6 y7)) ∧ (∀ y0 y1 y2 y3 y4 y5 y6, LeO (spoondriftref01_Parse.j1 k y0 y1 y2 y3 y4 y5 y6) (spoondriftref01_Parse.j1 (k + 1) y0 y1 y2 y3 y4 y5 y6)) ∧ (∀ y0 y1 y2 y3 y4 y5 y6, LeO (spoondriftref01_Parse.l0 k y0 y1 y2 y3 y4 y5 y6) (spoondriftref01_Parse.l0 (k + 1) y0 y1 y2 y3 y4 y5 y6)) ∧ (∀ y0 y1 y2 y3 y4 y5 y6 y7, LeO (spoondriftref01_Parse.j3 k y0 y1 y2 y3 y4 y5 y6 y7) (spoondriftref01_Parse.j3 (k + 1) y0 y1 y2 y3 y4 y5 y6 y7)) ∧ (∀ y0 y1 y2 y3 y4 y5 y6 y7 y8, LeO (spoondriftref01_Parse.j4 k y0 y1 y2 y3 y4 y5 y6 y7 y8) (spoondriftref01_Parse.j4 (k + 1) y0 y1 y2 y3 y4 y5 y6 y7 y8)) ∧ (∀ y0 y1 y2 y3 y4 y5 y6 y7 y8 y9, LeO (spoondriftref01_Parse.j5 k y0 y1 y2 y3 y4 y5 y6 y7 y8 y9) (spoondriftref01_Parse.j5 (k + 1) y0 y1 y2 y3 y4 y5 y6 y7 y8 y9)) ∧ (∀ y0 y1 y2 y3 y4 y5 y6 y7 y8, LeO (spoondriftref01_Parse.j6 k y0 y1 y2 y3 y4 y5 y6 y7 y8) (spoondriftref01_Parse.j6 (k + 1) y0 y1 y2 y3 y4 y5 y6 y7 y8)) ∧ (∀ y0 y1 y2 y3 y4 y5 y6 y7 y8 y9, LeO (spoondriftref01_Parse.j7 k y0 y1 y2 y3 y4 y5 y6 y7 y8 y9) (spoondriftref01_Parse.j7 (k + 1) y0 y1 y2 y3 y4 y5 y6 y7 y8 y9)) ∧ (∀ y0 y1 y2 y3 y4 y5 y6 y7 y8 y9 y10 y11, LeO (spoondriftref01_Parse.j8 k y0 y1 y2 y3 y4 y5 y6 y7 y8 y9 y10 y11) (spoondriftref01_Parse.j8 (k + 1) y0 y1 y2 y3 y4 y5 y6 y7 y8 y9 y10 y11)) ∧ (∀ y0 y1 y2 y3 y4 y5 y6 y7 y8 y9 y10, LeO (spoondriftref01_Parse.j9 k y0 y1 y2 y3 y4 y5 y6 y7 y8 y9 y10) (spoondriftref01_Parse.j9 (k + 1) y0 y1 y2 y3 y4 y5 y6 y7 y8 y9 y10)) ∧ (∀ y0 y1 y2 y3 y4 y5, LeO (spoondriftref01_Parse.j10 k y0 y1 y2 y3 y4 y5) (spoondriftref01_Parse.j10 (k + 1) y0 y1 y2 y3 y4 y5))
  | 0 => ⟨fun _ _ _ _ _ _ _ _ r h => by simp [spoondriftref01_Parse.j0] at h, fun _ _ _ _ _ _ _ r h => by simp [spoondriftref01_Parse.j1] at h, fun _ _ _ _ _ _ _ r h => by simp [spoondriftref01_Parse.l0] at h, fun _ _ _ _ _ _ _ _ r h => by simp [spoondriftref01_Parse.j3] at h, fun _ _ _ _ _ _ _ _ _ r h => by simp [spoondriftref01_Parse.j4] at h, fun _ _ _ _ _ _ _ _ _ _ r h => by simp [spoondriftref01_Parse.j5] at h, fun _ _ _ _ _ _ _ _ _ r h => by simp [spoondriftref01_Parse.j6] at h, fun _ _ _ _ _ _ _ _ _ _ r h => by simp [spoondriftref01_Parse.j7] at h, fun _ _ _ _ _ _ _ _ _ _ _ _ r h => by simp [spoondriftref01_Parse.j8] at h, fun _ _ _ _ _ _ _ _ _ _ _ r h => by simp [spoondriftref01_Parse.j9] at h, fun _ _ _ _ _ _ r h => by simp [spoondriftref01_Parse.j10] at h⟩
  | k + 1 => by
    obtain ⟨ih0, ih1, ih2, ih3, ih4, ih5, ih6, ih7, ih8, ih9, ih10⟩ := spoondriftref01_Parse.mono_l k
    refine ⟨?_, ?_, ?_, ?_, ?_, ?_, ?_, ?_, ?_, ?_, ?_⟩
    · intro y0 y1 y2 y3 y4 y5 y6 y7
      unfold spoondriftref01_Parse.j0
      repeat' first
      | (with_reducible exact ih0 _ _ _ _ _ _ _ _)
      | (with_reducible exact ih1 _ _ _ _ _ _ _)
      | (with_reducible exact ih2 _ _ _ _ _ _ _)
      | (with_reducible exact ih3 _ _ _ _ _ _ _ _)
      | (with_reducible exact ih4 _ _ _ _ _ _ _ _ _)
      | (with_reducible exact ih5 _ _ _ _ _ _ _ _ _ _)
      | (with_reducible exact ih6 _ _ _ _ _ _ _ _ _)
      | (with_reducible exact ih7 _ _ _ _ _ _ _ _ _ _)
      | (with_reducible exact ih8 _ _ _ _ _ _ _ _ _ _ _ _)
      | (with_reducible exact ih9 _ _ _ _ _ _ _ _ _ _ _)
      | (with_reducible exact ih10 _ _ _ _ _ _)
      | (with_reducible exact spoondriftref01_Check.mono _ _ _ _ _ _)
      | (with_reducible exact spoondriftref01_Form.mono _ _ _ _ _ _)
      | (with_reducible exact spoondriftref01_number.mono _ _ _)
      | (with_reducible exact spoondriftref01_text.mono _ _ _ _ _ _)
      | (with_reducible exact LeO.refl _)
      | (with_reducible exact LeO.none _)
      | (with_reducible refine LeO.ite ?_ ?_)
      | (with_reducible refine LeO.bind ?_ (fun _ => ?_))
      | exact ih0 _ _ _ _ _ _ _ _
      | exact ih1 _ _ _ _ _ _ _
      | exact ih2 _ _ _ _ _ _ _
      | exact ih3 _ _ _ _ _ _ _ _
      | exact ih4 _ _ _ _ _ _ _ _ _
      | exact ih5 _ _ _ _ _ _ _ _ _ _
      | exact ih6 _ _ _ _ _ _ _ _ _
      | exact ih7 _ _ _ _ _ _ _ _ _ _
      | exact ih8 _ _ _ _ _ _ _ _ _ _ _ _
      | exact ih9 _ _ _ _ _ _ _ _ _ _ _
      | exact ih10 _ _ _ _ _ _
      | exact spoondriftref01_Check.mono _ _ _ _ _ _
      | exact spoondriftref01_Form.mono _ _ _ _ _ _
      | exact spoondriftref01_number.mono _ _ _
      | exact spoondriftref01_text.mono _ _ _ _ _ _
      | exact LeO.none _
      | refine LeO.ite ?_ ?_
      | refine LeO.bind ?_ (fun _ => ?_)
    · intro y0 y1 y2 y3 y4 y5 y6
      unfold spoondriftref01_Parse.j1
      repeat' first
      | (with_reducible exact ih0 _ _ _ _ _ _ _ _)
      | (with_reducible exact ih1 _ _ _ _ _ _ _)
      | (with_reducible exact ih2 _ _ _ _ _ _ _)
      | (with_reducible exact ih3 _ _ _ _ _ _ _ _)
      | (with_reducible exact ih4 _ _ _ _ _ _ _ _ _)
      | (with_reducible exact ih5 _ _ _ _ _ _ _ _ _ _)
      | (with_reducible exact ih6 _ _ _ _ _ _ _ _ _)
      | (with_reducible exact ih7 _ _ _ _ _ _ _ _ _ _)
      | (with_reducible exact ih8 _ _ _ _ _ _ _ _ _ _ _ _)
      | (with_reducible exact ih9 _ _ _ _ _ _ _ _ _ _ _)
      | (with_reducible exact ih10 _ _ _ _ _ _)
      | (with_reducible exact spoondriftref01_Check.mono _ _ _ _ _ _)
      | (with_reducible exact spoondriftref01_Form.mono _ _ _ _ _ _)
      | (with_reducible exact spoondriftref01_number.mono _ _ _)
      | (with_reducible exact spoondriftref01_text.mono _ _ _ _ _ _)
      | (with_reducible exact LeO.refl _)
      | (with_reducible exact LeO.none _)
      | (with_reducible refine LeO.ite ?_ ?_)
      | (with_reducible refine LeO.bind ?_ (fun _ => ?_))
      | exact ih0 _ _ _ _ _ _ _ _
      | exact ih1 _ _ _ _ _ _ _
      | exact ih2 _ _ _ _ _ _ _
      | exact ih3 _ _ _ _ _ _ _ _
      | exact ih4 _ _ _ _ _ _ _ _ _
      | exact ih5 _ _ _ _ _ _ _ _ _ _
      | exact ih6 _ _ _ _ _ _ _ _ _
      | exact ih7 _ _ _ _ _ _ _ _ _ _
      | exact ih8 _ _ _ _ _ _ _ _ _ _ _ _
      | exact ih9 _ _ _ _ _ _ _ _ _ _ _
      | exact ih10 _ _ _ _ _ _
      | exact spoondriftref01_Check.mono _ _ _ _ _ _
      | exact spoondriftref01_Form.mono _ _ _ _ _ _
      | exact spoondriftref01_number.mono _ _ _
      | exact spoondriftref01_text.mono _ _ _ _ _ _
      | exact LeO.none _
      | refine LeO.ite ?_ ?_
      | refine LeO.bind ?_ (fun _ => ?_)
    · intro y0 y1 y2 y3 y4 y5 y6
      unfold spoondriftref01_Parse.l0
      repeat' first
      | (with_reducible exact ih0 _ _ _ _ _ _ _ _)
      | (with_reducible exact ih1 _ _ _ _ _ _ _)
      | (with_reducible exact ih2 _ _ _ _ _ _ _)
      | (with_reducible exact ih3 _ _ _ _ _ _ _ _)
      | (with_reducible exact ih4 _ _ _ _ _ _ _ _ _)
      | (with_reducible exact ih5 _ _ _ _ _ _ _ _ _ _)
      | (with_reducible exact ih6 _ _ _ _ _ _ _ _ _)
      | (with_reducible exact ih7 _ _ _ _ _ _ _ _ _ _)
      | (with_reducible exact ih8 _ _ _ _ _ _ _ _ _ _ _ _)
      | (with_reducible exact ih9 _ _ _ _ _ _ _ _ _ _ _)
      | (with_reducible exact ih10 _ _ _ _ _ _)
      | (with_reducible exact spoondriftref01_Check.mono _ _ _ _ _ _)
      | (with_reducible exact spoondriftref01_Form.mono _ _ _ _ _ _)
      | (with_reducible exact spoondriftref01_number.mono _ _ _)
      | (with_reducible exact spoondriftref01_text.mono _ _ _ _ _ _)
      | (with_reducible exact LeO.refl _)
      | (with_reducible exact LeO.none _)
      | (with_reducible refine LeO.ite ?_ ?_)
      | (with_reducible refine LeO.bind ?_ (fun _ => ?_))
      | exact ih0 _ _ _ _ _ _ _ _
      | exact ih1 _ _ _ _ _ _ _
      | exact ih2 _ _ _ _ _ _ _
      | exact ih3 _ _ _ _ _ _ _ _
      | exact ih4 _ _ _ _ _ _ _ _ _
      | exact ih5 _ _ _ _ _ _ _ _ _ _
      | exact ih6 _ _ _ _ _ _ _ _ _
      | exact ih7 _ _ _ _ _ _ _ _ _ _
      | exact ih8 _ _ _ _ _ _ _ _ _ _ _ _
      | exact ih9 _ _ _ _ _ _ _ _ _ _ _
      | exact ih10 _ _ _ _ _ _
      | exact spoondriftref01_Check.mono _ _ _ _ _ _
      | exact spoondriftref01_Form.mono _ _ _ _ _ _
      | exact spoondriftref01_number.mono _ _ _
      | exact spoondriftref01_text.mono _ _ _ _ _ _
      | exact LeO.none _
      | refine LeO.ite ?_ ?_
      | refine LeO.bind ?_ (fun _ => ?_)
    · intro y0 y1 y2 y3 y4 y5 y6 y7
      unfold spoondriftref01_Parse.j3
      repeat' first
      | (with_reducible exact ih0 _ _ _ _ _ _ _ _)
      | (with_reducible exact ih1 _ _ _ _ _ _ _)
      | (with_reducible exact ih2 _ _ _ _ _ _ _)
      | (with_reducible exact ih3 _ _ _ _ _ _ _ _)
      | (with_reducible exact ih4 _ _ _ _ _ _ _ _ _)
      | (with_reducible exact ih5 _ _ _ _ _ _ _ _ _ _)
      | (with_reducible exact ih6 _ _ _ _ _ _ _ _ _)
      | (with_reducible exact ih7 _ _ _ _ _ _ _ _ _ _)
      | (with_reducible exact ih8 _ _ _ _ _ _ _ _ _ _ _ _)
      | (with_reducible exact ih9 _ _ _ _ _ _ _ _ _ _ _)
      | (with_reducible exact ih10 _ _ _ _ _ _)
      | (with_reducible exact spoondriftref01_Check.mono _ _ _ _ _ _)
      | (with_reducible exact spoondriftref01_Form.mono _ _ _ _ _ _)
      | (with_reducible exact spoondriftref01_number.mono _ _ _)
      | (with_reducible exact spoondriftref01_text.mono _ _ _ _ _ _)
      | (with_reducible exact LeO.refl _)
      | (with_reducible exact LeO.none _)
      | (with_reducible refine LeO.ite ?_ ?_)
      | (with_reducible refine LeO.bind ?_ (fun _ => ?_))
      | exact ih0 _ _ _ _ _ _ _ _
      | exact ih1 _ _ _ _ _ _ _
      | exact ih2 _ _ _ _ _ _ _
      | exact ih3 _ _ _ _ _ _ _ _
      | exact ih4 _ _ _ _ _ _ _ _ _
      | exact ih5 _ _ _ _ _ _ _ _ _ _
      | exact ih6 _ _ _ _ _ _ _ _ _
      | exact ih7 _ _ _ _ _ _ _ _ _ _
      | exact ih8 _ _ _ _ _ _ _ _ _ _ _ _
      | exact ih9 _ _ _ _ _ _ _ _ _ _ _
      | exact ih10 _ _ _ _ _ _
      | exact spoondriftref01_Check.mono _ _ _ _ _ _
      | exact spoondriftref01_Form.mono _ _ _ _ _ _
      | exact spoondriftref01_number.mono _ _ _
      | exact spoondriftref01_text.mono _ _ _ _ _ _
      | exact LeO.none _
      | refine LeO.ite ?_ ?_
      | refine LeO.bind ?_ (fun _ => ?_)
    · intro y0 y1 y2 y3 y4 y5 y6 y7 y8
      unfold spoondriftref01_Parse.j4
      repeat' first
      | (with_reducible exact ih0 _ _ _ _ _ _ _ _)
      | (with_reducible exact ih1 _ _ _ _ _ _ _)
      | (with_reducible exact ih2 _ _ _ _ _ _ _)
      | (with_reducible exact ih3 _ _ _ _ _ _ _ _)
      | (with_reducible exact ih4 _ _ _ _ _ _ _ _ _)
      | (with_reducible exact ih5 _ _ _ _ _ _ _ _ _ _)
      | (with_reducible exact ih6 _ _ _ _ _ _ _ _ _)
      | (with_reducible exact ih7 _ _ _ _ _ _ _ _ _ _)
      | (with_reducible exact ih8 _ _ _ _ _ _ _ _ _ _ _ _)
      | (with_reducible exact ih9 _ _ _ _ _ _ _ _ _ _ _)
      | (with_reducible exact ih10 _ _ _ _ _ _)
      | (with_reducible exact spoondriftref01_Check.mono _ _ _ _ _ _)
      | (with_reducible exact spoondriftref01_Form.mono _ _ _ _ _ _)
      | (with_reducible exact spoondriftref01_number.mono _ _ _)
      | (with_reducible exact spoondriftref01_text.mono _ _ _ _ _ _)
      | (with_reducible exact LeO.refl _)
      | (with_reducible exact LeO.none _)
      | (with_reducible refine LeO.ite ?_ ?_)
      | (with_reducible refine LeO.bind ?_ (fun _ => ?_))
      | exact ih0 _ _ _ _ _ _ _ _
      | exact ih1 _ _ _ _ _ _ _
      | exact ih2 _ _ _ _ _ _ _
      | exact ih3 _ _ _ _ _ _ _ _
      | exact ih4 _ _ _ _ _ _ _ _ _
      | exact ih5 _ _ _ _ _ _ _ _ _ _
      | exact ih6 _ _ _ _ _ _ _ _ _
      | exact ih7 _ _ _ _ _ _ _ _ _ _
      | exact ih8 _ _ _ _ _ _ _ _ _ _ _ _
      | exact ih9 _ _ _ _ _ _ _ _ _ _ _
      | exact ih10 _ _ _ _ _ _
      | exact spoondriftref01_Check.mono _ _ _ _ _ _
      | exact spoondriftref01_Form.mono _ _ _ _ _ _
      | exact spoondriftref01_number.mono _ _ _
      | exact spoondriftref01_text.mono _ _ _ _ _ _
      | exact LeO.none _
      | refine LeO.ite ?_ ?_
      | refine LeO.bind ?_ (fun _ => ?_)
    · intro y0 y1 y2 y3 y4 y5 y6 y7 y8 y9
      unfold spoondriftref01_Parse.j5
      repeat' first
      | (with_reducible exact ih0 _ _ _ _ _ _ _ _)
      | (with_reducible exact ih1 _ _ _ _ _ _ _)
      | (with_reducible exact ih2 _ _ _ _ _ _ _)
      | (with_reducible exact ih3 _ _ _ _ _ _ _ _)
      | (with_reducible exact ih4 _ _ _ _ _ _ _ _ _)
      | (with_reducible exact ih5 _ _ _ _ _ _ _ _ _ _)
      | (with_reducible exact ih6 _ _ _ _ _ _ _ _ _)
      | (with_reducible exact ih7 _ _ _ _ _ _ _ _ _ _)
      | (with_reducible exact ih8 _ _ _ _ _ _ _ _ _ _ _ _)
      | (with_reducible exact ih9 _ _ _ _ _ _ _ _ _ _ _)
      | (with_reducible exact ih10 _ _ _ _ _ _)
      | (with_reducible exact spoondriftref01_Check.mono _ _ _ _ _ _)
      | (with_reducible exact spoondriftref01_Form.mono _ _ _ _ _ _)
      | (with_reducible exact spoondriftref01_number.mono _ _ _)
      | (with_reducible exact spoondriftref01_text.mono _ _ _ _ _ _)
      | (with_reducible exact LeO.refl _)
      | (with_reducible exact LeO.none _)
      | (with_reducible refine LeO.ite ?_ ?_)
      | (with_reducible refine LeO.bind ?_ (fun _ => ?_))
      | exact ih0 _ _ _ _ _ _ _ _
      | exact ih1 _ _ _ _ _ _ _
      | exact ih2 _ _ _ _ _ _ _
      | exact ih3 _ _ _ _ _ _ _ _
      | exact ih4 _ _ _ _ _ _ _ _ _
      | exact ih5 _ _ _ _ _ _ _ _ _ _
      | exact ih6 _ _ _ _ _ _ _ _ _
      | exact ih7 _ _ _ _ _ _ _ _ _ _
      | exact ih8 _ _ _ _ _ _ _ _ _ _ _ _
      | exact ih9 _ _ _ _ _ _ _ _ _ _ _
      | exact ih10 _ _ _ _ _ _
      | exact spoondriftref01_Check.mono _ _ _ _ _ _
      | exact spoondriftref01_Form.mono _ _ _ _ _ _
      | exact spoondriftref01_number.mono _ _ _
      | exact spoondriftref01_text.mono _ _ _ _ _ _
      | exact LeO.none _
      | refine LeO.ite ?_ ?_
      | refine LeO.bind ?_ (fun _ => ?_)
    · intro y0 y1 y2 y3 y4 y5 y6 y7 y8
      unfold spoondriftref01_Parse.j6
      repeat' first
      | (with_reducible exact ih0 _ _ _ _ _ _ _ _)
      | (with_reducible exact ih1 _ _ _ _ _ _ _)
      | (with_reducible exact ih2 _ _ _ _ _ _ _)
      | (with_reducible exact ih3 _ _ _ _ _ _ _ _)
      | (with_reducible exact ih4 _ _ _ _ _ _ _ _ _)
      | (with_reducible exact ih5 _ _ _ _ _ _ _ _ _ _)
      | (with_reducible exact ih6 _ _ _ _ _ _ _ _ _)
      | (with_reducible exact ih7 _ _ _ _ _ _ _ _ _ _)
      | (with_reducible exact ih8 _ _ _ _ _ _ _ _ _ _ _ _)
      | (with_reducible exact ih9 _ _ _ _ _ _ _ _ _ _ _)
      | (with_reducible exact ih10 _ _ _ _ _ _)
      | (with_reducible exact spoondriftref01_Check.mono _ _ _ _ _ _)
      | (with_reducible exact spoondriftref01_Form.mono _ _ _ _ _ _)
      | (with_reducible exact spoondriftref01_number.mono _ _ _)
      | (with_reducible exact spoondriftref01_text.mono _ _ _ _ _ _)
      | (with_reducible exact LeO.refl _)
      | (with_reducible exact LeO.none _)
      | (with_reducible refine LeO.ite ?_ ?_)
      | (with_reducible refine LeO.bind ?_ (fun _ => ?_))
      | exact ih0 _ _ _ _ _ _ _ _
      | exact ih1 _ _ _ _ _ _ _
      | exact ih2 _ _ _ _ _ _ _
      | exact ih3 _ _ _ _ _ _ _ _
      | exact ih4 _ _ _ _ _ _ _ _ _
      | exact ih5 _ _ _ _ _ _ _ _ _ _
      | exact ih6 _ _ _ _ _ _ _ _ _
      | exact ih7 _ _ _ _ _ _ _ _ _ _
      | exact ih8 _ _ _ _ _ _ _ _ _ _ _ _
      | exact ih9 _ _ _ _ _ _ _ _ _ _ _
      | exact ih10 _ _ _ _ _ _
      | exact spoondriftref01_Check.mono _ _ _ _ _ _
      | exact spoondriftref01_Form.mono _ _ _ _ _ _
      | exact spoondriftref01_number.mono _ _ _
      | exact spoondriftref01_text.mono _ _ _ _ _ _
      | exact LeO.none _
      | refine LeO.ite ?_ ?_
      | refine LeO.bind ?_ (fun _ => ?_)
    · intro y0 y1 y2 y3 y4 y5 y6 y7 y8 y9
      unfold spoondriftref01_Parse.j7
      repeat' first
      | (with_reducible exact ih0 _ _ _ _ _ _ _ _)
      | (with_reducible exact ih1 _ _ _ _ _ _ _)
      | (with_reducible exact ih2 _ _ _ _ _ _ _)
      | (with_reducible exact ih3 _ _ _ _ _ _ _ _)
      | (with_reducible exact ih4 _ _ _ _ _ _ _ _ _)
      | (with_reducible exact ih5 _ _ _ _ _ _ _ _ _ _)
      | (with_reducible exact ih6 _ _ _ _ _ _ _ _ _)
      | (with_reducible exact ih7 _ _ _ _ _ _ _ _ _ _)
      | (with_reducible exact ih8 _ _ _ _ _ _ _ _ _ _ _ _)
      | (with_reducible exact ih9 _ _ _ _ _ _ _ _ _ _ _)
      | (with_reducible exact ih10 _ _ _ _ _ _)
      | (with_reducible exact spoondriftref01_Check.mono _ _ _ _ _ _)
      | (with_reducible exact spoondriftref01_Form.mono _ _ _ _ _ _)
      | (with_reducible exact spoondriftref01_number.mono _ _ _)
      | (with_reducible exact spoondriftref01_text.mono _ _ _ _ _ _)
      | (with_reducible exact LeO.refl _)
      | (with_reducible exact LeO.none _)
      | (with_reducible refine LeO.ite ?_ ?_)
      | (with_reducible refine LeO.bind ?_ (fun _ => ?_))
      | exact ih0 _ _ _ _ _ _ _ _
      | exact ih1 _ _ _ _ _ _ _
      | exact ih2 _ _ _ _ _ _ _
      | exact ih3 _ _ _ _ _ _ _ _
      | exact ih4 _ _ _ _ _ _ _ _ _
      | exact ih5 _ _ _ _ _ _ _ _ _ _
      | exact ih6 _ _ _ _ _ _ _ _ _
      | exact ih7 _ _ _ _ _ _ _ _ _ _
      | exact ih8 _ _ _ _ _ _ _ _ _ _ _ _
      | exact ih9 _ _ _ _ _ _ _ _ _ _ _
      | exact ih10 _ _ _ _ _ _
      | exact spoondriftref01_Check.mono _ _ _ _ _ _
      | exact spoondriftref01_Form.mono _ _ _ _ _ _
      | exact spoondriftref01_number.mono _ _ _
      | exact spoondriftref01_text.mono _ _ _ _ _ _
      | exact LeO.none _
      | refine LeO.ite ?_ ?_
      | refine LeO.bind ?_ (fun _ => ?_)
    · intro y0 y1 y2 y3 y4 y5 y6 y7 y8 y9 y10 y11
      unfold spoondriftref01_Parse.j8
      repeat' first
      | (with_reducible exact ih0 _ _ _ _ _ _ _ _)
      | (with_reducible exact ih1 _ _ _ _ _ _ _)
      | (with_reducible exact ih2 _ _ _ _ _ _ _)
      | (with_reducible exact ih3 _ _ _ _ _ _ _ _)
      | (with_reducible exact ih4 _ _ _ _ _ _ _ _ _)
      | (with_reducible exact ih5 _ _ _ _ _ _ _ _ _ _)
      | (with_reducible exact ih6 _ _ _ _ _ _ _ _ _)
      | (with_reducible exact ih7 _ _ _ _ _ _ _ _ _ _)
      | (with_reducible exact ih8 _ _ _ _ _ _ _ _ _ _ _ _)
      | (with_reducible exact ih9 _ _ _ _ _ _ _ _ _ _ _)
      | (with_reducible exact ih10 _ _ _ _ _ _)
      | (with_reducible exact spoondriftref01_Check.mono _ _ _ _ _ _)
      | (with_reducible exact spoondriftref01_Form.mono _ _ _ _ _ _)
      | (with_reducible exact spoondriftref01_number.mono _ _ _)
      | (with_reducible exact spoondriftref01_text.mono _ _ _ _ _ _)
      | (with_reducible exact LeO.refl _)
      | (with_reducible exact LeO.none _)
      | (with_reducible refine LeO.ite ?_ ?_)
      | (with_reducible refine LeO.bind ?_ (fun _ => ?_))
      | exact ih0 _ _ _ _ _ _ _ _
      | exact ih1 _ _ _ _ _ _ _
      | exact ih2 _ _ _ _ _ _ _
      | exact ih3 _ _ _ _ _ _ _ _
      | exact ih4 _ _ _ _ _ _ _ _ _
      | exact ih5 _ _ _ _ _ _ _ _ _ _
      | exact ih6 _ _ _ _ _ _ _ _ _
      | exact ih7 _ _ _ _ _ _ _ _ _ _
      | exact ih8 _ _ _ _ _ _ _ _ _ _ _ _
      | exact ih9 _ _ _ _ _ _ _ _ _ _ _
      | exact ih10 _ _ _ _ _ _
      | exact spoondriftref01_Check.mono _ _ _ _ _ _
      | exact spoondriftref01_Form.mono _ _ _ _ _ _
      | exact spoondriftref01_number.mono _ _ _
      | exact spoondriftref01_text.mono _ _ _ _ _ _
      | exact LeO.none _
      | refine LeO.ite ?_ ?_
      | refine LeO.bind ?_ (fun _ => ?_)
    · intro y0 y1 y2 y3 y4 y5 y6 y7 y8 y9 y10
      unfold spoondriftref01_Parse.j9
      repeat' first
      | (with_reducible exact ih0 _ _ _ _ _ _ _ _)
      | (with_reducible exact ih1 _ _ _ _ _ _ _)
      | (with_reducible exact ih2 _ _ _ _ _ _ _)
      | (with_reducible exact ih3 _ _ _ _ _ _ _ _)
      | (with_reducible exact ih4 _ _ _ _ _ _ _ _ _)
      | (with_reducible exact ih5 _ _ _ _ _ _ _ _ _ _)
      | (with_reducible exact ih6 _ _ _ _ _ _ _ _ _)
      | (with_reducible exact ih7 _ _ _ _ _ _ _ _ _ _)
      | (with_reducible exact ih8 _ _ _ _ _ _ _ _ _ _ _ _)
      | (with_reducible exact ih9 _ _ _ _ _ _ _ _ _ _ _)
      | (with_reducible exact ih10 _ _ _ _ _ _)
      | (with_reducible exact spoondriftref01_Check.mono _ _ _ _ _ _)
      | (with_reducible exact spoondriftref01_Form.mono _ _ _ _ _ _)
      | (with_reducible exact spoondriftref01_number.mono _ _ _)
      | (with_reducible exact spoondriftref01_text.mono _ _ _ _ _ _)
      | (with_reducible exact LeO.refl _)
      | (with_reducible exact LeO.none _)
      | (with_reducible refine LeO.ite ?_ ?_)
      | (with_reducible refine LeO.bind ?_ (fun _ => ?_))
      | exact ih0 _ _ _ _ _ _ _ _
      | exact ih1 _ _ _ _ _ _ _
      | exact ih2 _ _ _ _ _ _ _
      | exact ih3 _ _ _ _ _ _ _ _
      | exact ih4 _ _ _ _ _ _ _ _ _
      | exact ih5 _ _ _ _ _ _ _ _ _ _
      | exact ih6 _ _ _ _ _ _ _ _ _
      | exact ih7 _ _ _ _ _ _ _ _ _ _
      | exact ih8 _ _ _ _ _ _ _ _ _ _ _ _
      | exact ih9 _ _ _ _ _ _ _ _ _ _ _
      | exact ih10 _ _ _ _ _ _
      | exact spoondriftref01_Check.mono _ _ _ _ _ _
      | exact spoondriftref01_Form.mono _ _ _ _ _ _
      | exact spoondriftref01_number.mono _ _ _
      | exact spoondriftref01_text.mono _ _ _ _ _ _
      | exact LeO.none _
      | refine LeO.ite ?_ ?_
      | refine LeO.bind ?_ (fun _ => ?_)
    · intro y0 y1 y2 y3 y4 y5
      unfold spoondriftref01_Parse.j10
      repeat' first
      | (with_reducible exact ih0 _ _ _ _ _ _ _ _)
      | (with_reducible exact ih1 _ _ _ _ _ _ _)
      | (with_reducible exact ih2 _ _ _ _ _ _ _)
      | (with_reducible exact ih3 _ _ _ _ _ _ _ _)
      | (with_reducible exact ih4 _ _ _ _ _ _ _ _ _)
      | (with_reducible exact ih5 _ _ _ _ _ _ _ _ _ _)
      | (with_reducible exact ih6 _ _ _ _ _ _ _ _ _)
      | (with_reducible exact ih7 _ _ _ _ _ _ _ _ _ _)
      | (with_reducible exact ih8 _ _ _ _ _ _ _ _ _ _ _ _)
      | (with_reducible exact ih9 _ _ _ _ _ _ _ _ _ _ _)
      | (with_reducible exact ih10 _ _ _ _ _ _)
      | (with_reducible exact spoondriftref01_Check.mono _ _ _ _ _ _)
      | (with_reducible exact spoondriftref01_Form.mono _ _ _ _ _ _)
      | (with_reducible exact spoondriftref01_number.mono _ _ _)
      | (with_reducible exact spoondriftref01_text.mono _ _ _ _ _ _)
      | (with_reducible exact LeO.refl _)
      | (with_reducible exact LeO.none _)
      | (with_reducible refine LeO.ite ?_ ?_)
      | (with_reducible refine LeO.bind ?_ (fun _ => ?_))
      | exact ih0 _ _ _ _ _ _ _ _
      | exact ih1 _ _ _ _ _ _ _
      | exact ih2 _ _ _ _ _ _ _
      | exact ih3 _ _ _ _ _ _ _ _
      | exact ih4 _ _ _ _ _ _ _ _ _
      | exact ih5 _ _ _ _ _ _ _ _ _ _
      | exact ih6 _ _ _ _ _ _ _ _ _
      | exact ih7 _ _ _ _ _ _ _ _ _ _
      | exact ih8 _ _ _ _ _ _ _ _ _ _ _ _
      | exact ih9 _ _ _ _ _ _ _ _ _ _ _
      | exact ih10 _ _ _ _ _ _
      | exact spoondriftref01_Check.mono _ _ _ _ _ _
      | exact spoondriftref01_Form.mono _ _ _ _ _ _
      | exact spoondriftref01_number.mono _ _ _
      | exact spoondriftref01_text.mono _ _ _ _ _ _
      | exact LeO.none _
      | refine LeO.ite ?_ ?_
      | refine LeO.bind ?_ (fun _ => ?_)
theorem spoondriftref01_Parse.mono : ∀ a0 k, LeO (spoondriftref01_Parse.f k a0) (spoondriftref01_Parse.f (k + 1) a0) := by
  intro a0 k
  obtain ⟨ih0, ih1, ih2, ih3, ih4, ih5, ih6, ih7, ih8, ih9, ih10⟩ := spoondriftref01_Parse.mono_l k
  unfold spoondriftref01_Parse.f
  repeat' first
      | (with_reducible exact ih0 _ _ _ _ _ _ _ _)
      | (with_reducible exact ih1 _ _ _ _ _ _ _)
      | (with_reducible exact ih2 _ _ _ _ _ _ _)
      | (with_reducible exact ih3 _ _ _ _ _ _ _ _)
      | (with_reducible exact ih4 _ _ _ _ _ _ _ _ _)
      | (with_reducible exact ih5 _ _ _ _ _ _ _ _ _ _)
      | (with_reducible exact ih6 _ _ _ _ _ _ _ _ _)
      | (with_reducible exact ih7 _ _ _ _ _ _ _ _ _ _)
      | (with_reducible exact ih8 _ _ _ _ _ _ _ _ _ _ _ _)
      | (with_reducible exact ih9 _ _ _ _ _ _ _ _ _ _ _)
      | (with_reducible exact ih10 _ _ _ _ _ _)
      | (with_reducible exact spoondriftref01_Check.mono _ _ _ _ _ _)
      | (with_reducible exact spoondriftref01_Form.mono _ _ _ _ _ _)
      | (with_reducible exact spoondriftref01_number.mono _ _ _)
      | (with_reducible exact spoondriftref01_text.mono _ _ _ _ _ _)
      | (with_reducible exact LeO.refl _)
      | (with_reducible exact LeO.none _)
      | (with_reducible refine LeO.ite ?_ ?_)
      | (with_reducible refine LeO.bind ?_ (fun _ => ?_))
      | exact ih0 _ _ _ _ _ _ _ _
      | exact ih1 _ _ _ _ _ _ _
      | exact ih2 _ _ _ _ _ _ _
      | exact ih3 _ _ _ _ _ _ _ _
      | exact ih4 _ _ _ _ _ _ _ _ _
      | exact ih5 _ _ _ _ _ _ _ _ _ _
      | exact ih6 _ _ _ _ _ _ _ _ _
      | exact ih7 _ _ _ _ _ _ _ _ _ _
      | exact ih8 _ _ _ _ _ _ _ _ _ _ _ _
      | exact ih9 _ _ _ _ _ _ _ _ _ _ _
      | exact ih10 _ _ _ _ _ _
      | exact spoondriftref01_Check.mono _ _ _ _ _ _
      | exact spoondriftref01_Form.mono _ _ _ _ _ _
      | exact spoondriftref01_number.mono _ _ _
      | exact spoondriftref01_text.mono _ _ _ _ _ _
      | exact LeO.none _
      | refine LeO.ite ?_ ?_
      | refine LeO.bind ?_ (fun _ => ?_)
def spoondriftref01_Parse.T34 : Bool × List (List Nat × List Nat) := (true, [([], []), ([0], [0]), ([1], [1]), ([2, 1], [2]), ([3], [3]), ([4, 3, 3], [3, 4]), ([3], [3]), ([5, 6, 3], [3, 5, 6]), ([3, 7], [3, 7]), ([8, 5], [8]), ([9], [9]), ([10, 9, 9], [9, 10]), ([9], [9]), ([11, 12, 9], [9, 11, 12]), ([9, 13], [9, 13])])
def spoondriftref01_Parse.B34 : List Nat := [0, 1, 3, 7, 15, 31, 15, 127, 255, 511, 1023, 2047, 1023, 8191, 16383]
theorem spoondriftref01_Parse.tab34 : rtab .any (opsOf Tryd.f17 34) = spoondriftref01_Parse.T34 := by kernel_rfl
theorem spoondriftref01_Parse.bits34 : waitsOk spoondriftref01_Parse.T34.2 spoondriftref01_Parse.B34 = true := by kernel_rfl
set_option maxHeartbeats 8000000 in
set_option maxRecDepth 100000 in
theorem spoondriftref01_Parse.calls (k : Nat) (a0 : ByteArray) (r1 : Int) (r2 : Int) (r3 : Int) (r4 : Int) (r5 : Int) (r6 : Int) (w : World) (h : spoondriftref01_Parse.f k a0 = some (r1, r2, r3, r4, r5, r6)) :
    Calls Tryd.prog 17 #[.string a0] w fun e w' => e = .returned (.tuple #[.agg #[.int .i64 r1, .int .i64 r2, .int .i64 r3, .int .i64 r4, .int .i64 r5], .int .i64 r6]) ∧ Below w.heap.size w w' := by
  have hu23 := Tryd.underlying23
  have HB := Aside0.mk (Below.refl w.heap.size w)
  have H : (if a0.toList = ([] : List UInt8) then (spoondriftref01_Parse.j0 k a0 0 false 0 0 0 0 0) else (if 0 < (a0.size : Int) then (spoondriftref01_Parse.j0 k a0 0 ((bt a0 0) == 40) 0 0 0 0 0) else (none))) = some (r1, r2, r3, r4, r5, r6) := h
  clear h
  have HC2 := Aside0.mk H
  clear H
  go_enter Tryd.func17, Tryd.ntmps17
  go_upto_region 3 with (first | ((with_reducible refine gate_dst (N := 2) rfl ?_); refine box_event ?hg (N := 2) ?hd (cs := #[.int .i64 0, .int .i64 0, .int .i64 0, .int .i64 0, .int .i64 0]) (t := 23) ?hr ?_; (case hd => rfl); (case hg => rfl); (case hr => first | (go_simp; done) | (go_simp; rfl)); intro gb228 hg w3 hbox hb; have n0_ := Aside0.mk (below_step (by repeat (first | (with_reducible first | exact HB.out | apply below_alloc | apply pw_below_drewN | apply below_drew1) | exact HB.out)) hb); have n1_ := Aside0.mk (hbox); have n2_ := Aside0.mk ((by rw [hg]; exact (below_size (by repeat (first | (with_reducible first | exact HB.out | apply below_alloc | apply pw_below_drewN | apply below_drew1) | exact HB.out))) : w.heap.size ≤ gb228)); have n3_ := Aside0.mk ((by rw [hg]; exact (below_size (by repeat (first | (with_reducible first | exact HB.out | apply below_alloc | apply pw_below_drewN | apply below_drew1) | exact HB.out))) : w.heap.size ≤ gb228)); clear HB; have HB := n0_; have BK228 := n1_; have GW228 := n2_; have GE228 := n3_; clear n0_ n1_ n2_ n3_; clear hb hbox hg) | ((with_reducible refine gate_dst (N := 4) rfl ?_); refine box_event ?hg (N := 4) ?hd (cs := #[.int .i64 0, .int .i64 0, .int .i64 0, .int .i64 0, .int .i64 0]) (t := 23) ?hr ?_; (case hd => rfl); (case hg => rfl); (case hr => first | (go_simp; done) | (go_simp; rfl)); intro gb229 hg w4 hbox hb; have n0_ := Aside0.mk (blk_below (g := gb228) (o := .cells #[.int .i64 0, .int .i64 0, .int .i64 0, .int .i64 0, .int .i64 0] 23 (0, 0)) (by (with_reducible repeat (first | refine blk_drewN ?_ _ | refine blk_drew ?_ | refine blk_alloc ?_ _)); exact BK228.out) hb); have n1_ := Aside0.mk (below_step (by repeat (first | (with_reducible first | exact HB.out | apply below_alloc | apply pw_below_drewN | apply below_drew1 | refine below_set ?_ GE228.out) | exact HB.out)) hb); have n2_ := Aside0.mk (hbox); have n3_ := Aside0.mk ((by rw [hg]; exact (below_size (by repeat (first | (with_reducible first | exact HB.out | apply below_alloc | apply pw_below_drewN | apply below_drew1 | refine below_set ?_ GE228.out) | exact HB.out))) : w.heap.size ≤ gb229)); have n4_ := Aside0.mk ((by rw [hg]; exact (below_size (by repeat (first | (with_reducible first | exact HB.out | apply below_alloc | apply pw_below_drewN | apply below_drew1 | refine below_set ?_ GE228.out) | exact HB.out))) : w.heap.size ≤ gb229)); have n5_ := Aside0.mk ((by rw [hg]; exact Nat.ne_of_lt (blk_lt (g := gb228) (o := .cells #[.int .i64 0, .int .i64 0, .int .i64 0, .int .i64 0, .int .i64 0] 23 (0, 0)) (by (with_reducible repeat (first | refine blk_drewN ?_ _ | refine blk_drew ?_ | refine blk_alloc ?_ _)); exact BK228.out)) : gb228 ≠ gb229)); have n6_ := Aside0.mk ((by rw [hg]; exact Nat.ne_of_gt (blk_lt (g := gb228) (o := .cells #[.int .i64 0, .int .i64 0, .int .i64 0, .int .i64 0, .int .i64 0] 23 (0, 0)) (by (with_reducible repeat (first | refine blk_drewN ?_ _ | refine blk_drew ?_ | refine blk_alloc ?_ _)); exact BK228.out)) : gb229 ≠ gb228)); clear BK228; clear HB; have BK228 := n0_; have HB := n1_; have BK229 := n2_; have GW229 := n3_; have GE229 := n4_; have NB228_229 := n5_; have NB229_228 := n6_; clear n0_ n1_ n2_ n3_ n4_ n5_ n6_; clear hb hbox hg))
  (try simp only [Act.put, List.setIfInBounds_toArray, List.set_cons_zero, List.set_cons_succ])
  go_cut [17] (fun v17 wc => ∃ (kq : Nat) (x17_1 : Bool), v17 = .bool x17_1 ∧ Aside0 (spoondriftref01_Parse.j0 kq a0 0 x17_1 0 0 0 0 0 = some (r1, r2, r3, r4, r5, r6)) ∧ Aside0 (kq ≤ k) ∧ Aside0 (wc.heap[gb228]? = some (.cells #[.int .i64 0, .int .i64 0, .int .i64 0, .int .i64 0, .int .i64 0] 23 (0, 0))) ∧ Aside0 (wc.heap[gb229]? = some (.cells #[.int .i64 0, .int .i64 0, .int .i64 0, .int .i64 0, .int .i64 0] 23 (0, 0))) ∧ Aside0 (Below w.heap.size w wc))
  case first =>
    have H := HC2.out
    clear HC2
    by_cases c5 : a0.toList = ([] : List UInt8)
    · rw [if_pos c5] at H
      have c5b0 : (a0.toList == ([] : List UInt8)) = true := beq_iff_eq.mpr c5
      have c5b1 : (a0.toList != ([] : List UInt8)) = false := bne_eq_false_iff_eq.mpr c5
      clear c5
      (first | rw [c5b0] | (simp only [i64_w, i32_w]; rw [c5b0]) | skip)
      have H' := Aside0.mk H
      clear H
      go_wp2
      go_meet
      case rel => exact ⟨_, (false), (by first | rfl | (simp; done) | (simp [*]; done)), H', ⟨by first | omega | exact Nat.le_refl _⟩, ⟨by (with_reducible repeat (first | refine blk_drewN ?_ _ | refine blk_drew ?_ | refine blk_alloc ?_ _)); exact BK228.out⟩, ⟨by (with_reducible repeat (first | refine blk_drewN ?_ _ | refine blk_drew ?_ | refine blk_alloc ?_ _)); exact BK229.out⟩, ⟨by repeat (first | (with_reducible first | exact HB.out | apply below_alloc | apply pw_below_drewN | apply below_drew1 | refine below_set ?_ GE228.out | refine below_set ?_ GE229.out) | exact HB.out)⟩⟩
    · rw [if_neg c5] at H
      have c5b0 : (a0.toList == ([] : List UInt8)) = false := beq_eq_false_iff_ne.mpr c5
      have c5b1 : (a0.toList != ([] : List UInt8)) = true := bne_iff_ne.mpr c5
      (first | rw [c5b0] | (simp only [i64_w, i32_w]; rw [c5b0]) | skip)
      by_cases c6 : 0 < (a0.size : Int)
      · rw [if_pos c6] at H
        have c6b0 : decide (0 < (a0.size : Int)) = true := decide_eq_true c6
        have c6b1 : decide (0 < a0.size) = true := decide_eq_true (by omega)
        clear c6
        have H' := Aside0.mk H
        clear H
        have p7 : 0 ≤ (0 : Int) := (by omega)
        have q7 : 0 < a0.size := (by have : (0 : Int) < (a0.size : Int) := of_decide_eq_true (by first | (with_reducible assumption) | assumption); omega)
        have hx7 : ∀ h : 0 < a0.size, ((a0[0]'h).toNat : Int) = bt a0 0 := bt_at a0 0
        clear p7
        have qi7 : (0 < (a0.size : Int)) = True := eq_true (of_decide_eq_true (by first | (with_reducible assumption) | assumption))
        replace q7 := eq_true q7
        go_wp2
        go_meet
        case rel => exact ⟨_, (((bt a0 0) == 40)), (by first | rfl | (simp; done) | (simp [*]; done)), H', ⟨by first | omega | exact Nat.le_refl _⟩, ⟨by (with_reducible repeat (first | refine blk_drewN ?_ _ | refine blk_drew ?_ | refine blk_alloc ?_ _)); exact BK228.out⟩, ⟨by (with_reducible repeat (first | refine blk_drewN ?_ _ | refine blk_drew ?_ | refine blk_alloc ?_ _)); exact BK229.out⟩, ⟨by repeat (first | (with_reducible first | exact HB.out | apply below_alloc | apply pw_below_drewN | apply below_drew1 | refine below_set ?_ GE228.out | refine below_set ?_ GE229.out) | exact HB.out)⟩⟩
      · rw [if_neg c6] at H
        exact absurd H (by simp)
  case rest =>
    clear HC2
    try clear c1
    try clear p2
    try clear c5
    try clear c5b0
    try clear c5b1
    try clear c6
    try clear c6b0
    try clear c6b1
    try clear p7
    try clear q7
    try clear hx7
    try clear qi7
    try clear p7
    try clear q7
    obtain ⟨kq, x17_1, rfl, HA, HJ1, BK228, BK229, HB⟩ := hcut
    cases kq with
    | zero => exact absurd HA.out (by simp [spoondriftref01_Parse.j0])
    | succ kj1 =>
      have H := HA.out
      clear HA
      simp only [spoondriftref01_Parse.j0] at H
      have HC8 := Aside0.mk H
      clear H
      go_upto_if 17 with (fail)
      go_cut [5] (fun v5 wc => ∃ (kq : Nat) (x5_7 : Int), v5 = .int .i64 x5_7 ∧ Aside0 (spoondriftref01_Parse.j1 kq a0 x5_7 0 0 0 0 0 = some (r1, r2, r3, r4, r5, r6)) ∧ Aside0 (kq ≤ kj1) ∧ Aside0 (wc.heap[gb228]? = some (.cells #[.int .i64 0, .int .i64 0, .int .i64 0, .int .i64 0, .int .i64 0] 23 (0, 0))) ∧ Aside0 (wc.heap[gb229]? = some (.cells #[.int .i64 0, .int .i64 0, .int .i64 0, .int .i64 0, .int .i64 0] 23 (0, 0))) ∧ Aside0 (Below w.heap.size w wc))
      case first =>
        have H := HC8.out
        clear HC8
        by_cases c9 : x17_1 = true
        · subst c9
          have H1 : (spoondriftref01_Parse.j1 kj1 a0 1 0 0 0 0 0) = some (r1, r2, r3, r4, r5, r6) := by rw [if_pos rfl] at H; exact H
          clear H
          have H := H1
          clear H1
          have H' := Aside0.mk H
          clear H
          go_wp2
          go_meet
          case rel => exact ⟨_, (1), (by first | rfl | (simp; done) | (simp [*]; done)), H', ⟨by have := HJ1.out; first | omega | exact Nat.le_refl _⟩, ⟨by (with_reducible repeat (first | refine blk_drewN ?_ _ | refine blk_drew ?_ | refine blk_alloc ?_ _)); exact BK228.out⟩, ⟨by (with_reducible repeat (first | refine blk_drewN ?_ _ | refine blk_drew ?_ | refine blk_alloc ?_ _)); exact BK229.out⟩, ⟨by repeat (first | (with_reducible first | exact HB.out | apply below_alloc | apply pw_below_drewN | apply below_drew1 | refine below_set ?_ GE228.out | refine below_set ?_ GE229.out) | exact HB.out)⟩⟩
        · replace c9 := Bool.eq_false_iff.mpr c9
          subst c9
          have H1 : (spoondriftref01_Parse.j1 kj1 a0 0 0 0 0 0 0) = some (r1, r2, r3, r4, r5, r6) := by rw [if_neg (show ¬ (false = true) by decide)] at H; exact H
          clear H
          have H := H1
          clear H1
          have H' := Aside0.mk H
          clear H
          go_wp2
          go_meet
          case rel => exact ⟨_, (0), (by first | rfl | (simp; done) | (simp [*]; done)), H', ⟨by have := HJ1.out; first | omega | exact Nat.le_refl _⟩, ⟨by (with_reducible repeat (first | refine blk_drewN ?_ _ | refine blk_drew ?_ | refine blk_alloc ?_ _)); exact BK228.out⟩, ⟨by (with_reducible repeat (first | refine blk_drewN ?_ _ | refine blk_drew ?_ | refine blk_alloc ?_ _)); exact BK229.out⟩, ⟨by repeat (first | (with_reducible first | exact HB.out | apply below_alloc | apply pw_below_drewN | apply below_drew1 | refine below_set ?_ GE228.out | refine below_set ?_ GE229.out) | exact HB.out)⟩⟩
      case rest =>
        clear HC8
        try clear c1
        try clear p2
        try clear c5
        try clear c5b0
        try clear c5b1
        try clear c6
        try clear c6b0
        try clear c6b1
        try clear p7
        try clear q7
        try clear hx7
        try clear qi7
        try clear c9
        try clear p2
        try clear p7
        try clear q7
        obtain ⟨kq, x5_7, rfl, HA, HJ7, BK228, BK229, HB⟩ := hcut
        cases kq with
        | zero => exact absurd HA.out (by simp [spoondriftref01_Parse.j1])
        | succ kj7 =>
          have H := HA.out
          clear HA
          simp only [spoondriftref01_Parse.j1] at H
          have H' := Aside0.mk H
          clear H
          go_wp2
          (try simp only [Act.put, List.setIfInBounds_toArray, List.set_cons_zero, List.set_cons_succ])
          go_loopg [5] kj7 (fun kq v5 w' => ∃ (x5_3 : Int) (x229000_3 : Int) (x229001_3 : Int) (x229002_3 : Int) (x229003_3 : Int) (x229004_3 : Int) (x230000_3 : Int) (x230001_3 : Int) (x230002_3 : Int) (x230003_3 : Int), v5 = .int .i64 x5_3 ∧ Aside0 (spoondriftref01_Parse.l0 kq a0 x5_3 x230000_3 x230001_3 x230002_3 x230003_3 0 = some (r1, r2, r3, r4, r5, r6)) ∧ Aside0 (kq ≤ kj7) ∧ Aside0 (w'.heap[gb228]? = some (.cells #[.int .i64 x229000_3, .int .i64 x229001_3, .int .i64 x229002_3, .int .i64 x229003_3, .int .i64 x229004_3] 23 (0, 0))) ∧ Aside0 (w'.heap[gb229]? = some (.cells #[.int .i64 x230000_3, .int .i64 x230001_3, .int .i64 x230002_3, .int .i64 x230003_3, .int .i64 0] 23 (0, 0))) ∧ Aside0 (Below w.heap.size w w'))
          case atStart => exact ⟨(x5_7), (0), (0), (0), (0), (0), (0), (0), (0), (0), (by first | rfl | (simp; done) | (simp [*]; done)), H', ⟨Nat.le_refl _⟩, ⟨by (with_reducible repeat (first | refine blk_drewN ?_ _ | refine blk_drew ?_ | refine blk_alloc ?_ _)); exact BK228.out⟩, ⟨by (with_reducible repeat (first | refine blk_drewN ?_ _ | refine blk_drew ?_ | refine blk_alloc ?_ _)); exact BK229.out⟩, ⟨by repeat (first | (with_reducible first | exact HB.out | apply below_alloc | apply pw_below_drewN | apply below_drew1 | refine below_set ?_ GE228.out | refine below_set ?_ GE229.out) | exact HB.out)⟩⟩
          case round =>
            clear H'
            try clear c1
            try clear p2
            try clear c5
            try clear c5b0
            try clear c5b1
            try clear c6
            try clear c6b0
            try clear c6b1
            try clear p7
            try clear q7
            try clear hx7
            try clear qi7
            try clear c9
            try clear p2
            try clear p7
            try clear q7
            obtain ⟨x5_3, x229000_3, x229001_3, x229002_3, x229003_3, x229004_3, x230000_3, x230001_3, x230002_3, x230003_3, rfl, HA, HK3, BK228, BK229, HB⟩ := hrel
            cases gk with
            | zero => exact absurd HA.out (by simp [spoondriftref01_Parse.l0])
            | succ k3 =>
              have H := HA.out
              clear HA
              simp only [spoondriftref01_Parse.l0] at H
              have HC10 := Aside0.mk H
              clear H
              go_upto_region 5 with (fail)
              go_cut [27] (fun v27 wc => ∃ (kq : Nat) (x27_9 : Bool), v27 = .bool x27_9 ∧ Aside0 (spoondriftref01_Parse.j3 kq a0 x5_3 x27_9 x230000_3 x230001_3 x230002_3 x230003_3 0 = some (r1, r2, r3, r4, r5, r6)) ∧ Aside0 (kq ≤ k3) ∧ Aside0 (wc.heap[gb228]? = some (.cells #[.int .i64 x229000_3, .int .i64 x229001_3, .int .i64 x229002_3, .int .i64 x229003_3, .int .i64 x229004_3] 23 (0, 0))) ∧ Aside0 (wc.heap[gb229]? = some (.cells #[.int .i64 x230000_3, .int .i64 x230001_3, .int .i64 x230002_3, .int .i64 x230003_3, .int .i64 0] 23 (0, 0))) ∧ Aside0 (Below w.heap.size w wc))
              case first =>
                have H := HC10.out
                clear HC10
                by_cases c11 : x5_3 < (a0.size : Int)
                · rw [if_pos c11] at H
                  have c11b0 : decide (x5_3 < (a0.size : Int)) = true := decide_eq_true c11
                  clear c11
                  (first | rw [c11b0] | (simp only [i64_w, i32_w]; rw [c11b0]) | skip)
                  by_cases c12 : 0 ≤ x5_3
                  · rw [if_pos c12] at H
                    have c12b0 : decide (0 ≤ x5_3) = true := decide_eq_true c12
                    clear c12
                    have H' := Aside0.mk H
                    clear H
                    have p13 : 0 ≤ (x5_3 : Int) := of_decide_eq_true (by first | (with_reducible assumption) | assumption)
                    have q13 : x5_3 < (a0.size : Int) := of_decide_eq_true (by first | (with_reducible assumption) | assumption)
                    have hx13 := bt_at a0 x5_3
                    replace p13 := eq_true p13
                    replace q13 := eq_true q13
                    go_wp2
                    go_meet
                    case rel => exact ⟨_, (((bt a0 x5_3) != 41)), (by first | rfl | (simp; done) | (simp [*]; done)), H', ⟨by have := HJ1.out; have := HJ7.out; have := HK3.out; first | omega | exact Nat.le_refl _⟩, ⟨by (with_reducible repeat (first | refine blk_drewN ?_ _ | refine blk_drew ?_ | refine blk_alloc ?_ _)); exact BK228.out⟩, ⟨by (with_reducible repeat (first | refine blk_drewN ?_ _ | refine blk_drew ?_ | refine blk_alloc ?_ _)); exact BK229.out⟩, ⟨by repeat (first | (with_reducible first | exact HB.out | apply below_alloc | apply pw_below_drewN | apply below_drew1 | refine below_set ?_ GE228.out | refine below_set ?_ GE229.out) | exact HB.out)⟩⟩
                  · rw [if_neg c12] at H
                    exact absurd H (by simp)
                · rw [if_neg c11] at H
                  have c11b0 : decide (x5_3 < (a0.size : Int)) = false := decide_eq_false c11
                  clear c11
                  (first | rw [c11b0] | (simp only [i64_w, i32_w]; rw [c11b0]) | skip)
                  have H' := Aside0.mk H
                  clear H
                  go_wp2
                  go_meet
                  case rel => exact ⟨_, (false), (by first | rfl | (simp; done) | (simp [*]; done)), H', ⟨by have := HJ1.out; have := HJ7.out; have := HK3.out; first | omega | exact Nat.le_refl _⟩, ⟨by (with_reducible repeat (first | refine blk_drewN ?_ _ | refine blk_drew ?_ | refine blk_alloc ?_ _)); exact BK228.out⟩, ⟨by (with_reducible repeat (first | refine blk_drewN ?_ _ | refine blk_drew ?_ | refine blk_alloc ?_ _)); exact BK229.out⟩, ⟨by repeat (first | (with_reducible first | exact HB.out | apply below_alloc | apply pw_below_drewN | apply below_drew1 | refine below_set ?_ GE228.out | refine below_set ?_ GE229.out) | exact HB.out)⟩⟩
              case rest =>
                clear HC10
                try clear c1
                try clear p1
                try clear q1
                try clear hx1
                try clear p2
                try clear c5
                try clear c5b0
                try clear c5b1
                try clear c6
                try clear c6b0
                try clear c6b1
                try clear p7
                try clear q7
                try clear hx7
                try clear qi7
                try clear c9
                try clear c11
                try clear c11b0
                try clear c12
                try clear c12b0
                try clear p13
                try clear q13
                try clear hx13
                try clear p13
                try clear p2
                try clear p7
                try clear q13
                try clear q7
                obtain ⟨kq, x27_9, rfl, HA, HJ9, BK228, BK229, HB⟩ := hcut
                cases kq with
                | zero => exact absurd HA.out (by simp [spoondriftref01_Parse.j3])
                | succ kj9 =>
                  have H := HA.out
                  clear HA
                  simp only [spoondriftref01_Parse.j3] at H
                  by_cases c14 : x27_9 = true
                  · subst c14
                    have H1 : (if 0 ≤ x5_3 then (if x5_3 < (a0.size : Int) then (if (bt a0 x5_3) = 45 then (spoondriftref01_Parse.j4 kj9 a0 x5_3 (-1) x5_3 x230000_3 x230001_3 x230002_3 x230003_3 0) else (spoondriftref01_Parse.j4 kj9 a0 x5_3 1 x5_3 x230000_3 x230001_3 x230002_3 x230003_3 0)) else (none)) else (none)) = some (r1, r2, r3, r4, r5, r6) := by rw [if_pos rfl] at H; exact H
                    clear H
                    have H := H1
                    clear H1
                    by_cases c15 : 0 ≤ x5_3
                    · rw [if_pos c15] at H
                      have c15b0 : decide (0 ≤ x5_3) = true := decide_eq_true c15
                      clear c15
                      by_cases c16 : x5_3 < (a0.size : Int)
                      · rw [if_pos c16] at H
                        have c16b0 : decide (x5_3 < (a0.size : Int)) = true := decide_eq_true c16
                        clear c16
                        have HC18 := Aside0.mk H
                        clear H
                        have p17 : 0 ≤ (x5_3 : Int) := of_decide_eq_true (by first | (with_reducible assumption) | assumption)
                        have q17 : x5_3 < (a0.size : Int) := of_decide_eq_true (by first | (with_reducible assumption) | assumption)
                        have hx17 := bt_at a0 x5_3
                        replace p17 := eq_true p17
                        replace q17 := eq_true q17
                        go_upto_if 32 with (fail)
                        go_cut [6] (fun v6 wc => ∃ (kq : Nat) (x6_17 : Int), v6 = .int .i64 x6_17 ∧ Aside0 (spoondriftref01_Parse.j4 kq a0 x5_3 x6_17 x5_3 x230000_3 x230001_3 x230002_3 x230003_3 0 = some (r1, r2, r3, r4, r5, r6)) ∧ Aside0 (kq ≤ kj9) ∧ Aside0 (wc.heap[gb228]? = some (.cells #[.int .i64 x229000_3, .int .i64 x229001_3, .int .i64 x229002_3, .int .i64 x229003_3, .int .i64 x229004_3] 23 (0, 0))) ∧ Aside0 (wc.heap[gb229]? = some (.cells #[.int .i64 x230000_3, .int .i64 x230001_3, .int .i64 x230002_3, .int .i64 x230003_3, .int .i64 0] 23 (0, 0))) ∧ Aside0 (Below w.heap.size w wc))
                        case first =>
                          have H := HC18.out
                          clear HC18
                          by_cases c19 : (bt a0 x5_3) = 45
                          · rw [if_pos c19] at H
                            have c19b0 : ((bt a0 x5_3) == 45) = true := beq_iff_eq.mpr c19
                            have c19b1 : ((bt a0 x5_3) != 45) = false := bne_eq_false_iff_eq.mpr c19
                            clear c19
                            (first | rw [c19b0] | (simp only [i64_w, i32_w]; rw [c19b0]) | skip)
                            have H' := Aside0.mk H
                            clear H
                            go_wp2
                            go_meet
                            case rel => exact ⟨_, ((-1)), (by first | rfl | (simp; done) | (simp [*]; done)), H', ⟨by have := HJ1.out; have := HJ7.out; have := HK3.out; have := HJ9.out; first | omega | exact Nat.le_refl _⟩, ⟨by (with_reducible repeat (first | refine blk_drewN ?_ _ | refine blk_drew ?_ | refine blk_alloc ?_ _)); exact BK228.out⟩, ⟨by (with_reducible repeat (first | refine blk_drewN ?_ _ | refine blk_drew ?_ | refine blk_alloc ?_ _)); exact BK229.out⟩, ⟨by repeat (first | (with_reducible first | exact HB.out | apply below_alloc | apply pw_below_drewN | apply below_drew1 | refine below_set ?_ GE228.out | refine below_set ?_ GE229.out) | exact HB.out)⟩⟩
                          · rw [if_neg c19] at H
                            have c19b0 : ((bt a0 x5_3) == 45) = false := beq_eq_false_iff_ne.mpr c19
                            have c19b1 : ((bt a0 x5_3) != 45) = true := bne_iff_ne.mpr c19
                            (first | rw [c19b0] | (simp only [i64_w, i32_w]; rw [c19b0]) | skip)
                            have H' := Aside0.mk H
                            clear H
                            go_wp2
                            go_meet
                            case rel => exact ⟨_, (1), (by first | rfl | (simp; done) | (simp [*]; done)), H', ⟨by have := HJ1.out; have := HJ7.out; have := HK3.out; have := HJ9.out; first | omega | exact Nat.le_refl _⟩, ⟨by (with_reducible repeat (first | refine blk_drewN ?_ _ | refine blk_drew ?_ | refine blk_alloc ?_ _)); exact BK228.out⟩, ⟨by (with_reducible repeat (first | refine blk_drewN ?_ _ | refine blk_drew ?_ | refine blk_alloc ?_ _)); exact BK229.out⟩, ⟨by repeat (first | (with_reducible first | exact HB.out | apply below_alloc | apply pw_below_drewN | apply below_drew1 | refine below_set ?_ GE228.out | refine below_set ?_ GE229.out) | exact HB.out)⟩⟩
                        case rest =>
                          clear HC18
                          try clear c1
                          try clear p1
                          try clear q1
                          try clear hx1
                          try clear p2
                          try clear c5
                          try clear c5b0
                          try clear c5b1
                          try clear c6
                          try clear c6b0
                          try clear c6b1
                          try clear p7
                          try clear q7
                          try clear hx7
                          try clear qi7
                          try clear c9
                          try clear c11
                          try clear c11b0
                          try clear c12
                          try clear c12b0
                          try clear p13
                          try clear q13
                          try clear hx13
                          try clear c14
                          try clear c15
                          try clear c15b0
                          try clear c16
                          try clear c16b0
                          try clear c17
                          try clear p17
                          try clear q17
                          try clear hx17
                          try clear c19
                          try clear c19b0
                          try clear c19b1
                          try clear p1
                          try clear p13
                          try clear p17
                          try clear p2
                          try clear p7
                          try clear q1
                          try clear q13
                          try clear q17
                          try clear q7
                          obtain ⟨kq, x6_17, rfl, HA, HJ17, BK228, BK229, HB⟩ := hcut
                          cases kq with
                          | zero => exact absurd HA.out (by simp [spoondriftref01_Parse.j4])
                          | succ kj17 =>
                            have H := HA.out
                            clear HA
                            simp only [spoondriftref01_Parse.j4] at H
                            have HC20 := Aside0.mk H
                            clear H
                            go_upto_region 9 with (fail)
                            go_cut [42] (fun v42 wc => ∃ (kq : Nat) (x42_19 : Bool), v42 = .bool x42_19 ∧ Aside0 (spoondriftref01_Parse.j5 kq a0 x5_3 x6_17 x5_3 x42_19 x230000_3 x230001_3 x230002_3 x230003_3 0 = some (r1, r2, r3, r4, r5, r6)) ∧ Aside0 (kq ≤ kj17) ∧ Aside0 (wc.heap[gb228]? = some (.cells #[.int .i64 x229000_3, .int .i64 x229001_3, .int .i64 x229002_3, .int .i64 x229003_3, .int .i64 x229004_3] 23 (0, 0))) ∧ Aside0 (wc.heap[gb229]? = some (.cells #[.int .i64 x230000_3, .int .i64 x230001_3, .int .i64 x230002_3, .int .i64 x230003_3, .int .i64 0] 23 (0, 0))) ∧ Aside0 (Below w.heap.size w wc))
                            case first =>
                              have H := HC20.out
                              clear HC20
                              by_cases c21 : 0 ≤ x5_3
                              · rw [if_pos c21] at H
                                have c21b0 : decide (0 ≤ x5_3) = true := decide_eq_true c21
                                clear c21
                                (first | rw [c21b0] | (simp only [i64_w, i32_w]; rw [c21b0]) | skip)
                                by_cases c22 : x5_3 < (a0.size : Int)
                                · rw [if_pos c22] at H
                                  have c22b0 : decide (x5_3 < (a0.size : Int)) = true := decide_eq_true c22
                                  clear c22
                                  by_cases c24 : (bt a0 x5_3) = 45
                                  · rw [if_pos c24] at H
                                    have c24b0 : ((bt a0 x5_3) == 45) = true := beq_iff_eq.mpr c24
                                    have c24b1 : ((bt a0 x5_3) != 45) = false := bne_eq_false_iff_eq.mpr c24
                                    clear c24
                                    have H' := Aside0.mk H
                                    clear H
                                    have p23 : 0 ≤ (x5_3 : Int) := of_decide_eq_true (by first | (with_reducible assumption) | assumption)
                                    have q23 : x5_3 < (a0.size : Int) := of_decide_eq_true (by first | (with_reducible assumption) | assumption)
                                    have hx23 := bt_at a0 x5_3
                                    replace p23 := eq_true p23
                                    replace q23 := eq_true q23
                                    go_wp2
                                    go_meet
                                    case rel => exact ⟨_, (true), (by first | rfl | (simp; done) | (simp [*]; done)), H', ⟨by have := HJ1.out; have := HJ7.out; have := HK3.out; have := HJ9.out; have := HJ17.out; first | omega | exact Nat.le_refl _⟩, ⟨by (with_reducible repeat (first | refine blk_drewN ?_ _ | refine blk_drew ?_ | refine blk_alloc ?_ _)); exact BK228.out⟩, ⟨by (with_reducible repeat (first | refine blk_drewN ?_ _ | refine blk_drew ?_ | refine blk_alloc ?_ _)); exact BK229.out⟩, ⟨by repeat (first | (with_reducible first | exact HB.out | apply below_alloc | apply pw_below_drewN | apply below_drew1 | refine below_set ?_ GE228.out | refine below_set ?_ GE229.out) | exact HB.out)⟩⟩
                                  · rw [if_neg c24] at H
                                    have c24b0 : ((bt a0 x5_3) == 45) = false := beq_eq_false_iff_ne.mpr c24
                                    have c24b1 : ((bt a0 x5_3) != 45) = true := bne_iff_ne.mpr c24
                                    have H' := Aside0.mk H
                                    clear H
                                    have p23 : 0 ≤ (x5_3 : Int) := of_decide_eq_true (by first | (with_reducible assumption) | assumption)
                                    have q23 : x5_3 < (a0.size : Int) := of_decide_eq_true (by first | (with_reducible assumption) | assumption)
                                    have hx23 := bt_at a0 x5_3
                                    replace p23 := eq_true p23
                                    replace q23 := eq_true q23
                                    have p25 : 0 ≤ (x5_3 : Int) := of_decide_eq_true (by first | (with_reducible assumption) | assumption)
                                    have q25 : x5_3 < (a0.size : Int) := of_decide_eq_true (by first | (with_reducible assumption) | assumption)
                                    have hx25 := bt_at a0 x5_3
                                    replace p25 := eq_true p25
                                    replace q25 := eq_true q25
                                    go_wp2
                                    go_meet
                                    case rel => exact ⟨_, (((bt a0 x5_3) == 43)), (by first | rfl | (simp; done) | (simp [*]; done)), H', ⟨by have := HJ1.out; have := HJ7.out; have := HK3.out; have := HJ9.out; have := HJ17.out; first | omega | exact Nat.le_refl _⟩, ⟨by (with_reducible repeat (first | refine blk_drewN ?_ _ | refine blk_drew ?_ | refine blk_alloc ?_ _)); exact BK228.out⟩, ⟨by (with_reducible repeat (first | refine blk_drewN ?_ _ | refine blk_drew ?_ | refine blk_alloc ?_ _)); exact BK229.out⟩, ⟨by repeat (first | (with_reducible first | exact HB.out | apply below_alloc | apply pw_below_drewN | apply below_drew1 | refine below_set ?_ GE228.out | refine below_set ?_ GE229.out) | exact HB.out)⟩⟩
                                · rw [if_neg c22] at H
                                  exact absurd H (by simp)
                              · rw [if_neg c21] at H
                                exact absurd H (by simp)
                            case rest =>
                              clear HC20
                              try clear c1
                              try clear p1
                              try clear q1
                              try clear hx1
                              try clear c2
                              try clear p2
                              try clear q2
                              try clear hx2
                              try clear c5
                              try clear c5b0
                              try clear c5b1
                              try clear c6
                              try clear c6b0
                              try clear c6b1
                              try clear p7
                              try clear q7
                              try clear hx7
                              try clear qi7
                              try clear c9
                              try clear c11
                              try clear c11b0
                              try clear c12
                              try clear c12b0
                              try clear p13
                              try clear q13
                              try clear hx13
                              try clear c14
                              try clear c15
                              try clear c15b0
                              try clear c16
                              try clear c16b0
                              try clear c17
                              try clear p17
                              try clear q17
                              try clear hx17
                              try clear c19
                              try clear c19b0
                              try clear c19b1
                              try clear c21
                              try clear c21b0
                              try clear c22
                              try clear c22b0
                              try clear p23
                              try clear q23
                              try clear hx23
                              try clear c24
                              try clear c24b0
                              try clear c24b1
                              try clear p25
                              try clear q25
                              try clear hx25
                              try clear p1
                              try clear p13
                              try clear p17
                              try clear p2
                              try clear p23
                              try clear p25
                              try clear p7
                              try clear q1
                              try clear q13
                              try clear q17
                              try clear q23
                              try clear q25
                              try clear q7
                              obtain ⟨kq, x42_19, rfl, HA, HJ19, BK228, BK229, HB⟩ := hcut
                              cases kq with
                              | zero => exact absurd HA.out (by simp [spoondriftref01_Parse.j5])
                              | succ kj19 =>
                                have H := HA.out
                                clear HA
                                simp only [spoondriftref01_Parse.j5] at H
                                have HC26 := Aside0.mk H
                                clear H
                                go_upto_if 42 with (fail)
                                go_cut [5] (fun v5 wc => ∃ (kq : Nat) (x5_25 : Int), v5 = .int .i64 x5_25 ∧ Aside0 (spoondriftref01_Parse.j6 kq a0 x5_25 x6_17 x5_3 x230000_3 x230001_3 x230002_3 x230003_3 0 = some (r1, r2, r3, r4, r5, r6)) ∧ Aside0 (kq ≤ kj19) ∧ Aside0 (wc.heap[gb228]? = some (.cells #[.int .i64 x229000_3, .int .i64 x229001_3, .int .i64 x229002_3, .int .i64 x229003_3, .int .i64 x229004_3] 23 (0, 0))) ∧ Aside0 (wc.heap[gb229]? = some (.cells #[.int .i64 x230000_3, .int .i64 x230001_3, .int .i64 x230002_3, .int .i64 x230003_3, .int .i64 0] 23 (0, 0))) ∧ Aside0 (Below w.heap.size w wc))
                                case first =>
                                  have H := HC26.out
                                  clear HC26
                                  by_cases c27 : x42_19 = true
                                  · subst c27
                                    have H1 : (spoondriftref01_Parse.j6 kj19 a0 (wrap64 (x5_3 + 1)) x6_17 x5_3 x230000_3 x230001_3 x230002_3 x230003_3 0) = some (r1, r2, r3, r4, r5, r6) := by rw [if_pos rfl] at H; exact H
                                    clear H
                                    have H := H1
                                    clear H1
                                    have H' := Aside0.mk H
                                    clear H
                                    go_wp2
                                    go_meet
                                    case rel => exact ⟨_, (wrap64 (x5_3 + 1)), (by first | rfl | (simp; done) | (simp [*]; done)), H', ⟨by have := HJ1.out; have := HJ7.out; have := HK3.out; have := HJ9.out; have := HJ17.out; have := HJ19.out; first | omega | exact Nat.le_refl _⟩, ⟨by (with_reducible repeat (first | refine blk_drewN ?_ _ | refine blk_drew ?_ | refine blk_alloc ?_ _)); exact BK228.out⟩, ⟨by (with_reducible repeat (first | refine blk_drewN ?_ _ | refine blk_drew ?_ | refine blk_alloc ?_ _)); exact BK229.out⟩, ⟨by repeat (first | (with_reducible first | exact HB.out | apply below_alloc | apply pw_below_drewN | apply below_drew1 | refine below_set ?_ GE228.out | refine below_set ?_ GE229.out) | exact HB.out)⟩⟩
                                  · replace c27 := Bool.eq_false_iff.mpr c27
                                    subst c27
                                    have H1 : (spoondriftref01_Parse.j6 kj19 a0 x5_3 x6_17 x5_3 x230000_3 x230001_3 x230002_3 x230003_3 0) = some (r1, r2, r3, r4, r5, r6) := by rw [if_neg (show ¬ (false = true) by decide)] at H; exact H
                                    clear H
                                    have H := H1
                                    clear H1
                                    have H' := Aside0.mk H
                                    clear H
                                    go_wp2
                                    go_meet
                                    case rel => exact ⟨_, (x5_3), (by first | rfl | (simp; done) | (simp [*]; done)), H', ⟨by have := HJ1.out; have := HJ7.out; have := HK3.out; have := HJ9.out; have := HJ17.out; have := HJ19.out; first | omega | exact Nat.le_refl _⟩, ⟨by (with_reducible repeat (first | refine blk_drewN ?_ _ | refine blk_drew ?_ | refine blk_alloc ?_ _)); exact BK228.out⟩, ⟨by (with_reducible repeat (first | refine blk_drewN ?_ _ | refine blk_drew ?_ | refine blk_alloc ?_ _)); exact BK229.out⟩, ⟨by repeat (first | (with_reducible first | exact HB.out | apply below_alloc | apply pw_below_drewN | apply below_drew1 | refine below_set ?_ GE228.out | refine below_set ?_ GE229.out) | exact HB.out)⟩⟩
                                case rest =>
                                  clear HC26
                                  try clear c1
                                  try clear p1
                                  try clear q1
                                  try clear hx1
                                  try clear c2
                                  try clear p2
                                  try clear q2
                                  try clear hx2
                                  try clear c5
                                  try clear c5b0
                                  try clear c5b1
                                  try clear c6
                                  try clear c6b0
                                  try clear c6b1
                                  try clear p6
                                  try clear p7
                                  try clear q7
                                  try clear hx7
                                  try clear qi7
                                  try clear c9
                                  try clear c11
                                  try clear c11b0
                                  try clear c12
                                  try clear c12b0
                                  try clear p13
                                  try clear q13
                                  try clear hx13
                                  try clear c14
                                  try clear c15
                                  try clear c15b0
                                  try clear c16
                                  try clear c16b0
                                  try clear c17
                                  try clear p17
                                  try clear q17
                                  try clear hx17
                                  try clear c19
                                  try clear c19b0
                                  try clear c19b1
                                  try clear c21
                                  try clear c21b0
                                  try clear c22
                                  try clear c22b0
                                  try clear p23
                                  try clear q23
                                  try clear hx23
                                  try clear c24
                                  try clear c24b0
                                  try clear c24b1
                                  try clear p25
                                  try clear q25
                                  try clear hx25
                                  try clear c27
                                  try clear p1
                                  try clear p13
                                  try clear p17
                                  try clear p2
                                  try clear p23
                                  try clear p25
                                  try clear p7
                                  try clear q1
                                  try clear q13
                                  try clear q17
                                  try clear q2
                                  try clear q23
                                  try clear q25
                                  try clear q7
                                  obtain ⟨kq, x5_25, rfl, HA, HJ25, BK228, BK229, HB⟩ := hcut
                                  cases kq with
                                  | zero => exact absurd HA.out (by simp [spoondriftref01_Parse.j6])
                                  | succ kj25 =>
                                    have H := HA.out
                                    clear HA
                                    simp only [spoondriftref01_Parse.j6] at H
                                    replace H := Option.bind_eq_some_iff.mp H
                                    obtain ⟨⟨t230, t231⟩, A280, H⟩ := H
                                    replace H : (if t231 = x5_25 then (spoondriftref01_Parse.j7 kj25 a0 x6_17 x5_3 1 t231 x230000_3 x230001_3 x230002_3 x230003_3 0) else (spoondriftref01_Parse.j7 kj25 a0 x6_17 x5_3 t230 t231 x230000_3 x230001_3 x230002_3 x230003_3 0)) = some (r1, r2, r3, r4, r5, r6) := H
                                    have A28 := Aside0.mk A280
                                    clear A280
                                    have HC29 := Aside0.mk H
                                    clear H
                                    go_upto_if 53 with (first | ((with_reducible refine gate_callee (f := 62) rfl ?_); refine goesL_ (some 48) rfl rfl Tryd.func62 (by kernel_rfl) rfl #[.string a0, .int .i64 x5_25] rfl (by (try simp only [List.map_toArray, List.map_cons, List.map_nil]); first | done | rfl | (simp only [List.length_drop, List.length_take]; rfl)) ?_; (with_reducible refine (spoondriftref01_number.calls kj25 a0 x5_25 t230 t231 _ A28.out).mono ?_); rintro e w30 ⟨rfl, hb⟩; refine ⟨_, rfl, ?_⟩; have n0_ := Aside0.mk (blk_below (g := gb228) (o := .cells #[.int .i64 x229000_3, .int .i64 x229001_3, .int .i64 x229002_3, .int .i64 x229003_3, .int .i64 x229004_3] 23 (0, 0)) (by (with_reducible repeat (first | refine blk_drewN ?_ _ | refine blk_drew ?_ | refine blk_alloc ?_ _)); exact BK228.out) hb); have n1_ := Aside0.mk (blk_below (g := gb229) (o := .cells #[.int .i64 x230000_3, .int .i64 x230001_3, .int .i64 x230002_3, .int .i64 x230003_3, .int .i64 0] 23 (0, 0)) (by (with_reducible repeat (first | refine blk_drewN ?_ _ | refine blk_drew ?_ | refine blk_alloc ?_ _)); exact BK229.out) hb); have n2_ := Aside0.mk (below_step (by repeat (first | (with_reducible first | exact HB.out | apply below_alloc | apply pw_below_drewN | apply below_drew1 | refine below_set ?_ GE228.out | refine below_set ?_ GE229.out) | exact HB.out)) hb); clear BK228; clear BK229; clear HB; have BK228 := n0_; have BK229 := n1_; have HB := n2_; clear n0_ n1_ n2_; (try clear hb); (try clear hb2); (try clear hk); (try clear hi)))
                                    (try simp only [Act.put, List.setIfInBounds_toArray, List.set_cons_zero, List.set_cons_succ])
                                    go_cut [8] (fun v8 wc => ∃ (kq : Nat) (x8_28 : Int), v8 = .int .i64 x8_28 ∧ Aside0 (spoondriftref01_Parse.j7 kq a0 x6_17 x5_3 x8_28 t231 x230000_3 x230001_3 x230002_3 x230003_3 0 = some (r1, r2, r3, r4, r5, r6)) ∧ Aside0 (kq ≤ kj25) ∧ Aside0 (wc.heap[gb228]? = some (.cells #[.int .i64 x229000_3, .int .i64 x229001_3, .int .i64 x229002_3, .int .i64 x229003_3, .int .i64 x229004_3] 23 (0, 0))) ∧ Aside0 (wc.heap[gb229]? = some (.cells #[.int .i64 x230000_3, .int .i64 x230001_3, .int .i64 x230002_3, .int .i64 x230003_3, .int .i64 0] 23 (0, 0))) ∧ Aside0 (Below w.heap.size w wc))
                                    case first =>
                                      have H := HC29.out
                                      clear HC29
                                      by_cases c31 : t231 = x5_25
                                      · rw [if_pos c31] at H
                                        have c31b0 : (t231 == x5_25) = true := beq_iff_eq.mpr c31
                                        have c31b1 : (t231 != x5_25) = false := bne_eq_false_iff_eq.mpr c31
                                        clear c31
                                        (first | rw [c31b0] | (simp only [i64_w, i32_w]; rw [c31b0]) | skip)
                                        have H' := Aside0.mk H
                                        clear H
                                        go_wp2
                                        go_meet
                                        case rel => exact ⟨_, (1), (by first | rfl | (simp; done) | (simp [*]; done)), H', ⟨by have := HJ1.out; have := HJ7.out; have := HK3.out; have := HJ9.out; have := HJ17.out; have := HJ19.out; have := HJ25.out; first | omega | exact Nat.le_refl _⟩, ⟨by (with_reducible repeat (first | refine blk_drewN ?_ _ | refine blk_drew ?_ | refine blk_alloc ?_ _)); exact BK228.out⟩, ⟨by (with_reducible repeat (first | refine blk_drewN ?_ _ | refine blk_drew ?_ | refine blk_alloc ?_ _)); exact BK229.out⟩, ⟨by repeat (first | (with_reducible first | exact HB.out | apply below_alloc | apply pw_below_drewN | apply below_drew1 | refine below_set ?_ GE228.out | refine below_set ?_ GE229.out) | exact HB.out)⟩⟩
                                      · rw [if_neg c31] at H
                                        have c31b0 : (t231 == x5_25) = false := beq_eq_false_iff_ne.mpr c31
                                        have c31b1 : (t231 != x5_25) = true := bne_iff_ne.mpr c31
                                        (first | rw [c31b0] | (simp only [i64_w, i32_w]; rw [c31b0]) | skip)
                                        have H' := Aside0.mk H
                                        clear H
                                        go_wp2
                                        go_meet
                                        case rel => exact ⟨_, (t230), (by first | rfl | (simp; done) | (simp [*]; done)), H', ⟨by have := HJ1.out; have := HJ7.out; have := HK3.out; have := HJ9.out; have := HJ17.out; have := HJ19.out; have := HJ25.out; first | omega | exact Nat.le_refl _⟩, ⟨by (with_reducible repeat (first | refine blk_drewN ?_ _ | refine blk_drew ?_ | refine blk_alloc ?_ _)); exact BK228.out⟩, ⟨by (with_reducible repeat (first | refine blk_drewN ?_ _ | refine blk_drew ?_ | refine blk_alloc ?_ _)); exact BK229.out⟩, ⟨by repeat (first | (with_reducible first | exact HB.out | apply below_alloc | apply pw_below_drewN | apply below_drew1 | refine below_set ?_ GE228.out | refine below_set ?_ GE229.out) | exact HB.out)⟩⟩
                                    case rest =>
                                      clear HC29
                                      try clear c1
                                      try clear p1
                                      try clear q1
                                      try clear hx1
                                      try clear c2
                                      try clear p2
                                      try clear q2
                                      try clear hx2
                                      try clear c3
                                      try clear c5
                                      try clear c5b0
                                      try clear c5b1
                                      try clear c6
                                      try clear c6b0
                                      try clear c6b1
                                      try clear p6
                                      try clear p7
                                      try clear q7
                                      try clear hx7
                                      try clear qi7
                                      try clear c9
                                      try clear c11
                                      try clear c11b0
                                      try clear c12
                                      try clear c12b0
                                      try clear p13
                                      try clear q13
                                      try clear hx13
                                      try clear c14
                                      try clear c15
                                      try clear c15b0
                                      try clear c16
                                      try clear c16b0
                                      try clear c17
                                      try clear p17
                                      try clear q17
                                      try clear hx17
                                      try clear c19
                                      try clear c19b0
                                      try clear c19b1
                                      try clear c21
                                      try clear c21b0
                                      try clear c22
                                      try clear c22b0
                                      try clear p23
                                      try clear q23
                                      try clear hx23
                                      try clear c24
                                      try clear c24b0
                                      try clear c24b1
                                      try clear p25
                                      try clear q25
                                      try clear hx25
                                      try clear c27
                                      try clear c31
                                      try clear c31b0
                                      try clear c31b1
                                      try clear p1
                                      try clear p13
                                      try clear p17
                                      try clear p2
                                      try clear p23
                                      try clear p25
                                      try clear p6
                                      try clear p7
                                      try clear q1
                                      try clear q13
                                      try clear q17
                                      try clear q2
                                      try clear q23
                                      try clear q25
                                      try clear q7
                                      obtain ⟨kq, x8_28, rfl, HA, HJ28, BK228, BK229, HB⟩ := hcut
                                      cases kq with
                                      | zero => exact absurd HA.out (by simp [spoondriftref01_Parse.j7])
                                      | succ kj28 =>
                                        have H := HA.out
                                        clear HA
                                        simp only [spoondriftref01_Parse.j7] at H
                                        have HC32 := Aside0.mk H
                                        clear H
                                        go_upto_region 16 with (fail)
                                        go_cut [64] (fun v64 wc => ∃ (kq : Nat) (x64_31 : Bool), v64 = .bool x64_31 ∧ Aside0 (spoondriftref01_Parse.j8 kq a0 t231 x6_17 x5_3 x8_28 0 x64_31 x230000_3 x230001_3 x230002_3 x230003_3 0 = some (r1, r2, r3, r4, r5, r6)) ∧ Aside0 (kq ≤ kj28) ∧ Aside0 (wc.heap[gb228]? = some (.cells #[.int .i64 x229000_3, .int .i64 x229001_3, .int .i64 x229002_3, .int .i64 x229003_3, .int .i64 x229004_3] 23 (0, 0))) ∧ Aside0 (wc.heap[gb229]? = some (.cells #[.int .i64 x230000_3, .int .i64 x230001_3, .int .i64 x230002_3, .int .i64 x230003_3, .int .i64 0] 23 (0, 0))) ∧ Aside0 (Below w.heap.size w wc))
                                        case first =>
                                          have H := HC32.out
                                          clear HC32
                                          by_cases c33 : t231 < (a0.size : Int)
                                          · rw [if_pos c33] at H
                                            have c33b0 : decide (t231 < (a0.size : Int)) = true := decide_eq_true c33
                                            clear c33
                                            (first | rw [c33b0] | (simp only [i64_w, i32_w]; rw [c33b0]) | skip)
                                            by_cases c34 : 0 ≤ t231
                                            · rw [if_pos c34] at H
                                              have c34b0 : decide (0 ≤ t231) = true := decide_eq_true c34
                                              clear c34
                                              have H' := Aside0.mk H
                                              clear H
                                              have p35 : 0 ≤ (t231 : Int) := of_decide_eq_true (by first | (with_reducible assumption) | assumption)
                                              have q35 : t231 < (a0.size : Int) := of_decide_eq_true (by first | (with_reducible assumption) | assumption)
                                              have hx35 := bt_at a0 t231
                                              replace p35 := eq_true p35
                                              replace q35 := eq_true q35
                                              go_wp2
                                              go_meet
                                              case rel => exact ⟨_, (((bt a0 t231) == 119)), (by first | rfl | (simp; done) | (simp [*]; done)), H', ⟨by have := HJ1.out; have := HJ7.out; have := HK3.out; have := HJ9.out; have := HJ17.out; have := HJ19.out; have := HJ25.out; have := HJ28.out; first | omega | exact Nat.le_refl _⟩, ⟨by (with_reducible repeat (first | refine blk_drewN ?_ _ | refine blk_drew ?_ | refine blk_alloc ?_ _)); exact BK228.out⟩, ⟨by (with_reducible repeat (first | refine blk_drewN ?_ _ | refine blk_drew ?_ | refine blk_alloc ?_ _)); exact BK229.out⟩, ⟨by repeat (first | (with_reducible first | exact HB.out | apply below_alloc | apply pw_below_drewN | apply below_drew1 | refine below_set ?_ GE228.out | refine below_set ?_ GE229.out) | exact HB.out)⟩⟩
                                            · rw [if_neg c34] at H
                                              exact absurd H (by simp)
                                          · rw [if_neg c33] at H
                                            have c33b0 : decide (t231 < (a0.size : Int)) = false := decide_eq_false c33
                                            clear c33
                                            (first | rw [c33b0] | (simp only [i64_w, i32_w]; rw [c33b0]) | skip)
                                            have H' := Aside0.mk H
                                            clear H
                                            go_wp2
                                            go_meet
                                            case rel => exact ⟨_, (false), (by first | rfl | (simp; done) | (simp [*]; done)), H', ⟨by have := HJ1.out; have := HJ7.out; have := HK3.out; have := HJ9.out; have := HJ17.out; have := HJ19.out; have := HJ25.out; have := HJ28.out; first | omega | exact Nat.le_refl _⟩, ⟨by (with_reducible repeat (first | refine blk_drewN ?_ _ | refine blk_drew ?_ | refine blk_alloc ?_ _)); exact BK228.out⟩, ⟨by (with_reducible repeat (first | refine blk_drewN ?_ _ | refine blk_drew ?_ | refine blk_alloc ?_ _)); exact BK229.out⟩, ⟨by repeat (first | (with_reducible first | exact HB.out | apply below_alloc | apply pw_below_drewN | apply below_drew1 | refine below_set ?_ GE228.out | refine below_set ?_ GE229.out) | exact HB.out)⟩⟩
                                        case rest =>
                                          clear HC32
                                          try clear c1
                                          try clear p1
                                          try clear q1
                                          try clear hx1
                                          try clear c2
                                          try clear p2
                                          try clear q2
                                          try clear hx2
                                          try clear c3
                                          try clear p3
                                          try clear q3
                                          try clear hx3
                                          try clear c5
                                          try clear c5b0
                                          try clear c5b1
                                          try clear c6
                                          try clear c6b0
                                          try clear c6b1
                                          try clear p6
                                          try clear p7
                                          try clear q7
                                          try clear hx7
                                          try clear qi7
                                          try clear c9
                                          try clear c11
                                          try clear c11b0
                                          try clear c12
                                          try clear c12b0
                                          try clear p13
                                          try clear q13
                                          try clear hx13
                                          try clear c14
                                          try clear c15
                                          try clear c15b0
                                          try clear c16
                                          try clear c16b0
                                          try clear c17
                                          try clear p17
                                          try clear q17
                                          try clear hx17
                                          try clear c19
                                          try clear c19b0
                                          try clear c19b1
                                          try clear c21
                                          try clear c21b0
                                          try clear c22
                                          try clear c22b0
                                          try clear p23
                                          try clear q23
                                          try clear hx23
                                          try clear c24
                                          try clear c24b0
                                          try clear c24b1
                                          try clear p25
                                          try clear q25
                                          try clear hx25
                                          try clear c27
                                          try clear c31
                                          try clear c31b0
                                          try clear c31b1
                                          try clear c33
                                          try clear c33b0
                                          try clear c34
                                          try clear c34b0
                                          try clear p35
                                          try clear q35
                                          try clear hx35
                                          try clear p1
                                          try clear p13
                                          try clear p17
                                          try clear p2
                                          try clear p23
                                          try clear p25
                                          try clear p35
                                          try clear p6
                                          try clear p7
                                          try clear q1
                                          try clear q13
                                          try clear q17
                                          try clear q2
                                          try clear q23
                                          try clear q25
                                          try clear q35
                                          try clear q7
                                          obtain ⟨kq, x64_31, rfl, HA, HJ31, BK228, BK229, HB⟩ := hcut
                                          cases kq with
                                          | zero => exact absurd HA.out (by simp [spoondriftref01_Parse.j8])
                                          | succ kj31 =>
                                            have H := HA.out
                                            clear HA
                                            simp only [spoondriftref01_Parse.j8] at H
                                            have HC36 := Aside0.mk H
                                            clear H
                                            go_upto_if 64 with (fail)
                                            go_cut [5, 10] (fun v5 v10 wc => ∃ (kq : Nat) (x5_35 : Int) (x10_35 : Int), v5 = .int .i64 x5_35 ∧ v10 = .int .i64 x10_35 ∧ Aside0 (spoondriftref01_Parse.j9 kq a0 x5_35 x6_17 x5_3 x8_28 x10_35 x230000_3 x230001_3 x230002_3 x230003_3 0 = some (r1, r2, r3, r4, r5, r6)) ∧ Aside0 (kq ≤ kj31) ∧ Aside0 (wc.heap[gb228]? = some (.cells #[.int .i64 x229000_3, .int .i64 x229001_3, .int .i64 x229002_3, .int .i64 x229003_3, .int .i64 x229004_3] 23 (0, 0))) ∧ Aside0 (wc.heap[gb229]? = some (.cells #[.int .i64 x230000_3, .int .i64 x230001_3, .int .i64 x230002_3, .int .i64 x230003_3, .int .i64 0] 23 (0, 0))) ∧ Aside0 (Below w.heap.size w wc))
                                            case first =>
                                              have H := HC36.out
                                              clear HC36
                                              by_cases c37 : x64_31 = true
                                              · subst c37
                                                have H1 : (if (wrap64 (t231 + 1)) < (a0.size : Int) then (if 0 ≤ (wrap64 (t231 + 1)) then (if (bt a0 (wrap64 (t231 + 1))) = 50 then (spoondriftref01_Parse.j9 kj31 a0 (wrap64 ((wrap64 (t231 + 1)) + 1)) x6_17 x5_3 x8_28 (((bt a0 (wrap64 (t231 + 1))) - 48) % 256) x230000_3 x230001_3 x230002_3 x230003_3 0) else (if (bt a0 (wrap64 (t231 + 1))) = 51 then (spoondriftref01_Parse.j9 kj31 a0 (wrap64 ((wrap64 (t231 + 1)) + 1)) x6_17 x5_3 x8_28 (((bt a0 (wrap64 (t231 + 1))) - 48) % 256) x230000_3 x230001_3 x230002_3 x230003_3 0) else (spoondriftref01_Parse.j9 kj31 a0 (wrap64 (t231 + 1)) x6_17 x5_3 x8_28 1 x230000_3 x230001_3 x230002_3 x230003_3 0))) else (none)) else (spoondriftref01_Parse.j9 kj31 a0 (wrap64 (t231 + 1)) x6_17 x5_3 x8_28 1 x230000_3 x230001_3 x230002_3 x230003_3 0)) = some (r1, r2, r3, r4, r5, r6) := by rw [if_pos rfl] at H; exact H
                                                clear H
                                                have H := H1
                                                clear H1
                                                by_cases c38 : (wrap64 (t231 + 1)) < (a0.size : Int)
                                                · rw [if_pos c38] at H
                                                  have c38b0 : decide ((wrap64 (t231 + 1)) < (a0.size : Int)) = true := decide_eq_true c38
                                                  clear c38
                                                  (first | rw [c38b0] | (simp only [i64_w, i32_w]; rw [c38b0]) | skip)
                                                  obtain ⟨ji39, hji39⟩ : ∃ j_ : Int, (wrap64 (t231 + 1)) = j_ := ⟨_, rfl⟩
                                                  replace H : (if 0 ≤ (ji39) then (if (bt a0 (ji39)) = 50 then (spoondriftref01_Parse.j9 kj31 a0 (wrap64 ((ji39) + 1)) x6_17 x5_3 x8_28 (((bt a0 (ji39)) - 48) % 256) x230000_3 x230001_3 x230002_3 x230003_3 0) else (if (bt a0 (ji39)) = 51 then (spoondriftref01_Parse.j9 kj31 a0 (wrap64 ((ji39) + 1)) x6_17 x5_3 x8_28 (((bt a0 (ji39)) - 48) % 256) x230000_3 x230001_3 x230002_3 x230003_3 0) else (spoondriftref01_Parse.j9 kj31 a0 ji39 x6_17 x5_3 x8_28 1 x230000_3 x230001_3 x230002_3 x230003_3 0))) else (none)) = some (r1, r2, r3, r4, r5, r6) := by first | (rw [hji39] at H; exact H) | (simp only [hji39] at H ⊢; exact H)
                                                  (try rw [hji39] at c38b0)
                                                  have hji39w : (IntKind.i64.wrap (t231 + 1)) = ji39 := (i64_w _).trans hji39
                                                  by_cases c40 : 0 ≤ (ji39)
                                                  · rw [if_pos c40] at H
                                                    have c40b0 : decide (0 ≤ (ji39)) = true := decide_eq_true c40
                                                    clear c40
                                                    by_cases c42 : (bt a0 (ji39)) = 50
                                                    · rw [if_pos c42] at H
                                                      have c42b0 : ((bt a0 (ji39)) == 50) = true := beq_iff_eq.mpr c42
                                                      have c42b1 : ((bt a0 (ji39)) != 50) = false := bne_eq_false_iff_eq.mpr c42
                                                      clear c42
                                                      have H' := Aside0.mk H
                                                      clear H
                                                      have p41 : 0 ≤ ((ji39) : Int) := of_decide_eq_true (by first | (with_reducible assumption) | assumption)
                                                      have q41 : (ji39) < (a0.size : Int) := of_decide_eq_true (by first | (with_reducible assumption) | assumption)
                                                      have hx41 := bt_at a0 (ji39)
                                                      replace p41 := eq_true p41
                                                      replace q41 := eq_true q41
                                                      have p43 : 0 ≤ ((ji39) : Int) := of_decide_eq_true (by first | (with_reducible assumption) | assumption)
                                                      have q43 : (ji39) < (a0.size : Int) := of_decide_eq_true (by first | (with_reducible assumption) | assumption)
                                                      have hx43 := bt_at a0 (ji39)
                                                      replace p43 := eq_true p43
                                                      replace q43 := eq_true q43
                                                      go_wp2
                                                      go_meet
                                                      case rel => exact ⟨_, (wrap64 ((ji39) + 1)), (((bt a0 (ji39)) - 48) % 256), (by first | rfl | (simp; done) | (simp only [← hji39] <;> (first | rfl | simp)) | (simp [*]; done)), (by first | rfl | (simp; done) | (simp only [← hji39] <;> (first | rfl | simp)) | (simp [*]; done)), H', ⟨by have := HJ1.out; have := HJ7.out; have := HK3.out; have := HJ9.out; have := HJ17.out; have := HJ19.out; have := HJ25.out; have := HJ28.out; have := HJ31.out; first | omega | exact Nat.le_refl _⟩, ⟨by (with_reducible repeat (first | refine blk_drewN ?_ _ | refine blk_drew ?_ | refine blk_alloc ?_ _)); exact BK228.out⟩, ⟨by (with_reducible repeat (first | refine blk_drewN ?_ _ | refine blk_drew ?_ | refine blk_alloc ?_ _)); exact BK229.out⟩, ⟨by repeat (first | (with_reducible first | exact HB.out | apply below_alloc | apply pw_below_drewN | apply below_drew1 | refine below_set ?_ GE228.out | refine below_set ?_ GE229.out) | exact HB.out)⟩⟩
                                                    · rw [if_neg c42] at H
                                                      have c42b0 : ((bt a0 (ji39)) == 50) = false := beq_eq_false_iff_ne.mpr c42
                                                      have c42b1 : ((bt a0 (ji39)) != 50) = true := bne_iff_ne.mpr c42
                                                      by_cases c45 : (bt a0 (ji39)) = 51
                                                      · rw [if_pos c45] at H
                                                        have c45b0 : ((bt a0 (ji39)) == 51) = true := beq_iff_eq.mpr c45
                                                        have c45b1 : ((bt a0 (ji39)) != 51) = false := bne_eq_false_iff_eq.mpr c45
                                                        clear c45
                                                        have H' := Aside0.mk H
                                                        clear H
                                                        have p41 : 0 ≤ ((ji39) : Int) := of_decide_eq_true (by first | (with_reducible assumption) | assumption)
                                                        have q41 : (ji39) < (a0.size : Int) := of_decide_eq_true (by first | (with_reducible assumption) | assumption)
                                                        have hx41 := bt_at a0 (ji39)
                                                        replace p41 := eq_true p41
                                                        replace q41 := eq_true q41
                                                        have p44 : 0 ≤ ((ji39) : Int) := of_decide_eq_true (by first | (with_reducible assumption) | assumption)
                                                        have q44 : (ji39) < (a0.size : Int) := of_decide_eq_true (by first | (with_reducible assumption) | assumption)
                                                        have hx44 := bt_at a0 (ji39)
                                                        replace p44 := eq_true p44
                                                        replace q44 := eq_true q44
                                                        have p46 : 0 ≤ ((ji39) : Int) := of_decide_eq_true (by first | (with_reducible assumption) | assumption)
                                                        have q46 : (ji39) < (a0.size : Int) := of_decide_eq_true (by first | (with_reducible assumption) | assumption)
                                                        have hx46 := bt_at a0 (ji39)
                                                        replace p46 := eq_true p46
                                                        replace q46 := eq_true q46
                                                        go_wp2
                                                        go_meet
                                                        case rel => exact ⟨_, (wrap64 ((ji39) + 1)), (((bt a0 (ji39)) - 48) % 256), (by first | rfl | (simp; done) | (simp only [← hji39] <;> (first | rfl | simp)) | (simp [*]; done)), (by first | rfl | (simp; done) | (simp only [← hji39] <;> (first | rfl | simp)) | (simp [*]; done)), H', ⟨by have := HJ1.out; have := HJ7.out; have := HK3.out; have := HJ9.out; have := HJ17.out; have := HJ19.out; have := HJ25.out; have := HJ28.out; have := HJ31.out; first | omega | exact Nat.le_refl _⟩, ⟨by (with_reducible repeat (first | refine blk_drewN ?_ _ | refine blk_drew ?_ | refine blk_alloc ?_ _)); exact BK228.out⟩, ⟨by (with_reducible repeat (first | refine blk_drewN ?_ _ | refine blk_drew ?_ | refine blk_alloc ?_ _)); exact BK229.out⟩, ⟨by repeat (first | (with_reducible first | exact HB.out | apply below_alloc | apply pw_below_drewN | apply below_drew1 | refine below_set ?_ GE228.out | refine below_set ?_ GE229.out) | exact HB.out)⟩⟩
                                                      · rw [if_neg c45] at H
                                                        have c45b0 : ((bt a0 (ji39)) == 51) = false := beq_eq_false_iff_ne.mpr c45
                                                        have c45b1 : ((bt a0 (ji39)) != 51) = true := bne_iff_ne.mpr c45
                                                        have H' := Aside0.mk H
                                                        clear H
                                                        have p41 : 0 ≤ ((ji39) : Int) := of_decide_eq_true (by first | (with_reducible assumption) | assumption)
                                                        have q41 : (ji39) < (a0.size : Int) := of_decide_eq_true (by first | (with_reducible assumption) | assumption)
                                                        have hx41 := bt_at a0 (ji39)
                                                        replace p41 := eq_true p41
                                                        replace q41 := eq_true q41
                                                        have p44 : 0 ≤ ((ji39) : Int) := of_decide_eq_true (by first | (with_reducible assumption) | assumption)
                                                        have q44 : (ji39) < (a0.size : Int) := of_decide_eq_true (by first | (with_reducible assumption) | assumption)
                                                        have hx44 := bt_at a0 (ji39)
                                                        replace p44 := eq_true p44
                                                        replace q44 := eq_true q44
                                                        go_wp2
                                                        go_meet
                                                        case rel => exact ⟨_, (ji39), (1), (by first | rfl | (simp; done) | (simp only [← hji39] <;> (first | rfl | simp)) | (simp [*]; done)), (by first | rfl | (simp; done) | (simp [*]; done)), H', ⟨by have := HJ1.out; have := HJ7.out; have := HK3.out; have := HJ9.out; have := HJ17.out; have := HJ19.out; have := HJ25.out; have := HJ28.out; have := HJ31.out; first | omega | exact Nat.le_refl _⟩, ⟨by (with_reducible repeat (first | refine blk_drewN ?_ _ | refine blk_drew ?_ | refine blk_alloc ?_ _)); exact BK228.out⟩, ⟨by (with_reducible repeat (first | refine blk_drewN ?_ _ | refine blk_drew ?_ | refine blk_alloc ?_ _)); exact BK229.out⟩, ⟨by repeat (first | (with_reducible first | exact HB.out | apply below_alloc | apply pw_below_drewN | apply below_drew1 | refine below_set ?_ GE228.out | refine below_set ?_ GE229.out) | exact HB.out)⟩⟩
                                                  · rw [if_neg c40] at H
                                                    exact absurd H (by simp)
                                                · rw [if_neg c38] at H
                                                  have c38b0 : decide ((wrap64 (t231 + 1)) < (a0.size : Int)) = false := decide_eq_false c38
                                                  clear c38
                                                  (first | rw [c38b0] | (simp only [i64_w, i32_w]; rw [c38b0]) | skip)
                                                  have H' := Aside0.mk H
                                                  clear H
                                                  go_wp2
                                                  go_meet
                                                  case rel => exact ⟨_, (wrap64 (t231 + 1)), (1), (by first | rfl | (simp; done) | (simp [*]; done)), (by first | rfl | (simp; done) | (simp [*]; done)), H', ⟨by have := HJ1.out; have := HJ7.out; have := HK3.out; have := HJ9.out; have := HJ17.out; have := HJ19.out; have := HJ25.out; have := HJ28.out; have := HJ31.out; first | omega | exact Nat.le_refl _⟩, ⟨by (with_reducible repeat (first | refine blk_drewN ?_ _ | refine blk_drew ?_ | refine blk_alloc ?_ _)); exact BK228.out⟩, ⟨by (with_reducible repeat (first | refine blk_drewN ?_ _ | refine blk_drew ?_ | refine blk_alloc ?_ _)); exact BK229.out⟩, ⟨by repeat (first | (with_reducible first | exact HB.out | apply below_alloc | apply pw_below_drewN | apply below_drew1 | refine below_set ?_ GE228.out | refine below_set ?_ GE229.out) | exact HB.out)⟩⟩
                                              · replace c37 := Bool.eq_false_iff.mpr c37
                                                subst c37
                                                have H1 : (spoondriftref01_Parse.j9 kj31 a0 t231 x6_17 x5_3 x8_28 0 x230000_3 x230001_3 x230002_3 x230003_3 0) = some (r1, r2, r3, r4, r5, r6) := by rw [if_neg (show ¬ (false = true) by decide)] at H; exact H
                                                clear H
                                                have H := H1
                                                clear H1
                                                have H' := Aside0.mk H
                                                clear H
                                                go_wp2
                                                go_meet
                                                case rel => exact ⟨_, (t231), (0), (by first | rfl | (simp; done) | (simp [*]; done)), (by first | rfl | (simp; done) | (simp [*]; done)), H', ⟨by have := HJ1.out; have := HJ7.out; have := HK3.out; have := HJ9.out; have := HJ17.out; have := HJ19.out; have := HJ25.out; have := HJ28.out; have := HJ31.out; first | omega | exact Nat.le_refl _⟩, ⟨by (with_reducible repeat (first | refine blk_drewN ?_ _ | refine blk_drew ?_ | refine blk_alloc ?_ _)); exact BK228.out⟩, ⟨by (with_reducible repeat (first | refine blk_drewN ?_ _ | refine blk_drew ?_ | refine blk_alloc ?_ _)); exact BK229.out⟩, ⟨by repeat (first | (with_reducible first | exact HB.out | apply below_alloc | apply pw_below_drewN | apply below_drew1 | refine below_set ?_ GE228.out | refine below_set ?_ GE229.out) | exact HB.out)⟩⟩
                                            case rest =>
                                              clear HC36
                                              try clear c1
                                              try clear p1
                                              try clear q1
                                              try clear hx1
                                              try clear c2
                                              try clear p2
                                              try clear q2
                                              try clear hx2
                                              try clear c3
                                              try clear p3
                                              try clear q3
                                              try clear hx3
                                              try clear c4
                                              try clear p4
                                              try clear q4
                                              try clear hx4
                                              try clear c5
                                              try clear c5b0
                                              try clear c5b1
                                              try clear c6
                                              try clear c6b0
                                              try clear c6b1
                                              try clear p6
                                              try clear p7
                                              try clear q7
                                              try clear hx7
                                              try clear qi7
                                              try clear c9
                                              try clear c11
                                              try clear c11b0
                                              try clear c12
                                              try clear c12b0
                                              try clear p13
                                              try clear q13
                                              try clear hx13
                                              try clear c14
                                              try clear c15
                                              try clear c15b0
                                              try clear c16
                                              try clear c16b0
                                              try clear c17
                                              try clear p17
                                              try clear q17
                                              try clear hx17
                                              try clear c19
                                              try clear c19b0
                                              try clear c19b1
                                              try clear c21
                                              try clear c21b0
                                              try clear c22
                                              try clear c22b0
                                              try clear p23
                                              try clear q23
                                              try clear hx23
                                              try clear c24
                                              try clear c24b0
                                              try clear c24b1
                                              try clear p25
                                              try clear q25
                                              try clear hx25
                                              try clear c27
                                              try clear c31
                                              try clear c31b0
                                              try clear c31b1
                                              try clear c33
                                              try clear c33b0
                                              try clear c34
                                              try clear c34b0
                                              try clear p35
                                              try clear q35
                                              try clear hx35
                                              try clear c37
                                              try clear c38
                                              try clear c38b0
                                              try clear c40
                                              try clear c40b0
                                              try clear p41
                                              try clear q41
                                              try clear hx41
                                              try clear c42
                                              try clear c42b0
                                              try clear c42b1
                                              try clear p43
                                              try clear q43
                                              try clear hx43
                                              try clear p44
                                              try clear q44
                                              try clear hx44
                                              try clear c45
                                              try clear c45b0
                                              try clear c45b1
                                              try clear p46
                                              try clear q46
                                              try clear hx46
                                              try clear p1
                                              try clear p13
                                              try clear p17
                                              try clear p2
                                              try clear p23
                                              try clear p25
                                              try clear p3
                                              try clear p35
                                              try clear p41
                                              try clear p43
                                              try clear p44
                                              try clear p46
                                              try clear p6
                                              try clear p7
                                              try clear q1
                                              try clear q13
                                              try clear q17
                                              try clear q2
                                              try clear q23
                                              try clear q25
                                              try clear q3
                                              try clear q35
                                              try clear q41
                                              try clear q43
                                              try clear q44
                                              try clear q46
                                              try clear q7
                                              obtain ⟨kq, x5_35, x10_35, rfl, rfl, HA, HJ35, BK228, BK229, HB⟩ := hcut
                                              cases kq with
                                              | zero => exact absurd HA.out (by simp [spoondriftref01_Parse.j9])
                                              | succ kj35 =>
                                                have H := HA.out
                                                clear HA
                                                simp only [spoondriftref01_Parse.j9] at H
                                                by_cases c47 : x5_35 = x5_3
                                                · rw [if_pos c47] at H
                                                  have c47b0 : (x5_35 == x5_3) = true := beq_iff_eq.mpr c47
                                                  have c47b1 : (x5_35 != x5_3) = false := bne_eq_false_iff_eq.mpr c47
                                                  clear c47
                                                  simp only [Option.some.injEq, Prod.mk.injEq] at H
                                                  obtain ⟨rfl, rfl, rfl, rfl, rfl, rfl⟩ := H
                                                  have hnb48 := NB228_229.out
                                                  have hnc48 := NB229_228.out
                                                  have hcz49_0 : wc.cell? ⟨gb228, 0, none⟩ = some (.int .i64 x229000_3) := (blk_cell BK228.out 0).trans rfl
                                                  have hcz49_1 : wc.cell? ⟨gb228, 1, none⟩ = some (.int .i64 x229001_3) := (blk_cell BK228.out 1).trans rfl
                                                  have hcz49_2 : wc.cell? ⟨gb228, 2, none⟩ = some (.int .i64 x229002_3) := (blk_cell BK228.out 2).trans rfl
                                                  have hcz49_3 : wc.cell? ⟨gb228, 3, none⟩ = some (.int .i64 x229003_3) := (blk_cell BK228.out 3).trans rfl
                                                  have hcz49_4 : wc.cell? ⟨gb228, 4, none⟩ = some (.int .i64 x229004_3) := (blk_cell BK228.out 4).trans rfl
                                                  have hfz49_0 := blk_frozen BK228.out 0
                                                  have hfz49_1 := blk_frozen BK228.out 1
                                                  have hfz49_2 := blk_frozen BK228.out 2
                                                  have hfz49_3 := blk_frozen BK228.out 3
                                                  have hfz49_4 := blk_frozen BK228.out 4
                                                  go_wp2
                                                  refine bodyPost_ret (results_ct rfl _ _ gb228 23 #[.int .i64 0, .int .i64 0, .int .i64 0, .int .i64 0, .int .i64 0] (0, 0) _ rfl (by (with_reducible repeat (first | refine blk_drewN ?_ _ | refine blk_drew ?_ | refine blk_alloc ?_ _)); refine blk_put (cs := #[.int .i64 0, .int .i64 0, .int .i64 0, .int .i64 0, .int .i64 x229004_3]) ?_ 4 _ rfl; (with_reducible repeat (first | refine blk_drewN ?_ _ | refine blk_drew ?_ | refine blk_alloc ?_ _)); refine blk_put (cs := #[.int .i64 0, .int .i64 0, .int .i64 0, .int .i64 x229003_3, .int .i64 x229004_3]) ?_ 3 _ rfl; (with_reducible repeat (first | refine blk_drewN ?_ _ | refine blk_drew ?_ | refine blk_alloc ?_ _)); refine blk_put (cs := #[.int .i64 0, .int .i64 0, .int .i64 x229002_3, .int .i64 x229003_3, .int .i64 x229004_3]) ?_ 2 _ rfl; (with_reducible repeat (first | refine blk_drewN ?_ _ | refine blk_drew ?_ | refine blk_alloc ?_ _)); refine blk_put (cs := #[.int .i64 0, .int .i64 x229001_3, .int .i64 x229002_3, .int .i64 x229003_3, .int .i64 x229004_3]) ?_ 1 _ rfl; (with_reducible repeat (first | refine blk_drewN ?_ _ | refine blk_drew ?_ | refine blk_alloc ?_ _)); refine blk_put (cs := #[.int .i64 x229000_3, .int .i64 x229001_3, .int .i64 x229002_3, .int .i64 x229003_3, .int .i64 x229004_3]) ?_ 0 _ rfl; (with_reducible repeat (first | refine blk_drewN ?_ _ | refine blk_drew ?_ | refine blk_alloc ?_ _)); exact BK228.out) Tryd.underlying23 rfl (by kernel_rfl)) rfl ?_
                                                  exact ⟨by first | rfl | (simp [errW_none, errW_some] <;> rfl) | (simp [*, errW_none, errW_some] <;> rfl), by repeat (first | (with_reducible first | exact HB.out | apply below_alloc | apply pw_below_drewN | apply below_drew1 | refine below_set ?_ GE228.out | refine below_set ?_ GE229.out) | exact HB.out)⟩
                                                · rw [if_neg c47] at H
                                                  have c47b0 : (x5_35 == x5_3) = false := beq_eq_false_iff_ne.mpr c47
                                                  have c47b1 : (x5_35 != x5_3) = true := bne_iff_ne.mpr c47
                                                  by_cases c50 : x10_35 = 0
                                                  · rw [if_pos c50] at H
                                                    have c50b0 : (x10_35 == 0) = true := beq_iff_eq.mpr c50
                                                    have c50b1 : (x10_35 != 0) = false := bne_eq_false_iff_eq.mpr c50
                                                    clear c50
                                                    have H' := Aside0.mk H
                                                    clear H
                                                    have hnb51 := NB229_228.out
                                                    have hnc51 := NB228_229.out
                                                    have hcz52_0 : wc.cell? ⟨gb229, 0, none⟩ = some (.int .i64 x230000_3) := (blk_cell BK229.out 0).trans rfl
                                                    have hcz52_1 : wc.cell? ⟨gb229, 1, none⟩ = some (.int .i64 x230001_3) := (blk_cell BK229.out 1).trans rfl
                                                    have hcz52_2 : wc.cell? ⟨gb229, 2, none⟩ = some (.int .i64 x230002_3) := (blk_cell BK229.out 2).trans rfl
                                                    have hcz52_3 : wc.cell? ⟨gb229, 3, none⟩ = some (.int .i64 x230003_3) := (blk_cell BK229.out 3).trans rfl
                                                    have hcz52_4 : wc.cell? ⟨gb229, 4, none⟩ = some (.int .i64 0) := (blk_cell BK229.out 4).trans rfl
                                                    have hfz52_0 := blk_frozen BK229.out 0
                                                    have hfz52_1 := blk_frozen BK229.out 1
                                                    have hfz52_2 := blk_frozen BK229.out 2
                                                    have hfz52_3 := blk_frozen BK229.out 3
                                                    have hfz52_4 := blk_frozen BK229.out 4
                                                    go_wp2
                                                    go_roundg kj35
                                                    case measure => have := HJ1.out; have := HJ7.out; have := HK3.out; have := HJ9.out; have := HJ17.out; have := HJ19.out; have := HJ25.out; have := HJ28.out; have := HJ31.out; have := HJ35.out; omega
                                                    case rel => exact ⟨(x5_35), (x229000_3), (x229001_3), (x229002_3), (x229003_3), (x229004_3), (wrap64 (x6_17 * x8_28)), (x230001_3), (x230002_3), (x230003_3), (by first | rfl | (simp; done) | (simp [*]; done)), H', ⟨by have := HJ1.out; have := HJ7.out; have := HK3.out; have := HJ9.out; have := HJ17.out; have := HJ19.out; have := HJ25.out; have := HJ28.out; have := HJ31.out; have := HJ35.out; omega⟩, ⟨by (with_reducible repeat (first | refine blk_drewN ?_ _ | refine blk_drew ?_ | refine blk_alloc ?_ _)); refine blk_far ?_ NB228_229.out _; (with_reducible repeat (first | refine blk_drewN ?_ _ | refine blk_drew ?_ | refine blk_alloc ?_ _)); exact BK228.out⟩, ⟨by (with_reducible repeat (first | refine blk_drewN ?_ _ | refine blk_drew ?_ | refine blk_alloc ?_ _)); refine blk_put (cs := #[.int .i64 x230000_3, .int .i64 x230001_3, .int .i64 x230002_3, .int .i64 x230003_3, .int .i64 0]) ?_ 0 _ rfl; (with_reducible repeat (first | refine blk_drewN ?_ _ | refine blk_drew ?_ | refine blk_alloc ?_ _)); exact BK229.out⟩, ⟨by repeat (first | (with_reducible first | exact HB.out | apply below_alloc | apply pw_below_drewN | apply below_drew1 | refine below_set ?_ GE228.out | refine below_set ?_ GE229.out) | exact HB.out)⟩⟩
                                                  · rw [if_neg c50] at H
                                                    have c50b0 : (x10_35 == 0) = false := beq_eq_false_iff_ne.mpr c50
                                                    have c50b1 : (x10_35 != 0) = true := bne_iff_ne.mpr c50
                                                    by_cases c53 : x10_35 = 1
                                                    · rw [if_pos c53] at H
                                                      have c53b0 : (x10_35 == 1) = true := beq_iff_eq.mpr c53
                                                      have c53b1 : (x10_35 != 1) = false := bne_eq_false_iff_eq.mpr c53
                                                      clear c53
                                                      have H' := Aside0.mk H
                                                      clear H
                                                      have hnb54 := NB229_228.out
                                                      have hnc54 := NB228_229.out
                                                      have hcz55_0 : wc.cell? ⟨gb229, 0, none⟩ = some (.int .i64 x230000_3) := (blk_cell BK229.out 0).trans rfl
                                                      have hcz55_1 : wc.cell? ⟨gb229, 1, none⟩ = some (.int .i64 x230001_3) := (blk_cell BK229.out 1).trans rfl
                                                      have hcz55_2 : wc.cell? ⟨gb229, 2, none⟩ = some (.int .i64 x230002_3) := (blk_cell BK229.out 2).trans rfl
                                                      have hcz55_3 : wc.cell? ⟨gb229, 3, none⟩ = some (.int .i64 x230003_3) := (blk_cell BK229.out 3).trans rfl
                                                      have hcz55_4 : wc.cell? ⟨gb229, 4, none⟩ = some (.int .i64 0) := (blk_cell BK229.out 4).trans rfl
                                                      have hfz55_0 := blk_frozen BK229.out 0
                                                      have hfz55_1 := blk_frozen BK229.out 1
                                                      have hfz55_2 := blk_frozen BK229.out 2
                                                      have hfz55_3 := blk_frozen BK229.out 3
                                                      have hfz55_4 := blk_frozen BK229.out 4
                                                      go_wp2
                                                      go_roundg kj35
                                                      case measure => have := HJ1.out; have := HJ7.out; have := HK3.out; have := HJ9.out; have := HJ17.out; have := HJ19.out; have := HJ25.out; have := HJ28.out; have := HJ31.out; have := HJ35.out; omega
                                                      case rel => exact ⟨(x5_35), (x229000_3), (x229001_3), (x229002_3), (x229003_3), (x229004_3), (x230000_3), (wrap64 (x6_17 * x8_28)), (x230002_3), (x230003_3), (by first | rfl | (simp; done) | (simp [*]; done)), H', ⟨by have := HJ1.out; have := HJ7.out; have := HK3.out; have := HJ9.out; have := HJ17.out; have := HJ19.out; have := HJ25.out; have := HJ28.out; have := HJ31.out; have := HJ35.out; omega⟩, ⟨by (with_reducible repeat (first | refine blk_drewN ?_ _ | refine blk_drew ?_ | refine blk_alloc ?_ _)); refine blk_far ?_ NB228_229.out _; (with_reducible repeat (first | refine blk_drewN ?_ _ | refine blk_drew ?_ | refine blk_alloc ?_ _)); exact BK228.out⟩, ⟨by (with_reducible repeat (first | refine blk_drewN ?_ _ | refine blk_drew ?_ | refine blk_alloc ?_ _)); refine blk_put (cs := #[.int .i64 x230000_3, .int .i64 x230001_3, .int .i64 x230002_3, .int .i64 x230003_3, .int .i64 0]) ?_ 1 _ rfl; (with_reducible repeat (first | refine blk_drewN ?_ _ | refine blk_drew ?_ | refine blk_alloc ?_ _)); exact BK229.out⟩, ⟨by repeat (first | (with_reducible first | exact HB.out | apply below_alloc | apply pw_below_drewN | apply below_drew1 | refine below_set ?_ GE228.out | refine below_set ?_ GE229.out) | exact HB.out)⟩⟩
                                                    · rw [if_neg c53] at H
                                                      have c53b0 : (x10_35 == 1) = false := beq_eq_false_iff_ne.mpr c53
                                                      have c53b1 : (x10_35 != 1) = true := bne_iff_ne.mpr c53
                                                      by_cases c56 : x10_35 = 2
                                                      · rw [if_pos c56] at H
                                                        have c56b0 : (x10_35 == 2) = true := beq_iff_eq.mpr c56
                                                        have c56b1 : (x10_35 != 2) = false := bne_eq_false_iff_eq.mpr c56
                                                        clear c56
                                                        have H' := Aside0.mk H
                                                        clear H
                                                        have hnb57 := NB229_228.out
                                                        have hnc57 := NB228_229.out
                                                        have hcz58_0 : wc.cell? ⟨gb229, 0, none⟩ = some (.int .i64 x230000_3) := (blk_cell BK229.out 0).trans rfl
                                                        have hcz58_1 : wc.cell? ⟨gb229, 1, none⟩ = some (.int .i64 x230001_3) := (blk_cell BK229.out 1).trans rfl
                                                        have hcz58_2 : wc.cell? ⟨gb229, 2, none⟩ = some (.int .i64 x230002_3) := (blk_cell BK229.out 2).trans rfl
                                                        have hcz58_3 : wc.cell? ⟨gb229, 3, none⟩ = some (.int .i64 x230003_3) := (blk_cell BK229.out 3).trans rfl
                                                        have hcz58_4 : wc.cell? ⟨gb229, 4, none⟩ = some (.int .i64 0) := (blk_cell BK229.out 4).trans rfl
                                                        have hfz58_0 := blk_frozen BK229.out 0
                                                        have hfz58_1 := blk_frozen BK229.out 1
                                                        have hfz58_2 := blk_frozen BK229.out 2
                                                        have hfz58_3 := blk_frozen BK229.out 3
                                                        have hfz58_4 := blk_frozen BK229.out 4
                                                        go_wp2
                                                        go_roundg kj35
                                                        case measure => have := HJ1.out; have := HJ7.out; have := HK3.out; have := HJ9.out; have := HJ17.out; have := HJ19.out; have := HJ25.out; have := HJ28.out; have := HJ31.out; have := HJ35.out; omega
                                                        case rel => exact ⟨(x5_35), (x229000_3), (x229001_3), (x229002_3), (x229003_3), (x229004_3), (x230000_3), (x230001_3), (wrap64 (x6_17 * x8_28)), (x230003_3), (by first | rfl | (simp; done) | (simp [*]; done)), H', ⟨by have := HJ1.out; have := HJ7.out; have := HK3.out; have := HJ9.out; have := HJ17.out; have := HJ19.out; have := HJ25.out; have := HJ28.out; have := HJ31.out; have := HJ35.out; omega⟩, ⟨by (with_reducible repeat (first | refine blk_drewN ?_ _ | refine blk_drew ?_ | refine blk_alloc ?_ _)); refine blk_far ?_ NB228_229.out _; (with_reducible repeat (first | refine blk_drewN ?_ _ | refine blk_drew ?_ | refine blk_alloc ?_ _)); exact BK228.out⟩, ⟨by (with_reducible repeat (first | refine blk_drewN ?_ _ | refine blk_drew ?_ | refine blk_alloc ?_ _)); refine blk_put (cs := #[.int .i64 x230000_3, .int .i64 x230001_3, .int .i64 x230002_3, .int .i64 x230003_3, .int .i64 0]) ?_ 2 _ rfl; (with_reducible repeat (first | refine blk_drewN ?_ _ | refine blk_drew ?_ | refine blk_alloc ?_ _)); exact BK229.out⟩, ⟨by repeat (first | (with_reducible first | exact HB.out | apply below_alloc | apply pw_below_drewN | apply below_drew1 | refine below_set ?_ GE228.out | refine below_set ?_ GE229.out) | exact HB.out)⟩⟩
                                                      · rw [if_neg c56] at H
                                                        have c56b0 : (x10_35 == 2) = false := beq_eq_false_iff_ne.mpr c56
                                                        have c56b1 : (x10_35 != 2) = true := bne_iff_ne.mpr c56
                                                        have H' := Aside0.mk H
                                                        clear H
                                                        have hnb59 := NB229_228.out
                                                        have hnc59 := NB228_229.out
                                                        have hcz60_0 : wc.cell? ⟨gb229, 0, none⟩ = some (.int .i64 x230000_3) := (blk_cell BK229.out 0).trans rfl
                                                        have hcz60_1 : wc.cell? ⟨gb229, 1, none⟩ = some (.int .i64 x230001_3) := (blk_cell BK229.out 1).trans rfl
                                                        have hcz60_2 : wc.cell? ⟨gb229, 2, none⟩ = some (.int .i64 x230002_3) := (blk_cell BK229.out 2).trans rfl
                                                        have hcz60_3 : wc.cell? ⟨gb229, 3, none⟩ = some (.int .i64 x230003_3) := (blk_cell BK229.out 3).trans rfl
                                                        have hcz60_4 : wc.cell? ⟨gb229, 4, none⟩ = some (.int .i64 0) := (blk_cell BK229.out 4).trans rfl
                                                        have hfz60_0 := blk_frozen BK229.out 0
                                                        have hfz60_1 := blk_frozen BK229.out 1
                                                        have hfz60_2 := blk_frozen BK229.out 2
                                                        have hfz60_3 := blk_frozen BK229.out 3
                                                        have hfz60_4 := blk_frozen BK229.out 4
                                                        go_wp2
                                                        go_roundg kj35
                                                        case measure => have := HJ1.out; have := HJ7.out; have := HK3.out; have := HJ9.out; have := HJ17.out; have := HJ19.out; have := HJ25.out; have := HJ28.out; have := HJ31.out; have := HJ35.out; omega
                                                        case rel => exact ⟨(x5_35), (x229000_3), (x229001_3), (x229002_3), (x229003_3), (x229004_3), (x230000_3), (x230001_3), (x230002_3), (wrap64 (x6_17 * x8_28)), (by first | rfl | (simp; done) | (simp [*]; done)), H', ⟨by have := HJ1.out; have := HJ7.out; have := HK3.out; have := HJ9.out; have := HJ17.out; have := HJ19.out; have := HJ25.out; have := HJ28.out; have := HJ31.out; have := HJ35.out; omega⟩, ⟨by (with_reducible repeat (first | refine blk_drewN ?_ _ | refine blk_drew ?_ | refine blk_alloc ?_ _)); refine blk_far ?_ NB228_229.out _; (with_reducible repeat (first | refine blk_drewN ?_ _ | refine blk_drew ?_ | refine blk_alloc ?_ _)); exact BK228.out⟩, ⟨by (with_reducible repeat (first | refine blk_drewN ?_ _ | refine blk_drew ?_ | refine blk_alloc ?_ _)); refine blk_put (cs := #[.int .i64 x230000_3, .int .i64 x230001_3, .int .i64 x230002_3, .int .i64 x230003_3, .int .i64 0]) ?_ 3 _ rfl; (with_reducible repeat (first | refine blk_drewN ?_ _ | refine blk_drew ?_ | refine blk_alloc ?_ _)); exact BK229.out⟩, ⟨by repeat (first | (with_reducible first | exact HB.out | apply below_alloc | apply pw_below_drewN | apply below_drew1 | refine below_set ?_ GE228.out | refine below_set ?_ GE229.out) | exact HB.out)⟩⟩
                      · rw [if_neg c16] at H
                        exact absurd H (by simp)
                    · rw [if_neg c15] at H
                      exact absurd H (by simp)
                  · replace c14 := Bool.eq_false_iff.mpr c14
                    subst c14
                    have H1 : (if (wrap64 (x5_3 + 2)) < (a0.size : Int) then ((spoondriftref01_number.f kj9 a0 (wrap64 (x5_3 + 3))).bind fun bt232 => (spoondriftref01_Parse.j10 kj9 a0 x230000_3 x230001_3 x230002_3 x230003_3 bt232.1)) else (spoondriftref01_Parse.j10 kj9 a0 x230000_3 x230001_3 x230002_3 x230003_3 0)) = some (r1, r2, r3, r4, r5, r6) := by rw [if_neg (show ¬ (false = true) by decide)] at H; exact H
                    clear H
                    have H := H1
                    clear H1
                    have HC61 := Aside0.mk H
                    clear H
                    go_upto_if 121 with (fail)
                    go_cut [] (fun wc => ∃ (kq : Nat) (x230004_60 : Int), Aside0 (spoondriftref01_Parse.j10 kq a0 x230000_3 x230001_3 x230002_3 x230003_3 x230004_60 = some (r1, r2, r3, r4, r5, r6)) ∧ Aside0 (kq ≤ kj9) ∧ Aside0 (wc.heap[gb228]? = some (.cells #[.int .i64 x229000_3, .int .i64 x229001_3, .int .i64 x229002_3, .int .i64 x229003_3, .int .i64 x229004_3] 23 (0, 0))) ∧ Aside0 (wc.heap[gb229]? = some (.cells #[.int .i64 x230000_3, .int .i64 x230001_3, .int .i64 x230002_3, .int .i64 x230003_3, .int .i64 x230004_60] 23 (0, 0))) ∧ Aside0 (Below w.heap.size w wc))
                    case first =>
                      have H := HC61.out
                      clear HC61
                      by_cases c62 : (wrap64 (x5_3 + 2)) < (a0.size : Int)
                      · rw [if_pos c62] at H
                        have c62b0 : decide ((wrap64 (x5_3 + 2)) < (a0.size : Int)) = true := decide_eq_true c62
                        clear c62
                        (first | rw [c62b0] | (simp only [i64_w, i32_w]; rw [c62b0]) | skip)
                        replace H := Option.bind_eq_some_iff.mp H
                        obtain ⟨⟨t232, t233⟩, A630, H⟩ := H
                        replace H : (spoondriftref01_Parse.j10 kj9 a0 x230000_3 x230001_3 x230002_3 x230003_3 t232) = some (r1, r2, r3, r4, r5, r6) := H
                        have A63 := Aside0.mk A630
                        clear A630
                        have H' := Aside0.mk H
                        clear H
                        go_wp2_with (first | ((with_reducible refine gate_callee (f := 62) rfl ?_); refine goesL_ (some 126) rfl rfl Tryd.func62 (by kernel_rfl) rfl #[.string a0, .int .i64 (wrap64 (x5_3 + 3))] rfl (by (try simp only [List.map_toArray, List.map_cons, List.map_nil]); first | done | rfl | (simp only [List.length_drop, List.length_take]; rfl)) ?_; (with_reducible refine (spoondriftref01_number.calls kj9 a0 (wrap64 (x5_3 + 3)) t232 t233 _ A63.out).mono ?_); rintro e w64 ⟨rfl, hb⟩; refine ⟨_, rfl, ?_⟩; have n0_ := Aside0.mk (blk_below (g := gb228) (o := .cells #[.int .i64 x229000_3, .int .i64 x229001_3, .int .i64 x229002_3, .int .i64 x229003_3, .int .i64 x229004_3] 23 (0, 0)) (by (with_reducible repeat (first | refine blk_drewN ?_ _ | refine blk_drew ?_ | refine blk_alloc ?_ _)); exact BK228.out) hb); have n1_ := Aside0.mk (blk_below (g := gb229) (o := .cells #[.int .i64 x230000_3, .int .i64 x230001_3, .int .i64 x230002_3, .int .i64 x230003_3, .int .i64 0] 23 (0, 0)) (by (with_reducible repeat (first | refine blk_drewN ?_ _ | refine blk_drew ?_ | refine blk_alloc ?_ _)); exact BK229.out) hb); have n2_ := Aside0.mk (below_step (by repeat (first | (with_reducible first | exact HB.out | apply below_alloc | apply pw_below_drewN | apply below_drew1 | refine below_set ?_ GE228.out | refine below_set ?_ GE229.out) | exact HB.out)) hb); clear BK228; clear BK229; clear HB; have BK228 := n0_; have BK229 := n1_; have HB := n2_; clear n0_ n1_ n2_; (try clear hb); (try clear hb2); (try clear hk); (try clear hi); have hnb65 := NB229_228.out; have hnc65 := NB228_229.out; have hcz66_0 : w64.cell? ⟨gb229, 0, none⟩ = some (.int .i64 x230000_3) := (blk_cell BK229.out 0).trans rfl; have hcz66_1 : w64.cell? ⟨gb229, 1, none⟩ = some (.int .i64 x230001_3) := (blk_cell BK229.out 1).trans rfl; have hcz66_2 : w64.cell? ⟨gb229, 2, none⟩ = some (.int .i64 x230002_3) := (blk_cell BK229.out 2).trans rfl; have hcz66_3 : w64.cell? ⟨gb229, 3, none⟩ = some (.int .i64 x230003_3) := (blk_cell BK229.out 3).trans rfl; have hcz66_4 : w64.cell? ⟨gb229, 4, none⟩ = some (.int .i64 0) := (blk_cell BK229.out 4).trans rfl; have hfz66_0 := blk_frozen BK229.out 0; have hfz66_1 := blk_frozen BK229.out 1; have hfz66_2 := blk_frozen BK229.out 2; have hfz66_3 := blk_frozen BK229.out 3; have hfz66_4 := blk_frozen BK229.out 4))
                        go_meet
                        case rel => exact ⟨_, (t232), H', ⟨by have := HJ1.out; have := HJ7.out; have := HK3.out; have := HJ9.out; first | omega | exact Nat.le_refl _⟩, ⟨by (with_reducible repeat (first | refine blk_drewN ?_ _ | refine blk_drew ?_ | refine blk_alloc ?_ _)); refine blk_far ?_ NB228_229.out _; (with_reducible repeat (first | refine blk_drewN ?_ _ | refine blk_drew ?_ | refine blk_alloc ?_ _)); exact BK228.out⟩, ⟨by (with_reducible repeat (first | refine blk_drewN ?_ _ | refine blk_drew ?_ | refine blk_alloc ?_ _)); refine blk_put (cs := #[.int .i64 x230000_3, .int .i64 x230001_3, .int .i64 x230002_3, .int .i64 x230003_3, .int .i64 0]) ?_ 4 _ rfl; (with_reducible repeat (first | refine blk_drewN ?_ _ | refine blk_drew ?_ | refine blk_alloc ?_ _)); exact BK229.out⟩, ⟨by repeat (first | (with_reducible first | exact HB.out | apply below_alloc | apply pw_below_drewN | apply below_drew1 | refine below_set ?_ GE228.out | refine below_set ?_ GE229.out) | exact HB.out)⟩⟩
                      · rw [if_neg c62] at H
                        have c62b0 : decide ((wrap64 (x5_3 + 2)) < (a0.size : Int)) = false := decide_eq_false c62
                        clear c62
                        (first | rw [c62b0] | (simp only [i64_w, i32_w]; rw [c62b0]) | skip)
                        have H' := Aside0.mk H
                        clear H
                        go_wp2
                        go_meet
                        case rel => exact ⟨_, (0), H', ⟨by have := HJ1.out; have := HJ7.out; have := HK3.out; have := HJ9.out; first | omega | exact Nat.le_refl _⟩, ⟨by (with_reducible repeat (first | refine blk_drewN ?_ _ | refine blk_drew ?_ | refine blk_alloc ?_ _)); exact BK228.out⟩, ⟨by (with_reducible repeat (first | refine blk_drewN ?_ _ | refine blk_drew ?_ | refine blk_alloc ?_ _)); exact BK229.out⟩, ⟨by repeat (first | (with_reducible first | exact HB.out | apply below_alloc | apply pw_below_drewN | apply below_drew1 | refine below_set ?_ GE228.out | refine below_set ?_ GE229.out) | exact HB.out)⟩⟩
                    case rest =>
                      clear HC61
                      try clear c1
                      try clear p1
                      try clear q1
                      try clear hx1
                      try clear c2
                      try clear p2
                      try clear q2
                      try clear hx2
                      try clear c3
                      try clear p3
                      try clear q3
                      try clear hx3
                      try clear c4
                      try clear p4
                      try clear q4
                      try clear hx4
                      try clear c5
                      try clear c5b0
                      try clear c5b1
                      try clear c6
                      try clear c6b0
                      try clear c6b1
                      try clear p6
                      try clear p7
                      try clear q7
                      try clear hx7
                      try clear qi7
                      try clear c9
                      try clear c11
                      try clear c11b0
                      try clear c12
                      try clear c12b0
                      try clear p13
                      try clear q13
                      try clear hx13
                      try clear c14
                      try clear c15
                      try clear c15b0
                      try clear c16
                      try clear c16b0
                      try clear c17
                      try clear p17
                      try clear q17
                      try clear hx17
                      try clear c19
                      try clear c19b0
                      try clear c19b1
                      try clear c21
                      try clear c21b0
                      try clear c22
                      try clear c22b0
                      try clear p23
                      try clear q23
                      try clear hx23
                      try clear c24
                      try clear c24b0
                      try clear c24b1
                      try clear p25
                      try clear q25
                      try clear hx25
                      try clear c27
                      try clear c31
                      try clear c31b0
                      try clear c31b1
                      try clear c33
                      try clear c33b0
                      try clear c34
                      try clear c34b0
                      try clear p35
                      try clear q35
                      try clear hx35
                      try clear c37
                      try clear c38
                      try clear c38b0
                      try clear c40
                      try clear c40b0
                      try clear p41
                      try clear q41
                      try clear hx41
                      try clear c42
                      try clear c42b0
                      try clear c42b1
                      try clear p43
                      try clear q43
                      try clear hx43
                      try clear p44
                      try clear q44
                      try clear hx44
                      try clear c45
                      try clear c45b0
                      try clear c45b1
                      try clear p46
                      try clear q46
                      try clear hx46
                      try clear c47
                      try clear c47b0
                      try clear c47b1
                      try clear c48
                      try clear c50
                      try clear c50b0
                      try clear c50b1
                      try clear c51
                      try clear c53
                      try clear c53b0
                      try clear c53b1
                      try clear c54
                      try clear c56
                      try clear c56b0
                      try clear c56b1
                      try clear c57
                      try clear c59
                      try clear c62
                      try clear c62b0
                      try clear p64
                      try clear c65
                      try clear hcz49_0
                      try clear hcz49_1
                      try clear hcz49_2
                      try clear hcz49_3
                      try clear hcz49_4
                      try clear hcz52_0
                      try clear hcz52_1
                      try clear hcz52_2
                      try clear hcz52_3
                      try clear hcz52_4
                      try clear hcz55_0
                      try clear hcz55_1
                      try clear hcz55_2
                      try clear hcz55_3
                      try clear hcz55_4
                      try clear hcz58_0
                      try clear hcz58_1
                      try clear hcz58_2
                      try clear hcz58_3
                      try clear hcz58_4
                      try clear hcz60_0
                      try clear hcz60_1
                      try clear hcz60_2
                      try clear hcz60_3
                      try clear hcz60_4
                      try clear hcz66_0
                      try clear hcz66_1
                      try clear hcz66_2
                      try clear hcz66_3
                      try clear hcz66_4
                      try clear hfz49_0
                      try clear hfz49_1
                      try clear hfz49_2
                      try clear hfz49_3
                      try clear hfz49_4
                      try clear hfz52_0
                      try clear hfz52_1
                      try clear hfz52_2
                      try clear hfz52_3
                      try clear hfz52_4
                      try clear hfz55_0
                      try clear hfz55_1
                      try clear hfz55_2
                      try clear hfz55_3
                      try clear hfz55_4
                      try clear hfz58_0
                      try clear hfz58_1
                      try clear hfz58_2
                      try clear hfz58_3
                      try clear hfz58_4
                      try clear hfz60_0
                      try clear hfz60_1
                      try clear hfz60_2
                      try clear hfz60_3
                      try clear hfz60_4
                      try clear hfz66_0
                      try clear hfz66_1
                      try clear hfz66_2
                      try clear hfz66_3
                      try clear hfz66_4
                      try clear p1
                      try clear p13
                      try clear p17
                      try clear p2
                      try clear p23
                      try clear p25
                      try clear p3
                      try clear p35
                      try clear p4
                      try clear p41
                      try clear p43
                      try clear p44
                      try clear p46
                      try clear p6
                      try clear p7
                      try clear q1
                      try clear q13
                      try clear q17
                      try clear q2
                      try clear q23
                      try clear q25
                      try clear q3
                      try clear q35
                      try clear q4
                      try clear q41
                      try clear q43
                      try clear q44
                      try clear q46
                      try clear q7
                      obtain ⟨kq, x230004_60, HA, HJ60, BK228, BK229, HB⟩ := hcut
                      cases kq with
                      | zero => exact absurd HA.out (by simp [spoondriftref01_Parse.j10])
                      | succ kj60 =>
                        have H := HA.out
                        clear HA
                        simp only [spoondriftref01_Parse.j10] at H
                        replace H := Option.bind_eq_some_iff.mp H
                        obtain ⟨t234, A670, H⟩ := H
                        replace H : (if t234 = 0 then ((spoondriftref01_Form.f kj60 x230000_3 x230001_3 x230002_3 x230003_3 x230004_60).bind fun bt235 => (if (!(bt235.1 == x230000_3) || (!(bt235.2.1 == x230001_3) || (!(bt235.2.2.1 == x230002_3) || (!(bt235.2.2.2.1 == x230003_3) || (!(bt235.2.2.2.2 == x230004_60)))))) = true then (some (0, 0, 0, 0, 0, 4)) else ((spoondriftref01_text.f kj60 x230000_3 x230001_3 x230002_3 x230003_3 x230004_60).bind fun t240 => (if t240.toList = a0.toList then (some (x230000_3, x230001_3, x230002_3, x230003_3, x230004_60, 0)) else (some (0, 0, 0, 0, 0, 4)))))) else (some (0, 0, 0, 0, 0, 4))) = some (r1, r2, r3, r4, r5, r6) := H
                        have A67 := Aside0.mk A670
                        clear A670
                        by_cases c68 : t234 = 0
                        · rw [if_pos c68] at H
                          have c68b0 : (t234 == 0) = true := beq_iff_eq.mpr c68
                          have c68b1 : (t234 != 0) = false := bne_eq_false_iff_eq.mpr c68
                          clear c68
                          replace H := Option.bind_eq_some_iff.mp H
                          obtain ⟨⟨t235, t236, t237, t238, t239⟩, A690, H⟩ := H
                          replace H : (if (!(t235 == x230000_3) || (!(t236 == x230001_3) || (!(t237 == x230002_3) || (!(t238 == x230003_3) || (!(t239 == x230004_60)))))) = true then (some (0, 0, 0, 0, 0, 4)) else ((spoondriftref01_text.f kj60 x230000_3 x230001_3 x230002_3 x230003_3 x230004_60).bind fun t240 => (if t240.toList = a0.toList then (some (x230000_3, x230001_3, x230002_3, x230003_3, x230004_60, 0)) else (some (0, 0, 0, 0, 0, 4))))) = some (r1, r2, r3, r4, r5, r6) := H
                          have A69 := Aside0.mk A690
                          clear A690
                          by_cases c70 : (!(t235 == x230000_3) || (!(t236 == x230001_3) || (!(t237 == x230002_3) || (!(t238 == x230003_3) || (!(t239 == x230004_60)))))) = true
                          · rw [if_pos c70] at H
                            have c70b0 : (!(t235 == x230000_3) || (!(t236 == x230001_3) || (!(t237 == x230002_3) || (!(t238 == x230003_3) || (!(t239 == x230004_60)))))) = true := c70
                            clear c70
                            simp only [Option.some.injEq, Prod.mk.injEq] at H
                            obtain ⟨rfl, rfl, rfl, rfl, rfl, rfl⟩ := H
                            try go_wp2
                            have n0_ := Aside0.mk (blk_drew BK228.out)
                            have n1_ := Aside0.mk (blk_drew BK229.out)
                            have n2_ := Aside0.mk (below_drew1 HB.out)
                            clear BK228
                            clear BK229
                            clear HB
                            have BK228 := n0_
                            have BK229 := n1_
                            have HB := n2_
                            clear n0_ n1_ n2_
                            refine start_ (n := 15) (S := fun w' => w'.cell? ⟨gb229, 0, none⟩ = some (.int .i64 x230000_3) ∧ w'.cell? ⟨gb229, 1, none⟩ = some (.int .i64 x230001_3) ∧ w'.cell? ⟨gb229, 2, none⟩ = some (.int .i64 x230002_3) ∧ w'.cell? ⟨gb229, 3, none⟩ = some (.int .i64 x230003_3) ∧ w'.cell? ⟨gb229, 4, none⟩ = some (.int .i64 x230004_60)) (ds := []) #[false, false, false, false, false, false, false, false, false, false, false, false, false, false, false] (by kernel_rfl) rfl rfl ⟨(blk_cell BK229.out 0).trans rfl, (blk_cell BK229.out 1).trans rfl, (blk_cell BK229.out 2).trans rfl, (blk_cell BK229.out 3).trans rfl, (blk_cell BK229.out 4).trans rfl⟩ (fun hHeld => ?_); refine with_tabW spoondriftref01_Parse.tab34 spoondriftref01_Parse.bits34 (fun HT_ HW_ => ?_)
                            generalize wc.drew = w71 at BK228 BK229 HB hHeld ⊢
                            refine take_ (i := 0) (N := some 130) (v := ?_) (a' := ?_) #[true, false, false, false, false, false, false, false, false, false, false, false, false, false, false] rfl rfl (take_ofW HT_.out HW_.out (by kernel_rfl)) (fun _ _ _ h => h) (Or.inl ⟨by rfl, ?_⟩) hHeld ?_ ?_
                            rotate_left
                            · rintro w' ⟨s0, s1, s2, s3, s4⟩
                              go_simp
                              with_reducible rfl
                            rotate_left
                            · simp only [Act.put, List.setIfInBounds_toArray, List.set_cons_zero, List.set_cons_succ, i64_w, i32_w]
                              rfl
                            refine one_ (i := 1) (N := some 131) #[true, true, false, false, false, false, false, false, false, false, false, false, false, false, false] rfl rfl (one_of HT_.out (by kernel_rfl)) (by decide) (fun K hK => ?_)
                            refine goes_ Tryd.func25 (by kernel_rfl) rfl #[.agg #[.int .i64 x230000_3, .int .i64 x230001_3, .int .i64 x230002_3, .int .i64 x230003_3, .int .i64 x230004_60]] (by rfl) rfl rfl (by (try simp only [List.map_toArray, List.map_cons, List.map_nil]); first | done | rfl | (simp only [List.length_drop, List.length_take]; rfl)) ?_
                            with_reducible refine (spoondriftref01_Check.calls kj60 x230000_3 x230001_3 x230002_3 x230003_3 x230004_60 t234 _ A67.out).mono ?_
                            rintro e w72 ⟨rfl, hb⟩
                            refine ⟨_, rfl, ?_⟩
                            have n0_ := Aside0.mk (blk_below (g := gb228) (o := .cells #[.int .i64 x229000_3, .int .i64 x229001_3, .int .i64 x229002_3, .int .i64 x229003_3, .int .i64 x229004_3] 23 (0, 0)) (by (with_reducible repeat (first | refine blk_drewN ?_ _ | refine blk_drew ?_ | refine blk_alloc ?_ _)); exact BK228.out) hb)
                            have n1_ := Aside0.mk (blk_below (g := gb229) (o := .cells #[.int .i64 x230000_3, .int .i64 x230001_3, .int .i64 x230002_3, .int .i64 x230003_3, .int .i64 x230004_60] 23 (0, 0)) (by (with_reducible repeat (first | refine blk_drewN ?_ _ | refine blk_drew ?_ | refine blk_alloc ?_ _)); exact BK229.out) hb)
                            have n2_ := Aside0.mk (below_step (by repeat (first | (with_reducible first | exact HB.out | apply below_alloc | apply pw_below_drewN | apply below_drew1 | refine below_set ?_ GE228.out | refine below_set ?_ GE229.out) | exact HB.out)) hb)
                            clear BK228
                            clear BK229
                            clear HB
                            have BK228 := n0_
                            have BK229 := n1_
                            have HB := n2_
                            clear n0_ n1_ n2_
                            (try clear hb)
                            (try clear hb2)
                            (try clear hk)
                            (try clear hi)
                            refine hK.out _ _ ⟨(blk_cell BK229.out 0).trans rfl, (blk_cell BK229.out 1).trans rfl, (blk_cell BK229.out 2).trans rfl, (blk_cell BK229.out 3).trans rfl, (blk_cell BK229.out 4).trans rfl⟩ (fun hHeld => ?_)
                            clear hK K
                            refine norm_ (a' := ?_) ?_ ?_
                            rotate_left
                            · show Act.put _ (some 131) _ = _
                              simp only [Act.put, List.setIfInBounds_toArray, List.set_cons_zero, List.set_cons_succ, i64_w, i32_w]
                              rfl
                            refine pure_ (i := 2) (N := some 132) (v := ?_) (a' := ?_) #[true, true, true, false, false, false, false, false, false, false, false, false, false, false, false] rfl rfl (any_of HT_.out (by kernel_rfl)) (fun _ _ _ h => h) (Or.inl ⟨by rfl, ?_⟩) ?_ ?_
                            rotate_left
                            · intro w'
                              go_simp
                              with_reducible rfl
                            rotate_left
                            · simp only [Act.put, List.setIfInBounds_toArray, List.set_cons_zero, List.set_cons_succ, i64_w, i32_w]
                              rfl
                            refine pure_ (i := 3) (N := some 133) (v := ?_) (a' := ?_) #[true, true, true, true, false, false, false, false, false, false, false, false, false, false, false] rfl rfl (any_of HT_.out (by kernel_rfl)) (fun _ _ _ h => h) (Or.inl ⟨by rfl, ?_⟩) ?_ ?_
                            rotate_left
                            · intro w'
                              go_simp
                              with_reducible rfl
                            rotate_left
                            · simp only [Act.put, List.setIfInBounds_toArray, List.set_cons_zero, List.set_cons_succ, i64_w, i32_w]
                              rfl
                            refine take_ (i := 4) (N := some 134) (v := ?_) (a' := ?_) #[true, true, true, true, true, false, false, false, false, false, false, false, false, false, false] rfl rfl (take_ofW HT_.out HW_.out (by kernel_rfl)) (fun _ _ _ h => h) (Or.inl ⟨by rfl, ?_⟩) hHeld ?_ ?_
                            rotate_left
                            · rintro w' ⟨s0, s1, s2, s3, s4⟩
                              go_simp
                              with_reducible rfl
                            rotate_left
                            · simp only [Act.put, List.setIfInBounds_toArray, List.set_cons_zero, List.set_cons_succ, i64_w, i32_w]
                              rfl
                            refine take_ (i := 6) (N := some 136) (v := ?_) (a' := ?_) #[true, true, true, true, true, false, true, false, false, false, false, false, false, false, false] rfl rfl (take_ofW HT_.out HW_.out (by kernel_rfl)) (fun _ _ _ h => h) (Or.inl ⟨by rfl, ?_⟩) hHeld ?_ ?_
                            rotate_left
                            · rintro w' ⟨s0, s1, s2, s3, s4⟩
                              go_simp
                              with_reducible rfl
                            rotate_left
                            · simp only [Act.put, List.setIfInBounds_toArray, List.set_cons_zero, List.set_cons_succ, i64_w, i32_w]
                              rfl
                            refine one_ (i := 5) (N := some 135) #[true, true, true, true, true, true, true, false, false, false, false, false, false, false, false] rfl rfl (one_of HT_.out (by kernel_rfl)) (by decide) (fun K hK => ?_)
                            refine goes_ Tryd.func44 (by kernel_rfl) rfl #[.agg #[.int .i64 x230000_3, .int .i64 x230001_3, .int .i64 x230002_3, .int .i64 x230003_3, .int .i64 x230004_60]] (by rfl) rfl rfl (by (try simp only [List.map_toArray, List.map_cons, List.map_nil]); first | done | rfl | (simp only [List.length_drop, List.length_take]; rfl)) ?_
                            with_reducible refine (spoondriftref01_Form.calls kj60 x230000_3 x230001_3 x230002_3 x230003_3 x230004_60 t235 t236 t237 t238 t239 _ A69.out).mono ?_
                            rintro e w73 ⟨rfl, hb⟩
                            refine ⟨_, rfl, ?_⟩
                            have n0_ := Aside0.mk (blk_below (g := gb228) (o := .cells #[.int .i64 x229000_3, .int .i64 x229001_3, .int .i64 x229002_3, .int .i64 x229003_3, .int .i64 x229004_3] 23 (0, 0)) (by (with_reducible repeat (first | refine blk_drewN ?_ _ | refine blk_drew ?_ | refine blk_alloc ?_ _)); exact BK228.out) hb)
                            have n1_ := Aside0.mk (blk_below (g := gb229) (o := .cells #[.int .i64 x230000_3, .int .i64 x230001_3, .int .i64 x230002_3, .int .i64 x230003_3, .int .i64 x230004_60] 23 (0, 0)) (by (with_reducible repeat (first | refine blk_drewN ?_ _ | refine blk_drew ?_ | refine blk_alloc ?_ _)); exact BK229.out) hb)
                            have n2_ := Aside0.mk (below_step (by repeat (first | (with_reducible first | exact HB.out | apply below_alloc | apply pw_below_drewN | apply below_drew1 | refine below_set ?_ GE228.out | refine below_set ?_ GE229.out) | exact HB.out)) hb)
                            clear BK228
                            clear BK229
                            clear HB
                            have BK228 := n0_
                            have BK229 := n1_
                            have HB := n2_
                            clear n0_ n1_ n2_
                            (try clear hb)
                            (try clear hb2)
                            (try clear hk)
                            (try clear hi)
                            refine hK.out _ _ ⟨(blk_cell BK229.out 0).trans rfl, (blk_cell BK229.out 1).trans rfl, (blk_cell BK229.out 2).trans rfl, (blk_cell BK229.out 3).trans rfl, (blk_cell BK229.out 4).trans rfl⟩ (fun hHeld => ?_)
                            clear hK K
                            refine norm_ (a' := ?_) ?_ ?_
                            rotate_left
                            · show Act.put _ (some 135) _ = _
                              simp only [Act.put, List.setIfInBounds_toArray, List.set_cons_zero, List.set_cons_succ, i64_w, i32_w]
                              rfl
                            refine pure_ (i := 7) (N := some 137) (v := ?_) (a' := ?_) #[true, true, true, true, true, true, true, true, false, false, false, false, false, false, false] rfl rfl (any_of HT_.out (by kernel_rfl)) (fun _ _ _ h => h) (Or.inl ⟨by rfl, ?_⟩) ?_ ?_
                            rotate_left
                            · intro w'
                              go_simp
                              with_reducible rfl
                            rotate_left
                            · simp only [Act.put, List.setIfInBounds_toArray, List.set_cons_zero, List.set_cons_succ, i64_w, i32_w]
                              rfl
                            refine pure_ (i := 8) (N := some 138) (v := ?_) (a' := ?_) #[true, true, true, true, true, true, true, true, true, false, false, false, false, false, false] rfl rfl (any_of HT_.out (by kernel_rfl)) (fun _ _ _ h => h) (Or.inl ⟨by rfl, ?_⟩) ?_ ?_
                            rotate_left
                            · intro w'
                              go_simp
                              with_reducible rfl
                            rotate_left
                            · simp only [Act.put, List.setIfInBounds_toArray, List.set_cons_zero, List.set_cons_succ, i64_w, i32_w]
                              rfl
                            refine pure_ (i := 9) (N := some 139) (v := ?_) (a' := ?_) #[true, true, true, true, true, true, true, true, true, true, false, false, false, false, false] rfl rfl (any_of HT_.out (by kernel_rfl)) (fun _ _ _ h => h) (Or.inl ⟨by rfl, ?_⟩) ?_ ?_
                            rotate_left
                            · intro w'
                              go_simp
                              with_reducible rfl
                            rotate_left
                            · simp only [Act.put, List.setIfInBounds_toArray, List.set_cons_zero, List.set_cons_succ, i64_w, i32_w]
                              rfl
                            refine pure_ (i := 10) (N := some 140) (v := undef) (a' := ?_) #[true, true, true, true, true, true, true, true, true, true, true, false, false, false, false] rfl rfl (any_of HT_.out (by kernel_rfl)) (fun _ _ _ h => h) (Or.inr ⟨by rfl, rfl⟩) ?_ ?_
                            rotate_left
                            · simp only [Act.put, List.setIfInBounds_toArray, List.set_cons_zero, List.set_cons_succ, i64_w, i32_w]
                              rfl
                            refine pure_ (i := 11) (N := some 141) (v := undef) (a' := ?_) #[true, true, true, true, true, true, true, true, true, true, true, true, false, false, false] rfl rfl (any_of HT_.out (by kernel_rfl)) (fun _ _ _ h => h) (Or.inr ⟨by rfl, rfl⟩) ?_ ?_
                            rotate_left
                            · simp only [Act.put, List.setIfInBounds_toArray, List.set_cons_zero, List.set_cons_succ, i64_w, i32_w]
                              rfl
                            refine pure_ (i := 12) (N := some 142) (v := undef) (a' := ?_) #[true, true, true, true, true, true, true, true, true, true, true, true, true, false, false] rfl rfl (any_of HT_.out (by kernel_rfl)) (fun _ _ _ h => h) (Or.inr ⟨by rfl, rfl⟩) ?_ ?_
                            rotate_left
                            · simp only [Act.put, List.setIfInBounds_toArray, List.set_cons_zero, List.set_cons_succ, i64_w, i32_w]
                              rfl
                            refine pure_ (i := 13) (N := some 143) (v := undef) (a' := ?_) #[true, true, true, true, true, true, true, true, true, true, true, true, true, true, false] rfl rfl (any_of HT_.out (by kernel_rfl)) (fun _ _ _ h => h) (Or.inr ⟨by rfl, rfl⟩) ?_ ?_
                            rotate_left
                            · simp only [Act.put, List.setIfInBounds_toArray, List.set_cons_zero, List.set_cons_succ, i64_w, i32_w]
                              rfl
                            refine pure_ (i := 14) (N := some 144) (v := ?_) (a' := ?_) #[true, true, true, true, true, true, true, true, true, true, true, true, true, true, true] rfl rfl (any_of HT_.out (by kernel_rfl)) (fun _ _ _ h => h) (Or.inl ⟨by rfl, ?_⟩) ?_ ?_
                            rotate_left
                            · intro w'
                              go_simp
                              with_reducible rfl
                            rotate_left
                            · simp only [Act.put, List.setIfInBounds_toArray, List.set_cons_zero, List.set_cons_succ, i64_w, i32_w]
                              rfl
                            refine done_ (done_of HT_.out (by kernel_rfl)) ?_
                            have hnb74 := NB228_229.out
                            have hnc74 := NB229_228.out
                            have hcz75_0 : w73.cell? ⟨gb228, 0, none⟩ = some (.int .i64 x229000_3) := (blk_cell BK228.out 0).trans rfl
                            have hcz75_1 : w73.cell? ⟨gb228, 1, none⟩ = some (.int .i64 x229001_3) := (blk_cell BK228.out 1).trans rfl
                            have hcz75_2 : w73.cell? ⟨gb228, 2, none⟩ = some (.int .i64 x229002_3) := (blk_cell BK228.out 2).trans rfl
                            have hcz75_3 : w73.cell? ⟨gb228, 3, none⟩ = some (.int .i64 x229003_3) := (blk_cell BK228.out 3).trans rfl
                            have hcz75_4 : w73.cell? ⟨gb228, 4, none⟩ = some (.int .i64 x229004_3) := (blk_cell BK228.out 4).trans rfl
                            have hfz75_0 := blk_frozen BK228.out 0
                            have hfz75_1 := blk_frozen BK228.out 1
                            have hfz75_2 := blk_frozen BK228.out 2
                            have hfz75_3 := blk_frozen BK228.out 3
                            have hfz75_4 := blk_frozen BK228.out 4
                            try go_wp2
                            refine bodyPost_ret (results_ct rfl _ _ gb228 23 #[.int .i64 0, .int .i64 0, .int .i64 0, .int .i64 0, .int .i64 0] (0, 0) _ rfl (by (with_reducible repeat (first | refine blk_drewN ?_ _ | refine blk_drew ?_ | refine blk_alloc ?_ _)); refine blk_put (cs := #[.int .i64 0, .int .i64 0, .int .i64 0, .int .i64 0, .int .i64 x229004_3]) ?_ 4 _ rfl; (with_reducible repeat (first | refine blk_drewN ?_ _ | refine blk_drew ?_ | refine blk_alloc ?_ _)); refine blk_put (cs := #[.int .i64 0, .int .i64 0, .int .i64 0, .int .i64 x229003_3, .int .i64 x229004_3]) ?_ 3 _ rfl; (with_reducible repeat (first | refine blk_drewN ?_ _ | refine blk_drew ?_ | refine blk_alloc ?_ _)); refine blk_put (cs := #[.int .i64 0, .int .i64 0, .int .i64 x229002_3, .int .i64 x229003_3, .int .i64 x229004_3]) ?_ 2 _ rfl; (with_reducible repeat (first | refine blk_drewN ?_ _ | refine blk_drew ?_ | refine blk_alloc ?_ _)); refine blk_put (cs := #[.int .i64 0, .int .i64 x229001_3, .int .i64 x229002_3, .int .i64 x229003_3, .int .i64 x229004_3]) ?_ 1 _ rfl; (with_reducible repeat (first | refine blk_drewN ?_ _ | refine blk_drew ?_ | refine blk_alloc ?_ _)); refine blk_put (cs := #[.int .i64 x229000_3, .int .i64 x229001_3, .int .i64 x229002_3, .int .i64 x229003_3, .int .i64 x229004_3]) ?_ 0 _ rfl; (with_reducible repeat (first | refine blk_drewN ?_ _ | refine blk_drew ?_ | refine blk_alloc ?_ _)); exact BK228.out) Tryd.underlying23 rfl (by kernel_rfl)) rfl ?_
                            exact ⟨by first | rfl | (simp [errW_none, errW_some] <;> rfl) | (simp [*, errW_none, errW_some] <;> rfl), by repeat (first | (with_reducible first | exact HB.out | apply below_alloc | apply pw_below_drewN | apply below_drew1 | refine below_set ?_ GE228.out | refine below_set ?_ GE229.out) | exact HB.out)⟩
                          · rw [if_neg c70] at H
                            have c70b0 : (!(t235 == x230000_3) || (!(t236 == x230001_3) || (!(t237 == x230002_3) || (!(t238 == x230003_3) || (!(t239 == x230004_60)))))) = false := by simpa using c70
                            clear c70
                            replace H := Option.bind_eq_some_iff.mp H
                            obtain ⟨t240, A760, H⟩ := H
                            replace H : (if t240.toList = a0.toList then (some (x230000_3, x230001_3, x230002_3, x230003_3, x230004_60, 0)) else (some (0, 0, 0, 0, 0, 4))) = some (r1, r2, r3, r4, r5, r6) := H
                            have A76 := Aside0.mk A760
                            clear A760
                            by_cases c77 : t240.toList = a0.toList
                            · rw [if_pos c77] at H
                              have c77b0 : (t240.toList == a0.toList) = true := beq_iff_eq.mpr c77
                              have c77b1 : (t240.toList != a0.toList) = false := bne_eq_false_iff_eq.mpr c77
                              clear c77
                              simp only [Option.some.injEq, Prod.mk.injEq] at H
                              obtain ⟨rfl, rfl, rfl, rfl, rfl, rfl⟩ := H
                              try go_wp2
                              have n0_ := Aside0.mk (blk_drew BK228.out)
                              have n1_ := Aside0.mk (blk_drew BK229.out)
                              have n2_ := Aside0.mk (below_drew1 HB.out)
                              clear BK228
                              clear BK229
                              clear HB
                              have BK228 := n0_
                              have BK229 := n1_
                              have HB := n2_
                              clear n0_ n1_ n2_
                              refine start_ (n := 15) (S := fun w' => w'.cell? ⟨gb229, 0, none⟩ = some (.int .i64 x230000_3) ∧ w'.cell? ⟨gb229, 1, none⟩ = some (.int .i64 x230001_3) ∧ w'.cell? ⟨gb229, 2, none⟩ = some (.int .i64 x230002_3) ∧ w'.cell? ⟨gb229, 3, none⟩ = some (.int .i64 x230003_3) ∧ w'.cell? ⟨gb229, 4, none⟩ = some (.int .i64 x230004_60)) (ds := []) #[false, false, false, false, false, false, false, false, false, false, false, false, false, false, false] (by kernel_rfl) rfl rfl ⟨(blk_cell BK229.out 0).trans rfl, (blk_cell BK229.out 1).trans rfl, (blk_cell BK229.out 2).trans rfl, (blk_cell BK229.out 3).trans rfl, (blk_cell BK229.out 4).trans rfl⟩ (fun hHeld => ?_); refine with_tabW spoondriftref01_Parse.tab34 spoondriftref01_Parse.bits34 (fun HT_ HW_ => ?_)
                              generalize wc.drew = w78 at BK228 BK229 HB hHeld ⊢
                              refine take_ (i := 0) (N := some 130) (v := ?_) (a' := ?_) #[true, false, false, false, false, false, false, false, false, false, false, false, false, false, false] rfl rfl (take_ofW HT_.out HW_.out (by kernel_rfl)) (fun _ _ _ h => h) (Or.inl ⟨by rfl, ?_⟩) hHeld ?_ ?_
                              rotate_left
                              · rintro w' ⟨s0, s1, s2, s3, s4⟩
                                go_simp
                                with_reducible rfl
                              rotate_left
                              · simp only [Act.put, List.setIfInBounds_toArray, List.set_cons_zero, List.set_cons_succ, i64_w, i32_w]
                                rfl
                              refine one_ (i := 1) (N := some 131) #[true, true, false, false, false, false, false, false, false, false, false, false, false, false, false] rfl rfl (one_of HT_.out (by kernel_rfl)) (by decide) (fun K hK => ?_)
                              refine goes_ Tryd.func25 (by kernel_rfl) rfl #[.agg #[.int .i64 x230000_3, .int .i64 x230001_3, .int .i64 x230002_3, .int .i64 x230003_3, .int .i64 x230004_60]] (by rfl) rfl rfl (by (try simp only [List.map_toArray, List.map_cons, List.map_nil]); first | done | rfl | (simp only [List.length_drop, List.length_take]; rfl)) ?_
                              with_reducible refine (spoondriftref01_Check.calls kj60 x230000_3 x230001_3 x230002_3 x230003_3 x230004_60 t234 _ A67.out).mono ?_
                              rintro e w79 ⟨rfl, hb⟩
                              refine ⟨_, rfl, ?_⟩
                              have n0_ := Aside0.mk (blk_below (g := gb228) (o := .cells #[.int .i64 x229000_3, .int .i64 x229001_3, .int .i64 x229002_3, .int .i64 x229003_3, .int .i64 x229004_3] 23 (0, 0)) (by (with_reducible repeat (first | refine blk_drewN ?_ _ | refine blk_drew ?_ | refine blk_alloc ?_ _)); exact BK228.out) hb)
                              have n1_ := Aside0.mk (blk_below (g := gb229) (o := .cells #[.int .i64 x230000_3, .int .i64 x230001_3, .int .i64 x230002_3, .int .i64 x230003_3, .int .i64 x230004_60] 23 (0, 0)) (by (with_reducible repeat (first | refine blk_drewN ?_ _ | refine blk_drew ?_ | refine blk_alloc ?_ _)); exact BK229.out) hb)
                              have n2_ := Aside0.mk (below_step (by repeat (first | (with_reducible first | exact HB.out | apply below_alloc | apply pw_below_drewN | apply below_drew1 | refine below_set ?_ GE228.out | refine below_set ?_ GE229.out) | exact HB.out)) hb)
                              clear BK228
                              clear BK229
                              clear HB
                              have BK228 := n0_
                              have BK229 := n1_
                              have HB := n2_
                              clear n0_ n1_ n2_
                              (try clear hb)
                              (try clear hb2)
                              (try clear hk)
                              (try clear hi)
                              refine hK.out _ _ ⟨(blk_cell BK229.out 0).trans rfl, (blk_cell BK229.out 1).trans rfl, (blk_cell BK229.out 2).trans rfl, (blk_cell BK229.out 3).trans rfl, (blk_cell BK229.out 4).trans rfl⟩ (fun hHeld => ?_)
                              clear hK K
                              refine norm_ (a' := ?_) ?_ ?_
                              rotate_left
                              · show Act.put _ (some 131) _ = _
                                simp only [Act.put, List.setIfInBounds_toArray, List.set_cons_zero, List.set_cons_succ, i64_w, i32_w]
                                rfl
                              refine pure_ (i := 2) (N := some 132) (v := ?_) (a' := ?_) #[true, true, true, false, false, false, false, false, false, false, false, false, false, false, false] rfl rfl (any_of HT_.out (by kernel_rfl)) (fun _ _ _ h => h) (Or.inl ⟨by rfl, ?_⟩) ?_ ?_
                              rotate_left
                              · intro w'
                                go_simp
                                with_reducible rfl
                              rotate_left
                              · simp only [Act.put, List.setIfInBounds_toArray, List.set_cons_zero, List.set_cons_succ, i64_w, i32_w]
                                rfl
                              refine pure_ (i := 3) (N := some 133) (v := ?_) (a' := ?_) #[true, true, true, true, false, false, false, false, false, false, false, false, false, false, false] rfl rfl (any_of HT_.out (by kernel_rfl)) (fun _ _ _ h => h) (Or.inl ⟨by rfl, ?_⟩) ?_ ?_
                              rotate_left
                              · intro w'
                                go_simp
                                with_reducible rfl
                              rotate_left
                              · simp only [Act.put, List.setIfInBounds_toArray, List.set_cons_zero, List.set_cons_succ, i64_w, i32_w]
                                rfl
                              refine take_ (i := 4) (N := some 134) (v := ?_) (a' := ?_) #[true, true, true, true, true, false, false, false, false, false, false, false, false, false, false] rfl rfl (take_ofW HT_.out HW_.out (by kernel_rfl)) (fun _ _ _ h => h) (Or.inl ⟨by rfl, ?_⟩) hHeld ?_ ?_
                              rotate_left
                              · rintro w' ⟨s0, s1, s2, s3, s4⟩
                                go_simp
                                with_reducible rfl
                              rotate_left
                              · simp only [Act.put, List.setIfInBounds_toArray, List.set_cons_zero, List.set_cons_succ, i64_w, i32_w]
                                rfl
                              refine take_ (i := 6) (N := some 136) (v := ?_) (a' := ?_) #[true, true, true, true, true, false, true, false, false, false, false, false, false, false, false] rfl rfl (take_ofW HT_.out HW_.out (by kernel_rfl)) (fun _ _ _ h => h) (Or.inl ⟨by rfl, ?_⟩) hHeld ?_ ?_
                              rotate_left
                              · rintro w' ⟨s0, s1, s2, s3, s4⟩
                                go_simp
                                with_reducible rfl
                              rotate_left
                              · simp only [Act.put, List.setIfInBounds_toArray, List.set_cons_zero, List.set_cons_succ, i64_w, i32_w]
                                rfl
                              refine one_ (i := 5) (N := some 135) #[true, true, true, true, true, true, true, false, false, false, false, false, false, false, false] rfl rfl (one_of HT_.out (by kernel_rfl)) (by decide) (fun K hK => ?_)
                              refine goes_ Tryd.func44 (by kernel_rfl) rfl #[.agg #[.int .i64 x230000_3, .int .i64 x230001_3, .int .i64 x230002_3, .int .i64 x230003_3, .int .i64 x230004_60]] (by rfl) rfl rfl (by (try simp only [List.map_toArray, List.map_cons, List.map_nil]); first | done | rfl | (simp only [List.length_drop, List.length_take]; rfl)) ?_
                              with_reducible refine (spoondriftref01_Form.calls kj60 x230000_3 x230001_3 x230002_3 x230003_3 x230004_60 t235 t236 t237 t238 t239 _ A69.out).mono ?_
                              rintro e w80 ⟨rfl, hb⟩
                              refine ⟨_, rfl, ?_⟩
                              have n0_ := Aside0.mk (blk_below (g := gb228) (o := .cells #[.int .i64 x229000_3, .int .i64 x229001_3, .int .i64 x229002_3, .int .i64 x229003_3, .int .i64 x229004_3] 23 (0, 0)) (by (with_reducible repeat (first | refine blk_drewN ?_ _ | refine blk_drew ?_ | refine blk_alloc ?_ _)); exact BK228.out) hb)
                              have n1_ := Aside0.mk (blk_below (g := gb229) (o := .cells #[.int .i64 x230000_3, .int .i64 x230001_3, .int .i64 x230002_3, .int .i64 x230003_3, .int .i64 x230004_60] 23 (0, 0)) (by (with_reducible repeat (first | refine blk_drewN ?_ _ | refine blk_drew ?_ | refine blk_alloc ?_ _)); exact BK229.out) hb)
                              have n2_ := Aside0.mk (below_step (by repeat (first | (with_reducible first | exact HB.out | apply below_alloc | apply pw_below_drewN | apply below_drew1 | refine below_set ?_ GE228.out | refine below_set ?_ GE229.out) | exact HB.out)) hb)
                              clear BK228
                              clear BK229
                              clear HB
                              have BK228 := n0_
                              have BK229 := n1_
                              have HB := n2_
                              clear n0_ n1_ n2_
                              (try clear hb)
                              (try clear hb2)
                              (try clear hk)
                              (try clear hi)
                              refine hK.out _ _ ⟨(blk_cell BK229.out 0).trans rfl, (blk_cell BK229.out 1).trans rfl, (blk_cell BK229.out 2).trans rfl, (blk_cell BK229.out 3).trans rfl, (blk_cell BK229.out 4).trans rfl⟩ (fun hHeld => ?_)
                              clear hK K
                              refine norm_ (a' := ?_) ?_ ?_
                              rotate_left
                              · show Act.put _ (some 135) _ = _
                                simp only [Act.put, List.setIfInBounds_toArray, List.set_cons_zero, List.set_cons_succ, i64_w, i32_w]
                                rfl
                              refine pure_ (i := 7) (N := some 137) (v := ?_) (a' := ?_) #[true, true, true, true, true, true, true, true, false, false, false, false, false, false, false] rfl rfl (any_of HT_.out (by kernel_rfl)) (fun _ _ _ h => h) (Or.inl ⟨by rfl, ?_⟩) ?_ ?_
                              rotate_left
                              · intro w'
                                go_simp
                                with_reducible rfl
                              rotate_left
                              · simp only [Act.put, List.setIfInBounds_toArray, List.set_cons_zero, List.set_cons_succ, i64_w, i32_w]
                                rfl
                              refine pure_ (i := 8) (N := some 138) (v := ?_) (a' := ?_) #[true, true, true, true, true, true, true, true, true, false, false, false, false, false, false] rfl rfl (any_of HT_.out (by kernel_rfl)) (fun _ _ _ h => h) (Or.inl ⟨by rfl, ?_⟩) ?_ ?_
                              rotate_left
                              · intro w'
                                go_simp
                                with_reducible rfl
                              rotate_left
                              · simp only [Act.put, List.setIfInBounds_toArray, List.set_cons_zero, List.set_cons_succ, i64_w, i32_w]
                                rfl
                              refine pure_ (i := 9) (N := some 139) (v := ?_) (a' := ?_) #[true, true, true, true, true, true, true, true, true, true, false, false, false, false, false] rfl rfl (any_of HT_.out (by kernel_rfl)) (fun _ _ _ h => h) (Or.inl ⟨by rfl, ?_⟩) ?_ ?_
                              rotate_left
                              · intro w'
                                go_simp
                                with_reducible rfl
                              rotate_left
                              · simp only [Act.put, List.setIfInBounds_toArray, List.set_cons_zero, List.set_cons_succ, i64_w, i32_w]
                                rfl
                              refine pure_ (i := 12) (N := some 142) (v := ?_) (a' := ?_) #[true, true, true, true, true, true, true, true, true, true, false, false, true, false, false] rfl rfl (any_of HT_.out (by kernel_rfl)) (fun _ _ _ h => h) (Or.inl ⟨by rfl, ?_⟩) ?_ ?_
                              rotate_left
                              · intro w'
                                go_simp
                                with_reducible rfl
                              rotate_left
                              · simp only [Act.put, List.setIfInBounds_toArray, List.set_cons_zero, List.set_cons_succ, i64_w, i32_w]
                                rfl
                              refine take_ (i := 10) (N := some 140) (v := ?_) (a' := ?_) #[true, true, true, true, true, true, true, true, true, true, true, false, true, false, false] rfl rfl (take_ofW HT_.out HW_.out (by kernel_rfl)) (fun _ _ _ h => h) (Or.inl ⟨by rfl, ?_⟩) hHeld ?_ ?_
                              rotate_left
                              · rintro w' ⟨s0, s1, s2, s3, s4⟩
                                go_simp
                                with_reducible rfl
                              rotate_left
                              · simp only [Act.put, List.setIfInBounds_toArray, List.set_cons_zero, List.set_cons_succ, i64_w, i32_w]
                                rfl
                              refine one_ (i := 11) (N := some 141) #[true, true, true, true, true, true, true, true, true, true, true, true, true, false, false] rfl rfl (one_of HT_.out (by kernel_rfl)) (by decide) (fun K hK => ?_)
                              refine goes_ Tryd.func61 (by kernel_rfl) rfl #[.agg #[.int .i64 x230000_3, .int .i64 x230001_3, .int .i64 x230002_3, .int .i64 x230003_3, .int .i64 x230004_60]] (by rfl) rfl rfl (by (try simp only [List.map_toArray, List.map_cons, List.map_nil]); first | done | rfl | (simp only [List.length_drop, List.length_take]; rfl)) ?_
                              with_reducible refine (spoondriftref01_text.calls kj60 x230000_3 x230001_3 x230002_3 x230003_3 x230004_60 t240 _ A76.out).mono ?_
                              rintro e w81 ⟨rfl, hb⟩
                              refine ⟨_, rfl, ?_⟩
                              have n0_ := Aside0.mk (blk_below (g := gb228) (o := .cells #[.int .i64 x229000_3, .int .i64 x229001_3, .int .i64 x229002_3, .int .i64 x229003_3, .int .i64 x229004_3] 23 (0, 0)) (by (with_reducible repeat (first | refine blk_drewN ?_ _ | refine blk_drew ?_ | refine blk_alloc ?_ _)); exact BK228.out) hb)
                              have n1_ := Aside0.mk (blk_below (g := gb229) (o := .cells #[.int .i64 x230000_3, .int .i64 x230001_3, .int .i64 x230002_3, .int .i64 x230003_3, .int .i64 x230004_60] 23 (0, 0)) (by (with_reducible repeat (first | refine blk_drewN ?_ _ | refine blk_drew ?_ | refine blk_alloc ?_ _)); exact BK229.out) hb)
                              have n2_ := Aside0.mk (below_step (by repeat (first | (with_reducible first | exact HB.out | apply below_alloc | apply pw_below_drewN | apply below_drew1 | refine below_set ?_ GE228.out | refine below_set ?_ GE229.out) | exact HB.out)) hb)
                              clear BK228
                              clear BK229
                              clear HB
                              have BK228 := n0_
                              have BK229 := n1_
                              have HB := n2_
                              clear n0_ n1_ n2_
                              (try clear hb)
                              (try clear hb2)
                              (try clear hk)
                              (try clear hi)
                              refine hK.out _ _ ⟨(blk_cell BK229.out 0).trans rfl, (blk_cell BK229.out 1).trans rfl, (blk_cell BK229.out 2).trans rfl, (blk_cell BK229.out 3).trans rfl, (blk_cell BK229.out 4).trans rfl⟩ (fun hHeld => ?_)
                              clear hK K
                              refine norm_ (a' := ?_) ?_ ?_
                              rotate_left
                              · show Act.put _ (some 141) _ = _
                                simp only [Act.put, List.setIfInBounds_toArray, List.set_cons_zero, List.set_cons_succ, i64_w, i32_w]
                                rfl
                              refine pure_ (i := 13) (N := some 143) (v := ?_) (a' := ?_) #[true, true, true, true, true, true, true, true, true, true, true, true, true, true, false] rfl rfl (any_of HT_.out (by kernel_rfl)) (fun _ _ _ h => h) (Or.inl ⟨by rfl, ?_⟩) ?_ ?_
                              rotate_left
                              · intro w'
                                go_simp
                                with_reducible rfl
                              rotate_left
                              · simp only [Act.put, List.setIfInBounds_toArray, List.set_cons_zero, List.set_cons_succ, i64_w, i32_w]
                                rfl
                              refine pure_ (i := 14) (N := some 144) (v := ?_) (a' := ?_) #[true, true, true, true, true, true, true, true, true, true, true, true, true, true, true] rfl rfl (any_of HT_.out (by kernel_rfl)) (fun _ _ _ h => h) (Or.inl ⟨by rfl, ?_⟩) ?_ ?_
                              rotate_left
                              · intro w'
                                go_simp
                                with_reducible rfl
                              rotate_left
                              · simp only [Act.put, List.setIfInBounds_toArray, List.set_cons_zero, List.set_cons_succ, i64_w, i32_w]
                                rfl
                              refine done_ (done_of HT_.out (by kernel_rfl)) ?_
                              have hnb82 := NB229_228.out
                              have hnc82 := NB228_229.out
                              have hcz83_0 : w81.cell? ⟨gb229, 0, none⟩ = some (.int .i64 x230000_3) := (blk_cell BK229.out 0).trans rfl
                              have hcz83_1 : w81.cell? ⟨gb229, 1, none⟩ = some (.int .i64 x230001_3) := (blk_cell BK229.out 1).trans rfl
                              have hcz83_2 : w81.cell? ⟨gb229, 2, none⟩ = some (.int .i64 x230002_3) := (blk_cell BK229.out 2).trans rfl
                              have hcz83_3 : w81.cell? ⟨gb229, 3, none⟩ = some (.int .i64 x230003_3) := (blk_cell BK229.out 3).trans rfl
                              have hcz83_4 : w81.cell? ⟨gb229, 4, none⟩ = some (.int .i64 x230004_60) := (blk_cell BK229.out 4).trans rfl
                              have hfz83_0 := blk_frozen BK229.out 0
                              have hfz83_1 := blk_frozen BK229.out 1
                              have hfz83_2 := blk_frozen BK229.out 2
                              have hfz83_3 := blk_frozen BK229.out 3
                              have hfz83_4 := blk_frozen BK229.out 4
                              have hcz84_0 : w81.cell? ⟨gb228, 0, none⟩ = some (.int .i64 x229000_3) := (blk_cell BK228.out 0).trans rfl
                              have hcz84_1 : w81.cell? ⟨gb228, 1, none⟩ = some (.int .i64 x229001_3) := (blk_cell BK228.out 1).trans rfl
                              have hcz84_2 : w81.cell? ⟨gb228, 2, none⟩ = some (.int .i64 x229002_3) := (blk_cell BK228.out 2).trans rfl
                              have hcz84_3 : w81.cell? ⟨gb228, 3, none⟩ = some (.int .i64 x229003_3) := (blk_cell BK228.out 3).trans rfl
                              have hcz84_4 : w81.cell? ⟨gb228, 4, none⟩ = some (.int .i64 x229004_3) := (blk_cell BK228.out 4).trans rfl
                              have hfz84_0 := blk_frozen BK228.out 0
                              have hfz84_1 := blk_frozen BK228.out 1
                              have hfz84_2 := blk_frozen BK228.out 2
                              have hfz84_3 := blk_frozen BK228.out 3
                              have hfz84_4 := blk_frozen BK228.out 4
                              try go_wp2
                              refine bodyPost_ret (results_ct rfl _ _ gb228 23 #[.int .i64 x230000_3, .int .i64 x230001_3, .int .i64 x230002_3, .int .i64 x230003_3, .int .i64 x230004_60] (0, 0) _ rfl (by (with_reducible repeat (first | refine blk_drewN ?_ _ | refine blk_drew ?_ | refine blk_alloc ?_ _)); refine blk_put (cs := #[.int .i64 x230000_3, .int .i64 x230001_3, .int .i64 x230002_3, .int .i64 x230003_3, .int .i64 x229004_3]) ?_ 4 _ rfl; (with_reducible repeat (first | refine blk_drewN ?_ _ | refine blk_drew ?_ | refine blk_alloc ?_ _)); refine blk_put (cs := #[.int .i64 x230000_3, .int .i64 x230001_3, .int .i64 x230002_3, .int .i64 x229003_3, .int .i64 x229004_3]) ?_ 3 _ rfl; (with_reducible repeat (first | refine blk_drewN ?_ _ | refine blk_drew ?_ | refine blk_alloc ?_ _)); refine blk_put (cs := #[.int .i64 x230000_3, .int .i64 x230001_3, .int .i64 x229002_3, .int .i64 x229003_3, .int .i64 x229004_3]) ?_ 2 _ rfl; (with_reducible repeat (first | refine blk_drewN ?_ _ | refine blk_drew ?_ | refine blk_alloc ?_ _)); refine blk_put (cs := #[.int .i64 x230000_3, .int .i64 x229001_3, .int .i64 x229002_3, .int .i64 x229003_3, .int .i64 x229004_3]) ?_ 1 _ rfl; (with_reducible repeat (first | refine blk_drewN ?_ _ | refine blk_drew ?_ | refine blk_alloc ?_ _)); refine blk_put (cs := #[.int .i64 x229000_3, .int .i64 x229001_3, .int .i64 x229002_3, .int .i64 x229003_3, .int .i64 x229004_3]) ?_ 0 _ rfl; (with_reducible repeat (first | refine blk_drewN ?_ _ | refine blk_drew ?_ | refine blk_alloc ?_ _)); exact BK228.out) Tryd.underlying23 rfl (by kernel_rfl)) rfl ?_
                              exact ⟨by first | rfl | (simp [errW_none, errW_some] <;> rfl) | (simp [*, errW_none, errW_some] <;> rfl), by repeat (first | (with_reducible first | exact HB.out | apply below_alloc | apply pw_below_drewN | apply below_drew1 | refine below_set ?_ GE228.out | refine below_set ?_ GE229.out) | exact HB.out)⟩
                            · rw [if_neg c77] at H
                              have c77b0 : (t240.toList == a0.toList) = false := beq_eq_false_iff_ne.mpr c77
                              have c77b1 : (t240.toList != a0.toList) = true := bne_iff_ne.mpr c77
                              simp only [Option.some.injEq, Prod.mk.injEq] at H
                              obtain ⟨rfl, rfl, rfl, rfl, rfl, rfl⟩ := H
                              try go_wp2
                              have n0_ := Aside0.mk (blk_drew BK228.out)
                              have n1_ := Aside0.mk (blk_drew BK229.out)
                              have n2_ := Aside0.mk (below_drew1 HB.out)
                              clear BK228
                              clear BK229
                              clear HB
                              have BK228 := n0_
                              have BK229 := n1_
                              have HB := n2_
                              clear n0_ n1_ n2_
                              refine start_ (n := 15) (S := fun w' => w'.cell? ⟨gb229, 0, none⟩ = some (.int .i64 x230000_3) ∧ w'.cell? ⟨gb229, 1, none⟩ = some (.int .i64 x230001_3) ∧ w'.cell? ⟨gb229, 2, none⟩ = some (.int .i64 x230002_3) ∧ w'.cell? ⟨gb229, 3, none⟩ = some (.int .i64 x230003_3) ∧ w'.cell? ⟨gb229, 4, none⟩ = some (.int .i64 x230004_60)) (ds := []) #[false, false, false, false, false, false, false, false, false, false, false, false, false, false, false] (by kernel_rfl) rfl rfl ⟨(blk_cell BK229.out 0).trans rfl, (blk_cell BK229.out 1).trans rfl, (blk_cell BK229.out 2).trans rfl, (blk_cell BK229.out 3).trans rfl, (blk_cell BK229.out 4).trans rfl⟩ (fun hHeld => ?_); refine with_tabW spoondriftref01_Parse.tab34 spoondriftref01_Parse.bits34 (fun HT_ HW_ => ?_)
                              generalize wc.drew = w85 at BK228 BK229 HB hHeld ⊢
                              refine take_ (i := 0) (N := some 130) (v := ?_) (a' := ?_) #[true, false, false, false, false, false, false, false, false, false, false, false, false, false, false] rfl rfl (take_ofW HT_.out HW_.out (by kernel_rfl)) (fun _ _ _ h => h) (Or.inl ⟨by rfl, ?_⟩) hHeld ?_ ?_
                              rotate_left
                              · rintro w' ⟨s0, s1, s2, s3, s4⟩
                                go_simp
                                with_reducible rfl
                              rotate_left
                              · simp only [Act.put, List.setIfInBounds_toArray, List.set_cons_zero, List.set_cons_succ, i64_w, i32_w]
                                rfl
                              refine one_ (i := 1) (N := some 131) #[true, true, false, false, false, false, false, false, false, false, false, false, false, false, false] rfl rfl (one_of HT_.out (by kernel_rfl)) (by decide) (fun K hK => ?_)
                              refine goes_ Tryd.func25 (by kernel_rfl) rfl #[.agg #[.int .i64 x230000_3, .int .i64 x230001_3, .int .i64 x230002_3, .int .i64 x230003_3, .int .i64 x230004_60]] (by rfl) rfl rfl (by (try simp only [List.map_toArray, List.map_cons, List.map_nil]); first | done | rfl | (simp only [List.length_drop, List.length_take]; rfl)) ?_
                              with_reducible refine (spoondriftref01_Check.calls kj60 x230000_3 x230001_3 x230002_3 x230003_3 x230004_60 t234 _ A67.out).mono ?_
                              rintro e w86 ⟨rfl, hb⟩
                              refine ⟨_, rfl, ?_⟩
                              have n0_ := Aside0.mk (blk_below (g := gb228) (o := .cells #[.int .i64 x229000_3, .int .i64 x229001_3, .int .i64 x229002_3, .int .i64 x229003_3, .int .i64 x229004_3] 23 (0, 0)) (by (with_reducible repeat (first | refine blk_drewN ?_ _ | refine blk_drew ?_ | refine blk_alloc ?_ _)); exact BK228.out) hb)
                              have n1_ := Aside0.mk (blk_below (g := gb229) (o := .cells #[.int .i64 x230000_3, .int .i64 x230001_3, .int .i64 x230002_3, .int .i64 x230003_3, .int .i64 x230004_60] 23 (0, 0)) (by (with_reducible repeat (first | refine blk_drewN ?_ _ | refine blk_drew ?_ | refine blk_alloc ?_ _)); exact BK229.out) hb)
                              have n2_ := Aside0.mk (below_step (by repeat (first | (with_reducible first | exact HB.out | apply below_alloc | apply pw_below_drewN | apply below_drew1 | refine below_set ?_ GE228.out | refine below_set ?_ GE229.out) | exact HB.out)) hb)
                              clear BK228
                              clear BK229
                              clear HB
                              have BK228 := n0_
                              have BK229 := n1_
                              have HB := n2_
                              clear n0_ n1_ n2_
                              (try clear hb)
                              (try clear hb2)
                              (try clear hk)
                              (try clear hi)
                              refine hK.out _ _ ⟨(blk_cell BK229.out 0).trans rfl, (blk_cell BK229.out 1).trans rfl, (blk_cell BK229.out 2).trans rfl, (blk_cell BK229.out 3).trans rfl, (blk_cell BK229.out 4).trans rfl⟩ (fun hHeld => ?_)
                              clear hK K
                              refine norm_ (a' := ?_) ?_ ?_
                              rotate_left
                              · show Act.put _ (some 131) _ = _
                                simp only [Act.put, List.setIfInBounds_toArray, List.set_cons_zero, List.set_cons_succ, i64_w, i32_w]
                                rfl
                              refine pure_ (i := 2) (N := some 132) (v := ?_) (a' := ?_) #[true, true, true, false, false, false, false, false, false, false, false, false, false, false, false] rfl rfl (any_of HT_.out (by kernel_rfl)) (fun _ _ _ h => h) (Or.inl ⟨by rfl, ?_⟩) ?_ ?_
                              rotate_left
                              · intro w'
                                go_simp
                                with_reducible rfl
                              rotate_left
                              · simp only [Act.put, List.setIfInBounds_toArray, List.set_cons_zero, List.set_cons_succ, i64_w, i32_w]
                                rfl
                              refine pure_ (i := 3) (N := some 133) (v := ?_) (a' := ?_) #[true, true, true, true, false, false, false, false, false, false, false, false, false, false, false] rfl rfl (any_of HT_.out (by kernel_rfl)) (fun _ _ _ h => h) (Or.inl ⟨by rfl, ?_⟩) ?_ ?_
                              rotate_left
                              · intro w'
                                go_simp
                                with_reducible rfl
                              rotate_left
                              · simp only [Act.put, List.setIfInBounds_toArray, List.set_cons_zero, List.set_cons_succ, i64_w, i32_w]
                                rfl
                              refine take_ (i := 4) (N := some 134) (v := ?_) (a' := ?_) #[true, true, true, true, true, false, false, false, false, false, false, false, false, false, false] rfl rfl (take_ofW HT_.out HW_.out (by kernel_rfl)) (fun _ _ _ h => h) (Or.inl ⟨by rfl, ?_⟩) hHeld ?_ ?_
                              rotate_left
                              · rintro w' ⟨s0, s1, s2, s3, s4⟩
                                go_simp
                                with_reducible rfl
                              rotate_left
                              · simp only [Act.put, List.setIfInBounds_toArray, List.set_cons_zero, List.set_cons_succ, i64_w, i32_w]
                                rfl
                              refine take_ (i := 6) (N := some 136) (v := ?_) (a' := ?_) #[true, true, true, true, true, false, true, false, false, false, false, false, false, false, false] rfl rfl (take_ofW HT_.out HW_.out (by kernel_rfl)) (fun _ _ _ h => h) (Or.inl ⟨by rfl, ?_⟩) hHeld ?_ ?_
                              rotate_left
                              · rintro w' ⟨s0, s1, s2, s3, s4⟩
                                go_simp
                                with_reducible rfl
                              rotate_left
                              · simp only [Act.put, List.setIfInBounds_toArray, List.set_cons_zero, List.set_cons_succ, i64_w, i32_w]
                                rfl
                              refine one_ (i := 5) (N := some 135) #[true, true, true, true, true, true, true, false, false, false, false, false, false, false, false] rfl rfl (one_of HT_.out (by kernel_rfl)) (by decide) (fun K hK => ?_)
                              refine goes_ Tryd.func44 (by kernel_rfl) rfl #[.agg #[.int .i64 x230000_3, .int .i64 x230001_3, .int .i64 x230002_3, .int .i64 x230003_3, .int .i64 x230004_60]] (by rfl) rfl rfl (by (try simp only [List.map_toArray, List.map_cons, List.map_nil]); first | done | rfl | (simp only [List.length_drop, List.length_take]; rfl)) ?_
                              with_reducible refine (spoondriftref01_Form.calls kj60 x230000_3 x230001_3 x230002_3 x230003_3 x230004_60 t235 t236 t237 t238 t239 _ A69.out).mono ?_
                              rintro e w87 ⟨rfl, hb⟩
                              refine ⟨_, rfl, ?_⟩
                              have n0_ := Aside0.mk (blk_below (g := gb228) (o := .cells #[.int .i64 x229000_3, .int .i64 x229001_3, .int .i64 x229002_3, .int .i64 x229003_3, .int .i64 x229004_3] 23 (0, 0)) (by (with_reducible repeat (first | refine blk_drewN ?_ _ | refine blk_drew ?_ | refine blk_alloc ?_ _)); exact BK228.out) hb)
                              have n1_ := Aside0.mk (blk_below (g := gb229) (o := .cells #[.int .i64 x230000_3, .int .i64 x230001_3, .int .i64 x230002_3, .int .i64 x230003_3, .int .i64 x230004_60] 23 (0, 0)) (by (with_reducible repeat (first | refine blk_drewN ?_ _ | refine blk_drew ?_ | refine blk_alloc ?_ _)); exact BK229.out) hb)
                              have n2_ := Aside0.mk (below_step (by repeat (first | (with_reducible first | exact HB.out | apply below_alloc | apply pw_below_drewN | apply below_drew1 | refine below_set ?_ GE228.out | refine below_set ?_ GE229.out) | exact HB.out)) hb)
                              clear BK228
                              clear BK229
                              clear HB
                              have BK228 := n0_
                              have BK229 := n1_
                              have HB := n2_
                              clear n0_ n1_ n2_
                              (try clear hb)
                              (try clear hb2)
                              (try clear hk)
                              (try clear hi)
                              refine hK.out _ _ ⟨(blk_cell BK229.out 0).trans rfl, (blk_cell BK229.out 1).trans rfl, (blk_cell BK229.out 2).trans rfl, (blk_cell BK229.out 3).trans rfl, (blk_cell BK229.out 4).trans rfl⟩ (fun hHeld => ?_)
                              clear hK K
                              refine norm_ (a' := ?_) ?_ ?_
                              rotate_left
                              · show Act.put _ (some 135) _ = _
                                simp only [Act.put, List.setIfInBounds_toArray, List.set_cons_zero, List.set_cons_succ, i64_w, i32_w]
                                rfl
                              refine pure_ (i := 7) (N := some 137) (v := ?_) (a' := ?_) #[true, true, true, true, true, true, true, true, false, false, false, false, false, false, false] rfl rfl (any_of HT_.out (by kernel_rfl)) (fun _ _ _ h => h) (Or.inl ⟨by rfl, ?_⟩) ?_ ?_
                              rotate_left
                              · intro w'
                                go_simp
                                with_reducible rfl
                              rotate_left
                              · simp only [Act.put, List.setIfInBounds_toArray, List.set_cons_zero, List.set_cons_succ, i64_w, i32_w]
                                rfl
                              refine pure_ (i := 8) (N := some 138) (v := ?_) (a' := ?_) #[true, true, true, true, true, true, true, true, true, false, false, false, false, false, false] rfl rfl (any_of HT_.out (by kernel_rfl)) (fun _ _ _ h => h) (Or.inl ⟨by rfl, ?_⟩) ?_ ?_
                              rotate_left
                              · intro w'
                                go_simp
                                with_reducible rfl
                              rotate_left
                              · simp only [Act.put, List.setIfInBounds_toArray, List.set_cons_zero, List.set_cons_succ, i64_w, i32_w]
                                rfl
                              refine pure_ (i := 9) (N := some 139) (v := ?_) (a' := ?_) #[true, true, true, true, true, true, true, true, true, true, false, false, false, false, false] rfl rfl (any_of HT_.out (by kernel_rfl)) (fun _ _ _ h => h) (Or.inl ⟨by rfl, ?_⟩) ?_ ?_
                              rotate_left
                              · intro w'
                                go_simp
                                with_reducible rfl
                              rotate_left
                              · simp only [Act.put, List.setIfInBounds_toArray, List.set_cons_zero, List.set_cons_succ, i64_w, i32_w]
                                rfl
                              refine pure_ (i := 12) (N := some 142) (v := ?_) (a' := ?_) #[true, true, true, true, true, true, true, true, true, true, false, false, true, false, false] rfl rfl (any_of HT_.out (by kernel_rfl)) (fun _ _ _ h => h) (Or.inl ⟨by rfl, ?_⟩) ?_ ?_
                              rotate_left
                              · intro w'
                                go_simp
                                with_reducible rfl
                              rotate_left
                              · simp only [Act.put, List.setIfInBounds_toArray, List.set_cons_zero, List.set_cons_succ, i64_w, i32_w]
                                rfl
                              refine take_ (i := 10) (N := some 140) (v := ?_) (a' := ?_) #[true, true, true, true, true, true, true, true, true, true, true, false, true, false, false] rfl rfl (take_ofW HT_.out HW_.out (by kernel_rfl)) (fun _ _ _ h => h) (Or.inl ⟨by rfl, ?_⟩) hHeld ?_ ?_
                              rotate_left
                              · rintro w' ⟨s0, s1, s2, s3, s4⟩
                                go_simp
                                with_reducible rfl
                              rotate_left
                              · simp only [Act.put, List.setIfInBounds_toArray, List.set_cons_zero, List.set_cons_succ, i64_w, i32_w]
                                rfl
                              refine one_ (i := 11) (N := some 141) #[true, true, true, true, true, true, true, true, true, true, true, true, true, false, false] rfl rfl (one_of HT_.out (by kernel_rfl)) (by decide) (fun K hK => ?_)
                              refine goes_ Tryd.func61 (by kernel_rfl) rfl #[.agg #[.int .i64 x230000_3, .int .i64 x230001_3, .int .i64 x230002_3, .int .i64 x230003_3, .int .i64 x230004_60]] (by rfl) rfl rfl (by (try simp only [List.map_toArray, List.map_cons, List.map_nil]); first | done | rfl | (simp only [List.length_drop, List.length_take]; rfl)) ?_
                              with_reducible refine (spoondriftref01_text.calls kj60 x230000_3 x230001_3 x230002_3 x230003_3 x230004_60 t240 _ A76.out).mono ?_
                              rintro e w88 ⟨rfl, hb⟩
                              refine ⟨_, rfl, ?_⟩
                              have n0_ := Aside0.mk (blk_below (g := gb228) (o := .cells #[.int .i64 x229000_3, .int .i64 x229001_3, .int .i64 x229002_3, .int .i64 x229003_3, .int .i64 x229004_3] 23 (0, 0)) (by (with_reducible repeat (first | refine blk_drewN ?_ _ | refine blk_drew ?_ | refine blk_alloc ?_ _)); exact BK228.out) hb)
                              have n1_ := Aside0.mk (blk_below (g := gb229) (o := .cells #[.int .i64 x230000_3, .int .i64 x230001_3, .int .i64 x230002_3, .int .i64 x230003_3, .int .i64 x230004_60] 23 (0, 0)) (by (with_reducible repeat (first | refine blk_drewN ?_ _ | refine blk_drew ?_ | refine blk_alloc ?_ _)); exact BK229.out) hb)
                              have n2_ := Aside0.mk (below_step (by repeat (first | (with_reducible first | exact HB.out | apply below_alloc | apply pw_below_drewN | apply below_drew1 | refine below_set ?_ GE228.out | refine below_set ?_ GE229.out) | exact HB.out)) hb)
                              clear BK228
                              clear BK229
                              clear HB
                              have BK228 := n0_
                              have BK229 := n1_
                              have HB := n2_
                              clear n0_ n1_ n2_
                              (try clear hb)
                              (try clear hb2)
                              (try clear hk)
                              (try clear hi)
                              refine hK.out _ _ ⟨(blk_cell BK229.out 0).trans rfl, (blk_cell BK229.out 1).trans rfl, (blk_cell BK229.out 2).trans rfl, (blk_cell BK229.out 3).trans rfl, (blk_cell BK229.out 4).trans rfl⟩ (fun hHeld => ?_)
                              clear hK K
                              refine norm_ (a' := ?_) ?_ ?_
                              rotate_left
                              · show Act.put _ (some 141) _ = _
                                simp only [Act.put, List.setIfInBounds_toArray, List.set_cons_zero, List.set_cons_succ, i64_w, i32_w]
                                rfl
                              refine pure_ (i := 13) (N := some 143) (v := ?_) (a' := ?_) #[true, true, true, true, true, true, true, true, true, true, true, true, true, true, false] rfl rfl (any_of HT_.out (by kernel_rfl)) (fun _ _ _ h => h) (Or.inl ⟨by rfl, ?_⟩) ?_ ?_
                              rotate_left
                              · intro w'
                                go_simp
                                with_reducible rfl
                              rotate_left
                              · simp only [Act.put, List.setIfInBounds_toArray, List.set_cons_zero, List.set_cons_succ, i64_w, i32_w]
                                rfl
                              refine pure_ (i := 14) (N := some 144) (v := ?_) (a' := ?_) #[true, true, true, true, true, true, true, true, true, true, true, true, true, true, true] rfl rfl (any_of HT_.out (by kernel_rfl)) (fun _ _ _ h => h) (Or.inl ⟨by rfl, ?_⟩) ?_ ?_
                              rotate_left
                              · intro w'
                                go_simp
                                with_reducible rfl
                              rotate_left
                              · simp only [Act.put, List.setIfInBounds_toArray, List.set_cons_zero, List.set_cons_succ, i64_w, i32_w]
                                rfl
                              refine done_ (done_of HT_.out (by kernel_rfl)) ?_
                              have hnb89 := NB228_229.out
                              have hnc89 := NB229_228.out
                              have hcz90_0 : w88.cell? ⟨gb228, 0, none⟩ = some (.int .i64 x229000_3) := (blk_cell BK228.out 0).trans rfl
                              have hcz90_1 : w88.cell? ⟨gb228, 1, none⟩ = some (.int .i64 x229001_3) := (blk_cell BK228.out 1).trans rfl
                              have hcz90_2 : w88.cell? ⟨gb228, 2, none⟩ = some (.int .i64 x229002_3) := (blk_cell BK228.out 2).trans rfl
                              have hcz90_3 : w88.cell? ⟨gb228, 3, none⟩ = some (.int .i64 x229003_3) := (blk_cell BK228.out 3).trans rfl
                              have hcz90_4 : w88.cell? ⟨gb228, 4, none⟩ = some (.int .i64 x229004_3) := (blk_cell BK228.out 4).trans rfl
                              have hfz90_0 := blk_frozen BK228.out 0
                              have hfz90_1 := blk_frozen BK228.out 1
                              have hfz90_2 := blk_frozen BK228.out 2
                              have hfz90_3 := blk_frozen BK228.out 3
                              have hfz90_4 := blk_frozen BK228.out 4
                              try go_wp2
                              refine bodyPost_ret (results_ct rfl _ _ gb228 23 #[.int .i64 0, .int .i64 0, .int .i64 0, .int .i64 0, .int .i64 0] (0, 0) _ rfl (by (with_reducible repeat (first | refine blk_drewN ?_ _ | refine blk_drew ?_ | refine blk_alloc ?_ _)); refine blk_put (cs := #[.int .i64 0, .int .i64 0, .int .i64 0, .int .i64 0, .int .i64 x229004_3]) ?_ 4 _ rfl; (with_reducible repeat (first | refine blk_drewN ?_ _ | refine blk_drew ?_ | refine blk_alloc ?_ _)); refine blk_put (cs := #[.int .i64 0, .int .i64 0, .int .i64 0, .int .i64 x229003_3, .int .i64 x229004_3]) ?_ 3 _ rfl; (with_reducible repeat (first | refine blk_drewN ?_ _ | refine blk_drew ?_ | refine blk_alloc ?_ _)); refine blk_put (cs := #[.int .i64 0, .int .i64 0, .int .i64 x229002_3, .int .i64 x229003_3, .int .i64 x229004_3]) ?_ 2 _ rfl; (with_reducible repeat (first | refine blk_drewN ?_ _ | refine blk_drew ?_ | refine blk_alloc ?_ _)); refine blk_put (cs := #[.int .i64 0, .int .i64 x229001_3, .int .i64 x229002_3, .int .i64 x229003_3, .int .i64 x229004_3]) ?_ 1 _ rfl; (with_reducible repeat (first | refine blk_drewN ?_ _ | refine blk_drew ?_ | refine blk_alloc ?_ _)); refine blk_put (cs := #[.int .i64 x229000_3, .int .i64 x229001_3, .int .i64 x229002_3, .int .i64 x229003_3, .int .i64 x229004_3]) ?_ 0 _ rfl; (with_reducible repeat (first | refine blk_drewN ?_ _ | refine blk_drew ?_ | refine blk_alloc ?_ _)); exact BK228.out) Tryd.underlying23 rfl (by kernel_rfl)) rfl ?_
                              exact ⟨by first | rfl | (simp [errW_none, errW_some] <;> rfl) | (simp [*, errW_none, errW_some] <;> rfl), by repeat (first | (with_reducible first | exact HB.out | apply below_alloc | apply pw_below_drewN | apply below_drew1 | refine below_set ?_ GE228.out | refine below_set ?_ GE229.out) | exact HB.out)⟩
                        · rw [if_neg c68] at H
                          have c68b0 : (t234 == 0) = false := beq_eq_false_iff_ne.mpr c68
                          have c68b1 : (t234 != 0) = true := bne_iff_ne.mpr c68
                          simp only [Option.some.injEq, Prod.mk.injEq] at H
                          obtain ⟨rfl, rfl, rfl, rfl, rfl, rfl⟩ := H
                          try go_wp2
                          have n0_ := Aside0.mk (blk_drew BK228.out)
                          have n1_ := Aside0.mk (blk_drew BK229.out)
                          have n2_ := Aside0.mk (below_drew1 HB.out)
                          clear BK228
                          clear BK229
                          clear HB
                          have BK228 := n0_
                          have BK229 := n1_
                          have HB := n2_
                          clear n0_ n1_ n2_
                          refine start_ (n := 15) (S := fun w' => w'.cell? ⟨gb229, 0, none⟩ = some (.int .i64 x230000_3) ∧ w'.cell? ⟨gb229, 1, none⟩ = some (.int .i64 x230001_3) ∧ w'.cell? ⟨gb229, 2, none⟩ = some (.int .i64 x230002_3) ∧ w'.cell? ⟨gb229, 3, none⟩ = some (.int .i64 x230003_3) ∧ w'.cell? ⟨gb229, 4, none⟩ = some (.int .i64 x230004_60)) (ds := []) #[false, false, false, false, false, false, false, false, false, false, false, false, false, false, false] (by kernel_rfl) rfl rfl ⟨(blk_cell BK229.out 0).trans rfl, (blk_cell BK229.out 1).trans rfl, (blk_cell BK229.out 2).trans rfl, (blk_cell BK229.out 3).trans rfl, (blk_cell BK229.out 4).trans rfl⟩ (fun hHeld => ?_); refine with_tabW spoondriftref01_Parse.tab34 spoondriftref01_Parse.bits34 (fun HT_ HW_ => ?_)
                          generalize wc.drew = w91 at BK228 BK229 HB hHeld ⊢
                          refine take_ (i := 0) (N := some 130) (v := ?_) (a' := ?_) #[true, false, false, false, false, false, false, false, false, false, false, false, false, false, false] rfl rfl (take_ofW HT_.out HW_.out (by kernel_rfl)) (fun _ _ _ h => h) (Or.inl ⟨by rfl, ?_⟩) hHeld ?_ ?_
                          rotate_left
                          · rintro w' ⟨s0, s1, s2, s3, s4⟩
                            go_simp
                            with_reducible rfl
                          rotate_left
                          · simp only [Act.put, List.setIfInBounds_toArray, List.set_cons_zero, List.set_cons_succ, i64_w, i32_w]
                            rfl
                          refine one_ (i := 1) (N := some 131) #[true, true, false, false, false, false, false, false, false, false, false, false, false, false, false] rfl rfl (one_of HT_.out (by kernel_rfl)) (by decide) (fun K hK => ?_)
                          refine goes_ Tryd.func25 (by kernel_rfl) rfl #[.agg #[.int .i64 x230000_3, .int .i64 x230001_3, .int .i64 x230002_3, .int .i64 x230003_3, .int .i64 x230004_60]] (by rfl) rfl rfl (by (try simp only [List.map_toArray, List.map_cons, List.map_nil]); first | done | rfl | (simp only [List.length_drop, List.length_take]; rfl)) ?_
                          with_reducible refine (spoondriftref01_Check.calls kj60 x230000_3 x230001_3 x230002_3 x230003_3 x230004_60 t234 _ A67.out).mono ?_
                          rintro e w92 ⟨rfl, hb⟩
                          refine ⟨_, rfl, ?_⟩
                          have n0_ := Aside0.mk (blk_below (g := gb228) (o := .cells #[.int .i64 x229000_3, .int .i64 x229001_3, .int .i64 x229002_3, .int .i64 x229003_3, .int .i64 x229004_3] 23 (0, 0)) (by (with_reducible repeat (first | refine blk_drewN ?_ _ | refine blk_drew ?_ | refine blk_alloc ?_ _)); exact BK228.out) hb)
                          have n1_ := Aside0.mk (blk_below (g := gb229) (o := .cells #[.int .i64 x230000_3, .int .i64 x230001_3, .int .i64 x230002_3, .int .i64 x230003_3, .int .i64 x230004_60] 23 (0, 0)) (by (with_reducible repeat (first | refine blk_drewN ?_ _ | refine blk_drew ?_ | refine blk_alloc ?_ _)); exact BK229.out) hb)
                          have n2_ := Aside0.mk (below_step (by repeat (first | (with_reducible first | exact HB.out | apply below_alloc | apply pw_below_drewN | apply below_drew1 | refine below_set ?_ GE228.out | refine below_set ?_ GE229.out) | exact HB.out)) hb)
                          clear BK228
                          clear BK229
                          clear HB
                          have BK228 := n0_
                          have BK229 := n1_
                          have HB := n2_
                          clear n0_ n1_ n2_
                          (try clear hb)
                          (try clear hb2)
                          (try clear hk)
                          (try clear hi)
                          refine hK.out _ _ ⟨(blk_cell BK229.out 0).trans rfl, (blk_cell BK229.out 1).trans rfl, (blk_cell BK229.out 2).trans rfl, (blk_cell BK229.out 3).trans rfl, (blk_cell BK229.out 4).trans rfl⟩ (fun hHeld => ?_)
                          clear hK K
                          refine norm_ (a' := ?_) ?_ ?_
                          rotate_left
                          · show Act.put _ (some 131) _ = _
                            simp only [Act.put, List.setIfInBounds_toArray, List.set_cons_zero, List.set_cons_succ, i64_w, i32_w]
                            rfl
                          refine pure_ (i := 2) (N := some 132) (v := ?_) (a' := ?_) #[true, true, true, false, false, false, false, false, false, false, false, false, false, false, false] rfl rfl (any_of HT_.out (by kernel_rfl)) (fun _ _ _ h => h) (Or.inl ⟨by rfl, ?_⟩) ?_ ?_
                          rotate_left
                          · intro w'
                            go_simp
                            with_reducible rfl
                          rotate_left
                          · simp only [Act.put, List.setIfInBounds_toArray, List.set_cons_zero, List.set_cons_succ, i64_w, i32_w]
                            rfl
                          refine pure_ (i := 3) (N := some 133) (v := ?_) (a' := ?_) #[true, true, true, true, false, false, false, false, false, false, false, false, false, false, false] rfl rfl (any_of HT_.out (by kernel_rfl)) (fun _ _ _ h => h) (Or.inl ⟨by rfl, ?_⟩) ?_ ?_
                          rotate_left
                          · intro w'
                            go_simp
                            with_reducible rfl
                          rotate_left
                          · simp only [Act.put, List.setIfInBounds_toArray, List.set_cons_zero, List.set_cons_succ, i64_w, i32_w]
                            rfl
                          refine pure_ (i := 4) (N := some 134) (v := undef) (a' := ?_) #[true, true, true, true, true, false, false, false, false, false, false, false, false, false, false] rfl rfl (any_of HT_.out (by kernel_rfl)) (fun _ _ _ h => h) (Or.inr ⟨by rfl, rfl⟩) ?_ ?_
                          rotate_left
                          · simp only [Act.put, List.setIfInBounds_toArray, List.set_cons_zero, List.set_cons_succ, i64_w, i32_w]
                            rfl
                          refine pure_ (i := 5) (N := some 135) (v := undef) (a' := ?_) #[true, true, true, true, true, true, false, false, false, false, false, false, false, false, false] rfl rfl (any_of HT_.out (by kernel_rfl)) (fun _ _ _ h => h) (Or.inr ⟨by rfl, rfl⟩) ?_ ?_
                          rotate_left
                          · simp only [Act.put, List.setIfInBounds_toArray, List.set_cons_zero, List.set_cons_succ, i64_w, i32_w]
                            rfl
                          refine pure_ (i := 6) (N := some 136) (v := undef) (a' := ?_) #[true, true, true, true, true, true, true, false, false, false, false, false, false, false, false] rfl rfl (any_of HT_.out (by kernel_rfl)) (fun _ _ _ h => h) (Or.inr ⟨by rfl, rfl⟩) ?_ ?_
                          rotate_left
                          · simp only [Act.put, List.setIfInBounds_toArray, List.set_cons_zero, List.set_cons_succ, i64_w, i32_w]
                            rfl
                          refine pure_ (i := 7) (N := some 137) (v := undef) (a' := ?_) #[true, true, true, true, true, true, true, true, false, false, false, false, false, false, false] rfl rfl (any_of HT_.out (by kernel_rfl)) (fun _ _ _ h => h) (Or.inr ⟨by rfl, rfl⟩) ?_ ?_
                          rotate_left
                          · simp only [Act.put, List.setIfInBounds_toArray, List.set_cons_zero, List.set_cons_succ, i64_w, i32_w]
                            rfl
                          refine pure_ (i := 8) (N := some 138) (v := ?_) (a' := ?_) #[true, true, true, true, true, true, true, true, true, false, false, false, false, false, false] rfl rfl (any_of HT_.out (by kernel_rfl)) (fun _ _ _ h => h) (Or.inl ⟨by rfl, ?_⟩) ?_ ?_
                          rotate_left
                          · intro w'
                            go_simp
                            with_reducible rfl
                          rotate_left
                          · simp only [Act.put, List.setIfInBounds_toArray, List.set_cons_zero, List.set_cons_succ, i64_w, i32_w]
                            rfl
                          refine pure_ (i := 9) (N := some 139) (v := ?_) (a' := ?_) #[true, true, true, true, true, true, true, true, true, true, false, false, false, false, false] rfl rfl (any_of HT_.out (by kernel_rfl)) (fun _ _ _ h => h) (Or.inl ⟨by rfl, ?_⟩) ?_ ?_
                          rotate_left
                          · intro w'
                            go_simp
                            with_reducible rfl
                          rotate_left
                          · simp only [Act.put, List.setIfInBounds_toArray, List.set_cons_zero, List.set_cons_succ, i64_w, i32_w]
                            rfl
                          refine pure_ (i := 10) (N := some 140) (v := undef) (a' := ?_) #[true, true, true, true, true, true, true, true, true, true, true, false, false, false, false] rfl rfl (any_of HT_.out (by kernel_rfl)) (fun _ _ _ h => h) (Or.inr ⟨by rfl, rfl⟩) ?_ ?_
                          rotate_left
                          · simp only [Act.put, List.setIfInBounds_toArray, List.set_cons_zero, List.set_cons_succ, i64_w, i32_w]
                            rfl
                          refine pure_ (i := 11) (N := some 141) (v := undef) (a' := ?_) #[true, true, true, true, true, true, true, true, true, true, true, true, false, false, false] rfl rfl (any_of HT_.out (by kernel_rfl)) (fun _ _ _ h => h) (Or.inr ⟨by rfl, rfl⟩) ?_ ?_
                          rotate_left
                          · simp only [Act.put, List.setIfInBounds_toArray, List.set_cons_zero, List.set_cons_succ, i64_w, i32_w]
                            rfl
                          refine pure_ (i := 12) (N := some 142) (v := undef) (a' := ?_) #[true, true, true, true, true, true, true, true, true, true, true, true, true, false, false] rfl rfl (any_of HT_.out (by kernel_rfl)) (fun _ _ _ h => h) (Or.inr ⟨by rfl, rfl⟩) ?_ ?_
                          rotate_left
                          · simp only [Act.put, List.setIfInBounds_toArray, List.set_cons_zero, List.set_cons_succ, i64_w, i32_w]
                            rfl
                          refine pure_ (i := 13) (N := some 143) (v := undef) (a' := ?_) #[true, true, true, true, true, true, true, true, true, true, true, true, true, true, false] rfl rfl (any_of HT_.out (by kernel_rfl)) (fun _ _ _ h => h) (Or.inr ⟨by rfl, rfl⟩) ?_ ?_
                          rotate_left
                          · simp only [Act.put, List.setIfInBounds_toArray, List.set_cons_zero, List.set_cons_succ, i64_w, i32_w]
                            rfl
                          refine pure_ (i := 14) (N := some 144) (v := ?_) (a' := ?_) #[true, true, true, true, true, true, true, true, true, true, true, true, true, true, true] rfl rfl (any_of HT_.out (by kernel_rfl)) (fun _ _ _ h => h) (Or.inl ⟨by rfl, ?_⟩) ?_ ?_
                          rotate_left
                          · intro w'
                            go_simp
                            with_reducible rfl
                          rotate_left
                          · simp only [Act.put, List.setIfInBounds_toArray, List.set_cons_zero, List.set_cons_succ, i64_w, i32_w]
                            rfl
                          refine done_ (done_of HT_.out (by kernel_rfl)) ?_
                          have hnb93 := NB228_229.out
                          have hnc93 := NB229_228.out
                          have hcz94_0 : w92.cell? ⟨gb228, 0, none⟩ = some (.int .i64 x229000_3) := (blk_cell BK228.out 0).trans rfl
                          have hcz94_1 : w92.cell? ⟨gb228, 1, none⟩ = some (.int .i64 x229001_3) := (blk_cell BK228.out 1).trans rfl
                          have hcz94_2 : w92.cell? ⟨gb228, 2, none⟩ = some (.int .i64 x229002_3) := (blk_cell BK228.out 2).trans rfl
                          have hcz94_3 : w92.cell? ⟨gb228, 3, none⟩ = some (.int .i64 x229003_3) := (blk_cell BK228.out 3).trans rfl
                          have hcz94_4 : w92.cell? ⟨gb228, 4, none⟩ = some (.int .i64 x229004_3) := (blk_cell BK228.out 4).trans rfl
                          have hfz94_0 := blk_frozen BK228.out 0
                          have hfz94_1 := blk_frozen BK228.out 1
                          have hfz94_2 := blk_frozen BK228.out 2
                          have hfz94_3 := blk_frozen BK228.out 3
                          have hfz94_4 := blk_frozen BK228.out 4
                          try go_wp2
                          refine bodyPost_ret (results_ct rfl _ _ gb228 23 #[.int .i64 0, .int .i64 0, .int .i64 0, .int .i64 0, .int .i64 0] (0, 0) _ rfl (by (with_reducible repeat (first | refine blk_drewN ?_ _ | refine blk_drew ?_ | refine blk_alloc ?_ _)); refine blk_put (cs := #[.int .i64 0, .int .i64 0, .int .i64 0, .int .i64 0, .int .i64 x229004_3]) ?_ 4 _ rfl; (with_reducible repeat (first | refine blk_drewN ?_ _ | refine blk_drew ?_ | refine blk_alloc ?_ _)); refine blk_put (cs := #[.int .i64 0, .int .i64 0, .int .i64 0, .int .i64 x229003_3, .int .i64 x229004_3]) ?_ 3 _ rfl; (with_reducible repeat (first | refine blk_drewN ?_ _ | refine blk_drew ?_ | refine blk_alloc ?_ _)); refine blk_put (cs := #[.int .i64 0, .int .i64 0, .int .i64 x229002_3, .int .i64 x229003_3, .int .i64 x229004_3]) ?_ 2 _ rfl; (with_reducible repeat (first | refine blk_drewN ?_ _ | refine blk_drew ?_ | refine blk_alloc ?_ _)); refine blk_put (cs := #[.int .i64 0, .int .i64 x229001_3, .int .i64 x229002_3, .int .i64 x229003_3, .int .i64 x229004_3]) ?_ 1 _ rfl; (with_reducible repeat (first | refine blk_drewN ?_ _ | refine blk_drew ?_ | refine blk_alloc ?_ _)); refine blk_put (cs := #[.int .i64 x229000_3, .int .i64 x229001_3, .int .i64 x229002_3, .int .i64 x229003_3, .int .i64 x229004_3]) ?_ 0 _ rfl; (with_reducible repeat (first | refine blk_drewN ?_ _ | refine blk_drew ?_ | refine blk_alloc ?_ _)); exact BK228.out) Tryd.underlying23 rfl (by kernel_rfl)) rfl ?_
                          exact ⟨by first | rfl | (simp [errW_none, errW_some] <;> rfl) | (simp [*, errW_none, errW_some] <;> rfl), by repeat (first | (with_reducible first | exact HB.out | apply below_alloc | apply pw_below_drewN | apply below_drew1 | refine below_set ?_ GE228.out | refine below_set ?_ GE229.out) | exact HB.out)⟩
end Go.Proofs.YtlglmooknlmomaaDoorPR
end
section
set_option linter.all false
namespace Go.Proofs.YtlglmooknlmomaaDoor
open Go.RowKit Go.Proofs.YtlglmooknlmomaaDoorPR Go.Proofs.YtlglmooknlmomaaDoor.Inj Go.Proofs.YtlglmooknlmomaaDoorW.PrintWords
theorem bt_bs (l : List UInt8) (i : Nat) (h : i < l.length) : Go.Proofs.YtlglmooknlmomaaDoorW.PrintWords.bt (bs l) (i : Int) = ((l[i]).toNat : Int) := by
  have h2 : ((i : Int)).toNat < (bs l).size := by rw [bs_size]; simpa using h
  have := bt_at (bs l) (i : Int) h2
  rw [← this]
  simp [bs, ByteArray.getElem_eq_getElem_data]
def capV (v : Nat) : List UInt8 → Nat
  | [] => v
  | b :: r => if isD b then capV (min (10 * v + (b.toNat - 48)) 2147483648) r else v
theorem capV_le (l : List UInt8) : ∀ v, v ≤ 2147483648 → capV v l ≤ 2147483648 := by
  induction l with
  | nil => intro v h; exact h
  | cons b r ih =>
    intro v h
    unfold capV
    by_cases hb : isD b = true
    · rw [if_pos hb]; exact ih _ (Nat.min_le_right _ _)
    · rw [if_neg hb]; exact h
theorem number_l0_eq (l : List UInt8) (hl : l.length ≤ 1000000) : ∀ (n at_ v : Nat), (l.drop at_).length + 1 ≤ n → at_ ≤ l.length → v ≤ 2147483648 →
    spoondriftref01_number.l0 n (bs l) at_ v = some (((capV v (l.drop at_) : Nat) : Int), ((at_ + digN (l.drop at_) : Nat) : Int)) := by
  intro n
  induction n with
  | zero => intro at_ v h; omega
  | succ n ih =>
    intro at_ v h ha hv
    rw [spoondriftref01_number.l0, bs_size]
    by_cases hlt : at_ < l.length
    · have hc : l.drop at_ = l[at_] :: l.drop (at_ + 1) := List.drop_eq_getElem_cons hlt
      rw [if_pos (by omega), if_pos (by omega), bt_bs l at_ hlt, hc]
      rw [hc, List.length_cons] at h
      generalize hb : l[at_] = b at *
      by_cases hd : isD b = true
      · have hd2 := (isD_iff b).1 hd
        rw [if_pos (by omega), if_pos (by omega), wr (x := (at_ : Int) + 1) (by omega), wr (x := 10 * (v : Int)) (by omega)]
        have e : ((b.toNat : Int) - 48) % 256 = ((b.toNat - 48 : Nat) : Int) := by omega
        rw [e, wr (by omega)]
        have e2 : mn (10 * (v : Int) + ((b.toNat - 48 : Nat) : Int)) 2147483648 = ((min (10 * v + (b.toNat - 48)) 2147483648 : Nat) : Int) := by
          unfold mn
          by_cases hm : (2147483648 : Int) < 10 * (v : Int) + ((b.toNat - 48 : Nat) : Int)
          · rw [if_pos hm]; omega
          · rw [if_neg hm]; omega
        rw [e2]
        have := ih (at_ + 1) (min (10 * v + (b.toNat - 48)) 2147483648) (by omega) (by omega) (Nat.min_le_right _ _)
        rw [show ((at_ + 1 : Nat) : Int) = (at_ : Int) + 1 by omega] at this
        rw [this, digN_cons_pos hd]
        unfold capV
        rw [if_pos hd]
        congr 2
        · cases l.drop (at_ + 1) <;> rfl
        · omega
      · have hd' : isD b = false := by simpa using hd
        have hd2 : ¬ (48 ≤ b.toNat ∧ b.toNat ≤ 57) := fun h => hd ((isD_iff b).2 h)
        rw [digN_cons_neg hd']
        unfold capV
        rw [if_neg hd]
        by_cases h48 : (b.toNat : Int) ≥ 48
        · rw [if_pos h48, if_neg (by omega)]; simp
        · rw [if_neg h48]; simp
    · rw [if_neg (by omega), List.drop_of_length_le (by omega)]
      unfold capV
      simp [digN]
theorem number_eq (n : Nat) (l : List UInt8) (hl : l.length ≤ 1000000) (at_ : Nat) (hn : l.length + 1 ≤ n) (ha : at_ ≤ l.length) :
    spoondriftref01_number.f n (bs l) at_ = some (((capV 0 (l.drop at_) : Nat) : Int), ((at_ + digN (l.drop at_) : Nat) : Int)) :=
  number_l0_eq l hl n at_ 0 (by simp; omega) ha (by omega)
def rUnit : List UInt8 → Nat × List UInt8
  | [] => (0, [])
  | b :: r => if b = 119 then (match r with
      | [] => (1, [])
      | c :: t => if c = 50 then (2, t) else if c = 51 then (3, t) else (1, c :: t)) else (0, b :: r)
def rNum (m : List UInt8) : Int := if digN m = 0 then 1 else (capV 0 m : Nat)
def rTerm (r : List UInt8) : Nat × Int × List UInt8 :=
  ((rUnit ((termSign r).2.drop (digN (termSign r).2))).1, (termSign r).1 * rNum (termSign r).2, (rUnit ((termSign r).2.drop (digN (termSign r).2))).2)
theorem rNum_bd (m : List UInt8) : 0 ≤ rNum m ∧ rNum m ≤ 2147483648 := by
  unfold rNum
  split
  · omega
  · have := capV_le m 0 (by omega); omega
theorem drop_len {l r : List UInt8} {a : Nat} (h : l.drop a = r) (ha : a ≤ l.length) : a = l.length - r.length := by
  rw [← h]; simp; omega
theorem j7_eq (n : Nat) (l : List UInt8) (hl : l.length ≤ 1000000) (a : Nat) (ha : a ≤ l.length) (s z v A B C D K : Int) :
    spoondriftref01_Parse.j7 (n + 3) (bs l) s z v a A B C D K = spoondriftref01_Parse.j9 (n + 1) (bs l) ((l.length - (rUnit (l.drop a)).2.length : Nat) : Int) s z v ((rUnit (l.drop a)).1 : Nat) A B C D K := by
  rw [spoondriftref01_Parse.j7, bs_size]
  by_cases hlt : a < l.length
  · have hc : l.drop a = l[a] :: l.drop (a + 1) := List.drop_eq_getElem_cons hlt
    rw [if_pos (by omega), if_pos (by omega), bt_bs l a hlt, hc]
    generalize hb : l[a] = b at *
    rw [spoondriftref01_Parse.j8, bs_size]
    by_cases h119 : b = 119
    · subst h119
      rw [if_pos (by rfl), wr (x := (a : Int) + 1) (by omega), wr (x := (a : Int) + 1 + 1) (by omega)]
      by_cases hlt2 : a + 1 < l.length
      · have hc2 : l.drop (a + 1) = l[a + 1] :: l.drop (a + 1 + 1) := List.drop_eq_getElem_cons hlt2
        have hbt := bt_bs l (a + 1) hlt2
        rw [show ((a + 1 : Nat) : Int) = (a : Int) + 1 by omega] at hbt
        rw [if_pos (by omega), if_pos (by omega), hbt, hc2]
        generalize hb2 : l[a + 1] = c at *
        have hlen : (l.drop (a + 1 + 1)).length = l.length - (a + 2) := by simp
        by_cases h50 : c = 50
        · subst h50
          rw [if_pos (by rfl)]
          have e : rUnit (119 :: 50 :: l.drop (a + 1 + 1)) = (2, l.drop (a + 1 + 1)) := rfl
          rw [e, hlen]
          congr 1
          · omega
        · have h50' : ¬ ((c.toNat : Int) = 50) := fun h => h50 (UInt8.toNat_inj.1 (by simpa using Int.ofNat_inj.1 h))
          rw [if_neg h50']
          by_cases h51 : c = 51
          · subst h51
            rw [if_pos (by rfl)]
            have e : rUnit (119 :: 51 :: l.drop (a + 1 + 1)) = (3, l.drop (a + 1 + 1)) := rfl
            rw [e, hlen]
            congr 1
            · omega
          · have h51' : ¬ ((c.toNat : Int) = 51) := fun h => h51 (UInt8.toNat_inj.1 (by simpa using Int.ofNat_inj.1 h))
            rw [if_neg h51']
            have e : rUnit (119 :: c :: l.drop (a + 1 + 1)) = (1, c :: l.drop (a + 1 + 1)) := by simp [rUnit, h50, h51]
            rw [e, List.length_cons, hlen]
            congr 1
            · omega
      · rw [if_neg (by omega), List.drop_of_length_le (by omega)]
        have e : rUnit [119] = (1, []) := rfl
        rw [e]
        simp only [List.length_nil]
        congr 1
        · omega
    · have h119' : ¬ (((b.toNat : Int) == 119) = true) := by
        rw [beq_iff_eq]; exact fun h => h119 (UInt8.toNat_inj.1 (by simpa using Int.ofNat_inj.1 h))
      rw [if_neg h119']
      have e : rUnit (b :: l.drop (a + 1)) = (0, b :: l.drop (a + 1)) := by simp [rUnit, h119]
      have hlen : (l.drop (a + 1)).length = l.length - (a + 1) := by simp
      rw [e, List.length_cons, hlen]
      congr 1
      · omega
  · rw [if_neg (by omega), List.drop_of_length_le (by omega), spoondriftref01_Parse.j8, if_neg (by decide)]
    have e : rUnit [] = (0, []) := rfl
    rw [e]
    simp only [List.length_nil]
    congr 1
    · omega
theorem j6_eq (n : Nat) (l : List UInt8) (hl : l.length ≤ 1000000) (hn : l.length ≤ n) (a : Nat) (ha : a ≤ l.length) (s z A B C D K : Int) :
    spoondriftref01_Parse.j6 (n + 4) (bs l) a s z A B C D K =
      spoondriftref01_Parse.j9 (n + 1) (bs l) ((l.length - (rUnit ((l.drop a).drop (digN (l.drop a)))).2.length : Nat) : Int) s z (rNum (l.drop a)) ((rUnit ((l.drop a).drop (digN (l.drop a)))).1 : Nat) A B C D K := by
  have hd := digN_le (l.drop a)
  have hdl : (l.drop a).length = l.length - a := by simp
  rw [spoondriftref01_Parse.j6, number_eq (n + 3) l hl a (by omega) ha]
  simp only [Option.bind_some]
  have hdd : (l.drop a).drop (digN (l.drop a)) = l.drop (a + digN (l.drop a)) := by rw [List.drop_drop]
  rw [hdd]
  unfold rNum
  by_cases h0 : digN (l.drop a) = 0
  · rw [if_pos (by omega), if_pos h0, j7_eq n l hl _ (by omega)]
  · rw [if_neg (by omega), if_neg h0, j7_eq n l hl _ (by omega)]
end Go.Proofs.YtlglmooknlmomaaDoor
end
section
set_option linter.all false
namespace Go.Proofs.YtlglmooknlmomaaDoor
open Go.RowKit Go.Proofs.YtlglmooknlmomaaDoorPR Go.Proofs.YtlglmooknlmomaaDoor.Inj Go.Proofs.YtlglmooknlmomaaDoorW.PrintWords
instance : DecidableEq Nm := fun x y => if h : x.p = y.p ∧ x.k = y.k then isTrue (by cases x; cases y; simp_all) else isFalse (by rintro rfl; exact h ⟨rfl, rfl⟩)
theorem termSign_fst (r : List UInt8) : (termSign r).1 = 1 ∨ (termSign r).1 = -1 := by
  unfold termSign
  split
  · exact .inl rfl
  · repeat' split
    all_goals simp
theorem nat_toNat_eq {b : UInt8} {n : Nat} (hn : n < 256) : ((b.toNat : Int) = (n : Int)) ↔ b = UInt8.ofNat n := by
  constructor
  · intro h
    have h2 : b.toNat = n := by omega
    apply UInt8.toNat_inj.1
    rw [h2]
    simp
    omega
  · rintro rfl
    simp
    omega
theorem l0_sign (n : Nat) (l : List UInt8) (hl : l.length ≤ 1000000) (a : Nat) (b : UInt8) (r0 : List UInt8) (hd : l.drop a = b :: r0) (hb : b ≠ 41) (A B C D K : Int) :
    spoondriftref01_Parse.l0 (n + 8) (bs l) a A B C D K =
      spoondriftref01_Parse.j6 (n + 4) (bs l) ((l.length - (termSign (l.drop a)).2.length : Nat) : Int) (termSign (l.drop a)).1 a A B C D K := by
  have hlt : a < l.length := by
    rcases Nat.lt_or_ge a l.length with h | h
    · exact h
    · rw [List.drop_of_length_le h] at hd; cases hd
  have hc : l.drop a = l[a] :: l.drop (a + 1) := List.drop_eq_getElem_cons hlt
  have hbt := bt_bs l a hlt
  have hlb : l[a] = b := by rw [hc] at hd; injection hd
  have hlen : r0.length = l.length - (a + 1) := by
    have := congrArg List.length hd
    simp at this
    omega
  rw [hlb] at hbt
  rw [hd]
  have h41 : ¬ ((b.toNat : Int) = 41) := fun h => hb ((nat_toNat_eq (n := 41) (by omega)).1 h)
  rw [spoondriftref01_Parse.l0, bs_size, if_pos (by omega), if_pos (by omega), hbt, spoondriftref01_Parse.j3, if_pos (by rw [bne_iff_ne]; exact h41), bs_size, if_pos (by omega), if_pos (by omega), hbt]
  by_cases h45 : b = 45
  · subst h45
    have e : termSign (45 :: r0) = (-1, r0) := rfl
    rw [if_pos (by rfl), spoondriftref01_Parse.j4, bs_size, if_pos (by omega), if_pos (by omega), hbt, if_pos (by rfl), spoondriftref01_Parse.j5, if_pos rfl, wr (by omega), e]
    congr 1
    show (a : Int) + 1 = ((l.length - r0.length : Nat) : Int)
    omega
  · have h45' : ¬ ((b.toNat : Int) = 45) := fun h => h45 ((nat_toNat_eq (n := 45) (by omega)).1 h)
    rw [if_neg h45', spoondriftref01_Parse.j4, bs_size, if_pos (by omega), if_pos (by omega), hbt, if_neg h45', spoondriftref01_Parse.j5]
    by_cases h43 : b = 43
    · subst h43
      have e : termSign (43 :: r0) = (1, r0) := rfl
      rw [if_pos (by rfl), wr (by omega), e]
      congr 1
      show (a : Int) + 1 = ((l.length - r0.length : Nat) : Int)
      omega
    · have h43' : ¬ (((b.toNat : Int) == 43) = true) := by rw [beq_iff_eq]; exact fun h => h43 ((nat_toNat_eq (n := 43) (by omega)).1 h)
      have e : termSign (b :: r0) = (1, b :: r0) := by simp [termSign, h45, h43]
      rw [if_neg h43', e]
      congr 1
      show (a : Int) = ((l.length - (b :: r0).length : Nat) : Int)
      rw [List.length_cons]
      omega
theorem termSign_suffix (r : List UInt8) : ∃ j, (termSign r).2 = r.drop j ∧ j ≤ r.length := by
  unfold termSign
  split
  · exact ⟨0, rfl, by simp⟩
  · rename_i b t
    by_cases h : b = 45
    · rw [if_pos h]; exact ⟨1, rfl, by simp⟩
    · rw [if_neg h]
      by_cases h2 : b = 43
      · rw [if_pos h2]; exact ⟨1, rfl, by simp⟩
      · rw [if_neg h2]; exact ⟨0, rfl, by simp⟩
theorem rUnit_len (m : List UInt8) : (rUnit m).2.length ≤ m.length := by
  unfold rUnit
  repeat' split
  all_goals simp
  all_goals omega
theorem rTerm_len (r : List UInt8) : (rTerm r).2.2.length ≤ r.length := by
  obtain ⟨j, hj, _⟩ := termSign_suffix r
  have h := rUnit_len ((termSign r).2.drop (digN (termSign r).2))
  have h2 : ((termSign r).2.drop (digN (termSign r).2)).length ≤ r.length := by rw [hj]; simp
  exact Nat.le_trans h h2
theorem rUnit_lt (m : List UInt8) : (rUnit m).1 ≤ 3 := by
  unfold rUnit
  repeat' split
  all_goals simp
theorem step_eq (n : Nat) (l : List UInt8) (hl : l.length ≤ 1000000) (hn : l.length ≤ n) (a : Nat) (b : UInt8) (r0 : List UInt8) (hd : l.drop a = b :: r0) (hb : b ≠ 41) (P : Pt) (K : Int) :
    spoondriftref01_Parse.l0 (n + 8) (bs l) a P.a P.b P.c P.d K =
      if (rTerm (l.drop a)).2.2.length = (l.drop a).length then some (0, 0, 0, 0, 0, 4) else
        spoondriftref01_Parse.l0 n (bs l) ((l.length - (rTerm (l.drop a)).2.2.length : Nat) : Int) (putP P (rTerm (l.drop a)).1 (rTerm (l.drop a)).2.1).a (putP P (rTerm (l.drop a)).1 (rTerm (l.drop a)).2.1).b (putP P (rTerm (l.drop a)).1 (rTerm (l.drop a)).2.1).c (putP P (rTerm (l.drop a)).1 (rTerm (l.drop a)).2.1).d K := by
  have hlt : a < l.length := by
    rcases Nat.lt_or_ge a l.length with h | h
    · exact h
    · rw [List.drop_of_length_le h] at hd; cases hd
  rw [l0_sign n l hl a b r0 hd hb]
  obtain ⟨j, hj, hjl⟩ := termSign_suffix (l.drop a)
  have hlen : (l.drop a).length = l.length - a := by simp
  have hm : l.drop (l.length - (termSign (l.drop a)).2.length) = (termSign (l.drop a)).2 := by
    rw [hj, List.drop_drop]
    congr 1
    rw [List.length_drop]
    omega
  rw [j6_eq n l hl hn _ (by omega), hm]
  have hs := termSign_fst (l.drop a)
  have hv := rNum_bd (termSign (l.drop a)).2
  have hrl := rTerm_len (l.drop a)
  have hu := rUnit_lt ((termSign (l.drop a)).2.drop (digN (termSign (l.drop a)).2))
  have e1 : (rTerm (l.drop a)).1 = (rUnit ((termSign (l.drop a)).2.drop (digN (termSign (l.drop a)).2))).1 := rfl
  have e2 : (rTerm (l.drop a)).2.1 = (termSign (l.drop a)).1 * rNum (termSign (l.drop a)).2 := rfl
  have e3 : (rTerm (l.drop a)).2.2 = (rUnit ((termSign (l.drop a)).2.drop (digN (termSign (l.drop a)).2))).2 := rfl
  have hw : wrap64 ((termSign (l.drop a)).1 * rNum (termSign (l.drop a)).2) = (termSign (l.drop a)).1 * rNum (termSign (l.drop a)).2 := by
    apply wr
    rcases hs with h | h <;> rw [h] <;> omega
  rw [← e3, ← e1]
  rw [← e1] at hu
  rw [spoondriftref01_Parse.j9, hw, ← e2]
  clear hs hv hw e1 e2 e3 hm hj
  generalize (rTerm (l.drop a)).1 = i at *
  generalize (rTerm (l.drop a)).2.1 = c at *
  generalize (rTerm (l.drop a)).2.2 = t at *
  by_cases h0 : t.length = (l.drop a).length
  · rw [if_pos h0, if_pos (by omega)]
  · rw [if_neg h0, if_neg (by omega)]
    match i, hu with
    | 0, _ => rfl
    | 1, _ => rfl
    | 2, _ => rfl
    | 3, _ => rfl
def finK (l : List UInt8) (a : Nat) : Nat := if a + 2 < l.length then capV 0 (l.drop (a + 3)) else 0
theorem fin_eq (n : Nat) (l : List UInt8) (hl : l.length ≤ 1000000) (hn : l.length + 1 ≤ n) (a : Nat) (ha : a ≤ l.length) (hd : ∀ b r, l.drop a = b :: r → b = 41) (A B C D : Int) :
    spoondriftref01_Parse.l0 (n + 2) (bs l) a A B C D 0 = spoondriftref01_Parse.j10 n (bs l) A B C D (finK l a : Nat) := by
  have h3 : spoondriftref01_Parse.l0 (n + 2) (bs l) a A B C D 0 = spoondriftref01_Parse.j3 (n + 1) (bs l) a false A B C D 0 := by
    rw [spoondriftref01_Parse.l0, bs_size]
    by_cases hlt : a < l.length
    · have hc : l.drop a = l[a] :: l.drop (a + 1) := List.drop_eq_getElem_cons hlt
      have := hd _ _ hc
      rw [if_pos (by omega), if_pos (by omega), bt_bs l a hlt, this]
      rfl
    · rw [if_neg (by omega)]
  rw [h3, spoondriftref01_Parse.j3, if_neg (by decide), bs_size, wr (x := (a : Int) + 2) (by omega), wr (x := (a : Int) + 3) (by omega)]
  unfold finK
  by_cases h : a + 2 < l.length
  · rw [if_pos (by omega), if_pos h]
    have := number_eq n l hl (a + 3) hn (by omega)
    rw [show ((a + 3 : Nat) : Int) = (a : Int) + 3 by omega] at this
    rw [this]
    rfl
  · rw [if_neg (by omega), if_neg h]
    rfl
theorem j10_eq (n : Nat) (hn : 100 ≤ n) (l : List UInt8) (x : Nm) : spoondriftref01_Parse.j10 (n + 1) (bs l) x.p.a x.p.b x.p.c x.p.d x.k = some (flatN (if x.chk = 0 ∧ lf x = x ∧ textB x = l then (x, 0) else (Nm.zero, 4))) := by
  rw [spoondriftref01_Parse.j10, Check_eq n (by omega)]
  simp only [Option.bind_some]
  show (if x.chk = 0 then _ else _) = _
  by_cases h : x.chk = 0
  · rw [if_pos h, Form_nm n (by omega) h]
    simp only [Option.bind_some]
    by_cases h2 : lf x = x
    · have hf : (!((t5 (lf x)).1 == x.p.a) || (!((t5 (lf x)).2.1 == x.p.b) || (!((t5 (lf x)).2.2.1 == x.p.c) || (!((t5 (lf x)).2.2.2.1 == x.p.d) || (!((t5 (lf x)).2.2.2.2 == x.k)))))) = false := by
        rw [h2]; simp [t5]
      obtain ⟨h3, h4, h5⟩ := Nm.chk_ok h
      rw [if_neg (by rw [hf]; decide), text_eq n hn h3 ⟨h4, h5⟩ (by have := lf_zero (x := x); rw [h2] at this; exact this)]
      simp only [Option.bind_some]
      have hi : ((bs (textB x)).toList = (bs l).toList) ↔ textB x = l := by
        have e1 : ∀ m : List UInt8, (bs m).toList = m := fun m => by simp [bs, ByteArray.toList_eq]
        rw [e1, e1]
      by_cases h6 : textB x = l
      · rw [if_pos (hi.2 h6), if_pos ⟨h, h2, h6⟩]; rfl
      · rw [if_neg (fun h7 => h6 (hi.1 h7)), if_neg (fun h7 => h6 h7.2.2)]; rfl
    · have hf : (!((t5 (lf x)).1 == x.p.a) || (!((t5 (lf x)).2.1 == x.p.b) || (!((t5 (lf x)).2.2.1 == x.p.c) || (!((t5 (lf x)).2.2.2.1 == x.p.d) || (!((t5 (lf x)).2.2.2.2 == x.k)))))) = true := by
        by_cases hh : (lf x).p.a = x.p.a ∧ (lf x).p.b = x.p.b ∧ (lf x).p.c = x.p.c ∧ (lf x).p.d = x.p.d ∧ (lf x).k = x.k
        · exfalso
          obtain ⟨q1, q2, q3, q4, q5⟩ := hh
          apply h2
          have e : (lf x).p = x.p := Pt.ext' q1 q2 q3 q4
          generalize lf x = y at *
          obtain ⟨yp, yk⟩ := y
          obtain ⟨xp, xk⟩ := x
          dsimp only at *
          rw [e, q5]
        · simp only [t5]
          rw [Bool.eq_iff_iff]
          simp only [Bool.or_eq_true, Bool.not_eq_true', beq_eq_false_iff_ne]
          constructor
          · intro _; trivial
          · intro _
            rcases Classical.em ((lf x).p.a = x.p.a) with q1 | q1
            · rcases Classical.em ((lf x).p.b = x.p.b) with q2 | q2
              · rcases Classical.em ((lf x).p.c = x.p.c) with q3 | q3
                · rcases Classical.em ((lf x).p.d = x.p.d) with q4 | q4
                  · exact .inr (.inr (.inr (.inr (fun q5 => hh ⟨q1, q2, q3, q4, q5⟩))))
                  · exact .inr (.inr (.inr (.inl q4)))
                · exact .inr (.inr (.inl q3))
              · exact .inr (.inl q2)
            · exact .inl q1
      rw [if_pos hf, if_neg (fun h7 => h2 h7.2.1)]
      rfl
  · rw [if_neg h, if_neg (fun h7 => h h7.1)]
    rfl
def Ends (l : List UInt8) (r : Int × Int × Int × Int × Int × Int) : Prop := r = flatN (Nm.zero, 4) ∨ ∃ x, good x ∧ textB x = l ∧ r = flatN (x, 0)
theorem ends_any (l : List UInt8) (hl : l.length ≤ 1000000) : ∀ (d a : Nat) (P : Pt), a ≤ l.length → (l.drop a).length ≤ d →
    ∃ r, spoondriftref01_Parse.l0 (8 * d + (l.length + 110)) (bs l) a P.a P.b P.c P.d 0 = some r ∧ Ends l r := by
  intro d
  induction d with
  | zero =>
    intro a P ha hd
    have h0 : l.drop a = [] := List.length_eq_zero_iff.1 (by omega)
    have e : 8 * 0 + (l.length + 110) = (l.length + 107 + 1) + 2 := by omega
    rw [e, fin_eq _ l hl (by omega) a ha (by rw [h0]; intro b r h; cases h)]
    have := j10_eq (l.length + 107) (by omega) l ⟨P, (finK l a : Nat)⟩
    dsimp only at this
    refine ⟨_, this, ?_⟩
    split
    · rename_i h; exact .inr ⟨_, ⟨h.1, h.2.1⟩, h.2.2, rfl⟩
    · exact .inl rfl
  | succ d ih =>
    intro a P ha hd
    by_cases hf : ∀ b r, l.drop a = b :: r → b = 41
    · have e : 8 * (d + 1) + (l.length + 110) = ((8 * (d + 1) + l.length + 107) + 1) + 2 := by omega
      rw [e, fin_eq _ l hl (by omega) a ha hf]
      have := j10_eq (8 * (d + 1) + l.length + 107) (by omega) l ⟨P, (finK l a : Nat)⟩
      dsimp only at this
      refine ⟨_, this, ?_⟩
      split
      · rename_i h; exact .inr ⟨_, ⟨h.1, h.2.1⟩, h.2.2, rfl⟩
      · exact .inl rfl
    · obtain ⟨b, hf⟩ := Classical.not_forall.1 hf
      obtain ⟨r0, hf⟩ := Classical.not_forall.1 hf
      obtain ⟨hdr, hb⟩ := Classical.not_imp.1 hf
      have e : 8 * (d + 1) + (l.length + 110) = (8 * d + (l.length + 110)) + 8 := by omega
      rw [e, step_eq _ l hl (by omega) a b r0 hdr hb P 0]
      have hrl := rTerm_len (l.drop a)
      by_cases h0 : (rTerm (l.drop a)).2.2.length = (l.drop a).length
      · rw [if_pos h0]
        exact ⟨_, rfl, .inl rfl⟩
      · rw [if_neg h0]
        refine ih _ _ (by omega) ?_
        rw [List.length_drop]
        omega
end Go.Proofs.YtlglmooknlmomaaDoor
end
